/-
  TrimReached, the statement: for every input the call returns true and leaves the input alone.
-/
import Derived.Test.YtlloijkmpmfapaaTrimBaseM
import Derived.Test.YtlloijkmpmfapaaRows
set_option linter.unusedVariables false
set_option linter.unusedSimpArgs false
/-
  Loads that are known exactly: shear is how bending grows; a weaker frame is strained where the other is. Plain Lean.
-/
namespace Bal.Trim
def exactly (x : Load) : Load := ⟨x.alo, x.alo, x.wlo, x.wlo⟩
def exacts (xs : List Load) : List Load := xs.map exactly
def farB (n : Int) (xs : List Load) : Bool := xs.all fun x => decide (x.alo < n - 1)
theorem exacts_len (xs : List Load) : (exacts xs).length = xs.length := by simp [exacts]
theorem exactly_B {x : Load} (h : loadB x = true) : loadB (exactly x) = true := by
  have := loadB_bd h
  show (spanB x.alo x.alo 20000 && spanB x.wlo x.wlo 1073741824) = true
  simp only [spanB, Bool.and_eq_true, decide_eq_true_eq]
  omega
theorem exacts_ok {xs : List Load} (h : checkLoads xs = 0) : checkLoads (exacts xs) = 0 := by
  obtain ⟨h1, h2⟩ := checkLoads_ok h
  refine checkList_ok (by rw [exacts_len]; omega) ?_
  rw [List.all_eq_true]
  intro y hy
  obtain ⟨x, hx, rfl⟩ := List.mem_map.1 hy
  exact exactly_B (h2 x hx)
theorem exacts_take (xs : List Load) (k : Nat) (hk : k < xs.length) : exacts (xs.take (k + 1)) = exacts (xs.take k) ++ [exactly xs[k]] := by
  unfold exacts
  rw [List.take_succ_eq_append_getElem hk, List.map_append]
  rfl
theorem farB_take (n : Int) (xs : List Load) (k : Nat) (hk : k < xs.length) : farB n (xs.take (k + 1)) = (farB n (xs.take k) && decide (xs[k].alo < n - 1)) := by
  unfold farB
  rw [List.take_succ_eq_append_getElem hk, List.all_append]
  simp
theorem t_same (a c : Int) : tLo a a c c = a * c ∧ tHi a a c c = a * c := by unfold tLo tHi; omega
theorem sumBy_congr {α : Type} {g h : α → Int} (xs : List α) (e : ∀ x ∈ xs, g x = h x) : sumBy g xs = sumBy h xs := by
  induction xs with
  | nil => rfl
  | cons x xs ih => rw [sumBy_cons, sumBy_cons, e x (by simp), ih fun y hy => e y (by simp [hy])]
theorem sumBy_sub {α : Type} (g h : α → Int) (xs : List α) : sumBy (fun x => g x - h x) xs = sumBy g xs - sumBy h xs := by
  induction xs with
  | nil => rfl
  | cons x xs ih => rw [sumBy_cons, sumBy_cons, sumBy_cons, ih]; omega
theorem e_heavy (xs : List Load) : sumBy wHi (exacts xs) = sumBy wLo (exacts xs) := by
  unfold exacts
  rw [sumBy_map, sumBy_map]
  rfl
theorem e_shear (n : Int) (xs : List Load) : sumBy (sHi n) (exacts xs) = sumBy (sLo n) (exacts xs) := by
  unfold exacts
  rw [sumBy_map, sumBy_map]
  refine sumBy_congr _ fun x _ => ?_
  unfold sHi sLo exactly aLo aHi
  rw [(t_same _ _).1, (t_same _ _).2]
theorem e_bend (n : Int) (xs : List Load) : sumBy (bHi n) (exacts xs) = sumBy (bLo n) (exacts xs) := by
  unfold exacts
  rw [sumBy_map, sumBy_map]
  refine sumBy_congr _ fun x _ => ?_
  unfold bHi bLo exactly aLo aHi
  rw [(t_same _ _).1, (t_same _ _).2]
/-- shear is how bending grows -/
theorem e_grow (n : Int) (xs : List Load) : sumBy (bLo n) (exacts xs) - sumBy (bLo (n - 1)) (exacts xs) = sumBy (sLo n) (exacts xs) := by
  rw [← sumBy_sub]
  unfold exacts
  rw [sumBy_map, sumBy_map]
  refine sumBy_congr _ fun x _ => ?_
  unfold bLo sLo exactly aLo aHi
  simp only
  rw [(t_same _ _).1, (t_same _ _).1, (t_same _ _).1, ← Int.sub_mul]
  congr 1
  omega
/-- to the bow of all loads the shear is the heaviness -/
theorem e_far {n : Int} {xs : List Load} (h : farB n xs = true) : sumBy (sLo n) (exacts xs) = sumBy wLo (exacts xs) := by
  unfold farB at h
  rw [List.all_eq_true] at h
  unfold exacts
  rw [sumBy_map, sumBy_map]
  refine sumBy_congr _ fun x hx => ?_
  have := of_decide_eq_true (h x hx)
  unfold sLo exactly aLo aHi wLo
  simp only
  rw [(t_same _ _).1, show min (max (n - x.alo) 0) 1 = 1 by omega, Int.one_mul]
/-! ### A weaker frame -/
theorem span_less {lo hi m m' : Int} (h : m' ≤ m) (hs : spanB lo hi m' = true) : spanB lo hi m = true := by
  simp only [spanB, Bool.and_eq_true, decide_eq_true_eq] at *
  omega
theorem strain_weak {xs : List Load} {f g : Frm} (hp : g.pos = f.pos) (h1 : g.shear ≤ f.shear) (h2 : g.bend ≤ f.bend) (h : strain xs f = true) : strain xs g = true := by
  unfold strain at *
  rw [hp]
  cases hs : spanB (sumBy (sLo f.pos) xs) (sumBy (sHi f.pos) xs) g.shear
  · rfl
  · cases hb : spanB (sumBy (bLo f.pos) xs) (sumBy (bHi f.pos) xs) g.bend
    · rfl
    · rw [span_less h1 hs, span_less h2 hb] at h
      exact h
theorem strained_two {xs : List Load} {f g : Frm} (hw : strain xs f = true → strain xs g = true) : strainedTo xs [f, g] 2 = [] ∨ strainedTo xs [f, g] 2 = [1] ∨ strainedTo xs [f, g] 2 = [0, 1] := by
  cases hf : strain xs f
  · cases hg : strain xs g
    · left; simp [strainedTo, hf, hg]
    · right; left; simp [strainedTo, hf, hg]
  · right; right
    simp [strainedTo, hf, hw hf]
theorem weak_B {f : Frm} (h : frameB f = true) {l : Int} (hl : 0 ≤ l) : frameB ⟨f.pos, max (f.shear - l) 0, max (f.bend - l) 0⟩ = true := by
  simp only [frameB, inB, Bool.and_eq_true, decide_eq_true_eq] at *
  omega
end Bal.Trim

/-
  The ends that TrimReached builds: corner by corner, four numbers a corner. Plain Lean.
-/
namespace Bal.Trim
def cA (n p : Int) : Int := if p < n then 1 else 0
/-- the four numbers of a weight at a place: heaviness, moment, shear, bending -/
def num (n p w : Int) : Nat → Int
  | 0 => w
  | 1 => w * p
  | 2 => w * cA n p
  | _ => w * cA n p * (n - p)
/-- the least of them after some corners -/
def ls (n : Int) (x : Load) : Nat → Nat → Int
  | 0, _ => 0
  | 1, k => num n x.alo x.wlo k
  | 2, k => min (num n x.alo x.wlo k) (num n x.alo x.whi k)
  | 3, k => min (min (num n x.alo x.wlo k) (num n x.alo x.whi k)) (num n x.ahi x.wlo k)
  | _, k => min (min (min (num n x.alo x.wlo k) (num n x.alo x.whi k)) (num n x.ahi x.wlo k)) (num n x.ahi x.whi k)
def ms (n : Int) (x : Load) : Nat → Nat → Int
  | 0, _ => 0
  | 1, k => num n x.alo x.wlo k
  | 2, k => max (num n x.alo x.wlo k) (num n x.alo x.whi k)
  | 3, k => max (max (num n x.alo x.wlo k) (num n x.alo x.whi k)) (num n x.ahi x.wlo k)
  | _, k => max (max (max (num n x.alo x.wlo k) (num n x.alo x.whi k)) (num n x.ahi x.wlo k)) (num n x.ahi x.whi k)
theorem cA_lo (x : Load) (n : Int) : cA n x.ahi = min (aLo x n) 1 := by unfold cA aLo; split <;> omega
theorem cA_hi (x : Load) (n : Int) : cA n x.alo = min (aHi x n) 1 := by unfold cA aHi; split <;> omega
theorem cA_far (n p : Int) : cA n p * (n - p) = max (n - p) 0 := by
  unfold cA
  split
  · rw [Int.one_mul]; omega
  · rw [Int.zero_mul]; omega
theorem ls_heavy {x : Load} (h : loadB x = true) (n : Int) : ls n x 4 0 = wLo x ∧ ms n x 4 0 = wHi x := by
  have := loadB_bd h
  simp only [ls, ms, num, wLo, wHi]
  omega
theorem ls_moment (n : Int) (x : Load) : ls n x 4 1 = mLo x ∧ ms n x 4 1 = mHi x := by
  simp only [ls, ms, num, mLo, mHi, tLo, tHi]
  rw [Int.mul_comm x.wlo x.alo, Int.mul_comm x.whi x.alo, Int.mul_comm x.wlo x.ahi, Int.mul_comm x.whi x.ahi]
  exact ⟨rfl, rfl⟩
theorem ls_shear (n : Int) (x : Load) : ls n x 4 2 = sLo n x ∧ ms n x 4 2 = sHi n x := by
  simp only [ls, ms, num, sLo, sHi, tLo, tHi]
  rw [cA_lo, cA_hi, Int.mul_comm x.wlo, Int.mul_comm x.whi, Int.mul_comm x.wlo, Int.mul_comm x.whi]
  omega
theorem num_far (n p w : Int) : num n p w 3 = max (n - p) 0 * w := by
  show w * cA n p * (n - p) = _
  rw [Int.mul_assoc, cA_far, Int.mul_comm]
theorem ls_bend (n : Int) (x : Load) : ls n x 4 3 = bLo n x ∧ ms n x 4 3 = bHi n x := by
  simp only [ls, ms, num_far, bLo, bHi, tLo, tHi, aLo, aHi]
  omega
theorem cA_bd (n p : Int) : 0 ≤ cA n p ∧ cA n p ≤ 1 := by unfold cA; split <;> omega
/-- how far the four numbers of a corner reach -/
theorem num_bd {n p w : Int} (hn : -20000 ≤ n ∧ n ≤ 20000) (hp : -20000 ≤ p ∧ p ≤ 20000) (hw : -1073741824 ≤ w ∧ w ≤ 1073741824) (k : Nat) :
    -50000000000000 ≤ num n p w k ∧ num n p w k ≤ 50000000000000 := by
  match k with
  | 0 => simp only [num]; omega
  | 1 => have := mul_bd (A := 1073741824) (B := 20000) hw.1 hw.2 hp.1 hp.2; simp only [num]; omega
  | 2 => have := mul_bd (A := 1073741824) (B := 1) hw.1 hw.2 (by have := cA_bd n p; omega) (cA_bd n p).2; simp only [num]; omega
  | k + 3 =>
    show _ ≤ w * cA n p * (n - p) ∧ w * cA n p * (n - p) ≤ _
    rw [Int.mul_assoc, cA_far]
    have := mul_bd (A := 1073741824) (B := 40000) (y := max (n - p) 0) hw.1 hw.2 (by omega) (by omega)
    omega
theorem ls_bd {n : Int} {x : Load} (h : loadB x = true) (hn : -20000 ≤ n ∧ n ≤ 20000) (k : Nat) :
    (-50000000000000 ≤ ls n x 4 k ∧ ls n x 4 k ≤ 50000000000000) ∧ (-50000000000000 ≤ ms n x 4 k ∧ ms n x 4 k ≤ 50000000000000) := by
  have b := loadB_bd h
  have h1 := num_bd (p := x.alo) (w := x.wlo) hn (by omega) (by omega) k
  have h2 := num_bd (p := x.alo) (w := x.whi) hn (by omega) (by omega) k
  have h3 := num_bd (p := x.ahi) (w := x.wlo) hn (by omega) (by omega) k
  have h4 := num_bd (p := x.ahi) (w := x.whi) hn (by omega) (by omega) k
  simp only [ls, ms]
  omega
/-- the sums over the loads so far -/
def lsum (n : Int) (xs : List Load) (k : Nat) : Int := sumBy (fun x => ls n x 4 k) xs
def msum (n : Int) (xs : List Load) (k : Nat) : Int := sumBy (fun x => ms n x 4 k) xs
theorem lsum_take (n : Int) (xs : List Load) (m : Nat) (hm : m < xs.length) (k : Nat) :
    lsum n (xs.take (m + 1)) k = lsum n (xs.take m) k + ls n xs[m] 4 k ∧ msum n (xs.take (m + 1)) k = msum n (xs.take m) k + ms n xs[m] 4 k :=
  ⟨sumBy_take _ _ _ hm, sumBy_take _ _ _ hm⟩
theorem lsum_bd {n : Int} {xs : List Load} (h : ∀ x ∈ xs, loadB x = true) (hn : -20000 ≤ n ∧ n ≤ 20000) (hl : xs.length ≤ 40) (k m : Nat) :
    (-2000000000000000 ≤ lsum n (xs.take m) k ∧ lsum n (xs.take m) k ≤ 2000000000000000) ∧ (-2000000000000000 ≤ msum n (xs.take m) k ∧ msum n (xs.take m) k ≤ 2000000000000000) :=
  ⟨sumBy_take_bd _ 50000000000000 2000000000000000 xs 40 hl (by omega) (by omega) (fun x hx => (ls_bd (h x hx) hn k).1) m,
   sumBy_take_bd _ 50000000000000 2000000000000000 xs 40 hl (by omega) (by omega) (fun x hx => (ls_bd (h x hx) hn k).2) m⟩
theorem lsum_law {xs : List Load} (h : ∀ x ∈ xs, loadB x = true) (n : Int) :
    (lsum n xs 0 = sumBy wLo xs ∧ msum n xs 0 = sumBy wHi xs) ∧ (lsum n xs 1 = sumBy mLo xs ∧ msum n xs 1 = sumBy mHi xs) ∧
    (lsum n xs 2 = sumBy (sLo n) xs ∧ msum n xs 2 = sumBy (sHi n) xs) ∧ (lsum n xs 3 = sumBy (bLo n) xs ∧ msum n xs 3 = sumBy (bHi n) xs) :=
  ⟨⟨sumBy_congr _ fun x hx => (ls_heavy (h x hx) n).1, sumBy_congr _ fun x hx => (ls_heavy (h x hx) n).2⟩, ⟨sumBy_congr _ fun x _ => (ls_moment n x).1, sumBy_congr _ fun x _ => (ls_moment n x).2⟩,
   ⟨sumBy_congr _ fun x _ => (ls_shear n x).1, sumBy_congr _ fun x _ => (ls_shear n x).2⟩, ⟨sumBy_congr _ fun x _ => (ls_bend n x).1, sumBy_congr _ fun x _ => (ls_bend n x).2⟩⟩
end Bal.Trim

/-
  TrimReached: the ends are those of choices: for every input.
-/
namespace Go.Proofs.Ytlloijkmpmfapaa
open Go.RowKit Bal Bal.Trim
set_option linter.unusedVariables false
set_option linter.unusedSimpArgs false
set_option maxHeartbeats 4000000
set_option maxRecDepth 10000
attribute [local go_sem] ite_max ite_min

/-- four cells, the first of them new -/
def mk4 (o v : Nat → Int) : Nat → Array Value
  | 0 => #[.int .i64 (o 0), .int .i64 (o 1), .int .i64 (o 2), .int .i64 (o 3)]
  | 1 => #[.int .i64 (v 0), .int .i64 (o 1), .int .i64 (o 2), .int .i64 (o 3)]
  | 2 => #[.int .i64 (v 0), .int .i64 (v 1), .int .i64 (o 2), .int .i64 (o 3)]
  | 3 => #[.int .i64 (v 0), .int .i64 (v 1), .int .i64 (v 2), .int .i64 (o 3)]
  | _ => #[.int .i64 (v 0), .int .i64 (v 1), .int .i64 (v 2), .int .i64 (v 3)]

set_option maxHeartbeats 16000000 in
theorem law_TrimReached (a0 : Option Addr) (c0 : Nat) (xs : List Load) (n : Int) (w : World) (h0 : Row Load.cells 4 w.heap.size w a0 xs) (hl0 : xs.length ≤ c0) (hm0 : c0 ≤ maxLen) :
    Calls Try.prog 11 #[.slice a0 xs.length c0, .int .i64 n] w fun e w' => e = .returned (.bool true) ∧ Kept w w' := by
  have hm0' := hm0
  unfold maxLen at hm0'
  cases hv : validB xs []
  · have HV := Lib.hid hv
    clear hv
    go_enter Try.func11, Try.ntmps11
    go_wp2_with (first | (go_at_call 48; (with_reducible refine (o_alive _).mono ?_); rintro e wA ⟨rfl, hbA⟩) | (go_at_call 49; (with_reducible refine (o_validZ a0 c0 xs _ (h0.later (by (exact kpt)) (Nat.le_refl _)) hl0 hm0 false HV.out).mono ?_); rintro e wV ⟨rfl, hbV⟩))
    go_ret; exact ⟨rfl, by (exact kpt)⟩
  · have HV := Lib.hid hv
    by_cases hn1 : n < -20000
    · as_aux_lemma =>
      clear hv
      go_enter Try.func11, Try.ntmps11
      go_wp2_with (first | (go_at_call 48; (with_reducible refine (o_alive _).mono ?_); rintro e wA ⟨rfl, hbA⟩) | (go_at_call 49; (with_reducible refine (o_validZ a0 c0 xs _ (h0.later (by (exact kpt)) (Nat.le_refl _)) hl0 hm0 true HV.out).mono ?_); rintro e wV ⟨rfl, hbV⟩))
      go_ret; exact ⟨rfl, by (exact kpt)⟩
    by_cases hn2 : 20000 < n
    · as_aux_lemma =>
      clear hv
      go_enter Try.func11, Try.ntmps11
      go_wp2_with (first | (go_at_call 48; (with_reducible refine (o_alive _).mono ?_); rintro e wA ⟨rfl, hbA⟩) | (go_at_call 49; (with_reducible refine (o_validZ a0 c0 xs _ (h0.later (by (exact kpt)) (Nat.le_refl _)) hl0 hm0 true HV.out).mono ?_); rintro e wV ⟨rfl, hbV⟩))
      go_ret; exact ⟨rfl, by (exact kpt)⟩
    obtain ⟨k1, _⟩ := validB_ok hv
    obtain ⟨hn, hx⟩ := checkLoads_ok k1
    have hnb : -20000 ≤ n ∧ n ≤ 20000 := by omega
    have hin : inB n (-20000) 20000 = true := by simp [inB]; omega
    have HSE := Lib.hid (show strainE xs n = 0 by unfold strainE; rw [if_pos k1, hin]; rfl)
    have hlw := lsum_law hx n
    obtain ⟨l1, hl1'⟩ : ∃ l, sumBy wLo xs = l := ⟨_, rfl⟩
    obtain ⟨l2, hl2'⟩ : ∃ l, sumBy wHi xs = l := ⟨_, rfl⟩
    obtain ⟨m1, hm1'⟩ : ∃ l, sumBy mLo xs = l := ⟨_, rfl⟩
    obtain ⟨m2, hm2'⟩ : ∃ l, sumBy mHi xs = l := ⟨_, rfl⟩
    obtain ⟨s1, hs1⟩ : ∃ s, sumBy (sLo n) xs = s := ⟨_, rfl⟩
    obtain ⟨s2, hs2⟩ : ∃ s, sumBy (sHi n) xs = s := ⟨_, rfl⟩
    obtain ⟨d1, hd1⟩ : ∃ s, sumBy (bLo n) xs = s := ⟨_, rfl⟩
    obtain ⟨d2, hd2⟩ : ∃ s, sumBy (bHi n) xs = s := ⟨_, rfl⟩
    rw [hl1', hl2', hm1', hm2', hs1, hs2, hd1, hd2] at hlw
    have HLW := Lib.hid hlw
    have HE0 := Lib.hid k1
    have HX := Lib.hid hx
    have HB1 := Lib.hid hl1'
    have HB2 := Lib.hid hl2'
    have HB3 := Lib.hid hm1'
    have HB4 := Lib.hid hm2'
    have HS1 := Lib.hid (show ifOk 0 (sumBy (sLo n) xs) = s1 from hs1)
    have HS2 := Lib.hid (show ifOk 0 (sumBy (sHi n) xs) = s2 from hs2)
    have HD1 := Lib.hid (show ifOk 0 (sumBy (bLo n) xs) = d1 from hd1)
    have HD2 := Lib.hid (show ifOk 0 (sumBy (bHi n) xs) = d2 from hd2)
    have HBD := Lib.hid (fun k m => lsum_bd hx hnb hn k m)
    clear hl1' hl2' hm1' hm2' hs1 hs2 hd1 hd2 hlw hin k1 hv hx
    go_enter Try.func11, Try.ntmps11
    go_upto_region 7 with (first | (go_at_call 48; (with_reducible refine (o_alive _).mono ?_); rintro e wA ⟨rfl, hbA⟩) | (go_at_call 49; (with_reducible refine (o_validZ a0 c0 xs _ (h0.later (by (exact kpt)) (Nat.le_refl _)) hl0 hm0 true HV.out).mono ?_); rintro e wV ⟨rfl, hbV⟩) | (go_at_call 31; (with_reducible refine (o_balance a0 c0 xs _ (h0.later (by (exact kpt)) (Nat.le_refl _)) hl0 hm0 HE0.out l1 l2 m1 m2 HB1.out HB2.out HB3.out HB4.out).mono ?_); rintro e wB ⟨rfl, hbB⟩))
    refine at_world (S := fun W1 => Blk W1 wB.heap.size #[.int .i64 l1, .int .i64 l2] 49 ∧ Blk W1 (wB.heap.size + 1) #[.int .i64 m1, .int .i64 m2] 49 ∧ Kept w W1) ⟨by (exact blkc), by (exact blkc), by (exact kpt)⟩ ?_
    obtain ⟨n1, hn1⟩ : ∃ n, n = wB.heap.size := ⟨_, rfl⟩
    rw [← hn1]
    clear hn1
    rintro W1 ⟨q1, q2, hk⟩
    go_upto_region 8 with (go_at_call 35; (with_reducible refine (o_shear n a0 c0 xs _ (h0.later (by (exact kpt)) (Nat.le_refl _)) hl0 hm0 s1 s2 0 HSE.out HS1.out HS2.out).mono ?_); rintro e wS ⟨rfl, hbS⟩)
    refine at_world (S := fun W2 => Blk W2 n1 #[.int .i64 l1, .int .i64 l2] 49 ∧ Blk W2 (n1 + 1) #[.int .i64 m1, .int .i64 m2] 49 ∧ Blk W2 wS.heap.size #[.int .i64 s1, .int .i64 s2] 49 ∧ Kept w W2) ⟨by (exact blk), by (exact blk), by (exact blkc), by (exact kpt)⟩ ?_
    obtain ⟨n2, hn2⟩ : ∃ n, n = wS.heap.size := ⟨_, rfl⟩
    rw [← hn2]
    clear q1 q2 hk hn2
    rintro W2 ⟨q1, q2, q3, hk⟩
    go_upto_region 9 with (go_at_call 37; (with_reducible refine (o_bend n a0 c0 xs _ (h0.later (by (exact kpt)) (Nat.le_refl _)) hl0 hm0 d1 d2 0 HSE.out HD1.out HD2.out).mono ?_); rintro e wD ⟨rfl, hbD⟩)
    refine at_world (S := fun W3 => Blk W3 n1 #[.int .i64 l1, .int .i64 l2] 49 ∧ Blk W3 (n1 + 1) #[.int .i64 m1, .int .i64 m2] 49 ∧ Blk W3 n2 #[.int .i64 s1, .int .i64 s2] 49 ∧ Blk W3 wD.heap.size #[.int .i64 d1, .int .i64 d2] 49 ∧ Kept w W3) ⟨by (exact blk), by (exact blk), by (exact blk), by (exact blkc), by (exact kpt)⟩ ?_
    obtain ⟨n3, hn3⟩ : ∃ n, n = wD.heap.size := ⟨_, rfl⟩
    rw [← hn3]
    clear q1 q2 q3 hk hn3
    rintro W3 ⟨q1, q2, q3, q4, hk⟩
    go_upto_region 11 with fail
    refine at_world (S := fun W4 => Blk W4 n1 #[.int .i64 l1, .int .i64 l2] 49 ∧ Blk W4 (n1 + 1) #[.int .i64 m1, .int .i64 m2] 49 ∧ Blk W4 n2 #[.int .i64 s1, .int .i64 s2] 49 ∧ Blk W4 n3 #[.int .i64 d1, .int .i64 d2] 49 ∧ Kept w W4) ⟨by (exact blk), by (exact blk), by (exact blk), by (exact blk), by (exact kpt)⟩ ?_
    clear q1 q2 q3 q4 hk
    rintro W4 ⟨q1, q2, q3, q4, hk⟩
    have e1 := q1.lt
    have e2 := q2.lt
    have e3 := q3.lt
    have e4 := q4.lt
    have hz := hk.size
    go_upto_region 12 with fail
    refine at_world (S := fun V => Blk V W4.heap.size #[.int .i64 0, .int .i64 0, .int .i64 0, .int .i64 0] 96 ∧ Blk V (W4.heap.size + 1) #[.int .i64 0, .int .i64 0, .int .i64 0, .int .i64 0] 96 ∧ Blk V n1 #[.int .i64 l1, .int .i64 l2] 49 ∧ Blk V (n1 + 1) #[.int .i64 m1, .int .i64 m2] 49 ∧ Blk V n2 #[.int .i64 s1, .int .i64 s2] 49 ∧ Blk V n3 #[.int .i64 d1, .int .i64 d2] 49 ∧ Kept w V) ⟨by (exact blkc), by (exact blkc), by (exact blk), by (exact blk), by (exact blk), by (exact blk), by (exact kpt)⟩ ?_
    obtain ⟨nL, hnL⟩ : ∃ b, b = W4.heap.size := ⟨_, rfl⟩
    rw [← hnL] at e1 e2 e3 e4 hz ⊢
    clear hnL q1 q2 q3 q4 hk
    rintro W5 ⟨bL, bH, q1, q2, q3, q4, hk⟩
    go_wp2
    go_loopw [72] (fun i wr => ∃ m : Nat, m ≤ xs.length ∧ i = .int .i64 m ∧ Blk wr nL #[.int .i64 (lsum n (xs.take m) 0), .int .i64 (lsum n (xs.take m) 1), .int .i64 (lsum n (xs.take m) 2), .int .i64 (lsum n (xs.take m) 3)] 96 ∧ Blk wr (nL + 1) #[.int .i64 (msum n (xs.take m) 0), .int .i64 (msum n (xs.take m) 1), .int .i64 (msum n (xs.take m) 2), .int .i64 (msum n (xs.take m) 3)] 96 ∧ Blk wr n1 #[.int .i64 l1, .int .i64 l2] 49 ∧ Blk wr (n1 + 1) #[.int .i64 m1, .int .i64 m2] 49 ∧ Blk wr n2 #[.int .i64 s1, .int .i64 s2] 49 ∧ Blk wr n3 #[.int .i64 d1, .int .i64 d2] 49 ∧ Kept w wr) (fun i _ => xs.length - (intOf i).toNat)
    case atStart => exact ⟨0, Nat.zero_le _, rfl, bL, bH, q1, q2, q3, q4, hk⟩
    case round =>
      clear bL bH q1 q2 q3 q4 hk
      obtain ⟨m, hm, rfl, bL, bH, q1, q2, q3, q4, hk⟩ := hrel
      by_cases hlt : m < xs.length
      · obtain ⟨bb, off, rfl, hbb, g0, g1, g2, g3⟩ := Load.row (h0.later hk (Nat.le_refl _)) m hlt
        have hxm := HX.out _ (List.getElem_mem hlt)
        have hlt' := fun k => lsum_take n xs m hlt k
        have hub : ∀ k, IntKind.i64.wrap (lsum n (xs.take m) k + ls n xs[m] 4 k) = lsum n (xs.take m) k + ls n xs[m] 4 k := fun k => by
          have := (HBD.out k (m + 1)).1
          rw [(hlt' k).1] at this
          rw [IntKind.wrap_i64]; omega
        have hub2 : ∀ k, IntKind.i64.wrap (msum n (xs.take m) k + ms n xs[m] 4 k) = msum n (xs.take m) k + ms n xs[m] 4 k := fun k => by
          have := (HBD.out k (m + 1)).2
          rw [(hlt' k).2] at this
          rw [IntKind.wrap_i64]; omega
        obtain ⟨x, hx0⟩ : ∃ x, x = xs[m] := ⟨_, rfl⟩
        rw [← hx0] at hlt' hub hub2 g0 g1 g2 g3 hxm
        clear hx0
        obtain ⟨F, hF⟩ : ∃ F, F = lsum n (xs.take m) := ⟨_, rfl⟩
        obtain ⟨G, hG⟩ : ∃ F, F = msum n (xs.take m) := ⟨_, rfl⟩
        rw [← hF] at hub bL
        rw [← hG] at hub2 bH
        have HLT := Lib.hid (show ∀ k, lsum n (xs.take (m + 1)) k = F k + ls n x 4 k ∧ msum n (xs.take (m + 1)) k = G k + ms n x 4 k by rw [hF, hG]; exact hlt')
        have HU := Lib.hid hub
        have HU2 := Lib.hid hub2
        have xb := loadB_bd hxm
        have e5 := bH.lt
        have hz5 := hk.size
        have j0 : (0 : Int) ≤ (m : Int) := by omega
        have j1 : (m : Int) < (xs.length : Int) := by omega
        clear hlt' hub hub2 hF hG hxm
        go_upto_region 16 with fail
        refine at_world (S := fun V => Blk V (wr.heap.size + 1) #[.int .i64 (ls n x 0 0), .int .i64 (ls n x 0 1), .int .i64 (ls n x 0 2), .int .i64 (ls n x 0 3)] 96 ∧ Blk V (wr.heap.size + 1 + 1) #[.int .i64 (ms n x 0 0), .int .i64 (ms n x 0 1), .int .i64 (ms n x 0 2), .int .i64 (ms n x 0 3)] 96 ∧ Blk V wr.heap.size #[.int .i64 x.alo, .int .i64 x.ahi, .int .i64 x.wlo, .int .i64 x.whi] 88 ∧ Blk V nL #[.int .i64 (F 0), .int .i64 (F 1), .int .i64 (F 2), .int .i64 (F 3)] 96 ∧ Blk V (nL + 1) #[.int .i64 (G 0), .int .i64 (G 1), .int .i64 (G 2), .int .i64 (G 3)] 96 ∧ Blk V n1 #[.int .i64 l1, .int .i64 l2] 49 ∧ Blk V (n1 + 1) #[.int .i64 m1, .int .i64 m2] 49 ∧ Blk V n2 #[.int .i64 s1, .int .i64 s2] 49 ∧ Blk V n3 #[.int .i64 d1, .int .i64 d2] 49 ∧ Kept w V) ⟨by (exact blkc), by (exact blkc), by (exact blkc), by (exact blk), by (exact blk), by (exact blk), by (exact blk), by (exact blk), by (exact blk), by (exact kpt)⟩ ?_
        obtain ⟨b, hb⟩ : ∃ b, b = wr.heap.size := ⟨_, rfl⟩
        rw [← hb] at e5 ⊢
        clear hb hbb g0 g1 g2 g3 bL bH q1 q2 q3 q4 hk
        rintro V ⟨rl, rm, rx, bL, bH, q1, q2, q3, q4, hk⟩
        have e6 := rm.lt
        have rxc0 := rx.cell 0
        have rxf0 := rx.free 0
        have rxc1 := rx.cell 1
        have rxf1 := rx.free 1
        have rxc2 := rx.cell 2
        have rxf2 := rx.free 2
        have rxc3 := rx.cell 3
        have rxf3 := rx.free 3
        have rxl := rx.lt
        simp at rxc0 rxc1 rxc2 rxc3
        go_wp2
        go_loopw [84] (fun i wi => ∃ (c : Nat) (ci : Int), c ≤ 2 ∧ ci = c ∧ i = .int .i64 ci ∧ Blk wi (b + 1) #[.int .i64 (ls n x (2 * c) 0), .int .i64 (ls n x (2 * c) 1), .int .i64 (ls n x (2 * c) 2), .int .i64 (ls n x (2 * c) 3)] 96 ∧ Blk wi (b + 1 + 1) #[.int .i64 (ms n x (2 * c) 0), .int .i64 (ms n x (2 * c) 1), .int .i64 (ms n x (2 * c) 2), .int .i64 (ms n x (2 * c) 3)] 96 ∧ Blk wi b #[.int .i64 x.alo, .int .i64 x.ahi, .int .i64 x.wlo, .int .i64 x.whi] 88 ∧ Blk wi V.heap.size #[.int .i64 x.alo, .int .i64 x.ahi] 3 ∧ Blk wi nL #[.int .i64 (F 0), .int .i64 (F 1), .int .i64 (F 2), .int .i64 (F 3)] 96 ∧ Blk wi (nL + 1) #[.int .i64 (G 0), .int .i64 (G 1), .int .i64 (G 2), .int .i64 (G 3)] 96 ∧ Blk wi n1 #[.int .i64 l1, .int .i64 l2] 49 ∧ Blk wi (n1 + 1) #[.int .i64 m1, .int .i64 m2] 49 ∧ Blk wi n2 #[.int .i64 s1, .int .i64 s2] 49 ∧ Blk wi n3 #[.int .i64 d1, .int .i64 d2] 49 ∧ Kept w wi) (fun i _ => 2 - (intOf i).toNat)
        case atStart => exact ⟨0, 0, by omega, rfl, rfl, by (exact blk), by (exact blk), by (exact blk), by (exact blkc), by (exact blk), by (exact blk), by (exact blk), by (exact blk), by (exact blk), by (exact blk), by (exact kpt)⟩
        case round =>
          rename World => wi
          clear rl rm rx bL bH q1 q2 q3 q4 hk rxc0 rxf0 rxc1 rxf1 rxc2 rxf2 rxc3 rxf3 rxl
          obtain ⟨c, ci, hc, hci, rfl, rl, rm, rx, rp, bL, bH, q1, q2, q3, q4, hk⟩ := hrel
          have e7 := rp.lt
          rcases (by omega : c = 0 ∨ c = 1 ∨ c = 2) with rfl | rfl | rfl
          · obtain rfl : ci = 0 := by omega
            clear hci
            have rpc0 := rp.cell 0
            have rpf0 := rp.free 0
            have rpc1 := rp.cell 1
            have rpf1 := rp.free 1
            have rpl := rp.lt
            simp at rpc0 rpc1
            have rxc0 := rx.cell 0
            have rxf0 := rx.free 0
            have rxc1 := rx.cell 1
            have rxf1 := rx.free 1
            have rxc2 := rx.cell 2
            have rxf2 := rx.free 2
            have rxc3 := rx.cell 3
            have rxf3 := rx.free 3
            have rxl := rx.lt
            simp at rxc0 rxc1 rxc2 rxc3
            go_wp2
            go_loopw [97] (fun i wj => ∃ d : Nat, d ≤ 2 ∧ i = .int .i64 d ∧ Blk wj wi.heap.size #[.int .i64 x.wlo, .int .i64 x.whi] 3 ∧ Blk wj (b + 1) #[.int .i64 (ls n x (0 + d) 0), .int .i64 (ls n x (0 + d) 1), .int .i64 (ls n x (0 + d) 2), .int .i64 (ls n x (0 + d) 3)] 96 ∧ Blk wj (b + 1 + 1) #[.int .i64 (ms n x (0 + d) 0), .int .i64 (ms n x (0 + d) 1), .int .i64 (ms n x (0 + d) 2), .int .i64 (ms n x (0 + d) 3)] 96 ∧ Blk wj b #[.int .i64 x.alo, .int .i64 x.ahi, .int .i64 x.wlo, .int .i64 x.whi] 88 ∧ Blk wj V.heap.size #[.int .i64 x.alo, .int .i64 x.ahi] 3 ∧ Blk wj nL #[.int .i64 (F 0), .int .i64 (F 1), .int .i64 (F 2), .int .i64 (F 3)] 96 ∧ Blk wj (nL + 1) #[.int .i64 (G 0), .int .i64 (G 1), .int .i64 (G 2), .int .i64 (G 3)] 96 ∧ Blk wj n1 #[.int .i64 l1, .int .i64 l2] 49 ∧ Blk wj (n1 + 1) #[.int .i64 m1, .int .i64 m2] 49 ∧ Blk wj n2 #[.int .i64 s1, .int .i64 s2] 49 ∧ Blk wj n3 #[.int .i64 d1, .int .i64 d2] 49 ∧ Kept w wj) (fun i _ => 2 - (intOf i).toNat)
            case atStart => exact ⟨0, by omega, rfl, by (exact blkc), by (exact blk), by (exact blk), by (exact blk), by (exact blk), by (exact blk), by (exact blk), by (exact blk), by (exact blk), by (exact blk), by (exact blk), by (exact kpt)⟩
            case round =>
              rename World => wj
              clear rpc0 rpf0 rpc1 rpf1 rpl rxc0 rxf0 rxc1 rxf1 rxc2 rxf2 rxc3 rxf3 rxl
              clear rl rm rx rp bL bH q1 q2 q3 q4 hk
              obtain ⟨d, hd, rfl, rt, rl, rm, rx, rp, bL, bH, q1, q2, q3, q4, hk⟩ := hrel
              have e8 := rt.lt
              rcases (by omega : d = 0 ∨ d = 1 ∨ d = 2) with rfl | rfl | rfl
              · replace rl : Blk wj (b + 1) #[.int .i64 (ls n x 0 0), .int .i64 (ls n x 0 1), .int .i64 (ls n x 0 2), .int .i64 (ls n x 0 3)] 96 := rl
                replace rm : Blk wj (b + 1 + 1) #[.int .i64 (ms n x 0 0), .int .i64 (ms n x 0 1), .int .i64 (ms n x 0 2), .int .i64 (ms n x 0 3)] 96 := rm
                have rtc0 := rt.cell 0
                have rtf0 := rt.free 0
                have rtc1 := rt.cell 1
                have rtf1 := rt.free 1
                have rtl := rt.lt
                simp at rtc0 rtc1
                have t1 := num_bd (n := n) (p := x.alo) (w := x.wlo) hnb (by omega) (by omega) 1
                have t3 := num_bd (n := n) (p := x.alo) (w := x.wlo) hnb (by omega) (by omega) 3
                have u1 : IntKind.i64.wrap (x.wlo * x.alo) = x.wlo * x.alo := by simp only [num] at t1; rw [IntKind.wrap_i64]; omega
                have u2 : IntKind.i64.wrap (n - x.alo) = n - x.alo := by rw [IntKind.wrap_i64]; omega
                have u3 : IntKind.i64.wrap x.wlo = x.wlo := by rw [IntKind.wrap_i64]; omega
                by_cases hp : x.alo < n
                · have HP := Lib.hid (show cA n x.alo = 1 by unfold cA; rw [if_pos hp])
                  have u4 : IntKind.i64.wrap (x.wlo * (n - x.alo)) = x.wlo * (n - x.alo) := by simp only [num, cA, if_pos hp, Int.mul_one] at t3; rw [IntKind.wrap_i64]; omega
                  clear t1 t3
                  go_wp2
                  go_loopw [121] (fun i wk => ∃ e : Nat, e ≤ 4 ∧ i = .int .i64 e ∧ Blk wk wj.heap.size #[.int .i64 (num n x.alo x.wlo 0), .int .i64 (num n x.alo x.wlo 1), .int .i64 (num n x.alo x.wlo 2), .int .i64 (num n x.alo x.wlo 3)] 3 ∧ Blk wk wi.heap.size #[.int .i64 x.wlo, .int .i64 x.whi] 3 ∧ Blk wk (b + 1) (mk4 (ls n x 0) (ls n x 1) e) 96 ∧ Blk wk (b + 1 + 1) (mk4 (ms n x 0) (ms n x 1) e) 96 ∧ Blk wk b #[.int .i64 x.alo, .int .i64 x.ahi, .int .i64 x.wlo, .int .i64 x.whi] 88 ∧ Blk wk V.heap.size #[.int .i64 x.alo, .int .i64 x.ahi] 3 ∧ Blk wk nL #[.int .i64 (F 0), .int .i64 (F 1), .int .i64 (F 2), .int .i64 (F 3)] 96 ∧ Blk wk (nL + 1) #[.int .i64 (G 0), .int .i64 (G 1), .int .i64 (G 2), .int .i64 (G 3)] 96 ∧ Blk wk n1 #[.int .i64 l1, .int .i64 l2] 49 ∧ Blk wk (n1 + 1) #[.int .i64 m1, .int .i64 m2] 49 ∧ Blk wk n2 #[.int .i64 s1, .int .i64 s2] 49 ∧ Blk wk n3 #[.int .i64 d1, .int .i64 d2] 49 ∧ Kept w wk) (fun i _ => 4 - (intOf i).toNat)
                  case atStart => exact ⟨0, by omega, rfl, by (refine Blk.cast (arr := ?_) ?_ ?_; rotate_left 1; (focus (exact blk)); (first | rfl | (simp; done) | (simp [num, HP.out]; done))), by (exact blk), show Blk _ _ #[.int .i64 (ls n x 0 0), .int .i64 (ls n x 0 1), .int .i64 (ls n x 0 2), .int .i64 (ls n x 0 3)] _ from by (exact blk), show Blk _ _ #[.int .i64 (ms n x 0 0), .int .i64 (ms n x 0 1), .int .i64 (ms n x 0 2), .int .i64 (ms n x 0 3)] _ from by (exact blk), by (exact blk), by (exact blk), by (exact blk), by (exact blk), by (exact blk), by (exact blk), by (exact blk), by (exact blk), by (exact kpt)⟩
                  case round =>
                    rename World => wk
                    clear rt rl rm rx rp bL bH q1 q2 q3 q4 hk
                    obtain ⟨e, he, rfl, rn, rt, rl, rm, rx, rp, bL, bH, q1, q2, q3, q4, hk⟩ := hrel
                    have e9 := rn.lt
                    rcases (by omega : e = 0 ∨ e = 1 ∨ e = 2 ∨ e = 3 ∨ e = 4) with rfl | rfl | rfl | rfl | rfl
                    · as_aux_lemma =>
                      simp only [mk4] at rl rm
                      have rnc0 := rn.cell 0
                      have rnf0 := rn.free 0
                      have rnc1 := rn.cell 1
                      have rnf1 := rn.free 1
                      have rnc2 := rn.cell 2
                      have rnf2 := rn.free 2
                      have rnc3 := rn.cell 3
                      have rnf3 := rn.free 3
                      have rnl := rn.lt
                      simp at rnc0 rnc1 rnc2 rnc3
                      have rlc0 := rl.cell 0
                      have rlf0 := rl.free 0
                      have rlc1 := rl.cell 1
                      have rlf1 := rl.free 1
                      have rlc2 := rl.cell 2
                      have rlf2 := rl.free 2
                      have rlc3 := rl.cell 3
                      have rlf3 := rl.free 3
                      have rll := rl.lt
                      simp at rlc0 rlc1 rlc2 rlc3
                      have rmc0 := rm.cell 0
                      have rmf0 := rm.free 0
                      have rmc1 := rm.cell 1
                      have rmf1 := rm.free 1
                      have rmc2 := rm.cell 2
                      have rmf2 := rm.free 2
                      have rmc3 := rm.cell 3
                      have rmf3 := rm.free 3
                      have rml := rm.lt
                      simp at rmc0 rmc1 rmc2 rmc3
                      go_upto_region 30 with fail
                      refine at_world (S := fun Y => Blk Y wj.heap.size #[.int .i64 (num n x.alo x.wlo 0), .int .i64 (num n x.alo x.wlo 1), .int .i64 (num n x.alo x.wlo 2), .int .i64 (num n x.alo x.wlo 3)] 3 ∧ Blk Y wi.heap.size #[.int .i64 x.wlo, .int .i64 x.whi] 3 ∧ Blk Y (b + 1) #[.int .i64 (ls n x 1 0), .int .i64 (ls n x 0 1), .int .i64 (ls n x 0 2), .int .i64 (ls n x 0 3)] 96 ∧ Blk Y (b + 1 + 1) #[.int .i64 (ms n x 1 0), .int .i64 (ms n x 0 1), .int .i64 (ms n x 0 2), .int .i64 (ms n x 0 3)] 96 ∧ Blk Y b #[.int .i64 x.alo, .int .i64 x.ahi, .int .i64 x.wlo, .int .i64 x.whi] 88 ∧ Blk Y V.heap.size #[.int .i64 x.alo, .int .i64 x.ahi] 3 ∧ Blk Y nL #[.int .i64 (F 0), .int .i64 (F 1), .int .i64 (F 2), .int .i64 (F 3)] 96 ∧ Blk Y (nL + 1) #[.int .i64 (G 0), .int .i64 (G 1), .int .i64 (G 2), .int .i64 (G 3)] 96 ∧ Blk Y n1 #[.int .i64 l1, .int .i64 l2] 49 ∧ Blk Y (n1 + 1) #[.int .i64 m1, .int .i64 m2] 49 ∧ Blk Y n2 #[.int .i64 s1, .int .i64 s2] 49 ∧ Blk Y n3 #[.int .i64 d1, .int .i64 d2] 49 ∧ Kept w Y) ⟨by (exact blk), by (exact blk), by (refine Blk.cast (arr := ?_) ?_ ?_; rotate_left 1; (focus (exact blk)); (first | rfl | (simp; done) | (simp [ls, ms, Int.min_self, Int.max_self]; done))), by (refine Blk.cast (arr := ?_) ?_ ?_; rotate_left 1; (focus ((repeat (with_reducible refine Blk.drew ?_)); with_reducible refine Blk.set (arr := #[.int .i64 (ms n x 0 0), .int .i64 (ms n x 0 1), .int .i64 (ms n x 0 2), .int .i64 (ms n x 0 3)]) ?_ _ _; (exact blk))); (first | rfl | (simp; done) | (simp [ls, ms, Int.min_self, Int.max_self]; done))), by (exact blk), by (exact blk), by (exact blk), by (exact blk), by (exact blk), by (exact blk), by (exact blk), by (exact blk), by (exact kpt)⟩ ?_
                      clear rn rt rl rm rx rp bL bH q1 q2 q3 q4 hk rnc0 rnf0 rnc1 rnf1 rnc2 rnf2 rnc3 rnf3 rlc0 rlf0 rlc1 rlf1 rlc2 rlf2 rlc3 rlf3 rmc0 rmf0 rmc1 rmf1 rmc2 rmf2 rmc3 rmf3 rnl rll rml
                      rintro Y ⟨rn, rt, rl, rm, rx, rp, bL, bH, q1, q2, q3, q4, hk⟩
                      have rlc0 := rl.cell 0
                      have rlf0 := rl.free 0
                      have rlc1 := rl.cell 1
                      have rlf1 := rl.free 1
                      have rlc2 := rl.cell 2
                      have rlf2 := rl.free 2
                      have rlc3 := rl.cell 3
                      have rlf3 := rl.free 3
                      have rll := rl.lt
                      simp at rlc0 rlc1 rlc2 rlc3
                      have rmc0 := rm.cell 0
                      have rmf0 := rm.free 0
                      have rmc1 := rm.cell 1
                      have rmf1 := rm.free 1
                      have rmc2 := rm.cell 2
                      have rmf2 := rm.free 2
                      have rmc3 := rm.cell 3
                      have rmf3 := rm.free 3
                      have rml := rm.lt
                      simp at rmc0 rmc1 rmc2 rmc3
                      go_region
                      all_goals go_wp2
                      all_goals go_roundw
                      case rel => exact ⟨1, by omega, by go_num, by (exact blk), by (exact blk), show Blk _ _ #[.int .i64 (ls n x 1 0), .int .i64 (ls n x 0 1), .int .i64 (ls n x 0 2), .int .i64 (ls n x 0 3)] _ from by (refine Blk.cast (arr := ?_) ?_ ?_; rotate_left 1; (focus (exact blk)); (first | rfl | (simp; done) | (simp [ls, ms, Int.min_self, Int.max_self]; done))), show Blk _ _ #[.int .i64 (ms n x 1 0), .int .i64 (ms n x 0 1), .int .i64 (ms n x 0 2), .int .i64 (ms n x 0 3)] _ from by (refine Blk.cast (arr := ?_) ?_ ?_; rotate_left 1; (focus ((repeat (with_reducible refine Blk.drew ?_)); with_reducible refine Blk.set (arr := #[.int .i64 (ms n x 1 0), .int .i64 (ms n x 0 1), .int .i64 (ms n x 0 2), .int .i64 (ms n x 0 3)]) ?_ _ _; (exact blk))); (first | rfl | (simp; done) | (simp [ls, ms, Int.min_self, Int.max_self]; done))), by (exact blk), by (exact blk), by (exact blk), by (exact blk), by (exact blk), by (exact blk), by (exact blk), by (exact blk), by (exact kpt)⟩
                      case measure => simp [intOf]
                    · as_aux_lemma =>
                      simp only [mk4] at rl rm
                      have rnc0 := rn.cell 0
                      have rnf0 := rn.free 0
                      have rnc1 := rn.cell 1
                      have rnf1 := rn.free 1
                      have rnc2 := rn.cell 2
                      have rnf2 := rn.free 2
                      have rnc3 := rn.cell 3
                      have rnf3 := rn.free 3
                      have rnl := rn.lt
                      simp at rnc0 rnc1 rnc2 rnc3
                      have rlc0 := rl.cell 0
                      have rlf0 := rl.free 0
                      have rlc1 := rl.cell 1
                      have rlf1 := rl.free 1
                      have rlc2 := rl.cell 2
                      have rlf2 := rl.free 2
                      have rlc3 := rl.cell 3
                      have rlf3 := rl.free 3
                      have rll := rl.lt
                      simp at rlc0 rlc1 rlc2 rlc3
                      have rmc0 := rm.cell 0
                      have rmf0 := rm.free 0
                      have rmc1 := rm.cell 1
                      have rmf1 := rm.free 1
                      have rmc2 := rm.cell 2
                      have rmf2 := rm.free 2
                      have rmc3 := rm.cell 3
                      have rmf3 := rm.free 3
                      have rml := rm.lt
                      simp at rmc0 rmc1 rmc2 rmc3
                      go_upto_region 30 with fail
                      refine at_world (S := fun Y => Blk Y wj.heap.size #[.int .i64 (num n x.alo x.wlo 0), .int .i64 (num n x.alo x.wlo 1), .int .i64 (num n x.alo x.wlo 2), .int .i64 (num n x.alo x.wlo 3)] 3 ∧ Blk Y wi.heap.size #[.int .i64 x.wlo, .int .i64 x.whi] 3 ∧ Blk Y (b + 1) #[.int .i64 (ls n x 1 0), .int .i64 (ls n x 1 1), .int .i64 (ls n x 0 2), .int .i64 (ls n x 0 3)] 96 ∧ Blk Y (b + 1 + 1) #[.int .i64 (ms n x 1 0), .int .i64 (ms n x 1 1), .int .i64 (ms n x 0 2), .int .i64 (ms n x 0 3)] 96 ∧ Blk Y b #[.int .i64 x.alo, .int .i64 x.ahi, .int .i64 x.wlo, .int .i64 x.whi] 88 ∧ Blk Y V.heap.size #[.int .i64 x.alo, .int .i64 x.ahi] 3 ∧ Blk Y nL #[.int .i64 (F 0), .int .i64 (F 1), .int .i64 (F 2), .int .i64 (F 3)] 96 ∧ Blk Y (nL + 1) #[.int .i64 (G 0), .int .i64 (G 1), .int .i64 (G 2), .int .i64 (G 3)] 96 ∧ Blk Y n1 #[.int .i64 l1, .int .i64 l2] 49 ∧ Blk Y (n1 + 1) #[.int .i64 m1, .int .i64 m2] 49 ∧ Blk Y n2 #[.int .i64 s1, .int .i64 s2] 49 ∧ Blk Y n3 #[.int .i64 d1, .int .i64 d2] 49 ∧ Kept w Y) ⟨by (exact blk), by (exact blk), by (refine Blk.cast (arr := ?_) ?_ ?_; rotate_left 1; (focus (exact blk)); (first | rfl | (simp; done) | (simp [ls, ms, Int.min_self, Int.max_self]; done))), by (refine Blk.cast (arr := ?_) ?_ ?_; rotate_left 1; (focus ((repeat (with_reducible refine Blk.drew ?_)); with_reducible refine Blk.set (arr := #[.int .i64 (ms n x 1 0), .int .i64 (ms n x 0 1), .int .i64 (ms n x 0 2), .int .i64 (ms n x 0 3)]) ?_ _ _; (exact blk))); (first | rfl | (simp; done) | (simp [ls, ms, Int.min_self, Int.max_self]; done))), by (exact blk), by (exact blk), by (exact blk), by (exact blk), by (exact blk), by (exact blk), by (exact blk), by (exact blk), by (exact kpt)⟩ ?_
                      clear rn rt rl rm rx rp bL bH q1 q2 q3 q4 hk rnc0 rnf0 rnc1 rnf1 rnc2 rnf2 rnc3 rnf3 rlc0 rlf0 rlc1 rlf1 rlc2 rlf2 rlc3 rlf3 rmc0 rmf0 rmc1 rmf1 rmc2 rmf2 rmc3 rmf3 rnl rll rml
                      rintro Y ⟨rn, rt, rl, rm, rx, rp, bL, bH, q1, q2, q3, q4, hk⟩
                      have rlc0 := rl.cell 0
                      have rlf0 := rl.free 0
                      have rlc1 := rl.cell 1
                      have rlf1 := rl.free 1
                      have rlc2 := rl.cell 2
                      have rlf2 := rl.free 2
                      have rlc3 := rl.cell 3
                      have rlf3 := rl.free 3
                      have rll := rl.lt
                      simp at rlc0 rlc1 rlc2 rlc3
                      have rmc0 := rm.cell 0
                      have rmf0 := rm.free 0
                      have rmc1 := rm.cell 1
                      have rmf1 := rm.free 1
                      have rmc2 := rm.cell 2
                      have rmf2 := rm.free 2
                      have rmc3 := rm.cell 3
                      have rmf3 := rm.free 3
                      have rml := rm.lt
                      simp at rmc0 rmc1 rmc2 rmc3
                      go_region
                      all_goals go_wp2
                      all_goals go_roundw
                      case rel => exact ⟨2, by omega, by go_num, by (exact blk), by (exact blk), show Blk _ _ #[.int .i64 (ls n x 1 0), .int .i64 (ls n x 1 1), .int .i64 (ls n x 0 2), .int .i64 (ls n x 0 3)] _ from by (refine Blk.cast (arr := ?_) ?_ ?_; rotate_left 1; (focus (exact blk)); (first | rfl | (simp; done) | (simp [ls, ms, Int.min_self, Int.max_self]; done))), show Blk _ _ #[.int .i64 (ms n x 1 0), .int .i64 (ms n x 1 1), .int .i64 (ms n x 0 2), .int .i64 (ms n x 0 3)] _ from by (refine Blk.cast (arr := ?_) ?_ ?_; rotate_left 1; (focus ((repeat (with_reducible refine Blk.drew ?_)); with_reducible refine Blk.set (arr := #[.int .i64 (ms n x 1 0), .int .i64 (ms n x 1 1), .int .i64 (ms n x 0 2), .int .i64 (ms n x 0 3)]) ?_ _ _; (exact blk))); (first | rfl | (simp; done) | (simp [ls, ms, Int.min_self, Int.max_self]; done))), by (exact blk), by (exact blk), by (exact blk), by (exact blk), by (exact blk), by (exact blk), by (exact blk), by (exact blk), by (exact kpt)⟩
                      case measure => simp [intOf]
                    · as_aux_lemma =>
                      simp only [mk4] at rl rm
                      have rnc0 := rn.cell 0
                      have rnf0 := rn.free 0
                      have rnc1 := rn.cell 1
                      have rnf1 := rn.free 1
                      have rnc2 := rn.cell 2
                      have rnf2 := rn.free 2
                      have rnc3 := rn.cell 3
                      have rnf3 := rn.free 3
                      have rnl := rn.lt
                      simp at rnc0 rnc1 rnc2 rnc3
                      have rlc0 := rl.cell 0
                      have rlf0 := rl.free 0
                      have rlc1 := rl.cell 1
                      have rlf1 := rl.free 1
                      have rlc2 := rl.cell 2
                      have rlf2 := rl.free 2
                      have rlc3 := rl.cell 3
                      have rlf3 := rl.free 3
                      have rll := rl.lt
                      simp at rlc0 rlc1 rlc2 rlc3
                      have rmc0 := rm.cell 0
                      have rmf0 := rm.free 0
                      have rmc1 := rm.cell 1
                      have rmf1 := rm.free 1
                      have rmc2 := rm.cell 2
                      have rmf2 := rm.free 2
                      have rmc3 := rm.cell 3
                      have rmf3 := rm.free 3
                      have rml := rm.lt
                      simp at rmc0 rmc1 rmc2 rmc3
                      go_upto_region 30 with fail
                      refine at_world (S := fun Y => Blk Y wj.heap.size #[.int .i64 (num n x.alo x.wlo 0), .int .i64 (num n x.alo x.wlo 1), .int .i64 (num n x.alo x.wlo 2), .int .i64 (num n x.alo x.wlo 3)] 3 ∧ Blk Y wi.heap.size #[.int .i64 x.wlo, .int .i64 x.whi] 3 ∧ Blk Y (b + 1) #[.int .i64 (ls n x 1 0), .int .i64 (ls n x 1 1), .int .i64 (ls n x 1 2), .int .i64 (ls n x 0 3)] 96 ∧ Blk Y (b + 1 + 1) #[.int .i64 (ms n x 1 0), .int .i64 (ms n x 1 1), .int .i64 (ms n x 1 2), .int .i64 (ms n x 0 3)] 96 ∧ Blk Y b #[.int .i64 x.alo, .int .i64 x.ahi, .int .i64 x.wlo, .int .i64 x.whi] 88 ∧ Blk Y V.heap.size #[.int .i64 x.alo, .int .i64 x.ahi] 3 ∧ Blk Y nL #[.int .i64 (F 0), .int .i64 (F 1), .int .i64 (F 2), .int .i64 (F 3)] 96 ∧ Blk Y (nL + 1) #[.int .i64 (G 0), .int .i64 (G 1), .int .i64 (G 2), .int .i64 (G 3)] 96 ∧ Blk Y n1 #[.int .i64 l1, .int .i64 l2] 49 ∧ Blk Y (n1 + 1) #[.int .i64 m1, .int .i64 m2] 49 ∧ Blk Y n2 #[.int .i64 s1, .int .i64 s2] 49 ∧ Blk Y n3 #[.int .i64 d1, .int .i64 d2] 49 ∧ Kept w Y) ⟨by (exact blk), by (exact blk), by (refine Blk.cast (arr := ?_) ?_ ?_; rotate_left 1; (focus (exact blk)); (first | rfl | (simp; done) | (simp [ls, ms, Int.min_self, Int.max_self]; done))), by (refine Blk.cast (arr := ?_) ?_ ?_; rotate_left 1; (focus ((repeat (with_reducible refine Blk.drew ?_)); with_reducible refine Blk.set (arr := #[.int .i64 (ms n x 1 0), .int .i64 (ms n x 1 1), .int .i64 (ms n x 0 2), .int .i64 (ms n x 0 3)]) ?_ _ _; (exact blk))); (first | rfl | (simp; done) | (simp [ls, ms, Int.min_self, Int.max_self]; done))), by (exact blk), by (exact blk), by (exact blk), by (exact blk), by (exact blk), by (exact blk), by (exact blk), by (exact blk), by (exact kpt)⟩ ?_
                      clear rn rt rl rm rx rp bL bH q1 q2 q3 q4 hk rnc0 rnf0 rnc1 rnf1 rnc2 rnf2 rnc3 rnf3 rlc0 rlf0 rlc1 rlf1 rlc2 rlf2 rlc3 rlf3 rmc0 rmf0 rmc1 rmf1 rmc2 rmf2 rmc3 rmf3 rnl rll rml
                      rintro Y ⟨rn, rt, rl, rm, rx, rp, bL, bH, q1, q2, q3, q4, hk⟩
                      have rlc0 := rl.cell 0
                      have rlf0 := rl.free 0
                      have rlc1 := rl.cell 1
                      have rlf1 := rl.free 1
                      have rlc2 := rl.cell 2
                      have rlf2 := rl.free 2
                      have rlc3 := rl.cell 3
                      have rlf3 := rl.free 3
                      have rll := rl.lt
                      simp at rlc0 rlc1 rlc2 rlc3
                      have rmc0 := rm.cell 0
                      have rmf0 := rm.free 0
                      have rmc1 := rm.cell 1
                      have rmf1 := rm.free 1
                      have rmc2 := rm.cell 2
                      have rmf2 := rm.free 2
                      have rmc3 := rm.cell 3
                      have rmf3 := rm.free 3
                      have rml := rm.lt
                      simp at rmc0 rmc1 rmc2 rmc3
                      go_region
                      all_goals go_wp2
                      all_goals go_roundw
                      case rel => exact ⟨3, by omega, by go_num, by (exact blk), by (exact blk), show Blk _ _ #[.int .i64 (ls n x 1 0), .int .i64 (ls n x 1 1), .int .i64 (ls n x 1 2), .int .i64 (ls n x 0 3)] _ from by (refine Blk.cast (arr := ?_) ?_ ?_; rotate_left 1; (focus (exact blk)); (first | rfl | (simp; done) | (simp [ls, ms, Int.min_self, Int.max_self]; done))), show Blk _ _ #[.int .i64 (ms n x 1 0), .int .i64 (ms n x 1 1), .int .i64 (ms n x 1 2), .int .i64 (ms n x 0 3)] _ from by (refine Blk.cast (arr := ?_) ?_ ?_; rotate_left 1; (focus ((repeat (with_reducible refine Blk.drew ?_)); with_reducible refine Blk.set (arr := #[.int .i64 (ms n x 1 0), .int .i64 (ms n x 1 1), .int .i64 (ms n x 1 2), .int .i64 (ms n x 0 3)]) ?_ _ _; (exact blk))); (first | rfl | (simp; done) | (simp [ls, ms, Int.min_self, Int.max_self]; done))), by (exact blk), by (exact blk), by (exact blk), by (exact blk), by (exact blk), by (exact blk), by (exact blk), by (exact blk), by (exact kpt)⟩
                      case measure => simp [intOf]
                    · as_aux_lemma =>
                      simp only [mk4] at rl rm
                      have rnc0 := rn.cell 0
                      have rnf0 := rn.free 0
                      have rnc1 := rn.cell 1
                      have rnf1 := rn.free 1
                      have rnc2 := rn.cell 2
                      have rnf2 := rn.free 2
                      have rnc3 := rn.cell 3
                      have rnf3 := rn.free 3
                      have rnl := rn.lt
                      simp at rnc0 rnc1 rnc2 rnc3
                      have rlc0 := rl.cell 0
                      have rlf0 := rl.free 0
                      have rlc1 := rl.cell 1
                      have rlf1 := rl.free 1
                      have rlc2 := rl.cell 2
                      have rlf2 := rl.free 2
                      have rlc3 := rl.cell 3
                      have rlf3 := rl.free 3
                      have rll := rl.lt
                      simp at rlc0 rlc1 rlc2 rlc3
                      have rmc0 := rm.cell 0
                      have rmf0 := rm.free 0
                      have rmc1 := rm.cell 1
                      have rmf1 := rm.free 1
                      have rmc2 := rm.cell 2
                      have rmf2 := rm.free 2
                      have rmc3 := rm.cell 3
                      have rmf3 := rm.free 3
                      have rml := rm.lt
                      simp at rmc0 rmc1 rmc2 rmc3
                      go_upto_region 30 with fail
                      refine at_world (S := fun Y => Blk Y wj.heap.size #[.int .i64 (num n x.alo x.wlo 0), .int .i64 (num n x.alo x.wlo 1), .int .i64 (num n x.alo x.wlo 2), .int .i64 (num n x.alo x.wlo 3)] 3 ∧ Blk Y wi.heap.size #[.int .i64 x.wlo, .int .i64 x.whi] 3 ∧ Blk Y (b + 1) #[.int .i64 (ls n x 1 0), .int .i64 (ls n x 1 1), .int .i64 (ls n x 1 2), .int .i64 (ls n x 1 3)] 96 ∧ Blk Y (b + 1 + 1) #[.int .i64 (ms n x 1 0), .int .i64 (ms n x 1 1), .int .i64 (ms n x 1 2), .int .i64 (ms n x 1 3)] 96 ∧ Blk Y b #[.int .i64 x.alo, .int .i64 x.ahi, .int .i64 x.wlo, .int .i64 x.whi] 88 ∧ Blk Y V.heap.size #[.int .i64 x.alo, .int .i64 x.ahi] 3 ∧ Blk Y nL #[.int .i64 (F 0), .int .i64 (F 1), .int .i64 (F 2), .int .i64 (F 3)] 96 ∧ Blk Y (nL + 1) #[.int .i64 (G 0), .int .i64 (G 1), .int .i64 (G 2), .int .i64 (G 3)] 96 ∧ Blk Y n1 #[.int .i64 l1, .int .i64 l2] 49 ∧ Blk Y (n1 + 1) #[.int .i64 m1, .int .i64 m2] 49 ∧ Blk Y n2 #[.int .i64 s1, .int .i64 s2] 49 ∧ Blk Y n3 #[.int .i64 d1, .int .i64 d2] 49 ∧ Kept w Y) ⟨by (exact blk), by (exact blk), by (refine Blk.cast (arr := ?_) ?_ ?_; rotate_left 1; (focus (exact blk)); (first | rfl | (simp; done) | (simp [ls, ms, Int.min_self, Int.max_self]; done))), by (refine Blk.cast (arr := ?_) ?_ ?_; rotate_left 1; (focus ((repeat (with_reducible refine Blk.drew ?_)); with_reducible refine Blk.set (arr := #[.int .i64 (ms n x 1 0), .int .i64 (ms n x 1 1), .int .i64 (ms n x 1 2), .int .i64 (ms n x 0 3)]) ?_ _ _; (exact blk))); (first | rfl | (simp; done) | (simp [ls, ms, Int.min_self, Int.max_self]; done))), by (exact blk), by (exact blk), by (exact blk), by (exact blk), by (exact blk), by (exact blk), by (exact blk), by (exact blk), by (exact kpt)⟩ ?_
                      clear rn rt rl rm rx rp bL bH q1 q2 q3 q4 hk rnc0 rnf0 rnc1 rnf1 rnc2 rnf2 rnc3 rnf3 rlc0 rlf0 rlc1 rlf1 rlc2 rlf2 rlc3 rlf3 rmc0 rmf0 rmc1 rmf1 rmc2 rmf2 rmc3 rmf3 rnl rll rml
                      rintro Y ⟨rn, rt, rl, rm, rx, rp, bL, bH, q1, q2, q3, q4, hk⟩
                      have rlc0 := rl.cell 0
                      have rlf0 := rl.free 0
                      have rlc1 := rl.cell 1
                      have rlf1 := rl.free 1
                      have rlc2 := rl.cell 2
                      have rlf2 := rl.free 2
                      have rlc3 := rl.cell 3
                      have rlf3 := rl.free 3
                      have rll := rl.lt
                      simp at rlc0 rlc1 rlc2 rlc3
                      have rmc0 := rm.cell 0
                      have rmf0 := rm.free 0
                      have rmc1 := rm.cell 1
                      have rmf1 := rm.free 1
                      have rmc2 := rm.cell 2
                      have rmf2 := rm.free 2
                      have rmc3 := rm.cell 3
                      have rmf3 := rm.free 3
                      have rml := rm.lt
                      simp at rmc0 rmc1 rmc2 rmc3
                      go_region
                      all_goals go_wp2
                      all_goals go_roundw
                      case rel => exact ⟨4, by omega, by go_num, by (exact blk), by (exact blk), show Blk _ _ #[.int .i64 (ls n x 1 0), .int .i64 (ls n x 1 1), .int .i64 (ls n x 1 2), .int .i64 (ls n x 1 3)] _ from by (refine Blk.cast (arr := ?_) ?_ ?_; rotate_left 1; (focus (exact blk)); (first | rfl | (simp; done) | (simp [ls, ms, Int.min_self, Int.max_self]; done))), show Blk _ _ #[.int .i64 (ms n x 1 0), .int .i64 (ms n x 1 1), .int .i64 (ms n x 1 2), .int .i64 (ms n x 1 3)] _ from by (refine Blk.cast (arr := ?_) ?_ ?_; rotate_left 1; (focus ((repeat (with_reducible refine Blk.drew ?_)); with_reducible refine Blk.set (arr := #[.int .i64 (ms n x 1 0), .int .i64 (ms n x 1 1), .int .i64 (ms n x 1 2), .int .i64 (ms n x 1 3)]) ?_ _ _; (exact blk))); (first | rfl | (simp; done) | (simp [ls, ms, Int.min_self, Int.max_self]; done))), by (exact blk), by (exact blk), by (exact blk), by (exact blk), by (exact blk), by (exact blk), by (exact blk), by (exact blk), by (exact kpt)⟩
                      case measure => simp [intOf]
                    · as_aux_lemma =>
                      simp only [mk4] at rl rm
                      go_wp2
                      go_roundw
                      case rel => exact ⟨1, by omega, by go_num, rt, rl, rm, rx, rp, bL, bH, q1, q2, q3, q4, hk⟩
                      case measure => simp [intOf]
                · have HP := Lib.hid (show cA n x.alo = 0 by unfold cA; rw [if_neg hp])
                  clear t1 t3
                  go_wp2
                  go_loopw [121] (fun i wk => ∃ e : Nat, e ≤ 4 ∧ i = .int .i64 e ∧ Blk wk wj.heap.size #[.int .i64 (num n x.alo x.wlo 0), .int .i64 (num n x.alo x.wlo 1), .int .i64 (num n x.alo x.wlo 2), .int .i64 (num n x.alo x.wlo 3)] 3 ∧ Blk wk wi.heap.size #[.int .i64 x.wlo, .int .i64 x.whi] 3 ∧ Blk wk (b + 1) (mk4 (ls n x 0) (ls n x 1) e) 96 ∧ Blk wk (b + 1 + 1) (mk4 (ms n x 0) (ms n x 1) e) 96 ∧ Blk wk b #[.int .i64 x.alo, .int .i64 x.ahi, .int .i64 x.wlo, .int .i64 x.whi] 88 ∧ Blk wk V.heap.size #[.int .i64 x.alo, .int .i64 x.ahi] 3 ∧ Blk wk nL #[.int .i64 (F 0), .int .i64 (F 1), .int .i64 (F 2), .int .i64 (F 3)] 96 ∧ Blk wk (nL + 1) #[.int .i64 (G 0), .int .i64 (G 1), .int .i64 (G 2), .int .i64 (G 3)] 96 ∧ Blk wk n1 #[.int .i64 l1, .int .i64 l2] 49 ∧ Blk wk (n1 + 1) #[.int .i64 m1, .int .i64 m2] 49 ∧ Blk wk n2 #[.int .i64 s1, .int .i64 s2] 49 ∧ Blk wk n3 #[.int .i64 d1, .int .i64 d2] 49 ∧ Kept w wk) (fun i _ => 4 - (intOf i).toNat)
                  case atStart => exact ⟨0, by omega, rfl, by (refine Blk.cast (arr := ?_) ?_ ?_; rotate_left 1; (focus (exact blk)); (first | rfl | (simp; done) | (simp [num, HP.out]; done))), by (exact blk), show Blk _ _ #[.int .i64 (ls n x 0 0), .int .i64 (ls n x 0 1), .int .i64 (ls n x 0 2), .int .i64 (ls n x 0 3)] _ from by (exact blk), show Blk _ _ #[.int .i64 (ms n x 0 0), .int .i64 (ms n x 0 1), .int .i64 (ms n x 0 2), .int .i64 (ms n x 0 3)] _ from by (exact blk), by (exact blk), by (exact blk), by (exact blk), by (exact blk), by (exact blk), by (exact blk), by (exact blk), by (exact blk), by (exact kpt)⟩
                  case round =>
                    rename World => wk
                    clear rt rl rm rx rp bL bH q1 q2 q3 q4 hk
                    obtain ⟨e, he, rfl, rn, rt, rl, rm, rx, rp, bL, bH, q1, q2, q3, q4, hk⟩ := hrel
                    have e9 := rn.lt
                    rcases (by omega : e = 0 ∨ e = 1 ∨ e = 2 ∨ e = 3 ∨ e = 4) with rfl | rfl | rfl | rfl | rfl
                    · as_aux_lemma =>
                      simp only [mk4] at rl rm
                      have rnc0 := rn.cell 0
                      have rnf0 := rn.free 0
                      have rnc1 := rn.cell 1
                      have rnf1 := rn.free 1
                      have rnc2 := rn.cell 2
                      have rnf2 := rn.free 2
                      have rnc3 := rn.cell 3
                      have rnf3 := rn.free 3
                      have rnl := rn.lt
                      simp at rnc0 rnc1 rnc2 rnc3
                      have rlc0 := rl.cell 0
                      have rlf0 := rl.free 0
                      have rlc1 := rl.cell 1
                      have rlf1 := rl.free 1
                      have rlc2 := rl.cell 2
                      have rlf2 := rl.free 2
                      have rlc3 := rl.cell 3
                      have rlf3 := rl.free 3
                      have rll := rl.lt
                      simp at rlc0 rlc1 rlc2 rlc3
                      have rmc0 := rm.cell 0
                      have rmf0 := rm.free 0
                      have rmc1 := rm.cell 1
                      have rmf1 := rm.free 1
                      have rmc2 := rm.cell 2
                      have rmf2 := rm.free 2
                      have rmc3 := rm.cell 3
                      have rmf3 := rm.free 3
                      have rml := rm.lt
                      simp at rmc0 rmc1 rmc2 rmc3
                      go_upto_region 30 with fail
                      refine at_world (S := fun Y => Blk Y wj.heap.size #[.int .i64 (num n x.alo x.wlo 0), .int .i64 (num n x.alo x.wlo 1), .int .i64 (num n x.alo x.wlo 2), .int .i64 (num n x.alo x.wlo 3)] 3 ∧ Blk Y wi.heap.size #[.int .i64 x.wlo, .int .i64 x.whi] 3 ∧ Blk Y (b + 1) #[.int .i64 (ls n x 1 0), .int .i64 (ls n x 0 1), .int .i64 (ls n x 0 2), .int .i64 (ls n x 0 3)] 96 ∧ Blk Y (b + 1 + 1) #[.int .i64 (ms n x 1 0), .int .i64 (ms n x 0 1), .int .i64 (ms n x 0 2), .int .i64 (ms n x 0 3)] 96 ∧ Blk Y b #[.int .i64 x.alo, .int .i64 x.ahi, .int .i64 x.wlo, .int .i64 x.whi] 88 ∧ Blk Y V.heap.size #[.int .i64 x.alo, .int .i64 x.ahi] 3 ∧ Blk Y nL #[.int .i64 (F 0), .int .i64 (F 1), .int .i64 (F 2), .int .i64 (F 3)] 96 ∧ Blk Y (nL + 1) #[.int .i64 (G 0), .int .i64 (G 1), .int .i64 (G 2), .int .i64 (G 3)] 96 ∧ Blk Y n1 #[.int .i64 l1, .int .i64 l2] 49 ∧ Blk Y (n1 + 1) #[.int .i64 m1, .int .i64 m2] 49 ∧ Blk Y n2 #[.int .i64 s1, .int .i64 s2] 49 ∧ Blk Y n3 #[.int .i64 d1, .int .i64 d2] 49 ∧ Kept w Y) ⟨by (exact blk), by (exact blk), by (refine Blk.cast (arr := ?_) ?_ ?_; rotate_left 1; (focus (exact blk)); (first | rfl | (simp; done) | (simp [ls, ms, Int.min_self, Int.max_self]; done))), by (refine Blk.cast (arr := ?_) ?_ ?_; rotate_left 1; (focus ((repeat (with_reducible refine Blk.drew ?_)); with_reducible refine Blk.set (arr := #[.int .i64 (ms n x 0 0), .int .i64 (ms n x 0 1), .int .i64 (ms n x 0 2), .int .i64 (ms n x 0 3)]) ?_ _ _; (exact blk))); (first | rfl | (simp; done) | (simp [ls, ms, Int.min_self, Int.max_self]; done))), by (exact blk), by (exact blk), by (exact blk), by (exact blk), by (exact blk), by (exact blk), by (exact blk), by (exact blk), by (exact kpt)⟩ ?_
                      clear rn rt rl rm rx rp bL bH q1 q2 q3 q4 hk rnc0 rnf0 rnc1 rnf1 rnc2 rnf2 rnc3 rnf3 rlc0 rlf0 rlc1 rlf1 rlc2 rlf2 rlc3 rlf3 rmc0 rmf0 rmc1 rmf1 rmc2 rmf2 rmc3 rmf3 rnl rll rml
                      rintro Y ⟨rn, rt, rl, rm, rx, rp, bL, bH, q1, q2, q3, q4, hk⟩
                      have rlc0 := rl.cell 0
                      have rlf0 := rl.free 0
                      have rlc1 := rl.cell 1
                      have rlf1 := rl.free 1
                      have rlc2 := rl.cell 2
                      have rlf2 := rl.free 2
                      have rlc3 := rl.cell 3
                      have rlf3 := rl.free 3
                      have rll := rl.lt
                      simp at rlc0 rlc1 rlc2 rlc3
                      have rmc0 := rm.cell 0
                      have rmf0 := rm.free 0
                      have rmc1 := rm.cell 1
                      have rmf1 := rm.free 1
                      have rmc2 := rm.cell 2
                      have rmf2 := rm.free 2
                      have rmc3 := rm.cell 3
                      have rmf3 := rm.free 3
                      have rml := rm.lt
                      simp at rmc0 rmc1 rmc2 rmc3
                      go_region
                      all_goals go_wp2
                      all_goals go_roundw
                      case rel => exact ⟨1, by omega, by go_num, by (exact blk), by (exact blk), show Blk _ _ #[.int .i64 (ls n x 1 0), .int .i64 (ls n x 0 1), .int .i64 (ls n x 0 2), .int .i64 (ls n x 0 3)] _ from by (refine Blk.cast (arr := ?_) ?_ ?_; rotate_left 1; (focus (exact blk)); (first | rfl | (simp; done) | (simp [ls, ms, Int.min_self, Int.max_self]; done))), show Blk _ _ #[.int .i64 (ms n x 1 0), .int .i64 (ms n x 0 1), .int .i64 (ms n x 0 2), .int .i64 (ms n x 0 3)] _ from by (refine Blk.cast (arr := ?_) ?_ ?_; rotate_left 1; (focus ((repeat (with_reducible refine Blk.drew ?_)); with_reducible refine Blk.set (arr := #[.int .i64 (ms n x 1 0), .int .i64 (ms n x 0 1), .int .i64 (ms n x 0 2), .int .i64 (ms n x 0 3)]) ?_ _ _; (exact blk))); (first | rfl | (simp; done) | (simp [ls, ms, Int.min_self, Int.max_self]; done))), by (exact blk), by (exact blk), by (exact blk), by (exact blk), by (exact blk), by (exact blk), by (exact blk), by (exact blk), by (exact kpt)⟩
                      case measure => simp [intOf]
                    · as_aux_lemma =>
                      simp only [mk4] at rl rm
                      have rnc0 := rn.cell 0
                      have rnf0 := rn.free 0
                      have rnc1 := rn.cell 1
                      have rnf1 := rn.free 1
                      have rnc2 := rn.cell 2
                      have rnf2 := rn.free 2
                      have rnc3 := rn.cell 3
                      have rnf3 := rn.free 3
                      have rnl := rn.lt
                      simp at rnc0 rnc1 rnc2 rnc3
                      have rlc0 := rl.cell 0
                      have rlf0 := rl.free 0
                      have rlc1 := rl.cell 1
                      have rlf1 := rl.free 1
                      have rlc2 := rl.cell 2
                      have rlf2 := rl.free 2
                      have rlc3 := rl.cell 3
                      have rlf3 := rl.free 3
                      have rll := rl.lt
                      simp at rlc0 rlc1 rlc2 rlc3
                      have rmc0 := rm.cell 0
                      have rmf0 := rm.free 0
                      have rmc1 := rm.cell 1
                      have rmf1 := rm.free 1
                      have rmc2 := rm.cell 2
                      have rmf2 := rm.free 2
                      have rmc3 := rm.cell 3
                      have rmf3 := rm.free 3
                      have rml := rm.lt
                      simp at rmc0 rmc1 rmc2 rmc3
                      go_upto_region 30 with fail
                      refine at_world (S := fun Y => Blk Y wj.heap.size #[.int .i64 (num n x.alo x.wlo 0), .int .i64 (num n x.alo x.wlo 1), .int .i64 (num n x.alo x.wlo 2), .int .i64 (num n x.alo x.wlo 3)] 3 ∧ Blk Y wi.heap.size #[.int .i64 x.wlo, .int .i64 x.whi] 3 ∧ Blk Y (b + 1) #[.int .i64 (ls n x 1 0), .int .i64 (ls n x 1 1), .int .i64 (ls n x 0 2), .int .i64 (ls n x 0 3)] 96 ∧ Blk Y (b + 1 + 1) #[.int .i64 (ms n x 1 0), .int .i64 (ms n x 1 1), .int .i64 (ms n x 0 2), .int .i64 (ms n x 0 3)] 96 ∧ Blk Y b #[.int .i64 x.alo, .int .i64 x.ahi, .int .i64 x.wlo, .int .i64 x.whi] 88 ∧ Blk Y V.heap.size #[.int .i64 x.alo, .int .i64 x.ahi] 3 ∧ Blk Y nL #[.int .i64 (F 0), .int .i64 (F 1), .int .i64 (F 2), .int .i64 (F 3)] 96 ∧ Blk Y (nL + 1) #[.int .i64 (G 0), .int .i64 (G 1), .int .i64 (G 2), .int .i64 (G 3)] 96 ∧ Blk Y n1 #[.int .i64 l1, .int .i64 l2] 49 ∧ Blk Y (n1 + 1) #[.int .i64 m1, .int .i64 m2] 49 ∧ Blk Y n2 #[.int .i64 s1, .int .i64 s2] 49 ∧ Blk Y n3 #[.int .i64 d1, .int .i64 d2] 49 ∧ Kept w Y) ⟨by (exact blk), by (exact blk), by (refine Blk.cast (arr := ?_) ?_ ?_; rotate_left 1; (focus (exact blk)); (first | rfl | (simp; done) | (simp [ls, ms, Int.min_self, Int.max_self]; done))), by (refine Blk.cast (arr := ?_) ?_ ?_; rotate_left 1; (focus ((repeat (with_reducible refine Blk.drew ?_)); with_reducible refine Blk.set (arr := #[.int .i64 (ms n x 1 0), .int .i64 (ms n x 0 1), .int .i64 (ms n x 0 2), .int .i64 (ms n x 0 3)]) ?_ _ _; (exact blk))); (first | rfl | (simp; done) | (simp [ls, ms, Int.min_self, Int.max_self]; done))), by (exact blk), by (exact blk), by (exact blk), by (exact blk), by (exact blk), by (exact blk), by (exact blk), by (exact blk), by (exact kpt)⟩ ?_
                      clear rn rt rl rm rx rp bL bH q1 q2 q3 q4 hk rnc0 rnf0 rnc1 rnf1 rnc2 rnf2 rnc3 rnf3 rlc0 rlf0 rlc1 rlf1 rlc2 rlf2 rlc3 rlf3 rmc0 rmf0 rmc1 rmf1 rmc2 rmf2 rmc3 rmf3 rnl rll rml
                      rintro Y ⟨rn, rt, rl, rm, rx, rp, bL, bH, q1, q2, q3, q4, hk⟩
                      have rlc0 := rl.cell 0
                      have rlf0 := rl.free 0
                      have rlc1 := rl.cell 1
                      have rlf1 := rl.free 1
                      have rlc2 := rl.cell 2
                      have rlf2 := rl.free 2
                      have rlc3 := rl.cell 3
                      have rlf3 := rl.free 3
                      have rll := rl.lt
                      simp at rlc0 rlc1 rlc2 rlc3
                      have rmc0 := rm.cell 0
                      have rmf0 := rm.free 0
                      have rmc1 := rm.cell 1
                      have rmf1 := rm.free 1
                      have rmc2 := rm.cell 2
                      have rmf2 := rm.free 2
                      have rmc3 := rm.cell 3
                      have rmf3 := rm.free 3
                      have rml := rm.lt
                      simp at rmc0 rmc1 rmc2 rmc3
                      go_region
                      all_goals go_wp2
                      all_goals go_roundw
                      case rel => exact ⟨2, by omega, by go_num, by (exact blk), by (exact blk), show Blk _ _ #[.int .i64 (ls n x 1 0), .int .i64 (ls n x 1 1), .int .i64 (ls n x 0 2), .int .i64 (ls n x 0 3)] _ from by (refine Blk.cast (arr := ?_) ?_ ?_; rotate_left 1; (focus (exact blk)); (first | rfl | (simp; done) | (simp [ls, ms, Int.min_self, Int.max_self]; done))), show Blk _ _ #[.int .i64 (ms n x 1 0), .int .i64 (ms n x 1 1), .int .i64 (ms n x 0 2), .int .i64 (ms n x 0 3)] _ from by (refine Blk.cast (arr := ?_) ?_ ?_; rotate_left 1; (focus ((repeat (with_reducible refine Blk.drew ?_)); with_reducible refine Blk.set (arr := #[.int .i64 (ms n x 1 0), .int .i64 (ms n x 1 1), .int .i64 (ms n x 0 2), .int .i64 (ms n x 0 3)]) ?_ _ _; (exact blk))); (first | rfl | (simp; done) | (simp [ls, ms, Int.min_self, Int.max_self]; done))), by (exact blk), by (exact blk), by (exact blk), by (exact blk), by (exact blk), by (exact blk), by (exact blk), by (exact blk), by (exact kpt)⟩
                      case measure => simp [intOf]
                    · as_aux_lemma =>
                      simp only [mk4] at rl rm
                      have rnc0 := rn.cell 0
                      have rnf0 := rn.free 0
                      have rnc1 := rn.cell 1
                      have rnf1 := rn.free 1
                      have rnc2 := rn.cell 2
                      have rnf2 := rn.free 2
                      have rnc3 := rn.cell 3
                      have rnf3 := rn.free 3
                      have rnl := rn.lt
                      simp at rnc0 rnc1 rnc2 rnc3
                      have rlc0 := rl.cell 0
                      have rlf0 := rl.free 0
                      have rlc1 := rl.cell 1
                      have rlf1 := rl.free 1
                      have rlc2 := rl.cell 2
                      have rlf2 := rl.free 2
                      have rlc3 := rl.cell 3
                      have rlf3 := rl.free 3
                      have rll := rl.lt
                      simp at rlc0 rlc1 rlc2 rlc3
                      have rmc0 := rm.cell 0
                      have rmf0 := rm.free 0
                      have rmc1 := rm.cell 1
                      have rmf1 := rm.free 1
                      have rmc2 := rm.cell 2
                      have rmf2 := rm.free 2
                      have rmc3 := rm.cell 3
                      have rmf3 := rm.free 3
                      have rml := rm.lt
                      simp at rmc0 rmc1 rmc2 rmc3
                      go_upto_region 30 with fail
                      refine at_world (S := fun Y => Blk Y wj.heap.size #[.int .i64 (num n x.alo x.wlo 0), .int .i64 (num n x.alo x.wlo 1), .int .i64 (num n x.alo x.wlo 2), .int .i64 (num n x.alo x.wlo 3)] 3 ∧ Blk Y wi.heap.size #[.int .i64 x.wlo, .int .i64 x.whi] 3 ∧ Blk Y (b + 1) #[.int .i64 (ls n x 1 0), .int .i64 (ls n x 1 1), .int .i64 (ls n x 1 2), .int .i64 (ls n x 0 3)] 96 ∧ Blk Y (b + 1 + 1) #[.int .i64 (ms n x 1 0), .int .i64 (ms n x 1 1), .int .i64 (ms n x 1 2), .int .i64 (ms n x 0 3)] 96 ∧ Blk Y b #[.int .i64 x.alo, .int .i64 x.ahi, .int .i64 x.wlo, .int .i64 x.whi] 88 ∧ Blk Y V.heap.size #[.int .i64 x.alo, .int .i64 x.ahi] 3 ∧ Blk Y nL #[.int .i64 (F 0), .int .i64 (F 1), .int .i64 (F 2), .int .i64 (F 3)] 96 ∧ Blk Y (nL + 1) #[.int .i64 (G 0), .int .i64 (G 1), .int .i64 (G 2), .int .i64 (G 3)] 96 ∧ Blk Y n1 #[.int .i64 l1, .int .i64 l2] 49 ∧ Blk Y (n1 + 1) #[.int .i64 m1, .int .i64 m2] 49 ∧ Blk Y n2 #[.int .i64 s1, .int .i64 s2] 49 ∧ Blk Y n3 #[.int .i64 d1, .int .i64 d2] 49 ∧ Kept w Y) ⟨by (exact blk), by (exact blk), by (refine Blk.cast (arr := ?_) ?_ ?_; rotate_left 1; (focus (exact blk)); (first | rfl | (simp; done) | (simp [ls, ms, Int.min_self, Int.max_self]; done))), by (refine Blk.cast (arr := ?_) ?_ ?_; rotate_left 1; (focus ((repeat (with_reducible refine Blk.drew ?_)); with_reducible refine Blk.set (arr := #[.int .i64 (ms n x 1 0), .int .i64 (ms n x 1 1), .int .i64 (ms n x 0 2), .int .i64 (ms n x 0 3)]) ?_ _ _; (exact blk))); (first | rfl | (simp; done) | (simp [ls, ms, Int.min_self, Int.max_self]; done))), by (exact blk), by (exact blk), by (exact blk), by (exact blk), by (exact blk), by (exact blk), by (exact blk), by (exact blk), by (exact kpt)⟩ ?_
                      clear rn rt rl rm rx rp bL bH q1 q2 q3 q4 hk rnc0 rnf0 rnc1 rnf1 rnc2 rnf2 rnc3 rnf3 rlc0 rlf0 rlc1 rlf1 rlc2 rlf2 rlc3 rlf3 rmc0 rmf0 rmc1 rmf1 rmc2 rmf2 rmc3 rmf3 rnl rll rml
                      rintro Y ⟨rn, rt, rl, rm, rx, rp, bL, bH, q1, q2, q3, q4, hk⟩
                      have rlc0 := rl.cell 0
                      have rlf0 := rl.free 0
                      have rlc1 := rl.cell 1
                      have rlf1 := rl.free 1
                      have rlc2 := rl.cell 2
                      have rlf2 := rl.free 2
                      have rlc3 := rl.cell 3
                      have rlf3 := rl.free 3
                      have rll := rl.lt
                      simp at rlc0 rlc1 rlc2 rlc3
                      have rmc0 := rm.cell 0
                      have rmf0 := rm.free 0
                      have rmc1 := rm.cell 1
                      have rmf1 := rm.free 1
                      have rmc2 := rm.cell 2
                      have rmf2 := rm.free 2
                      have rmc3 := rm.cell 3
                      have rmf3 := rm.free 3
                      have rml := rm.lt
                      simp at rmc0 rmc1 rmc2 rmc3
                      go_region
                      all_goals go_wp2
                      all_goals go_roundw
                      case rel => exact ⟨3, by omega, by go_num, by (exact blk), by (exact blk), show Blk _ _ #[.int .i64 (ls n x 1 0), .int .i64 (ls n x 1 1), .int .i64 (ls n x 1 2), .int .i64 (ls n x 0 3)] _ from by (refine Blk.cast (arr := ?_) ?_ ?_; rotate_left 1; (focus (exact blk)); (first | rfl | (simp; done) | (simp [ls, ms, Int.min_self, Int.max_self]; done))), show Blk _ _ #[.int .i64 (ms n x 1 0), .int .i64 (ms n x 1 1), .int .i64 (ms n x 1 2), .int .i64 (ms n x 0 3)] _ from by (refine Blk.cast (arr := ?_) ?_ ?_; rotate_left 1; (focus ((repeat (with_reducible refine Blk.drew ?_)); with_reducible refine Blk.set (arr := #[.int .i64 (ms n x 1 0), .int .i64 (ms n x 1 1), .int .i64 (ms n x 1 2), .int .i64 (ms n x 0 3)]) ?_ _ _; (exact blk))); (first | rfl | (simp; done) | (simp [ls, ms, Int.min_self, Int.max_self]; done))), by (exact blk), by (exact blk), by (exact blk), by (exact blk), by (exact blk), by (exact blk), by (exact blk), by (exact blk), by (exact kpt)⟩
                      case measure => simp [intOf]
                    · as_aux_lemma =>
                      simp only [mk4] at rl rm
                      have rnc0 := rn.cell 0
                      have rnf0 := rn.free 0
                      have rnc1 := rn.cell 1
                      have rnf1 := rn.free 1
                      have rnc2 := rn.cell 2
                      have rnf2 := rn.free 2
                      have rnc3 := rn.cell 3
                      have rnf3 := rn.free 3
                      have rnl := rn.lt
                      simp at rnc0 rnc1 rnc2 rnc3
                      have rlc0 := rl.cell 0
                      have rlf0 := rl.free 0
                      have rlc1 := rl.cell 1
                      have rlf1 := rl.free 1
                      have rlc2 := rl.cell 2
                      have rlf2 := rl.free 2
                      have rlc3 := rl.cell 3
                      have rlf3 := rl.free 3
                      have rll := rl.lt
                      simp at rlc0 rlc1 rlc2 rlc3
                      have rmc0 := rm.cell 0
                      have rmf0 := rm.free 0
                      have rmc1 := rm.cell 1
                      have rmf1 := rm.free 1
                      have rmc2 := rm.cell 2
                      have rmf2 := rm.free 2
                      have rmc3 := rm.cell 3
                      have rmf3 := rm.free 3
                      have rml := rm.lt
                      simp at rmc0 rmc1 rmc2 rmc3
                      go_upto_region 30 with fail
                      refine at_world (S := fun Y => Blk Y wj.heap.size #[.int .i64 (num n x.alo x.wlo 0), .int .i64 (num n x.alo x.wlo 1), .int .i64 (num n x.alo x.wlo 2), .int .i64 (num n x.alo x.wlo 3)] 3 ∧ Blk Y wi.heap.size #[.int .i64 x.wlo, .int .i64 x.whi] 3 ∧ Blk Y (b + 1) #[.int .i64 (ls n x 1 0), .int .i64 (ls n x 1 1), .int .i64 (ls n x 1 2), .int .i64 (ls n x 1 3)] 96 ∧ Blk Y (b + 1 + 1) #[.int .i64 (ms n x 1 0), .int .i64 (ms n x 1 1), .int .i64 (ms n x 1 2), .int .i64 (ms n x 1 3)] 96 ∧ Blk Y b #[.int .i64 x.alo, .int .i64 x.ahi, .int .i64 x.wlo, .int .i64 x.whi] 88 ∧ Blk Y V.heap.size #[.int .i64 x.alo, .int .i64 x.ahi] 3 ∧ Blk Y nL #[.int .i64 (F 0), .int .i64 (F 1), .int .i64 (F 2), .int .i64 (F 3)] 96 ∧ Blk Y (nL + 1) #[.int .i64 (G 0), .int .i64 (G 1), .int .i64 (G 2), .int .i64 (G 3)] 96 ∧ Blk Y n1 #[.int .i64 l1, .int .i64 l2] 49 ∧ Blk Y (n1 + 1) #[.int .i64 m1, .int .i64 m2] 49 ∧ Blk Y n2 #[.int .i64 s1, .int .i64 s2] 49 ∧ Blk Y n3 #[.int .i64 d1, .int .i64 d2] 49 ∧ Kept w Y) ⟨by (exact blk), by (exact blk), by (refine Blk.cast (arr := ?_) ?_ ?_; rotate_left 1; (focus (exact blk)); (first | rfl | (simp; done) | (simp [ls, ms, Int.min_self, Int.max_self]; done))), by (refine Blk.cast (arr := ?_) ?_ ?_; rotate_left 1; (focus ((repeat (with_reducible refine Blk.drew ?_)); with_reducible refine Blk.set (arr := #[.int .i64 (ms n x 1 0), .int .i64 (ms n x 1 1), .int .i64 (ms n x 1 2), .int .i64 (ms n x 0 3)]) ?_ _ _; (exact blk))); (first | rfl | (simp; done) | (simp [ls, ms, Int.min_self, Int.max_self]; done))), by (exact blk), by (exact blk), by (exact blk), by (exact blk), by (exact blk), by (exact blk), by (exact blk), by (exact blk), by (exact kpt)⟩ ?_
                      clear rn rt rl rm rx rp bL bH q1 q2 q3 q4 hk rnc0 rnf0 rnc1 rnf1 rnc2 rnf2 rnc3 rnf3 rlc0 rlf0 rlc1 rlf1 rlc2 rlf2 rlc3 rlf3 rmc0 rmf0 rmc1 rmf1 rmc2 rmf2 rmc3 rmf3 rnl rll rml
                      rintro Y ⟨rn, rt, rl, rm, rx, rp, bL, bH, q1, q2, q3, q4, hk⟩
                      have rlc0 := rl.cell 0
                      have rlf0 := rl.free 0
                      have rlc1 := rl.cell 1
                      have rlf1 := rl.free 1
                      have rlc2 := rl.cell 2
                      have rlf2 := rl.free 2
                      have rlc3 := rl.cell 3
                      have rlf3 := rl.free 3
                      have rll := rl.lt
                      simp at rlc0 rlc1 rlc2 rlc3
                      have rmc0 := rm.cell 0
                      have rmf0 := rm.free 0
                      have rmc1 := rm.cell 1
                      have rmf1 := rm.free 1
                      have rmc2 := rm.cell 2
                      have rmf2 := rm.free 2
                      have rmc3 := rm.cell 3
                      have rmf3 := rm.free 3
                      have rml := rm.lt
                      simp at rmc0 rmc1 rmc2 rmc3
                      go_region
                      all_goals go_wp2
                      all_goals go_roundw
                      case rel => exact ⟨4, by omega, by go_num, by (exact blk), by (exact blk), show Blk _ _ #[.int .i64 (ls n x 1 0), .int .i64 (ls n x 1 1), .int .i64 (ls n x 1 2), .int .i64 (ls n x 1 3)] _ from by (refine Blk.cast (arr := ?_) ?_ ?_; rotate_left 1; (focus (exact blk)); (first | rfl | (simp; done) | (simp [ls, ms, Int.min_self, Int.max_self]; done))), show Blk _ _ #[.int .i64 (ms n x 1 0), .int .i64 (ms n x 1 1), .int .i64 (ms n x 1 2), .int .i64 (ms n x 1 3)] _ from by (refine Blk.cast (arr := ?_) ?_ ?_; rotate_left 1; (focus ((repeat (with_reducible refine Blk.drew ?_)); with_reducible refine Blk.set (arr := #[.int .i64 (ms n x 1 0), .int .i64 (ms n x 1 1), .int .i64 (ms n x 1 2), .int .i64 (ms n x 1 3)]) ?_ _ _; (exact blk))); (first | rfl | (simp; done) | (simp [ls, ms, Int.min_self, Int.max_self]; done))), by (exact blk), by (exact blk), by (exact blk), by (exact blk), by (exact blk), by (exact blk), by (exact blk), by (exact blk), by (exact kpt)⟩
                      case measure => simp [intOf]
                    · as_aux_lemma =>
                      simp only [mk4] at rl rm
                      go_wp2
                      go_roundw
                      case rel => exact ⟨1, by omega, by go_num, rt, rl, rm, rx, rp, bL, bH, q1, q2, q3, q4, hk⟩
                      case measure => simp [intOf]
              · replace rl : Blk wj (b + 1) #[.int .i64 (ls n x 1 0), .int .i64 (ls n x 1 1), .int .i64 (ls n x 1 2), .int .i64 (ls n x 1 3)] 96 := rl
                replace rm : Blk wj (b + 1 + 1) #[.int .i64 (ms n x 1 0), .int .i64 (ms n x 1 1), .int .i64 (ms n x 1 2), .int .i64 (ms n x 1 3)] 96 := rm
                have rtc0 := rt.cell 0
                have rtf0 := rt.free 0
                have rtc1 := rt.cell 1
                have rtf1 := rt.free 1
                have rtl := rt.lt
                simp at rtc0 rtc1
                have t1 := num_bd (n := n) (p := x.alo) (w := x.whi) hnb (by omega) (by omega) 1
                have t3 := num_bd (n := n) (p := x.alo) (w := x.whi) hnb (by omega) (by omega) 3
                have u1 : IntKind.i64.wrap (x.whi * x.alo) = x.whi * x.alo := by simp only [num] at t1; rw [IntKind.wrap_i64]; omega
                have u2 : IntKind.i64.wrap (n - x.alo) = n - x.alo := by rw [IntKind.wrap_i64]; omega
                have u3 : IntKind.i64.wrap x.whi = x.whi := by rw [IntKind.wrap_i64]; omega
                by_cases hp : x.alo < n
                · have HP := Lib.hid (show cA n x.alo = 1 by unfold cA; rw [if_pos hp])
                  have u4 : IntKind.i64.wrap (x.whi * (n - x.alo)) = x.whi * (n - x.alo) := by simp only [num, cA, if_pos hp, Int.mul_one] at t3; rw [IntKind.wrap_i64]; omega
                  clear t1 t3
                  go_wp2
                  go_loopw [121] (fun i wk => ∃ e : Nat, e ≤ 4 ∧ i = .int .i64 e ∧ Blk wk wj.heap.size #[.int .i64 (num n x.alo x.whi 0), .int .i64 (num n x.alo x.whi 1), .int .i64 (num n x.alo x.whi 2), .int .i64 (num n x.alo x.whi 3)] 3 ∧ Blk wk wi.heap.size #[.int .i64 x.wlo, .int .i64 x.whi] 3 ∧ Blk wk (b + 1) (mk4 (ls n x 1) (ls n x 2) e) 96 ∧ Blk wk (b + 1 + 1) (mk4 (ms n x 1) (ms n x 2) e) 96 ∧ Blk wk b #[.int .i64 x.alo, .int .i64 x.ahi, .int .i64 x.wlo, .int .i64 x.whi] 88 ∧ Blk wk V.heap.size #[.int .i64 x.alo, .int .i64 x.ahi] 3 ∧ Blk wk nL #[.int .i64 (F 0), .int .i64 (F 1), .int .i64 (F 2), .int .i64 (F 3)] 96 ∧ Blk wk (nL + 1) #[.int .i64 (G 0), .int .i64 (G 1), .int .i64 (G 2), .int .i64 (G 3)] 96 ∧ Blk wk n1 #[.int .i64 l1, .int .i64 l2] 49 ∧ Blk wk (n1 + 1) #[.int .i64 m1, .int .i64 m2] 49 ∧ Blk wk n2 #[.int .i64 s1, .int .i64 s2] 49 ∧ Blk wk n3 #[.int .i64 d1, .int .i64 d2] 49 ∧ Kept w wk) (fun i _ => 4 - (intOf i).toNat)
                  case atStart => exact ⟨0, by omega, rfl, by (refine Blk.cast (arr := ?_) ?_ ?_; rotate_left 1; (focus (exact blk)); (first | rfl | (simp; done) | (simp [num, HP.out]; done))), by (exact blk), show Blk _ _ #[.int .i64 (ls n x 1 0), .int .i64 (ls n x 1 1), .int .i64 (ls n x 1 2), .int .i64 (ls n x 1 3)] _ from by (exact blk), show Blk _ _ #[.int .i64 (ms n x 1 0), .int .i64 (ms n x 1 1), .int .i64 (ms n x 1 2), .int .i64 (ms n x 1 3)] _ from by (exact blk), by (exact blk), by (exact blk), by (exact blk), by (exact blk), by (exact blk), by (exact blk), by (exact blk), by (exact blk), by (exact kpt)⟩
                  case round =>
                    rename World => wk
                    clear rt rl rm rx rp bL bH q1 q2 q3 q4 hk
                    obtain ⟨e, he, rfl, rn, rt, rl, rm, rx, rp, bL, bH, q1, q2, q3, q4, hk⟩ := hrel
                    have e9 := rn.lt
                    rcases (by omega : e = 0 ∨ e = 1 ∨ e = 2 ∨ e = 3 ∨ e = 4) with rfl | rfl | rfl | rfl | rfl
                    · as_aux_lemma =>
                      simp only [mk4] at rl rm
                      have rnc0 := rn.cell 0
                      have rnf0 := rn.free 0
                      have rnc1 := rn.cell 1
                      have rnf1 := rn.free 1
                      have rnc2 := rn.cell 2
                      have rnf2 := rn.free 2
                      have rnc3 := rn.cell 3
                      have rnf3 := rn.free 3
                      have rnl := rn.lt
                      simp at rnc0 rnc1 rnc2 rnc3
                      have rlc0 := rl.cell 0
                      have rlf0 := rl.free 0
                      have rlc1 := rl.cell 1
                      have rlf1 := rl.free 1
                      have rlc2 := rl.cell 2
                      have rlf2 := rl.free 2
                      have rlc3 := rl.cell 3
                      have rlf3 := rl.free 3
                      have rll := rl.lt
                      simp at rlc0 rlc1 rlc2 rlc3
                      have rmc0 := rm.cell 0
                      have rmf0 := rm.free 0
                      have rmc1 := rm.cell 1
                      have rmf1 := rm.free 1
                      have rmc2 := rm.cell 2
                      have rmf2 := rm.free 2
                      have rmc3 := rm.cell 3
                      have rmf3 := rm.free 3
                      have rml := rm.lt
                      simp at rmc0 rmc1 rmc2 rmc3
                      go_upto_region 30 with fail
                      refine at_world (S := fun Y => Blk Y wj.heap.size #[.int .i64 (num n x.alo x.whi 0), .int .i64 (num n x.alo x.whi 1), .int .i64 (num n x.alo x.whi 2), .int .i64 (num n x.alo x.whi 3)] 3 ∧ Blk Y wi.heap.size #[.int .i64 x.wlo, .int .i64 x.whi] 3 ∧ Blk Y (b + 1) #[.int .i64 (ls n x 1 0), .int .i64 (ls n x 1 1), .int .i64 (ls n x 1 2), .int .i64 (ls n x 1 3)] 96 ∧ Blk Y (b + 1 + 1) #[.int .i64 (ms n x 1 0), .int .i64 (ms n x 1 1), .int .i64 (ms n x 1 2), .int .i64 (ms n x 1 3)] 96 ∧ Blk Y b #[.int .i64 x.alo, .int .i64 x.ahi, .int .i64 x.wlo, .int .i64 x.whi] 88 ∧ Blk Y V.heap.size #[.int .i64 x.alo, .int .i64 x.ahi] 3 ∧ Blk Y nL #[.int .i64 (F 0), .int .i64 (F 1), .int .i64 (F 2), .int .i64 (F 3)] 96 ∧ Blk Y (nL + 1) #[.int .i64 (G 0), .int .i64 (G 1), .int .i64 (G 2), .int .i64 (G 3)] 96 ∧ Blk Y n1 #[.int .i64 l1, .int .i64 l2] 49 ∧ Blk Y (n1 + 1) #[.int .i64 m1, .int .i64 m2] 49 ∧ Blk Y n2 #[.int .i64 s1, .int .i64 s2] 49 ∧ Blk Y n3 #[.int .i64 d1, .int .i64 d2] 49 ∧ Kept w Y) ⟨by (exact blk), by (exact blk), by (refine Blk.cast (arr := ?_) ?_ ?_; rotate_left 1; (focus (exact blk)); (first | rfl | (simp; done) | (simp [ls, ms, Int.min_self, Int.max_self]; done))), by (refine Blk.cast (arr := ?_) ?_ ?_; rotate_left 1; (focus (exact blk)); (first | rfl | (simp; done) | (simp [ls, ms, Int.min_self, Int.max_self]; done))), by (exact blk), by (exact blk), by (exact blk), by (exact blk), by (exact blk), by (exact blk), by (exact blk), by (exact blk), by (exact kpt)⟩ ?_
                      clear rn rt rl rm rx rp bL bH q1 q2 q3 q4 hk rnc0 rnf0 rnc1 rnf1 rnc2 rnf2 rnc3 rnf3 rlc0 rlf0 rlc1 rlf1 rlc2 rlf2 rlc3 rlf3 rmc0 rmf0 rmc1 rmf1 rmc2 rmf2 rmc3 rmf3 rnl rll rml
                      rintro Y ⟨rn, rt, rl, rm, rx, rp, bL, bH, q1, q2, q3, q4, hk⟩
                      have rlc0 := rl.cell 0
                      have rlf0 := rl.free 0
                      have rlc1 := rl.cell 1
                      have rlf1 := rl.free 1
                      have rlc2 := rl.cell 2
                      have rlf2 := rl.free 2
                      have rlc3 := rl.cell 3
                      have rlf3 := rl.free 3
                      have rll := rl.lt
                      simp at rlc0 rlc1 rlc2 rlc3
                      have rmc0 := rm.cell 0
                      have rmf0 := rm.free 0
                      have rmc1 := rm.cell 1
                      have rmf1 := rm.free 1
                      have rmc2 := rm.cell 2
                      have rmf2 := rm.free 2
                      have rmc3 := rm.cell 3
                      have rmf3 := rm.free 3
                      have rml := rm.lt
                      simp at rmc0 rmc1 rmc2 rmc3
                      go_region
                      all_goals go_wp2
                      all_goals go_roundw
                      case rel => exact ⟨1, by omega, by go_num, by (exact blk), by (exact blk), show Blk _ _ #[.int .i64 (ls n x 2 0), .int .i64 (ls n x 1 1), .int .i64 (ls n x 1 2), .int .i64 (ls n x 1 3)] _ from by (refine Blk.cast (arr := ?_) ?_ ?_; rotate_left 1; (focus (exact blk)); (first | rfl | (simp; done) | (simp [ls, ms, Int.min_self, Int.max_self]; done))), show Blk _ _ #[.int .i64 (ms n x 2 0), .int .i64 (ms n x 1 1), .int .i64 (ms n x 1 2), .int .i64 (ms n x 1 3)] _ from by (refine Blk.cast (arr := ?_) ?_ ?_; rotate_left 1; (focus ((repeat (with_reducible refine Blk.drew ?_)); with_reducible refine Blk.set (arr := #[.int .i64 (ms n x 1 0), .int .i64 (ms n x 1 1), .int .i64 (ms n x 1 2), .int .i64 (ms n x 1 3)]) ?_ _ _; (exact blk))); (first | rfl | (simp; done) | (simp [ls, ms, Int.min_self, Int.max_self]; done))), by (exact blk), by (exact blk), by (exact blk), by (exact blk), by (exact blk), by (exact blk), by (exact blk), by (exact blk), by (exact kpt)⟩
                      case measure => simp [intOf]
                    · as_aux_lemma =>
                      simp only [mk4] at rl rm
                      have rnc0 := rn.cell 0
                      have rnf0 := rn.free 0
                      have rnc1 := rn.cell 1
                      have rnf1 := rn.free 1
                      have rnc2 := rn.cell 2
                      have rnf2 := rn.free 2
                      have rnc3 := rn.cell 3
                      have rnf3 := rn.free 3
                      have rnl := rn.lt
                      simp at rnc0 rnc1 rnc2 rnc3
                      have rlc0 := rl.cell 0
                      have rlf0 := rl.free 0
                      have rlc1 := rl.cell 1
                      have rlf1 := rl.free 1
                      have rlc2 := rl.cell 2
                      have rlf2 := rl.free 2
                      have rlc3 := rl.cell 3
                      have rlf3 := rl.free 3
                      have rll := rl.lt
                      simp at rlc0 rlc1 rlc2 rlc3
                      have rmc0 := rm.cell 0
                      have rmf0 := rm.free 0
                      have rmc1 := rm.cell 1
                      have rmf1 := rm.free 1
                      have rmc2 := rm.cell 2
                      have rmf2 := rm.free 2
                      have rmc3 := rm.cell 3
                      have rmf3 := rm.free 3
                      have rml := rm.lt
                      simp at rmc0 rmc1 rmc2 rmc3
                      go_upto_region 30 with fail
                      refine at_world (S := fun Y => Blk Y wj.heap.size #[.int .i64 (num n x.alo x.whi 0), .int .i64 (num n x.alo x.whi 1), .int .i64 (num n x.alo x.whi 2), .int .i64 (num n x.alo x.whi 3)] 3 ∧ Blk Y wi.heap.size #[.int .i64 x.wlo, .int .i64 x.whi] 3 ∧ Blk Y (b + 1) #[.int .i64 (ls n x 2 0), .int .i64 (ls n x 1 1), .int .i64 (ls n x 1 2), .int .i64 (ls n x 1 3)] 96 ∧ Blk Y (b + 1 + 1) #[.int .i64 (ms n x 2 0), .int .i64 (ms n x 1 1), .int .i64 (ms n x 1 2), .int .i64 (ms n x 1 3)] 96 ∧ Blk Y b #[.int .i64 x.alo, .int .i64 x.ahi, .int .i64 x.wlo, .int .i64 x.whi] 88 ∧ Blk Y V.heap.size #[.int .i64 x.alo, .int .i64 x.ahi] 3 ∧ Blk Y nL #[.int .i64 (F 0), .int .i64 (F 1), .int .i64 (F 2), .int .i64 (F 3)] 96 ∧ Blk Y (nL + 1) #[.int .i64 (G 0), .int .i64 (G 1), .int .i64 (G 2), .int .i64 (G 3)] 96 ∧ Blk Y n1 #[.int .i64 l1, .int .i64 l2] 49 ∧ Blk Y (n1 + 1) #[.int .i64 m1, .int .i64 m2] 49 ∧ Blk Y n2 #[.int .i64 s1, .int .i64 s2] 49 ∧ Blk Y n3 #[.int .i64 d1, .int .i64 d2] 49 ∧ Kept w Y) ⟨by (exact blk), by (exact blk), by (refine Blk.cast (arr := ?_) ?_ ?_; rotate_left 1; (focus (exact blk)); (first | rfl | (simp; done) | (simp [ls, ms, Int.min_self, Int.max_self]; done))), by (refine Blk.cast (arr := ?_) ?_ ?_; rotate_left 1; (focus (exact blk)); (first | rfl | (simp; done) | (simp [ls, ms, Int.min_self, Int.max_self]; done))), by (exact blk), by (exact blk), by (exact blk), by (exact blk), by (exact blk), by (exact blk), by (exact blk), by (exact blk), by (exact kpt)⟩ ?_
                      clear rn rt rl rm rx rp bL bH q1 q2 q3 q4 hk rnc0 rnf0 rnc1 rnf1 rnc2 rnf2 rnc3 rnf3 rlc0 rlf0 rlc1 rlf1 rlc2 rlf2 rlc3 rlf3 rmc0 rmf0 rmc1 rmf1 rmc2 rmf2 rmc3 rmf3 rnl rll rml
                      rintro Y ⟨rn, rt, rl, rm, rx, rp, bL, bH, q1, q2, q3, q4, hk⟩
                      have rlc0 := rl.cell 0
                      have rlf0 := rl.free 0
                      have rlc1 := rl.cell 1
                      have rlf1 := rl.free 1
                      have rlc2 := rl.cell 2
                      have rlf2 := rl.free 2
                      have rlc3 := rl.cell 3
                      have rlf3 := rl.free 3
                      have rll := rl.lt
                      simp at rlc0 rlc1 rlc2 rlc3
                      have rmc0 := rm.cell 0
                      have rmf0 := rm.free 0
                      have rmc1 := rm.cell 1
                      have rmf1 := rm.free 1
                      have rmc2 := rm.cell 2
                      have rmf2 := rm.free 2
                      have rmc3 := rm.cell 3
                      have rmf3 := rm.free 3
                      have rml := rm.lt
                      simp at rmc0 rmc1 rmc2 rmc3
                      go_region
                      all_goals go_wp2
                      all_goals go_roundw
                      case rel => exact ⟨2, by omega, by go_num, by (exact blk), by (exact blk), show Blk _ _ #[.int .i64 (ls n x 2 0), .int .i64 (ls n x 2 1), .int .i64 (ls n x 1 2), .int .i64 (ls n x 1 3)] _ from by (refine Blk.cast (arr := ?_) ?_ ?_; rotate_left 1; (focus (exact blk)); (first | rfl | (simp; done) | (simp [ls, ms, Int.min_self, Int.max_self]; done))), show Blk _ _ #[.int .i64 (ms n x 2 0), .int .i64 (ms n x 2 1), .int .i64 (ms n x 1 2), .int .i64 (ms n x 1 3)] _ from by (refine Blk.cast (arr := ?_) ?_ ?_; rotate_left 1; (focus ((repeat (with_reducible refine Blk.drew ?_)); with_reducible refine Blk.set (arr := #[.int .i64 (ms n x 2 0), .int .i64 (ms n x 1 1), .int .i64 (ms n x 1 2), .int .i64 (ms n x 1 3)]) ?_ _ _; (exact blk))); (first | rfl | (simp; done) | (simp [ls, ms, Int.min_self, Int.max_self]; done))), by (exact blk), by (exact blk), by (exact blk), by (exact blk), by (exact blk), by (exact blk), by (exact blk), by (exact blk), by (exact kpt)⟩
                      case measure => simp [intOf]
                    · as_aux_lemma =>
                      simp only [mk4] at rl rm
                      have rnc0 := rn.cell 0
                      have rnf0 := rn.free 0
                      have rnc1 := rn.cell 1
                      have rnf1 := rn.free 1
                      have rnc2 := rn.cell 2
                      have rnf2 := rn.free 2
                      have rnc3 := rn.cell 3
                      have rnf3 := rn.free 3
                      have rnl := rn.lt
                      simp at rnc0 rnc1 rnc2 rnc3
                      have rlc0 := rl.cell 0
                      have rlf0 := rl.free 0
                      have rlc1 := rl.cell 1
                      have rlf1 := rl.free 1
                      have rlc2 := rl.cell 2
                      have rlf2 := rl.free 2
                      have rlc3 := rl.cell 3
                      have rlf3 := rl.free 3
                      have rll := rl.lt
                      simp at rlc0 rlc1 rlc2 rlc3
                      have rmc0 := rm.cell 0
                      have rmf0 := rm.free 0
                      have rmc1 := rm.cell 1
                      have rmf1 := rm.free 1
                      have rmc2 := rm.cell 2
                      have rmf2 := rm.free 2
                      have rmc3 := rm.cell 3
                      have rmf3 := rm.free 3
                      have rml := rm.lt
                      simp at rmc0 rmc1 rmc2 rmc3
                      go_upto_region 30 with fail
                      refine at_world (S := fun Y => Blk Y wj.heap.size #[.int .i64 (num n x.alo x.whi 0), .int .i64 (num n x.alo x.whi 1), .int .i64 (num n x.alo x.whi 2), .int .i64 (num n x.alo x.whi 3)] 3 ∧ Blk Y wi.heap.size #[.int .i64 x.wlo, .int .i64 x.whi] 3 ∧ Blk Y (b + 1) #[.int .i64 (ls n x 2 0), .int .i64 (ls n x 2 1), .int .i64 (ls n x 1 2), .int .i64 (ls n x 1 3)] 96 ∧ Blk Y (b + 1 + 1) #[.int .i64 (ms n x 2 0), .int .i64 (ms n x 2 1), .int .i64 (ms n x 1 2), .int .i64 (ms n x 1 3)] 96 ∧ Blk Y b #[.int .i64 x.alo, .int .i64 x.ahi, .int .i64 x.wlo, .int .i64 x.whi] 88 ∧ Blk Y V.heap.size #[.int .i64 x.alo, .int .i64 x.ahi] 3 ∧ Blk Y nL #[.int .i64 (F 0), .int .i64 (F 1), .int .i64 (F 2), .int .i64 (F 3)] 96 ∧ Blk Y (nL + 1) #[.int .i64 (G 0), .int .i64 (G 1), .int .i64 (G 2), .int .i64 (G 3)] 96 ∧ Blk Y n1 #[.int .i64 l1, .int .i64 l2] 49 ∧ Blk Y (n1 + 1) #[.int .i64 m1, .int .i64 m2] 49 ∧ Blk Y n2 #[.int .i64 s1, .int .i64 s2] 49 ∧ Blk Y n3 #[.int .i64 d1, .int .i64 d2] 49 ∧ Kept w Y) ⟨by (exact blk), by (exact blk), by (refine Blk.cast (arr := ?_) ?_ ?_; rotate_left 1; (focus (exact blk)); (first | rfl | (simp; done) | (simp [ls, ms, Int.min_self, Int.max_self]; done))), by (refine Blk.cast (arr := ?_) ?_ ?_; rotate_left 1; (focus (exact blk)); (first | rfl | (simp; done) | (simp [ls, ms, Int.min_self, Int.max_self]; done))), by (exact blk), by (exact blk), by (exact blk), by (exact blk), by (exact blk), by (exact blk), by (exact blk), by (exact blk), by (exact kpt)⟩ ?_
                      clear rn rt rl rm rx rp bL bH q1 q2 q3 q4 hk rnc0 rnf0 rnc1 rnf1 rnc2 rnf2 rnc3 rnf3 rlc0 rlf0 rlc1 rlf1 rlc2 rlf2 rlc3 rlf3 rmc0 rmf0 rmc1 rmf1 rmc2 rmf2 rmc3 rmf3 rnl rll rml
                      rintro Y ⟨rn, rt, rl, rm, rx, rp, bL, bH, q1, q2, q3, q4, hk⟩
                      have rlc0 := rl.cell 0
                      have rlf0 := rl.free 0
                      have rlc1 := rl.cell 1
                      have rlf1 := rl.free 1
                      have rlc2 := rl.cell 2
                      have rlf2 := rl.free 2
                      have rlc3 := rl.cell 3
                      have rlf3 := rl.free 3
                      have rll := rl.lt
                      simp at rlc0 rlc1 rlc2 rlc3
                      have rmc0 := rm.cell 0
                      have rmf0 := rm.free 0
                      have rmc1 := rm.cell 1
                      have rmf1 := rm.free 1
                      have rmc2 := rm.cell 2
                      have rmf2 := rm.free 2
                      have rmc3 := rm.cell 3
                      have rmf3 := rm.free 3
                      have rml := rm.lt
                      simp at rmc0 rmc1 rmc2 rmc3
                      go_region
                      all_goals go_wp2
                      all_goals go_roundw
                      case rel => exact ⟨3, by omega, by go_num, by (exact blk), by (exact blk), show Blk _ _ #[.int .i64 (ls n x 2 0), .int .i64 (ls n x 2 1), .int .i64 (ls n x 2 2), .int .i64 (ls n x 1 3)] _ from by (refine Blk.cast (arr := ?_) ?_ ?_; rotate_left 1; (focus (exact blk)); (first | rfl | (simp; done) | (simp [ls, ms, Int.min_self, Int.max_self]; done))), show Blk _ _ #[.int .i64 (ms n x 2 0), .int .i64 (ms n x 2 1), .int .i64 (ms n x 2 2), .int .i64 (ms n x 1 3)] _ from by (refine Blk.cast (arr := ?_) ?_ ?_; rotate_left 1; (focus ((repeat (with_reducible refine Blk.drew ?_)); with_reducible refine Blk.set (arr := #[.int .i64 (ms n x 2 0), .int .i64 (ms n x 2 1), .int .i64 (ms n x 1 2), .int .i64 (ms n x 1 3)]) ?_ _ _; (exact blk))); (first | rfl | (simp; done) | (simp [ls, ms, Int.min_self, Int.max_self]; done))), by (exact blk), by (exact blk), by (exact blk), by (exact blk), by (exact blk), by (exact blk), by (exact blk), by (exact blk), by (exact kpt)⟩
                      case measure => simp [intOf]
                    · as_aux_lemma =>
                      simp only [mk4] at rl rm
                      have rnc0 := rn.cell 0
                      have rnf0 := rn.free 0
                      have rnc1 := rn.cell 1
                      have rnf1 := rn.free 1
                      have rnc2 := rn.cell 2
                      have rnf2 := rn.free 2
                      have rnc3 := rn.cell 3
                      have rnf3 := rn.free 3
                      have rnl := rn.lt
                      simp at rnc0 rnc1 rnc2 rnc3
                      have rlc0 := rl.cell 0
                      have rlf0 := rl.free 0
                      have rlc1 := rl.cell 1
                      have rlf1 := rl.free 1
                      have rlc2 := rl.cell 2
                      have rlf2 := rl.free 2
                      have rlc3 := rl.cell 3
                      have rlf3 := rl.free 3
                      have rll := rl.lt
                      simp at rlc0 rlc1 rlc2 rlc3
                      have rmc0 := rm.cell 0
                      have rmf0 := rm.free 0
                      have rmc1 := rm.cell 1
                      have rmf1 := rm.free 1
                      have rmc2 := rm.cell 2
                      have rmf2 := rm.free 2
                      have rmc3 := rm.cell 3
                      have rmf3 := rm.free 3
                      have rml := rm.lt
                      simp at rmc0 rmc1 rmc2 rmc3
                      go_upto_region 30 with fail
                      refine at_world (S := fun Y => Blk Y wj.heap.size #[.int .i64 (num n x.alo x.whi 0), .int .i64 (num n x.alo x.whi 1), .int .i64 (num n x.alo x.whi 2), .int .i64 (num n x.alo x.whi 3)] 3 ∧ Blk Y wi.heap.size #[.int .i64 x.wlo, .int .i64 x.whi] 3 ∧ Blk Y (b + 1) #[.int .i64 (ls n x 2 0), .int .i64 (ls n x 2 1), .int .i64 (ls n x 2 2), .int .i64 (ls n x 1 3)] 96 ∧ Blk Y (b + 1 + 1) #[.int .i64 (ms n x 2 0), .int .i64 (ms n x 2 1), .int .i64 (ms n x 2 2), .int .i64 (ms n x 1 3)] 96 ∧ Blk Y b #[.int .i64 x.alo, .int .i64 x.ahi, .int .i64 x.wlo, .int .i64 x.whi] 88 ∧ Blk Y V.heap.size #[.int .i64 x.alo, .int .i64 x.ahi] 3 ∧ Blk Y nL #[.int .i64 (F 0), .int .i64 (F 1), .int .i64 (F 2), .int .i64 (F 3)] 96 ∧ Blk Y (nL + 1) #[.int .i64 (G 0), .int .i64 (G 1), .int .i64 (G 2), .int .i64 (G 3)] 96 ∧ Blk Y n1 #[.int .i64 l1, .int .i64 l2] 49 ∧ Blk Y (n1 + 1) #[.int .i64 m1, .int .i64 m2] 49 ∧ Blk Y n2 #[.int .i64 s1, .int .i64 s2] 49 ∧ Blk Y n3 #[.int .i64 d1, .int .i64 d2] 49 ∧ Kept w Y) ⟨by (exact blk), by (exact blk), by (refine Blk.cast (arr := ?_) ?_ ?_; rotate_left 1; (focus (exact blk)); (first | rfl | (simp; done) | (simp [ls, ms, Int.min_self, Int.max_self]; done))), by (refine Blk.cast (arr := ?_) ?_ ?_; rotate_left 1; (focus (exact blk)); (first | rfl | (simp; done) | (simp [ls, ms, Int.min_self, Int.max_self]; done))), by (exact blk), by (exact blk), by (exact blk), by (exact blk), by (exact blk), by (exact blk), by (exact blk), by (exact blk), by (exact kpt)⟩ ?_
                      clear rn rt rl rm rx rp bL bH q1 q2 q3 q4 hk rnc0 rnf0 rnc1 rnf1 rnc2 rnf2 rnc3 rnf3 rlc0 rlf0 rlc1 rlf1 rlc2 rlf2 rlc3 rlf3 rmc0 rmf0 rmc1 rmf1 rmc2 rmf2 rmc3 rmf3 rnl rll rml
                      rintro Y ⟨rn, rt, rl, rm, rx, rp, bL, bH, q1, q2, q3, q4, hk⟩
                      have rlc0 := rl.cell 0
                      have rlf0 := rl.free 0
                      have rlc1 := rl.cell 1
                      have rlf1 := rl.free 1
                      have rlc2 := rl.cell 2
                      have rlf2 := rl.free 2
                      have rlc3 := rl.cell 3
                      have rlf3 := rl.free 3
                      have rll := rl.lt
                      simp at rlc0 rlc1 rlc2 rlc3
                      have rmc0 := rm.cell 0
                      have rmf0 := rm.free 0
                      have rmc1 := rm.cell 1
                      have rmf1 := rm.free 1
                      have rmc2 := rm.cell 2
                      have rmf2 := rm.free 2
                      have rmc3 := rm.cell 3
                      have rmf3 := rm.free 3
                      have rml := rm.lt
                      simp at rmc0 rmc1 rmc2 rmc3
                      go_region
                      all_goals go_wp2
                      all_goals go_roundw
                      case rel => exact ⟨4, by omega, by go_num, by (exact blk), by (exact blk), show Blk _ _ #[.int .i64 (ls n x 2 0), .int .i64 (ls n x 2 1), .int .i64 (ls n x 2 2), .int .i64 (ls n x 2 3)] _ from by (refine Blk.cast (arr := ?_) ?_ ?_; rotate_left 1; (focus (exact blk)); (first | rfl | (simp; done) | (simp [ls, ms, Int.min_self, Int.max_self]; done))), show Blk _ _ #[.int .i64 (ms n x 2 0), .int .i64 (ms n x 2 1), .int .i64 (ms n x 2 2), .int .i64 (ms n x 2 3)] _ from by (refine Blk.cast (arr := ?_) ?_ ?_; rotate_left 1; (focus ((repeat (with_reducible refine Blk.drew ?_)); with_reducible refine Blk.set (arr := #[.int .i64 (ms n x 2 0), .int .i64 (ms n x 2 1), .int .i64 (ms n x 2 2), .int .i64 (ms n x 1 3)]) ?_ _ _; (exact blk))); (first | rfl | (simp; done) | (simp [ls, ms, Int.min_self, Int.max_self]; done))), by (exact blk), by (exact blk), by (exact blk), by (exact blk), by (exact blk), by (exact blk), by (exact blk), by (exact blk), by (exact kpt)⟩
                      case measure => simp [intOf]
                    · as_aux_lemma =>
                      simp only [mk4] at rl rm
                      go_wp2
                      go_roundw
                      case rel => exact ⟨2, by omega, by go_num, rt, rl, rm, rx, rp, bL, bH, q1, q2, q3, q4, hk⟩
                      case measure => simp [intOf]
                · have HP := Lib.hid (show cA n x.alo = 0 by unfold cA; rw [if_neg hp])
                  clear t1 t3
                  go_wp2
                  go_loopw [121] (fun i wk => ∃ e : Nat, e ≤ 4 ∧ i = .int .i64 e ∧ Blk wk wj.heap.size #[.int .i64 (num n x.alo x.whi 0), .int .i64 (num n x.alo x.whi 1), .int .i64 (num n x.alo x.whi 2), .int .i64 (num n x.alo x.whi 3)] 3 ∧ Blk wk wi.heap.size #[.int .i64 x.wlo, .int .i64 x.whi] 3 ∧ Blk wk (b + 1) (mk4 (ls n x 1) (ls n x 2) e) 96 ∧ Blk wk (b + 1 + 1) (mk4 (ms n x 1) (ms n x 2) e) 96 ∧ Blk wk b #[.int .i64 x.alo, .int .i64 x.ahi, .int .i64 x.wlo, .int .i64 x.whi] 88 ∧ Blk wk V.heap.size #[.int .i64 x.alo, .int .i64 x.ahi] 3 ∧ Blk wk nL #[.int .i64 (F 0), .int .i64 (F 1), .int .i64 (F 2), .int .i64 (F 3)] 96 ∧ Blk wk (nL + 1) #[.int .i64 (G 0), .int .i64 (G 1), .int .i64 (G 2), .int .i64 (G 3)] 96 ∧ Blk wk n1 #[.int .i64 l1, .int .i64 l2] 49 ∧ Blk wk (n1 + 1) #[.int .i64 m1, .int .i64 m2] 49 ∧ Blk wk n2 #[.int .i64 s1, .int .i64 s2] 49 ∧ Blk wk n3 #[.int .i64 d1, .int .i64 d2] 49 ∧ Kept w wk) (fun i _ => 4 - (intOf i).toNat)
                  case atStart => exact ⟨0, by omega, rfl, by (refine Blk.cast (arr := ?_) ?_ ?_; rotate_left 1; (focus (exact blk)); (first | rfl | (simp; done) | (simp [num, HP.out]; done))), by (exact blk), show Blk _ _ #[.int .i64 (ls n x 1 0), .int .i64 (ls n x 1 1), .int .i64 (ls n x 1 2), .int .i64 (ls n x 1 3)] _ from by (exact blk), show Blk _ _ #[.int .i64 (ms n x 1 0), .int .i64 (ms n x 1 1), .int .i64 (ms n x 1 2), .int .i64 (ms n x 1 3)] _ from by (exact blk), by (exact blk), by (exact blk), by (exact blk), by (exact blk), by (exact blk), by (exact blk), by (exact blk), by (exact blk), by (exact kpt)⟩
                  case round =>
                    rename World => wk
                    clear rt rl rm rx rp bL bH q1 q2 q3 q4 hk
                    obtain ⟨e, he, rfl, rn, rt, rl, rm, rx, rp, bL, bH, q1, q2, q3, q4, hk⟩ := hrel
                    have e9 := rn.lt
                    rcases (by omega : e = 0 ∨ e = 1 ∨ e = 2 ∨ e = 3 ∨ e = 4) with rfl | rfl | rfl | rfl | rfl
                    · as_aux_lemma =>
                      simp only [mk4] at rl rm
                      have rnc0 := rn.cell 0
                      have rnf0 := rn.free 0
                      have rnc1 := rn.cell 1
                      have rnf1 := rn.free 1
                      have rnc2 := rn.cell 2
                      have rnf2 := rn.free 2
                      have rnc3 := rn.cell 3
                      have rnf3 := rn.free 3
                      have rnl := rn.lt
                      simp at rnc0 rnc1 rnc2 rnc3
                      have rlc0 := rl.cell 0
                      have rlf0 := rl.free 0
                      have rlc1 := rl.cell 1
                      have rlf1 := rl.free 1
                      have rlc2 := rl.cell 2
                      have rlf2 := rl.free 2
                      have rlc3 := rl.cell 3
                      have rlf3 := rl.free 3
                      have rll := rl.lt
                      simp at rlc0 rlc1 rlc2 rlc3
                      have rmc0 := rm.cell 0
                      have rmf0 := rm.free 0
                      have rmc1 := rm.cell 1
                      have rmf1 := rm.free 1
                      have rmc2 := rm.cell 2
                      have rmf2 := rm.free 2
                      have rmc3 := rm.cell 3
                      have rmf3 := rm.free 3
                      have rml := rm.lt
                      simp at rmc0 rmc1 rmc2 rmc3
                      go_upto_region 30 with fail
                      refine at_world (S := fun Y => Blk Y wj.heap.size #[.int .i64 (num n x.alo x.whi 0), .int .i64 (num n x.alo x.whi 1), .int .i64 (num n x.alo x.whi 2), .int .i64 (num n x.alo x.whi 3)] 3 ∧ Blk Y wi.heap.size #[.int .i64 x.wlo, .int .i64 x.whi] 3 ∧ Blk Y (b + 1) #[.int .i64 (ls n x 1 0), .int .i64 (ls n x 1 1), .int .i64 (ls n x 1 2), .int .i64 (ls n x 1 3)] 96 ∧ Blk Y (b + 1 + 1) #[.int .i64 (ms n x 1 0), .int .i64 (ms n x 1 1), .int .i64 (ms n x 1 2), .int .i64 (ms n x 1 3)] 96 ∧ Blk Y b #[.int .i64 x.alo, .int .i64 x.ahi, .int .i64 x.wlo, .int .i64 x.whi] 88 ∧ Blk Y V.heap.size #[.int .i64 x.alo, .int .i64 x.ahi] 3 ∧ Blk Y nL #[.int .i64 (F 0), .int .i64 (F 1), .int .i64 (F 2), .int .i64 (F 3)] 96 ∧ Blk Y (nL + 1) #[.int .i64 (G 0), .int .i64 (G 1), .int .i64 (G 2), .int .i64 (G 3)] 96 ∧ Blk Y n1 #[.int .i64 l1, .int .i64 l2] 49 ∧ Blk Y (n1 + 1) #[.int .i64 m1, .int .i64 m2] 49 ∧ Blk Y n2 #[.int .i64 s1, .int .i64 s2] 49 ∧ Blk Y n3 #[.int .i64 d1, .int .i64 d2] 49 ∧ Kept w Y) ⟨by (exact blk), by (exact blk), by (refine Blk.cast (arr := ?_) ?_ ?_; rotate_left 1; (focus (exact blk)); (first | rfl | (simp; done) | (simp [ls, ms, Int.min_self, Int.max_self]; done))), by (refine Blk.cast (arr := ?_) ?_ ?_; rotate_left 1; (focus (exact blk)); (first | rfl | (simp; done) | (simp [ls, ms, Int.min_self, Int.max_self]; done))), by (exact blk), by (exact blk), by (exact blk), by (exact blk), by (exact blk), by (exact blk), by (exact blk), by (exact blk), by (exact kpt)⟩ ?_
                      clear rn rt rl rm rx rp bL bH q1 q2 q3 q4 hk rnc0 rnf0 rnc1 rnf1 rnc2 rnf2 rnc3 rnf3 rlc0 rlf0 rlc1 rlf1 rlc2 rlf2 rlc3 rlf3 rmc0 rmf0 rmc1 rmf1 rmc2 rmf2 rmc3 rmf3 rnl rll rml
                      rintro Y ⟨rn, rt, rl, rm, rx, rp, bL, bH, q1, q2, q3, q4, hk⟩
                      have rlc0 := rl.cell 0
                      have rlf0 := rl.free 0
                      have rlc1 := rl.cell 1
                      have rlf1 := rl.free 1
                      have rlc2 := rl.cell 2
                      have rlf2 := rl.free 2
                      have rlc3 := rl.cell 3
                      have rlf3 := rl.free 3
                      have rll := rl.lt
                      simp at rlc0 rlc1 rlc2 rlc3
                      have rmc0 := rm.cell 0
                      have rmf0 := rm.free 0
                      have rmc1 := rm.cell 1
                      have rmf1 := rm.free 1
                      have rmc2 := rm.cell 2
                      have rmf2 := rm.free 2
                      have rmc3 := rm.cell 3
                      have rmf3 := rm.free 3
                      have rml := rm.lt
                      simp at rmc0 rmc1 rmc2 rmc3
                      go_region
                      all_goals go_wp2
                      all_goals go_roundw
                      case rel => exact ⟨1, by omega, by go_num, by (exact blk), by (exact blk), show Blk _ _ #[.int .i64 (ls n x 2 0), .int .i64 (ls n x 1 1), .int .i64 (ls n x 1 2), .int .i64 (ls n x 1 3)] _ from by (refine Blk.cast (arr := ?_) ?_ ?_; rotate_left 1; (focus (exact blk)); (first | rfl | (simp; done) | (simp [ls, ms, Int.min_self, Int.max_self]; done))), show Blk _ _ #[.int .i64 (ms n x 2 0), .int .i64 (ms n x 1 1), .int .i64 (ms n x 1 2), .int .i64 (ms n x 1 3)] _ from by (refine Blk.cast (arr := ?_) ?_ ?_; rotate_left 1; (focus ((repeat (with_reducible refine Blk.drew ?_)); with_reducible refine Blk.set (arr := #[.int .i64 (ms n x 1 0), .int .i64 (ms n x 1 1), .int .i64 (ms n x 1 2), .int .i64 (ms n x 1 3)]) ?_ _ _; (exact blk))); (first | rfl | (simp; done) | (simp [ls, ms, Int.min_self, Int.max_self]; done))), by (exact blk), by (exact blk), by (exact blk), by (exact blk), by (exact blk), by (exact blk), by (exact blk), by (exact blk), by (exact kpt)⟩
                      case measure => simp [intOf]
                    · as_aux_lemma =>
                      simp only [mk4] at rl rm
                      have rnc0 := rn.cell 0
                      have rnf0 := rn.free 0
                      have rnc1 := rn.cell 1
                      have rnf1 := rn.free 1
                      have rnc2 := rn.cell 2
                      have rnf2 := rn.free 2
                      have rnc3 := rn.cell 3
                      have rnf3 := rn.free 3
                      have rnl := rn.lt
                      simp at rnc0 rnc1 rnc2 rnc3
                      have rlc0 := rl.cell 0
                      have rlf0 := rl.free 0
                      have rlc1 := rl.cell 1
                      have rlf1 := rl.free 1
                      have rlc2 := rl.cell 2
                      have rlf2 := rl.free 2
                      have rlc3 := rl.cell 3
                      have rlf3 := rl.free 3
                      have rll := rl.lt
                      simp at rlc0 rlc1 rlc2 rlc3
                      have rmc0 := rm.cell 0
                      have rmf0 := rm.free 0
                      have rmc1 := rm.cell 1
                      have rmf1 := rm.free 1
                      have rmc2 := rm.cell 2
                      have rmf2 := rm.free 2
                      have rmc3 := rm.cell 3
                      have rmf3 := rm.free 3
                      have rml := rm.lt
                      simp at rmc0 rmc1 rmc2 rmc3
                      go_upto_region 30 with fail
                      refine at_world (S := fun Y => Blk Y wj.heap.size #[.int .i64 (num n x.alo x.whi 0), .int .i64 (num n x.alo x.whi 1), .int .i64 (num n x.alo x.whi 2), .int .i64 (num n x.alo x.whi 3)] 3 ∧ Blk Y wi.heap.size #[.int .i64 x.wlo, .int .i64 x.whi] 3 ∧ Blk Y (b + 1) #[.int .i64 (ls n x 2 0), .int .i64 (ls n x 1 1), .int .i64 (ls n x 1 2), .int .i64 (ls n x 1 3)] 96 ∧ Blk Y (b + 1 + 1) #[.int .i64 (ms n x 2 0), .int .i64 (ms n x 1 1), .int .i64 (ms n x 1 2), .int .i64 (ms n x 1 3)] 96 ∧ Blk Y b #[.int .i64 x.alo, .int .i64 x.ahi, .int .i64 x.wlo, .int .i64 x.whi] 88 ∧ Blk Y V.heap.size #[.int .i64 x.alo, .int .i64 x.ahi] 3 ∧ Blk Y nL #[.int .i64 (F 0), .int .i64 (F 1), .int .i64 (F 2), .int .i64 (F 3)] 96 ∧ Blk Y (nL + 1) #[.int .i64 (G 0), .int .i64 (G 1), .int .i64 (G 2), .int .i64 (G 3)] 96 ∧ Blk Y n1 #[.int .i64 l1, .int .i64 l2] 49 ∧ Blk Y (n1 + 1) #[.int .i64 m1, .int .i64 m2] 49 ∧ Blk Y n2 #[.int .i64 s1, .int .i64 s2] 49 ∧ Blk Y n3 #[.int .i64 d1, .int .i64 d2] 49 ∧ Kept w Y) ⟨by (exact blk), by (exact blk), by (refine Blk.cast (arr := ?_) ?_ ?_; rotate_left 1; (focus (exact blk)); (first | rfl | (simp; done) | (simp [ls, ms, Int.min_self, Int.max_self]; done))), by (refine Blk.cast (arr := ?_) ?_ ?_; rotate_left 1; (focus (exact blk)); (first | rfl | (simp; done) | (simp [ls, ms, Int.min_self, Int.max_self]; done))), by (exact blk), by (exact blk), by (exact blk), by (exact blk), by (exact blk), by (exact blk), by (exact blk), by (exact blk), by (exact kpt)⟩ ?_
                      clear rn rt rl rm rx rp bL bH q1 q2 q3 q4 hk rnc0 rnf0 rnc1 rnf1 rnc2 rnf2 rnc3 rnf3 rlc0 rlf0 rlc1 rlf1 rlc2 rlf2 rlc3 rlf3 rmc0 rmf0 rmc1 rmf1 rmc2 rmf2 rmc3 rmf3 rnl rll rml
                      rintro Y ⟨rn, rt, rl, rm, rx, rp, bL, bH, q1, q2, q3, q4, hk⟩
                      have rlc0 := rl.cell 0
                      have rlf0 := rl.free 0
                      have rlc1 := rl.cell 1
                      have rlf1 := rl.free 1
                      have rlc2 := rl.cell 2
                      have rlf2 := rl.free 2
                      have rlc3 := rl.cell 3
                      have rlf3 := rl.free 3
                      have rll := rl.lt
                      simp at rlc0 rlc1 rlc2 rlc3
                      have rmc0 := rm.cell 0
                      have rmf0 := rm.free 0
                      have rmc1 := rm.cell 1
                      have rmf1 := rm.free 1
                      have rmc2 := rm.cell 2
                      have rmf2 := rm.free 2
                      have rmc3 := rm.cell 3
                      have rmf3 := rm.free 3
                      have rml := rm.lt
                      simp at rmc0 rmc1 rmc2 rmc3
                      go_region
                      all_goals go_wp2
                      all_goals go_roundw
                      case rel => exact ⟨2, by omega, by go_num, by (exact blk), by (exact blk), show Blk _ _ #[.int .i64 (ls n x 2 0), .int .i64 (ls n x 2 1), .int .i64 (ls n x 1 2), .int .i64 (ls n x 1 3)] _ from by (refine Blk.cast (arr := ?_) ?_ ?_; rotate_left 1; (focus (exact blk)); (first | rfl | (simp; done) | (simp [ls, ms, Int.min_self, Int.max_self]; done))), show Blk _ _ #[.int .i64 (ms n x 2 0), .int .i64 (ms n x 2 1), .int .i64 (ms n x 1 2), .int .i64 (ms n x 1 3)] _ from by (refine Blk.cast (arr := ?_) ?_ ?_; rotate_left 1; (focus ((repeat (with_reducible refine Blk.drew ?_)); with_reducible refine Blk.set (arr := #[.int .i64 (ms n x 2 0), .int .i64 (ms n x 1 1), .int .i64 (ms n x 1 2), .int .i64 (ms n x 1 3)]) ?_ _ _; (exact blk))); (first | rfl | (simp; done) | (simp [ls, ms, Int.min_self, Int.max_self]; done))), by (exact blk), by (exact blk), by (exact blk), by (exact blk), by (exact blk), by (exact blk), by (exact blk), by (exact blk), by (exact kpt)⟩
                      case measure => simp [intOf]
                    · as_aux_lemma =>
                      simp only [mk4] at rl rm
                      have rnc0 := rn.cell 0
                      have rnf0 := rn.free 0
                      have rnc1 := rn.cell 1
                      have rnf1 := rn.free 1
                      have rnc2 := rn.cell 2
                      have rnf2 := rn.free 2
                      have rnc3 := rn.cell 3
                      have rnf3 := rn.free 3
                      have rnl := rn.lt
                      simp at rnc0 rnc1 rnc2 rnc3
                      have rlc0 := rl.cell 0
                      have rlf0 := rl.free 0
                      have rlc1 := rl.cell 1
                      have rlf1 := rl.free 1
                      have rlc2 := rl.cell 2
                      have rlf2 := rl.free 2
                      have rlc3 := rl.cell 3
                      have rlf3 := rl.free 3
                      have rll := rl.lt
                      simp at rlc0 rlc1 rlc2 rlc3
                      have rmc0 := rm.cell 0
                      have rmf0 := rm.free 0
                      have rmc1 := rm.cell 1
                      have rmf1 := rm.free 1
                      have rmc2 := rm.cell 2
                      have rmf2 := rm.free 2
                      have rmc3 := rm.cell 3
                      have rmf3 := rm.free 3
                      have rml := rm.lt
                      simp at rmc0 rmc1 rmc2 rmc3
                      go_upto_region 30 with fail
                      refine at_world (S := fun Y => Blk Y wj.heap.size #[.int .i64 (num n x.alo x.whi 0), .int .i64 (num n x.alo x.whi 1), .int .i64 (num n x.alo x.whi 2), .int .i64 (num n x.alo x.whi 3)] 3 ∧ Blk Y wi.heap.size #[.int .i64 x.wlo, .int .i64 x.whi] 3 ∧ Blk Y (b + 1) #[.int .i64 (ls n x 2 0), .int .i64 (ls n x 2 1), .int .i64 (ls n x 1 2), .int .i64 (ls n x 1 3)] 96 ∧ Blk Y (b + 1 + 1) #[.int .i64 (ms n x 2 0), .int .i64 (ms n x 2 1), .int .i64 (ms n x 1 2), .int .i64 (ms n x 1 3)] 96 ∧ Blk Y b #[.int .i64 x.alo, .int .i64 x.ahi, .int .i64 x.wlo, .int .i64 x.whi] 88 ∧ Blk Y V.heap.size #[.int .i64 x.alo, .int .i64 x.ahi] 3 ∧ Blk Y nL #[.int .i64 (F 0), .int .i64 (F 1), .int .i64 (F 2), .int .i64 (F 3)] 96 ∧ Blk Y (nL + 1) #[.int .i64 (G 0), .int .i64 (G 1), .int .i64 (G 2), .int .i64 (G 3)] 96 ∧ Blk Y n1 #[.int .i64 l1, .int .i64 l2] 49 ∧ Blk Y (n1 + 1) #[.int .i64 m1, .int .i64 m2] 49 ∧ Blk Y n2 #[.int .i64 s1, .int .i64 s2] 49 ∧ Blk Y n3 #[.int .i64 d1, .int .i64 d2] 49 ∧ Kept w Y) ⟨by (exact blk), by (exact blk), by (refine Blk.cast (arr := ?_) ?_ ?_; rotate_left 1; (focus (exact blk)); (first | rfl | (simp; done) | (simp [ls, ms, Int.min_self, Int.max_self]; done))), by (refine Blk.cast (arr := ?_) ?_ ?_; rotate_left 1; (focus (exact blk)); (first | rfl | (simp; done) | (simp [ls, ms, Int.min_self, Int.max_self]; done))), by (exact blk), by (exact blk), by (exact blk), by (exact blk), by (exact blk), by (exact blk), by (exact blk), by (exact blk), by (exact kpt)⟩ ?_
                      clear rn rt rl rm rx rp bL bH q1 q2 q3 q4 hk rnc0 rnf0 rnc1 rnf1 rnc2 rnf2 rnc3 rnf3 rlc0 rlf0 rlc1 rlf1 rlc2 rlf2 rlc3 rlf3 rmc0 rmf0 rmc1 rmf1 rmc2 rmf2 rmc3 rmf3 rnl rll rml
                      rintro Y ⟨rn, rt, rl, rm, rx, rp, bL, bH, q1, q2, q3, q4, hk⟩
                      have rlc0 := rl.cell 0
                      have rlf0 := rl.free 0
                      have rlc1 := rl.cell 1
                      have rlf1 := rl.free 1
                      have rlc2 := rl.cell 2
                      have rlf2 := rl.free 2
                      have rlc3 := rl.cell 3
                      have rlf3 := rl.free 3
                      have rll := rl.lt
                      simp at rlc0 rlc1 rlc2 rlc3
                      have rmc0 := rm.cell 0
                      have rmf0 := rm.free 0
                      have rmc1 := rm.cell 1
                      have rmf1 := rm.free 1
                      have rmc2 := rm.cell 2
                      have rmf2 := rm.free 2
                      have rmc3 := rm.cell 3
                      have rmf3 := rm.free 3
                      have rml := rm.lt
                      simp at rmc0 rmc1 rmc2 rmc3
                      go_region
                      all_goals go_wp2
                      all_goals go_roundw
                      case rel => exact ⟨3, by omega, by go_num, by (exact blk), by (exact blk), show Blk _ _ #[.int .i64 (ls n x 2 0), .int .i64 (ls n x 2 1), .int .i64 (ls n x 2 2), .int .i64 (ls n x 1 3)] _ from by (refine Blk.cast (arr := ?_) ?_ ?_; rotate_left 1; (focus (exact blk)); (first | rfl | (simp; done) | (simp [ls, ms, Int.min_self, Int.max_self]; done))), show Blk _ _ #[.int .i64 (ms n x 2 0), .int .i64 (ms n x 2 1), .int .i64 (ms n x 2 2), .int .i64 (ms n x 1 3)] _ from by (refine Blk.cast (arr := ?_) ?_ ?_; rotate_left 1; (focus ((repeat (with_reducible refine Blk.drew ?_)); with_reducible refine Blk.set (arr := #[.int .i64 (ms n x 2 0), .int .i64 (ms n x 2 1), .int .i64 (ms n x 1 2), .int .i64 (ms n x 1 3)]) ?_ _ _; (exact blk))); (first | rfl | (simp; done) | (simp [ls, ms, Int.min_self, Int.max_self]; done))), by (exact blk), by (exact blk), by (exact blk), by (exact blk), by (exact blk), by (exact blk), by (exact blk), by (exact blk), by (exact kpt)⟩
                      case measure => simp [intOf]
                    · as_aux_lemma =>
                      simp only [mk4] at rl rm
                      have rnc0 := rn.cell 0
                      have rnf0 := rn.free 0
                      have rnc1 := rn.cell 1
                      have rnf1 := rn.free 1
                      have rnc2 := rn.cell 2
                      have rnf2 := rn.free 2
                      have rnc3 := rn.cell 3
                      have rnf3 := rn.free 3
                      have rnl := rn.lt
                      simp at rnc0 rnc1 rnc2 rnc3
                      have rlc0 := rl.cell 0
                      have rlf0 := rl.free 0
                      have rlc1 := rl.cell 1
                      have rlf1 := rl.free 1
                      have rlc2 := rl.cell 2
                      have rlf2 := rl.free 2
                      have rlc3 := rl.cell 3
                      have rlf3 := rl.free 3
                      have rll := rl.lt
                      simp at rlc0 rlc1 rlc2 rlc3
                      have rmc0 := rm.cell 0
                      have rmf0 := rm.free 0
                      have rmc1 := rm.cell 1
                      have rmf1 := rm.free 1
                      have rmc2 := rm.cell 2
                      have rmf2 := rm.free 2
                      have rmc3 := rm.cell 3
                      have rmf3 := rm.free 3
                      have rml := rm.lt
                      simp at rmc0 rmc1 rmc2 rmc3
                      go_upto_region 30 with fail
                      refine at_world (S := fun Y => Blk Y wj.heap.size #[.int .i64 (num n x.alo x.whi 0), .int .i64 (num n x.alo x.whi 1), .int .i64 (num n x.alo x.whi 2), .int .i64 (num n x.alo x.whi 3)] 3 ∧ Blk Y wi.heap.size #[.int .i64 x.wlo, .int .i64 x.whi] 3 ∧ Blk Y (b + 1) #[.int .i64 (ls n x 2 0), .int .i64 (ls n x 2 1), .int .i64 (ls n x 2 2), .int .i64 (ls n x 1 3)] 96 ∧ Blk Y (b + 1 + 1) #[.int .i64 (ms n x 2 0), .int .i64 (ms n x 2 1), .int .i64 (ms n x 2 2), .int .i64 (ms n x 1 3)] 96 ∧ Blk Y b #[.int .i64 x.alo, .int .i64 x.ahi, .int .i64 x.wlo, .int .i64 x.whi] 88 ∧ Blk Y V.heap.size #[.int .i64 x.alo, .int .i64 x.ahi] 3 ∧ Blk Y nL #[.int .i64 (F 0), .int .i64 (F 1), .int .i64 (F 2), .int .i64 (F 3)] 96 ∧ Blk Y (nL + 1) #[.int .i64 (G 0), .int .i64 (G 1), .int .i64 (G 2), .int .i64 (G 3)] 96 ∧ Blk Y n1 #[.int .i64 l1, .int .i64 l2] 49 ∧ Blk Y (n1 + 1) #[.int .i64 m1, .int .i64 m2] 49 ∧ Blk Y n2 #[.int .i64 s1, .int .i64 s2] 49 ∧ Blk Y n3 #[.int .i64 d1, .int .i64 d2] 49 ∧ Kept w Y) ⟨by (exact blk), by (exact blk), by (refine Blk.cast (arr := ?_) ?_ ?_; rotate_left 1; (focus (exact blk)); (first | rfl | (simp; done) | (simp [ls, ms, Int.min_self, Int.max_self]; done))), by (refine Blk.cast (arr := ?_) ?_ ?_; rotate_left 1; (focus (exact blk)); (first | rfl | (simp; done) | (simp [ls, ms, Int.min_self, Int.max_self]; done))), by (exact blk), by (exact blk), by (exact blk), by (exact blk), by (exact blk), by (exact blk), by (exact blk), by (exact blk), by (exact kpt)⟩ ?_
                      clear rn rt rl rm rx rp bL bH q1 q2 q3 q4 hk rnc0 rnf0 rnc1 rnf1 rnc2 rnf2 rnc3 rnf3 rlc0 rlf0 rlc1 rlf1 rlc2 rlf2 rlc3 rlf3 rmc0 rmf0 rmc1 rmf1 rmc2 rmf2 rmc3 rmf3 rnl rll rml
                      rintro Y ⟨rn, rt, rl, rm, rx, rp, bL, bH, q1, q2, q3, q4, hk⟩
                      have rlc0 := rl.cell 0
                      have rlf0 := rl.free 0
                      have rlc1 := rl.cell 1
                      have rlf1 := rl.free 1
                      have rlc2 := rl.cell 2
                      have rlf2 := rl.free 2
                      have rlc3 := rl.cell 3
                      have rlf3 := rl.free 3
                      have rll := rl.lt
                      simp at rlc0 rlc1 rlc2 rlc3
                      have rmc0 := rm.cell 0
                      have rmf0 := rm.free 0
                      have rmc1 := rm.cell 1
                      have rmf1 := rm.free 1
                      have rmc2 := rm.cell 2
                      have rmf2 := rm.free 2
                      have rmc3 := rm.cell 3
                      have rmf3 := rm.free 3
                      have rml := rm.lt
                      simp at rmc0 rmc1 rmc2 rmc3
                      go_region
                      all_goals go_wp2
                      all_goals go_roundw
                      case rel => exact ⟨4, by omega, by go_num, by (exact blk), by (exact blk), show Blk _ _ #[.int .i64 (ls n x 2 0), .int .i64 (ls n x 2 1), .int .i64 (ls n x 2 2), .int .i64 (ls n x 2 3)] _ from by (refine Blk.cast (arr := ?_) ?_ ?_; rotate_left 1; (focus (exact blk)); (first | rfl | (simp; done) | (simp [ls, ms, Int.min_self, Int.max_self]; done))), show Blk _ _ #[.int .i64 (ms n x 2 0), .int .i64 (ms n x 2 1), .int .i64 (ms n x 2 2), .int .i64 (ms n x 2 3)] _ from by (refine Blk.cast (arr := ?_) ?_ ?_; rotate_left 1; (focus ((repeat (with_reducible refine Blk.drew ?_)); with_reducible refine Blk.set (arr := #[.int .i64 (ms n x 2 0), .int .i64 (ms n x 2 1), .int .i64 (ms n x 2 2), .int .i64 (ms n x 1 3)]) ?_ _ _; (exact blk))); (first | rfl | (simp; done) | (simp [ls, ms, Int.min_self, Int.max_self]; done))), by (exact blk), by (exact blk), by (exact blk), by (exact blk), by (exact blk), by (exact blk), by (exact blk), by (exact blk), by (exact kpt)⟩
                      case measure => simp [intOf]
                    · as_aux_lemma =>
                      simp only [mk4] at rl rm
                      go_wp2
                      go_roundw
                      case rel => exact ⟨2, by omega, by go_num, rt, rl, rm, rx, rp, bL, bH, q1, q2, q3, q4, hk⟩
                      case measure => simp [intOf]
              · as_aux_lemma =>
                go_wp2
                go_roundw
                case rel => exact ⟨1, 1, by omega, rfl, by go_num, rl, rm, rx, rp, bL, bH, q1, q2, q3, q4, hk⟩
                case measure => simp [intOf]
          · obtain rfl : ci = 1 := by omega
            clear hci
            have rpc0 := rp.cell 0
            have rpf0 := rp.free 0
            have rpc1 := rp.cell 1
            have rpf1 := rp.free 1
            have rpl := rp.lt
            simp at rpc0 rpc1
            have rxc0 := rx.cell 0
            have rxf0 := rx.free 0
            have rxc1 := rx.cell 1
            have rxf1 := rx.free 1
            have rxc2 := rx.cell 2
            have rxf2 := rx.free 2
            have rxc3 := rx.cell 3
            have rxf3 := rx.free 3
            have rxl := rx.lt
            simp at rxc0 rxc1 rxc2 rxc3
            go_wp2
            go_loopw [97] (fun i wj => ∃ d : Nat, d ≤ 2 ∧ i = .int .i64 d ∧ Blk wj wi.heap.size #[.int .i64 x.wlo, .int .i64 x.whi] 3 ∧ Blk wj (b + 1) #[.int .i64 (ls n x (2 + d) 0), .int .i64 (ls n x (2 + d) 1), .int .i64 (ls n x (2 + d) 2), .int .i64 (ls n x (2 + d) 3)] 96 ∧ Blk wj (b + 1 + 1) #[.int .i64 (ms n x (2 + d) 0), .int .i64 (ms n x (2 + d) 1), .int .i64 (ms n x (2 + d) 2), .int .i64 (ms n x (2 + d) 3)] 96 ∧ Blk wj b #[.int .i64 x.alo, .int .i64 x.ahi, .int .i64 x.wlo, .int .i64 x.whi] 88 ∧ Blk wj V.heap.size #[.int .i64 x.alo, .int .i64 x.ahi] 3 ∧ Blk wj nL #[.int .i64 (F 0), .int .i64 (F 1), .int .i64 (F 2), .int .i64 (F 3)] 96 ∧ Blk wj (nL + 1) #[.int .i64 (G 0), .int .i64 (G 1), .int .i64 (G 2), .int .i64 (G 3)] 96 ∧ Blk wj n1 #[.int .i64 l1, .int .i64 l2] 49 ∧ Blk wj (n1 + 1) #[.int .i64 m1, .int .i64 m2] 49 ∧ Blk wj n2 #[.int .i64 s1, .int .i64 s2] 49 ∧ Blk wj n3 #[.int .i64 d1, .int .i64 d2] 49 ∧ Kept w wj) (fun i _ => 2 - (intOf i).toNat)
            case atStart => exact ⟨0, by omega, rfl, by (exact blkc), by (exact blk), by (exact blk), by (exact blk), by (exact blk), by (exact blk), by (exact blk), by (exact blk), by (exact blk), by (exact blk), by (exact blk), by (exact kpt)⟩
            case round =>
              rename World => wj
              clear rpc0 rpf0 rpc1 rpf1 rpl rxc0 rxf0 rxc1 rxf1 rxc2 rxf2 rxc3 rxf3 rxl
              clear rl rm rx rp bL bH q1 q2 q3 q4 hk
              obtain ⟨d, hd, rfl, rt, rl, rm, rx, rp, bL, bH, q1, q2, q3, q4, hk⟩ := hrel
              have e8 := rt.lt
              rcases (by omega : d = 0 ∨ d = 1 ∨ d = 2) with rfl | rfl | rfl
              · replace rl : Blk wj (b + 1) #[.int .i64 (ls n x 2 0), .int .i64 (ls n x 2 1), .int .i64 (ls n x 2 2), .int .i64 (ls n x 2 3)] 96 := rl
                replace rm : Blk wj (b + 1 + 1) #[.int .i64 (ms n x 2 0), .int .i64 (ms n x 2 1), .int .i64 (ms n x 2 2), .int .i64 (ms n x 2 3)] 96 := rm
                have rtc0 := rt.cell 0
                have rtf0 := rt.free 0
                have rtc1 := rt.cell 1
                have rtf1 := rt.free 1
                have rtl := rt.lt
                simp at rtc0 rtc1
                have t1 := num_bd (n := n) (p := x.ahi) (w := x.wlo) hnb (by omega) (by omega) 1
                have t3 := num_bd (n := n) (p := x.ahi) (w := x.wlo) hnb (by omega) (by omega) 3
                have u1 : IntKind.i64.wrap (x.wlo * x.ahi) = x.wlo * x.ahi := by simp only [num] at t1; rw [IntKind.wrap_i64]; omega
                have u2 : IntKind.i64.wrap (n - x.ahi) = n - x.ahi := by rw [IntKind.wrap_i64]; omega
                have u3 : IntKind.i64.wrap x.wlo = x.wlo := by rw [IntKind.wrap_i64]; omega
                by_cases hp : x.ahi < n
                · have HP := Lib.hid (show cA n x.ahi = 1 by unfold cA; rw [if_pos hp])
                  have u4 : IntKind.i64.wrap (x.wlo * (n - x.ahi)) = x.wlo * (n - x.ahi) := by simp only [num, cA, if_pos hp, Int.mul_one] at t3; rw [IntKind.wrap_i64]; omega
                  clear t1 t3
                  go_wp2
                  go_loopw [121] (fun i wk => ∃ e : Nat, e ≤ 4 ∧ i = .int .i64 e ∧ Blk wk wj.heap.size #[.int .i64 (num n x.ahi x.wlo 0), .int .i64 (num n x.ahi x.wlo 1), .int .i64 (num n x.ahi x.wlo 2), .int .i64 (num n x.ahi x.wlo 3)] 3 ∧ Blk wk wi.heap.size #[.int .i64 x.wlo, .int .i64 x.whi] 3 ∧ Blk wk (b + 1) (mk4 (ls n x 2) (ls n x 3) e) 96 ∧ Blk wk (b + 1 + 1) (mk4 (ms n x 2) (ms n x 3) e) 96 ∧ Blk wk b #[.int .i64 x.alo, .int .i64 x.ahi, .int .i64 x.wlo, .int .i64 x.whi] 88 ∧ Blk wk V.heap.size #[.int .i64 x.alo, .int .i64 x.ahi] 3 ∧ Blk wk nL #[.int .i64 (F 0), .int .i64 (F 1), .int .i64 (F 2), .int .i64 (F 3)] 96 ∧ Blk wk (nL + 1) #[.int .i64 (G 0), .int .i64 (G 1), .int .i64 (G 2), .int .i64 (G 3)] 96 ∧ Blk wk n1 #[.int .i64 l1, .int .i64 l2] 49 ∧ Blk wk (n1 + 1) #[.int .i64 m1, .int .i64 m2] 49 ∧ Blk wk n2 #[.int .i64 s1, .int .i64 s2] 49 ∧ Blk wk n3 #[.int .i64 d1, .int .i64 d2] 49 ∧ Kept w wk) (fun i _ => 4 - (intOf i).toNat)
                  case atStart => exact ⟨0, by omega, rfl, by (refine Blk.cast (arr := ?_) ?_ ?_; rotate_left 1; (focus (exact blk)); (first | rfl | (simp; done) | (simp [num, HP.out]; done))), by (exact blk), show Blk _ _ #[.int .i64 (ls n x 2 0), .int .i64 (ls n x 2 1), .int .i64 (ls n x 2 2), .int .i64 (ls n x 2 3)] _ from by (exact blk), show Blk _ _ #[.int .i64 (ms n x 2 0), .int .i64 (ms n x 2 1), .int .i64 (ms n x 2 2), .int .i64 (ms n x 2 3)] _ from by (exact blk), by (exact blk), by (exact blk), by (exact blk), by (exact blk), by (exact blk), by (exact blk), by (exact blk), by (exact blk), by (exact kpt)⟩
                  case round =>
                    rename World => wk
                    clear rt rl rm rx rp bL bH q1 q2 q3 q4 hk
                    obtain ⟨e, he, rfl, rn, rt, rl, rm, rx, rp, bL, bH, q1, q2, q3, q4, hk⟩ := hrel
                    have e9 := rn.lt
                    rcases (by omega : e = 0 ∨ e = 1 ∨ e = 2 ∨ e = 3 ∨ e = 4) with rfl | rfl | rfl | rfl | rfl
                    · as_aux_lemma =>
                      simp only [mk4] at rl rm
                      have rnc0 := rn.cell 0
                      have rnf0 := rn.free 0
                      have rnc1 := rn.cell 1
                      have rnf1 := rn.free 1
                      have rnc2 := rn.cell 2
                      have rnf2 := rn.free 2
                      have rnc3 := rn.cell 3
                      have rnf3 := rn.free 3
                      have rnl := rn.lt
                      simp at rnc0 rnc1 rnc2 rnc3
                      have rlc0 := rl.cell 0
                      have rlf0 := rl.free 0
                      have rlc1 := rl.cell 1
                      have rlf1 := rl.free 1
                      have rlc2 := rl.cell 2
                      have rlf2 := rl.free 2
                      have rlc3 := rl.cell 3
                      have rlf3 := rl.free 3
                      have rll := rl.lt
                      simp at rlc0 rlc1 rlc2 rlc3
                      have rmc0 := rm.cell 0
                      have rmf0 := rm.free 0
                      have rmc1 := rm.cell 1
                      have rmf1 := rm.free 1
                      have rmc2 := rm.cell 2
                      have rmf2 := rm.free 2
                      have rmc3 := rm.cell 3
                      have rmf3 := rm.free 3
                      have rml := rm.lt
                      simp at rmc0 rmc1 rmc2 rmc3
                      go_upto_region 30 with fail
                      refine at_world (S := fun Y => Blk Y wj.heap.size #[.int .i64 (num n x.ahi x.wlo 0), .int .i64 (num n x.ahi x.wlo 1), .int .i64 (num n x.ahi x.wlo 2), .int .i64 (num n x.ahi x.wlo 3)] 3 ∧ Blk Y wi.heap.size #[.int .i64 x.wlo, .int .i64 x.whi] 3 ∧ Blk Y (b + 1) #[.int .i64 (ls n x 2 0), .int .i64 (ls n x 2 1), .int .i64 (ls n x 2 2), .int .i64 (ls n x 2 3)] 96 ∧ Blk Y (b + 1 + 1) #[.int .i64 (ms n x 2 0), .int .i64 (ms n x 2 1), .int .i64 (ms n x 2 2), .int .i64 (ms n x 2 3)] 96 ∧ Blk Y b #[.int .i64 x.alo, .int .i64 x.ahi, .int .i64 x.wlo, .int .i64 x.whi] 88 ∧ Blk Y V.heap.size #[.int .i64 x.alo, .int .i64 x.ahi] 3 ∧ Blk Y nL #[.int .i64 (F 0), .int .i64 (F 1), .int .i64 (F 2), .int .i64 (F 3)] 96 ∧ Blk Y (nL + 1) #[.int .i64 (G 0), .int .i64 (G 1), .int .i64 (G 2), .int .i64 (G 3)] 96 ∧ Blk Y n1 #[.int .i64 l1, .int .i64 l2] 49 ∧ Blk Y (n1 + 1) #[.int .i64 m1, .int .i64 m2] 49 ∧ Blk Y n2 #[.int .i64 s1, .int .i64 s2] 49 ∧ Blk Y n3 #[.int .i64 d1, .int .i64 d2] 49 ∧ Kept w Y) ⟨by (exact blk), by (exact blk), by (refine Blk.cast (arr := ?_) ?_ ?_; rotate_left 1; (focus (exact blk)); (first | rfl | (simp; done) | (simp [ls, ms, Int.min_self, Int.max_self]; done))), by (refine Blk.cast (arr := ?_) ?_ ?_; rotate_left 1; (focus (exact blk)); (first | rfl | (simp; done) | (simp [ls, ms, Int.min_self, Int.max_self]; done))), by (exact blk), by (exact blk), by (exact blk), by (exact blk), by (exact blk), by (exact blk), by (exact blk), by (exact blk), by (exact kpt)⟩ ?_
                      clear rn rt rl rm rx rp bL bH q1 q2 q3 q4 hk rnc0 rnf0 rnc1 rnf1 rnc2 rnf2 rnc3 rnf3 rlc0 rlf0 rlc1 rlf1 rlc2 rlf2 rlc3 rlf3 rmc0 rmf0 rmc1 rmf1 rmc2 rmf2 rmc3 rmf3 rnl rll rml
                      rintro Y ⟨rn, rt, rl, rm, rx, rp, bL, bH, q1, q2, q3, q4, hk⟩
                      have rlc0 := rl.cell 0
                      have rlf0 := rl.free 0
                      have rlc1 := rl.cell 1
                      have rlf1 := rl.free 1
                      have rlc2 := rl.cell 2
                      have rlf2 := rl.free 2
                      have rlc3 := rl.cell 3
                      have rlf3 := rl.free 3
                      have rll := rl.lt
                      simp at rlc0 rlc1 rlc2 rlc3
                      have rmc0 := rm.cell 0
                      have rmf0 := rm.free 0
                      have rmc1 := rm.cell 1
                      have rmf1 := rm.free 1
                      have rmc2 := rm.cell 2
                      have rmf2 := rm.free 2
                      have rmc3 := rm.cell 3
                      have rmf3 := rm.free 3
                      have rml := rm.lt
                      simp at rmc0 rmc1 rmc2 rmc3
                      go_region
                      all_goals go_wp2
                      all_goals go_roundw
                      case rel => exact ⟨1, by omega, by go_num, by (exact blk), by (exact blk), show Blk _ _ #[.int .i64 (ls n x 3 0), .int .i64 (ls n x 2 1), .int .i64 (ls n x 2 2), .int .i64 (ls n x 2 3)] _ from by (refine Blk.cast (arr := ?_) ?_ ?_; rotate_left 1; (focus (exact blk)); (first | rfl | (simp; done) | (simp [ls, ms, Int.min_self, Int.max_self]; done))), show Blk _ _ #[.int .i64 (ms n x 3 0), .int .i64 (ms n x 2 1), .int .i64 (ms n x 2 2), .int .i64 (ms n x 2 3)] _ from by (refine Blk.cast (arr := ?_) ?_ ?_; rotate_left 1; (focus ((repeat (with_reducible refine Blk.drew ?_)); with_reducible refine Blk.set (arr := #[.int .i64 (ms n x 2 0), .int .i64 (ms n x 2 1), .int .i64 (ms n x 2 2), .int .i64 (ms n x 2 3)]) ?_ _ _; (exact blk))); (first | rfl | (simp; done) | (simp [ls, ms, Int.min_self, Int.max_self]; done))), by (exact blk), by (exact blk), by (exact blk), by (exact blk), by (exact blk), by (exact blk), by (exact blk), by (exact blk), by (exact kpt)⟩
                      case measure => simp [intOf]
                    · as_aux_lemma =>
                      simp only [mk4] at rl rm
                      have rnc0 := rn.cell 0
                      have rnf0 := rn.free 0
                      have rnc1 := rn.cell 1
                      have rnf1 := rn.free 1
                      have rnc2 := rn.cell 2
                      have rnf2 := rn.free 2
                      have rnc3 := rn.cell 3
                      have rnf3 := rn.free 3
                      have rnl := rn.lt
                      simp at rnc0 rnc1 rnc2 rnc3
                      have rlc0 := rl.cell 0
                      have rlf0 := rl.free 0
                      have rlc1 := rl.cell 1
                      have rlf1 := rl.free 1
                      have rlc2 := rl.cell 2
                      have rlf2 := rl.free 2
                      have rlc3 := rl.cell 3
                      have rlf3 := rl.free 3
                      have rll := rl.lt
                      simp at rlc0 rlc1 rlc2 rlc3
                      have rmc0 := rm.cell 0
                      have rmf0 := rm.free 0
                      have rmc1 := rm.cell 1
                      have rmf1 := rm.free 1
                      have rmc2 := rm.cell 2
                      have rmf2 := rm.free 2
                      have rmc3 := rm.cell 3
                      have rmf3 := rm.free 3
                      have rml := rm.lt
                      simp at rmc0 rmc1 rmc2 rmc3
                      go_upto_region 30 with fail
                      refine at_world (S := fun Y => Blk Y wj.heap.size #[.int .i64 (num n x.ahi x.wlo 0), .int .i64 (num n x.ahi x.wlo 1), .int .i64 (num n x.ahi x.wlo 2), .int .i64 (num n x.ahi x.wlo 3)] 3 ∧ Blk Y wi.heap.size #[.int .i64 x.wlo, .int .i64 x.whi] 3 ∧ Blk Y (b + 1) #[.int .i64 (ls n x 3 0), .int .i64 (ls n x 2 1), .int .i64 (ls n x 2 2), .int .i64 (ls n x 2 3)] 96 ∧ Blk Y (b + 1 + 1) #[.int .i64 (ms n x 3 0), .int .i64 (ms n x 2 1), .int .i64 (ms n x 2 2), .int .i64 (ms n x 2 3)] 96 ∧ Blk Y b #[.int .i64 x.alo, .int .i64 x.ahi, .int .i64 x.wlo, .int .i64 x.whi] 88 ∧ Blk Y V.heap.size #[.int .i64 x.alo, .int .i64 x.ahi] 3 ∧ Blk Y nL #[.int .i64 (F 0), .int .i64 (F 1), .int .i64 (F 2), .int .i64 (F 3)] 96 ∧ Blk Y (nL + 1) #[.int .i64 (G 0), .int .i64 (G 1), .int .i64 (G 2), .int .i64 (G 3)] 96 ∧ Blk Y n1 #[.int .i64 l1, .int .i64 l2] 49 ∧ Blk Y (n1 + 1) #[.int .i64 m1, .int .i64 m2] 49 ∧ Blk Y n2 #[.int .i64 s1, .int .i64 s2] 49 ∧ Blk Y n3 #[.int .i64 d1, .int .i64 d2] 49 ∧ Kept w Y) ⟨by (exact blk), by (exact blk), by (refine Blk.cast (arr := ?_) ?_ ?_; rotate_left 1; (focus (exact blk)); (first | rfl | (simp; done) | (simp [ls, ms, Int.min_self, Int.max_self]; done))), by (refine Blk.cast (arr := ?_) ?_ ?_; rotate_left 1; (focus (exact blk)); (first | rfl | (simp; done) | (simp [ls, ms, Int.min_self, Int.max_self]; done))), by (exact blk), by (exact blk), by (exact blk), by (exact blk), by (exact blk), by (exact blk), by (exact blk), by (exact blk), by (exact kpt)⟩ ?_
                      clear rn rt rl rm rx rp bL bH q1 q2 q3 q4 hk rnc0 rnf0 rnc1 rnf1 rnc2 rnf2 rnc3 rnf3 rlc0 rlf0 rlc1 rlf1 rlc2 rlf2 rlc3 rlf3 rmc0 rmf0 rmc1 rmf1 rmc2 rmf2 rmc3 rmf3 rnl rll rml
                      rintro Y ⟨rn, rt, rl, rm, rx, rp, bL, bH, q1, q2, q3, q4, hk⟩
                      have rlc0 := rl.cell 0
                      have rlf0 := rl.free 0
                      have rlc1 := rl.cell 1
                      have rlf1 := rl.free 1
                      have rlc2 := rl.cell 2
                      have rlf2 := rl.free 2
                      have rlc3 := rl.cell 3
                      have rlf3 := rl.free 3
                      have rll := rl.lt
                      simp at rlc0 rlc1 rlc2 rlc3
                      have rmc0 := rm.cell 0
                      have rmf0 := rm.free 0
                      have rmc1 := rm.cell 1
                      have rmf1 := rm.free 1
                      have rmc2 := rm.cell 2
                      have rmf2 := rm.free 2
                      have rmc3 := rm.cell 3
                      have rmf3 := rm.free 3
                      have rml := rm.lt
                      simp at rmc0 rmc1 rmc2 rmc3
                      go_region
                      all_goals go_wp2
                      all_goals go_roundw
                      case rel => exact ⟨2, by omega, by go_num, by (exact blk), by (exact blk), show Blk _ _ #[.int .i64 (ls n x 3 0), .int .i64 (ls n x 3 1), .int .i64 (ls n x 2 2), .int .i64 (ls n x 2 3)] _ from by (refine Blk.cast (arr := ?_) ?_ ?_; rotate_left 1; (focus (exact blk)); (first | rfl | (simp; done) | (simp [ls, ms, Int.min_self, Int.max_self]; done))), show Blk _ _ #[.int .i64 (ms n x 3 0), .int .i64 (ms n x 3 1), .int .i64 (ms n x 2 2), .int .i64 (ms n x 2 3)] _ from by (refine Blk.cast (arr := ?_) ?_ ?_; rotate_left 1; (focus ((repeat (with_reducible refine Blk.drew ?_)); with_reducible refine Blk.set (arr := #[.int .i64 (ms n x 3 0), .int .i64 (ms n x 2 1), .int .i64 (ms n x 2 2), .int .i64 (ms n x 2 3)]) ?_ _ _; (exact blk))); (first | rfl | (simp; done) | (simp [ls, ms, Int.min_self, Int.max_self]; done))), by (exact blk), by (exact blk), by (exact blk), by (exact blk), by (exact blk), by (exact blk), by (exact blk), by (exact blk), by (exact kpt)⟩
                      case measure => simp [intOf]
                    · as_aux_lemma =>
                      simp only [mk4] at rl rm
                      have rnc0 := rn.cell 0
                      have rnf0 := rn.free 0
                      have rnc1 := rn.cell 1
                      have rnf1 := rn.free 1
                      have rnc2 := rn.cell 2
                      have rnf2 := rn.free 2
                      have rnc3 := rn.cell 3
                      have rnf3 := rn.free 3
                      have rnl := rn.lt
                      simp at rnc0 rnc1 rnc2 rnc3
                      have rlc0 := rl.cell 0
                      have rlf0 := rl.free 0
                      have rlc1 := rl.cell 1
                      have rlf1 := rl.free 1
                      have rlc2 := rl.cell 2
                      have rlf2 := rl.free 2
                      have rlc3 := rl.cell 3
                      have rlf3 := rl.free 3
                      have rll := rl.lt
                      simp at rlc0 rlc1 rlc2 rlc3
                      have rmc0 := rm.cell 0
                      have rmf0 := rm.free 0
                      have rmc1 := rm.cell 1
                      have rmf1 := rm.free 1
                      have rmc2 := rm.cell 2
                      have rmf2 := rm.free 2
                      have rmc3 := rm.cell 3
                      have rmf3 := rm.free 3
                      have rml := rm.lt
                      simp at rmc0 rmc1 rmc2 rmc3
                      go_upto_region 30 with fail
                      refine at_world (S := fun Y => Blk Y wj.heap.size #[.int .i64 (num n x.ahi x.wlo 0), .int .i64 (num n x.ahi x.wlo 1), .int .i64 (num n x.ahi x.wlo 2), .int .i64 (num n x.ahi x.wlo 3)] 3 ∧ Blk Y wi.heap.size #[.int .i64 x.wlo, .int .i64 x.whi] 3 ∧ Blk Y (b + 1) #[.int .i64 (ls n x 3 0), .int .i64 (ls n x 3 1), .int .i64 (ls n x 2 2), .int .i64 (ls n x 2 3)] 96 ∧ Blk Y (b + 1 + 1) #[.int .i64 (ms n x 3 0), .int .i64 (ms n x 3 1), .int .i64 (ms n x 2 2), .int .i64 (ms n x 2 3)] 96 ∧ Blk Y b #[.int .i64 x.alo, .int .i64 x.ahi, .int .i64 x.wlo, .int .i64 x.whi] 88 ∧ Blk Y V.heap.size #[.int .i64 x.alo, .int .i64 x.ahi] 3 ∧ Blk Y nL #[.int .i64 (F 0), .int .i64 (F 1), .int .i64 (F 2), .int .i64 (F 3)] 96 ∧ Blk Y (nL + 1) #[.int .i64 (G 0), .int .i64 (G 1), .int .i64 (G 2), .int .i64 (G 3)] 96 ∧ Blk Y n1 #[.int .i64 l1, .int .i64 l2] 49 ∧ Blk Y (n1 + 1) #[.int .i64 m1, .int .i64 m2] 49 ∧ Blk Y n2 #[.int .i64 s1, .int .i64 s2] 49 ∧ Blk Y n3 #[.int .i64 d1, .int .i64 d2] 49 ∧ Kept w Y) ⟨by (exact blk), by (exact blk), by (refine Blk.cast (arr := ?_) ?_ ?_; rotate_left 1; (focus (exact blk)); (first | rfl | (simp; done) | (simp [ls, ms, Int.min_self, Int.max_self]; done))), by (refine Blk.cast (arr := ?_) ?_ ?_; rotate_left 1; (focus (exact blk)); (first | rfl | (simp; done) | (simp [ls, ms, Int.min_self, Int.max_self]; done))), by (exact blk), by (exact blk), by (exact blk), by (exact blk), by (exact blk), by (exact blk), by (exact blk), by (exact blk), by (exact kpt)⟩ ?_
                      clear rn rt rl rm rx rp bL bH q1 q2 q3 q4 hk rnc0 rnf0 rnc1 rnf1 rnc2 rnf2 rnc3 rnf3 rlc0 rlf0 rlc1 rlf1 rlc2 rlf2 rlc3 rlf3 rmc0 rmf0 rmc1 rmf1 rmc2 rmf2 rmc3 rmf3 rnl rll rml
                      rintro Y ⟨rn, rt, rl, rm, rx, rp, bL, bH, q1, q2, q3, q4, hk⟩
                      have rlc0 := rl.cell 0
                      have rlf0 := rl.free 0
                      have rlc1 := rl.cell 1
                      have rlf1 := rl.free 1
                      have rlc2 := rl.cell 2
                      have rlf2 := rl.free 2
                      have rlc3 := rl.cell 3
                      have rlf3 := rl.free 3
                      have rll := rl.lt
                      simp at rlc0 rlc1 rlc2 rlc3
                      have rmc0 := rm.cell 0
                      have rmf0 := rm.free 0
                      have rmc1 := rm.cell 1
                      have rmf1 := rm.free 1
                      have rmc2 := rm.cell 2
                      have rmf2 := rm.free 2
                      have rmc3 := rm.cell 3
                      have rmf3 := rm.free 3
                      have rml := rm.lt
                      simp at rmc0 rmc1 rmc2 rmc3
                      go_region
                      all_goals go_wp2
                      all_goals go_roundw
                      case rel => exact ⟨3, by omega, by go_num, by (exact blk), by (exact blk), show Blk _ _ #[.int .i64 (ls n x 3 0), .int .i64 (ls n x 3 1), .int .i64 (ls n x 3 2), .int .i64 (ls n x 2 3)] _ from by (refine Blk.cast (arr := ?_) ?_ ?_; rotate_left 1; (focus (exact blk)); (first | rfl | (simp; done) | (simp [ls, ms, Int.min_self, Int.max_self]; done))), show Blk _ _ #[.int .i64 (ms n x 3 0), .int .i64 (ms n x 3 1), .int .i64 (ms n x 3 2), .int .i64 (ms n x 2 3)] _ from by (refine Blk.cast (arr := ?_) ?_ ?_; rotate_left 1; (focus ((repeat (with_reducible refine Blk.drew ?_)); with_reducible refine Blk.set (arr := #[.int .i64 (ms n x 3 0), .int .i64 (ms n x 3 1), .int .i64 (ms n x 2 2), .int .i64 (ms n x 2 3)]) ?_ _ _; (exact blk))); (first | rfl | (simp; done) | (simp [ls, ms, Int.min_self, Int.max_self]; done))), by (exact blk), by (exact blk), by (exact blk), by (exact blk), by (exact blk), by (exact blk), by (exact blk), by (exact blk), by (exact kpt)⟩
                      case measure => simp [intOf]
                    · as_aux_lemma =>
                      simp only [mk4] at rl rm
                      have rnc0 := rn.cell 0
                      have rnf0 := rn.free 0
                      have rnc1 := rn.cell 1
                      have rnf1 := rn.free 1
                      have rnc2 := rn.cell 2
                      have rnf2 := rn.free 2
                      have rnc3 := rn.cell 3
                      have rnf3 := rn.free 3
                      have rnl := rn.lt
                      simp at rnc0 rnc1 rnc2 rnc3
                      have rlc0 := rl.cell 0
                      have rlf0 := rl.free 0
                      have rlc1 := rl.cell 1
                      have rlf1 := rl.free 1
                      have rlc2 := rl.cell 2
                      have rlf2 := rl.free 2
                      have rlc3 := rl.cell 3
                      have rlf3 := rl.free 3
                      have rll := rl.lt
                      simp at rlc0 rlc1 rlc2 rlc3
                      have rmc0 := rm.cell 0
                      have rmf0 := rm.free 0
                      have rmc1 := rm.cell 1
                      have rmf1 := rm.free 1
                      have rmc2 := rm.cell 2
                      have rmf2 := rm.free 2
                      have rmc3 := rm.cell 3
                      have rmf3 := rm.free 3
                      have rml := rm.lt
                      simp at rmc0 rmc1 rmc2 rmc3
                      go_upto_region 30 with fail
                      refine at_world (S := fun Y => Blk Y wj.heap.size #[.int .i64 (num n x.ahi x.wlo 0), .int .i64 (num n x.ahi x.wlo 1), .int .i64 (num n x.ahi x.wlo 2), .int .i64 (num n x.ahi x.wlo 3)] 3 ∧ Blk Y wi.heap.size #[.int .i64 x.wlo, .int .i64 x.whi] 3 ∧ Blk Y (b + 1) #[.int .i64 (ls n x 3 0), .int .i64 (ls n x 3 1), .int .i64 (ls n x 3 2), .int .i64 (ls n x 2 3)] 96 ∧ Blk Y (b + 1 + 1) #[.int .i64 (ms n x 3 0), .int .i64 (ms n x 3 1), .int .i64 (ms n x 3 2), .int .i64 (ms n x 2 3)] 96 ∧ Blk Y b #[.int .i64 x.alo, .int .i64 x.ahi, .int .i64 x.wlo, .int .i64 x.whi] 88 ∧ Blk Y V.heap.size #[.int .i64 x.alo, .int .i64 x.ahi] 3 ∧ Blk Y nL #[.int .i64 (F 0), .int .i64 (F 1), .int .i64 (F 2), .int .i64 (F 3)] 96 ∧ Blk Y (nL + 1) #[.int .i64 (G 0), .int .i64 (G 1), .int .i64 (G 2), .int .i64 (G 3)] 96 ∧ Blk Y n1 #[.int .i64 l1, .int .i64 l2] 49 ∧ Blk Y (n1 + 1) #[.int .i64 m1, .int .i64 m2] 49 ∧ Blk Y n2 #[.int .i64 s1, .int .i64 s2] 49 ∧ Blk Y n3 #[.int .i64 d1, .int .i64 d2] 49 ∧ Kept w Y) ⟨by (exact blk), by (exact blk), by (refine Blk.cast (arr := ?_) ?_ ?_; rotate_left 1; (focus (exact blk)); (first | rfl | (simp; done) | (simp [ls, ms, Int.min_self, Int.max_self]; done))), by (refine Blk.cast (arr := ?_) ?_ ?_; rotate_left 1; (focus (exact blk)); (first | rfl | (simp; done) | (simp [ls, ms, Int.min_self, Int.max_self]; done))), by (exact blk), by (exact blk), by (exact blk), by (exact blk), by (exact blk), by (exact blk), by (exact blk), by (exact blk), by (exact kpt)⟩ ?_
                      clear rn rt rl rm rx rp bL bH q1 q2 q3 q4 hk rnc0 rnf0 rnc1 rnf1 rnc2 rnf2 rnc3 rnf3 rlc0 rlf0 rlc1 rlf1 rlc2 rlf2 rlc3 rlf3 rmc0 rmf0 rmc1 rmf1 rmc2 rmf2 rmc3 rmf3 rnl rll rml
                      rintro Y ⟨rn, rt, rl, rm, rx, rp, bL, bH, q1, q2, q3, q4, hk⟩
                      have rlc0 := rl.cell 0
                      have rlf0 := rl.free 0
                      have rlc1 := rl.cell 1
                      have rlf1 := rl.free 1
                      have rlc2 := rl.cell 2
                      have rlf2 := rl.free 2
                      have rlc3 := rl.cell 3
                      have rlf3 := rl.free 3
                      have rll := rl.lt
                      simp at rlc0 rlc1 rlc2 rlc3
                      have rmc0 := rm.cell 0
                      have rmf0 := rm.free 0
                      have rmc1 := rm.cell 1
                      have rmf1 := rm.free 1
                      have rmc2 := rm.cell 2
                      have rmf2 := rm.free 2
                      have rmc3 := rm.cell 3
                      have rmf3 := rm.free 3
                      have rml := rm.lt
                      simp at rmc0 rmc1 rmc2 rmc3
                      go_region
                      all_goals go_wp2
                      all_goals go_roundw
                      case rel => exact ⟨4, by omega, by go_num, by (exact blk), by (exact blk), show Blk _ _ #[.int .i64 (ls n x 3 0), .int .i64 (ls n x 3 1), .int .i64 (ls n x 3 2), .int .i64 (ls n x 3 3)] _ from by (refine Blk.cast (arr := ?_) ?_ ?_; rotate_left 1; (focus (exact blk)); (first | rfl | (simp; done) | (simp [ls, ms, Int.min_self, Int.max_self]; done))), show Blk _ _ #[.int .i64 (ms n x 3 0), .int .i64 (ms n x 3 1), .int .i64 (ms n x 3 2), .int .i64 (ms n x 3 3)] _ from by (refine Blk.cast (arr := ?_) ?_ ?_; rotate_left 1; (focus ((repeat (with_reducible refine Blk.drew ?_)); with_reducible refine Blk.set (arr := #[.int .i64 (ms n x 3 0), .int .i64 (ms n x 3 1), .int .i64 (ms n x 3 2), .int .i64 (ms n x 2 3)]) ?_ _ _; (exact blk))); (first | rfl | (simp; done) | (simp [ls, ms, Int.min_self, Int.max_self]; done))), by (exact blk), by (exact blk), by (exact blk), by (exact blk), by (exact blk), by (exact blk), by (exact blk), by (exact blk), by (exact kpt)⟩
                      case measure => simp [intOf]
                    · as_aux_lemma =>
                      simp only [mk4] at rl rm
                      go_wp2
                      go_roundw
                      case rel => exact ⟨1, by omega, by go_num, rt, rl, rm, rx, rp, bL, bH, q1, q2, q3, q4, hk⟩
                      case measure => simp [intOf]
                · have HP := Lib.hid (show cA n x.ahi = 0 by unfold cA; rw [if_neg hp])
                  clear t1 t3
                  go_wp2
                  go_loopw [121] (fun i wk => ∃ e : Nat, e ≤ 4 ∧ i = .int .i64 e ∧ Blk wk wj.heap.size #[.int .i64 (num n x.ahi x.wlo 0), .int .i64 (num n x.ahi x.wlo 1), .int .i64 (num n x.ahi x.wlo 2), .int .i64 (num n x.ahi x.wlo 3)] 3 ∧ Blk wk wi.heap.size #[.int .i64 x.wlo, .int .i64 x.whi] 3 ∧ Blk wk (b + 1) (mk4 (ls n x 2) (ls n x 3) e) 96 ∧ Blk wk (b + 1 + 1) (mk4 (ms n x 2) (ms n x 3) e) 96 ∧ Blk wk b #[.int .i64 x.alo, .int .i64 x.ahi, .int .i64 x.wlo, .int .i64 x.whi] 88 ∧ Blk wk V.heap.size #[.int .i64 x.alo, .int .i64 x.ahi] 3 ∧ Blk wk nL #[.int .i64 (F 0), .int .i64 (F 1), .int .i64 (F 2), .int .i64 (F 3)] 96 ∧ Blk wk (nL + 1) #[.int .i64 (G 0), .int .i64 (G 1), .int .i64 (G 2), .int .i64 (G 3)] 96 ∧ Blk wk n1 #[.int .i64 l1, .int .i64 l2] 49 ∧ Blk wk (n1 + 1) #[.int .i64 m1, .int .i64 m2] 49 ∧ Blk wk n2 #[.int .i64 s1, .int .i64 s2] 49 ∧ Blk wk n3 #[.int .i64 d1, .int .i64 d2] 49 ∧ Kept w wk) (fun i _ => 4 - (intOf i).toNat)
                  case atStart => exact ⟨0, by omega, rfl, by (refine Blk.cast (arr := ?_) ?_ ?_; rotate_left 1; (focus (exact blk)); (first | rfl | (simp; done) | (simp [num, HP.out]; done))), by (exact blk), show Blk _ _ #[.int .i64 (ls n x 2 0), .int .i64 (ls n x 2 1), .int .i64 (ls n x 2 2), .int .i64 (ls n x 2 3)] _ from by (exact blk), show Blk _ _ #[.int .i64 (ms n x 2 0), .int .i64 (ms n x 2 1), .int .i64 (ms n x 2 2), .int .i64 (ms n x 2 3)] _ from by (exact blk), by (exact blk), by (exact blk), by (exact blk), by (exact blk), by (exact blk), by (exact blk), by (exact blk), by (exact blk), by (exact kpt)⟩
                  case round =>
                    rename World => wk
                    clear rt rl rm rx rp bL bH q1 q2 q3 q4 hk
                    obtain ⟨e, he, rfl, rn, rt, rl, rm, rx, rp, bL, bH, q1, q2, q3, q4, hk⟩ := hrel
                    have e9 := rn.lt
                    rcases (by omega : e = 0 ∨ e = 1 ∨ e = 2 ∨ e = 3 ∨ e = 4) with rfl | rfl | rfl | rfl | rfl
                    · as_aux_lemma =>
                      simp only [mk4] at rl rm
                      have rnc0 := rn.cell 0
                      have rnf0 := rn.free 0
                      have rnc1 := rn.cell 1
                      have rnf1 := rn.free 1
                      have rnc2 := rn.cell 2
                      have rnf2 := rn.free 2
                      have rnc3 := rn.cell 3
                      have rnf3 := rn.free 3
                      have rnl := rn.lt
                      simp at rnc0 rnc1 rnc2 rnc3
                      have rlc0 := rl.cell 0
                      have rlf0 := rl.free 0
                      have rlc1 := rl.cell 1
                      have rlf1 := rl.free 1
                      have rlc2 := rl.cell 2
                      have rlf2 := rl.free 2
                      have rlc3 := rl.cell 3
                      have rlf3 := rl.free 3
                      have rll := rl.lt
                      simp at rlc0 rlc1 rlc2 rlc3
                      have rmc0 := rm.cell 0
                      have rmf0 := rm.free 0
                      have rmc1 := rm.cell 1
                      have rmf1 := rm.free 1
                      have rmc2 := rm.cell 2
                      have rmf2 := rm.free 2
                      have rmc3 := rm.cell 3
                      have rmf3 := rm.free 3
                      have rml := rm.lt
                      simp at rmc0 rmc1 rmc2 rmc3
                      go_upto_region 30 with fail
                      refine at_world (S := fun Y => Blk Y wj.heap.size #[.int .i64 (num n x.ahi x.wlo 0), .int .i64 (num n x.ahi x.wlo 1), .int .i64 (num n x.ahi x.wlo 2), .int .i64 (num n x.ahi x.wlo 3)] 3 ∧ Blk Y wi.heap.size #[.int .i64 x.wlo, .int .i64 x.whi] 3 ∧ Blk Y (b + 1) #[.int .i64 (ls n x 2 0), .int .i64 (ls n x 2 1), .int .i64 (ls n x 2 2), .int .i64 (ls n x 2 3)] 96 ∧ Blk Y (b + 1 + 1) #[.int .i64 (ms n x 2 0), .int .i64 (ms n x 2 1), .int .i64 (ms n x 2 2), .int .i64 (ms n x 2 3)] 96 ∧ Blk Y b #[.int .i64 x.alo, .int .i64 x.ahi, .int .i64 x.wlo, .int .i64 x.whi] 88 ∧ Blk Y V.heap.size #[.int .i64 x.alo, .int .i64 x.ahi] 3 ∧ Blk Y nL #[.int .i64 (F 0), .int .i64 (F 1), .int .i64 (F 2), .int .i64 (F 3)] 96 ∧ Blk Y (nL + 1) #[.int .i64 (G 0), .int .i64 (G 1), .int .i64 (G 2), .int .i64 (G 3)] 96 ∧ Blk Y n1 #[.int .i64 l1, .int .i64 l2] 49 ∧ Blk Y (n1 + 1) #[.int .i64 m1, .int .i64 m2] 49 ∧ Blk Y n2 #[.int .i64 s1, .int .i64 s2] 49 ∧ Blk Y n3 #[.int .i64 d1, .int .i64 d2] 49 ∧ Kept w Y) ⟨by (exact blk), by (exact blk), by (refine Blk.cast (arr := ?_) ?_ ?_; rotate_left 1; (focus (exact blk)); (first | rfl | (simp; done) | (simp [ls, ms, Int.min_self, Int.max_self]; done))), by (refine Blk.cast (arr := ?_) ?_ ?_; rotate_left 1; (focus (exact blk)); (first | rfl | (simp; done) | (simp [ls, ms, Int.min_self, Int.max_self]; done))), by (exact blk), by (exact blk), by (exact blk), by (exact blk), by (exact blk), by (exact blk), by (exact blk), by (exact blk), by (exact kpt)⟩ ?_
                      clear rn rt rl rm rx rp bL bH q1 q2 q3 q4 hk rnc0 rnf0 rnc1 rnf1 rnc2 rnf2 rnc3 rnf3 rlc0 rlf0 rlc1 rlf1 rlc2 rlf2 rlc3 rlf3 rmc0 rmf0 rmc1 rmf1 rmc2 rmf2 rmc3 rmf3 rnl rll rml
                      rintro Y ⟨rn, rt, rl, rm, rx, rp, bL, bH, q1, q2, q3, q4, hk⟩
                      have rlc0 := rl.cell 0
                      have rlf0 := rl.free 0
                      have rlc1 := rl.cell 1
                      have rlf1 := rl.free 1
                      have rlc2 := rl.cell 2
                      have rlf2 := rl.free 2
                      have rlc3 := rl.cell 3
                      have rlf3 := rl.free 3
                      have rll := rl.lt
                      simp at rlc0 rlc1 rlc2 rlc3
                      have rmc0 := rm.cell 0
                      have rmf0 := rm.free 0
                      have rmc1 := rm.cell 1
                      have rmf1 := rm.free 1
                      have rmc2 := rm.cell 2
                      have rmf2 := rm.free 2
                      have rmc3 := rm.cell 3
                      have rmf3 := rm.free 3
                      have rml := rm.lt
                      simp at rmc0 rmc1 rmc2 rmc3
                      go_region
                      all_goals go_wp2
                      all_goals go_roundw
                      case rel => exact ⟨1, by omega, by go_num, by (exact blk), by (exact blk), show Blk _ _ #[.int .i64 (ls n x 3 0), .int .i64 (ls n x 2 1), .int .i64 (ls n x 2 2), .int .i64 (ls n x 2 3)] _ from by (refine Blk.cast (arr := ?_) ?_ ?_; rotate_left 1; (focus (exact blk)); (first | rfl | (simp; done) | (simp [ls, ms, Int.min_self, Int.max_self]; done))), show Blk _ _ #[.int .i64 (ms n x 3 0), .int .i64 (ms n x 2 1), .int .i64 (ms n x 2 2), .int .i64 (ms n x 2 3)] _ from by (refine Blk.cast (arr := ?_) ?_ ?_; rotate_left 1; (focus ((repeat (with_reducible refine Blk.drew ?_)); with_reducible refine Blk.set (arr := #[.int .i64 (ms n x 2 0), .int .i64 (ms n x 2 1), .int .i64 (ms n x 2 2), .int .i64 (ms n x 2 3)]) ?_ _ _; (exact blk))); (first | rfl | (simp; done) | (simp [ls, ms, Int.min_self, Int.max_self]; done))), by (exact blk), by (exact blk), by (exact blk), by (exact blk), by (exact blk), by (exact blk), by (exact blk), by (exact blk), by (exact kpt)⟩
                      case measure => simp [intOf]
                    · as_aux_lemma =>
                      simp only [mk4] at rl rm
                      have rnc0 := rn.cell 0
                      have rnf0 := rn.free 0
                      have rnc1 := rn.cell 1
                      have rnf1 := rn.free 1
                      have rnc2 := rn.cell 2
                      have rnf2 := rn.free 2
                      have rnc3 := rn.cell 3
                      have rnf3 := rn.free 3
                      have rnl := rn.lt
                      simp at rnc0 rnc1 rnc2 rnc3
                      have rlc0 := rl.cell 0
                      have rlf0 := rl.free 0
                      have rlc1 := rl.cell 1
                      have rlf1 := rl.free 1
                      have rlc2 := rl.cell 2
                      have rlf2 := rl.free 2
                      have rlc3 := rl.cell 3
                      have rlf3 := rl.free 3
                      have rll := rl.lt
                      simp at rlc0 rlc1 rlc2 rlc3
                      have rmc0 := rm.cell 0
                      have rmf0 := rm.free 0
                      have rmc1 := rm.cell 1
                      have rmf1 := rm.free 1
                      have rmc2 := rm.cell 2
                      have rmf2 := rm.free 2
                      have rmc3 := rm.cell 3
                      have rmf3 := rm.free 3
                      have rml := rm.lt
                      simp at rmc0 rmc1 rmc2 rmc3
                      go_upto_region 30 with fail
                      refine at_world (S := fun Y => Blk Y wj.heap.size #[.int .i64 (num n x.ahi x.wlo 0), .int .i64 (num n x.ahi x.wlo 1), .int .i64 (num n x.ahi x.wlo 2), .int .i64 (num n x.ahi x.wlo 3)] 3 ∧ Blk Y wi.heap.size #[.int .i64 x.wlo, .int .i64 x.whi] 3 ∧ Blk Y (b + 1) #[.int .i64 (ls n x 3 0), .int .i64 (ls n x 2 1), .int .i64 (ls n x 2 2), .int .i64 (ls n x 2 3)] 96 ∧ Blk Y (b + 1 + 1) #[.int .i64 (ms n x 3 0), .int .i64 (ms n x 2 1), .int .i64 (ms n x 2 2), .int .i64 (ms n x 2 3)] 96 ∧ Blk Y b #[.int .i64 x.alo, .int .i64 x.ahi, .int .i64 x.wlo, .int .i64 x.whi] 88 ∧ Blk Y V.heap.size #[.int .i64 x.alo, .int .i64 x.ahi] 3 ∧ Blk Y nL #[.int .i64 (F 0), .int .i64 (F 1), .int .i64 (F 2), .int .i64 (F 3)] 96 ∧ Blk Y (nL + 1) #[.int .i64 (G 0), .int .i64 (G 1), .int .i64 (G 2), .int .i64 (G 3)] 96 ∧ Blk Y n1 #[.int .i64 l1, .int .i64 l2] 49 ∧ Blk Y (n1 + 1) #[.int .i64 m1, .int .i64 m2] 49 ∧ Blk Y n2 #[.int .i64 s1, .int .i64 s2] 49 ∧ Blk Y n3 #[.int .i64 d1, .int .i64 d2] 49 ∧ Kept w Y) ⟨by (exact blk), by (exact blk), by (refine Blk.cast (arr := ?_) ?_ ?_; rotate_left 1; (focus (exact blk)); (first | rfl | (simp; done) | (simp [ls, ms, Int.min_self, Int.max_self]; done))), by (refine Blk.cast (arr := ?_) ?_ ?_; rotate_left 1; (focus (exact blk)); (first | rfl | (simp; done) | (simp [ls, ms, Int.min_self, Int.max_self]; done))), by (exact blk), by (exact blk), by (exact blk), by (exact blk), by (exact blk), by (exact blk), by (exact blk), by (exact blk), by (exact kpt)⟩ ?_
                      clear rn rt rl rm rx rp bL bH q1 q2 q3 q4 hk rnc0 rnf0 rnc1 rnf1 rnc2 rnf2 rnc3 rnf3 rlc0 rlf0 rlc1 rlf1 rlc2 rlf2 rlc3 rlf3 rmc0 rmf0 rmc1 rmf1 rmc2 rmf2 rmc3 rmf3 rnl rll rml
                      rintro Y ⟨rn, rt, rl, rm, rx, rp, bL, bH, q1, q2, q3, q4, hk⟩
                      have rlc0 := rl.cell 0
                      have rlf0 := rl.free 0
                      have rlc1 := rl.cell 1
                      have rlf1 := rl.free 1
                      have rlc2 := rl.cell 2
                      have rlf2 := rl.free 2
                      have rlc3 := rl.cell 3
                      have rlf3 := rl.free 3
                      have rll := rl.lt
                      simp at rlc0 rlc1 rlc2 rlc3
                      have rmc0 := rm.cell 0
                      have rmf0 := rm.free 0
                      have rmc1 := rm.cell 1
                      have rmf1 := rm.free 1
                      have rmc2 := rm.cell 2
                      have rmf2 := rm.free 2
                      have rmc3 := rm.cell 3
                      have rmf3 := rm.free 3
                      have rml := rm.lt
                      simp at rmc0 rmc1 rmc2 rmc3
                      go_region
                      all_goals go_wp2
                      all_goals go_roundw
                      case rel => exact ⟨2, by omega, by go_num, by (exact blk), by (exact blk), show Blk _ _ #[.int .i64 (ls n x 3 0), .int .i64 (ls n x 3 1), .int .i64 (ls n x 2 2), .int .i64 (ls n x 2 3)] _ from by (refine Blk.cast (arr := ?_) ?_ ?_; rotate_left 1; (focus (exact blk)); (first | rfl | (simp; done) | (simp [ls, ms, Int.min_self, Int.max_self]; done))), show Blk _ _ #[.int .i64 (ms n x 3 0), .int .i64 (ms n x 3 1), .int .i64 (ms n x 2 2), .int .i64 (ms n x 2 3)] _ from by (refine Blk.cast (arr := ?_) ?_ ?_; rotate_left 1; (focus ((repeat (with_reducible refine Blk.drew ?_)); with_reducible refine Blk.set (arr := #[.int .i64 (ms n x 3 0), .int .i64 (ms n x 2 1), .int .i64 (ms n x 2 2), .int .i64 (ms n x 2 3)]) ?_ _ _; (exact blk))); (first | rfl | (simp; done) | (simp [ls, ms, Int.min_self, Int.max_self]; done))), by (exact blk), by (exact blk), by (exact blk), by (exact blk), by (exact blk), by (exact blk), by (exact blk), by (exact blk), by (exact kpt)⟩
                      case measure => simp [intOf]
                    · as_aux_lemma =>
                      simp only [mk4] at rl rm
                      have rnc0 := rn.cell 0
                      have rnf0 := rn.free 0
                      have rnc1 := rn.cell 1
                      have rnf1 := rn.free 1
                      have rnc2 := rn.cell 2
                      have rnf2 := rn.free 2
                      have rnc3 := rn.cell 3
                      have rnf3 := rn.free 3
                      have rnl := rn.lt
                      simp at rnc0 rnc1 rnc2 rnc3
                      have rlc0 := rl.cell 0
                      have rlf0 := rl.free 0
                      have rlc1 := rl.cell 1
                      have rlf1 := rl.free 1
                      have rlc2 := rl.cell 2
                      have rlf2 := rl.free 2
                      have rlc3 := rl.cell 3
                      have rlf3 := rl.free 3
                      have rll := rl.lt
                      simp at rlc0 rlc1 rlc2 rlc3
                      have rmc0 := rm.cell 0
                      have rmf0 := rm.free 0
                      have rmc1 := rm.cell 1
                      have rmf1 := rm.free 1
                      have rmc2 := rm.cell 2
                      have rmf2 := rm.free 2
                      have rmc3 := rm.cell 3
                      have rmf3 := rm.free 3
                      have rml := rm.lt
                      simp at rmc0 rmc1 rmc2 rmc3
                      go_upto_region 30 with fail
                      refine at_world (S := fun Y => Blk Y wj.heap.size #[.int .i64 (num n x.ahi x.wlo 0), .int .i64 (num n x.ahi x.wlo 1), .int .i64 (num n x.ahi x.wlo 2), .int .i64 (num n x.ahi x.wlo 3)] 3 ∧ Blk Y wi.heap.size #[.int .i64 x.wlo, .int .i64 x.whi] 3 ∧ Blk Y (b + 1) #[.int .i64 (ls n x 3 0), .int .i64 (ls n x 3 1), .int .i64 (ls n x 2 2), .int .i64 (ls n x 2 3)] 96 ∧ Blk Y (b + 1 + 1) #[.int .i64 (ms n x 3 0), .int .i64 (ms n x 3 1), .int .i64 (ms n x 2 2), .int .i64 (ms n x 2 3)] 96 ∧ Blk Y b #[.int .i64 x.alo, .int .i64 x.ahi, .int .i64 x.wlo, .int .i64 x.whi] 88 ∧ Blk Y V.heap.size #[.int .i64 x.alo, .int .i64 x.ahi] 3 ∧ Blk Y nL #[.int .i64 (F 0), .int .i64 (F 1), .int .i64 (F 2), .int .i64 (F 3)] 96 ∧ Blk Y (nL + 1) #[.int .i64 (G 0), .int .i64 (G 1), .int .i64 (G 2), .int .i64 (G 3)] 96 ∧ Blk Y n1 #[.int .i64 l1, .int .i64 l2] 49 ∧ Blk Y (n1 + 1) #[.int .i64 m1, .int .i64 m2] 49 ∧ Blk Y n2 #[.int .i64 s1, .int .i64 s2] 49 ∧ Blk Y n3 #[.int .i64 d1, .int .i64 d2] 49 ∧ Kept w Y) ⟨by (exact blk), by (exact blk), by (refine Blk.cast (arr := ?_) ?_ ?_; rotate_left 1; (focus (exact blk)); (first | rfl | (simp; done) | (simp [ls, ms, Int.min_self, Int.max_self]; done))), by (refine Blk.cast (arr := ?_) ?_ ?_; rotate_left 1; (focus (exact blk)); (first | rfl | (simp; done) | (simp [ls, ms, Int.min_self, Int.max_self]; done))), by (exact blk), by (exact blk), by (exact blk), by (exact blk), by (exact blk), by (exact blk), by (exact blk), by (exact blk), by (exact kpt)⟩ ?_
                      clear rn rt rl rm rx rp bL bH q1 q2 q3 q4 hk rnc0 rnf0 rnc1 rnf1 rnc2 rnf2 rnc3 rnf3 rlc0 rlf0 rlc1 rlf1 rlc2 rlf2 rlc3 rlf3 rmc0 rmf0 rmc1 rmf1 rmc2 rmf2 rmc3 rmf3 rnl rll rml
                      rintro Y ⟨rn, rt, rl, rm, rx, rp, bL, bH, q1, q2, q3, q4, hk⟩
                      have rlc0 := rl.cell 0
                      have rlf0 := rl.free 0
                      have rlc1 := rl.cell 1
                      have rlf1 := rl.free 1
                      have rlc2 := rl.cell 2
                      have rlf2 := rl.free 2
                      have rlc3 := rl.cell 3
                      have rlf3 := rl.free 3
                      have rll := rl.lt
                      simp at rlc0 rlc1 rlc2 rlc3
                      have rmc0 := rm.cell 0
                      have rmf0 := rm.free 0
                      have rmc1 := rm.cell 1
                      have rmf1 := rm.free 1
                      have rmc2 := rm.cell 2
                      have rmf2 := rm.free 2
                      have rmc3 := rm.cell 3
                      have rmf3 := rm.free 3
                      have rml := rm.lt
                      simp at rmc0 rmc1 rmc2 rmc3
                      go_region
                      all_goals go_wp2
                      all_goals go_roundw
                      case rel => exact ⟨3, by omega, by go_num, by (exact blk), by (exact blk), show Blk _ _ #[.int .i64 (ls n x 3 0), .int .i64 (ls n x 3 1), .int .i64 (ls n x 3 2), .int .i64 (ls n x 2 3)] _ from by (refine Blk.cast (arr := ?_) ?_ ?_; rotate_left 1; (focus (exact blk)); (first | rfl | (simp; done) | (simp [ls, ms, Int.min_self, Int.max_self]; done))), show Blk _ _ #[.int .i64 (ms n x 3 0), .int .i64 (ms n x 3 1), .int .i64 (ms n x 3 2), .int .i64 (ms n x 2 3)] _ from by (refine Blk.cast (arr := ?_) ?_ ?_; rotate_left 1; (focus ((repeat (with_reducible refine Blk.drew ?_)); with_reducible refine Blk.set (arr := #[.int .i64 (ms n x 3 0), .int .i64 (ms n x 3 1), .int .i64 (ms n x 2 2), .int .i64 (ms n x 2 3)]) ?_ _ _; (exact blk))); (first | rfl | (simp; done) | (simp [ls, ms, Int.min_self, Int.max_self]; done))), by (exact blk), by (exact blk), by (exact blk), by (exact blk), by (exact blk), by (exact blk), by (exact blk), by (exact blk), by (exact kpt)⟩
                      case measure => simp [intOf]
                    · as_aux_lemma =>
                      simp only [mk4] at rl rm
                      have rnc0 := rn.cell 0
                      have rnf0 := rn.free 0
                      have rnc1 := rn.cell 1
                      have rnf1 := rn.free 1
                      have rnc2 := rn.cell 2
                      have rnf2 := rn.free 2
                      have rnc3 := rn.cell 3
                      have rnf3 := rn.free 3
                      have rnl := rn.lt
                      simp at rnc0 rnc1 rnc2 rnc3
                      have rlc0 := rl.cell 0
                      have rlf0 := rl.free 0
                      have rlc1 := rl.cell 1
                      have rlf1 := rl.free 1
                      have rlc2 := rl.cell 2
                      have rlf2 := rl.free 2
                      have rlc3 := rl.cell 3
                      have rlf3 := rl.free 3
                      have rll := rl.lt
                      simp at rlc0 rlc1 rlc2 rlc3
                      have rmc0 := rm.cell 0
                      have rmf0 := rm.free 0
                      have rmc1 := rm.cell 1
                      have rmf1 := rm.free 1
                      have rmc2 := rm.cell 2
                      have rmf2 := rm.free 2
                      have rmc3 := rm.cell 3
                      have rmf3 := rm.free 3
                      have rml := rm.lt
                      simp at rmc0 rmc1 rmc2 rmc3
                      go_upto_region 30 with fail
                      refine at_world (S := fun Y => Blk Y wj.heap.size #[.int .i64 (num n x.ahi x.wlo 0), .int .i64 (num n x.ahi x.wlo 1), .int .i64 (num n x.ahi x.wlo 2), .int .i64 (num n x.ahi x.wlo 3)] 3 ∧ Blk Y wi.heap.size #[.int .i64 x.wlo, .int .i64 x.whi] 3 ∧ Blk Y (b + 1) #[.int .i64 (ls n x 3 0), .int .i64 (ls n x 3 1), .int .i64 (ls n x 3 2), .int .i64 (ls n x 2 3)] 96 ∧ Blk Y (b + 1 + 1) #[.int .i64 (ms n x 3 0), .int .i64 (ms n x 3 1), .int .i64 (ms n x 3 2), .int .i64 (ms n x 2 3)] 96 ∧ Blk Y b #[.int .i64 x.alo, .int .i64 x.ahi, .int .i64 x.wlo, .int .i64 x.whi] 88 ∧ Blk Y V.heap.size #[.int .i64 x.alo, .int .i64 x.ahi] 3 ∧ Blk Y nL #[.int .i64 (F 0), .int .i64 (F 1), .int .i64 (F 2), .int .i64 (F 3)] 96 ∧ Blk Y (nL + 1) #[.int .i64 (G 0), .int .i64 (G 1), .int .i64 (G 2), .int .i64 (G 3)] 96 ∧ Blk Y n1 #[.int .i64 l1, .int .i64 l2] 49 ∧ Blk Y (n1 + 1) #[.int .i64 m1, .int .i64 m2] 49 ∧ Blk Y n2 #[.int .i64 s1, .int .i64 s2] 49 ∧ Blk Y n3 #[.int .i64 d1, .int .i64 d2] 49 ∧ Kept w Y) ⟨by (exact blk), by (exact blk), by (refine Blk.cast (arr := ?_) ?_ ?_; rotate_left 1; (focus (exact blk)); (first | rfl | (simp; done) | (simp [ls, ms, Int.min_self, Int.max_self]; done))), by (refine Blk.cast (arr := ?_) ?_ ?_; rotate_left 1; (focus (exact blk)); (first | rfl | (simp; done) | (simp [ls, ms, Int.min_self, Int.max_self]; done))), by (exact blk), by (exact blk), by (exact blk), by (exact blk), by (exact blk), by (exact blk), by (exact blk), by (exact blk), by (exact kpt)⟩ ?_
                      clear rn rt rl rm rx rp bL bH q1 q2 q3 q4 hk rnc0 rnf0 rnc1 rnf1 rnc2 rnf2 rnc3 rnf3 rlc0 rlf0 rlc1 rlf1 rlc2 rlf2 rlc3 rlf3 rmc0 rmf0 rmc1 rmf1 rmc2 rmf2 rmc3 rmf3 rnl rll rml
                      rintro Y ⟨rn, rt, rl, rm, rx, rp, bL, bH, q1, q2, q3, q4, hk⟩
                      have rlc0 := rl.cell 0
                      have rlf0 := rl.free 0
                      have rlc1 := rl.cell 1
                      have rlf1 := rl.free 1
                      have rlc2 := rl.cell 2
                      have rlf2 := rl.free 2
                      have rlc3 := rl.cell 3
                      have rlf3 := rl.free 3
                      have rll := rl.lt
                      simp at rlc0 rlc1 rlc2 rlc3
                      have rmc0 := rm.cell 0
                      have rmf0 := rm.free 0
                      have rmc1 := rm.cell 1
                      have rmf1 := rm.free 1
                      have rmc2 := rm.cell 2
                      have rmf2 := rm.free 2
                      have rmc3 := rm.cell 3
                      have rmf3 := rm.free 3
                      have rml := rm.lt
                      simp at rmc0 rmc1 rmc2 rmc3
                      go_region
                      all_goals go_wp2
                      all_goals go_roundw
                      case rel => exact ⟨4, by omega, by go_num, by (exact blk), by (exact blk), show Blk _ _ #[.int .i64 (ls n x 3 0), .int .i64 (ls n x 3 1), .int .i64 (ls n x 3 2), .int .i64 (ls n x 3 3)] _ from by (refine Blk.cast (arr := ?_) ?_ ?_; rotate_left 1; (focus (exact blk)); (first | rfl | (simp; done) | (simp [ls, ms, Int.min_self, Int.max_self]; done))), show Blk _ _ #[.int .i64 (ms n x 3 0), .int .i64 (ms n x 3 1), .int .i64 (ms n x 3 2), .int .i64 (ms n x 3 3)] _ from by (refine Blk.cast (arr := ?_) ?_ ?_; rotate_left 1; (focus ((repeat (with_reducible refine Blk.drew ?_)); with_reducible refine Blk.set (arr := #[.int .i64 (ms n x 3 0), .int .i64 (ms n x 3 1), .int .i64 (ms n x 3 2), .int .i64 (ms n x 2 3)]) ?_ _ _; (exact blk))); (first | rfl | (simp; done) | (simp [ls, ms, Int.min_self, Int.max_self]; done))), by (exact blk), by (exact blk), by (exact blk), by (exact blk), by (exact blk), by (exact blk), by (exact blk), by (exact blk), by (exact kpt)⟩
                      case measure => simp [intOf]
                    · as_aux_lemma =>
                      simp only [mk4] at rl rm
                      go_wp2
                      go_roundw
                      case rel => exact ⟨1, by omega, by go_num, rt, rl, rm, rx, rp, bL, bH, q1, q2, q3, q4, hk⟩
                      case measure => simp [intOf]
              · replace rl : Blk wj (b + 1) #[.int .i64 (ls n x 3 0), .int .i64 (ls n x 3 1), .int .i64 (ls n x 3 2), .int .i64 (ls n x 3 3)] 96 := rl
                replace rm : Blk wj (b + 1 + 1) #[.int .i64 (ms n x 3 0), .int .i64 (ms n x 3 1), .int .i64 (ms n x 3 2), .int .i64 (ms n x 3 3)] 96 := rm
                have rtc0 := rt.cell 0
                have rtf0 := rt.free 0
                have rtc1 := rt.cell 1
                have rtf1 := rt.free 1
                have rtl := rt.lt
                simp at rtc0 rtc1
                have t1 := num_bd (n := n) (p := x.ahi) (w := x.whi) hnb (by omega) (by omega) 1
                have t3 := num_bd (n := n) (p := x.ahi) (w := x.whi) hnb (by omega) (by omega) 3
                have u1 : IntKind.i64.wrap (x.whi * x.ahi) = x.whi * x.ahi := by simp only [num] at t1; rw [IntKind.wrap_i64]; omega
                have u2 : IntKind.i64.wrap (n - x.ahi) = n - x.ahi := by rw [IntKind.wrap_i64]; omega
                have u3 : IntKind.i64.wrap x.whi = x.whi := by rw [IntKind.wrap_i64]; omega
                by_cases hp : x.ahi < n
                · have HP := Lib.hid (show cA n x.ahi = 1 by unfold cA; rw [if_pos hp])
                  have u4 : IntKind.i64.wrap (x.whi * (n - x.ahi)) = x.whi * (n - x.ahi) := by simp only [num, cA, if_pos hp, Int.mul_one] at t3; rw [IntKind.wrap_i64]; omega
                  clear t1 t3
                  go_wp2
                  go_loopw [121] (fun i wk => ∃ e : Nat, e ≤ 4 ∧ i = .int .i64 e ∧ Blk wk wj.heap.size #[.int .i64 (num n x.ahi x.whi 0), .int .i64 (num n x.ahi x.whi 1), .int .i64 (num n x.ahi x.whi 2), .int .i64 (num n x.ahi x.whi 3)] 3 ∧ Blk wk wi.heap.size #[.int .i64 x.wlo, .int .i64 x.whi] 3 ∧ Blk wk (b + 1) (mk4 (ls n x 3) (ls n x 4) e) 96 ∧ Blk wk (b + 1 + 1) (mk4 (ms n x 3) (ms n x 4) e) 96 ∧ Blk wk b #[.int .i64 x.alo, .int .i64 x.ahi, .int .i64 x.wlo, .int .i64 x.whi] 88 ∧ Blk wk V.heap.size #[.int .i64 x.alo, .int .i64 x.ahi] 3 ∧ Blk wk nL #[.int .i64 (F 0), .int .i64 (F 1), .int .i64 (F 2), .int .i64 (F 3)] 96 ∧ Blk wk (nL + 1) #[.int .i64 (G 0), .int .i64 (G 1), .int .i64 (G 2), .int .i64 (G 3)] 96 ∧ Blk wk n1 #[.int .i64 l1, .int .i64 l2] 49 ∧ Blk wk (n1 + 1) #[.int .i64 m1, .int .i64 m2] 49 ∧ Blk wk n2 #[.int .i64 s1, .int .i64 s2] 49 ∧ Blk wk n3 #[.int .i64 d1, .int .i64 d2] 49 ∧ Kept w wk) (fun i _ => 4 - (intOf i).toNat)
                  case atStart => exact ⟨0, by omega, rfl, by (refine Blk.cast (arr := ?_) ?_ ?_; rotate_left 1; (focus (exact blk)); (first | rfl | (simp; done) | (simp [num, HP.out]; done))), by (exact blk), show Blk _ _ #[.int .i64 (ls n x 3 0), .int .i64 (ls n x 3 1), .int .i64 (ls n x 3 2), .int .i64 (ls n x 3 3)] _ from by (exact blk), show Blk _ _ #[.int .i64 (ms n x 3 0), .int .i64 (ms n x 3 1), .int .i64 (ms n x 3 2), .int .i64 (ms n x 3 3)] _ from by (exact blk), by (exact blk), by (exact blk), by (exact blk), by (exact blk), by (exact blk), by (exact blk), by (exact blk), by (exact blk), by (exact kpt)⟩
                  case round =>
                    rename World => wk
                    clear rt rl rm rx rp bL bH q1 q2 q3 q4 hk
                    obtain ⟨e, he, rfl, rn, rt, rl, rm, rx, rp, bL, bH, q1, q2, q3, q4, hk⟩ := hrel
                    have e9 := rn.lt
                    rcases (by omega : e = 0 ∨ e = 1 ∨ e = 2 ∨ e = 3 ∨ e = 4) with rfl | rfl | rfl | rfl | rfl
                    · as_aux_lemma =>
                      simp only [mk4] at rl rm
                      have rnc0 := rn.cell 0
                      have rnf0 := rn.free 0
                      have rnc1 := rn.cell 1
                      have rnf1 := rn.free 1
                      have rnc2 := rn.cell 2
                      have rnf2 := rn.free 2
                      have rnc3 := rn.cell 3
                      have rnf3 := rn.free 3
                      have rnl := rn.lt
                      simp at rnc0 rnc1 rnc2 rnc3
                      have rlc0 := rl.cell 0
                      have rlf0 := rl.free 0
                      have rlc1 := rl.cell 1
                      have rlf1 := rl.free 1
                      have rlc2 := rl.cell 2
                      have rlf2 := rl.free 2
                      have rlc3 := rl.cell 3
                      have rlf3 := rl.free 3
                      have rll := rl.lt
                      simp at rlc0 rlc1 rlc2 rlc3
                      have rmc0 := rm.cell 0
                      have rmf0 := rm.free 0
                      have rmc1 := rm.cell 1
                      have rmf1 := rm.free 1
                      have rmc2 := rm.cell 2
                      have rmf2 := rm.free 2
                      have rmc3 := rm.cell 3
                      have rmf3 := rm.free 3
                      have rml := rm.lt
                      simp at rmc0 rmc1 rmc2 rmc3
                      go_upto_region 30 with fail
                      refine at_world (S := fun Y => Blk Y wj.heap.size #[.int .i64 (num n x.ahi x.whi 0), .int .i64 (num n x.ahi x.whi 1), .int .i64 (num n x.ahi x.whi 2), .int .i64 (num n x.ahi x.whi 3)] 3 ∧ Blk Y wi.heap.size #[.int .i64 x.wlo, .int .i64 x.whi] 3 ∧ Blk Y (b + 1) #[.int .i64 (ls n x 3 0), .int .i64 (ls n x 3 1), .int .i64 (ls n x 3 2), .int .i64 (ls n x 3 3)] 96 ∧ Blk Y (b + 1 + 1) #[.int .i64 (ms n x 3 0), .int .i64 (ms n x 3 1), .int .i64 (ms n x 3 2), .int .i64 (ms n x 3 3)] 96 ∧ Blk Y b #[.int .i64 x.alo, .int .i64 x.ahi, .int .i64 x.wlo, .int .i64 x.whi] 88 ∧ Blk Y V.heap.size #[.int .i64 x.alo, .int .i64 x.ahi] 3 ∧ Blk Y nL #[.int .i64 (F 0), .int .i64 (F 1), .int .i64 (F 2), .int .i64 (F 3)] 96 ∧ Blk Y (nL + 1) #[.int .i64 (G 0), .int .i64 (G 1), .int .i64 (G 2), .int .i64 (G 3)] 96 ∧ Blk Y n1 #[.int .i64 l1, .int .i64 l2] 49 ∧ Blk Y (n1 + 1) #[.int .i64 m1, .int .i64 m2] 49 ∧ Blk Y n2 #[.int .i64 s1, .int .i64 s2] 49 ∧ Blk Y n3 #[.int .i64 d1, .int .i64 d2] 49 ∧ Kept w Y) ⟨by (exact blk), by (exact blk), by (refine Blk.cast (arr := ?_) ?_ ?_; rotate_left 1; (focus (exact blk)); (first | rfl | (simp; done) | (simp [ls, ms, Int.min_self, Int.max_self]; done))), by (refine Blk.cast (arr := ?_) ?_ ?_; rotate_left 1; (focus (exact blk)); (first | rfl | (simp; done) | (simp [ls, ms, Int.min_self, Int.max_self]; done))), by (exact blk), by (exact blk), by (exact blk), by (exact blk), by (exact blk), by (exact blk), by (exact blk), by (exact blk), by (exact kpt)⟩ ?_
                      clear rn rt rl rm rx rp bL bH q1 q2 q3 q4 hk rnc0 rnf0 rnc1 rnf1 rnc2 rnf2 rnc3 rnf3 rlc0 rlf0 rlc1 rlf1 rlc2 rlf2 rlc3 rlf3 rmc0 rmf0 rmc1 rmf1 rmc2 rmf2 rmc3 rmf3 rnl rll rml
                      rintro Y ⟨rn, rt, rl, rm, rx, rp, bL, bH, q1, q2, q3, q4, hk⟩
                      have rlc0 := rl.cell 0
                      have rlf0 := rl.free 0
                      have rlc1 := rl.cell 1
                      have rlf1 := rl.free 1
                      have rlc2 := rl.cell 2
                      have rlf2 := rl.free 2
                      have rlc3 := rl.cell 3
                      have rlf3 := rl.free 3
                      have rll := rl.lt
                      simp at rlc0 rlc1 rlc2 rlc3
                      have rmc0 := rm.cell 0
                      have rmf0 := rm.free 0
                      have rmc1 := rm.cell 1
                      have rmf1 := rm.free 1
                      have rmc2 := rm.cell 2
                      have rmf2 := rm.free 2
                      have rmc3 := rm.cell 3
                      have rmf3 := rm.free 3
                      have rml := rm.lt
                      simp at rmc0 rmc1 rmc2 rmc3
                      go_region
                      all_goals go_wp2
                      all_goals go_roundw
                      case rel => exact ⟨1, by omega, by go_num, by (exact blk), by (exact blk), show Blk _ _ #[.int .i64 (ls n x 4 0), .int .i64 (ls n x 3 1), .int .i64 (ls n x 3 2), .int .i64 (ls n x 3 3)] _ from by (refine Blk.cast (arr := ?_) ?_ ?_; rotate_left 1; (focus (exact blk)); (first | rfl | (simp; done) | (simp [ls, ms, Int.min_self, Int.max_self]; done))), show Blk _ _ #[.int .i64 (ms n x 4 0), .int .i64 (ms n x 3 1), .int .i64 (ms n x 3 2), .int .i64 (ms n x 3 3)] _ from by (refine Blk.cast (arr := ?_) ?_ ?_; rotate_left 1; (focus ((repeat (with_reducible refine Blk.drew ?_)); with_reducible refine Blk.set (arr := #[.int .i64 (ms n x 3 0), .int .i64 (ms n x 3 1), .int .i64 (ms n x 3 2), .int .i64 (ms n x 3 3)]) ?_ _ _; (exact blk))); (first | rfl | (simp; done) | (simp [ls, ms, Int.min_self, Int.max_self]; done))), by (exact blk), by (exact blk), by (exact blk), by (exact blk), by (exact blk), by (exact blk), by (exact blk), by (exact blk), by (exact kpt)⟩
                      case measure => simp [intOf]
                    · as_aux_lemma =>
                      simp only [mk4] at rl rm
                      have rnc0 := rn.cell 0
                      have rnf0 := rn.free 0
                      have rnc1 := rn.cell 1
                      have rnf1 := rn.free 1
                      have rnc2 := rn.cell 2
                      have rnf2 := rn.free 2
                      have rnc3 := rn.cell 3
                      have rnf3 := rn.free 3
                      have rnl := rn.lt
                      simp at rnc0 rnc1 rnc2 rnc3
                      have rlc0 := rl.cell 0
                      have rlf0 := rl.free 0
                      have rlc1 := rl.cell 1
                      have rlf1 := rl.free 1
                      have rlc2 := rl.cell 2
                      have rlf2 := rl.free 2
                      have rlc3 := rl.cell 3
                      have rlf3 := rl.free 3
                      have rll := rl.lt
                      simp at rlc0 rlc1 rlc2 rlc3
                      have rmc0 := rm.cell 0
                      have rmf0 := rm.free 0
                      have rmc1 := rm.cell 1
                      have rmf1 := rm.free 1
                      have rmc2 := rm.cell 2
                      have rmf2 := rm.free 2
                      have rmc3 := rm.cell 3
                      have rmf3 := rm.free 3
                      have rml := rm.lt
                      simp at rmc0 rmc1 rmc2 rmc3
                      go_upto_region 30 with fail
                      refine at_world (S := fun Y => Blk Y wj.heap.size #[.int .i64 (num n x.ahi x.whi 0), .int .i64 (num n x.ahi x.whi 1), .int .i64 (num n x.ahi x.whi 2), .int .i64 (num n x.ahi x.whi 3)] 3 ∧ Blk Y wi.heap.size #[.int .i64 x.wlo, .int .i64 x.whi] 3 ∧ Blk Y (b + 1) #[.int .i64 (ls n x 4 0), .int .i64 (ls n x 3 1), .int .i64 (ls n x 3 2), .int .i64 (ls n x 3 3)] 96 ∧ Blk Y (b + 1 + 1) #[.int .i64 (ms n x 4 0), .int .i64 (ms n x 3 1), .int .i64 (ms n x 3 2), .int .i64 (ms n x 3 3)] 96 ∧ Blk Y b #[.int .i64 x.alo, .int .i64 x.ahi, .int .i64 x.wlo, .int .i64 x.whi] 88 ∧ Blk Y V.heap.size #[.int .i64 x.alo, .int .i64 x.ahi] 3 ∧ Blk Y nL #[.int .i64 (F 0), .int .i64 (F 1), .int .i64 (F 2), .int .i64 (F 3)] 96 ∧ Blk Y (nL + 1) #[.int .i64 (G 0), .int .i64 (G 1), .int .i64 (G 2), .int .i64 (G 3)] 96 ∧ Blk Y n1 #[.int .i64 l1, .int .i64 l2] 49 ∧ Blk Y (n1 + 1) #[.int .i64 m1, .int .i64 m2] 49 ∧ Blk Y n2 #[.int .i64 s1, .int .i64 s2] 49 ∧ Blk Y n3 #[.int .i64 d1, .int .i64 d2] 49 ∧ Kept w Y) ⟨by (exact blk), by (exact blk), by (refine Blk.cast (arr := ?_) ?_ ?_; rotate_left 1; (focus (exact blk)); (first | rfl | (simp; done) | (simp [ls, ms, Int.min_self, Int.max_self]; done))), by (refine Blk.cast (arr := ?_) ?_ ?_; rotate_left 1; (focus (exact blk)); (first | rfl | (simp; done) | (simp [ls, ms, Int.min_self, Int.max_self]; done))), by (exact blk), by (exact blk), by (exact blk), by (exact blk), by (exact blk), by (exact blk), by (exact blk), by (exact blk), by (exact kpt)⟩ ?_
                      clear rn rt rl rm rx rp bL bH q1 q2 q3 q4 hk rnc0 rnf0 rnc1 rnf1 rnc2 rnf2 rnc3 rnf3 rlc0 rlf0 rlc1 rlf1 rlc2 rlf2 rlc3 rlf3 rmc0 rmf0 rmc1 rmf1 rmc2 rmf2 rmc3 rmf3 rnl rll rml
                      rintro Y ⟨rn, rt, rl, rm, rx, rp, bL, bH, q1, q2, q3, q4, hk⟩
                      have rlc0 := rl.cell 0
                      have rlf0 := rl.free 0
                      have rlc1 := rl.cell 1
                      have rlf1 := rl.free 1
                      have rlc2 := rl.cell 2
                      have rlf2 := rl.free 2
                      have rlc3 := rl.cell 3
                      have rlf3 := rl.free 3
                      have rll := rl.lt
                      simp at rlc0 rlc1 rlc2 rlc3
                      have rmc0 := rm.cell 0
                      have rmf0 := rm.free 0
                      have rmc1 := rm.cell 1
                      have rmf1 := rm.free 1
                      have rmc2 := rm.cell 2
                      have rmf2 := rm.free 2
                      have rmc3 := rm.cell 3
                      have rmf3 := rm.free 3
                      have rml := rm.lt
                      simp at rmc0 rmc1 rmc2 rmc3
                      go_region
                      all_goals go_wp2
                      all_goals go_roundw
                      case rel => exact ⟨2, by omega, by go_num, by (exact blk), by (exact blk), show Blk _ _ #[.int .i64 (ls n x 4 0), .int .i64 (ls n x 4 1), .int .i64 (ls n x 3 2), .int .i64 (ls n x 3 3)] _ from by (refine Blk.cast (arr := ?_) ?_ ?_; rotate_left 1; (focus (exact blk)); (first | rfl | (simp; done) | (simp [ls, ms, Int.min_self, Int.max_self]; done))), show Blk _ _ #[.int .i64 (ms n x 4 0), .int .i64 (ms n x 4 1), .int .i64 (ms n x 3 2), .int .i64 (ms n x 3 3)] _ from by (refine Blk.cast (arr := ?_) ?_ ?_; rotate_left 1; (focus ((repeat (with_reducible refine Blk.drew ?_)); with_reducible refine Blk.set (arr := #[.int .i64 (ms n x 4 0), .int .i64 (ms n x 3 1), .int .i64 (ms n x 3 2), .int .i64 (ms n x 3 3)]) ?_ _ _; (exact blk))); (first | rfl | (simp; done) | (simp [ls, ms, Int.min_self, Int.max_self]; done))), by (exact blk), by (exact blk), by (exact blk), by (exact blk), by (exact blk), by (exact blk), by (exact blk), by (exact blk), by (exact kpt)⟩
                      case measure => simp [intOf]
                    · as_aux_lemma =>
                      simp only [mk4] at rl rm
                      have rnc0 := rn.cell 0
                      have rnf0 := rn.free 0
                      have rnc1 := rn.cell 1
                      have rnf1 := rn.free 1
                      have rnc2 := rn.cell 2
                      have rnf2 := rn.free 2
                      have rnc3 := rn.cell 3
                      have rnf3 := rn.free 3
                      have rnl := rn.lt
                      simp at rnc0 rnc1 rnc2 rnc3
                      have rlc0 := rl.cell 0
                      have rlf0 := rl.free 0
                      have rlc1 := rl.cell 1
                      have rlf1 := rl.free 1
                      have rlc2 := rl.cell 2
                      have rlf2 := rl.free 2
                      have rlc3 := rl.cell 3
                      have rlf3 := rl.free 3
                      have rll := rl.lt
                      simp at rlc0 rlc1 rlc2 rlc3
                      have rmc0 := rm.cell 0
                      have rmf0 := rm.free 0
                      have rmc1 := rm.cell 1
                      have rmf1 := rm.free 1
                      have rmc2 := rm.cell 2
                      have rmf2 := rm.free 2
                      have rmc3 := rm.cell 3
                      have rmf3 := rm.free 3
                      have rml := rm.lt
                      simp at rmc0 rmc1 rmc2 rmc3
                      go_upto_region 30 with fail
                      refine at_world (S := fun Y => Blk Y wj.heap.size #[.int .i64 (num n x.ahi x.whi 0), .int .i64 (num n x.ahi x.whi 1), .int .i64 (num n x.ahi x.whi 2), .int .i64 (num n x.ahi x.whi 3)] 3 ∧ Blk Y wi.heap.size #[.int .i64 x.wlo, .int .i64 x.whi] 3 ∧ Blk Y (b + 1) #[.int .i64 (ls n x 4 0), .int .i64 (ls n x 4 1), .int .i64 (ls n x 3 2), .int .i64 (ls n x 3 3)] 96 ∧ Blk Y (b + 1 + 1) #[.int .i64 (ms n x 4 0), .int .i64 (ms n x 4 1), .int .i64 (ms n x 3 2), .int .i64 (ms n x 3 3)] 96 ∧ Blk Y b #[.int .i64 x.alo, .int .i64 x.ahi, .int .i64 x.wlo, .int .i64 x.whi] 88 ∧ Blk Y V.heap.size #[.int .i64 x.alo, .int .i64 x.ahi] 3 ∧ Blk Y nL #[.int .i64 (F 0), .int .i64 (F 1), .int .i64 (F 2), .int .i64 (F 3)] 96 ∧ Blk Y (nL + 1) #[.int .i64 (G 0), .int .i64 (G 1), .int .i64 (G 2), .int .i64 (G 3)] 96 ∧ Blk Y n1 #[.int .i64 l1, .int .i64 l2] 49 ∧ Blk Y (n1 + 1) #[.int .i64 m1, .int .i64 m2] 49 ∧ Blk Y n2 #[.int .i64 s1, .int .i64 s2] 49 ∧ Blk Y n3 #[.int .i64 d1, .int .i64 d2] 49 ∧ Kept w Y) ⟨by (exact blk), by (exact blk), by (refine Blk.cast (arr := ?_) ?_ ?_; rotate_left 1; (focus (exact blk)); (first | rfl | (simp; done) | (simp [ls, ms, Int.min_self, Int.max_self]; done))), by (refine Blk.cast (arr := ?_) ?_ ?_; rotate_left 1; (focus (exact blk)); (first | rfl | (simp; done) | (simp [ls, ms, Int.min_self, Int.max_self]; done))), by (exact blk), by (exact blk), by (exact blk), by (exact blk), by (exact blk), by (exact blk), by (exact blk), by (exact blk), by (exact kpt)⟩ ?_
                      clear rn rt rl rm rx rp bL bH q1 q2 q3 q4 hk rnc0 rnf0 rnc1 rnf1 rnc2 rnf2 rnc3 rnf3 rlc0 rlf0 rlc1 rlf1 rlc2 rlf2 rlc3 rlf3 rmc0 rmf0 rmc1 rmf1 rmc2 rmf2 rmc3 rmf3 rnl rll rml
                      rintro Y ⟨rn, rt, rl, rm, rx, rp, bL, bH, q1, q2, q3, q4, hk⟩
                      have rlc0 := rl.cell 0
                      have rlf0 := rl.free 0
                      have rlc1 := rl.cell 1
                      have rlf1 := rl.free 1
                      have rlc2 := rl.cell 2
                      have rlf2 := rl.free 2
                      have rlc3 := rl.cell 3
                      have rlf3 := rl.free 3
                      have rll := rl.lt
                      simp at rlc0 rlc1 rlc2 rlc3
                      have rmc0 := rm.cell 0
                      have rmf0 := rm.free 0
                      have rmc1 := rm.cell 1
                      have rmf1 := rm.free 1
                      have rmc2 := rm.cell 2
                      have rmf2 := rm.free 2
                      have rmc3 := rm.cell 3
                      have rmf3 := rm.free 3
                      have rml := rm.lt
                      simp at rmc0 rmc1 rmc2 rmc3
                      go_region
                      all_goals go_wp2
                      all_goals go_roundw
                      case rel => exact ⟨3, by omega, by go_num, by (exact blk), by (exact blk), show Blk _ _ #[.int .i64 (ls n x 4 0), .int .i64 (ls n x 4 1), .int .i64 (ls n x 4 2), .int .i64 (ls n x 3 3)] _ from by (refine Blk.cast (arr := ?_) ?_ ?_; rotate_left 1; (focus (exact blk)); (first | rfl | (simp; done) | (simp [ls, ms, Int.min_self, Int.max_self]; done))), show Blk _ _ #[.int .i64 (ms n x 4 0), .int .i64 (ms n x 4 1), .int .i64 (ms n x 4 2), .int .i64 (ms n x 3 3)] _ from by (refine Blk.cast (arr := ?_) ?_ ?_; rotate_left 1; (focus ((repeat (with_reducible refine Blk.drew ?_)); with_reducible refine Blk.set (arr := #[.int .i64 (ms n x 4 0), .int .i64 (ms n x 4 1), .int .i64 (ms n x 3 2), .int .i64 (ms n x 3 3)]) ?_ _ _; (exact blk))); (first | rfl | (simp; done) | (simp [ls, ms, Int.min_self, Int.max_self]; done))), by (exact blk), by (exact blk), by (exact blk), by (exact blk), by (exact blk), by (exact blk), by (exact blk), by (exact blk), by (exact kpt)⟩
                      case measure => simp [intOf]
                    · as_aux_lemma =>
                      simp only [mk4] at rl rm
                      have rnc0 := rn.cell 0
                      have rnf0 := rn.free 0
                      have rnc1 := rn.cell 1
                      have rnf1 := rn.free 1
                      have rnc2 := rn.cell 2
                      have rnf2 := rn.free 2
                      have rnc3 := rn.cell 3
                      have rnf3 := rn.free 3
                      have rnl := rn.lt
                      simp at rnc0 rnc1 rnc2 rnc3
                      have rlc0 := rl.cell 0
                      have rlf0 := rl.free 0
                      have rlc1 := rl.cell 1
                      have rlf1 := rl.free 1
                      have rlc2 := rl.cell 2
                      have rlf2 := rl.free 2
                      have rlc3 := rl.cell 3
                      have rlf3 := rl.free 3
                      have rll := rl.lt
                      simp at rlc0 rlc1 rlc2 rlc3
                      have rmc0 := rm.cell 0
                      have rmf0 := rm.free 0
                      have rmc1 := rm.cell 1
                      have rmf1 := rm.free 1
                      have rmc2 := rm.cell 2
                      have rmf2 := rm.free 2
                      have rmc3 := rm.cell 3
                      have rmf3 := rm.free 3
                      have rml := rm.lt
                      simp at rmc0 rmc1 rmc2 rmc3
                      go_upto_region 30 with fail
                      refine at_world (S := fun Y => Blk Y wj.heap.size #[.int .i64 (num n x.ahi x.whi 0), .int .i64 (num n x.ahi x.whi 1), .int .i64 (num n x.ahi x.whi 2), .int .i64 (num n x.ahi x.whi 3)] 3 ∧ Blk Y wi.heap.size #[.int .i64 x.wlo, .int .i64 x.whi] 3 ∧ Blk Y (b + 1) #[.int .i64 (ls n x 4 0), .int .i64 (ls n x 4 1), .int .i64 (ls n x 4 2), .int .i64 (ls n x 3 3)] 96 ∧ Blk Y (b + 1 + 1) #[.int .i64 (ms n x 4 0), .int .i64 (ms n x 4 1), .int .i64 (ms n x 4 2), .int .i64 (ms n x 3 3)] 96 ∧ Blk Y b #[.int .i64 x.alo, .int .i64 x.ahi, .int .i64 x.wlo, .int .i64 x.whi] 88 ∧ Blk Y V.heap.size #[.int .i64 x.alo, .int .i64 x.ahi] 3 ∧ Blk Y nL #[.int .i64 (F 0), .int .i64 (F 1), .int .i64 (F 2), .int .i64 (F 3)] 96 ∧ Blk Y (nL + 1) #[.int .i64 (G 0), .int .i64 (G 1), .int .i64 (G 2), .int .i64 (G 3)] 96 ∧ Blk Y n1 #[.int .i64 l1, .int .i64 l2] 49 ∧ Blk Y (n1 + 1) #[.int .i64 m1, .int .i64 m2] 49 ∧ Blk Y n2 #[.int .i64 s1, .int .i64 s2] 49 ∧ Blk Y n3 #[.int .i64 d1, .int .i64 d2] 49 ∧ Kept w Y) ⟨by (exact blk), by (exact blk), by (refine Blk.cast (arr := ?_) ?_ ?_; rotate_left 1; (focus (exact blk)); (first | rfl | (simp; done) | (simp [ls, ms, Int.min_self, Int.max_self]; done))), by (refine Blk.cast (arr := ?_) ?_ ?_; rotate_left 1; (focus (exact blk)); (first | rfl | (simp; done) | (simp [ls, ms, Int.min_self, Int.max_self]; done))), by (exact blk), by (exact blk), by (exact blk), by (exact blk), by (exact blk), by (exact blk), by (exact blk), by (exact blk), by (exact kpt)⟩ ?_
                      clear rn rt rl rm rx rp bL bH q1 q2 q3 q4 hk rnc0 rnf0 rnc1 rnf1 rnc2 rnf2 rnc3 rnf3 rlc0 rlf0 rlc1 rlf1 rlc2 rlf2 rlc3 rlf3 rmc0 rmf0 rmc1 rmf1 rmc2 rmf2 rmc3 rmf3 rnl rll rml
                      rintro Y ⟨rn, rt, rl, rm, rx, rp, bL, bH, q1, q2, q3, q4, hk⟩
                      have rlc0 := rl.cell 0
                      have rlf0 := rl.free 0
                      have rlc1 := rl.cell 1
                      have rlf1 := rl.free 1
                      have rlc2 := rl.cell 2
                      have rlf2 := rl.free 2
                      have rlc3 := rl.cell 3
                      have rlf3 := rl.free 3
                      have rll := rl.lt
                      simp at rlc0 rlc1 rlc2 rlc3
                      have rmc0 := rm.cell 0
                      have rmf0 := rm.free 0
                      have rmc1 := rm.cell 1
                      have rmf1 := rm.free 1
                      have rmc2 := rm.cell 2
                      have rmf2 := rm.free 2
                      have rmc3 := rm.cell 3
                      have rmf3 := rm.free 3
                      have rml := rm.lt
                      simp at rmc0 rmc1 rmc2 rmc3
                      go_region
                      all_goals go_wp2
                      all_goals go_roundw
                      case rel => exact ⟨4, by omega, by go_num, by (exact blk), by (exact blk), show Blk _ _ #[.int .i64 (ls n x 4 0), .int .i64 (ls n x 4 1), .int .i64 (ls n x 4 2), .int .i64 (ls n x 4 3)] _ from by (refine Blk.cast (arr := ?_) ?_ ?_; rotate_left 1; (focus (exact blk)); (first | rfl | (simp; done) | (simp [ls, ms, Int.min_self, Int.max_self]; done))), show Blk _ _ #[.int .i64 (ms n x 4 0), .int .i64 (ms n x 4 1), .int .i64 (ms n x 4 2), .int .i64 (ms n x 4 3)] _ from by (refine Blk.cast (arr := ?_) ?_ ?_; rotate_left 1; (focus ((repeat (with_reducible refine Blk.drew ?_)); with_reducible refine Blk.set (arr := #[.int .i64 (ms n x 4 0), .int .i64 (ms n x 4 1), .int .i64 (ms n x 4 2), .int .i64 (ms n x 3 3)]) ?_ _ _; (exact blk))); (first | rfl | (simp; done) | (simp [ls, ms, Int.min_self, Int.max_self]; done))), by (exact blk), by (exact blk), by (exact blk), by (exact blk), by (exact blk), by (exact blk), by (exact blk), by (exact blk), by (exact kpt)⟩
                      case measure => simp [intOf]
                    · as_aux_lemma =>
                      simp only [mk4] at rl rm
                      go_wp2
                      go_roundw
                      case rel => exact ⟨2, by omega, by go_num, rt, rl, rm, rx, rp, bL, bH, q1, q2, q3, q4, hk⟩
                      case measure => simp [intOf]
                · have HP := Lib.hid (show cA n x.ahi = 0 by unfold cA; rw [if_neg hp])
                  clear t1 t3
                  go_wp2
                  go_loopw [121] (fun i wk => ∃ e : Nat, e ≤ 4 ∧ i = .int .i64 e ∧ Blk wk wj.heap.size #[.int .i64 (num n x.ahi x.whi 0), .int .i64 (num n x.ahi x.whi 1), .int .i64 (num n x.ahi x.whi 2), .int .i64 (num n x.ahi x.whi 3)] 3 ∧ Blk wk wi.heap.size #[.int .i64 x.wlo, .int .i64 x.whi] 3 ∧ Blk wk (b + 1) (mk4 (ls n x 3) (ls n x 4) e) 96 ∧ Blk wk (b + 1 + 1) (mk4 (ms n x 3) (ms n x 4) e) 96 ∧ Blk wk b #[.int .i64 x.alo, .int .i64 x.ahi, .int .i64 x.wlo, .int .i64 x.whi] 88 ∧ Blk wk V.heap.size #[.int .i64 x.alo, .int .i64 x.ahi] 3 ∧ Blk wk nL #[.int .i64 (F 0), .int .i64 (F 1), .int .i64 (F 2), .int .i64 (F 3)] 96 ∧ Blk wk (nL + 1) #[.int .i64 (G 0), .int .i64 (G 1), .int .i64 (G 2), .int .i64 (G 3)] 96 ∧ Blk wk n1 #[.int .i64 l1, .int .i64 l2] 49 ∧ Blk wk (n1 + 1) #[.int .i64 m1, .int .i64 m2] 49 ∧ Blk wk n2 #[.int .i64 s1, .int .i64 s2] 49 ∧ Blk wk n3 #[.int .i64 d1, .int .i64 d2] 49 ∧ Kept w wk) (fun i _ => 4 - (intOf i).toNat)
                  case atStart => exact ⟨0, by omega, rfl, by (refine Blk.cast (arr := ?_) ?_ ?_; rotate_left 1; (focus (exact blk)); (first | rfl | (simp; done) | (simp [num, HP.out]; done))), by (exact blk), show Blk _ _ #[.int .i64 (ls n x 3 0), .int .i64 (ls n x 3 1), .int .i64 (ls n x 3 2), .int .i64 (ls n x 3 3)] _ from by (exact blk), show Blk _ _ #[.int .i64 (ms n x 3 0), .int .i64 (ms n x 3 1), .int .i64 (ms n x 3 2), .int .i64 (ms n x 3 3)] _ from by (exact blk), by (exact blk), by (exact blk), by (exact blk), by (exact blk), by (exact blk), by (exact blk), by (exact blk), by (exact blk), by (exact kpt)⟩
                  case round =>
                    rename World => wk
                    clear rt rl rm rx rp bL bH q1 q2 q3 q4 hk
                    obtain ⟨e, he, rfl, rn, rt, rl, rm, rx, rp, bL, bH, q1, q2, q3, q4, hk⟩ := hrel
                    have e9 := rn.lt
                    rcases (by omega : e = 0 ∨ e = 1 ∨ e = 2 ∨ e = 3 ∨ e = 4) with rfl | rfl | rfl | rfl | rfl
                    · as_aux_lemma =>
                      simp only [mk4] at rl rm
                      have rnc0 := rn.cell 0
                      have rnf0 := rn.free 0
                      have rnc1 := rn.cell 1
                      have rnf1 := rn.free 1
                      have rnc2 := rn.cell 2
                      have rnf2 := rn.free 2
                      have rnc3 := rn.cell 3
                      have rnf3 := rn.free 3
                      have rnl := rn.lt
                      simp at rnc0 rnc1 rnc2 rnc3
                      have rlc0 := rl.cell 0
                      have rlf0 := rl.free 0
                      have rlc1 := rl.cell 1
                      have rlf1 := rl.free 1
                      have rlc2 := rl.cell 2
                      have rlf2 := rl.free 2
                      have rlc3 := rl.cell 3
                      have rlf3 := rl.free 3
                      have rll := rl.lt
                      simp at rlc0 rlc1 rlc2 rlc3
                      have rmc0 := rm.cell 0
                      have rmf0 := rm.free 0
                      have rmc1 := rm.cell 1
                      have rmf1 := rm.free 1
                      have rmc2 := rm.cell 2
                      have rmf2 := rm.free 2
                      have rmc3 := rm.cell 3
                      have rmf3 := rm.free 3
                      have rml := rm.lt
                      simp at rmc0 rmc1 rmc2 rmc3
                      go_upto_region 30 with fail
                      refine at_world (S := fun Y => Blk Y wj.heap.size #[.int .i64 (num n x.ahi x.whi 0), .int .i64 (num n x.ahi x.whi 1), .int .i64 (num n x.ahi x.whi 2), .int .i64 (num n x.ahi x.whi 3)] 3 ∧ Blk Y wi.heap.size #[.int .i64 x.wlo, .int .i64 x.whi] 3 ∧ Blk Y (b + 1) #[.int .i64 (ls n x 3 0), .int .i64 (ls n x 3 1), .int .i64 (ls n x 3 2), .int .i64 (ls n x 3 3)] 96 ∧ Blk Y (b + 1 + 1) #[.int .i64 (ms n x 3 0), .int .i64 (ms n x 3 1), .int .i64 (ms n x 3 2), .int .i64 (ms n x 3 3)] 96 ∧ Blk Y b #[.int .i64 x.alo, .int .i64 x.ahi, .int .i64 x.wlo, .int .i64 x.whi] 88 ∧ Blk Y V.heap.size #[.int .i64 x.alo, .int .i64 x.ahi] 3 ∧ Blk Y nL #[.int .i64 (F 0), .int .i64 (F 1), .int .i64 (F 2), .int .i64 (F 3)] 96 ∧ Blk Y (nL + 1) #[.int .i64 (G 0), .int .i64 (G 1), .int .i64 (G 2), .int .i64 (G 3)] 96 ∧ Blk Y n1 #[.int .i64 l1, .int .i64 l2] 49 ∧ Blk Y (n1 + 1) #[.int .i64 m1, .int .i64 m2] 49 ∧ Blk Y n2 #[.int .i64 s1, .int .i64 s2] 49 ∧ Blk Y n3 #[.int .i64 d1, .int .i64 d2] 49 ∧ Kept w Y) ⟨by (exact blk), by (exact blk), by (refine Blk.cast (arr := ?_) ?_ ?_; rotate_left 1; (focus (exact blk)); (first | rfl | (simp; done) | (simp [ls, ms, Int.min_self, Int.max_self]; done))), by (refine Blk.cast (arr := ?_) ?_ ?_; rotate_left 1; (focus (exact blk)); (first | rfl | (simp; done) | (simp [ls, ms, Int.min_self, Int.max_self]; done))), by (exact blk), by (exact blk), by (exact blk), by (exact blk), by (exact blk), by (exact blk), by (exact blk), by (exact blk), by (exact kpt)⟩ ?_
                      clear rn rt rl rm rx rp bL bH q1 q2 q3 q4 hk rnc0 rnf0 rnc1 rnf1 rnc2 rnf2 rnc3 rnf3 rlc0 rlf0 rlc1 rlf1 rlc2 rlf2 rlc3 rlf3 rmc0 rmf0 rmc1 rmf1 rmc2 rmf2 rmc3 rmf3 rnl rll rml
                      rintro Y ⟨rn, rt, rl, rm, rx, rp, bL, bH, q1, q2, q3, q4, hk⟩
                      have rlc0 := rl.cell 0
                      have rlf0 := rl.free 0
                      have rlc1 := rl.cell 1
                      have rlf1 := rl.free 1
                      have rlc2 := rl.cell 2
                      have rlf2 := rl.free 2
                      have rlc3 := rl.cell 3
                      have rlf3 := rl.free 3
                      have rll := rl.lt
                      simp at rlc0 rlc1 rlc2 rlc3
                      have rmc0 := rm.cell 0
                      have rmf0 := rm.free 0
                      have rmc1 := rm.cell 1
                      have rmf1 := rm.free 1
                      have rmc2 := rm.cell 2
                      have rmf2 := rm.free 2
                      have rmc3 := rm.cell 3
                      have rmf3 := rm.free 3
                      have rml := rm.lt
                      simp at rmc0 rmc1 rmc2 rmc3
                      go_region
                      all_goals go_wp2
                      all_goals go_roundw
                      case rel => exact ⟨1, by omega, by go_num, by (exact blk), by (exact blk), show Blk _ _ #[.int .i64 (ls n x 4 0), .int .i64 (ls n x 3 1), .int .i64 (ls n x 3 2), .int .i64 (ls n x 3 3)] _ from by (refine Blk.cast (arr := ?_) ?_ ?_; rotate_left 1; (focus (exact blk)); (first | rfl | (simp; done) | (simp [ls, ms, Int.min_self, Int.max_self]; done))), show Blk _ _ #[.int .i64 (ms n x 4 0), .int .i64 (ms n x 3 1), .int .i64 (ms n x 3 2), .int .i64 (ms n x 3 3)] _ from by (refine Blk.cast (arr := ?_) ?_ ?_; rotate_left 1; (focus ((repeat (with_reducible refine Blk.drew ?_)); with_reducible refine Blk.set (arr := #[.int .i64 (ms n x 3 0), .int .i64 (ms n x 3 1), .int .i64 (ms n x 3 2), .int .i64 (ms n x 3 3)]) ?_ _ _; (exact blk))); (first | rfl | (simp; done) | (simp [ls, ms, Int.min_self, Int.max_self]; done))), by (exact blk), by (exact blk), by (exact blk), by (exact blk), by (exact blk), by (exact blk), by (exact blk), by (exact blk), by (exact kpt)⟩
                      case measure => simp [intOf]
                    · as_aux_lemma =>
                      simp only [mk4] at rl rm
                      have rnc0 := rn.cell 0
                      have rnf0 := rn.free 0
                      have rnc1 := rn.cell 1
                      have rnf1 := rn.free 1
                      have rnc2 := rn.cell 2
                      have rnf2 := rn.free 2
                      have rnc3 := rn.cell 3
                      have rnf3 := rn.free 3
                      have rnl := rn.lt
                      simp at rnc0 rnc1 rnc2 rnc3
                      have rlc0 := rl.cell 0
                      have rlf0 := rl.free 0
                      have rlc1 := rl.cell 1
                      have rlf1 := rl.free 1
                      have rlc2 := rl.cell 2
                      have rlf2 := rl.free 2
                      have rlc3 := rl.cell 3
                      have rlf3 := rl.free 3
                      have rll := rl.lt
                      simp at rlc0 rlc1 rlc2 rlc3
                      have rmc0 := rm.cell 0
                      have rmf0 := rm.free 0
                      have rmc1 := rm.cell 1
                      have rmf1 := rm.free 1
                      have rmc2 := rm.cell 2
                      have rmf2 := rm.free 2
                      have rmc3 := rm.cell 3
                      have rmf3 := rm.free 3
                      have rml := rm.lt
                      simp at rmc0 rmc1 rmc2 rmc3
                      go_upto_region 30 with fail
                      refine at_world (S := fun Y => Blk Y wj.heap.size #[.int .i64 (num n x.ahi x.whi 0), .int .i64 (num n x.ahi x.whi 1), .int .i64 (num n x.ahi x.whi 2), .int .i64 (num n x.ahi x.whi 3)] 3 ∧ Blk Y wi.heap.size #[.int .i64 x.wlo, .int .i64 x.whi] 3 ∧ Blk Y (b + 1) #[.int .i64 (ls n x 4 0), .int .i64 (ls n x 3 1), .int .i64 (ls n x 3 2), .int .i64 (ls n x 3 3)] 96 ∧ Blk Y (b + 1 + 1) #[.int .i64 (ms n x 4 0), .int .i64 (ms n x 3 1), .int .i64 (ms n x 3 2), .int .i64 (ms n x 3 3)] 96 ∧ Blk Y b #[.int .i64 x.alo, .int .i64 x.ahi, .int .i64 x.wlo, .int .i64 x.whi] 88 ∧ Blk Y V.heap.size #[.int .i64 x.alo, .int .i64 x.ahi] 3 ∧ Blk Y nL #[.int .i64 (F 0), .int .i64 (F 1), .int .i64 (F 2), .int .i64 (F 3)] 96 ∧ Blk Y (nL + 1) #[.int .i64 (G 0), .int .i64 (G 1), .int .i64 (G 2), .int .i64 (G 3)] 96 ∧ Blk Y n1 #[.int .i64 l1, .int .i64 l2] 49 ∧ Blk Y (n1 + 1) #[.int .i64 m1, .int .i64 m2] 49 ∧ Blk Y n2 #[.int .i64 s1, .int .i64 s2] 49 ∧ Blk Y n3 #[.int .i64 d1, .int .i64 d2] 49 ∧ Kept w Y) ⟨by (exact blk), by (exact blk), by (refine Blk.cast (arr := ?_) ?_ ?_; rotate_left 1; (focus (exact blk)); (first | rfl | (simp; done) | (simp [ls, ms, Int.min_self, Int.max_self]; done))), by (refine Blk.cast (arr := ?_) ?_ ?_; rotate_left 1; (focus (exact blk)); (first | rfl | (simp; done) | (simp [ls, ms, Int.min_self, Int.max_self]; done))), by (exact blk), by (exact blk), by (exact blk), by (exact blk), by (exact blk), by (exact blk), by (exact blk), by (exact blk), by (exact kpt)⟩ ?_
                      clear rn rt rl rm rx rp bL bH q1 q2 q3 q4 hk rnc0 rnf0 rnc1 rnf1 rnc2 rnf2 rnc3 rnf3 rlc0 rlf0 rlc1 rlf1 rlc2 rlf2 rlc3 rlf3 rmc0 rmf0 rmc1 rmf1 rmc2 rmf2 rmc3 rmf3 rnl rll rml
                      rintro Y ⟨rn, rt, rl, rm, rx, rp, bL, bH, q1, q2, q3, q4, hk⟩
                      have rlc0 := rl.cell 0
                      have rlf0 := rl.free 0
                      have rlc1 := rl.cell 1
                      have rlf1 := rl.free 1
                      have rlc2 := rl.cell 2
                      have rlf2 := rl.free 2
                      have rlc3 := rl.cell 3
                      have rlf3 := rl.free 3
                      have rll := rl.lt
                      simp at rlc0 rlc1 rlc2 rlc3
                      have rmc0 := rm.cell 0
                      have rmf0 := rm.free 0
                      have rmc1 := rm.cell 1
                      have rmf1 := rm.free 1
                      have rmc2 := rm.cell 2
                      have rmf2 := rm.free 2
                      have rmc3 := rm.cell 3
                      have rmf3 := rm.free 3
                      have rml := rm.lt
                      simp at rmc0 rmc1 rmc2 rmc3
                      go_region
                      all_goals go_wp2
                      all_goals go_roundw
                      case rel => exact ⟨2, by omega, by go_num, by (exact blk), by (exact blk), show Blk _ _ #[.int .i64 (ls n x 4 0), .int .i64 (ls n x 4 1), .int .i64 (ls n x 3 2), .int .i64 (ls n x 3 3)] _ from by (refine Blk.cast (arr := ?_) ?_ ?_; rotate_left 1; (focus (exact blk)); (first | rfl | (simp; done) | (simp [ls, ms, Int.min_self, Int.max_self]; done))), show Blk _ _ #[.int .i64 (ms n x 4 0), .int .i64 (ms n x 4 1), .int .i64 (ms n x 3 2), .int .i64 (ms n x 3 3)] _ from by (refine Blk.cast (arr := ?_) ?_ ?_; rotate_left 1; (focus ((repeat (with_reducible refine Blk.drew ?_)); with_reducible refine Blk.set (arr := #[.int .i64 (ms n x 4 0), .int .i64 (ms n x 3 1), .int .i64 (ms n x 3 2), .int .i64 (ms n x 3 3)]) ?_ _ _; (exact blk))); (first | rfl | (simp; done) | (simp [ls, ms, Int.min_self, Int.max_self]; done))), by (exact blk), by (exact blk), by (exact blk), by (exact blk), by (exact blk), by (exact blk), by (exact blk), by (exact blk), by (exact kpt)⟩
                      case measure => simp [intOf]
                    · as_aux_lemma =>
                      simp only [mk4] at rl rm
                      have rnc0 := rn.cell 0
                      have rnf0 := rn.free 0
                      have rnc1 := rn.cell 1
                      have rnf1 := rn.free 1
                      have rnc2 := rn.cell 2
                      have rnf2 := rn.free 2
                      have rnc3 := rn.cell 3
                      have rnf3 := rn.free 3
                      have rnl := rn.lt
                      simp at rnc0 rnc1 rnc2 rnc3
                      have rlc0 := rl.cell 0
                      have rlf0 := rl.free 0
                      have rlc1 := rl.cell 1
                      have rlf1 := rl.free 1
                      have rlc2 := rl.cell 2
                      have rlf2 := rl.free 2
                      have rlc3 := rl.cell 3
                      have rlf3 := rl.free 3
                      have rll := rl.lt
                      simp at rlc0 rlc1 rlc2 rlc3
                      have rmc0 := rm.cell 0
                      have rmf0 := rm.free 0
                      have rmc1 := rm.cell 1
                      have rmf1 := rm.free 1
                      have rmc2 := rm.cell 2
                      have rmf2 := rm.free 2
                      have rmc3 := rm.cell 3
                      have rmf3 := rm.free 3
                      have rml := rm.lt
                      simp at rmc0 rmc1 rmc2 rmc3
                      go_upto_region 30 with fail
                      refine at_world (S := fun Y => Blk Y wj.heap.size #[.int .i64 (num n x.ahi x.whi 0), .int .i64 (num n x.ahi x.whi 1), .int .i64 (num n x.ahi x.whi 2), .int .i64 (num n x.ahi x.whi 3)] 3 ∧ Blk Y wi.heap.size #[.int .i64 x.wlo, .int .i64 x.whi] 3 ∧ Blk Y (b + 1) #[.int .i64 (ls n x 4 0), .int .i64 (ls n x 4 1), .int .i64 (ls n x 3 2), .int .i64 (ls n x 3 3)] 96 ∧ Blk Y (b + 1 + 1) #[.int .i64 (ms n x 4 0), .int .i64 (ms n x 4 1), .int .i64 (ms n x 3 2), .int .i64 (ms n x 3 3)] 96 ∧ Blk Y b #[.int .i64 x.alo, .int .i64 x.ahi, .int .i64 x.wlo, .int .i64 x.whi] 88 ∧ Blk Y V.heap.size #[.int .i64 x.alo, .int .i64 x.ahi] 3 ∧ Blk Y nL #[.int .i64 (F 0), .int .i64 (F 1), .int .i64 (F 2), .int .i64 (F 3)] 96 ∧ Blk Y (nL + 1) #[.int .i64 (G 0), .int .i64 (G 1), .int .i64 (G 2), .int .i64 (G 3)] 96 ∧ Blk Y n1 #[.int .i64 l1, .int .i64 l2] 49 ∧ Blk Y (n1 + 1) #[.int .i64 m1, .int .i64 m2] 49 ∧ Blk Y n2 #[.int .i64 s1, .int .i64 s2] 49 ∧ Blk Y n3 #[.int .i64 d1, .int .i64 d2] 49 ∧ Kept w Y) ⟨by (exact blk), by (exact blk), by (refine Blk.cast (arr := ?_) ?_ ?_; rotate_left 1; (focus (exact blk)); (first | rfl | (simp; done) | (simp [ls, ms, Int.min_self, Int.max_self]; done))), by (refine Blk.cast (arr := ?_) ?_ ?_; rotate_left 1; (focus (exact blk)); (first | rfl | (simp; done) | (simp [ls, ms, Int.min_self, Int.max_self]; done))), by (exact blk), by (exact blk), by (exact blk), by (exact blk), by (exact blk), by (exact blk), by (exact blk), by (exact blk), by (exact kpt)⟩ ?_
                      clear rn rt rl rm rx rp bL bH q1 q2 q3 q4 hk rnc0 rnf0 rnc1 rnf1 rnc2 rnf2 rnc3 rnf3 rlc0 rlf0 rlc1 rlf1 rlc2 rlf2 rlc3 rlf3 rmc0 rmf0 rmc1 rmf1 rmc2 rmf2 rmc3 rmf3 rnl rll rml
                      rintro Y ⟨rn, rt, rl, rm, rx, rp, bL, bH, q1, q2, q3, q4, hk⟩
                      have rlc0 := rl.cell 0
                      have rlf0 := rl.free 0
                      have rlc1 := rl.cell 1
                      have rlf1 := rl.free 1
                      have rlc2 := rl.cell 2
                      have rlf2 := rl.free 2
                      have rlc3 := rl.cell 3
                      have rlf3 := rl.free 3
                      have rll := rl.lt
                      simp at rlc0 rlc1 rlc2 rlc3
                      have rmc0 := rm.cell 0
                      have rmf0 := rm.free 0
                      have rmc1 := rm.cell 1
                      have rmf1 := rm.free 1
                      have rmc2 := rm.cell 2
                      have rmf2 := rm.free 2
                      have rmc3 := rm.cell 3
                      have rmf3 := rm.free 3
                      have rml := rm.lt
                      simp at rmc0 rmc1 rmc2 rmc3
                      go_region
                      all_goals go_wp2
                      all_goals go_roundw
                      case rel => exact ⟨3, by omega, by go_num, by (exact blk), by (exact blk), show Blk _ _ #[.int .i64 (ls n x 4 0), .int .i64 (ls n x 4 1), .int .i64 (ls n x 4 2), .int .i64 (ls n x 3 3)] _ from by (refine Blk.cast (arr := ?_) ?_ ?_; rotate_left 1; (focus (exact blk)); (first | rfl | (simp; done) | (simp [ls, ms, Int.min_self, Int.max_self]; done))), show Blk _ _ #[.int .i64 (ms n x 4 0), .int .i64 (ms n x 4 1), .int .i64 (ms n x 4 2), .int .i64 (ms n x 3 3)] _ from by (refine Blk.cast (arr := ?_) ?_ ?_; rotate_left 1; (focus ((repeat (with_reducible refine Blk.drew ?_)); with_reducible refine Blk.set (arr := #[.int .i64 (ms n x 4 0), .int .i64 (ms n x 4 1), .int .i64 (ms n x 3 2), .int .i64 (ms n x 3 3)]) ?_ _ _; (exact blk))); (first | rfl | (simp; done) | (simp [ls, ms, Int.min_self, Int.max_self]; done))), by (exact blk), by (exact blk), by (exact blk), by (exact blk), by (exact blk), by (exact blk), by (exact blk), by (exact blk), by (exact kpt)⟩
                      case measure => simp [intOf]
                    · as_aux_lemma =>
                      simp only [mk4] at rl rm
                      have rnc0 := rn.cell 0
                      have rnf0 := rn.free 0
                      have rnc1 := rn.cell 1
                      have rnf1 := rn.free 1
                      have rnc2 := rn.cell 2
                      have rnf2 := rn.free 2
                      have rnc3 := rn.cell 3
                      have rnf3 := rn.free 3
                      have rnl := rn.lt
                      simp at rnc0 rnc1 rnc2 rnc3
                      have rlc0 := rl.cell 0
                      have rlf0 := rl.free 0
                      have rlc1 := rl.cell 1
                      have rlf1 := rl.free 1
                      have rlc2 := rl.cell 2
                      have rlf2 := rl.free 2
                      have rlc3 := rl.cell 3
                      have rlf3 := rl.free 3
                      have rll := rl.lt
                      simp at rlc0 rlc1 rlc2 rlc3
                      have rmc0 := rm.cell 0
                      have rmf0 := rm.free 0
                      have rmc1 := rm.cell 1
                      have rmf1 := rm.free 1
                      have rmc2 := rm.cell 2
                      have rmf2 := rm.free 2
                      have rmc3 := rm.cell 3
                      have rmf3 := rm.free 3
                      have rml := rm.lt
                      simp at rmc0 rmc1 rmc2 rmc3
                      go_upto_region 30 with fail
                      refine at_world (S := fun Y => Blk Y wj.heap.size #[.int .i64 (num n x.ahi x.whi 0), .int .i64 (num n x.ahi x.whi 1), .int .i64 (num n x.ahi x.whi 2), .int .i64 (num n x.ahi x.whi 3)] 3 ∧ Blk Y wi.heap.size #[.int .i64 x.wlo, .int .i64 x.whi] 3 ∧ Blk Y (b + 1) #[.int .i64 (ls n x 4 0), .int .i64 (ls n x 4 1), .int .i64 (ls n x 4 2), .int .i64 (ls n x 3 3)] 96 ∧ Blk Y (b + 1 + 1) #[.int .i64 (ms n x 4 0), .int .i64 (ms n x 4 1), .int .i64 (ms n x 4 2), .int .i64 (ms n x 3 3)] 96 ∧ Blk Y b #[.int .i64 x.alo, .int .i64 x.ahi, .int .i64 x.wlo, .int .i64 x.whi] 88 ∧ Blk Y V.heap.size #[.int .i64 x.alo, .int .i64 x.ahi] 3 ∧ Blk Y nL #[.int .i64 (F 0), .int .i64 (F 1), .int .i64 (F 2), .int .i64 (F 3)] 96 ∧ Blk Y (nL + 1) #[.int .i64 (G 0), .int .i64 (G 1), .int .i64 (G 2), .int .i64 (G 3)] 96 ∧ Blk Y n1 #[.int .i64 l1, .int .i64 l2] 49 ∧ Blk Y (n1 + 1) #[.int .i64 m1, .int .i64 m2] 49 ∧ Blk Y n2 #[.int .i64 s1, .int .i64 s2] 49 ∧ Blk Y n3 #[.int .i64 d1, .int .i64 d2] 49 ∧ Kept w Y) ⟨by (exact blk), by (exact blk), by (refine Blk.cast (arr := ?_) ?_ ?_; rotate_left 1; (focus (exact blk)); (first | rfl | (simp; done) | (simp [ls, ms, Int.min_self, Int.max_self]; done))), by (refine Blk.cast (arr := ?_) ?_ ?_; rotate_left 1; (focus (exact blk)); (first | rfl | (simp; done) | (simp [ls, ms, Int.min_self, Int.max_self]; done))), by (exact blk), by (exact blk), by (exact blk), by (exact blk), by (exact blk), by (exact blk), by (exact blk), by (exact blk), by (exact kpt)⟩ ?_
                      clear rn rt rl rm rx rp bL bH q1 q2 q3 q4 hk rnc0 rnf0 rnc1 rnf1 rnc2 rnf2 rnc3 rnf3 rlc0 rlf0 rlc1 rlf1 rlc2 rlf2 rlc3 rlf3 rmc0 rmf0 rmc1 rmf1 rmc2 rmf2 rmc3 rmf3 rnl rll rml
                      rintro Y ⟨rn, rt, rl, rm, rx, rp, bL, bH, q1, q2, q3, q4, hk⟩
                      have rlc0 := rl.cell 0
                      have rlf0 := rl.free 0
                      have rlc1 := rl.cell 1
                      have rlf1 := rl.free 1
                      have rlc2 := rl.cell 2
                      have rlf2 := rl.free 2
                      have rlc3 := rl.cell 3
                      have rlf3 := rl.free 3
                      have rll := rl.lt
                      simp at rlc0 rlc1 rlc2 rlc3
                      have rmc0 := rm.cell 0
                      have rmf0 := rm.free 0
                      have rmc1 := rm.cell 1
                      have rmf1 := rm.free 1
                      have rmc2 := rm.cell 2
                      have rmf2 := rm.free 2
                      have rmc3 := rm.cell 3
                      have rmf3 := rm.free 3
                      have rml := rm.lt
                      simp at rmc0 rmc1 rmc2 rmc3
                      go_region
                      all_goals go_wp2
                      all_goals go_roundw
                      case rel => exact ⟨4, by omega, by go_num, by (exact blk), by (exact blk), show Blk _ _ #[.int .i64 (ls n x 4 0), .int .i64 (ls n x 4 1), .int .i64 (ls n x 4 2), .int .i64 (ls n x 4 3)] _ from by (refine Blk.cast (arr := ?_) ?_ ?_; rotate_left 1; (focus (exact blk)); (first | rfl | (simp; done) | (simp [ls, ms, Int.min_self, Int.max_self]; done))), show Blk _ _ #[.int .i64 (ms n x 4 0), .int .i64 (ms n x 4 1), .int .i64 (ms n x 4 2), .int .i64 (ms n x 4 3)] _ from by (refine Blk.cast (arr := ?_) ?_ ?_; rotate_left 1; (focus ((repeat (with_reducible refine Blk.drew ?_)); with_reducible refine Blk.set (arr := #[.int .i64 (ms n x 4 0), .int .i64 (ms n x 4 1), .int .i64 (ms n x 4 2), .int .i64 (ms n x 3 3)]) ?_ _ _; (exact blk))); (first | rfl | (simp; done) | (simp [ls, ms, Int.min_self, Int.max_self]; done))), by (exact blk), by (exact blk), by (exact blk), by (exact blk), by (exact blk), by (exact blk), by (exact blk), by (exact blk), by (exact kpt)⟩
                      case measure => simp [intOf]
                    · as_aux_lemma =>
                      simp only [mk4] at rl rm
                      go_wp2
                      go_roundw
                      case rel => exact ⟨2, by omega, by go_num, rt, rl, rm, rx, rp, bL, bH, q1, q2, q3, q4, hk⟩
                      case measure => simp [intOf]
              · as_aux_lemma =>
                go_wp2
                go_roundw
                case rel => exact ⟨2, 2, by omega, rfl, by go_num, rl, rm, rx, rp, bL, bH, q1, q2, q3, q4, hk⟩
                case measure => simp [intOf]
          · obtain rfl : ci = 2 := by omega
            clear hci
            replace rl : Blk wi (b + 1) #[.int .i64 (ls n x 4 0), .int .i64 (ls n x 4 1), .int .i64 (ls n x 4 2), .int .i64 (ls n x 4 3)] 96 := rl
            replace rm : Blk wi (b + 1 + 1) #[.int .i64 (ms n x 4 0), .int .i64 (ms n x 4 1), .int .i64 (ms n x 4 2), .int .i64 (ms n x 4 3)] 96 := rm
            clear rx rp
            go_wp2
            go_loopw [153] (fun i wf => ∃ e : Nat, e ≤ 4 ∧ i = .int .i64 e ∧ Blk wf (b + 1) #[.int .i64 (ls n x 4 0), .int .i64 (ls n x 4 1), .int .i64 (ls n x 4 2), .int .i64 (ls n x 4 3)] 96 ∧ Blk wf (b + 1 + 1) #[.int .i64 (ms n x 4 0), .int .i64 (ms n x 4 1), .int .i64 (ms n x 4 2), .int .i64 (ms n x 4 3)] 96 ∧ Blk wf nL (mk4 F (fun k => F k + ls n x 4 k) e) 96 ∧ Blk wf (nL + 1) (mk4 G (fun k => G k + ms n x 4 k) e) 96 ∧ Blk wf n1 #[.int .i64 l1, .int .i64 l2] 49 ∧ Blk wf (n1 + 1) #[.int .i64 m1, .int .i64 m2] 49 ∧ Blk wf n2 #[.int .i64 s1, .int .i64 s2] 49 ∧ Blk wf n3 #[.int .i64 d1, .int .i64 d2] 49 ∧ Kept w wf) (fun i _ => 4 - (intOf i).toNat)
            case atStart => exact ⟨0, by omega, rfl, rl, rm, bL, bH, q1, q2, q3, q4, hk⟩
            case round =>
              rename World => wf
              clear rl rm bL bH q1 q2 q3 q4 hk
              obtain ⟨e, he, rfl, rl, rm, bL, bH, q1, q2, q3, q4, hk⟩ := hrel
              rcases (by omega : e = 0 ∨ e = 1 ∨ e = 2 ∨ e = 3 ∨ e = 4) with rfl | rfl | rfl | rfl | rfl
              · as_aux_lemma =>
                simp only [mk4] at bL bH
                have rlc0 := rl.cell 0
                have rlf0 := rl.free 0
                have rlc1 := rl.cell 1
                have rlf1 := rl.free 1
                have rlc2 := rl.cell 2
                have rlf2 := rl.free 2
                have rlc3 := rl.cell 3
                have rlf3 := rl.free 3
                have rll := rl.lt
                simp at rlc0 rlc1 rlc2 rlc3
                have rmc0 := rm.cell 0
                have rmf0 := rm.free 0
                have rmc1 := rm.cell 1
                have rmf1 := rm.free 1
                have rmc2 := rm.cell 2
                have rmf2 := rm.free 2
                have rmc3 := rm.cell 3
                have rmf3 := rm.free 3
                have rml := rm.lt
                simp at rmc0 rmc1 rmc2 rmc3
                have bLc0 := bL.cell 0
                have bLf0 := bL.free 0
                have bLc1 := bL.cell 1
                have bLf1 := bL.free 1
                have bLc2 := bL.cell 2
                have bLf2 := bL.free 2
                have bLc3 := bL.cell 3
                have bLf3 := bL.free 3
                have bLl := bL.lt
                simp at bLc0 bLc1 bLc2 bLc3
                have bHc0 := bH.cell 0
                have bHf0 := bH.free 0
                have bHc1 := bH.cell 1
                have bHf1 := bH.free 1
                have bHc2 := bH.cell 2
                have bHf2 := bH.free 2
                have bHc3 := bH.cell 3
                have bHf3 := bH.free 3
                have bHl := bH.lt
                simp at bHc0 bHc1 bHc2 bHc3
                have u1 := HU.out 0
                have u2 := HU2.out 0
                go_upto_region 37 with fail
                go_region
                all_goals go_upto_region 38 with fail
                go_region
                all_goals go_wp2
                all_goals go_roundw
                case rel => exact ⟨1, by omega, by go_num, by (exact blk), by (exact blk), show Blk _ _ #[.int .i64 (F 0 + ls n x 4 0), .int .i64 (F 1), .int .i64 (F 2), .int .i64 (F 3)] _ from by (exact blkc), show Blk _ _ #[.int .i64 (G 0 + ms n x 4 0), .int .i64 (G 1), .int .i64 (G 2), .int .i64 (G 3)] _ from by (refine Blk.cast (arr := ?_) ?_ ?_; rotate_left 1; (focus ((repeat (with_reducible refine Blk.drew ?_)); with_reducible refine Blk.set (arr := #[.int .i64 (G 0), .int .i64 (G 1), .int .i64 (G 2), .int .i64 (G 3)]) ?_ _ _; (exact blk))); (first | rfl | (simp; done) | (simp [ls]; done))), by (exact blk), by (exact blk), by (exact blk), by (exact blk), by (exact kpt)⟩
                case measure => simp [intOf]
              · as_aux_lemma =>
                simp only [mk4] at bL bH
                have rlc0 := rl.cell 0
                have rlf0 := rl.free 0
                have rlc1 := rl.cell 1
                have rlf1 := rl.free 1
                have rlc2 := rl.cell 2
                have rlf2 := rl.free 2
                have rlc3 := rl.cell 3
                have rlf3 := rl.free 3
                have rll := rl.lt
                simp at rlc0 rlc1 rlc2 rlc3
                have rmc0 := rm.cell 0
                have rmf0 := rm.free 0
                have rmc1 := rm.cell 1
                have rmf1 := rm.free 1
                have rmc2 := rm.cell 2
                have rmf2 := rm.free 2
                have rmc3 := rm.cell 3
                have rmf3 := rm.free 3
                have rml := rm.lt
                simp at rmc0 rmc1 rmc2 rmc3
                have bLc0 := bL.cell 0
                have bLf0 := bL.free 0
                have bLc1 := bL.cell 1
                have bLf1 := bL.free 1
                have bLc2 := bL.cell 2
                have bLf2 := bL.free 2
                have bLc3 := bL.cell 3
                have bLf3 := bL.free 3
                have bLl := bL.lt
                simp at bLc0 bLc1 bLc2 bLc3
                have bHc0 := bH.cell 0
                have bHf0 := bH.free 0
                have bHc1 := bH.cell 1
                have bHf1 := bH.free 1
                have bHc2 := bH.cell 2
                have bHf2 := bH.free 2
                have bHc3 := bH.cell 3
                have bHf3 := bH.free 3
                have bHl := bH.lt
                simp at bHc0 bHc1 bHc2 bHc3
                have u1 := HU.out 1
                have u2 := HU2.out 1
                go_upto_region 37 with fail
                go_region
                all_goals go_upto_region 38 with fail
                go_region
                all_goals go_wp2
                all_goals go_roundw
                case rel => exact ⟨2, by omega, by go_num, by (exact blk), by (exact blk), show Blk _ _ #[.int .i64 (F 0 + ls n x 4 0), .int .i64 (F 1 + ls n x 4 1), .int .i64 (F 2), .int .i64 (F 3)] _ from by (exact blkc), show Blk _ _ #[.int .i64 (G 0 + ms n x 4 0), .int .i64 (G 1 + ms n x 4 1), .int .i64 (G 2), .int .i64 (G 3)] _ from by (refine Blk.cast (arr := ?_) ?_ ?_; rotate_left 1; (focus ((repeat (with_reducible refine Blk.drew ?_)); with_reducible refine Blk.set (arr := #[.int .i64 (G 0 + ms n x 4 0), .int .i64 (G 1), .int .i64 (G 2), .int .i64 (G 3)]) ?_ _ _; (exact blk))); (first | rfl | (simp; done) | (simp [ls]; done))), by (exact blk), by (exact blk), by (exact blk), by (exact blk), by (exact kpt)⟩
                case measure => simp [intOf]
              · as_aux_lemma =>
                simp only [mk4] at bL bH
                have rlc0 := rl.cell 0
                have rlf0 := rl.free 0
                have rlc1 := rl.cell 1
                have rlf1 := rl.free 1
                have rlc2 := rl.cell 2
                have rlf2 := rl.free 2
                have rlc3 := rl.cell 3
                have rlf3 := rl.free 3
                have rll := rl.lt
                simp at rlc0 rlc1 rlc2 rlc3
                have rmc0 := rm.cell 0
                have rmf0 := rm.free 0
                have rmc1 := rm.cell 1
                have rmf1 := rm.free 1
                have rmc2 := rm.cell 2
                have rmf2 := rm.free 2
                have rmc3 := rm.cell 3
                have rmf3 := rm.free 3
                have rml := rm.lt
                simp at rmc0 rmc1 rmc2 rmc3
                have bLc0 := bL.cell 0
                have bLf0 := bL.free 0
                have bLc1 := bL.cell 1
                have bLf1 := bL.free 1
                have bLc2 := bL.cell 2
                have bLf2 := bL.free 2
                have bLc3 := bL.cell 3
                have bLf3 := bL.free 3
                have bLl := bL.lt
                simp at bLc0 bLc1 bLc2 bLc3
                have bHc0 := bH.cell 0
                have bHf0 := bH.free 0
                have bHc1 := bH.cell 1
                have bHf1 := bH.free 1
                have bHc2 := bH.cell 2
                have bHf2 := bH.free 2
                have bHc3 := bH.cell 3
                have bHf3 := bH.free 3
                have bHl := bH.lt
                simp at bHc0 bHc1 bHc2 bHc3
                have u1 := HU.out 2
                have u2 := HU2.out 2
                go_upto_region 37 with fail
                go_region
                all_goals go_upto_region 38 with fail
                go_region
                all_goals go_wp2
                all_goals go_roundw
                case rel => exact ⟨3, by omega, by go_num, by (exact blk), by (exact blk), show Blk _ _ #[.int .i64 (F 0 + ls n x 4 0), .int .i64 (F 1 + ls n x 4 1), .int .i64 (F 2 + ls n x 4 2), .int .i64 (F 3)] _ from by (exact blkc), show Blk _ _ #[.int .i64 (G 0 + ms n x 4 0), .int .i64 (G 1 + ms n x 4 1), .int .i64 (G 2 + ms n x 4 2), .int .i64 (G 3)] _ from by (refine Blk.cast (arr := ?_) ?_ ?_; rotate_left 1; (focus ((repeat (with_reducible refine Blk.drew ?_)); with_reducible refine Blk.set (arr := #[.int .i64 (G 0 + ms n x 4 0), .int .i64 (G 1 + ms n x 4 1), .int .i64 (G 2), .int .i64 (G 3)]) ?_ _ _; (exact blk))); (first | rfl | (simp; done) | (simp [ls]; done))), by (exact blk), by (exact blk), by (exact blk), by (exact blk), by (exact kpt)⟩
                case measure => simp [intOf]
              · as_aux_lemma =>
                simp only [mk4] at bL bH
                have rlc0 := rl.cell 0
                have rlf0 := rl.free 0
                have rlc1 := rl.cell 1
                have rlf1 := rl.free 1
                have rlc2 := rl.cell 2
                have rlf2 := rl.free 2
                have rlc3 := rl.cell 3
                have rlf3 := rl.free 3
                have rll := rl.lt
                simp at rlc0 rlc1 rlc2 rlc3
                have rmc0 := rm.cell 0
                have rmf0 := rm.free 0
                have rmc1 := rm.cell 1
                have rmf1 := rm.free 1
                have rmc2 := rm.cell 2
                have rmf2 := rm.free 2
                have rmc3 := rm.cell 3
                have rmf3 := rm.free 3
                have rml := rm.lt
                simp at rmc0 rmc1 rmc2 rmc3
                have bLc0 := bL.cell 0
                have bLf0 := bL.free 0
                have bLc1 := bL.cell 1
                have bLf1 := bL.free 1
                have bLc2 := bL.cell 2
                have bLf2 := bL.free 2
                have bLc3 := bL.cell 3
                have bLf3 := bL.free 3
                have bLl := bL.lt
                simp at bLc0 bLc1 bLc2 bLc3
                have bHc0 := bH.cell 0
                have bHf0 := bH.free 0
                have bHc1 := bH.cell 1
                have bHf1 := bH.free 1
                have bHc2 := bH.cell 2
                have bHf2 := bH.free 2
                have bHc3 := bH.cell 3
                have bHf3 := bH.free 3
                have bHl := bH.lt
                simp at bHc0 bHc1 bHc2 bHc3
                have u1 := HU.out 3
                have u2 := HU2.out 3
                go_upto_region 37 with fail
                go_region
                all_goals go_upto_region 38 with fail
                go_region
                all_goals go_wp2
                all_goals go_roundw
                case rel => exact ⟨4, by omega, by go_num, by (exact blk), by (exact blk), show Blk _ _ #[.int .i64 (F 0 + ls n x 4 0), .int .i64 (F 1 + ls n x 4 1), .int .i64 (F 2 + ls n x 4 2), .int .i64 (F 3 + ls n x 4 3)] _ from by (exact blkc), show Blk _ _ #[.int .i64 (G 0 + ms n x 4 0), .int .i64 (G 1 + ms n x 4 1), .int .i64 (G 2 + ms n x 4 2), .int .i64 (G 3 + ms n x 4 3)] _ from by (refine Blk.cast (arr := ?_) ?_ ?_; rotate_left 1; (focus ((repeat (with_reducible refine Blk.drew ?_)); with_reducible refine Blk.set (arr := #[.int .i64 (G 0 + ms n x 4 0), .int .i64 (G 1 + ms n x 4 1), .int .i64 (G 2 + ms n x 4 2), .int .i64 (G 3)]) ?_ _ _; (exact blk))); (first | rfl | (simp; done) | (simp [ls]; done))), by (exact blk), by (exact blk), by (exact blk), by (exact blk), by (exact kpt)⟩
                case measure => simp [intOf]
              · as_aux_lemma =>
                simp only [mk4] at bL bH
                have bL2 : Blk wf nL #[.int .i64 (lsum n (xs.take (m + 1)) 0), .int .i64 (lsum n (xs.take (m + 1)) 1), .int .i64 (lsum n (xs.take (m + 1)) 2), .int .i64 (lsum n (xs.take (m + 1)) 3)] 96 := by rw [(HLT.out 0).1, (HLT.out 1).1, (HLT.out 2).1, (HLT.out 3).1]; exact bL
                have bH2 : Blk wf (nL + 1) #[.int .i64 (msum n (xs.take (m + 1)) 0), .int .i64 (msum n (xs.take (m + 1)) 1), .int .i64 (msum n (xs.take (m + 1)) 2), .int .i64 (msum n (xs.take (m + 1)) 3)] 96 := by rw [(HLT.out 0).2, (HLT.out 1).2, (HLT.out 2).2, (HLT.out 3).2]; exact bH
                clear bL bH
                go_wp2
                go_roundw
                case rel => exact ⟨m + 1, by omega, by go_num, bL2, bH2, q1, q2, q3, q4, hk⟩
                case measure => simp [intOf]; omega
      · as_aux_lemma =>
        obtain rfl : xs.length = m := by omega
        rw [List.take_length] at bL bH
        obtain ⟨⟨h1, h2⟩, ⟨h3, h4⟩, ⟨h5, h6⟩, h7, h8⟩ := HLW.out
        rw [h1, h3, h5, h7] at bL
        rw [h2, h4, h6, h8] at bH
        clear h1 h2 h3 h4 h5 h6 h7 h8
        have q1c0 := q1.cell 0
        have q1f0 := q1.free 0
        have q1c1 := q1.cell 1
        have q1f1 := q1.free 1
        have q1l := q1.lt
        simp at q1c0 q1c1
        have q2c0 := q2.cell 0
        have q2f0 := q2.free 0
        have q2c1 := q2.cell 1
        have q2f1 := q2.free 1
        have q2l := q2.lt
        simp at q2c0 q2c1
        have q3c0 := q3.cell 0
        have q3f0 := q3.free 0
        have q3c1 := q3.cell 1
        have q3f1 := q3.free 1
        have q3l := q3.lt
        simp at q3c0 q3c1
        have q4c0 := q4.cell 0
        have q4f0 := q4.free 0
        have q4c1 := q4.cell 1
        have q4f1 := q4.free 1
        have q4l := q4.lt
        simp at q4c0 q4c1
        have bLc0 := bL.cell 0
        have bLf0 := bL.free 0
        have bLc1 := bL.cell 1
        have bLf1 := bL.free 1
        have bLc2 := bL.cell 2
        have bLf2 := bL.free 2
        have bLc3 := bL.cell 3
        have bLf3 := bL.free 3
        have bLl := bL.lt
        simp at bLc0 bLc1 bLc2 bLc3
        have bHc0 := bH.cell 0
        have bHf0 := bH.free 0
        have bHc1 := bH.cell 1
        have bHf1 := bH.free 1
        have bHc2 := bH.cell 2
        have bHf2 := bH.free 2
        have bHc3 := bH.cell 3
        have bHf3 := bH.free 3
        have bHl := bH.lt
        simp at bHc0 bHc1 bHc2 bHc3
        go_wp2
        go_ret; exact ⟨rfl, by (exact kpt)⟩
end Go.Proofs.Ytlloijkmpmfapaa

/-
  TrimReached, the statement: for every input the call returns true and leaves the input alone.
-/
namespace Go.Proofs.Ytlloijkmpmfapaa.trimReached
open Go.ChangeShapes Go.WideShapes Go.ChangeAt Go.RowKit Bal Bal.Trim
open Go.ChangeMaps (open_string shut_string)
set_option linter.unusedVariables false

theorem own : ownKnob Try.prog.godebug = none := by kernel_rfl
theorem laidOut : laidOutB Try.prog = true := by kernel_rfl

set_option maxRecDepth 100000 in
theorem lifted (os : Os) (started : os.Started) (H : Type) (enc : TypeId × Value → H) :
    ReturnsInHanded {} Try.checked os 11 .any (Rows.trimReachedSpec.pre6 enc Try.prog Try.f11 Rows.trimReachedRow.domain false) (Rows.trimReachedSpec.post enc Try.prog Try.f11 false true false false) := by
  refine returnsInHanded_of_change (C := Try.checked) own started (by kernel_rfl) Try.func11
    (ChangeSpec.witness6 (enc := enc) (C := Try.checked) false ⟨#[], #[.slice none 0 0, .int .i64 0], []⟩ 8 (by kernel_rfl) (by kernel_rfl) (by kernel_rfl) (by kernel_rfl)) ?_
  intro W base args ds gs before hval0 hW hcnd _
  have hval : ∀ (j : Nat) t v, Try.f11.params[j]? = some t → args[j]? = some v → Value.okWide Try.prog W .any base t v := hval0
  have hW' := hW
  obtain ⟨p, q, hA0, hV, rfl, hfz, hnd⟩ := hW
  have hA : DataW.TrodAll enc Try.prog W 0 (fun _ => true) true Try.f11.params.toList args.toList ds p := hA0
  rw [Try.params11] at hA hval
  obtain ⟨v0, vs0, d0, ds0, p0, q0, hargs, rfl, rfl, h0, r0⟩ := trodAll_cons hA
  obtain ⟨v1, vs1, d1, ds1, p1, q1, rfl, rfl, rfl, h1, r1⟩ := trodAll_cons r0
  obtain ⟨rfl, rfl, rfl⟩ := trodAll_nil r1
  obtain rfl : args = #[v0, v1] := by cases args; simp_all
  obtain ⟨rfl, rfl⟩ := trodVars_none hV
  have k0 := h0
  have lt0 : ∀ x ∈ p0, x.block < W.heap.size := by obtain ⟨m, hm⟩ := k0; exact DataW.trod_lt m _ _ _ hm
  obtain ⟨a0, len0, cap0, rfl⟩ := okWide_slice Try.underlying22 (hval 0 22 v0 rfl rfl)
  obtain ⟨fuel0, hf0⟩ := h0
  obtain ⟨b0, c0, xs0, e0, hl0, hm0, row0, wf0, z0⟩ := open_typed (n := 4) (fun _ h => Load.of_leaves h) Try.underlying22 (by kernel_rfl) (by kernel_rfl) (by decide) hf0
  simp [Value.cells] at e0
  obtain ⟨rfl, rfl, rfl⟩ := e0
  obtain ⟨a1, rfl, rfl, rfl, w1⟩ := open_int Try.underlying3 (hval 1 3 v1 rfl rfl) h1
  clear hA0 hval0
  refine (law_TrimReached _ _ xs0 a1 W row0 hl0 hm0).mono fun e W' ⟨he, bel⟩ => ?_
  subst he
  exact ⟨_, rfl, _, _, _, [], _, [], hW', trodAll_mk1 (shut_bool Try.underlying4 _), (trodAll_cons_mk (Below.trod laidOut (by kernel_rfl) (of_decide_eq_true (by kernel_rfl)) k0 bel lt0) (trodAll_cons_mk (shut_int Try.underlying3 w1) trodAll_mk0)), rfl, bel.frame _, fun h => by cases h⟩

theorem joined : joinedFacts Try.prog 11 Try.f11 Rows.trimReachedSpec Rows.trimReachedRow = true := by
  unfold joinedFacts
  rw [mayEnter_is, liftsFinal_is, make_is]
  kernel_rfl
theorem over : Rows.trimReachedRow.holds Try.pinned (OpenSpec.ofChange Rows.trimReachedSpec) :=
  OpenClaim.holds_of_wide 11 Try.f11 rfl rfl rfl rfl rfl rfl rfl ⟨rfl, rfl, rfl, rfl, rfl⟩ rfl rfl rfl rfl rfl (by kernel_rfl) Try.func11 joined
    (of_decide_eq_true (by kernel_rfl)) (by unfold Func.isWrapper; first | (rw [if_pos (by decide +kernel)]; kernel_rfl) | (rw [if_neg (by decide +kernel)]; exact ⟨rfl, rfl⟩))
    (fun os started H enc _ => lifted os started H enc)
end Go.Proofs.Ytlloijkmpmfapaa.trimReached

namespace Go.Proofs.Ytlloijkmpmfapaa
theorem trimReached_holds : Rows.TrimReachedSaid := trimReached.over
#print axioms trimReached_holds
end Go.Proofs.Ytlloijkmpmfapaa
