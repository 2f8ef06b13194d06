/-
  TrimFar, the statement: for every input the call returns true and leaves the input alone.
-/
import Derived.Test.YtlloijkmpmfapaaTrimBaseM
import Derived.WalkSmall
import Derived.Deep.DeepCutAuto
import Derived.Test.YtlloijkmpmfapaaRows
set_option linter.unusedVariables false
set_option linter.unusedSimpArgs false
namespace Bal
open Go Go.RowKit
theorem owns_lt {w : World} {base k n g : Nat} {e : TypeId} {v : Value} {xs : List Value} (ho : w.ownsRow base e k v n xs) (h : v.ownBlock = some g) : g < w.heap.size := by
  obtain ⟨_, ⟨rfl, _⟩ | ⟨g', cap, cur, rfl, _, hh, _⟩⟩ := ho
  · cases h
  · simp only [Value.ownBlock, Option.some.injEq] at h
    subst h
    rcases Nat.lt_or_ge g' w.heap.size with h' | h'
    · exact h'
    · rw [Array.getElem?_eq_none h'] at hh; cases hh
end Bal

/-
  Loads that are known exactly: shear is how bending grows; a weaker frame is strained where the other is. Plain Lean.
-/
namespace Bal.Trim
def exactly (x : Load) : Load := ⟨x.alo, x.alo, x.wlo, x.wlo⟩
def exacts (xs : List Load) : List Load := xs.map exactly
def farB (n : Int) (xs : List Load) : Bool := xs.all fun x => decide (x.alo < n - 1)
theorem exacts_len (xs : List Load) : (exacts xs).length = xs.length := by simp [exacts]
theorem exactly_B {x : Load} (h : loadB x = true) : loadB (exactly x) = true := by
  have := loadB_bd h
  show (spanB x.alo x.alo 20000 && spanB x.wlo x.wlo 1073741824) = true
  simp only [spanB, Bool.and_eq_true, decide_eq_true_eq]
  omega
theorem exacts_ok {xs : List Load} (h : checkLoads xs = 0) : checkLoads (exacts xs) = 0 := by
  obtain ⟨h1, h2⟩ := checkLoads_ok h
  refine checkList_ok (by rw [exacts_len]; omega) ?_
  rw [List.all_eq_true]
  intro y hy
  obtain ⟨x, hx, rfl⟩ := List.mem_map.1 hy
  exact exactly_B (h2 x hx)
theorem exacts_take (xs : List Load) (k : Nat) (hk : k < xs.length) : exacts (xs.take (k + 1)) = exacts (xs.take k) ++ [exactly xs[k]] := by
  unfold exacts
  rw [List.take_succ_eq_append_getElem hk, List.map_append]
  rfl
theorem farB_take (n : Int) (xs : List Load) (k : Nat) (hk : k < xs.length) : farB n (xs.take (k + 1)) = (farB n (xs.take k) && decide (xs[k].alo < n - 1)) := by
  unfold farB
  rw [List.take_succ_eq_append_getElem hk, List.all_append]
  simp
theorem t_same (a c : Int) : tLo a a c c = a * c ∧ tHi a a c c = a * c := by unfold tLo tHi; omega
theorem sumBy_congr {α : Type} {g h : α → Int} (xs : List α) (e : ∀ x ∈ xs, g x = h x) : sumBy g xs = sumBy h xs := by
  induction xs with
  | nil => rfl
  | cons x xs ih => rw [sumBy_cons, sumBy_cons, e x (by simp), ih fun y hy => e y (by simp [hy])]
theorem sumBy_sub {α : Type} (g h : α → Int) (xs : List α) : sumBy (fun x => g x - h x) xs = sumBy g xs - sumBy h xs := by
  induction xs with
  | nil => rfl
  | cons x xs ih => rw [sumBy_cons, sumBy_cons, sumBy_cons, ih]; omega
theorem e_heavy (xs : List Load) : sumBy wHi (exacts xs) = sumBy wLo (exacts xs) := by
  unfold exacts
  rw [sumBy_map, sumBy_map]
  rfl
theorem e_shear (n : Int) (xs : List Load) : sumBy (sHi n) (exacts xs) = sumBy (sLo n) (exacts xs) := by
  unfold exacts
  rw [sumBy_map, sumBy_map]
  refine sumBy_congr _ fun x _ => ?_
  unfold sHi sLo exactly aLo aHi
  rw [(t_same _ _).1, (t_same _ _).2]
theorem e_bend (n : Int) (xs : List Load) : sumBy (bHi n) (exacts xs) = sumBy (bLo n) (exacts xs) := by
  unfold exacts
  rw [sumBy_map, sumBy_map]
  refine sumBy_congr _ fun x _ => ?_
  unfold bHi bLo exactly aLo aHi
  rw [(t_same _ _).1, (t_same _ _).2]
/-- shear is how bending grows -/
theorem e_grow (n : Int) (xs : List Load) : sumBy (bLo n) (exacts xs) - sumBy (bLo (n - 1)) (exacts xs) = sumBy (sLo n) (exacts xs) := by
  rw [← sumBy_sub]
  unfold exacts
  rw [sumBy_map, sumBy_map]
  refine sumBy_congr _ fun x _ => ?_
  unfold bLo sLo exactly aLo aHi
  simp only
  rw [(t_same _ _).1, (t_same _ _).1, (t_same _ _).1, ← Int.sub_mul]
  congr 1
  omega
/-- to the bow of all loads the shear is the heaviness -/
theorem e_far {n : Int} {xs : List Load} (h : farB n xs = true) : sumBy (sLo n) (exacts xs) = sumBy wLo (exacts xs) := by
  unfold farB at h
  rw [List.all_eq_true] at h
  unfold exacts
  rw [sumBy_map, sumBy_map]
  refine sumBy_congr _ fun x hx => ?_
  have := of_decide_eq_true (h x hx)
  unfold sLo exactly aLo aHi wLo
  simp only
  rw [(t_same _ _).1, show min (max (n - x.alo) 0) 1 = 1 by omega, Int.one_mul]
/-! ### A weaker frame -/
theorem span_less {lo hi m m' : Int} (h : m' ≤ m) (hs : spanB lo hi m' = true) : spanB lo hi m = true := by
  simp only [spanB, Bool.and_eq_true, decide_eq_true_eq] at *
  omega
theorem strain_weak {xs : List Load} {f g : Frm} (hp : g.pos = f.pos) (h1 : g.shear ≤ f.shear) (h2 : g.bend ≤ f.bend) (h : strain xs f = true) : strain xs g = true := by
  unfold strain at *
  rw [hp]
  cases hs : spanB (sumBy (sLo f.pos) xs) (sumBy (sHi f.pos) xs) g.shear
  · rfl
  · cases hb : spanB (sumBy (bLo f.pos) xs) (sumBy (bHi f.pos) xs) g.bend
    · rfl
    · rw [span_less h1 hs, span_less h2 hb] at h
      exact h
theorem strained_two {xs : List Load} {f g : Frm} (hw : strain xs f = true → strain xs g = true) : strainedTo xs [f, g] 2 = [] ∨ strainedTo xs [f, g] 2 = [1] ∨ strainedTo xs [f, g] 2 = [0, 1] := by
  cases hf : strain xs f
  · cases hg : strain xs g
    · left; simp [strainedTo, hf, hg]
    · right; left; simp [strainedTo, hf, hg]
  · right; right
    simp [strainedTo, hf, hw hf]
theorem weak_B {f : Frm} (h : frameB f = true) {l : Int} (hl : 0 ≤ l) : frameB ⟨f.pos, max (f.shear - l) 0, max (f.bend - l) 0⟩ = true := by
  simp only [frameB, inB, Bool.and_eq_true, decide_eq_true_eq] at *
  omega
end Bal.Trim

/-
  TrimFar: shear is how bending grows: for every input.
-/
namespace Go.Proofs.Ytlloijkmpmfapaa
open Go.RowKit Bal Bal.Trim
set_option linter.unusedVariables false
set_option linter.unusedSimpArgs false
set_option maxHeartbeats 4000000
set_option maxRecDepth 10000
attribute [local go_sem] ite_max ite_min

theorem Blk.grownN {w w' : World} {b : Nat} {arr : Array Value} {t : TypeId} {v : Value} (h : Blk w b arr t) (hne : v.ownBlock ≠ some b) (hg : w.grownBy w' v.ownBlock) : Blk w' b arr t := by
  have hl := h.lt
  unfold Blk at *
  rw [hg.block b hl (fun he => hne he.symm)]
  exact h
theorem o_checkFrame (b : Nat) (f : Frm) (w : World) (hb : Blk w b #[.int .i64 f.pos, .int .i64 f.shear, .int .i64 f.bend] 104) (E : Int) (h : checkFrames [f] = E) :
    Calls Try.prog 24 #[.slice (some ⟨b, 0, none⟩) 1 1] w fun e w' => e = .returned (.int .i64 E) ∧ Kept w w' := by
  subst h
  exact r_CheckFrames (some ⟨b, 0, none⟩) 1 [f] w (Row.block (fun _ => rfl) hb rfl) (Nat.le_refl _) (by simp [maxLen])
theorem o_strained2 (a : Option Addr) (cap : Nat) (xs : List Load) (w : World) (hx : Row Load.cells 4 w.heap.size w a xs) (hc : xs.length ≤ cap) (hM : cap ≤ maxLen) (b : Nat) (f g : Frm) (hb : Blk w b #[.int .i64 f.pos, .int .i64 f.shear, .int .i64 f.bend, .int .i64 g.pos, .int .i64 g.shear, .int .i64 g.bend] 104) (n : Nat) (P : List Int) (h2 : strE xs [f, g] = 0) (h3 : strP xs [f, g] = P) (h4 : P.length = n) :
    Calls Try.prog 39 #[.slice a xs.length cap, .slice (some ⟨b, 0, none⟩) 2 2] w fun e w' => ∃ aB cB, e = .returned (.tuple #[.slice aB n cB, .int .i64 0]) ∧ Row icell 1 w'.heap.size w' aB P ∧ n ≤ cB ∧ cB ≤ maxLen ∧ Kept w w' :=
  o_strained a cap xs w hx hc hM (some ⟨b, 0, none⟩) 2 [f, g] (Row.block (fun _ => rfl) hb rfl) (Nat.le_refl _) (by simp [maxLen]) n 0 P h2 h3 h4
theorem law_TrimFar (a0 : Option Addr) (c0 : Nat) (xs : List Load) (n : Int) (f : Frm) (less : Int) (hless : 0 ≤ less ∧ less ≤ 65535) (w : World) (h0 : Row Load.cells 4 w.heap.size w a0 xs) (hl0 : xs.length ≤ c0) (hm0 : c0 ≤ maxLen) :
    Calls Try.prog 15 #[.slice a0 xs.length c0, .int .i64 n, .agg #[.int .i64 f.pos, .int .i64 f.shear, .int .i64 f.bend], .int .u16 less] w fun e w' => e = .returned (.bool true) ∧ Kept w w' := by
  have hm0' := hm0
  unfold maxLen at hm0'
  cases hv : validB xs []
  · have HV := Lib.hid hv
    clear hv
    go_enter Try.func15, Try.ntmps15
    go_wp2_with (first | (go_at_call 48; (with_reducible refine (o_alive _).mono ?_); rintro e wA ⟨rfl, hbA⟩; refine Blk.thru (b := w.heap.size) (arr := ?_) (t := ?_) ?_ hbA ?_; rotate_left 2; (focus (exact blk)); intro qa; have qac0 := qa.cell 0; have qaf0 := qa.free 0; have qac1 := qa.cell 1; have qaf1 := qa.free 1; have qac2 := qa.cell 2; have qaf2 := qa.free 2; have qal := qa.lt; simp at qac0 qac1 qac2) | (go_at_call 49; (with_reducible refine (o_validZ a0 c0 xs _ (h0.later (by (exact kpt)) (Nat.le_refl _)) hl0 hm0 false HV.out).mono ?_); rintro e wV ⟨rfl, hbV⟩; refine Blk.thru (b := w.heap.size) (arr := ?_) (t := ?_) ?_ hbV ?_; rotate_left 2; (focus (exact blk)); intro qv; have qvc0 := qv.cell 0; have qvf0 := qv.free 0; have qvc1 := qv.cell 1; have qvf1 := qv.free 1; have qvc2 := qv.cell 2; have qvf2 := qv.free 2; have qvl := qv.lt; simp at qvc0 qvc1 qvc2))
    go_ret; exact ⟨rfl, by (exact kpt)⟩
  · have HV := Lib.hid hv
    by_cases hn1 : n ≤ -20000
    · clear hv
      go_enter Try.func15, Try.ntmps15
      go_wp2_with (first | (go_at_call 48; (with_reducible refine (o_alive _).mono ?_); rintro e wA ⟨rfl, hbA⟩; refine Blk.thru (b := w.heap.size) (arr := ?_) (t := ?_) ?_ hbA ?_; rotate_left 2; (focus (exact blk)); intro qa; have qac0 := qa.cell 0; have qaf0 := qa.free 0; have qac1 := qa.cell 1; have qaf1 := qa.free 1; have qac2 := qa.cell 2; have qaf2 := qa.free 2; have qal := qa.lt; simp at qac0 qac1 qac2) | (go_at_call 49; (with_reducible refine (o_validZ a0 c0 xs _ (h0.later (by (exact kpt)) (Nat.le_refl _)) hl0 hm0 true HV.out).mono ?_); rintro e wV ⟨rfl, hbV⟩; refine Blk.thru (b := w.heap.size) (arr := ?_) (t := ?_) ?_ hbV ?_; rotate_left 2; (focus (exact blk)); intro qv; have qvc0 := qv.cell 0; have qvf0 := qv.free 0; have qvc1 := qv.cell 1; have qvf1 := qv.free 1; have qvc2 := qv.cell 2; have qvf2 := qv.free 2; have qvl := qv.lt; simp at qvc0 qvc1 qvc2))
      go_ret; exact ⟨rfl, by (exact kpt)⟩
    by_cases hn2 : 20000 < n
    · clear hv
      go_enter Try.func15, Try.ntmps15
      go_wp2_with (first | (go_at_call 48; (with_reducible refine (o_alive _).mono ?_); rintro e wA ⟨rfl, hbA⟩; refine Blk.thru (b := w.heap.size) (arr := ?_) (t := ?_) ?_ hbA ?_; rotate_left 2; (focus (exact blk)); intro qa; have qac0 := qa.cell 0; have qaf0 := qa.free 0; have qac1 := qa.cell 1; have qaf1 := qa.free 1; have qac2 := qa.cell 2; have qaf2 := qa.free 2; have qal := qa.lt; simp at qac0 qac1 qac2) | (go_at_call 49; (with_reducible refine (o_validZ a0 c0 xs _ (h0.later (by (exact kpt)) (Nat.le_refl _)) hl0 hm0 true HV.out).mono ?_); rintro e wV ⟨rfl, hbV⟩; refine Blk.thru (b := w.heap.size) (arr := ?_) (t := ?_) ?_ hbV ?_; rotate_left 2; (focus (exact blk)); intro qv; have qvc0 := qv.cell 0; have qvf0 := qv.free 0; have qvc1 := qv.cell 1; have qvf1 := qv.free 1; have qvc2 := qv.cell 2; have qvf2 := qv.free 2; have qvl := qv.lt; simp at qvc0 qvc1 qvc2))
      go_ret; exact ⟨rfl, by (exact kpt)⟩
    obtain ⟨k1, _⟩ := validB_ok hv
    obtain ⟨hn, hx⟩ := checkLoads_ok k1
    have hE0 := exacts_ok k1
    have hi1 : inB n (-20000) 20000 = true := by simp [inB]; omega
    have hi2 : inB (n - 1) (-20000) 20000 = true := by simp [inB]; omega
    have hsE : strainE (exacts xs) n = 0 := by unfold strainE; rw [if_pos hE0, if_pos hi1]
    have hsF : strainE (exacts xs) (n - 1) = 0 := by unfold strainE; rw [if_pos hE0, if_pos hi2]
    have HEL := Lib.hid (exacts_len xs)
    obtain ⟨hEn, hEx⟩ := checkLoads_ok hE0
    have bA := sumBy_take_bd wLo 1073741824 43000000000 (exacts xs) 40 hEn (by omega) (by omega) (fun x h => (by have := loadB_bd (hEx x h); unfold wLo; omega)) (exacts xs).length
    have bB := sumBy_take_bd (bLo n) 50000000000000 2000000000000000 (exacts xs) 40 hEn (by omega) (by omega) (fun x h => (b_bd (hEx x h) (by omega)).1) (exacts xs).length
    have bC := sumBy_take_bd (bLo (n - 1)) 50000000000000 2000000000000000 (exacts xs) 40 hEn (by omega) (by omega) (fun x h => (b_bd (hEx x h) (by omega)).1) (exacts xs).length
    rw [List.take_length] at bA bB bC
    have gr := e_grow n xs
    have fr := fun h => e_far (n := n) (xs := xs) h
    obtain ⟨A, hA⟩ : ∃ A, sumBy wLo (exacts xs) = A := ⟨_, rfl⟩
    obtain ⟨S, hS⟩ : ∃ A, sumBy (sLo n) (exacts xs) = A := ⟨_, rfl⟩
    obtain ⟨B1, hB1⟩ : ∃ A, sumBy (bLo n) (exacts xs) = A := ⟨_, rfl⟩
    obtain ⟨B0, hB0⟩ : ∃ A, sumBy (bLo (n - 1)) (exacts xs) = A := ⟨_, rfl⟩
    obtain ⟨m1, hm1⟩ : ∃ A, sumBy mLo (exacts xs) = A := ⟨_, rfl⟩
    obtain ⟨m2, hm2⟩ : ∃ A, sumBy mHi (exacts xs) = A := ⟨_, rfl⟩
    have HB1 := Lib.hid hA
    have HB2 := Lib.hid (show sumBy wHi (exacts xs) = A by rw [e_heavy]; exact hA)
    have HB3 := Lib.hid hm1
    have HB4 := Lib.hid hm2
    have HS1 := Lib.hid (show ifOk 0 (sumBy (sLo n) (exacts xs)) = S from hS)
    have HS2 := Lib.hid (show ifOk 0 (sumBy (sHi n) (exacts xs)) = S by rw [e_shear]; exact hS)
    have HD1 := Lib.hid (show ifOk 0 (sumBy (bLo n) (exacts xs)) = B1 from hB1)
    have HD2 := Lib.hid (show ifOk 0 (sumBy (bHi n) (exacts xs)) = B1 by rw [e_bend]; exact hB1)
    have HD3 := Lib.hid (show ifOk 0 (sumBy (bLo (n - 1)) (exacts xs)) = B0 from hB0)
    have HD4 := Lib.hid (show ifOk 0 (sumBy (bHi (n - 1)) (exacts xs)) = B0 by rw [e_bend]; exact hB0)
    have HE0 := Lib.hid hE0
    have HSE := Lib.hid hsE
    have HSF := Lib.hid hsF
    rw [hS, hB1, hB0] at gr
    rw [hS, hA] at fr
    rw [hA] at bA
    rw [hB1] at bB
    rw [hB0] at bC
    have HFR := Lib.hid fr
    have HLEN := Lib.hid (show ∀ k, (exacts (xs.take k)).length ≤ 40 from fun k => by rw [exacts_len, List.length_take]; omega)
    have HFTK := Lib.hid (fun k hk => farB_take n xs k hk)
    have HETK := Lib.hid (fun k hk => exacts_take xs k hk)
    have HX := Lib.hid hx
    have HCK := Lib.hid k1
    clear hv hE0 hsE hsF hi1 hi2 hA hS hB1 hB0 hm1 hm2 hEn hEx k1 hx fr
    have w1 : wrap64 (n - 1) = n - 1 := by unfold wrap64; omega
    have w2 : IntKind.i64.wrap (n - 1) = n - 1 := by rw [IntKind.wrap_i64]; omega
    have gr2 : B1 - B0 = S := gr
    clear gr
    have w3 : wrap64 (B1 - B0) = B1 - B0 := by clear gr2; unfold wrap64; omega
    have w4 : IntKind.i64.wrap (B1 - B0) = B1 - B0 := by clear gr2; rw [IntKind.wrap_i64]; omega
    have hSb : -4000000000000000 ≤ S ∧ S ≤ 4000000000000000 := by omega
    have w5 : wrap64 S = S := by clear gr2; unfold wrap64; omega
    have w6 : IntKind.i64.wrap S = S := by clear gr2; rw [IntKind.wrap_i64]; omega
    go_enter Try.func15, Try.ntmps15
    go_upto_region 8 with (first | (go_at_call 48; (with_reducible refine (o_alive _).mono ?_); rintro e wA ⟨rfl, hbA⟩; refine Blk.thru (b := w.heap.size) (arr := ?_) (t := ?_) ?_ hbA ?_; rotate_left 2; (focus (exact blk)); intro qa; have qac0 := qa.cell 0; have qaf0 := qa.free 0; have qac1 := qa.cell 1; have qaf1 := qa.free 1; have qac2 := qa.cell 2; have qaf2 := qa.free 2; have qal := qa.lt; simp at qac0 qac1 qac2) | (go_at_call 49; (with_reducible refine (o_validZ a0 c0 xs _ (h0.later (by (exact kpt)) (Nat.le_refl _)) hl0 hm0 true HV.out).mono ?_); rintro e wV ⟨rfl, hbV⟩; refine Blk.thru (b := w.heap.size) (arr := ?_) (t := ?_) ?_ hbV ?_; rotate_left 2; (focus (exact blk)); intro qv; have qvc0 := qv.cell 0; have qvf0 := qv.free 0; have qvc1 := qv.cell 1; have qvf1 := qv.free 1; have qvc2 := qv.cell 2; have qvf2 := qv.free 2; have qvl := qv.lt; simp at qvc0 qvc1 qvc2))
    refine at_world (S := fun V => Blk V w.heap.size #[.int .i64 f.pos, .int .i64 f.shear, .int .i64 f.bend] 104 ∧ Kept w V) ⟨by (exact blk), by (exact kpt)⟩ ?_
    rintro W ⟨q0, hk⟩
    go_wp2
    go_loopw [10, 11, 45] (fun s10 s11 i wr => ∃ k : Nat, k ≤ xs.length ∧ i = .int .i64 k ∧ s11 = .bool (farB n (xs.take k)) ∧ wr.ownsRow w.heap.size 88 4 s10 (exacts (xs.take k)).length ((exacts (xs.take k)).flatMap Load.cells) ∧ Blk wr w.heap.size #[.int .i64 f.pos, .int .i64 f.shear, .int .i64 f.bend] 104 ∧ Kept w wr) (fun _ _ i _ => xs.length - (intOf i).toNat)
    case atStart => exact ⟨0, Nat.zero_le _, rfl, rfl, owns_nil (α := Load) (enc := Load.cells), q0, hk⟩
    case round =>
      clear q0 hk
      obtain ⟨k, hk, rfl, rfl, hown, q0, hkk⟩ := hrel
      by_cases hlt : k < xs.length
      · obtain ⟨bb, off, rfl, hbb, g0, g1, g2, g3⟩ := Load.row (h0.later hkk (Nat.le_refl _)) k hlt
        have HFT0 := HFTK.out k hlt
        have HET0 := HETK.out k hlt
        have hlen := HLEN.out k
        have hne0 : u10.ownBlock ≠ some wr.heap.size := fun e => by have := owns_lt hown e; omega
        obtain ⟨x, hx0⟩ : ∃ x, x = xs[k] := ⟨_, rfl⟩
        rw [← hx0] at HFT0 HET0 g0 g1 g2 g3
        clear hx0
        have HET := Lib.hid (show exacts (xs.take (k + 1)) = exacts (xs.take k) ++ [⟨x.alo, x.alo, x.wlo, x.wlo⟩] from HET0)
        clear HET0
        have j0 : (0 : Int) ≤ (k : Int) := by omega
        have j1 : (k : Int) < (xs.length : Int) := by omega
        obtain ⟨FA, hFA⟩ : ∃ FA, FA = farB n (xs.take k) := ⟨_, rfl⟩
        rw [← hFA] at HFT0 ⊢
        clear hFA
        cases FA with
        | false =>
          have HFT := Lib.hid (show farB n (xs.take (k + 1)) = false by rw [HFT0]; rfl)
          clear HFT0
          go_upto_region 11 with fail
          refine at_world (S := fun V => Blk V wr.heap.size #[.int .i64 x.alo, .int .i64 x.ahi, .int .i64 x.wlo, .int .i64 x.whi] 88 ∧ V.ownsRow w.heap.size 88 4 u10 (exacts (xs.take k)).length ((exacts (xs.take k)).flatMap Load.cells) ∧ Blk V w.heap.size #[.int .i64 f.pos, .int .i64 f.shear, .int .i64 f.bend] 104 ∧ Kept w V) ⟨by (exact blk), owns_keep hown (by (exact kpt)), by (exact blk), by (exact kpt)⟩ ?_
          obtain ⟨nx, hnx⟩ : ∃ n, n = wr.heap.size := ⟨_, rfl⟩
          rw [← hnx] at hne0 ⊢
          have HNE := Lib.hid hne0
          clear hnx hown hkk q0 g0 g1 g2 g3 hne0
          rintro V ⟨r0, hown, q0, hkq⟩
          have hzq := hkq.size
          have r0c0 := fun g : Later V => (r0.later g).cell 0
          have r0f0 := fun g : Later V => (r0.later g).free 0
          have r0c1 := fun g : Later V => (r0.later g).cell 1
          have r0f1 := fun g : Later V => (r0.later g).free 1
          have r0c2 := fun g : Later V => (r0.later g).cell 2
          have r0f2 := fun g : Later V => (r0.later g).free 2
          have r0c3 := fun g : Later V => (r0.later g).cell 3
          have r0f3 := fun g : Later V => (r0.later g).free 3
          have r0l := fun g : Later V => (r0.later g).lt
          simp at r0c0 r0c1 r0c2 r0c3
          refine later_mix [(true, 0), (false, 1), (false, 2), (false, 3), (false, 4), (false, 5), (false, 6), (false, 7), (false, 8), (false, 9)] 10 [11, 12] (by kernel_rfl) (by kernel_rfl) ?_
          simp only [List.filterMap_cons, List.filterMap_nil, List.getElem?_cons_zero, List.getElem?_cons_succ, Option.map_some]
          refine wpSteps_any _ rfl (fun w => rfl) ?_
          simp only [Act.put, List.setIfInBounds_toArray, List.set_cons_zero, List.set_cons_succ]
          repeat (refine wpSteps_quiet ?_; (first | go_big_quiet_skip | (go_big_quiet_want; go_big_quiet_op; first | go_big_quiet_on | (apply Exists.intro; refine ⟨fun g => ?_, ?_⟩; (focus (first | (go_at_call 51; with_reducible exact Later.call (o_one _ _)))); go_big_quiet_on))); refine wpQuiet_nil ?_)
          refine wpSteps_nil ?_
          intro gg
          have hown1 := owns_keep hown gg.ok
          refine wpList_plain rfl fun K1 hK1 => ?_
          go_simp
          refine hK1 _ _ ?_
          (obtain ⟨i0, hi, hz0, hz1, hz2⟩ := info_parts infoLoad; refine wpList_append_own _ rfl _ _ 22 rfl w.heap.size 88 i0 (.agg #[.int .i64 0, .int .i64 0, .int .i64 0, .int .i64 0]) 4 32 Try.underlying22 hi hz0 hz1 hz2 rfl (by decide) _ _ _ rfl (hown1.alloc _) ⟨_, 0, none⟩ 1 1 [.int .i64 x.alo, .int .i64 x.alo, .int .i64 x.wlo, .int .i64 x.wlo] rfl rfl (cells_four _ _ _ _ _ _) (by intro x hx; simp only [List.mem_cons, List.not_mem_nil, or_false] at hx; rcases hx with rfl | rfl | rfl | rfl <;> rfl) (by unfold maxLen; omega) (by omega) (by have := gg.ok.size; simp only [World.size_alloc] at this ⊢; omega) ?_; intro v9 w9 hown9 hgrow9 hnil9; clear hi hz0 hz1 hz2)
          have hK9 : Kept w w9 := Kept.grown (Kept.alloc (Kept.drop hkq gg.ok) _) (hown1.alloc _) (Nat.le_refl _) hgrow9
          have r9 := Blk.grownN (Blk.alloc (r0.later gg) _) HNE.out hgrow9
          have q9 := (Blk.alloc (q0.later gg) _).grown (hown1.alloc _) (by decide) hgrow9
          clear r0c0 r0f0 r0c1 r0f1 r0c2 r0f2 r0c3 r0f3 r0l r0 q0 hown
          have r9c0 := r9.cell 0
          have r9f0 := r9.free 0
          have r9c1 := r9.cell 1
          have r9f1 := r9.free 1
          have r9c2 := r9.cell 2
          have r9f2 := r9.free 2
          have r9c3 := r9.cell 3
          have r9f3 := r9.free 3
          have r9l := r9.lt
          simp at r9c0 r9c1 r9c2 r9c3
          go_wp2
          refine NoPanic.normal ?_
          go_wp2
          go_roundw
          case rel => exact ⟨k + 1, by omega, by go_num, by first | (rw [HFT.out]; done) | (rw [HFT.out]; simp [hd]; done) | (rw [HFT.out]; simp; omega), by rw [HET.out, List.flatMap_append, List.length_append]; exact hown9, q9, hK9⟩
          case measure => simp [intOf]; omega
        | true =>
          by_cases hlt2 : x.alo < n - 1
          · have HFT := Lib.hid (show farB n (xs.take (k + 1)) = true by rw [HFT0, decide_eq_true hlt2]; rfl)
            clear HFT0
            have hd : x.alo < n - 1 := hlt2
            go_upto_region 11 with fail
            refine at_world (S := fun V => Blk V wr.heap.size #[.int .i64 x.alo, .int .i64 x.ahi, .int .i64 x.wlo, .int .i64 x.whi] 88 ∧ V.ownsRow w.heap.size 88 4 u10 (exacts (xs.take k)).length ((exacts (xs.take k)).flatMap Load.cells) ∧ Blk V w.heap.size #[.int .i64 f.pos, .int .i64 f.shear, .int .i64 f.bend] 104 ∧ Kept w V) ⟨by (exact blk), owns_keep hown (by (exact kpt)), by (exact blk), by (exact kpt)⟩ ?_
            obtain ⟨nx, hnx⟩ : ∃ n, n = wr.heap.size := ⟨_, rfl⟩
            rw [← hnx] at hne0 ⊢
            have HNE := Lib.hid hne0
            clear hnx hown hkk q0 g0 g1 g2 g3 hne0
            rintro V ⟨r0, hown, q0, hkq⟩
            have hzq := hkq.size
            have r0c0 := fun g : Later V => (r0.later g).cell 0
            have r0f0 := fun g : Later V => (r0.later g).free 0
            have r0c1 := fun g : Later V => (r0.later g).cell 1
            have r0f1 := fun g : Later V => (r0.later g).free 1
            have r0c2 := fun g : Later V => (r0.later g).cell 2
            have r0f2 := fun g : Later V => (r0.later g).free 2
            have r0c3 := fun g : Later V => (r0.later g).cell 3
            have r0f3 := fun g : Later V => (r0.later g).free 3
            have r0l := fun g : Later V => (r0.later g).lt
            simp at r0c0 r0c1 r0c2 r0c3
            refine later_mix [(true, 0), (false, 1), (false, 2), (false, 3), (false, 4), (false, 5), (false, 6), (false, 7), (false, 8), (false, 9)] 10 [11, 12] (by kernel_rfl) (by kernel_rfl) ?_
            simp only [List.filterMap_cons, List.filterMap_nil, List.getElem?_cons_zero, List.getElem?_cons_succ, Option.map_some]
            refine wpSteps_any _ rfl (fun w => rfl) ?_
            simp only [Act.put, List.setIfInBounds_toArray, List.set_cons_zero, List.set_cons_succ]
            repeat (refine wpSteps_quiet ?_; (first | go_big_quiet_skip | (go_big_quiet_want; go_big_quiet_op; first | go_big_quiet_on | (apply Exists.intro; refine ⟨fun g => ?_, ?_⟩; (focus (first | (go_at_call 51; with_reducible exact Later.call (o_one _ _)))); go_big_quiet_on))); refine wpQuiet_nil ?_)
            refine wpSteps_nil ?_
            intro gg
            have hown1 := owns_keep hown gg.ok
            refine wpList_plain rfl fun K1 hK1 => ?_
            go_simp
            refine hK1 _ _ ?_
            (obtain ⟨i0, hi, hz0, hz1, hz2⟩ := info_parts infoLoad; refine wpList_append_own _ rfl _ _ 22 rfl w.heap.size 88 i0 (.agg #[.int .i64 0, .int .i64 0, .int .i64 0, .int .i64 0]) 4 32 Try.underlying22 hi hz0 hz1 hz2 rfl (by decide) _ _ _ rfl (hown1.alloc _) ⟨_, 0, none⟩ 1 1 [.int .i64 x.alo, .int .i64 x.alo, .int .i64 x.wlo, .int .i64 x.wlo] rfl rfl (cells_four _ _ _ _ _ _) (by intro x hx; simp only [List.mem_cons, List.not_mem_nil, or_false] at hx; rcases hx with rfl | rfl | rfl | rfl <;> rfl) (by unfold maxLen; omega) (by omega) (by have := gg.ok.size; simp only [World.size_alloc] at this ⊢; omega) ?_; intro v9 w9 hown9 hgrow9 hnil9; clear hi hz0 hz1 hz2)
            have hK9 : Kept w w9 := Kept.grown (Kept.alloc (Kept.drop hkq gg.ok) _) (hown1.alloc _) (Nat.le_refl _) hgrow9
            have r9 := Blk.grownN (Blk.alloc (r0.later gg) _) HNE.out hgrow9
            have q9 := (Blk.alloc (q0.later gg) _).grown (hown1.alloc _) (by decide) hgrow9
            clear r0c0 r0f0 r0c1 r0f1 r0c2 r0f2 r0c3 r0f3 r0l r0 q0 hown
            have r9c0 := r9.cell 0
            have r9f0 := r9.free 0
            have r9c1 := r9.cell 1
            have r9f1 := r9.free 1
            have r9c2 := r9.cell 2
            have r9f2 := r9.free 2
            have r9c3 := r9.cell 3
            have r9f3 := r9.free 3
            have r9l := r9.lt
            simp at r9c0 r9c1 r9c2 r9c3
            go_wp2
            refine NoPanic.normal ?_
            go_wp2
            go_roundw
            case rel => exact ⟨k + 1, by omega, by go_num, by first | (rw [HFT.out]; done) | (rw [HFT.out]; simp [hd]; done) | (rw [HFT.out]; simp; omega), by rw [HET.out, List.flatMap_append, List.length_append]; exact hown9, q9, hK9⟩
            case measure => simp [intOf]; omega
          · have HFT := Lib.hid (show farB n (xs.take (k + 1)) = false by rw [HFT0, decide_eq_false hlt2]; rfl)
            clear HFT0
            have hd : ¬ x.alo < n - 1 := hlt2
            go_upto_region 11 with fail
            refine at_world (S := fun V => Blk V wr.heap.size #[.int .i64 x.alo, .int .i64 x.ahi, .int .i64 x.wlo, .int .i64 x.whi] 88 ∧ V.ownsRow w.heap.size 88 4 u10 (exacts (xs.take k)).length ((exacts (xs.take k)).flatMap Load.cells) ∧ Blk V w.heap.size #[.int .i64 f.pos, .int .i64 f.shear, .int .i64 f.bend] 104 ∧ Kept w V) ⟨by (exact blk), owns_keep hown (by (exact kpt)), by (exact blk), by (exact kpt)⟩ ?_
            obtain ⟨nx, hnx⟩ : ∃ n, n = wr.heap.size := ⟨_, rfl⟩
            rw [← hnx] at hne0 ⊢
            have HNE := Lib.hid hne0
            clear hnx hown hkk q0 g0 g1 g2 g3 hne0
            rintro V ⟨r0, hown, q0, hkq⟩
            have hzq := hkq.size
            have r0c0 := fun g : Later V => (r0.later g).cell 0
            have r0f0 := fun g : Later V => (r0.later g).free 0
            have r0c1 := fun g : Later V => (r0.later g).cell 1
            have r0f1 := fun g : Later V => (r0.later g).free 1
            have r0c2 := fun g : Later V => (r0.later g).cell 2
            have r0f2 := fun g : Later V => (r0.later g).free 2
            have r0c3 := fun g : Later V => (r0.later g).cell 3
            have r0f3 := fun g : Later V => (r0.later g).free 3
            have r0l := fun g : Later V => (r0.later g).lt
            simp at r0c0 r0c1 r0c2 r0c3
            refine later_mix [(true, 0), (false, 1), (false, 2), (false, 3), (false, 4), (false, 5), (false, 6), (false, 7), (false, 8), (false, 9)] 10 [11, 12] (by kernel_rfl) (by kernel_rfl) ?_
            simp only [List.filterMap_cons, List.filterMap_nil, List.getElem?_cons_zero, List.getElem?_cons_succ, Option.map_some]
            refine wpSteps_any _ rfl (fun w => rfl) ?_
            simp only [Act.put, List.setIfInBounds_toArray, List.set_cons_zero, List.set_cons_succ]
            repeat (refine wpSteps_quiet ?_; (first | go_big_quiet_skip | (go_big_quiet_want; go_big_quiet_op; first | go_big_quiet_on | (apply Exists.intro; refine ⟨fun g => ?_, ?_⟩; (focus (first | (go_at_call 51; with_reducible exact Later.call (o_one _ _)))); go_big_quiet_on))); refine wpQuiet_nil ?_)
            refine wpSteps_nil ?_
            intro gg
            have hown1 := owns_keep hown gg.ok
            refine wpList_plain rfl fun K1 hK1 => ?_
            go_simp
            refine hK1 _ _ ?_
            (obtain ⟨i0, hi, hz0, hz1, hz2⟩ := info_parts infoLoad; refine wpList_append_own _ rfl _ _ 22 rfl w.heap.size 88 i0 (.agg #[.int .i64 0, .int .i64 0, .int .i64 0, .int .i64 0]) 4 32 Try.underlying22 hi hz0 hz1 hz2 rfl (by decide) _ _ _ rfl (hown1.alloc _) ⟨_, 0, none⟩ 1 1 [.int .i64 x.alo, .int .i64 x.alo, .int .i64 x.wlo, .int .i64 x.wlo] rfl rfl (cells_four _ _ _ _ _ _) (by intro x hx; simp only [List.mem_cons, List.not_mem_nil, or_false] at hx; rcases hx with rfl | rfl | rfl | rfl <;> rfl) (by unfold maxLen; omega) (by omega) (by have := gg.ok.size; simp only [World.size_alloc] at this ⊢; omega) ?_; intro v9 w9 hown9 hgrow9 hnil9; clear hi hz0 hz1 hz2)
            have hK9 : Kept w w9 := Kept.grown (Kept.alloc (Kept.drop hkq gg.ok) _) (hown1.alloc _) (Nat.le_refl _) hgrow9
            have r9 := Blk.grownN (Blk.alloc (r0.later gg) _) HNE.out hgrow9
            have q9 := (Blk.alloc (q0.later gg) _).grown (hown1.alloc _) (by decide) hgrow9
            clear r0c0 r0f0 r0c1 r0f1 r0c2 r0f2 r0c3 r0f3 r0l r0 q0 hown
            have r9c0 := r9.cell 0
            have r9f0 := r9.free 0
            have r9c1 := r9.cell 1
            have r9f1 := r9.free 1
            have r9c2 := r9.cell 2
            have r9f2 := r9.free 2
            have r9c3 := r9.cell 3
            have r9f3 := r9.free 3
            have r9l := r9.lt
            simp at r9c0 r9c1 r9c2 r9c3
            go_wp2
            refine NoPanic.normal ?_
            go_wp2
            go_roundw
            case rel => exact ⟨k + 1, by omega, by go_num, by first | (rw [HFT.out]; done) | (rw [HFT.out]; simp [hd]; done) | (rw [HFT.out]; simp; omega), by rw [HET.out, List.flatMap_append, List.length_append]; exact hown9, q9, hK9⟩
            case measure => simp [intOf]; omega
      · obtain rfl : xs.length = k := by omega
        rw [List.take_length] at hown ⊢
        obtain ⟨FA, hFA⟩ : ∃ FA, FA = farB n xs := ⟨_, rfl⟩
        have HFA := Lib.hid (show FA = true → S = A from fun h => HFR.out (by rw [← hFA]; exact h))
        rw [← hFA]
        clear hFA HFR HFTK HETK
        obtain ⟨E, hE⟩ : ∃ E, E = exacts xs := ⟨_, rfl⟩
        rw [← hE] at hown HB1 HB2 HB3 HB4 HS1 HS2 HD1 HD2 HD3 HD4 HE0 HSE HSF HEL
        clear hE
        obtain ⟨aE, cE, rfl, rE, hE1, hE2⟩ := owns_row (enc := Load.cells) (k := 4) (fun _ => rfl) hown
        clear hown
        have hk := hkk
        go_upto_region 15 with (go_at_call 31; (with_reducible refine (o_balance aE cE E _ (rE.later (by (exact kpt)) (Nat.le_refl _)) hE1 hE2 HE0.out A A m1 m2 HB1.out HB2.out HB3.out HB4.out).mono ?_); rintro e wB ⟨rfl, hbB⟩)
        refine at_world (S := fun W1 => Blk W1 w.heap.size #[.int .i64 f.pos, .int .i64 f.shear, .int .i64 f.bend] 104 ∧ Row Load.cells 4 W1.heap.size W1 aE E ∧ Blk W1 wB.heap.size #[.int .i64 A, .int .i64 A] 49 ∧ Kept w W1) ⟨by (exact blk), (rE.later (by (exact kpt)) (Nat.le_refl _)), by (exact blkc), by (exact kpt)⟩ ?_
        obtain ⟨n1, hn1⟩ : ∃ n, n = wB.heap.size := ⟨_, rfl⟩
        rw [← hn1]
        clear q0 rE hn1
        rintro W1 ⟨q0, rE, q1, hk⟩
        go_upto_region 16 with (go_at_call 35; (with_reducible refine (o_shear n aE cE E _ (rE.later (by (exact kpt)) (Nat.le_refl _)) hE1 hE2 S S 0 HSE.out HS1.out HS2.out).mono ?_); rintro e wS ⟨rfl, hbwS⟩)
        refine at_world (S := fun W2 => Blk W2 w.heap.size #[.int .i64 f.pos, .int .i64 f.shear, .int .i64 f.bend] 104 ∧ Row Load.cells 4 W2.heap.size W2 aE E ∧ Blk W2 n1 #[.int .i64 A, .int .i64 A] 49 ∧ Blk W2 wS.heap.size #[.int .i64 S, .int .i64 S] 49 ∧ Kept w W2) ⟨by (exact blk), (rE.later (by (exact kpt)) (Nat.le_refl _)), by (exact blk), by (exact blkc), by (exact kpt)⟩ ?_
        obtain ⟨n2, hn2⟩ : ∃ n, n = wS.heap.size := ⟨_, rfl⟩
        rw [← hn2]
        clear q0 rE q1 hk hn2
        rintro W2 ⟨q0, rE, q1, q3, hk⟩
        go_upto_region 17 with (go_at_call 37; (with_reducible refine (o_bend n aE cE E _ (rE.later (by (exact kpt)) (Nat.le_refl _)) hE1 hE2 B1 B1 0 HSE.out HD1.out HD2.out).mono ?_); rintro e wD ⟨rfl, hbwD⟩)
        refine at_world (S := fun W3 => Blk W3 w.heap.size #[.int .i64 f.pos, .int .i64 f.shear, .int .i64 f.bend] 104 ∧ Row Load.cells 4 W3.heap.size W3 aE E ∧ Blk W3 n1 #[.int .i64 A, .int .i64 A] 49 ∧ Blk W3 n2 #[.int .i64 S, .int .i64 S] 49 ∧ Blk W3 wD.heap.size #[.int .i64 B1, .int .i64 B1] 49 ∧ Kept w W3) ⟨by (exact blk), (rE.later (by (exact kpt)) (Nat.le_refl _)), by (exact blk), by (exact blk), by (exact blkc), by (exact kpt)⟩ ?_
        obtain ⟨n3, hn3⟩ : ∃ n, n = wD.heap.size := ⟨_, rfl⟩
        rw [← hn3]
        clear q0 rE q1 q3 hk hn3
        rintro W3 ⟨q0, rE, q1, q3, q4, hk⟩
        go_upto_region 18 with (go_at_call 37; (with_reducible refine (o_bend (n - 1) aE cE E _ (rE.later (by (exact kpt)) (Nat.le_refl _)) hE1 hE2 B0 B0 0 HSF.out HD3.out HD4.out).mono ?_); rintro e wC ⟨rfl, hbwC⟩)
        refine at_world (S := fun W4 => Blk W4 w.heap.size #[.int .i64 f.pos, .int .i64 f.shear, .int .i64 f.bend] 104 ∧ Row Load.cells 4 W4.heap.size W4 aE E ∧ Blk W4 n1 #[.int .i64 A, .int .i64 A] 49 ∧ Blk W4 n2 #[.int .i64 S, .int .i64 S] 49 ∧ Blk W4 n3 #[.int .i64 B1, .int .i64 B1] 49 ∧ Blk W4 wC.heap.size #[.int .i64 B0, .int .i64 B0] 49 ∧ Kept w W4) ⟨by (exact blk), (rE.later (by (exact kpt)) (Nat.le_refl _)), by (exact blk), by (exact blk), by (exact blk), by (exact blkc), by (exact kpt)⟩ ?_
        obtain ⟨n4, hn4⟩ : ∃ n, n = wC.heap.size := ⟨_, rfl⟩
        rw [← hn4]
        clear q0 rE q1 q3 q4 hk hn4
        rintro W4 ⟨q0, rE, q1, q3, q4, q5, hk⟩
        go_upto_region 19 with (go_at_call 35; (with_reducible refine (o_shear n aE cE E _ (rE.later (by (exact kpt)) (Nat.le_refl _)) hE1 hE2 S S 0 HSE.out HS1.out HS2.out).mono ?_); rintro e wT ⟨rfl, hbwT⟩)
        refine at_world (S := fun W5 => Blk W5 w.heap.size #[.int .i64 f.pos, .int .i64 f.shear, .int .i64 f.bend] 104 ∧ Row Load.cells 4 W5.heap.size W5 aE E ∧ Blk W5 n1 #[.int .i64 A, .int .i64 A] 49 ∧ Blk W5 n2 #[.int .i64 S, .int .i64 S] 49 ∧ Blk W5 n3 #[.int .i64 B1, .int .i64 B1] 49 ∧ Blk W5 n4 #[.int .i64 B0, .int .i64 B0] 49 ∧ Blk W5 wT.heap.size #[.int .i64 S, .int .i64 S] 49 ∧ Kept w W5) ⟨by (exact blk), (rE.later (by (exact kpt)) (Nat.le_refl _)), by (exact blk), by (exact blk), by (exact blk), by (exact blk), by (exact blkc), by (exact kpt)⟩ ?_
        obtain ⟨n5, hn5⟩ : ∃ n, n = wT.heap.size := ⟨_, rfl⟩
        rw [← hn5]
        clear q0 rE q1 q3 q4 q5 hk hn5
        rintro W5 ⟨q0, rE, q1, q3, q4, q5, q6, hk⟩
        have q1c0 := q1.cell 0
        have q1f0 := q1.free 0
        have q1c1 := q1.cell 1
        have q1f1 := q1.free 1
        have q1l := q1.lt
        simp at q1c0 q1c1
        have q3c0 := q3.cell 0
        have q3f0 := q3.free 0
        have q3c1 := q3.cell 1
        have q3f1 := q3.free 1
        have q3l := q3.lt
        simp at q3c0 q3c1
        have q4c0 := q4.cell 0
        have q4f0 := q4.free 0
        have q4c1 := q4.cell 1
        have q4f1 := q4.free 1
        have q4l := q4.lt
        simp at q4c0 q4c1
        have q5c0 := q5.cell 0
        have q5f0 := q5.free 0
        have q5c1 := q5.cell 1
        have q5f1 := q5.free 1
        have q5l := q5.lt
        simp at q5c0 q5c1
        have q6c0 := q6.cell 0
        have q6f0 := q6.free 0
        have q6c1 := q6.cell 1
        have q6f1 := q6.free 1
        have q6l := q6.lt
        simp at q6c0 q6c1
        have q0c0 := q0.cell 0
        have q0f0 := q0.free 0
        have q0c1 := q0.cell 1
        have q0f1 := q0.free 1
        have q0c2 := q0.cell 2
        have q0f2 := q0.free 2
        have q0l := q0.lt
        simp at q0c0 q0c1 q0c2
        cases FA with
        | false =>
          clear HFA
          obtain ⟨FQ, hFQ⟩ : ∃ FQ, FQ = frameB f := ⟨_, rfl⟩
          have HFQ := Lib.hid hFQ
          clear hFQ
          cases FQ with
          | false =>
            have HCF := Lib.hid (show checkFrames [f] = 42 by unfold checkFrames checkList; rw [if_neg (by simp)]; simp [← HFQ.out])
            go_wp2_with (go_at_call 24; (with_reducible refine (o_checkFrame _ f _ ?_ 42 HCF.out).mono ?_); (focus (exact blk)); rintro e wX ⟨rfl, hbX⟩; refine Blk.thru (b := w.heap.size) (arr := ?_) (t := ?_) ?_ hbX ?_; rotate_left 2; (focus (exact blk)); intro qx; have qxc0 := qx.cell 0; have qxf0 := qx.free 0; have qxc1 := qx.cell 1; have qxf1 := qx.free 1; have qxc2 := qx.cell 2; have qxf2 := qx.free 2; have qxl := qx.lt; simp at qxc0 qxc1 qxc2)
            go_ret; exact ⟨rfl, by (exact kpt)⟩
          | true =>
            have HCF := Lib.hid (show checkFrames [f] = 0 by unfold checkFrames checkList; rw [if_neg (by simp)]; simp [← HFQ.out])
            have fb := frameB_bd HFQ.out.symm
            have u1 : IntKind.i64.wrap less = less := by rw [IntKind.wrap_i64]; omega
            have u2 : IntKind.i64.wrap (f.shear - less) = f.shear - less := by rw [IntKind.wrap_i64]; omega
            have u3 : IntKind.i64.wrap (f.bend - less) = f.bend - less := by rw [IntKind.wrap_i64]; omega
            have HWK := Lib.hid (weak_B HFQ.out.symm hless.1)
            have HST := Lib.hid (show strE xs [f, ⟨f.pos, max (f.shear - less) 0, max (f.bend - less) 0⟩] = 0 by
              unfold strE
              rw [if_pos HCK.out]
              unfold checkFrames checkList
              rw [if_neg (by simp)]
              simp [← HFQ.out, HWK.out])
            have HT2 := Lib.hid (strained_two (xs := xs) (f := f) (g := ⟨f.pos, max (f.shear - less) 0, max (f.bend - less) 0⟩) (strain_weak rfl (show max (f.shear - less) 0 ≤ f.shear by omega) (show max (f.bend - less) 0 ≤ f.bend by omega)))
            have HSPE := Lib.hid (show strP xs [f, ⟨f.pos, max (f.shear - less) 0, max (f.bend - less) 0⟩] = strainedTo xs [f, ⟨f.pos, max (f.shear - less) 0, max (f.bend - less) 0⟩] 2 by unfold strP; rw [if_pos HST.out]; rfl)
            go_upto_region 24 with (go_at_call 24; (with_reducible refine (o_checkFrame _ f _ ?_ 0 HCF.out).mono ?_); (focus (exact blk)); rintro e wX ⟨rfl, hbX⟩; refine Blk.thru (b := w.heap.size) (arr := ?_) (t := ?_) ?_ hbX ?_; rotate_left 2; (focus (exact blk)); intro qx; have qxc0 := qx.cell 0; have qxf0 := qx.free 0; have qxc1 := qx.cell 1; have qxf1 := qx.free 1; have qxc2 := qx.cell 2; have qxf2 := qx.free 2; have qxl := qx.lt; simp at qxc0 qxc1 qxc2)
            refine at_world (S := fun V => Blk V w.heap.size #[.int .i64 f.pos, .int .i64 f.shear, .int .i64 f.bend] 104 ∧ Blk V wX.heap.size #[.int .i64 f.pos, .int .i64 f.shear, .int .i64 f.bend] 104 ∧ Kept w V ∧ w.heap.size < wX.heap.size) ⟨by (exact blk), by (exact blk), by (exact kpt), qxl⟩ ?_
            obtain ⟨nw, hnw⟩ : ∃ n, n = wX.heap.size := ⟨_, rfl⟩
            rw [← hnw]
            clear hnw
            rintro V ⟨q0, qw, hk, hnw⟩
            have hne : w.heap.size ≠ nw := by omega
            have q0c0 := q0.cell 0
            have q0f0 := q0.free 0
            have q0c1 := q0.cell 1
            have q0f1 := q0.free 1
            have q0c2 := q0.cell 2
            have q0f2 := q0.free 2
            have q0l := q0.lt
            simp at q0c0 q0c1 q0c2
            have qwc0 := qw.cell 0
            have qwf0 := qw.free 0
            have qwc1 := qw.cell 1
            have qwf1 := qw.free 1
            have qwc2 := qw.cell 2
            have qwf2 := qw.free 2
            have qwl := qw.lt
            simp at qwc0 qwc1 qwc2
            go_region
            all_goals go_upto_region 25 with fail
            refine at_world (S := fun V => Blk V w.heap.size #[.int .i64 f.pos, .int .i64 f.shear, .int .i64 f.bend] 104 ∧ Blk V nw #[.int .i64 f.pos, .int .i64 (max (f.shear - less) 0), .int .i64 (max (f.bend - less) 0)] 104 ∧ Kept w V) ⟨by (exact blk), Blk.cast ((qw.set 1 _).set 2 _) (by simp), by (exact kpt)⟩ ?_
            clear q0 qw hk q0c0 q0f0 q0c1 q0f1 q0c2 q0f2 qwc0 qwf0 qwc1 qwf1 qwc2 qwf2 q0l qwl
            rintro V2 ⟨q0, qw, hk⟩
            have q0c0 := q0.cell 0
            have q0f0 := q0.free 0
            have q0c1 := q0.cell 1
            have q0f1 := q0.free 1
            have q0c2 := q0.cell 2
            have q0f2 := q0.free 2
            have q0l := q0.lt
            simp at q0c0 q0c1 q0c2
            have qwc0 := qw.cell 0
            have qwf0 := qw.free 0
            have qwc1 := qw.cell 1
            have qwf1 := qw.free 1
            have qwc2 := qw.cell 2
            have qwf2 := qw.free 2
            have qwl := qw.lt
            simp at qwc0 qwc1 qwc2
            rcases HT2.out with hT2 | hT2 | hT2
            · have HSP := Lib.hid (show strP xs [f, ⟨f.pos, max (f.shear - less) 0, max (f.bend - less) 0⟩] = [] by rw [HSPE.out, hT2])
              clear hT2
              go_upto_region 26 with (go_at_call 39; (with_reducible refine (o_strained2 a0 c0 xs _ (h0.later (by (exact kpt)) (Nat.le_refl _)) hl0 hm0 _ f ⟨f.pos, max (f.shear - less) 0, max (f.bend - less) 0⟩ ?_ 0 [] HST.out HSP.out rfl).mono ?_); (focus (exact blk)); rintro e wY ⟨aY, cY, rfl, hY, hY1, hY2, hbY⟩)
              skip
              go_wp2
              go_ret; exact ⟨rfl, by (exact kpt)⟩
            · have HSP := Lib.hid (show strP xs [f, ⟨f.pos, max (f.shear - less) 0, max (f.bend - less) 0⟩] = [1] by rw [HSPE.out, hT2])
              clear hT2
              go_upto_region 26 with (go_at_call 39; (with_reducible refine (o_strained2 a0 c0 xs _ (h0.later (by (exact kpt)) (Nat.le_refl _)) hl0 hm0 _ f ⟨f.pos, max (f.shear - less) 0, max (f.bend - less) 0⟩ ?_ 1 [1] HST.out HSP.out rfl).mono ?_); (focus (exact blk)); rintro e wY ⟨aY, cY, rfl, hY, hY1, hY2, hbY⟩)
              obtain ⟨by0, oy0, rfl, _, gy⟩ := int_row hY 0 (by decide)
              simp at gy
              go_wp2
              go_ret; exact ⟨rfl, by (exact kpt)⟩
            · have HSP := Lib.hid (show strP xs [f, ⟨f.pos, max (f.shear - less) 0, max (f.bend - less) 0⟩] = [0, 1] by rw [HSPE.out, hT2])
              clear hT2
              go_upto_region 26 with (go_at_call 39; (with_reducible refine (o_strained2 a0 c0 xs _ (h0.later (by (exact kpt)) (Nat.le_refl _)) hl0 hm0 _ f ⟨f.pos, max (f.shear - less) 0, max (f.bend - less) 0⟩ ?_ 2 [0, 1] HST.out HSP.out rfl).mono ?_); (focus (exact blk)); rintro e wY ⟨aY, cY, rfl, hY, hY1, hY2, hbY⟩)
              obtain ⟨by0, oy0, rfl, _, gy⟩ := int_row hY 1 (by decide)
              simp at gy
              go_wp2
              go_ret; exact ⟨rfl, by (exact kpt)⟩
        | true =>
          have hSA := HFA.out rfl
          subst hSA
          clear HFA
          obtain ⟨FQ, hFQ⟩ : ∃ FQ, FQ = frameB f := ⟨_, rfl⟩
          have HFQ := Lib.hid hFQ
          clear hFQ
          cases FQ with
          | false =>
            have HCF := Lib.hid (show checkFrames [f] = 42 by unfold checkFrames checkList; rw [if_neg (by simp)]; simp [← HFQ.out])
            go_wp2_with (go_at_call 24; (with_reducible refine (o_checkFrame _ f _ ?_ 42 HCF.out).mono ?_); (focus (exact blk)); rintro e wX ⟨rfl, hbX⟩; refine Blk.thru (b := w.heap.size) (arr := ?_) (t := ?_) ?_ hbX ?_; rotate_left 2; (focus (exact blk)); intro qx; have qxc0 := qx.cell 0; have qxf0 := qx.free 0; have qxc1 := qx.cell 1; have qxf1 := qx.free 1; have qxc2 := qx.cell 2; have qxf2 := qx.free 2; have qxl := qx.lt; simp at qxc0 qxc1 qxc2)
            go_ret; exact ⟨rfl, by (exact kpt)⟩
          | true =>
            have HCF := Lib.hid (show checkFrames [f] = 0 by unfold checkFrames checkList; rw [if_neg (by simp)]; simp [← HFQ.out])
            have fb := frameB_bd HFQ.out.symm
            have u1 : IntKind.i64.wrap less = less := by rw [IntKind.wrap_i64]; omega
            have u2 : IntKind.i64.wrap (f.shear - less) = f.shear - less := by rw [IntKind.wrap_i64]; omega
            have u3 : IntKind.i64.wrap (f.bend - less) = f.bend - less := by rw [IntKind.wrap_i64]; omega
            have HWK := Lib.hid (weak_B HFQ.out.symm hless.1)
            have HST := Lib.hid (show strE xs [f, ⟨f.pos, max (f.shear - less) 0, max (f.bend - less) 0⟩] = 0 by
              unfold strE
              rw [if_pos HCK.out]
              unfold checkFrames checkList
              rw [if_neg (by simp)]
              simp [← HFQ.out, HWK.out])
            have HT2 := Lib.hid (strained_two (xs := xs) (f := f) (g := ⟨f.pos, max (f.shear - less) 0, max (f.bend - less) 0⟩) (strain_weak rfl (show max (f.shear - less) 0 ≤ f.shear by omega) (show max (f.bend - less) 0 ≤ f.bend by omega)))
            have HSPE := Lib.hid (show strP xs [f, ⟨f.pos, max (f.shear - less) 0, max (f.bend - less) 0⟩] = strainedTo xs [f, ⟨f.pos, max (f.shear - less) 0, max (f.bend - less) 0⟩] 2 by unfold strP; rw [if_pos HST.out]; rfl)
            go_upto_region 24 with (go_at_call 24; (with_reducible refine (o_checkFrame _ f _ ?_ 0 HCF.out).mono ?_); (focus (exact blk)); rintro e wX ⟨rfl, hbX⟩; refine Blk.thru (b := w.heap.size) (arr := ?_) (t := ?_) ?_ hbX ?_; rotate_left 2; (focus (exact blk)); intro qx; have qxc0 := qx.cell 0; have qxf0 := qx.free 0; have qxc1 := qx.cell 1; have qxf1 := qx.free 1; have qxc2 := qx.cell 2; have qxf2 := qx.free 2; have qxl := qx.lt; simp at qxc0 qxc1 qxc2)
            refine at_world (S := fun V => Blk V w.heap.size #[.int .i64 f.pos, .int .i64 f.shear, .int .i64 f.bend] 104 ∧ Blk V wX.heap.size #[.int .i64 f.pos, .int .i64 f.shear, .int .i64 f.bend] 104 ∧ Kept w V ∧ w.heap.size < wX.heap.size) ⟨by (exact blk), by (exact blk), by (exact kpt), qxl⟩ ?_
            obtain ⟨nw, hnw⟩ : ∃ n, n = wX.heap.size := ⟨_, rfl⟩
            rw [← hnw]
            clear hnw
            rintro V ⟨q0, qw, hk, hnw⟩
            have hne : w.heap.size ≠ nw := by omega
            have q0c0 := q0.cell 0
            have q0f0 := q0.free 0
            have q0c1 := q0.cell 1
            have q0f1 := q0.free 1
            have q0c2 := q0.cell 2
            have q0f2 := q0.free 2
            have q0l := q0.lt
            simp at q0c0 q0c1 q0c2
            have qwc0 := qw.cell 0
            have qwf0 := qw.free 0
            have qwc1 := qw.cell 1
            have qwf1 := qw.free 1
            have qwc2 := qw.cell 2
            have qwf2 := qw.free 2
            have qwl := qw.lt
            simp at qwc0 qwc1 qwc2
            go_region
            all_goals go_upto_region 25 with fail
            refine at_world (S := fun V => Blk V w.heap.size #[.int .i64 f.pos, .int .i64 f.shear, .int .i64 f.bend] 104 ∧ Blk V nw #[.int .i64 f.pos, .int .i64 (max (f.shear - less) 0), .int .i64 (max (f.bend - less) 0)] 104 ∧ Kept w V) ⟨by (exact blk), Blk.cast ((qw.set 1 _).set 2 _) (by simp), by (exact kpt)⟩ ?_
            clear q0 qw hk q0c0 q0f0 q0c1 q0f1 q0c2 q0f2 qwc0 qwf0 qwc1 qwf1 qwc2 qwf2 q0l qwl
            rintro V2 ⟨q0, qw, hk⟩
            have q0c0 := q0.cell 0
            have q0f0 := q0.free 0
            have q0c1 := q0.cell 1
            have q0f1 := q0.free 1
            have q0c2 := q0.cell 2
            have q0f2 := q0.free 2
            have q0l := q0.lt
            simp at q0c0 q0c1 q0c2
            have qwc0 := qw.cell 0
            have qwf0 := qw.free 0
            have qwc1 := qw.cell 1
            have qwf1 := qw.free 1
            have qwc2 := qw.cell 2
            have qwf2 := qw.free 2
            have qwl := qw.lt
            simp at qwc0 qwc1 qwc2
            rcases HT2.out with hT2 | hT2 | hT2
            · have HSP := Lib.hid (show strP xs [f, ⟨f.pos, max (f.shear - less) 0, max (f.bend - less) 0⟩] = [] by rw [HSPE.out, hT2])
              clear hT2
              go_upto_region 26 with (go_at_call 39; (with_reducible refine (o_strained2 a0 c0 xs _ (h0.later (by (exact kpt)) (Nat.le_refl _)) hl0 hm0 _ f ⟨f.pos, max (f.shear - less) 0, max (f.bend - less) 0⟩ ?_ 0 [] HST.out HSP.out rfl).mono ?_); (focus (exact blk)); rintro e wY ⟨aY, cY, rfl, hY, hY1, hY2, hbY⟩)
              skip
              go_wp2
              go_ret; exact ⟨rfl, by (exact kpt)⟩
            · have HSP := Lib.hid (show strP xs [f, ⟨f.pos, max (f.shear - less) 0, max (f.bend - less) 0⟩] = [1] by rw [HSPE.out, hT2])
              clear hT2
              go_upto_region 26 with (go_at_call 39; (with_reducible refine (o_strained2 a0 c0 xs _ (h0.later (by (exact kpt)) (Nat.le_refl _)) hl0 hm0 _ f ⟨f.pos, max (f.shear - less) 0, max (f.bend - less) 0⟩ ?_ 1 [1] HST.out HSP.out rfl).mono ?_); (focus (exact blk)); rintro e wY ⟨aY, cY, rfl, hY, hY1, hY2, hbY⟩)
              obtain ⟨by0, oy0, rfl, _, gy⟩ := int_row hY 0 (by decide)
              simp at gy
              go_wp2
              go_ret; exact ⟨rfl, by (exact kpt)⟩
            · have HSP := Lib.hid (show strP xs [f, ⟨f.pos, max (f.shear - less) 0, max (f.bend - less) 0⟩] = [0, 1] by rw [HSPE.out, hT2])
              clear hT2
              go_upto_region 26 with (go_at_call 39; (with_reducible refine (o_strained2 a0 c0 xs _ (h0.later (by (exact kpt)) (Nat.le_refl _)) hl0 hm0 _ f ⟨f.pos, max (f.shear - less) 0, max (f.bend - less) 0⟩ ?_ 2 [0, 1] HST.out HSP.out rfl).mono ?_); (focus (exact blk)); rintro e wY ⟨aY, cY, rfl, hY, hY1, hY2, hbY⟩)
              obtain ⟨by0, oy0, rfl, _, gy⟩ := int_row hY 1 (by decide)
              simp at gy
              go_wp2
              go_ret; exact ⟨rfl, by (exact kpt)⟩
end Go.Proofs.Ytlloijkmpmfapaa

/-
  TrimFar, the statement: for every input the call returns true and leaves the input alone.
-/
namespace Go.Proofs.Ytlloijkmpmfapaa.trimFar
open Go.ChangeShapes Go.WideShapes Go.ChangeAt Go.RowKit Bal Bal.Trim
open Go.ChangeMaps (open_string shut_string)
set_option linter.unusedVariables false

theorem own : ownKnob Try.prog.godebug = none := by kernel_rfl
theorem laidOut : laidOutB Try.prog = true := by kernel_rfl

set_option maxRecDepth 100000 in
theorem lifted (os : Os) (started : os.Started) (H : Type) (enc : TypeId × Value → H) :
    ReturnsInHanded {} Try.checked os 15 .any (Rows.trimFarSpec.pre6 enc Try.prog Try.f15 Rows.trimFarRow.domain false) (Rows.trimFarSpec.post enc Try.prog Try.f15 false true false false) := by
  refine returnsInHanded_of_change (C := Try.checked) own started (by kernel_rfl) Try.func15
    (ChangeSpec.witness6 (enc := enc) (C := Try.checked) false ⟨#[], #[.slice none 0 0, .int .i64 0, .agg #[.int .i64 0, .int .i64 0, .int .i64 0], .int .u16 0], []⟩ 8 (by kernel_rfl) (by kernel_rfl) (by kernel_rfl) (by kernel_rfl)) ?_
  intro W base args ds gs before hval0 hW hcnd _
  have hval : ∀ (j : Nat) t v, Try.f15.params[j]? = some t → args[j]? = some v → Value.okWide Try.prog W .any base t v := hval0
  have hW' := hW
  obtain ⟨p, q, hA0, hV, rfl, hfz, hnd⟩ := hW
  have hA : DataW.TrodAll enc Try.prog W 0 (fun _ => true) true Try.f15.params.toList args.toList ds p := hA0
  rw [Try.params15] at hA hval
  obtain ⟨v0, vs0, d0, ds0, p0, q0, hargs, rfl, rfl, h0, r0⟩ := trodAll_cons hA
  obtain ⟨v1, vs1, d1, ds1, p1, q1, rfl, rfl, rfl, h1, r1⟩ := trodAll_cons r0
  obtain ⟨v2, vs2, d2, ds2, p2, q2, rfl, rfl, rfl, h2, r2⟩ := trodAll_cons r1
  obtain ⟨v3, vs3, d3, ds3, p3, q3, rfl, rfl, rfl, h3, r3⟩ := trodAll_cons r2
  obtain ⟨rfl, rfl, rfl⟩ := trodAll_nil r3
  obtain rfl : args = #[v0, v1, v2, v3] := by cases args; simp_all
  obtain ⟨rfl, rfl⟩ := trodVars_none hV
  have k0 := h0
  have lt0 : ∀ x ∈ p0, x.block < W.heap.size := by obtain ⟨m, hm⟩ := k0; exact DataW.trod_lt m _ _ _ hm
  obtain ⟨a0, len0, cap0, rfl⟩ := okWide_slice Try.underlying22 (hval 0 22 v0 rfl rfl)
  obtain ⟨fuel0, hf0⟩ := h0
  obtain ⟨b0, c0, xs0, e0, hl0, hm0, row0, wf0, z0⟩ := open_typed (n := 4) (fun _ h => Load.of_leaves h) Try.underlying22 (by kernel_rfl) (by kernel_rfl) (by decide) hf0
  simp [Value.cells] at e0
  obtain ⟨rfl, rfl, rfl⟩ := e0
  obtain ⟨a1, rfl, rfl, rfl, w1⟩ := open_int Try.underlying3 (hval 1 3 v1 rfl rfl) h1
  have k2 := h2
  have lt2 : ∀ x ∈ p2, x.block < W.heap.size := by obtain ⟨m, hm⟩ := k2; exact DataW.trod_lt m _ _ _ hm
  obtain ⟨a2, rfl, wf2⟩ := open_agg (n := 5) (fun _ h => Frm.of_leaves h) Try.underlying104 (by kernel_rfl) (hval 2 104 v2 rfl rfl) h2
  obtain ⟨a3, rfl, rfl, rfl, w3⟩ := open_int Try.underlying81 (hval 3 81 v3 rfl rfl) h3
  clear hA0 hval0
  refine (law_TrimFar _ _ xs0 a1 _ a3 (wf_u16 w3) W row0 hl0 hm0).mono fun e W' ⟨he, bel⟩ => ?_
  subst he
  exact ⟨_, rfl, _, _, _, [], _, [], hW', trodAll_mk1 (shut_bool Try.underlying4 _), (trodAll_cons_mk (Below.trod laidOut (by kernel_rfl) (of_decide_eq_true (by kernel_rfl)) k0 bel lt0) (trodAll_cons_mk (shut_int Try.underlying3 w1) (trodAll_cons_mk (Below.trod laidOut (by kernel_rfl) (of_decide_eq_true (by kernel_rfl)) k2 bel lt2) (trodAll_cons_mk (shut_int Try.underlying81 w3) trodAll_mk0)))), rfl, bel.frame _, fun h => by cases h⟩

theorem joined : joinedFacts Try.prog 15 Try.f15 Rows.trimFarSpec Rows.trimFarRow = true := by
  unfold joinedFacts
  rw [mayEnter_is, liftsFinal_is, make_is]
  kernel_rfl
theorem over : Rows.trimFarRow.holds Try.pinned (OpenSpec.ofChange Rows.trimFarSpec) :=
  OpenClaim.holds_of_wide 15 Try.f15 rfl rfl rfl rfl rfl rfl rfl ⟨rfl, rfl, rfl, rfl, rfl⟩ rfl rfl rfl rfl rfl (by kernel_rfl) Try.func15 joined
    (of_decide_eq_true (by kernel_rfl)) (by unfold Func.isWrapper; first | (rw [if_pos (by decide +kernel)]; kernel_rfl) | (rw [if_neg (by decide +kernel)]; exact ⟨rfl, rfl⟩))
    (fun os started H enc _ => lifted os started H enc)
end Go.Proofs.Ytlloijkmpmfapaa.trimFar

namespace Go.Proofs.Ytlloijkmpmfapaa
theorem trimFar_holds : Rows.TrimFarSaid := trimFar.over
#print axioms trimFar_holds
end Go.Proofs.Ytlloijkmpmfapaa
