/-
  Plants: need, plus, shares, the accounts.
-/
import Derived.Test.YtemafanncejeiaaGasA
import Derived.Test.YtemafanncejeiaaGasRA
import Derived.Test.YtemafanncejeiaaGasMine
import Derived.Test.YtemafanncejeiaaGasPar
import Derived.Test.YtemafanncejeiaaOwn
import Derived.Test.YtemafanncejeiaaRowsY
namespace Go.Proofs.Ytemafanncejeiaa
open Go.RowKit Bal Bal.Trim Bal.Gas
set_option linter.unusedVariables false
set_option linter.unusedSimpArgs false
set_option maxHeartbeats 1600000
set_option maxRecDepth 10000

/-- what need panics with -/
def refusal (e : Int) : Value := .iface 167 (.agg #[.int .i64 e])
theorem f_need_ok (e : Int) (w : World) : Calls Try.prog 113 #[.bool true, .int .i64 e] w fun x w' => x = .returned (.tuple #[]) ∧ w = w' := by
  go_enter Try.func113, Try.ntmps113
  go_wp2
  go_end0
  exact ⟨rfl, rfl⟩
theorem f_need_no (e : Int) (w : World) : Calls Try.prog 113 #[.bool false, .int .i64 e] w fun x w' => x = .panicked [{ v := refusal e, recovered := false }] ∧ w = w' := by
  go_enter Try.func113, Try.ntmps113
  go_wp2
  exact ⟨rfl, rfl, rfl⟩

theorem f_plus (a b c d : Int) (w : World) (ha : 0 ≤ a ∧ a ≤ 100000000000000) (hb : 0 ≤ b ∧ b ≤ 100000000000000) (hc : 0 ≤ c ∧ c ≤ 100000000000000) (hd : 0 ≤ d ∧ d ≤ 100000000000000) :
    Calls Try.prog 123 #[.agg #[.int .i64 a, .int .i64 b], .agg #[.int .i64 c, .int .i64 d]] w fun e w' => e = .returned (.agg #[.int .i64 (a + c), .int .i64 (b + d)]) ∧ Kept w w' := by
  obtain ⟨a0, a1⟩ := ha
  obtain ⟨b0, b1⟩ := hb
  obtain ⟨c0, c1⟩ := hc
  obtain ⟨d0, d1⟩ := hd
  go_enter Try.func123, Try.ntmps123
  go_wp2
  exact bodyPost_ret (v := .agg #[.int .i64 (a + c), .int .i64 (b + d)]) (by simp [results, Try.results123, go_sem]) rfl ⟨rfl, by (exact kpt)⟩

theorem r_plus (a b c d : Int) (w : World) (ha : 0 ≤ a ∧ a ≤ 100000000000000) (hb : 0 ≤ b ∧ b ≤ 100000000000000) (hc : 0 ≤ c ∧ c ≤ 100000000000000) (hd : 0 ≤ d ∧ d ≤ 100000000000000) :
    Calls Try.prog 119 #[.agg #[.int .i64 a, .int .i64 b], .agg #[.int .i64 c, .int .i64 d]] w fun e w' => e = .returned (.agg #[.int .i64 (a + c), .int .i64 (b + d)]) ∧ Kept w w' := by
  obtain ⟨a0, a1⟩ := ha
  obtain ⟨b0, b1⟩ := hb
  obtain ⟨c0, c1⟩ := hc
  obtain ⟨d0, d1⟩ := hd
  go_enter Try.func119, Try.ntmps119
  go_wp2
  exact bodyPost_ret (v := .agg #[.int .i64 (a + c), .int .i64 (b + d)]) (by simp [results, Try.results119, go_sem]) rfl ⟨rfl, by (exact kpt)⟩

theorem r_counted (a b : Int) (w : World) : Calls Try.prog 137 #[.agg #[.int .i64 a, .int .i64 b]] w fun e w' => e = .returned (.bool (booksB a b)) ∧ Kept w w' := by
  cases h1 : inB a 0 1000000000000
  · have H1 := Lib.hid h1
    have HB := Lib.hid (show booksB a b = false by unfold booksB rng; simp [h1])
    clear h1
    go_enter Try.func137, Try.ntmps137
    go_wp2_with (go_at_call 104; (with_reducible refine (r_within a _ _ _).mono ?_); rw [H1.out]; rintro e w1 ⟨rfl, rfl⟩)
    go_ret
    exact ⟨ret_bool HB.out.symm, by (exact kpt)⟩
  · cases h2 : inB b 0 1000000000000
    all_goals
      have H1 := Lib.hid h1
      have H2 := Lib.hid h2
      have HB := Lib.hid (show booksB a b = inB b 0 1000000000000 by unfold booksB rng; simp [h1])
      clear h1 h2
      go_enter Try.func137, Try.ntmps137
      go_wp2_with (first | (go_at_call 104; (with_reducible refine (r_within a _ _ _).mono ?_); rw [H1.out]; rintro e w1 ⟨rfl, rfl⟩) | (go_at_call 104; (with_reducible refine (r_within b _ _ _).mono ?_); rw [H2.out]; rintro e w1 ⟨rfl, rfl⟩))
      go_ret
      exact ⟨ret_bool (HB.out.trans H2.out).symm, by (exact kpt)⟩

theorem infoCell : (Try.prog.info? 25).map (fun i => (i.zero, i.size, i.bytes)) = some (some (.agg #[.int .i64 0, .int .i64 0, .int .i64 0, .int .i64 0, .int .i64 0, .int .i64 0, .int .i64 0]), 7, 56) := by kernel_rfl
theorem s_CloneC (a : Option Addr) (cap : Nat) (xs : List Cell) (w : World) (hx : Row Cell.cells 7 w.heap.size w a xs) (hn : xs.length ≤ 1000) (hz : a = none → cap = 0) :
    Calls Try.prog 114 #[.slice a xs.length cap] w fun e w' => ∃ v, e = .returned v ∧ w'.ownsRow w.heap.size 25 7 v xs.length (xs.flatMap Cell.cells) ∧ Kept w w' := by
  cases a with
  | none =>
    have hl : xs = [] := by
      cases xs with
      | nil => rfl
      | cons y ys => obtain ⟨b, off, ha, _⟩ := hx 0 y rfl; cases ha
    subst hl
    have := hz rfl
    subst this
    have hs0 : ∀ w, (binOp .eql 59 (.slice none 0 0) (.slice none 0 0)).run Try.prog w = .ok (.bool true) w := fun w => Lib.run_eql_slice_nil w _ _ _ _ _ _ _ Try.underlying59
    go_enter Try.func114, Try.ntmps114
    go_wp2
    exact bodyPost_ret (v := .slice none 0 0) (by simp [results, Try.results114, go_sem]) rfl ⟨_, rfl, owns_nil (α := Cell) (enc := Cell.cells), by (exact kpt)⟩
  | some ad =>
    have HO := Lib.hid (owns_made (α := Cell) (enc := Cell.cells) (base := w.heap.size) (k := 7) (n := w.heap.size) (e := 25) (w := w) rfl (Nat.le_refl _))
    have hs0 : ∀ w, (binOp .eql 59 (.slice (some ad) xs.length cap) (.slice none 0 0)).run Try.prog w = .ok (.bool false) w := fun w => Lib.run_eql_slice_nil w _ _ _ _ _ _ _ Try.underlying59
    go_enter Try.func114, Try.ntmps114
    go_wp2_with (at_builtin; obtain ⟨i0, hi, hz0, hz1, hz2⟩ := info_parts infoCell; refine wpList_append_list (enc := Cell.cells) rfl _ _ 59 rfl w.heap.size 25 i0 (.agg #[.int .i64 0, .int .i64 0, .int .i64 0, .int .i64 0, .int .i64 0, .int .i64 0, .int .i64 0]) 7 56 Try.underlying59 hi hz0 hz1 hz2 rfl (by decide) cells_len (fun x u hu => by simp [Cell.cells] at hu; rcases hu with rfl | rfl | rfl | rfl | rfl | rfl | rfl <;> rfl) _ [] rfl HO.out (some ad) cap xs rfl (by simp) (B := w.heap.size) (hx.keep (by (exact kpt)) (Nat.le_refl _)) (by simp [maxLen]; omega) (by simp; omega) (by simp) ?_; intro v' w9 hown' hgrow; clear hi hz0 hz1 hz2)
    have hk : Kept w w9 := Kept.grown (Kept.alloc (Below.refl _ _) _) HO.out (Nat.le_refl _) hgrow
    rw [List.nil_append] at hown'
    obtain ⟨ad', cp, rfl, _⟩ := owns_row (enc := Cell.cells) (k := 7) cells_len hown'
    exact bodyPost_ret (v := .slice ad' xs.length cp) (by simp [results, Try.results114, go_sem]) rfl ⟨_, rfl, hown', hk⟩

theorem f_Check1 (x : Par) (w : World) : Calls Try.prog 122 #[.agg #[.int .i64 x.h, .int .i64 x.a]] w fun e w' => e = .returned (.bool (!parB x)) ∧ Kept w w' := by
  go_enter Try.func122, Try.ntmps122
  go_wp2_with (go_at_call 91; (with_reducible refine (f_ranged2 _ _ _ _ _ _ _ (by simp)).mono ?_); rintro e w1 ⟨rfl, rfl⟩)
  go_ret
  exact ⟨rfl, by (exact kpt)⟩

def IdxPost (xs : List Par) (w : World) (e : Ending) (w' : World) : Prop := ∃ r : Int, e = .returned (.int .i64 r) ∧ (0 ≤ r ↔ xs.all parB = false) ∧ Kept w w'
theorem s_IndexFunc (a : Option Addr) (cap : Nat) (xs : List Par) (w : World) (hx : Row Par.cells 2 w.heap.size w a xs) (hn : xs.length ≤ 100) :
    Calls Try.prog 139 #[.slice a xs.length cap, .func (.func 122) #[] #[]] w (IdxPost xs w) := by
  go_enter Try.func139, Try.ntmps139
  go_wp2
  go_loopw [8] (fun i wr => ∃ k : Nat, k ≤ xs.length ∧ i = .int .i64 k ∧ (xs.take k).all parB = true ∧ Kept w wr) (fun i _ => xs.length - (intOf i).toNat)
  case atStart => exact ⟨0, Nat.zero_le _, rfl, by simp, Below.refl _ _⟩
  case round =>
    obtain ⟨k, hk, rfl, ha', hkk⟩ := hrel
    have ha := Lib.hid ha'
    clear ha'
    by_cases hlt : k < xs.length
    · obtain ⟨b, off, rfl, hbl, h0, h1⟩ := Par.row (hx.later hkk (Nat.le_refl _)) k hlt
      have hbad : parB xs[k] = false → xs.all parB = false := fun hv => by
        rw [Bool.eq_false_iff]
        intro h
        rw [List.all_eq_true.1 h _ (List.getElem_mem hlt)] at hv
        cases hv
      have HB := Lib.hid hbad
      have HT := Lib.hid (fun hv : parB xs[k] = true => take_all hlt ha.out hv)
      clear hbad
      obtain ⟨x, hx0⟩ : ∃ x, x = xs[k] := ⟨_, rfl⟩
      rw [← hx0] at h0 h1 HB HT
      clear hx0
      have k0 : (0 : Int) ≤ (k : Int) := by omega
      have k1 : (k : Int) < (xs.length : Int) := by omega
      cases hv : parB x
      · have HV := Lib.hid hv
        clear hv
        go_wp2_with ((go_at_call 122; (with_reducible refine (f_Check1 x _).mono ?_); rintro e w1 ⟨rfl, hb1⟩; obtain ⟨hc1, hf1, hl1⟩ := bcell3 hb1); rw [HV.out]; simp only [Bool.not_false, Bool.not_true])
        go_ret
        exact ⟨k, rfl, ⟨fun _ => HB.out HV.out, fun _ => by omega⟩, by (exact kpt)⟩
      · have HV := Lib.hid hv
        clear hv
        go_wp2_with ((go_at_call 122; (with_reducible refine (f_Check1 x _).mono ?_); rintro e w1 ⟨rfl, hb1⟩; obtain ⟨hc1, hf1, hl1⟩ := bcell3 hb1); rw [HV.out]; simp only [Bool.not_false, Bool.not_true])
        go_roundw
        case rel => exact ⟨k + 1, by omega, by go_num, HT.out HV.out, by (exact kpt)⟩
        case measure => simp [intOf]; omega
    · obtain rfl : k = xs.length := by omega
      go_wp2
      go_ret
      refine ⟨-1, rfl, ⟨fun h => by omega, fun h => ?_⟩, hkk⟩
      have := ha.out
      rw [List.take_length, h] at this
      cases this

theorem s_ContainsFunc (a : Option Addr) (cap : Nat) (xs : List Par) (w : World) (hx : Row Par.cells 2 w.heap.size w a xs) (hn : xs.length ≤ 100) :
    Calls Try.prog 121 #[.slice a xs.length cap, .func (.func 122) #[] #[]] w fun e w' => e = .returned (.bool (!xs.all parB)) ∧ Kept w w' := by
  obtain ⟨b, hb⟩ : ∃ b, b = xs.all parB := ⟨_, rfl⟩
  have HB := Lib.hid hb
  rw [← hb]
  clear hb
  go_enter Try.func121, Try.ntmps121
  go_wp2_with ((go_at_call 139; (with_reducible refine (s_IndexFunc a cap xs _ hx hn).mono ?_); rintro e w1 ⟨r, rfl, hr, hb1⟩); have HR := Lib.hid hr; clear hr)
  all_goals
    go_ret
    refine ⟨ret_bool ?_, by (exact kpt)⟩
    have := HR.out
    rw [← HB.out] at this
    cases b <;> simp at this ⊢ <;> omega

end Go.Proofs.Ytemafanncejeiaa
