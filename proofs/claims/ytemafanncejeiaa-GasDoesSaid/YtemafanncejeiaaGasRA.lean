/-
  The reference of gas: its small functions.
-/
import Derived.Test.YtemafanncejeiaaGasC
import Derived.Test.YtemafanncejeiaaGasPlain2
namespace Go.Proofs.Ytemafanncejeiaa
open Go.RowKit Bal Bal.Trim Bal.Gas
set_option linter.unusedVariables false
set_option linter.unusedSimpArgs false
set_option maxHeartbeats 400000

theorem w64_in (n : Int) (h : -9223372036854775808 ≤ n ∧ n ≤ 9223372036854775807) : wrap64 n = n := by unfold wrap64; omega

theorem r_within (n lo hi : Int) (w : World) :
    Calls Try.prog 104 #[.int .i64 n, .int .i64 lo, .int .i64 hi] w fun e w' => e = .returned (.bool (inB n lo hi)) ∧ w = w' := by
  go_enter Try.func104, Try.ntmps104
  go_wp2
  all_goals (go_ret; exact ⟨ret_bool (by first | (simp_all [inB]; done) | (simp_all [inB]; omega)), rfl⟩)

theorem r_spanned (x y lo hi : Int) (w : World) :
    Calls Try.prog 129 #[.agg #[.int .i64 x, .int .i64 y], .int .i64 lo, .int .i64 hi] w fun e w' => e = .returned (.bool (spanIn x y lo hi)) ∧ Kept w w' := by
  have he : spanIn x y lo hi = (decide (lo ≤ x) && decide (x ≤ y) && decide (y ≤ hi)) := by
    simp only [spanIn, rng, inB, List.all_cons, List.all_nil, Bool.and_true]
    rw [Bool.eq_iff_iff]
    simp
    omega
  rw [he]
  by_cases h1 : lo ≤ x <;> by_cases h2 : x ≤ y <;> by_cases h3 : y ≤ hi
  all_goals
    go_enter Try.func129, Try.ntmps129
    go_wp2
    all_goals (go_ret; refine ⟨ret_bool ?_, by (exact kpt)⟩; simp_all)

theorem r_warm (x y : Int) (w : World) :
    Calls Try.prog 134 #[.agg #[.int .i64 x, .int .i64 y]] w fun e w' => e = .returned (.bool (spanIn x y (-300) (300))) ∧ Kept w w' := by
  go_enter Try.func134, Try.ntmps134
  go_wp2_with (go_at_call 129; (with_reducible refine (r_spanned _ _ _ _ _).mono ?_); rintro e w1 ⟨rfl, hb1⟩; obtain ⟨hc1, hf1, hl1⟩ := bcell3 hb1)
  go_ret
  exact ⟨rfl, by (exact kpt)⟩

theorem r_Temp (x y : Int) (w : World) :
    Calls Try.prog 94 #[.agg #[.int .i64 x, .int .i64 y]] w fun e w' => e = .returned (.bool (spanIn x y (1500) (3500))) ∧ Kept w w' := by
  go_enter Try.func94, Try.ntmps94
  go_wp2_with (go_at_call 129; (with_reducible refine (r_spanned _ _ _ _ _).mono ?_); rintro e w1 ⟨rfl, hb1⟩; obtain ⟨hc1, hf1, hl1⟩ := bcell3 hb1)
  go_ret
  exact ⟨rfl, by (exact kpt)⟩

theorem r_Air (a : Air) (w : World) :
    Calls Try.prog 90 #[.agg #[.int .i64 a.plo, .int .i64 a.phi, .int .i64 a.tlo, .int .i64 a.thi]] w fun e w' => e = .returned (.bool (airB a)) ∧ Kept w w' := by
  go_enter Try.func90, Try.ntmps90
  go_wp2_with (first | (go_at_call 129; (with_reducible refine (r_spanned _ _ _ _ _).mono ?_); rintro e w1 ⟨rfl, hb1⟩; obtain ⟨hc1, hf1, hl1⟩ := bcell3 hb1) | (go_at_call 94; (with_reducible refine (r_Temp _ _ _).mono ?_); rintro e w1 ⟨rfl, hb1⟩; obtain ⟨hc1, hf1, hl1⟩ := bcell3 hb1))
  all_goals (go_ret; refine ⟨ret_bool ?_, by (exact kpt)⟩; simp_all [airB])

theorem r_CheckAir (a : Air) (w : World) :
    Calls Try.prog 27 #[.agg #[.int .i64 a.plo, .int .i64 a.phi, .int .i64 a.tlo, .int .i64 a.thi]] w fun e w' => e = .returned (.int .i64 (checkAir a)) ∧ Kept w w' := by
  cases hv : airB a
  all_goals
    go_enter Try.func27, Try.ntmps27
    go_wp2_with (go_at_call 90; (with_reducible refine (r_Air a _).mono ?_); rw [hv]; rintro e w1 ⟨rfl, hb1⟩; obtain ⟨hc1, hf1, hl1⟩ := bcell3 hb1)
    all_goals (go_ret; refine ⟨ret_int ?_, by (exact kpt)⟩; simp_all [checkAir])

theorem r_Cell (c : Cell) (w : World) :
    Calls Try.prog 92 #[.agg #[.int .i64 c.room, .int .i64 c.helium, .int .i64 c.air, .int .i64 c.wlo, .int .i64 c.whi, .int .i64 c.leak, .int .i64 c.owed]] w fun e w' => e = .returned (.bool (cellB c)) ∧ Kept w w' := by
  go_enter Try.func92, Try.ntmps92
  go_wp2_with (first | (go_at_call 104; (with_reducible refine (r_within _ _ _ _).mono ?_); rintro e w1 ⟨rfl, rfl⟩) | (go_at_call 134; (with_reducible refine (r_warm _ _ _).mono ?_); rintro e w1 ⟨rfl, hb1⟩; obtain ⟨hc1, hf1, hl1⟩ := bcell3 hb1))
  all_goals (go_ret; refine ⟨ret_bool ?_, by (exact kpt)⟩; simp_all [cellB, cellFits, rng])

theorem r_CheckCell (c : Cell) (w : World) :
    Calls Try.prog 29 #[.agg #[.int .i64 c.room, .int .i64 c.helium, .int .i64 c.air, .int .i64 c.wlo, .int .i64 c.whi, .int .i64 c.leak, .int .i64 c.owed]] w fun e w' => e = .returned (.int .i64 (checkCell c)) ∧ Kept w w' := by
  cases hv : cellB c
  all_goals
    go_enter Try.func29, Try.ntmps29
    go_wp2_with (go_at_call 92; (with_reducible refine (r_Cell c _).mono ?_); rw [hv]; rintro e w1 ⟨rfl, hb1⟩; obtain ⟨hc1, hf1, hl1⟩ := bcell3 hb1)
    all_goals (go_ret; refine ⟨ret_int ?_, by (exact kpt)⟩; simp_all [checkCell])

theorem r_asked (c : Cell) (a : Air) (w : World) :
    Calls Try.prog 82 #[.agg #[.int .i64 c.room, .int .i64 c.helium, .int .i64 c.air, .int .i64 c.wlo, .int .i64 c.whi, .int .i64 c.leak, .int .i64 c.owed], .agg #[.int .i64 a.plo, .int .i64 a.phi, .int .i64 a.tlo, .int .i64 a.thi]] w fun e w' => e = .returned (.int .i64 (asked c a)) ∧ Kept w w' := by
  cases hv : cellB c
  all_goals
    go_enter Try.func82, Try.ntmps82
    go_wp2_with (first | (go_at_call 92; (with_reducible refine (r_Cell c _).mono ?_); rw [hv]; rintro e w1 ⟨rfl, hb1⟩; obtain ⟨hc1, hf1, hl1⟩ := bcell3 hb1) | (go_at_call 27; (with_reducible refine (r_CheckAir a _).mono ?_); rintro e w1 ⟨rfl, hb1⟩; obtain ⟨hc1, hf1, hl1⟩ := bcell3 hb1))
    all_goals (go_ret; refine ⟨ret_int ?_, by (exact kpt)⟩; simp_all [asked])

theorem r_floor (a b : Int) (w : World) (h0 : 0 < b) (h1 : b ≤ 1000000000000000) (h2 : -1000000000000000 ≤ a) (h3 : a ≤ 1000000000000000) :
    Calls Try.prog 84 #[.int .i64 a, .int .i64 b] w fun e w' => e = .returned (.int .i64 (a / b)) ∧ w = w' := by
  have HF := Lib.hid (floor_eq (a := a) h0)
  obtain ⟨⟨b1, b2⟩, b3, b4⟩ := tdiv_bd h2 h3 h0 (by omega)
  by_cases hg : a.tdiv b * b > a
  all_goals
    have HG := Lib.hid hg
    go_enter Try.func84, Try.ntmps84
    go_wp2
    go_ret
    exact ⟨ret_int (by have hf := HF.out; first | (rw [if_pos HG.out] at hf; exact hf) | (rw [if_neg (Int.not_lt.2 HG.out)] at hf; exact hf)), rfl⟩

theorem r_ceil (a b : Int) (w : World) (h0 : 0 < b) (h1 : b ≤ 1000000000000000) (h2 : -1000000000000000 ≤ a) (h3 : a ≤ 1000000000000000) :
    Calls Try.prog 86 #[.int .i64 a, .int .i64 b] w fun e w' => e = .returned (.int .i64 (-((-a) / b))) ∧ w = w' := by
  obtain ⟨d1, d2⟩ := div_bd (N := 1000000000000000) (a := -a) (b := b) (by omega) (by omega) h0 (by omega)
  go_enter Try.func86, Try.ntmps86
  go_wp2_with (go_at_call 84; (with_reducible refine (r_floor (-a) b _ h0 h1 (by omega) (by omega)).mono ?_); rintro e w1 ⟨rfl, rfl⟩)
  go_ret
  exact ⟨rfl, rfl⟩

theorem r_heat (x y u v : Int) (w : World) :
    Calls Try.prog 83 #[.agg #[.int .i64 x, .int .i64 y], .agg #[.int .i64 u, .int .i64 v]] w fun e w' => e = .returned (.agg #[.int .i64 (wrap64 (x + u)), .int .i64 (wrap64 (y + v))]) ∧ Kept w w' := by
  go_enter Try.func83, Try.ntmps83
  go_wp2
  exact bodyPost_ret (v := .agg #[.int .i64 (wrap64 (x + u)), .int .i64 (wrap64 (y + v))]) (by simp [results, Try.results83, go_sem]) rfl ⟨rfl, by (exact kpt)⟩

theorem r_heat_ok (x y u v : Int) (w : World) (h : -1000000 ≤ x ∧ x ≤ 1000000 ∧ -1000000 ≤ y ∧ y ≤ 1000000 ∧ -1000000 ≤ u ∧ u ≤ 1000000 ∧ -1000000 ≤ v ∧ v ≤ 1000000) :
    Calls Try.prog 83 #[.agg #[.int .i64 x, .int .i64 y], .agg #[.int .i64 u, .int .i64 v]] w fun e w' => e = .returned (.agg #[.int .i64 (x + u), .int .i64 (y + v)]) ∧ Kept w w' := by
  have := r_heat x y u v w
  rwa [w64_in (x + u) (by omega), w64_in (y + v) (by omega)] at this

theorem r_amount (c : Cell) (w : World) (h : cellB c = true) :
    Calls Try.prog 85 #[.agg #[.int .i64 c.room, .int .i64 c.helium, .int .i64 c.air, .int .i64 c.wlo, .int .i64 c.whi, .int .i64 c.leak, .int .i64 c.owed]] w fun e w' => e = .returned (.int .i64 (amount c)) ∧ Kept w w' := by
  obtain ⟨_, ⟨u1, u2⟩, ⟨u3, u4⟩, _⟩ := cellB_iff.1 h
  clear h
  go_enter Try.func85, Try.ntmps85
  go_wp2
  go_ret
  exact ⟨rfl, by (exact kpt)⟩

theorem f_put_good (c : Cell) (a : Air) (w : World) (hv : cellB c = true) (ha : airB a = true) :
    Calls Try.prog 80 #[.agg #[.int .i64 c.room, .int .i64 c.helium, .int .i64 c.air, .int .i64 c.wlo, .int .i64 c.whi, .int .i64 c.leak, .int .i64 c.owed], .agg #[.int .i64 a.plo, .int .i64 a.phi, .int .i64 a.tlo, .int .i64 a.thi]] w fun e w' => e = .returned (.tuple #[.agg #[.int .i64 c.room, .int .i64 c.helium, .int .i64 c.air, .int .i64 c.wlo, .int .i64 c.whi, .int .i64 c.leak, .int .i64 c.owed, .int .i64 a.plo, .int .i64 a.phi, .int .i64 a.tlo, .int .i64 a.thi, .int .i64 (amount c), .int .i64 (heatLo c a), .int .i64 (heatHi c a)], .int .i64 0]) ∧ Kept w w' := by
  obtain ⟨h1, h2, h3, h4, h5, h6⟩ := cellB_iff.1 hv
  obtain ⟨h7, h8⟩ := airB_iff.1 ha
  have := f_put_ok c a w hv
  rwa [show checkAir a = 0 by simp [checkAir, ha], w64_in (a.tlo + c.wlo) (by omega), w64_in (a.thi + c.whi) (by omega)] at this

theorem f_least2 (r s : Ratio) (t : TypeId) (W : World) (m : Nat) (hm : m = W.heap.size) (hr : ratioOk r) (hs : ratioOk s) :
    Calls Try.prog 81 #[.slice (some ⟨m, 0, none⟩) 2 2] (W.alloc (.cells #[.int .i64 r.num, .int .i64 r.den, .int .i64 s.num, .int .i64 s.den] t)) fun e w' => e = .returned (.agg #[.int .i64 (leastLo [r, s]), .int .i64 (leastHi [r, s])]) ∧ Kept (W.alloc (.cells #[.int .i64 r.num, .int .i64 r.den, .int .i64 s.num, .int .i64 s.den] t)) w' := by
  subst hm
  exact f_least _ 2 2 [r, s] _ rfl (B := 0) (Row.fresh (enc := Ratio.cells) (fun _ => rfl) rfl) (by decide) (by decide) (by decide) (by intro x hx; simp at hx; rcases hx with rfl | rfl <;> assumption)

end Go.Proofs.Ytemafanncejeiaa
