/-
  TrimStowed, the statement: for every input the call returns true and leaves the input alone.
-/
import Derived.Test.YtlloijkmpmfapaaTrimBaseM
import Derived.WalkSmall
import Derived.Test.YtlloijkmpmfapaaRows
set_option linter.unusedVariables false
set_option linter.unusedSimpArgs false
namespace Bal
open Go Go.RowKit
/-- two lists are equal as far as they were compared -/
theorem eq_take_succ {α : Type} {xs ys : List α} {k : Nat} (h1 : k < xs.length) (h2 : k < ys.length) (h : xs.take k = ys.take k) (he : xs[k] = ys[k]) : xs.take (k + 1) = ys.take (k + 1) := by
  rw [List.take_succ_eq_append_getElem h1, List.take_succ_eq_append_getElem h2, h, he]
end Bal

/-
  Stowages in order: the first good one comes before every other good one. Plain Lean.
-/
namespace Bal.Trim
theorem mem_lex {H : Nat} : ∀ (m : Nat) (t : List Nat), t.length = m → (∀ k ∈ t, k < H) → t ∈ lex H m
  | 0, t, h, _ => by
    have : t = [] := List.length_eq_zero_iff.1 h
    subst this
    simp [lex]
  | m + 1, [], h, _ => by simp at h
  | m + 1, k :: t, h, hk => by
    simp only [lex, List.mem_flatMap, List.mem_range, List.mem_map]
    exact ⟨k, hk k (by simp), t, mem_lex m t (by simpa using h) (fun j hj => hk j (by simp [hj])), rfl⟩
theorem lex_sorted (H : Nat) : ∀ m, (lex H m).Pairwise (fun a b => earlier a b = true)
  | 0 => by simp [lex]
  | m + 1 => by
    simp only [lex]
    rw [List.pairwise_flatMap]
    refine ⟨fun d _ => ?_, ?_⟩
    · rw [List.pairwise_map]
      refine (lex_sorted H m).imp fun {a b} h => ?_
      simp only [earlier, if_true]
      exact h
    · refine List.Pairwise.imp (R := fun a b => a < b) ?_ List.pairwise_lt_range
      intro a b hab x hx y hy
      obtain ⟨x', _, rfl⟩ := List.mem_map.1 hx
      obtain ⟨y', _, rfl⟩ := List.mem_map.1 hy
      have hne : ¬ a = b := by omega
      simp only [earlier, hne, if_false, decide_eq_true_eq]
      omega
/-- the first good one comes before every other good one -/
theorem stow_first {F : Fr} {x y : List Nat} (h : stowS F = some x) (hl : y.length = F.ps.length) (hs : ∀ k ∈ y, k < F.hs.length) (hy : okS F y = true) : y = x ∨ earlier x y = true := by
  have hm := mem_lex F.ps.length y hl hs
  have hp := lex_sorted F.hs.length F.ps.length
  obtain ⟨_, us, vs, e, hno⟩ := List.find?_eq_some_iff_append.1 h
  rw [e] at hm hp
  rcases List.mem_append.1 hm with hm | hm
  · have := hno y hm
    rw [hy] at this
    simp at this
  · rcases List.mem_cons.1 hm with rfl | hm
    · exact .inl rfl
    · rw [List.pairwise_append] at hp
      exact .inr ((List.pairwise_cons.1 hp.2.1).1 y hm)
theorem stow_mem {F : Fr} {x : List Nat} (h : stowS F = some x) : x.length = F.ps.length ∧ (∀ k ∈ x, k < F.hs.length) ∧ okS F x = true := by
  have h1 := List.mem_of_find?_eq_some h
  have h2 := List.find?_some h
  obtain ⟨h3, h4⟩ := lex_mem h1
  exact ⟨h3, h4, h2⟩
theorem earlier_at : ∀ (x y : List Nat) (k : Nat) (hx : k < x.length) (hy : k < y.length), earlier x y = true → x.take k = y.take k → x[k] ≠ y[k] → x[k] < y[k]
  | [], _, k, hx, _, _, _, _ => by simp at hx
  | a :: us, [], k, _, hy, _, _, _ => by simp at hy
  | a :: us, b :: vs, 0, _, _, h, _, hne => by
    simp only [List.getElem_cons_zero] at hne ⊢
    simp only [earlier, hne, if_false, decide_eq_true_eq] at h
    exact h
  | a :: us, b :: vs, k + 1, hx, hy, h, ht, hne => by
    simp only [List.take_succ_cons, List.cons.injEq] at ht
    simp only [List.getElem_cons_succ] at hne ⊢
    simp only [earlier, ht.1, if_true] at h
    exact earlier_at us vs k (by simpa using hx) (by simpa using hy) h ht.2 hne
theorem check_is {F : Fr} (he : frE F = 0) {y : List Nat} (hl : y.length = F.ps.length) (hs : ∀ k ∈ y, k < F.hs.length) : checkStowE F (y.map Int.ofNat) = faultS F y := by
  obtain ⟨h1, h2⟩ := argS_nat hl hs
  unfold checkStowE
  rw [if_pos he, if_pos h1, h2]
theorem check_ok {F : Fr} {t : List Int} (he : frE F = 0) (h : checkStowE F t = 0) : ∃ y : List Nat, t = y.map Int.ofNat ∧ y.length = F.ps.length ∧ (∀ k ∈ y, k < F.hs.length) ∧ okS F y = true := by
  unfold checkStowE at h
  rw [if_pos he] at h
  cases ha : argS F t
  · rw [ha] at h; simp at h
  · rw [ha, if_pos rfl] at h
    obtain ⟨h1, y, rfl, h2, h3⟩ := argS_ok ha
    rw [h2] at h
    exact ⟨y, rfl, by simpa using h1, h3, by unfold okS; rw [h]; rfl⟩
theorem check_none {F : Fr} {t : List Int} (he : frE F = 0) (hn : stowS F = none) : checkStowE F t ≠ 0 := by
  intro h
  obtain ⟨y, _, hl, hs, hy⟩ := check_ok he h
  have := List.find?_eq_none.1 hn y (mem_lex _ y hl hs)
  rw [hy] at this
  simp at this
theorem check_err {F : Fr} {t : List Int} (he : frE F = 0) (h : checkStowE F t ≠ 0) : checkStowE F t = 2 ∨ checkStowE F t = 44 ∨ checkStowE F t = 45 ∨ checkStowE F t = 46 := by
  unfold checkStowE at *
  rw [if_pos he] at *
  cases ha : argS F t
  · simp
  · rw [ha, if_pos rfl] at h
    rw [if_pos rfl]
    have key : ∀ a b c : Bool, (if a then (if b then (45 : Int) else if c then 46 else 0) else 44) ≠ 0 → (if a then (if b then (45 : Int) else if c then 46 else 0) else 44) = 2 ∨ (if a then (if b then (45 : Int) else if c then 46 else 0) else 44) = 44 ∨ (if a then (if b then (45 : Int) else if c then 46 else 0) else 44) = 45 ∨ (if a then (if b then (45 : Int) else if c then 46 else 0) else 44) = 46 := by decide
    exact key _ _ _ h
theorem fr_err {F : Fr} (hb : both F.xs F.ms = 0) : frE F = 0 ∨ frE F = 4 ∨ frE F = 43 := by
  unfold frE
  rw [if_pos hb]
  cases frMany F
  · cases frB F <;> simp
  · simp
theorem bad_stow {F : Fr} (he : frE F ≠ 0) (t : List Int) : stowE F = frE F ∧ stowL F = [] ∧ checkStowE F t = frE F := by
  unfold stowE stowL checkStowE
  rw [if_neg he, if_neg he, if_neg he]
  exact ⟨rfl, rfl, rfl⟩
theorem none_stow {F : Fr} (he : frE F = 0) (h : stowS F = none) : stowE F = 6 ∧ stowL F = [] := by
  unfold stowE stowL
  rw [if_pos he, if_pos he, h]
  exact ⟨rfl, rfl⟩
theorem some_stow {F : Fr} {x : List Nat} (he : frE F = 0) (h : stowS F = some x) : stowE F = 0 ∧ stowL F = x.map Int.ofNat ∧ checkStowE F (x.map Int.ofNat) = 0 := by
  obtain ⟨h1, h2, h3⟩ := stow_mem h
  refine ⟨?_, ?_, ?_⟩
  · unfold stowE; rw [if_pos he, h]
  · unfold stowL; rw [if_pos he, h]
  · rw [check_is he h1 h2]
    unfold okS at h3
    exact of_decide_eq_true h3
end Bal.Trim

/-
  TrimStowed: the first stowage: for every input.
-/
namespace Go.Proofs.Ytlloijkmpmfapaa
open Go.RowKit Bal Bal.Trim
set_option linter.unusedVariables false
set_option linter.unusedSimpArgs false
set_option maxHeartbeats 4000000
set_option maxRecDepth 10000

theorem o_stow (F : Fr) (s : FSpot) (w : World) (hh : FrAt F s w) (n : Nat) (E : Int) (Lx : List Int) (h1 : stowE F = E) (h2 : stowL F = Lx) (h3 : Lx.length = n) :
    Calls Try.prog 44 #[.slice s.ax F.xs.length s.cx, .slice s.ah F.hs.length s.ch, .slice s.ap F.ps.length s.cp, .slice s.ar F.rs.length s.cr, .slice s.am F.ms.length s.cm] w fun e w' => ∃ a' c', e = .returned (.tuple #[.slice a' n c', .int .i64 E]) ∧ Row icell 1 w'.heap.size w' a' Lx ∧ n ≤ c' ∧ c' ≤ maxLen ∧ Kept w w' := by
  subst h1 h2 h3
  exact f_Stow F s w hh
theorem o_checkStow (F : Fr) (s : FSpot) (w : World) (hh : FrAt F s w) (a : Option Addr) (n cap : Nat) (t : List Int) (hn : t.length = n) (ht : Row icell 1 w.heap.size w a t) (hc : n ≤ cap) (hM : cap ≤ maxLen) (E : Int) (h : checkStowE F t = E) :
    Calls Try.prog 46 #[.slice s.ax F.xs.length s.cx, .slice s.ah F.hs.length s.ch, .slice s.ap F.ps.length s.cp, .slice s.ar F.rs.length s.cr, .slice s.am F.ms.length s.cm, .slice a n cap] w fun e w' => e = .returned (.int .i64 E) ∧ Kept w w' := by
  subst hn h
  exact f_CheckStow F s w hh a cap t ht hc hM

theorem law_TrimStowed (a0 : Option Addr) (c0 : Nat) (xs : List Load) (a1 : Option Addr) (c1 : Nat) (hs : List Hold) (a2 : Option Addr) (c2 : Nat) (ps : List Parcel) (a3 : Option Addr) (c3 : Nat) (rs : List Rule) (a4 : Option Addr) (c4 : Nat) (ms : List Limit) (a5 : Option Addr) (c5 : Nat) (t : List Int) (w : World)
    (h0 : Row Load.cells 4 w.heap.size w a0 xs) (hl0 : xs.length ≤ c0) (hm0 : c0 ≤ maxLen) (h1 : Row Hold.cells 2 w.heap.size w a1 hs) (hl1 : hs.length ≤ c1) (hm1 : c1 ≤ maxLen) (h2 : Row Parcel.cells 2 w.heap.size w a2 ps) (hl2 : ps.length ≤ c2) (hm2 : c2 ≤ maxLen) (h3 : Row Rule.cells 3 w.heap.size w a3 rs) (hl3 : rs.length ≤ c3) (hm3 : c3 ≤ maxLen) (h4 : Row Limit.cells 3 w.heap.size w a4 ms) (hl4 : ms.length ≤ c4) (hm4 : c4 ≤ maxLen) (h5 : Row icell 1 w.heap.size w a5 t) (hl5 : t.length ≤ c5) (hm5 : c5 ≤ maxLen) (hz : a0 = none → c0 = 0) :
    Calls Try.prog 16 #[.slice a0 xs.length c0, .slice a1 hs.length c1, .slice a2 ps.length c2, .slice a3 rs.length c3, .slice a4 ms.length c4, .slice a5 t.length c5] w fun e w' => e = .returned (.bool true) ∧ Kept w w' := by
  cases hv : validB xs ms
  · have HV := Lib.hid hv
    clear hv
    go_enter Try.func16, Try.ntmps16
    go_wp2_with (first | (go_at_call 48; (with_reducible refine (o_alive _).mono ?_); rintro e wA ⟨rfl, hbA⟩) | (go_at_call 49; (with_reducible refine (o_validN a0 c0 xs _ (h0.later (by (exact kpt)) (Nat.le_refl _)) hl0 hm0 a4 c4 ms (h4.later (by (exact kpt)) (Nat.le_refl _)) hl4 hm4 false HV.out).mono ?_); rintro e wV ⟨rfl, hbV⟩))
    go_ret; exact ⟨rfl, by (exact kpt)⟩
  · by_cases g1 : 50 < hs.length
    · have HV := Lib.hid hv
      clear hv
      go_enter Try.func16, Try.ntmps16
      go_wp2_with (first | (go_at_call 48; (with_reducible refine (o_alive _).mono ?_); rintro e wA ⟨rfl, hbA⟩) | (go_at_call 49; (with_reducible refine (o_validN a0 c0 xs _ (h0.later (by (exact kpt)) (Nat.le_refl _)) hl0 hm0 a4 c4 ms (h4.later (by (exact kpt)) (Nat.le_refl _)) hl4 hm4 true HV.out).mono ?_); rintro e wV ⟨rfl, hbV⟩))
      go_ret; exact ⟨rfl, by (exact kpt)⟩
    by_cases g2 : 50 < ps.length
    · have HV := Lib.hid hv
      clear hv
      go_enter Try.func16, Try.ntmps16
      go_wp2_with (first | (go_at_call 48; (with_reducible refine (o_alive _).mono ?_); rintro e wA ⟨rfl, hbA⟩) | (go_at_call 49; (with_reducible refine (o_validN a0 c0 xs _ (h0.later (by (exact kpt)) (Nat.le_refl _)) hl0 hm0 a4 c4 ms (h4.later (by (exact kpt)) (Nat.le_refl _)) hl4 hm4 true HV.out).mono ?_); rintro e wV ⟨rfl, hbV⟩))
      go_ret; exact ⟨rfl, by (exact kpt)⟩
    by_cases g3 : 50 < rs.length
    · have HV := Lib.hid hv
      clear hv
      go_enter Try.func16, Try.ntmps16
      go_wp2_with (first | (go_at_call 48; (with_reducible refine (o_alive _).mono ?_); rintro e wA ⟨rfl, hbA⟩) | (go_at_call 49; (with_reducible refine (o_validN a0 c0 xs _ (h0.later (by (exact kpt)) (Nat.le_refl _)) hl0 hm0 a4 c4 ms (h4.later (by (exact kpt)) (Nat.le_refl _)) hl4 hm4 true HV.out).mono ?_); rintro e wV ⟨rfl, hbV⟩))
      go_ret; exact ⟨rfl, by (exact kpt)⟩
    by_cases g4 : 50 < t.length
    · have HV := Lib.hid hv
      clear hv
      go_enter Try.func16, Try.ntmps16
      go_wp2_with (first | (go_at_call 48; (with_reducible refine (o_alive _).mono ?_); rintro e wA ⟨rfl, hbA⟩) | (go_at_call 49; (with_reducible refine (o_validN a0 c0 xs _ (h0.later (by (exact kpt)) (Nat.le_refl _)) hl0 hm0 a4 c4 ms (h4.later (by (exact kpt)) (Nat.le_refl _)) hl4 hm4 true HV.out).mono ?_); rintro e wV ⟨rfl, hbV⟩))
      go_ret; exact ⟨rfl, by (exact kpt)⟩
    have HV := Lib.hid hv
    obtain ⟨v1, v2⟩ := validB_ok hv
    have hbo := both_is v1 v2
    by_cases he : frE (⟨xs, hs, ps, rs, ms⟩ : Fr) = 0
    · cases hs0 : stowS (⟨xs, hs, ps, rs, ms⟩ : Fr) with
      | none =>
        obtain ⟨s1, s2⟩ := none_stow he hs0
        have hc := check_none (t := t) he hs0
        obtain ⟨E2, hE2⟩ : ∃ E, checkStowE (⟨xs, hs, ps, rs, ms⟩ : Fr) t = E := ⟨_, rfl⟩
        rw [hE2] at hc
        have HS1 := Lib.hid s1
        have HS2 := Lib.hid s2
        have HS3 := Lib.hid (show ([] : List Int).length = 0 from rfl)
        have HC := Lib.hid hE2
        have e2 : (E2 != 0) = true := by simp [hc]
        clear hs0 he s1 s2 hE2 hbo v1 v2 hv
        go_enter Try.func16, Try.ntmps16
        go_wp2_with (first | (go_at_call 48; (with_reducible refine (o_alive _).mono ?_); rintro e wA ⟨rfl, hbA⟩) | (go_at_call 49; (with_reducible refine (o_validN a0 c0 xs _ (h0.later (by (exact kpt)) (Nat.le_refl _)) hl0 hm0 a4 c4 ms (h4.later (by (exact kpt)) (Nat.le_refl _)) hl4 hm4 true HV.out).mono ?_); rintro e wV ⟨rfl, hbV⟩) | (go_at_call 44; (with_reducible refine (o_stow (⟨xs, hs, ps, rs, ms⟩ : Fr) ⟨a0, a1, a2, a3, a4, c0, c1, c2, c3, c4⟩ _ ⟨(h0.later (by (exact kpt)) (Nat.le_refl _)), (h1.later (by (exact kpt)) (Nat.le_refl _)), (h2.later (by (exact kpt)) (Nat.le_refl _)), (h3.later (by (exact kpt)) (Nat.le_refl _)), (h4.later (by (exact kpt)) (Nat.le_refl _)), hl0, hl1, hl2, hl3, hl4, hm0, hm1, hm2, hm3, hm4, hz⟩ 0 6 [] HS1.out HS2.out HS3.out).mono ?_); rintro e wF ⟨aF, cF, rfl, hF, hF1, hF2, hbF⟩) | (go_at_call 46; (with_reducible refine (o_checkStow (⟨xs, hs, ps, rs, ms⟩ : Fr) ⟨a0, a1, a2, a3, a4, c0, c1, c2, c3, c4⟩ _ ⟨(h0.later (by (exact kpt)) (Nat.le_refl _)), (h1.later (by (exact kpt)) (Nat.le_refl _)), (h2.later (by (exact kpt)) (Nat.le_refl _)), (h3.later (by (exact kpt)) (Nat.le_refl _)), (h4.later (by (exact kpt)) (Nat.le_refl _)), hl0, hl1, hl2, hl3, hl4, hm0, hm1, hm2, hm3, hm4, hz⟩ a5 t.length c5 t rfl (h5.later (by (exact kpt)) (Nat.le_refl _)) hl5 hm5 _ HC.out).mono ?_); rintro e wC ⟨rfl, hbC⟩))
        go_ret; exact ⟨rfl, by (exact kpt)⟩
      | some x =>
        obtain ⟨s1, s2, s3⟩ := some_stow he hs0
        obtain ⟨hxl, hxs, _⟩ := stow_mem hs0
        have hxl : x.length = ps.length := hxl
        have hil : (ints x).length = ps.length := by rw [ints_len]; exact hxl
        have HXL := Lib.hid hil
        have HS1 := Lib.hid s1
        have HS2 := Lib.hid (show stowL (⟨xs, hs, ps, rs, ms⟩ : Fr) = ints x from s2)
        have HS3 := Lib.hid hil
        have HC2 := Lib.hid (show checkStowE (⟨xs, hs, ps, rs, ms⟩ : Fr) (ints x) = 0 from s3)
        by_cases hc : checkStowE (⟨xs, hs, ps, rs, ms⟩ : Fr) t = 0
        · obtain ⟨y, rfl, hyl, hys, hyo⟩ := check_ok he hc
          have hfi := stow_first hs0 hyl hys hyo
          have hyl : y.length = ps.length := hyl
          have HC := Lib.hid hc
          have HFI := Lib.hid hfi
          have hXL := Lib.hid hxl
          have hYL := Lib.hid hyl
          have hty : y.map Int.ofNat = ints y := rfl
          have hpl : ps.length ≤ 50 := by omega
          have hyn : (ints y).length = ps.length := by rw [ints_len]; exact hyl
          rw [hty] at h5 hl5 HC ⊢
          rw [hyn] at hl5 ⊢
          have HYN := Lib.hid hyn
          clear hs0 hty hyn g4 he s1 s2 s3 hbo v1 v2 hv hc hfi hxl hyl hil hxs hys hyo
          go_enter Try.func16, Try.ntmps16
          go_upto_region 12 with (first | (go_at_call 48; (with_reducible refine (o_alive _).mono ?_); rintro e wA ⟨rfl, hbA⟩) | (go_at_call 49; (with_reducible refine (o_validN a0 c0 xs _ (h0.later (by (exact kpt)) (Nat.le_refl _)) hl0 hm0 a4 c4 ms (h4.later (by (exact kpt)) (Nat.le_refl _)) hl4 hm4 true HV.out).mono ?_); rintro e wV ⟨rfl, hbV⟩) | (go_at_call 44; (with_reducible refine (o_stow (⟨xs, hs, ps, rs, ms⟩ : Fr) ⟨a0, a1, a2, a3, a4, c0, c1, c2, c3, c4⟩ _ ⟨(h0.later (by (exact kpt)) (Nat.le_refl _)), (h1.later (by (exact kpt)) (Nat.le_refl _)), (h2.later (by (exact kpt)) (Nat.le_refl _)), (h3.later (by (exact kpt)) (Nat.le_refl _)), (h4.later (by (exact kpt)) (Nat.le_refl _)), hl0, hl1, hl2, hl3, hl4, hm0, hm1, hm2, hm3, hm4, hz⟩ ps.length 0 (ints x) HS1.out HS2.out HS3.out).mono ?_); rintro e wF ⟨aF, cF, rfl, hF, hF1, hF2, hbF⟩) | (go_at_call 46; (with_reducible refine (o_checkStow (⟨xs, hs, ps, rs, ms⟩ : Fr) ⟨a0, a1, a2, a3, a4, c0, c1, c2, c3, c4⟩ _ ⟨(h0.later (by (exact kpt)) (Nat.le_refl _)), (h1.later (by (exact kpt)) (Nat.le_refl _)), (h2.later (by (exact kpt)) (Nat.le_refl _)), (h3.later (by (exact kpt)) (Nat.le_refl _)), (h4.later (by (exact kpt)) (Nat.le_refl _)), hl0, hl1, hl2, hl3, hl4, hm0, hm1, hm2, hm3, hm4, hz⟩ a5 ps.length c5 (ints y) HYN.out (h5.later (by (exact kpt)) (Nat.le_refl _)) hl5 hm5 0 HC.out).mono ?_); rintro e wC ⟨rfl, hbC⟩))
          refine at_world (S := fun W1 => Row icell 1 W1.heap.size W1 aF (ints x) ∧ Kept w W1) ⟨(hF.later (by (exact kpt)) (Nat.le_refl _)), by (exact kpt)⟩ ?_
          rintro W1 ⟨rF, hk⟩
          go_wp2_with (go_at_call 46; (with_reducible refine (o_checkStow (⟨xs, hs, ps, rs, ms⟩ : Fr) ⟨a0, a1, a2, a3, a4, c0, c1, c2, c3, c4⟩ _ ⟨(h0.later (by (exact kpt)) (Nat.le_refl _)), (h1.later (by (exact kpt)) (Nat.le_refl _)), (h2.later (by (exact kpt)) (Nat.le_refl _)), (h3.later (by (exact kpt)) (Nat.le_refl _)), (h4.later (by (exact kpt)) (Nat.le_refl _)), hl0, hl1, hl2, hl3, hl4, hm0, hm1, hm2, hm3, hm4, hz⟩ aF ps.length cF (ints x) HXL.out (rF.later (by (exact kpt)) (Nat.le_refl _)) hF1 hF2 0 HC2.out).mono ?_); rintro e wD ⟨rfl, hbD⟩)
          go_loopw [135] (fun i wr => ∃ k : Nat, k ≤ ps.length ∧ i = .int .i64 k ∧ x.take k = y.take k ∧ Row icell 1 wr.heap.size wr aF (ints x) ∧ Kept w wr) (fun i _ => ps.length - (intOf i).toNat)
          case atStart => exact ⟨0, Nat.zero_le _, rfl, by simp, (rF.later (by (exact kpt)) (Nat.le_refl _)), by (exact kpt)⟩
          case round =>
            clear rF hk
            obtain ⟨k, hkn, rfl, hto, rF, hkk⟩ := hrel
            have HTO := Lib.hid hto
            clear hto
            by_cases hlt : k < ps.length
            · have hkx : k < x.length := by have := hXL.out; omega
              have hky : k < y.length := by have := hYL.out; omega
              obtain ⟨bs, os, hae, hbs, gx⟩ := int_row rF k (by rw [ints_len]; exact hkx)
              obtain ⟨bt, ot, hbe, hbt, gy⟩ := int_row (h5.later hkk (Nat.le_refl _)) k (by rw [ints_len]; exact hky)
              have gx2 : wr.cell? ⟨bs, os + k, none⟩ = some (.int .i64 (x[k] : Int)) := by simpa [ints] using gx
              have gy2 : wr.cell? ⟨bt, ot + k, none⟩ = some (.int .i64 (y[k] : Int)) := by simpa [ints] using gy
              have HNX := Lib.hid (fun h => eq_take_succ hkx hky HTO.out h)
              have HLT := Lib.hid (show x[k] ≠ y[k] → x[k] < y[k] from fun hne => by
                rcases HFI.out with h | h
                · subst h; exact absurd rfl hne
                · exact earlier_at x y k hkx hky h HTO.out hne)
              obtain ⟨X, hX⟩ : ∃ X, X = x[k] := ⟨_, rfl⟩
              obtain ⟨Y, hY⟩ : ∃ Y, Y = y[k] := ⟨_, rfl⟩
              rw [← hX, ← hY] at HNX HLT
              rw [← hX] at gx2
              rw [← hY] at gy2
              clear gx gy hX hY
              subst hae
              subst hbe
              have j0 : (0 : Int) ≤ (k : Int) := by omega
              have j1 : (k : Int) < (ps.length : Int) := by omega
              have z0 := fun g : Later wr => g.some gx2
              have z1 := fun g : Later wr => g.some gy2
              by_cases hxy : X = Y
              · have HNX2 := Lib.hid (HNX.out hxy)
                subst hxy
                clear HNX HLT
                go_upto_region 19 with fail
                refine Later.region (by kernel_rfl) (by kernel_rfl) ?_
                repeat (first | go_big_quiet_skip | (go_big_quiet_want; go_big_quiet_op; first | go_big_quiet_on | (apply Exists.intro; refine ⟨fun g => ?_, ?_⟩; (focus (first | fail)); go_big_quiet_on)))
                refine wpQuiet_nil ?_
                intro gg
                have hkgg := Kept.drop hkk gg.ok
                go_wp2
                go_roundw
                case rel => exact ⟨k + 1, by omega, by go_num, HNX2.out, (rF.later gg.ok (Nat.le_refl _)), by (exact kpt)⟩
                case measure => simp [intOf]; omega
              · have hlt3 := HLT.out hxy
                have hne : ¬ ((Y : Int) = (X : Int)) := by omega
                have hlt4 : (X : Int) < (Y : Int) := by omega
                clear HNX HLT
                go_upto_region 19 with fail
                refine Later.region (by kernel_rfl) (by kernel_rfl) ?_
                repeat (first | go_big_quiet_skip | (go_big_quiet_want; go_big_quiet_op; first | go_big_quiet_on | (apply Exists.intro; refine ⟨fun g => ?_, ?_⟩; (focus (first | fail)); go_big_quiet_on)))
                refine wpQuiet_nil ?_
                intro gg
                have hkgg := Kept.drop hkk gg.ok
                go_upto_region 20 with fail
                refine at_world (S := fun V => V.cell? ⟨bs, os + k, none⟩ = some (.int .i64 (X : Int)) ∧ V.cell? ⟨bt, ot + k, none⟩ = some (.int .i64 (Y : Int)) ∧ Kept w V) ⟨z0 gg, z1 gg, by (exact kpt)⟩ ?_
                clear z0 z1 gx2 gy2 hkgg
                rintro V ⟨gx2, gy2, hkv⟩
                have z0 := fun g : Later V => g.some gx2
                have z1 := fun g : Later V => g.some gy2
                refine Later.region (by kernel_rfl) (by kernel_rfl) ?_
                repeat (first | go_big_quiet_skip | (go_big_quiet_want; go_big_quiet_op; first | go_big_quiet_on | (apply Exists.intro; refine ⟨fun g => ?_, ?_⟩; (focus (first | fail)); go_big_quiet_on)))
                refine wpQuiet_nil ?_
                intro gh
                have hkgh := Kept.drop hkv gh.ok
                go_wp2
                go_ret; exact ⟨rfl, by (exact kpt)⟩
            · obtain rfl : ps.length = k := by omega
              go_wp2
              go_ret; exact ⟨rfl, by (exact kpt)⟩
        · have hce := check_err he hc
          obtain ⟨E2, hE2⟩ : ∃ E, checkStowE (⟨xs, hs, ps, rs, ms⟩ : Fr) t = E := ⟨_, rfl⟩
          rw [hE2] at hce
          have HC := Lib.hid hE2
          clear hs0 he s1 s2 s3 hbo v1 v2 hv hc hE2 hxs hxl hil
          rcases hce with rfl | rfl | rfl | rfl
          all_goals
            go_enter Try.func16, Try.ntmps16
            go_upto_region 12 with (first | (go_at_call 48; (with_reducible refine (o_alive _).mono ?_); rintro e wA ⟨rfl, hbA⟩) | (go_at_call 49; (with_reducible refine (o_validN a0 c0 xs _ (h0.later (by (exact kpt)) (Nat.le_refl _)) hl0 hm0 a4 c4 ms (h4.later (by (exact kpt)) (Nat.le_refl _)) hl4 hm4 true HV.out).mono ?_); rintro e wV ⟨rfl, hbV⟩) | (go_at_call 44; (with_reducible refine (o_stow (⟨xs, hs, ps, rs, ms⟩ : Fr) ⟨a0, a1, a2, a3, a4, c0, c1, c2, c3, c4⟩ _ ⟨(h0.later (by (exact kpt)) (Nat.le_refl _)), (h1.later (by (exact kpt)) (Nat.le_refl _)), (h2.later (by (exact kpt)) (Nat.le_refl _)), (h3.later (by (exact kpt)) (Nat.le_refl _)), (h4.later (by (exact kpt)) (Nat.le_refl _)), hl0, hl1, hl2, hl3, hl4, hm0, hm1, hm2, hm3, hm4, hz⟩ ps.length 0 (ints x) HS1.out HS2.out HS3.out).mono ?_); rintro e wF ⟨aF, cF, rfl, hF, hF1, hF2, hbF⟩) | (go_at_call 46; (with_reducible refine (o_checkStow (⟨xs, hs, ps, rs, ms⟩ : Fr) ⟨a0, a1, a2, a3, a4, c0, c1, c2, c3, c4⟩ _ ⟨(h0.later (by (exact kpt)) (Nat.le_refl _)), (h1.later (by (exact kpt)) (Nat.le_refl _)), (h2.later (by (exact kpt)) (Nat.le_refl _)), (h3.later (by (exact kpt)) (Nat.le_refl _)), (h4.later (by (exact kpt)) (Nat.le_refl _)), hl0, hl1, hl2, hl3, hl4, hm0, hm1, hm2, hm3, hm4, hz⟩ a5 t.length c5 t rfl (h5.later (by (exact kpt)) (Nat.le_refl _)) hl5 hm5 _ HC.out).mono ?_); rintro e wC ⟨rfl, hbC⟩))
            refine at_world (S := fun W1 => Row icell 1 W1.heap.size W1 aF (ints x) ∧ Kept w W1) ⟨(hF.later (by (exact kpt)) (Nat.le_refl _)), by (exact kpt)⟩ ?_
            rintro W1 ⟨rF, hk⟩
            go_wp2_with (go_at_call 46; (with_reducible refine (o_checkStow (⟨xs, hs, ps, rs, ms⟩ : Fr) ⟨a0, a1, a2, a3, a4, c0, c1, c2, c3, c4⟩ _ ⟨(h0.later (by (exact kpt)) (Nat.le_refl _)), (h1.later (by (exact kpt)) (Nat.le_refl _)), (h2.later (by (exact kpt)) (Nat.le_refl _)), (h3.later (by (exact kpt)) (Nat.le_refl _)), (h4.later (by (exact kpt)) (Nat.le_refl _)), hl0, hl1, hl2, hl3, hl4, hm0, hm1, hm2, hm3, hm4, hz⟩ aF ps.length cF (ints x) HXL.out (rF.later (by (exact kpt)) (Nat.le_refl _)) hF1 hF2 0 HC2.out).mono ?_); rintro e wD ⟨rfl, hbD⟩)
            go_ret; exact ⟨rfl, by (exact kpt)⟩
    · obtain ⟨s1, s2, s3⟩ := bad_stow he t
      have hfe := fr_err (F := (⟨xs, hs, ps, rs, ms⟩ : Fr)) hbo
      obtain ⟨E, hE⟩ : ∃ E, frE (⟨xs, hs, ps, rs, ms⟩ : Fr) = E := ⟨_, rfl⟩
      rw [hE] at s1 s3 hfe he
      have HS1 := Lib.hid s1
      have HS2 := Lib.hid s2
      have HS3 := Lib.hid (show ([] : List Int).length = 0 from rfl)
      have HC := Lib.hid s3
      clear s1 s2 s3 hE hbo v1 v2 hv
      rcases hfe with rfl | rfl | rfl
      · exact absurd rfl he
      all_goals
        clear he
        go_enter Try.func16, Try.ntmps16
        go_wp2_with (first | (go_at_call 48; (with_reducible refine (o_alive _).mono ?_); rintro e wA ⟨rfl, hbA⟩) | (go_at_call 49; (with_reducible refine (o_validN a0 c0 xs _ (h0.later (by (exact kpt)) (Nat.le_refl _)) hl0 hm0 a4 c4 ms (h4.later (by (exact kpt)) (Nat.le_refl _)) hl4 hm4 true HV.out).mono ?_); rintro e wV ⟨rfl, hbV⟩) | (go_at_call 44; (with_reducible refine (o_stow (⟨xs, hs, ps, rs, ms⟩ : Fr) ⟨a0, a1, a2, a3, a4, c0, c1, c2, c3, c4⟩ _ ⟨(h0.later (by (exact kpt)) (Nat.le_refl _)), (h1.later (by (exact kpt)) (Nat.le_refl _)), (h2.later (by (exact kpt)) (Nat.le_refl _)), (h3.later (by (exact kpt)) (Nat.le_refl _)), (h4.later (by (exact kpt)) (Nat.le_refl _)), hl0, hl1, hl2, hl3, hl4, hm0, hm1, hm2, hm3, hm4, hz⟩ 0 _ [] HS1.out HS2.out HS3.out).mono ?_); rintro e wF ⟨aF, cF, rfl, hF, hF1, hF2, hbF⟩) | (go_at_call 46; (with_reducible refine (o_checkStow (⟨xs, hs, ps, rs, ms⟩ : Fr) ⟨a0, a1, a2, a3, a4, c0, c1, c2, c3, c4⟩ _ ⟨(h0.later (by (exact kpt)) (Nat.le_refl _)), (h1.later (by (exact kpt)) (Nat.le_refl _)), (h2.later (by (exact kpt)) (Nat.le_refl _)), (h3.later (by (exact kpt)) (Nat.le_refl _)), (h4.later (by (exact kpt)) (Nat.le_refl _)), hl0, hl1, hl2, hl3, hl4, hm0, hm1, hm2, hm3, hm4, hz⟩ a5 t.length c5 t rfl (h5.later (by (exact kpt)) (Nat.le_refl _)) hl5 hm5 _ HC.out).mono ?_); rintro e wC ⟨rfl, hbC⟩))
        go_ret; exact ⟨rfl, by (exact kpt)⟩
end Go.Proofs.Ytlloijkmpmfapaa

/-
  TrimStowed, the statement: for every input the call returns true and leaves the input alone.
-/
namespace Go.Proofs.Ytlloijkmpmfapaa.trimStowed
open Go.ChangeShapes Go.WideShapes Go.ChangeAt Go.RowKit Bal Bal.Trim
open Go.ChangeMaps (open_string shut_string)
set_option linter.unusedVariables false

theorem own : ownKnob Try.prog.godebug = none := by kernel_rfl
theorem laidOut : laidOutB Try.prog = true := by kernel_rfl

set_option maxRecDepth 100000 in
theorem lifted (os : Os) (started : os.Started) (H : Type) (enc : TypeId × Value → H) :
    ReturnsInHanded {} Try.checked os 16 .any (Rows.trimStowedSpec.pre6 enc Try.prog Try.f16 Rows.trimStowedRow.domain false) (Rows.trimStowedSpec.post enc Try.prog Try.f16 false true false false) := by
  refine returnsInHanded_of_change (C := Try.checked) own started (by kernel_rfl) Try.func16
    (ChangeSpec.witness6 (enc := enc) (C := Try.checked) false ⟨#[], #[.slice none 0 0, .slice none 0 0, .slice none 0 0, .slice none 0 0, .slice none 0 0, .slice none 0 0], []⟩ 8 (by kernel_rfl) (by kernel_rfl) (by kernel_rfl) (by kernel_rfl)) ?_
  intro W base args ds gs before hval0 hW hcnd _
  have hval : ∀ (j : Nat) t v, Try.f16.params[j]? = some t → args[j]? = some v → Value.okWide Try.prog W .any base t v := hval0
  have hW' := hW
  obtain ⟨p, q, hA0, hV, rfl, hfz, hnd⟩ := hW
  have hA : DataW.TrodAll enc Try.prog W 0 (fun _ => true) true Try.f16.params.toList args.toList ds p := hA0
  rw [Try.params16] at hA hval
  obtain ⟨v0, vs0, d0, ds0, p0, q0, hargs, rfl, rfl, h0, r0⟩ := trodAll_cons hA
  obtain ⟨v1, vs1, d1, ds1, p1, q1, rfl, rfl, rfl, h1, r1⟩ := trodAll_cons r0
  obtain ⟨v2, vs2, d2, ds2, p2, q2, rfl, rfl, rfl, h2, r2⟩ := trodAll_cons r1
  obtain ⟨v3, vs3, d3, ds3, p3, q3, rfl, rfl, rfl, h3, r3⟩ := trodAll_cons r2
  obtain ⟨v4, vs4, d4, ds4, p4, q4, rfl, rfl, rfl, h4, r4⟩ := trodAll_cons r3
  obtain ⟨v5, vs5, d5, ds5, p5, q5, rfl, rfl, rfl, h5, r5⟩ := trodAll_cons r4
  obtain ⟨rfl, rfl, rfl⟩ := trodAll_nil r5
  obtain rfl : args = #[v0, v1, v2, v3, v4, v5] := by cases args; simp_all
  obtain ⟨rfl, rfl⟩ := trodVars_none hV
  have k0 := h0
  have lt0 : ∀ x ∈ p0, x.block < W.heap.size := by obtain ⟨m, hm⟩ := k0; exact DataW.trod_lt m _ _ _ hm
  obtain ⟨a0, len0, cap0, rfl⟩ := okWide_slice Try.underlying22 (hval 0 22 v0 rfl rfl)
  obtain ⟨fuel0, hf0⟩ := h0
  obtain ⟨b0, c0, xs0, e0, hl0, hm0, row0, wf0, z0⟩ := open_typed (n := 4) (fun _ h => Load.of_leaves h) Try.underlying22 (by kernel_rfl) (by kernel_rfl) (by decide) hf0
  simp [Value.cells] at e0
  obtain ⟨rfl, rfl, rfl⟩ := e0
  have k1 := h1
  have lt1 : ∀ x ∈ p1, x.block < W.heap.size := by obtain ⟨m, hm⟩ := k1; exact DataW.trod_lt m _ _ _ hm
  obtain ⟨a1, len1, cap1, rfl⟩ := okWide_slice Try.underlying73 (hval 1 73 v1 rfl rfl)
  obtain ⟨fuel1, hf1⟩ := h1
  obtain ⟨b1, c1, xs1, e1, hl1, hm1, row1, wf1, z1⟩ := open_typed (n := 4) (fun _ h => Hold.of_leaves h) Try.underlying73 (by kernel_rfl) (by kernel_rfl) (by decide) hf1
  simp [Value.cells] at e1
  obtain ⟨rfl, rfl, rfl⟩ := e1
  have k2 := h2
  have lt2 : ∀ x ∈ p2, x.block < W.heap.size := by obtain ⟨m, hm⟩ := k2; exact DataW.trod_lt m _ _ _ hm
  obtain ⟨a2, len2, cap2, rfl⟩ := okWide_slice Try.underlying74 (hval 2 74 v2 rfl rfl)
  obtain ⟨fuel2, hf2⟩ := h2
  obtain ⟨b2, c2, xs2, e2, hl2, hm2, row2, wf2, z2⟩ := open_typed (n := 4) (fun _ h => Parcel.of_leaves h) Try.underlying74 (by kernel_rfl) (by kernel_rfl) (by decide) hf2
  simp [Value.cells] at e2
  obtain ⟨rfl, rfl, rfl⟩ := e2
  have k3 := h3
  have lt3 : ∀ x ∈ p3, x.block < W.heap.size := by obtain ⟨m, hm⟩ := k3; exact DataW.trod_lt m _ _ _ hm
  obtain ⟨a3, len3, cap3, rfl⟩ := okWide_slice Try.underlying75 (hval 3 75 v3 rfl rfl)
  obtain ⟨fuel3, hf3⟩ := h3
  obtain ⟨b3, c3, xs3, e3, hl3, hm3, row3, wf3, z3⟩ := open_typed (n := 4) (fun _ h => Rule.of_leaves h) Try.underlying75 (by kernel_rfl) (by kernel_rfl) (by decide) hf3
  simp [Value.cells] at e3
  obtain ⟨rfl, rfl, rfl⟩ := e3
  have k4 := h4
  have lt4 : ∀ x ∈ p4, x.block < W.heap.size := by obtain ⟨m, hm⟩ := k4; exact DataW.trod_lt m _ _ _ hm
  obtain ⟨a4, len4, cap4, rfl⟩ := okWide_slice Try.underlying23 (hval 4 23 v4 rfl rfl)
  obtain ⟨fuel4, hf4⟩ := h4
  obtain ⟨b4, c4, xs4, e4, hl4, hm4, row4, wf4, z4⟩ := open_typed (n := 4) (fun _ h => Limit.of_leaves h) Try.underlying23 (by kernel_rfl) (by kernel_rfl) (by decide) hf4
  simp [Value.cells] at e4
  obtain ⟨rfl, rfl, rfl⟩ := e4
  have k5 := h5
  have lt5 : ∀ x ∈ p5, x.block < W.heap.size := by obtain ⟨m, hm⟩ := k5; exact DataW.trod_lt m _ _ _ hm
  obtain ⟨a5, len5, cap5, rfl⟩ := okWide_slice Try.underlying63 (hval 5 63 v5 rfl rfl)
  obtain ⟨fuel5, hf5⟩ := h5
  obtain ⟨b5, c5, xs5, e5, hl5, hm5, row5, wf5, z5⟩ := open_typed (n := 4) (fun _ h => int_of_leaves h) Try.underlying63 (by kernel_rfl) (by kernel_rfl) (by decide) hf5
  simp [Value.cells] at e5
  obtain ⟨rfl, rfl, rfl⟩ := e5
  clear hA0 hval0
  refine (law_TrimStowed _ _ xs0 _ _ xs1 _ _ xs2 _ _ xs3 _ _ xs4 _ _ xs5 W row0 hl0 hm0 row1 hl1 hm1 row2 hl2 hm2 row3 hl3 hm3 row4 hl4 hm4 row5 hl5 hm5 z0).mono fun e W' ⟨he, bel⟩ => ?_
  subst he
  exact ⟨_, rfl, _, _, _, [], _, [], hW', trodAll_mk1 (shut_bool Try.underlying4 _), (trodAll_cons_mk (Below.trod laidOut (by kernel_rfl) (of_decide_eq_true (by kernel_rfl)) k0 bel lt0) (trodAll_cons_mk (Below.trod laidOut (by kernel_rfl) (of_decide_eq_true (by kernel_rfl)) k1 bel lt1) (trodAll_cons_mk (Below.trod laidOut (by kernel_rfl) (of_decide_eq_true (by kernel_rfl)) k2 bel lt2) (trodAll_cons_mk (Below.trod laidOut (by kernel_rfl) (of_decide_eq_true (by kernel_rfl)) k3 bel lt3) (trodAll_cons_mk (Below.trod laidOut (by kernel_rfl) (of_decide_eq_true (by kernel_rfl)) k4 bel lt4) (trodAll_cons_mk (Below.trod laidOut (by kernel_rfl) (of_decide_eq_true (by kernel_rfl)) k5 bel lt5) trodAll_mk0)))))), rfl, bel.frame _, fun h => by cases h⟩

theorem joined : joinedFacts Try.prog 16 Try.f16 Rows.trimStowedSpec Rows.trimStowedRow = true := by
  unfold joinedFacts
  rw [mayEnter_is, liftsFinal_is, make_is]
  kernel_rfl
theorem over : Rows.trimStowedRow.holds Try.pinned (OpenSpec.ofChange Rows.trimStowedSpec) :=
  OpenClaim.holds_of_wide 16 Try.f16 rfl rfl rfl rfl rfl rfl rfl ⟨rfl, rfl, rfl, rfl, rfl⟩ rfl rfl rfl rfl rfl (by kernel_rfl) Try.func16 joined
    (of_decide_eq_true (by kernel_rfl)) (by unfold Func.isWrapper; first | (rw [if_pos (by decide +kernel)]; kernel_rfl) | (rw [if_neg (by decide +kernel)]; exact ⟨rfl, rfl⟩))
    (fun os started H enc _ => lifted os started H enc)
end Go.Proofs.Ytlloijkmpmfapaa.trimStowed

namespace Go.Proofs.Ytlloijkmpmfapaa
theorem trimStowed_holds : Rows.TrimStowedSaid := trimStowed.over
#print axioms trimStowed_holds
end Go.Proofs.Ytlloijkmpmfapaa
