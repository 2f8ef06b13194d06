/-
  Heaviness and moment, in the program and in the reference.
-/
import Derived.Test.YtlloijkmpmfapaaTrimA
import Derived.Test.YtlloijkmpmfapaaTrimPlain2
import Derived.Test.YtlloijkmpmfapaaLater
namespace Go.Proofs.Ytlloijkmpmfapaa
open Go.RowKit Bal Bal.Trim
set_option linter.unusedVariables false
set_option linter.unusedSimpArgs false
set_option maxHeartbeats 400000

theorem s_min (a : Option Addr) (n cap : Nat) (xs : List Int) (w : World) (hn : xs.length = n) {B : Nat} (hx : Row icell 1 B w a xs) (h0 : 0 < n) (h1 : n ≤ 1000000) :
    Calls Try.prog 108 #[.slice a n cap] w fun e w' => e = .returned (.int .i64 (lmin xs)) ∧ w = w' := by
  subst hn
  obtain ⟨b, off, rfl, hb, c0⟩ := int_row hx 0 h0
  have c00 : w.cell? ⟨b, off, none⟩ = some (.int .i64 xs[0]) := by simpa using c0
  clear c0
  have hlt1 : (0 : Int) < xs.length := by omega
  go_enter Try.func108, Try.ntmps108
  go_wp2
  go_loop [3, 4] (fun m i => ∃ k : Nat, 0 < k ∧ k ≤ xs.length ∧ i = .int .i64 k ∧ m = .int .i64 (lmin (xs.take k))) (fun _ i => xs.length - (intOf i).toNat)
  case atStart => exact ⟨1, by omega, by omega, rfl, by cases xs with | nil => simp at h0 | cons x xs => simp [lmin]⟩
  case round =>
    obtain ⟨k, hk0, hk, rfl, rfl⟩ := hrel
    by_cases hlt : k < xs.length
    · obtain ⟨b', off', hab, _, ck⟩ := int_row hx k hlt
      simp only [Option.some.injEq, Addr.mk.injEq, and_true] at hab
      obtain ⟨rfl, rfl⟩ := hab
      have HT := Lib.hid (lmin_take hk0 hlt)
      go_wp2
      all_goals
        go_round
        case rel => exact ⟨k + 1, by omega, by omega, by go_num, by rw [HT.out, ite_min]⟩
        case measure => simp [intOf]; omega
    · go_wp2
      go_ret
      exact ⟨ret_int (by rw [List.take_of_length_le (by omega)]), rfl⟩

theorem s_max (a : Option Addr) (n cap : Nat) (xs : List Int) (w : World) (hn : xs.length = n) {B : Nat} (hx : Row icell 1 B w a xs) (h0 : 0 < n) (h1 : n ≤ 1000000) :
    Calls Try.prog 109 #[.slice a n cap] w fun e w' => e = .returned (.int .i64 (lmax xs)) ∧ w = w' := by
  subst hn
  obtain ⟨b, off, rfl, hb, c0⟩ := int_row hx 0 h0
  have c00 : w.cell? ⟨b, off, none⟩ = some (.int .i64 xs[0]) := by simpa using c0
  clear c0
  have hlt1 : (0 : Int) < xs.length := by omega
  go_enter Try.func109, Try.ntmps109
  go_wp2
  go_loop [3, 4] (fun m i => ∃ k : Nat, 0 < k ∧ k ≤ xs.length ∧ i = .int .i64 k ∧ m = .int .i64 (lmax (xs.take k))) (fun _ i => xs.length - (intOf i).toNat)
  case atStart => exact ⟨1, by omega, by omega, rfl, by cases xs with | nil => simp at h0 | cons x xs => simp [lmax]⟩
  case round =>
    obtain ⟨k, hk0, hk, rfl, rfl⟩ := hrel
    by_cases hlt : k < xs.length
    · obtain ⟨b', off', hab, _, ck⟩ := int_row hx k hlt
      simp only [Option.some.injEq, Addr.mk.injEq, and_true] at hab
      obtain ⟨rfl, rfl⟩ := hab
      have HT := Lib.hid (lmax_take hk0 hlt)
      go_wp2
      all_goals
        go_round
        case rel => exact ⟨k + 1, by omega, by omega, by go_num, by rw [HT.out, ite_max]⟩
        case measure => simp [intOf]; omega
    · go_wp2
      go_ret
      exact ⟨ret_int (by rw [List.take_of_length_le (by omega)]), rfl⟩

theorem f_bal1 (x : Load) (w : World) :
    Calls Try.prog 79 #[.agg #[.int .i64 x.alo, .int .i64 x.ahi, .int .i64 x.wlo, .int .i64 x.whi]] w fun e w' => e = .returned (.agg #[.int .i64 (x.wlo), .int .i64 (x.whi)]) ∧ Kept w w' := by
  go_enter Try.func79, Try.ntmps79
  go_wp2
  exact bodyPost_ret (v := .agg #[.int .i64 (x.wlo), .int .i64 (x.whi)]) (by simp [results, Try.results79, go_sem]) rfl ⟨rfl, by (repeat (first | with_reducible exact Below.refl _ _ | with_reducible assumption | with_reducible refine Kept.drop ?_ (by with_reducible assumption) | with_reducible refine Kept.alloc ?_ _ | ((with_reducible refine Below.setCell ?_ ?_ _); rotate_left 1; (focus (first | exact Nat.le_refl _ | (simp; done) | (simp; omega) | exact Below.size (by with_reducible assumption) | (refine Kept.size ?_; (repeat (first | with_reducible exact Below.refl _ _ | with_reducible assumption | with_reducible refine Kept.drop ?_ (by with_reducible assumption) | with_reducible refine Kept.alloc ?_ _ | with_reducible refine Below.drew ?_)))))) | with_reducible refine Below.drew ?_))⟩

theorem s_min4 (p q r s : Int) (t : TypeId) (W : World) (n : Nat) (hn : n = W.heap.size) :
    Calls Try.prog 108 #[.slice (some ⟨n, 0, none⟩) 4 4] (W.alloc (.cells #[.int .i64 p, .int .i64 q, .int .i64 r, .int .i64 s] t))
      fun e w' => e = .returned (.int .i64 (min (min (min p q) r) s)) ∧ W.alloc (.cells #[.int .i64 p, .int .i64 q, .int .i64 r, .int .i64 s] t) = w' := by
  subst hn
  exact s_min _ 4 4 [p, q, r, s] _ rfl (Row.fresh (enc := icell) (fun _ => rfl) rfl) (by decide) (by decide)

theorem s_max4 (p q r s : Int) (t : TypeId) (W : World) (n : Nat) (hn : n = W.heap.size) :
    Calls Try.prog 109 #[.slice (some ⟨n, 0, none⟩) 4 4] (W.alloc (.cells #[.int .i64 p, .int .i64 q, .int .i64 r, .int .i64 s] t))
      fun e w' => e = .returned (.int .i64 (max (max (max p q) r) s)) ∧ W.alloc (.cells #[.int .i64 p, .int .i64 q, .int .i64 r, .int .i64 s] t) = w' := by
  subst hn
  exact s_max _ 4 4 [p, q, r, s] _ rfl (Row.fresh (enc := icell) (fun _ => rfl) rfl) (by decide) (by decide)

theorem f_times (a b c d : Int) (w : World) (h1 : -40000 ≤ a) (h2 : a ≤ 40000) (h3 : -40000 ≤ b) (h4 : b ≤ 40000) (h5 : -1073741824 ≤ c) (h6 : c ≤ 1073741824) (h7 : -1073741824 ≤ d) (h8 : d ≤ 1073741824) :
    Calls Try.prog 81 #[.agg #[.int .i64 (a), .int .i64 (b)], .agg #[.int .i64 (c), .int .i64 (d)]] w fun e w' => e = .returned (.agg #[.int .i64 (tLo a b c d), .int .i64 (tHi a b c d)]) ∧ Kept w w' := by
  obtain ⟨p1, p2⟩ := mul_bd (A := 40000) (B := 1073741824) h1 h2 h5 h6
  obtain ⟨p3, p4⟩ := mul_bd (A := 40000) (B := 1073741824) h1 h2 h7 h8
  obtain ⟨p5, p6⟩ := mul_bd (A := 40000) (B := 1073741824) h3 h4 h5 h6
  obtain ⟨p7, p8⟩ := mul_bd (A := 40000) (B := 1073741824) h3 h4 h7 h8
  go_enter Try.func81, Try.ntmps81
  go_wp2_with (first | (go_at_call 108; refine (s_min4 _ _ _ _ _ _ _ (by simp)).mono ?_; rintro e w1 ⟨rfl, rfl⟩) | (go_at_call 109; refine (s_max4 _ _ _ _ _ _ _ (by simp)).mono ?_; rintro e w1 ⟨rfl, rfl⟩))
  exact bodyPost_ret (v := .agg #[.int .i64 (tLo a b c d), .int .i64 (tHi a b c d)]) (by simp [results, Try.results81, go_sem, tLo, tHi]) rfl ⟨rfl, by (repeat (first | with_reducible exact Below.refl _ _ | with_reducible assumption | with_reducible refine Kept.drop ?_ (by with_reducible assumption) | with_reducible refine Kept.alloc ?_ _ | ((with_reducible refine Below.setCell ?_ ?_ _); rotate_left 1; (focus (first | exact Nat.le_refl _ | (simp; done) | (simp; omega) | exact Below.size (by with_reducible assumption) | (refine Kept.size ?_; (repeat (first | with_reducible exact Below.refl _ _ | with_reducible assumption | with_reducible refine Kept.drop ?_ (by with_reducible assumption) | with_reducible refine Kept.alloc ?_ _ | with_reducible refine Below.drew ?_)))))) | with_reducible refine Below.drew ?_))⟩

theorem f_bal2 (x : Load) (w : World) (hv : loadB x = true) :
    Calls Try.prog 80 #[.agg #[.int .i64 x.alo, .int .i64 x.ahi, .int .i64 x.wlo, .int .i64 x.whi]] w fun e w' => e = .returned (.agg #[.int .i64 (mLo x), .int .i64 (mHi x)]) ∧ Kept w w' := by
  obtain ⟨⟨h1, h2, h3, h4⟩, ⟨h5, h6, h7, h8⟩, _⟩ := loadB_bd hv
  clear hv
  go_enter Try.func80, Try.ntmps80
  go_wp2_with (go_at_call 81; (with_reducible refine (f_times _ _ _ _ _ (by omega) (by omega) (by omega) (by omega) (by omega) (by omega) (by omega) (by omega)).mono ?_); rintro e w1 ⟨rfl, hb1⟩; obtain ⟨hc1, hf1, hl1⟩ := bcell3 hb1)
  exact bodyPost_ret (v := .agg #[.int .i64 (mLo x), .int .i64 (mHi x)]) (by simp [results, Try.results80, go_sem, hc1, hf1, mLo, mHi]) rfl ⟨rfl, by (repeat (first | with_reducible exact Below.refl _ _ | with_reducible assumption | with_reducible refine Kept.drop ?_ (by with_reducible assumption) | with_reducible refine Kept.alloc ?_ _ | ((with_reducible refine Below.setCell ?_ ?_ _); rotate_left 1; (focus (first | exact Nat.le_refl _ | (simp; done) | (simp; omega) | exact Below.size (by with_reducible assumption) | (refine Kept.size ?_; (repeat (first | with_reducible exact Below.refl _ _ | with_reducible assumption | with_reducible refine Kept.drop ?_ (by with_reducible assumption) | with_reducible refine Kept.alloc ?_ _ | with_reducible refine Below.drew ?_)))))) | with_reducible refine Below.drew ?_))⟩

/-- added has passed k loads: the sums so far lie in the second block of its own -/
def Added (gLo gHi : Load → Int) (xs : List Load) (w : World) (i : Value) (wr : World) : Prop :=
  ∃ k : Nat, k ≤ xs.length ∧ i = .int .i64 k ∧ Blk wr (w.heap.size + 1) #[.int .i64 (sumBy gLo (xs.take k)), .int .i64 (sumBy gHi (xs.take k))] 49 ∧ Blk wr w.heap.size #[.int .i64 0, .int .i64 0] 49 ∧ Kept w wr

theorem f_added_bal1 (a : Option Addr) (cap : Nat) (xs : List Load) (w : World) (hx : Row Load.cells 4 w.heap.size w a xs) (hc : xs.length ≤ cap) (hM : cap ≤ maxLen) (hn : xs.length ≤ 40) (hv : ∀ x ∈ xs, loadB x = true)
    (hg : ∀ x, loadB x = true → (-50000000000000 ≤ Load.wlo x ∧ Load.wlo x ≤ 50000000000000) ∧ (-50000000000000 ≤ Load.whi x ∧ Load.whi x ≤ 50000000000000)) :
    Calls Try.prog 78 #[.slice a xs.length cap, .func (.func 79) #[] #[]] w fun e w' => e = .returned (.agg #[.int .i64 (sumBy (Load.wlo) xs), .int .i64 (sumBy (Load.whi) xs)]) ∧ Kept w w' := by
  unfold maxLen at hM
  have bLo := fun k => sumBy_take_bd (Load.wlo) 50000000000000 2000000000000000 xs 40 hn (by omega) (by omega) (fun x h => (hg x (hv x h)).1) k
  have bHi := fun k => sumBy_take_bd (Load.whi) 50000000000000 2000000000000000 xs 40 hn (by omega) (by omega) (fun x h => (hg x (hv x h)).2) k
  have HLo := Lib.hid bLo
  have HHi := Lib.hid bHi
  clear bLo bHi
  have HG := Lib.hid hg
  have HV := Lib.hid hv
  clear hg hv
  go_enter Try.func78, Try.ntmps78
  go_wp2
  go_loopw [11] (fun i wr => Added (Load.wlo) (Load.whi) xs w i wr) (fun i _ => xs.length - (intOf i).toNat)
  case atStart => exact ⟨0, Nat.zero_le _, rfl, by simpa using Blk.new (w := w.alloc (.cells #[.int .i64 0, .int .i64 0] 49)), Blk.alloc Blk.new _, by (repeat (first | with_reducible exact Below.refl _ _ | with_reducible assumption | with_reducible refine Kept.drop ?_ (by with_reducible assumption) | with_reducible refine Kept.alloc ?_ _ | ((with_reducible refine Below.setCell ?_ ?_ _); rotate_left 1; (focus (first | exact Nat.le_refl _ | (simp; done) | (simp; omega) | exact Below.size (by with_reducible assumption) | (refine Kept.size ?_; (repeat (first | with_reducible exact Below.refl _ _ | with_reducible assumption | with_reducible refine Kept.drop ?_ (by with_reducible assumption) | with_reducible refine Kept.alloc ?_ _ | with_reducible refine Below.drew ?_)))))) | with_reducible refine Below.drew ?_))⟩
  case round =>
    obtain ⟨k, hk, rfl, q1, q0, hbel⟩ := hrel
    have t0 := q1.cell 0
    have t1 := q1.cell 1
    have t2 := q1.free 0
    have t3 := q1.free 1
    have t4 := q0.cell 0
    have t5 := q0.cell 1
    have t6 := q0.free 0
    have t7 := q0.free 1
    have l1 := q1.lt
    have l0 := q0.lt
    simp at t0 t1 t4 t5
    by_cases hlt : k < xs.length
    · obtain ⟨b, off, rfl, hb, h0, h1, h2, h3⟩ := Load.row (hx.later hbel (Nat.le_refl _)) k hlt
      obtain ⟨u1, u2⟩ := HLo.out k
      obtain ⟨u3, u4⟩ := HHi.out k
      obtain ⟨⟨u5, u6⟩, u7, u8⟩ := HG.out xs[k] (HV.out _ (List.getElem_mem hlt))
      go_wp2_with (go_at_call 79; refine (f_bal1 xs[k] _).mono ?_; rintro e w1 ⟨rfl, hb1⟩; have q1' := (q1.alloc _).keep hb1; have q0' := (q0.alloc _).keep hb1; have t0' := q1'.cell 0; have t1' := q1'.cell 1; have t2' := q1'.free 0; have t3' := q1'.free 1; have l1' := q1'.lt; simp at t0' t1')
      go_round
      case rel =>
        refine ⟨k + 1, by omega, by go_num, ?_, ?_, by (repeat (first | with_reducible exact Below.refl _ _ | with_reducible assumption | with_reducible refine Kept.drop ?_ (by with_reducible assumption) | with_reducible refine Kept.alloc ?_ _ | ((with_reducible refine Below.setCell ?_ ?_ _); rotate_left 1; (focus (first | exact Nat.le_refl _ | (simp; done) | (simp; omega) | exact Below.size (by with_reducible assumption) | (refine Kept.size ?_; (repeat (first | with_reducible exact Below.refl _ _ | with_reducible assumption | with_reducible refine Kept.drop ?_ (by with_reducible assumption) | with_reducible refine Kept.alloc ?_ _ | with_reducible refine Below.drew ?_)))))) | with_reducible refine Below.drew ?_))⟩
        · rw [sumBy_take _ _ _ hlt, sumBy_take _ _ _ hlt]
          exact Blk.alloc (by simpa using (q1'.set 0 (.int .i64 (sumBy (Load.wlo) (xs.take k) + Load.wlo xs[k]))).set 1 (.int .i64 (sumBy (Load.whi) (xs.take k) + Load.whi xs[k]))) _
        · exact Blk.alloc ((q0'.other (by simp) _).other (by simp) _) _
      case measure => simp [intOf]; omega
    · have hk' : k = xs.length := by omega
      subst hk'
      rw [List.take_length] at t0 t1
      go_wp2
      exact bodyPost_ret (v := .agg #[.int .i64 (sumBy (Load.wlo) xs), .int .i64 (sumBy (Load.whi) xs)]) (by simp [results, Try.results78, go_sem, t4, t5, t6, t7]) rfl ⟨rfl, by (repeat (first | with_reducible exact Below.refl _ _ | with_reducible assumption | with_reducible refine Kept.drop ?_ (by with_reducible assumption) | with_reducible refine Kept.alloc ?_ _ | ((with_reducible refine Below.setCell ?_ ?_ _); rotate_left 1; (focus (first | exact Nat.le_refl _ | (simp; done) | (simp; omega) | exact Below.size (by with_reducible assumption) | (refine Kept.size ?_; (repeat (first | with_reducible exact Below.refl _ _ | with_reducible assumption | with_reducible refine Kept.drop ?_ (by with_reducible assumption) | with_reducible refine Kept.alloc ?_ _ | with_reducible refine Below.drew ?_)))))) | with_reducible refine Below.drew ?_))⟩

theorem f_added_bal2 (a : Option Addr) (cap : Nat) (xs : List Load) (w : World) (hx : Row Load.cells 4 w.heap.size w a xs) (hc : xs.length ≤ cap) (hM : cap ≤ maxLen) (hn : xs.length ≤ 40) (hv : ∀ x ∈ xs, loadB x = true)
    (hg : ∀ x, loadB x = true → (-50000000000000 ≤ mLo x ∧ mLo x ≤ 50000000000000) ∧ (-50000000000000 ≤ mHi x ∧ mHi x ≤ 50000000000000)) :
    Calls Try.prog 78 #[.slice a xs.length cap, .func (.func 80) #[] #[]] w fun e w' => e = .returned (.agg #[.int .i64 (sumBy (mLo) xs), .int .i64 (sumBy (mHi) xs)]) ∧ Kept w w' := by
  unfold maxLen at hM
  have bLo := fun k => sumBy_take_bd (mLo) 50000000000000 2000000000000000 xs 40 hn (by omega) (by omega) (fun x h => (hg x (hv x h)).1) k
  have bHi := fun k => sumBy_take_bd (mHi) 50000000000000 2000000000000000 xs 40 hn (by omega) (by omega) (fun x h => (hg x (hv x h)).2) k
  have HLo := Lib.hid bLo
  have HHi := Lib.hid bHi
  clear bLo bHi
  have HG := Lib.hid hg
  have HV := Lib.hid hv
  clear hg hv
  go_enter Try.func78, Try.ntmps78
  go_wp2
  go_loopw [11] (fun i wr => Added (mLo) (mHi) xs w i wr) (fun i _ => xs.length - (intOf i).toNat)
  case atStart => exact ⟨0, Nat.zero_le _, rfl, by simpa using Blk.new (w := w.alloc (.cells #[.int .i64 0, .int .i64 0] 49)), Blk.alloc Blk.new _, by (repeat (first | with_reducible exact Below.refl _ _ | with_reducible assumption | with_reducible refine Kept.drop ?_ (by with_reducible assumption) | with_reducible refine Kept.alloc ?_ _ | ((with_reducible refine Below.setCell ?_ ?_ _); rotate_left 1; (focus (first | exact Nat.le_refl _ | (simp; done) | (simp; omega) | exact Below.size (by with_reducible assumption) | (refine Kept.size ?_; (repeat (first | with_reducible exact Below.refl _ _ | with_reducible assumption | with_reducible refine Kept.drop ?_ (by with_reducible assumption) | with_reducible refine Kept.alloc ?_ _ | with_reducible refine Below.drew ?_)))))) | with_reducible refine Below.drew ?_))⟩
  case round =>
    obtain ⟨k, hk, rfl, q1, q0, hbel⟩ := hrel
    have t0 := q1.cell 0
    have t1 := q1.cell 1
    have t2 := q1.free 0
    have t3 := q1.free 1
    have t4 := q0.cell 0
    have t5 := q0.cell 1
    have t6 := q0.free 0
    have t7 := q0.free 1
    have l1 := q1.lt
    have l0 := q0.lt
    simp at t0 t1 t4 t5
    by_cases hlt : k < xs.length
    · obtain ⟨b, off, rfl, hb, h0, h1, h2, h3⟩ := Load.row (hx.later hbel (Nat.le_refl _)) k hlt
      obtain ⟨u1, u2⟩ := HLo.out k
      obtain ⟨u3, u4⟩ := HHi.out k
      obtain ⟨⟨u5, u6⟩, u7, u8⟩ := HG.out xs[k] (HV.out _ (List.getElem_mem hlt))
      go_wp2_with (go_at_call 80; refine (f_bal2 xs[k] _ (HV.out _ (List.getElem_mem hlt))).mono ?_; rintro e w1 ⟨rfl, hb1⟩; have q1' := (q1.alloc _).keep hb1; have q0' := (q0.alloc _).keep hb1; have t0' := q1'.cell 0; have t1' := q1'.cell 1; have t2' := q1'.free 0; have t3' := q1'.free 1; have l1' := q1'.lt; simp at t0' t1')
      go_round
      case rel =>
        refine ⟨k + 1, by omega, by go_num, ?_, ?_, by (repeat (first | with_reducible exact Below.refl _ _ | with_reducible assumption | with_reducible refine Kept.drop ?_ (by with_reducible assumption) | with_reducible refine Kept.alloc ?_ _ | ((with_reducible refine Below.setCell ?_ ?_ _); rotate_left 1; (focus (first | exact Nat.le_refl _ | (simp; done) | (simp; omega) | exact Below.size (by with_reducible assumption) | (refine Kept.size ?_; (repeat (first | with_reducible exact Below.refl _ _ | with_reducible assumption | with_reducible refine Kept.drop ?_ (by with_reducible assumption) | with_reducible refine Kept.alloc ?_ _ | with_reducible refine Below.drew ?_)))))) | with_reducible refine Below.drew ?_))⟩
        · rw [sumBy_take _ _ _ hlt, sumBy_take _ _ _ hlt]
          exact Blk.alloc (by simpa using (q1'.set 0 (.int .i64 (sumBy (mLo) (xs.take k) + mLo xs[k]))).set 1 (.int .i64 (sumBy (mHi) (xs.take k) + mHi xs[k]))) _
        · exact Blk.alloc ((q0'.other (by simp) _).other (by simp) _) _
      case measure => simp [intOf]; omega
    · have hk' : k = xs.length := by omega
      subst hk'
      rw [List.take_length] at t0 t1
      go_wp2
      exact bodyPost_ret (v := .agg #[.int .i64 (sumBy (mLo) xs), .int .i64 (sumBy (mHi) xs)]) (by simp [results, Try.results78, go_sem, t4, t5, t6, t7]) rfl ⟨rfl, by (repeat (first | with_reducible exact Below.refl _ _ | with_reducible assumption | with_reducible refine Kept.drop ?_ (by with_reducible assumption) | with_reducible refine Kept.alloc ?_ _ | ((with_reducible refine Below.setCell ?_ ?_ _); rotate_left 1; (focus (first | exact Nat.le_refl _ | (simp; done) | (simp; omega) | exact Below.size (by with_reducible assumption) | (refine Kept.size ?_; (repeat (first | with_reducible exact Below.refl _ _ | with_reducible assumption | with_reducible refine Kept.drop ?_ (by with_reducible assumption) | with_reducible refine Kept.alloc ?_ _ | with_reducible refine Below.drew ?_)))))) | with_reducible refine Below.drew ?_))⟩

theorem bal1_bd (x : Load) (h : loadB x = true) : (-50000000000000 ≤ x.wlo ∧ x.wlo ≤ 50000000000000) ∧ (-50000000000000 ≤ x.whi ∧ x.whi ≤ 50000000000000) := by
  have := loadB_bd h
  omega
theorem bal2_bd (x : Load) (h : loadB x = true) : (-50000000000000 ≤ mLo x ∧ mLo x ≤ 50000000000000) ∧ (-50000000000000 ≤ mHi x ∧ mHi x ≤ 50000000000000) := by
  have h1 := loadB_bd h
  have h2 := t_bd (A := 20000) (B := 1073741824) (a := x.alo) (b := x.ahi) (c := x.wlo) (d := x.whi) (by omega) (by omega)
  unfold mLo mHi
  omega

theorem f_Balance (a : Option Addr) (cap : Nat) (xs : List Load) (w : World) (hx : Row Load.cells 4 w.heap.size w a xs) (hc : xs.length ≤ cap) (hM : cap ≤ maxLen) :
    Calls Try.prog 31 #[.slice a xs.length cap] w fun e w' => e = .returned (.tuple #[.agg #[.int .i64 (ifOk (checkLoads xs) (sumBy Load.wlo xs)), .int .i64 (ifOk (checkLoads xs) (sumBy Load.whi xs))], .agg #[.int .i64 (ifOk (checkLoads xs) (sumBy mLo xs)), .int .i64 (ifOk (checkLoads xs) (sumBy mHi xs))], .int .i64 (checkLoads xs)]) ∧ Kept w w' := by
  by_cases he : checkLoads xs = 0
  · obtain ⟨hn, hv⟩ := checkLoads_ok he
    have HE := Lib.hid he
    have hb : (checkLoads xs != 0) = false := by simp [he]
    have HV := Lib.hid hv
    clear hv he
    go_enter Try.func31, Try.ntmps31
    go_wp2_with (first | (go_at_call 19; refine (f_CheckLoads _ _ _ _ (hx.later (by (repeat (first | with_reducible exact Below.refl _ _ | with_reducible assumption | with_reducible refine Kept.drop ?_ (by with_reducible assumption) | with_reducible refine Kept.alloc ?_ _ | ((with_reducible refine Below.setCell ?_ ?_ _); rotate_left 1; (focus (first | exact Nat.le_refl _ | (simp; done) | (simp; omega) | exact Below.size (by with_reducible assumption) | (refine Kept.size ?_; (repeat (first | with_reducible exact Below.refl _ _ | with_reducible assumption | with_reducible refine Kept.drop ?_ (by with_reducible assumption) | with_reducible refine Kept.alloc ?_ _ | with_reducible refine Below.drew ?_)))))) | with_reducible refine Below.drew ?_))) (Nat.le_refl _)) hc hM).mono ?_; rintro e w1 ⟨rfl, hb1⟩; refine Blk.thru (b := w.heap.size) (arr := ?_) (t := ?_) ?_ hb1 ?_; rotate_left 2; (focus (repeat (first | with_reducible assumption | ((with_reducible refine Blk.new' ?_); first | with_reducible rfl | (simp; done) | (simp [World.drew]; done)) | with_reducible refine Blk.alloc ?_ _ | ((with_reducible refine Blk.set (arr := ?_) ?_ _ _); rotate_left 1) | ((with_reducible refine Blk.other ?_ ?_ _); rotate_left 1; (focus (first | (simp; done) | (simp; omega) | (refine Nat.ne_of_gt (Blk.lt (arr := ?_) (t := ?_) ?_); rotate_left 2; focus (repeat (first | with_reducible assumption | ((with_reducible refine Blk.new' ?_); first | with_reducible rfl | (simp; done) | (simp [World.drew]; done)) | with_reducible refine Blk.alloc ?_ _ | with_reducible refine Blk.keep ?_ (by with_reducible assumption) | with_reducible refine Blk.drew ?_))) | (refine Nat.ne_of_lt (Blk.lt (arr := ?_) (t := ?_) ?_); rotate_left 2; focus (repeat (first | with_reducible assumption | ((with_reducible refine Blk.new' ?_); first | with_reducible rfl | (simp; done) | (simp [World.drew]; done)) | with_reducible refine Blk.alloc ?_ _ | with_reducible refine Blk.keep ?_ (by with_reducible assumption) | with_reducible refine Blk.drew ?_)))))) | with_reducible refine Blk.keep ?_ (by with_reducible assumption) | with_reducible refine Blk.drew ?_))); intro r0; have r0c0 := r0.cell 0; have r0f0 := r0.free 0; have r0c1 := r0.cell 1; have r0f1 := r0.free 1; have r0l := r0.lt; simp at r0c0 r0c1; refine Blk.thru (b := w.heap.size + 1) (arr := ?_) (t := ?_) ?_ hb1 ?_; rotate_left 2; (focus (repeat (first | with_reducible assumption | ((with_reducible refine Blk.new' ?_); first | with_reducible rfl | (simp; done) | (simp [World.drew]; done)) | with_reducible refine Blk.alloc ?_ _ | ((with_reducible refine Blk.set (arr := ?_) ?_ _ _); rotate_left 1) | ((with_reducible refine Blk.other ?_ ?_ _); rotate_left 1; (focus (first | (simp; done) | (simp; omega) | (refine Nat.ne_of_gt (Blk.lt (arr := ?_) (t := ?_) ?_); rotate_left 2; focus (repeat (first | with_reducible assumption | ((with_reducible refine Blk.new' ?_); first | with_reducible rfl | (simp; done) | (simp [World.drew]; done)) | with_reducible refine Blk.alloc ?_ _ | with_reducible refine Blk.keep ?_ (by with_reducible assumption) | with_reducible refine Blk.drew ?_))) | (refine Nat.ne_of_lt (Blk.lt (arr := ?_) (t := ?_) ?_); rotate_left 2; focus (repeat (first | with_reducible assumption | ((with_reducible refine Blk.new' ?_); first | with_reducible rfl | (simp; done) | (simp [World.drew]; done)) | with_reducible refine Blk.alloc ?_ _ | with_reducible refine Blk.keep ?_ (by with_reducible assumption) | with_reducible refine Blk.drew ?_)))))) | with_reducible refine Blk.keep ?_ (by with_reducible assumption) | with_reducible refine Blk.drew ?_))); intro r1; have r1c0 := r1.cell 0; have r1f0 := r1.free 0; have r1c1 := r1.cell 1; have r1f1 := r1.free 1; have r1l := r1.lt; simp at r1c0 r1c1) | (go_at_call 78; refine (f_added_bal1 _ _ _ _ (hx.later (by (repeat (first | with_reducible exact Below.refl _ _ | with_reducible assumption | with_reducible refine Kept.drop ?_ (by with_reducible assumption) | with_reducible refine Kept.alloc ?_ _ | ((with_reducible refine Below.setCell ?_ ?_ _); rotate_left 1; (focus (first | exact Nat.le_refl _ | (simp; done) | (simp; omega) | exact Below.size (by with_reducible assumption) | (refine Kept.size ?_; (repeat (first | with_reducible exact Below.refl _ _ | with_reducible assumption | with_reducible refine Kept.drop ?_ (by with_reducible assumption) | with_reducible refine Kept.alloc ?_ _ | with_reducible refine Below.drew ?_)))))) | with_reducible refine Below.drew ?_))) (Nat.le_refl _)) hc hM hn HV.out bal1_bd).mono ?_; rintro e w1 ⟨rfl, hb1⟩; refine Blk.thru (b := w.heap.size) (arr := ?_) (t := ?_) ?_ hb1 ?_; rotate_left 2; (focus (repeat (first | with_reducible assumption | ((with_reducible refine Blk.new' ?_); first | with_reducible rfl | (simp; done) | (simp [World.drew]; done)) | with_reducible refine Blk.alloc ?_ _ | ((with_reducible refine Blk.set (arr := ?_) ?_ _ _); rotate_left 1) | ((with_reducible refine Blk.other ?_ ?_ _); rotate_left 1; (focus (first | (simp; done) | (simp; omega) | (refine Nat.ne_of_gt (Blk.lt (arr := ?_) (t := ?_) ?_); rotate_left 2; focus (repeat (first | with_reducible assumption | ((with_reducible refine Blk.new' ?_); first | with_reducible rfl | (simp; done) | (simp [World.drew]; done)) | with_reducible refine Blk.alloc ?_ _ | with_reducible refine Blk.keep ?_ (by with_reducible assumption) | with_reducible refine Blk.drew ?_))) | (refine Nat.ne_of_lt (Blk.lt (arr := ?_) (t := ?_) ?_); rotate_left 2; focus (repeat (first | with_reducible assumption | ((with_reducible refine Blk.new' ?_); first | with_reducible rfl | (simp; done) | (simp [World.drew]; done)) | with_reducible refine Blk.alloc ?_ _ | with_reducible refine Blk.keep ?_ (by with_reducible assumption) | with_reducible refine Blk.drew ?_)))))) | with_reducible refine Blk.keep ?_ (by with_reducible assumption) | with_reducible refine Blk.drew ?_))); intro r0; have r0c0 := r0.cell 0; have r0f0 := r0.free 0; have r0c1 := r0.cell 1; have r0f1 := r0.free 1; have r0l := r0.lt; simp at r0c0 r0c1; refine Blk.thru (b := w.heap.size + 1) (arr := ?_) (t := ?_) ?_ hb1 ?_; rotate_left 2; (focus (repeat (first | with_reducible assumption | ((with_reducible refine Blk.new' ?_); first | with_reducible rfl | (simp; done) | (simp [World.drew]; done)) | with_reducible refine Blk.alloc ?_ _ | ((with_reducible refine Blk.set (arr := ?_) ?_ _ _); rotate_left 1) | ((with_reducible refine Blk.other ?_ ?_ _); rotate_left 1; (focus (first | (simp; done) | (simp; omega) | (refine Nat.ne_of_gt (Blk.lt (arr := ?_) (t := ?_) ?_); rotate_left 2; focus (repeat (first | with_reducible assumption | ((with_reducible refine Blk.new' ?_); first | with_reducible rfl | (simp; done) | (simp [World.drew]; done)) | with_reducible refine Blk.alloc ?_ _ | with_reducible refine Blk.keep ?_ (by with_reducible assumption) | with_reducible refine Blk.drew ?_))) | (refine Nat.ne_of_lt (Blk.lt (arr := ?_) (t := ?_) ?_); rotate_left 2; focus (repeat (first | with_reducible assumption | ((with_reducible refine Blk.new' ?_); first | with_reducible rfl | (simp; done) | (simp [World.drew]; done)) | with_reducible refine Blk.alloc ?_ _ | with_reducible refine Blk.keep ?_ (by with_reducible assumption) | with_reducible refine Blk.drew ?_)))))) | with_reducible refine Blk.keep ?_ (by with_reducible assumption) | with_reducible refine Blk.drew ?_))); intro r1; have r1c0 := r1.cell 0; have r1f0 := r1.free 0; have r1c1 := r1.cell 1; have r1f1 := r1.free 1; have r1l := r1.lt; simp at r1c0 r1c1))
    refine at_world (S := fun W => Blk W w.heap.size #[.int .i64 (sumBy Load.wlo xs), .int .i64 (sumBy Load.whi xs)] 49 ∧ Blk W (w.heap.size + 1) #[.int .i64 0, .int .i64 0] 49 ∧ Kept w W) ?_ ?_
    · exact ⟨by simpa using (r0.set 0 (.int .i64 (sumBy Load.wlo xs))).set 1 (.int .i64 (sumBy Load.whi xs)), (r1.other (by simp) _).other (by simp) _, by (repeat (first | with_reducible exact Below.refl _ _ | with_reducible assumption | with_reducible refine Kept.drop ?_ (by with_reducible assumption) | with_reducible refine Kept.alloc ?_ _ | ((with_reducible refine Below.setCell ?_ ?_ _); rotate_left 1; (focus (first | exact Nat.le_refl _ | (simp; done) | (simp; omega) | exact Below.size (by with_reducible assumption) | (refine Kept.size ?_; (repeat (first | with_reducible exact Below.refl _ _ | with_reducible assumption | with_reducible refine Kept.drop ?_ (by with_reducible assumption) | with_reducible refine Kept.alloc ?_ _ | with_reducible refine Below.drew ?_)))))) | with_reducible refine Below.drew ?_))⟩
    rintro W ⟨r0, r1, hk⟩
    have r0c0 := fun g : Later W => (r0.later g).cell 0
    have r0f0 := fun g : Later W => (r0.later g).free 0
    have r0c1 := fun g : Later W => (r0.later g).cell 1
    have r0f1 := fun g : Later W => (r0.later g).free 1
    have r0l := fun g : Later W => (r0.later g).lt
    simp at r0c0 r0c1
    have r1c0 := fun g : Later W => (r1.later g).cell 0
    have r1f0 := fun g : Later W => (r1.later g).free 0
    have r1c1 := fun g : Later W => (r1.later g).cell 1
    have r1f1 := fun g : Later W => (r1.later g).free 1
    have r1l := fun g : Later W => (r1.later g).lt
    simp at r1c0 r1c1
    refine Later.tail 3 (by kernel_rfl) (by kernel_rfl) ?_
    simp only [List.take_succ_cons, List.take_zero, List.drop_succ_cons, List.drop_zero]
    repeat (first | go_big_quiet_skip | (go_big_quiet_want; go_big_quiet_op; first | go_big_quiet_on | (apply Exists.intro; refine ⟨fun g => ?_, ?_⟩; (focus (first | (go_at_call 78; exact Later.call (f_added_bal2 _ _ _ _ (hx.later (Kept.drop hk g.ok) (Nat.le_refl _)) hc hM hn HV.out bal2_bd)))); go_big_quiet_on)))
    refine wpQuiet_nil ?_
    intro g
    have hkg := Kept.drop hk g.ok
    go_wp2
    have z : ∀ v, ifOk (checkLoads xs) v = v := fun v => if_pos HE.out
    simp only [z]
    exact bodyPost_ret (v := .tuple #[.agg #[.int .i64 (sumBy Load.wlo xs), .int .i64 (sumBy Load.whi xs)], .agg #[.int .i64 (sumBy mLo xs), .int .i64 (sumBy mHi xs)], .int .i64 0]) (by simp [results, Try.results31, go_sem, r0c0, r0c1, r1c0, r1c1, r0f0, r0f1, r1f0, r1f1]) rfl ⟨by rw [HE.out], by (repeat (first | with_reducible exact Below.refl _ _ | with_reducible assumption | with_reducible refine Kept.drop ?_ (by with_reducible assumption) | with_reducible refine Kept.alloc ?_ _ | ((with_reducible refine Below.setCell ?_ ?_ _); rotate_left 1; (focus (first | exact Nat.le_refl _ | (simp; done) | (simp; omega) | exact Below.size (by with_reducible assumption) | (refine Kept.size ?_; (repeat (first | with_reducible exact Below.refl _ _ | with_reducible assumption | with_reducible refine Kept.drop ?_ (by with_reducible assumption) | with_reducible refine Kept.alloc ?_ _ | with_reducible refine Below.drew ?_)))))) | with_reducible refine Below.drew ?_))⟩
  · have hb : (checkLoads xs != 0) = true := by simp [he]
    have HE := Lib.hid he
    clear he
    go_enter Try.func31, Try.ntmps31
    go_wp2_with (first | (go_at_call 19; refine (f_CheckLoads _ _ _ _ (hx.later (by (repeat (first | with_reducible exact Below.refl _ _ | with_reducible assumption | with_reducible refine Kept.drop ?_ (by with_reducible assumption) | with_reducible refine Kept.alloc ?_ _ | ((with_reducible refine Below.setCell ?_ ?_ _); rotate_left 1; (focus (first | exact Nat.le_refl _ | (simp; done) | (simp; omega) | exact Below.size (by with_reducible assumption) | (refine Kept.size ?_; (repeat (first | with_reducible exact Below.refl _ _ | with_reducible assumption | with_reducible refine Kept.drop ?_ (by with_reducible assumption) | with_reducible refine Kept.alloc ?_ _ | with_reducible refine Below.drew ?_)))))) | with_reducible refine Below.drew ?_))) (Nat.le_refl _)) hc hM).mono ?_; rintro e w1 ⟨rfl, hb1⟩; refine Blk.thru (b := w.heap.size) (arr := ?_) (t := ?_) ?_ hb1 ?_; rotate_left 2; (focus (repeat (first | with_reducible assumption | ((with_reducible refine Blk.new' ?_); first | with_reducible rfl | (simp; done) | (simp [World.drew]; done)) | with_reducible refine Blk.alloc ?_ _ | ((with_reducible refine Blk.set (arr := ?_) ?_ _ _); rotate_left 1) | ((with_reducible refine Blk.other ?_ ?_ _); rotate_left 1; (focus (first | (simp; done) | (simp; omega) | (refine Nat.ne_of_gt (Blk.lt (arr := ?_) (t := ?_) ?_); rotate_left 2; focus (repeat (first | with_reducible assumption | ((with_reducible refine Blk.new' ?_); first | with_reducible rfl | (simp; done) | (simp [World.drew]; done)) | with_reducible refine Blk.alloc ?_ _ | with_reducible refine Blk.keep ?_ (by with_reducible assumption) | with_reducible refine Blk.drew ?_))) | (refine Nat.ne_of_lt (Blk.lt (arr := ?_) (t := ?_) ?_); rotate_left 2; focus (repeat (first | with_reducible assumption | ((with_reducible refine Blk.new' ?_); first | with_reducible rfl | (simp; done) | (simp [World.drew]; done)) | with_reducible refine Blk.alloc ?_ _ | with_reducible refine Blk.keep ?_ (by with_reducible assumption) | with_reducible refine Blk.drew ?_)))))) | with_reducible refine Blk.keep ?_ (by with_reducible assumption) | with_reducible refine Blk.drew ?_))); intro r0; have r0c0 := r0.cell 0; have r0f0 := r0.free 0; have r0c1 := r0.cell 1; have r0f1 := r0.free 1; have r0l := r0.lt; simp at r0c0 r0c1; refine Blk.thru (b := w.heap.size + 1) (arr := ?_) (t := ?_) ?_ hb1 ?_; rotate_left 2; (focus (repeat (first | with_reducible assumption | ((with_reducible refine Blk.new' ?_); first | with_reducible rfl | (simp; done) | (simp [World.drew]; done)) | with_reducible refine Blk.alloc ?_ _ | ((with_reducible refine Blk.set (arr := ?_) ?_ _ _); rotate_left 1) | ((with_reducible refine Blk.other ?_ ?_ _); rotate_left 1; (focus (first | (simp; done) | (simp; omega) | (refine Nat.ne_of_gt (Blk.lt (arr := ?_) (t := ?_) ?_); rotate_left 2; focus (repeat (first | with_reducible assumption | ((with_reducible refine Blk.new' ?_); first | with_reducible rfl | (simp; done) | (simp [World.drew]; done)) | with_reducible refine Blk.alloc ?_ _ | with_reducible refine Blk.keep ?_ (by with_reducible assumption) | with_reducible refine Blk.drew ?_))) | (refine Nat.ne_of_lt (Blk.lt (arr := ?_) (t := ?_) ?_); rotate_left 2; focus (repeat (first | with_reducible assumption | ((with_reducible refine Blk.new' ?_); first | with_reducible rfl | (simp; done) | (simp [World.drew]; done)) | with_reducible refine Blk.alloc ?_ _ | with_reducible refine Blk.keep ?_ (by with_reducible assumption) | with_reducible refine Blk.drew ?_)))))) | with_reducible refine Blk.keep ?_ (by with_reducible assumption) | with_reducible refine Blk.drew ?_))); intro r1; have r1c0 := r1.cell 0; have r1f0 := r1.free 0; have r1c1 := r1.cell 1; have r1f1 := r1.free 1; have r1l := r1.lt; simp at r1c0 r1c1))
    have z : ∀ v, ifOk (checkLoads xs) v = 0 := fun v => if_neg HE.out
    simp only [z]
    exact bodyPost_ret (v := .tuple #[.agg #[.int .i64 (0), .int .i64 (0)], .agg #[.int .i64 (0), .int .i64 (0)], .int .i64 (checkLoads xs)]) (by simp [results, Try.results31, go_sem, r0c0, r0c1, r1c0, r1c1]) rfl ⟨rfl, by (repeat (first | with_reducible exact Below.refl _ _ | with_reducible assumption | with_reducible refine Kept.drop ?_ (by with_reducible assumption) | with_reducible refine Kept.alloc ?_ _ | ((with_reducible refine Below.setCell ?_ ?_ _); rotate_left 1; (focus (first | exact Nat.le_refl _ | (simp; done) | (simp; omega) | exact Below.size (by with_reducible assumption) | (refine Kept.size ?_; (repeat (first | with_reducible exact Below.refl _ _ | with_reducible assumption | with_reducible refine Kept.drop ?_ (by with_reducible assumption) | with_reducible refine Kept.alloc ?_ _ | with_reducible refine Below.drew ?_)))))) | with_reducible refine Below.drew ?_))⟩

end Go.Proofs.Ytlloijkmpmfapaa
