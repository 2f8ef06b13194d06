/-
  Plants: whether one is valid, in the program.
-/
import Derived.Test.YtemafanncejeiaaGasDA
namespace Go.Proofs.Ytemafanncejeiaa
open Go.RowKit Bal Bal.Trim Bal.Gas
set_option linter.unusedVariables false
set_option linter.unusedSimpArgs false
set_option maxHeartbeats 4000000
set_option maxRecDepth 10000

theorem Row.drop {α : Type} {enc : α → List Value} {k B : Nat} {w : World} {b off : Nat} {xs : List α} (h : Row enc k B w (some ⟨b, off, none⟩) xs) (j : Nat) {o : Nat} (ho : o = off + j * k) : Row enc k B w (some ⟨b, o, none⟩) (xs.drop j) := by
  subst ho
  intro i x hx
  rw [List.getElem?_drop] at hx
  obtain ⟨b', off', ha, hb, hc⟩ := h _ x hx
  simp only [Option.some.injEq, Addr.mk.injEq, and_true] at ha
  obtain ⟨rfl, rfl⟩ := ha
  refine ⟨b, off + j * k, rfl, hb, fun q v hq => ?_⟩
  have := hc q v hq
  rw [Nat.add_mul] at this
  rw [show off + j * k + i * k + q = off + (j * k + i * k) + q by omega]
  exact this
theorem sum_take {xs : List Cell} (h : (xs.all cellB) = true) (hn : xs.length ≤ 12) (k : Nat) : (0 ≤ sumH (xs.take k) ∧ sumH (xs.take k) ≤ 120000000) ∧ 0 ≤ sumA (xs.take k) ∧ sumA (xs.take k) ≤ 120000000 := by
  have hv : ∀ c ∈ xs.take k, cellB c = true := fun c hc => List.all_eq_true.1 h c (List.mem_of_mem_take hc)
  have hl : (xs.take k).length ≤ 12 := by rw [List.length_take]; omega
  have h1 := sumBy_bd Cell.helium 10000000 (xs.take k) fun c hc => by have := (cellB_iff.1 (hv c hc)).2.1; omega
  have h2 := sumBy_bd Cell.air 10000000 (xs.take k) fun c hc => by have := (cellB_iff.1 (hv c hc)).2.2.1; omega
  have h3 := sumBy_nonneg Cell.helium (xs.take k) fun c hc => (cellB_iff.1 (hv c hc)).2.1.1
  have h4 := sumBy_nonneg Cell.air (xs.take k) fun c hc => (cellB_iff.1 (hv c hc)).2.2.1.1
  unfold sumH sumA
  omega
theorem sum_some {xs : List Cell} {k : Nat} (h : (xs.take k).all cellB = true) (hn : xs.length ≤ 12) : (0 ≤ sumH (xs.take k) ∧ sumH (xs.take k) ≤ 120000000) ∧ 0 ≤ sumA (xs.take k) ∧ sumA (xs.take k) ≤ 120000000 := by
  have := sum_take h (by rw [List.length_take]; omega) k
  simpa [List.take_take] using this
theorem plantE_bad {p : Plant} (h : plantB p = false) : plantE p = 32 := by unfold plantE; rw [h]; rfl
theorem plantE_ok {p : Plant} (h : plantB p = true) : plantE p = 0 := by unfold plantE; rw [h]; rfl
theorem books_all (p : Plant) : (books p).all parB = (booksB p.inH p.inA && booksB p.vH p.vA && booksB p.lH p.lA && booksB p.pH p.pA) := by
  simp [books, parB, Bool.and_assoc]

theorem s_Contains4 (p : Plant) (m : Nat) (W : World) (h : Blk W m #[.int .i64 p.inH, .int .i64 p.inA, .int .i64 p.vH, .int .i64 p.vA, .int .i64 p.lH, .int .i64 p.lA, .int .i64 p.pH, .int .i64 p.pA] 61) :
    Calls Try.prog 121 #[.slice (some ⟨m, 0, none⟩) 4 4, .func (.func 122) #[] #[]] W fun e w' => e = .returned (.bool (!(books p).all parB)) ∧ Kept W w' :=
  s_ContainsFunc (some ⟨m, 0, none⟩) 4 (books p) W (Row.block (fun _ => rfl) h rfl) (by show 4 ≤ 100; decide)

theorem f_Check_early (p : Plant) (a : Option Addr) (cap : Nat) (w : World) (hx : Row Cell.cells 7 w.heap.size w a p.cells) (hc : p.cells.length ≤ cap) (hM : cap ≤ maxLen) (h : ¬ (p.cells.length ≤ 12 ∧ inB p.bottles 0 10000000 = true ∧ (books p).all parB = true)) :
    Calls Try.prog 50 #[.agg #[.slice a p.cells.length cap, .int .i64 p.bottles, .int .i64 p.inH, .int .i64 p.inA, .int .i64 p.vH, .int .i64 p.vA, .int .i64 p.lH, .int .i64 p.lA, .int .i64 p.pH, .int .i64 p.pA]] w fun e w' => e = .returned (.int .i64 32) ∧ Kept w w' := by
  unfold maxLen at hM
  by_cases h1 : 12 < p.cells.length
  · clear h
    go_enter Try.func50, Try.ntmps50
    go_wp2
    go_ret
    exact ⟨rfl, by (exact kpt)⟩
  · have h1' : p.cells.length ≤ 12 := by omega
    cases h2 : inB p.bottles 0 10000000
    · have H2 := Lib.hid (show rng [p.bottles] 0 10000000 = false by simpa [rng] using h2)
      clear h h2
      go_enter Try.func50, Try.ntmps50
      go_wp2_with (first | (go_at_call 91; (with_reducible refine (f_ranged1 _ _ p.bottles _ _ _ (by simp)).mono ?_); rw [H2.out]; rintro e w1 ⟨rfl, rfl⟩) | fail)
      go_ret
      exact ⟨rfl, by (exact kpt)⟩
    · cases h3 : (books p).all parB
      · have H2 := Lib.hid (show rng [p.bottles] 0 10000000 = true by simpa [rng] using h2)
        have H3 := Lib.hid h3
        clear h h2 h3
        go_enter Try.func50, Try.ntmps50
        go_wp2_with (first | (go_at_call 91; (with_reducible refine (f_ranged1 _ _ p.bottles _ _ _ (by simp)).mono ?_); rw [H2.out]; rintro e w1 ⟨rfl, rfl⟩) | (go_at_call 121; (with_reducible refine (s_Contains4 p _ _ ?_).mono ?_); (focus (exact blkc)); rw [H3.out]; rintro e w1 ⟨rfl, hb1⟩; obtain ⟨hc1, hf1, hl1⟩ := bcell3 hb1))
        go_ret
        exact ⟨rfl, by (exact kpt)⟩
      · exact absurd ⟨h1', h2, h3⟩ h

theorem books3_bd {p : Plant} (h : (books p).all parB = true) (k : Nat) : (0 ≤ sumBy Par.h ((books3 p).take k) ∧ sumBy Par.h ((books3 p).take k) ≤ 3000000000000) ∧ 0 ≤ sumBy Par.a ((books3 p).take k) ∧ sumBy Par.a ((books3 p).take k) ≤ 3000000000000 := by
  have hv : ∀ c ∈ (books3 p).take k, parB c = true := fun c hc => List.all_eq_true.1 h c (List.mem_cons_of_mem _ (List.mem_of_mem_take hc))
  have hl : ((books3 p).take k).length ≤ 3 := by rw [List.length_take]; show min k 3 ≤ 3; omega
  have h1 := sumBy_bd Par.h 1000000000000 ((books3 p).take k) fun c hc => by have := booksB_iff.1 (hv c hc); omega
  have h2 := sumBy_bd Par.a 1000000000000 ((books3 p).take k) fun c hc => by have := booksB_iff.1 (hv c hc); omega
  have h3 := sumBy_nonneg Par.h ((books3 p).take k) fun c hc => (booksB_iff.1 (hv c hc)).1.1
  have h4 := sumBy_nonneg Par.a ((books3 p).take k) fun c hc => (booksB_iff.1 (hv c hc)).2.1
  omega
set_option maxHeartbeats 8000000 in
theorem f_Check_late (p : Plant) (a : Option Addr) (cap : Nat) (w : World) (hx : Row Cell.cells 7 w.heap.size w a p.cells) (hc : p.cells.length ≤ cap) (hM : cap ≤ maxLen) (h1 : p.cells.length ≤ 12) (h2 : inB p.bottles 0 10000000 = true) (h3 : (books p).all parB = true) :
    Calls Try.prog 50 #[.agg #[.slice a p.cells.length cap, .int .i64 p.bottles, .int .i64 p.inH, .int .i64 p.inA, .int .i64 p.vH, .int .i64 p.vA, .int .i64 p.lH, .int .i64 p.lA, .int .i64 p.pH, .int .i64 p.pA]] w fun e w' => e = .returned (.int .i64 (plantE p)) ∧ Kept w w' := by
  unfold maxLen at hM
  have hbd := Lib.hid (fun k => books3_bd h3 k)
  have hbt := inB_iff.1 h2
  have H2 := Lib.hid (show rng [p.bottles] 0 10000000 = true by simpa [rng] using h2)
  have H3 := Lib.hid h3
  clear h2 h3
  go_enter Try.func50, Try.ntmps50
  go_upto_region 5 with (first | (go_at_call 91; (with_reducible refine (f_ranged1 _ _ p.bottles _ _ _ (by simp)).mono ?_); rw [H2.out]; rintro e w1 ⟨rfl, rfl⟩) | (go_at_call 121; (with_reducible refine (s_Contains4 p _ _ ?_).mono ?_); (focus (exact blkc)); rw [H3.out]; rintro e w1 ⟨rfl, hb1⟩; obtain ⟨hc1, hf1, hl1⟩ := bcell3 hb1))
  refine at_world (S := fun W => Blk W w.heap.size #[.slice a p.cells.length cap, .int .i64 p.bottles, .int .i64 p.inH, .int .i64 p.inA, .int .i64 p.vH, .int .i64 p.vA, .int .i64 p.lH, .int .i64 p.lA, .int .i64 p.pH, .int .i64 p.pA] 63 ∧ Blk W (w.heap.size + 1) #[.int .i64 p.inH, .int .i64 p.inA, .int .i64 p.vH, .int .i64 p.vA, .int .i64 p.lH, .int .i64 p.lA, .int .i64 p.pH, .int .i64 p.pA] 61 ∧ Blk W w1.heap.size #[.int .i64 p.bottles, .int .i64 0] 61 ∧ Kept w W) ⟨by (exact blkc), by (exact blkc), by (exact blkc), by (exact kpt)⟩ ?_
  have hz : w.heap.size + 1 < w1.heap.size := by have := Below.size hb1; simp at this; omega
  clear hc1 hf1 hl1 hb1
  rintro W ⟨r0, r1, r2, hk⟩
  obtain ⟨m, hm⟩ : ∃ m, m = w1.heap.size := ⟨_, rfl⟩
  rw [← hm] at r2 hz ⊢
  clear hm
  have r0c0 := r0.cell 0
  have r0f0 := r0.free 0
  have r0c1 := r0.cell 1
  have r0f1 := r0.free 1
  have r0c2 := r0.cell 2
  have r0f2 := r0.free 2
  have r0c3 := r0.cell 3
  have r0f3 := r0.free 3
  have r0c4 := r0.cell 4
  have r0f4 := r0.free 4
  have r0c5 := r0.cell 5
  have r0f5 := r0.free 5
  have r0c6 := r0.cell 6
  have r0f6 := r0.free 6
  have r0c7 := r0.cell 7
  have r0f7 := r0.free 7
  have r0c8 := r0.cell 8
  have r0f8 := r0.free 8
  have r0c9 := r0.cell 9
  have r0f9 := r0.free 9
  have r0l := r0.lt
  simp at r0c0 r0c1 r0c2 r0c3 r0c4 r0c5 r0c6 r0c7 r0c8 r0c9
  have r1c0 := r1.cell 0
  have r1f0 := r1.free 0
  have r1c1 := r1.cell 1
  have r1f1 := r1.free 1
  have r1c2 := r1.cell 2
  have r1f2 := r1.free 2
  have r1c3 := r1.cell 3
  have r1f3 := r1.free 3
  have r1c4 := r1.cell 4
  have r1f4 := r1.free 4
  have r1c5 := r1.cell 5
  have r1f5 := r1.free 5
  have r1c6 := r1.cell 6
  have r1f6 := r1.free 6
  have r1c7 := r1.cell 7
  have r1f7 := r1.free 7
  have r1l := r1.lt
  simp at r1c0 r1c1 r1c2 r1c3 r1c4 r1c5 r1c6 r1c7
  have r2c0 := r2.cell 0
  have r2f0 := r2.free 0
  have r2c1 := r2.cell 1
  have r2f1 := r2.free 1
  have r2l := r2.lt
  simp at r2c0 r2c1
  go_wp2
  go_loopw [39] (fun i wr => ∃ k : Nat, k ≤ 3 ∧ i = .int .i64 k ∧ Blk wr w.heap.size #[.slice a p.cells.length cap, .int .i64 p.bottles, .int .i64 p.inH, .int .i64 p.inA, .int .i64 p.vH, .int .i64 p.vA, .int .i64 p.lH, .int .i64 p.lA, .int .i64 p.pH, .int .i64 p.pA] 63 ∧ Blk wr (w.heap.size + 1) #[.int .i64 p.inH, .int .i64 p.inA, .int .i64 p.vH, .int .i64 p.vA, .int .i64 p.lH, .int .i64 p.lA, .int .i64 p.pH, .int .i64 p.pA] 61 ∧ Blk wr m #[.int .i64 (p.bottles + sumBy Par.h ((books3 p).take k)), .int .i64 (sumBy Par.a ((books3 p).take k))] 61 ∧ Kept w wr) (fun i _ => 3 - (intOf i).toNat)
  case atStart => exact ⟨0, by omega, rfl, r0, r1, by simpa using r2, hk⟩
  case round =>
    clear r0c0 r0f0 r0c1 r0f1 r0c2 r0f2 r0c3 r0f3 r0c4 r0f4 r0c5 r0f5 r0c6 r0f6 r0c7 r0f7 r0c8 r0f8 r0c9 r0f9 r1c0 r1f0 r1c1 r1f1 r1c2 r1f2 r1c3 r1f3 r1c4 r1f4 r1c5 r1f5 r1c6 r1f6 r1c7 r1f7 r2c0 r2f0 r2c1 r2f1 r0l r1l r2l r0 r1 r2 hk
    obtain ⟨k, hk3, rfl, r0, r1, r2, hk⟩ := hrel
    by_cases hlt : k < 3
    · have hr3 : Row Par.cells 2 wr.heap.size wr (some ⟨w.heap.size + 1, 2, none⟩) (books3 p) := Row.drop (Row.block (enc := Par.cells) (k := 2) (xs := books p) (fun _ => rfl) r1 rfl) 1 rfl
      obtain ⟨b, off, he, _, h0, h1⟩ := Par.row hr3 k hlt
      cases he
      have hs1 := sumBy_take Par.h (books3 p) k hlt
      have hs2 := sumBy_take Par.a (books3 p) k hlt
      have q1 := hbd.out k
      obtain ⟨x, hx0⟩ : ∃ x, x = (books3 p)[k] := ⟨_, rfl⟩
      have q2 := hbd.out (k + 1)
      rw [hs1, hs2] at q2
      rw [← hx0] at h0 h1 hs1 hs2 q2
      obtain ⟨sh, hsh⟩ : ∃ y, y = sumBy Par.h ((books3 p).take k) := ⟨_, rfl⟩
      obtain ⟨sa, hsa⟩ : ∃ y, y = sumBy Par.a ((books3 p).take k) := ⟨_, rfl⟩
      rw [← hsh] at hs1 q1 q2 r2
      rw [← hsa] at hs2 q1 q2 r2
      have HS1 := Lib.hid hs1
      have HS2 := Lib.hid hs2
      have hxb := booksB_iff.1 (List.all_eq_true.1 H3.out x (by rw [hx0]; exact List.mem_cons_of_mem _ (List.getElem_mem hlt)))
      clear hs1 hs2 hx0 hsh hsa hr3
      have k0 : (0 : Int) ≤ (k : Int) := by omega
      have k1 : (k : Int) < 3 := by omega
      have r2c0 := r2.cell 0
      have r2f0 := r2.free 0
      have r2c1 := r2.cell 1
      have r2f1 := r2.free 1
      have r2l := r2.lt
      simp at r2c0 r2c1
      go_wp2_with (first | (go_at_call 123; (with_reducible refine (f_plus _ _ _ _ _ (by omega) (by omega) (by omega) (by omega)).mono ?_); rintro e w2 ⟨rfl, hb2⟩; obtain ⟨hc2, hf2, hl2⟩ := bcell3 hb2))
      go_roundw
      case rel => exact ⟨k + 1, by omega, by go_num, by (exact blkc), by (exact blkc), by rw [HS1.out, HS2.out]; (refine Blk.cast (arr := ?_) ?_ ?_; rotate_left 1; (focus (exact blk)); (first | rfl | (simp; done) | (simp; omega))), by (exact kpt)⟩
      case measure => simp [intOf]; omega
    · have hke : k = 3 := by omega
      rw [hke] at r2
      have hki : (k : Int) = 3 := by omega
      rw [hki]
      clear hki hke hlt hk3
      have q := hbd.out 3
      have e1 : p.bottles + sumBy Par.h ((books3 p).take 3) = p.bottles + (p.vH + p.lH + p.pH) := by simp [books3, sumBy]; omega
      have e2 : sumBy Par.a ((books3 p).take 3) = p.vA + p.lA + p.pA := by simp [books3, sumBy]; omega
      have hv := List.all_eq_true.1 H3.out
      have hi := booksB_iff.1 (hv ⟨p.inH, p.inA⟩ (by simp [books]))
      simp only at hi
      have qh : 0 ≤ p.bottles + (p.vH + p.lH + p.pH) ∧ p.bottles + (p.vH + p.lH + p.pH) ≤ 4000000000000 := by rw [← e1]; omega
      have qa : 0 ≤ p.vA + p.lA + p.pA ∧ p.vA + p.lA + p.pA ≤ 4000000000000 := by rw [← e2]; omega
      rw [e1, e2] at r2
      clear e1 e2 q hv
      obtain ⟨SH, hSH⟩ : ∃ y, y = p.bottles + (p.vH + p.lH + p.pH) := ⟨_, rfl⟩
      obtain ⟨SA, hSA⟩ : ∃ y, y = p.vA + p.lA + p.pA := ⟨_, rfl⟩
      rw [← hSH] at r2 qh
      rw [← hSA] at r2 qa
      have HSH := Lib.hid hSH
      have HSA := Lib.hid hSA
      clear hSH hSA
      have r0c0 := r0.cell 0
      have r0f0 := r0.free 0
      have r0c1 := r0.cell 1
      have r0f1 := r0.free 1
      have r0c2 := r0.cell 2
      have r0f2 := r0.free 2
      have r0c3 := r0.cell 3
      have r0f3 := r0.free 3
      have r0c4 := r0.cell 4
      have r0f4 := r0.free 4
      have r0c5 := r0.cell 5
      have r0f5 := r0.free 5
      have r0c6 := r0.cell 6
      have r0f6 := r0.free 6
      have r0c7 := r0.cell 7
      have r0f7 := r0.free 7
      have r0c8 := r0.cell 8
      have r0f8 := r0.free 8
      have r0c9 := r0.cell 9
      have r0f9 := r0.free 9
      have r0l := r0.lt
      simp at r0c0 r0c1 r0c2 r0c3 r0c4 r0c5 r0c6 r0c7 r0c8 r0c9
      have r2c0 := r2.cell 0
      have r2f0 := r2.free 0
      have r2c1 := r2.cell 1
      have r2f1 := r2.free 1
      have r2l := r2.lt
      simp at r2c0 r2c1
      go_wp2
      go_loopw [50] (fun i wq => ∃ k : Nat, k ≤ p.cells.length ∧ i = .int .i64 k ∧ (p.cells.take k).all cellB = true ∧ Blk wq w.heap.size #[.slice a p.cells.length cap, .int .i64 p.bottles, .int .i64 p.inH, .int .i64 p.inA, .int .i64 p.vH, .int .i64 p.vA, .int .i64 p.lH, .int .i64 p.lA, .int .i64 p.pH, .int .i64 p.pA] 63 ∧ Blk wq m #[.int .i64 (SH + sumH (p.cells.take k)), .int .i64 (SA + sumA (p.cells.take k))] 61 ∧ Kept w wq) (fun i _ => p.cells.length - (intOf i).toNat)
      case atStart => exact ⟨0, by omega, rfl, by simp, r0, by simpa [sumH, sumA] using r2, hk⟩
      case round =>
        clear r0c0 r0f0 r0c1 r0f1 r0c2 r0f2 r0c3 r0f3 r0c4 r0f4 r0c5 r0f5 r0c6 r0f6 r0c7 r0f7 r0c8 r0f8 r0c9 r0f9 r2c0 r2f0 r2c1 r2f1 r0l r2l r0 r2 hk
        obtain ⟨k, hkn, rfl, hal, r0, r2, hk⟩ := hrel
        have hsb := sum_some hal h1
        have HAL := Lib.hid hal
        clear hal
        by_cases hlt : k < p.cells.length
        · obtain ⟨b, off, rfl, _, c0, c1, c2, c3, c4, c5, c6⟩ := Cell.row (hx.later hk (Nat.le_refl _)) k hlt
          have hs1 := sumBy_take Cell.helium p.cells k hlt
          have hs2 := sumBy_take Cell.air p.cells k hlt
          have HT := Lib.hid (fun hv : cellB p.cells[k] = true => take_all hlt HAL.out hv)
          have HBAD := Lib.hid (fun hv : cellB p.cells[k] = false => show plantB p = false by
            rw [Bool.eq_false_iff]
            intro hp
            rw [(plantB_iff.1 hp).2.2.2.2.2.2.1 _ (List.getElem_mem hlt)] at hv
            cases hv)
          obtain ⟨x, hx0⟩ : ∃ x, x = p.cells[k] := ⟨_, rfl⟩
          rw [← hx0] at c0 c1 c2 c3 c4 c5 c6 hs1 hs2 HT HBAD
          clear hx0
          obtain ⟨sh, hsh⟩ : ∃ y, y = sumH (p.cells.take k) := ⟨_, rfl⟩
          obtain ⟨sa, hsa⟩ : ∃ y, y = sumA (p.cells.take k) := ⟨_, rfl⟩
          rw [← hsh, ← hsa] at hsb r2
          have HS1 := Lib.hid (show sumH (p.cells.take (k + 1)) = sh + x.helium by rw [hsh]; exact hs1)
          have HS2 := Lib.hid (show sumA (p.cells.take (k + 1)) = sa + x.air by rw [hsa]; exact hs2)
          clear hs1 hs2 hsh hsa
          have k0 : (0 : Int) ≤ (k : Int) := by omega
          have k1 : (k : Int) < (p.cells.length : Int) := by omega
          have r2c0 := r2.cell 0
          have r2f0 := r2.free 0
          have r2c1 := r2.cell 1
          have r2f1 := r2.free 1
          have r2l := r2.lt
          simp at r2c0 r2c1
          cases hv : cellB x
          · have HC := Lib.hid (show checkCell x = 31 by unfold checkCell; rw [hv]; rfl)
            have HE := Lib.hid (plantE_bad (HBAD.out hv))
            clear hv
            go_wp2_with (first | (go_at_call 28; (with_reducible refine (f_CheckCell x _).mono ?_); rw [HC.out]; rintro e w3 ⟨rfl, hb3⟩; refine Blk.thru (b := w.heap.size) (arr := ?_) (t := ?_) ?_ hb3 ?_; rotate_left 2; (focus (exact blk)); intro p0; have p0c0 := p0.cell 0; have p0f0 := p0.free 0; have p0c1 := p0.cell 1; have p0f1 := p0.free 1; have p0c2 := p0.cell 2; have p0f2 := p0.free 2; have p0c3 := p0.cell 3; have p0f3 := p0.free 3; have p0c4 := p0.cell 4; have p0f4 := p0.free 4; have p0c5 := p0.cell 5; have p0f5 := p0.free 5; have p0c6 := p0.cell 6; have p0f6 := p0.free 6; have p0c7 := p0.cell 7; have p0f7 := p0.free 7; have p0c8 := p0.cell 8; have p0f8 := p0.free 8; have p0c9 := p0.cell 9; have p0f9 := p0.free 9; have p0l := p0.lt; simp at p0c0 p0c1 p0c2 p0c3 p0c4 p0c5 p0c6 p0c7 p0c8 p0c9; refine Blk.thru (b := m) (arr := ?_) (t := ?_) ?_ hb3 ?_; rotate_left 2; (focus (exact blk)); intro p2; have p2c0 := p2.cell 0; have p2f0 := p2.free 0; have p2c1 := p2.cell 1; have p2f1 := p2.free 1; have p2l := p2.lt; simp at p2c0 p2c1; obtain ⟨hc3, hf3, hl3⟩ := bcell3 hb3))
            go_ret
            exact ⟨ret_int HE.out.symm, by (exact kpt)⟩
          · have HC := Lib.hid (show checkCell x = 0 by unfold checkCell; rw [hv]; rfl)
            have hxb := cellB_iff.1 hv
            have HT2 := Lib.hid (HT.out hv)
            clear hv
            go_wp2_with (first | (go_at_call 28; (with_reducible refine (f_CheckCell x _).mono ?_); rw [HC.out]; rintro e w3 ⟨rfl, hb3⟩; refine Blk.thru (b := w.heap.size) (arr := ?_) (t := ?_) ?_ hb3 ?_; rotate_left 2; (focus (exact blk)); intro p0; have p0c0 := p0.cell 0; have p0f0 := p0.free 0; have p0c1 := p0.cell 1; have p0f1 := p0.free 1; have p0c2 := p0.cell 2; have p0f2 := p0.free 2; have p0c3 := p0.cell 3; have p0f3 := p0.free 3; have p0c4 := p0.cell 4; have p0f4 := p0.free 4; have p0c5 := p0.cell 5; have p0f5 := p0.free 5; have p0c6 := p0.cell 6; have p0f6 := p0.free 6; have p0c7 := p0.cell 7; have p0f7 := p0.free 7; have p0c8 := p0.cell 8; have p0f8 := p0.free 8; have p0c9 := p0.cell 9; have p0f9 := p0.free 9; have p0l := p0.lt; simp at p0c0 p0c1 p0c2 p0c3 p0c4 p0c5 p0c6 p0c7 p0c8 p0c9; refine Blk.thru (b := m) (arr := ?_) (t := ?_) ?_ hb3 ?_; rotate_left 2; (focus (exact blk)); intro p2; have p2c0 := p2.cell 0; have p2f0 := p2.free 0; have p2c1 := p2.cell 1; have p2f1 := p2.free 1; have p2l := p2.lt; simp at p2c0 p2c1; obtain ⟨hc3, hf3, hl3⟩ := bcell3 hb3) | (go_at_call 123; (with_reducible refine (f_plus _ _ x.helium x.air _ (by omega) (by omega) (by omega) (by omega)).mono ?_); rintro e w2 ⟨rfl, hb2⟩; obtain ⟨hc2, hf2, hl2⟩ := bcell3 hb2))
            go_roundw
            case rel => exact ⟨k + 1, by omega, by go_num, HT2.out, by (exact blkc), by rw [HS1.out, HS2.out]; (refine Blk.cast (arr := ?_) ?_ ?_; rotate_left 1; (focus (exact blk)); (first | rfl | (simp; done) | (simp; omega))), by (exact kpt)⟩
            case measure => simp [intOf]; omega
        · obtain rfl : k = p.cells.length := by omega
          rw [List.take_length] at hsb r2 HAL
          obtain ⟨sh, hsh⟩ : ∃ y, y = sumH p.cells := ⟨_, rfl⟩
          obtain ⟨sa, hsa⟩ : ∃ y, y = sumA p.cells := ⟨_, rfl⟩
          rw [← hsh, ← hsa] at hsb r2
          have HPB := Lib.hid (show plantB p = (decide (SH + sh = p.inH) && decide (SA + sa = p.inA)) by
            have hb := H3.out
            rw [books_all] at hb
            simp only [Bool.and_eq_true] at hb
            have ht : inB p.bottles 0 10000000 = true := inB_iff.2 hbt
            have e1 : allH p = SH + sh := by rw [HSH.out, hsh]; unfold allH; omega
            have e2 : allA p = SA + sa := by rw [HSA.out, hsa]; unfold allA; rfl
            unfold plantB
            rw [e1, e2, hb.1.1.1, hb.1.1.2, hb.1.2, hb.2, ht, HAL.out]
            simp [h1])
          clear hsh hsa
          have r0c0 := r0.cell 0
          have r0f0 := r0.free 0
          have r0c1 := r0.cell 1
          have r0f1 := r0.free 1
          have r0c2 := r0.cell 2
          have r0f2 := r0.free 2
          have r0c3 := r0.cell 3
          have r0f3 := r0.free 3
          have r0c4 := r0.cell 4
          have r0f4 := r0.free 4
          have r0c5 := r0.cell 5
          have r0f5 := r0.free 5
          have r0c6 := r0.cell 6
          have r0f6 := r0.free 6
          have r0c7 := r0.cell 7
          have r0f7 := r0.free 7
          have r0c8 := r0.cell 8
          have r0f8 := r0.free 8
          have r0c9 := r0.cell 9
          have r0f9 := r0.free 9
          have r0l := r0.lt
          simp at r0c0 r0c1 r0c2 r0c3 r0c4 r0c5 r0c6 r0c7 r0c8 r0c9
          have r2c0 := r2.cell 0
          have r2f0 := r2.free 0
          have r2c1 := r2.cell 1
          have r2f1 := r2.free 1
          have r2l := r2.lt
          simp at r2c0 r2c1
          by_cases d1 : SH + sh = p.inH
          · by_cases d2 : SA + sa = p.inA
            · have HE := Lib.hid (plantE_ok (HPB.out.trans (by simp [d1, d2])))
              go_wp2
              go_ret
              exact ⟨ret_int HE.out.symm, by (exact kpt)⟩
            · have HE := Lib.hid (plantE_bad (HPB.out.trans (by simp [d2])))
              go_wp2
              go_ret
              exact ⟨ret_int HE.out.symm, by (exact kpt)⟩
          · have HE := Lib.hid (plantE_bad (HPB.out.trans (by simp [d1])))
            go_wp2
            go_ret
            exact ⟨ret_int HE.out.symm, by (exact kpt)⟩

theorem f_Check (p : Plant) (a : Option Addr) (cap : Nat) (w : World) (hx : Row Cell.cells 7 w.heap.size w a p.cells) (hc : p.cells.length ≤ cap) (hM : cap ≤ maxLen) :
    Calls Try.prog 50 #[.agg #[.slice a p.cells.length cap, .int .i64 p.bottles, .int .i64 p.inH, .int .i64 p.inA, .int .i64 p.vH, .int .i64 p.vA, .int .i64 p.lH, .int .i64 p.lA, .int .i64 p.pH, .int .i64 p.pA]] w fun e w' => e = .returned (.int .i64 (plantE p)) ∧ Kept w w' := by
  by_cases h : p.cells.length ≤ 12 ∧ inB p.bottles 0 10000000 = true ∧ (books p).all parB = true
  · exact f_Check_late p a cap w hx hc hM h.1 h.2.1 h.2.2
  · have he : plantE p = 32 := plantE_bad (by
      rw [Bool.eq_false_iff]
      intro hp
      refine h ?_
      rw [books_all]
      simp only [plantB, Bool.and_eq_true, decide_eq_true_eq] at hp
      obtain ⟨⟨⟨⟨⟨⟨⟨⟨a, b⟩, c⟩, d⟩, e⟩, f⟩, g⟩, _⟩, _⟩ := hp
      exact ⟨a, b, by rw [c, d, e, f]; rfl⟩)
    rw [he]
    exact f_Check_early p a cap w hx hc hM h

end Go.Proofs.Ytemafanncejeiaa
