/-
  The program's acts by their error.
-/
import Derived.Test.YtemafanncejeiaaGasPlaysZC
import Derived.Test.YtemafanncejeiaaGasPlaysZB
import Derived.Test.YtemafanncejeiaaGasPlaysZA
/-
  The program's acts by their error.
-/
namespace Go.Proofs.Ytemafanncejeiaa
open Go.RowKit Bal Bal.Trim Bal.Gas
set_option linter.unusedVariables false
set_option linter.unusedSimpArgs false
set_option maxHeartbeats 4000000

theorem act1_no {B s cp : Nat} {ad : Option Addr} {p : Plant} {w : World} (d : Deed) (h : Shop 25 174 B w s ad cp p) (hp : plantB p = true) (hk : d.kind = 1) (he : errA p d ≠ 0) : Calls Try.prog 106 #[.pointer (some ⟨s, 0, none⟩), .agg #[.int .u8 d.kind, .int .i64 d.cell, .int .i64 d.to, .int .i64 d.n]] w fun e w' => e = .panicked [{ v := refusal (errA p d), recovered := false }] ∧ Kept w w' := by
  cases h1 : rng [d.n] 1 10000000
  · rw [show errA p d = 2 by simp [errA, hk, *]]
    exact f_buy_no d h hp h1
  · exact absurd (by simp [errA, hk, *]) he
theorem act1_ok {B s cp : Nat} {ad : Option Addr} {p : Plant} {w : World} (d : Deed) (h : Shop 25 174 B w s ad cp p) (hp : plantB p = true) (hk : d.kind = 1) (he : errA p d = 0) : Calls Try.prog 106 #[.pointer (some ⟨s, 0, none⟩), .agg #[.int .u8 d.kind, .int .i64 d.cell, .int .i64 d.to, .int .i64 d.n]] w fun e w' => e = .returned (.tuple #[]) ∧ Shop 25 174 B w' s ad cp (resA p d) ∧ Below B w w' := by
  cases h1 : rng [d.n] 1 10000000
  · simp [errA, hk, h1] at he
  · rw [show resA p d = buyP p d by simp [resA, hk]]
    exact f_buy_ok d h hp h1

theorem act2_no {B s cp : Nat} {ad : Option Addr} {p : Plant} {w : World} (d : Deed) (h : Shop 25 174 B w s ad cp p) (hp : plantB p = true) (hk : d.kind = 2) (he : errA p d ≠ 0) : Calls Try.prog 107 #[.pointer (some ⟨s, 0, none⟩), .agg #[.int .u8 d.kind, .int .i64 d.cell, .int .i64 d.to, .int .i64 d.n]] w fun e w' => e = .panicked [{ v := refusal (errA p d), recovered := false }] ∧ Kept w w' := by
  cases h1 : argB p d
  · rw [show errA p d = 2 by simp [errA, hk, *]]
    exact f_fill_no1 d h hp h1
  · by_cases h2 : p.bottles < d.n
    · rw [show errA p d = 6 by simp [errA, hk, *]]
      exact f_fill_no2 d h hp h1 h2
    · exact absurd (by simp [errA, hk, *]) he
theorem act2_ok {B s cp : Nat} {ad : Option Addr} {p : Plant} {w : World} (d : Deed) (h : Shop 25 174 B w s ad cp p) (hp : plantB p = true) (hk : d.kind = 2) (he : errA p d = 0) : Calls Try.prog 107 #[.pointer (some ⟨s, 0, none⟩), .agg #[.int .u8 d.kind, .int .i64 d.cell, .int .i64 d.to, .int .i64 d.n]] w fun e w' => e = .returned (.tuple #[]) ∧ Shop 25 174 B w' s ad cp (resA p d) ∧ Below B w w' := by
  cases h1 : argB p d
  · simp [errA, hk, h1] at he
  · by_cases h2 : p.bottles < d.n
    · simp [errA, hk, h1, h2] at he
    · rw [show resA p d = fillP p d by simp [resA, hk]]
      exact f_fill_ok d h hp h1 (by omega)

theorem act3_no {B s cp : Nat} {ad : Option Addr} {p : Plant} {w : World} (d : Deed) (h : Shop 25 174 B w s ad cp p) (hp : plantB p = true) (hk : d.kind = 3) (he : errA p d ≠ 0) : Calls Try.prog 108 #[.pointer (some ⟨s, 0, none⟩), .agg #[.int .u8 d.kind, .int .i64 d.cell, .int .i64 d.to, .int .i64 d.n]] w fun e w' => e = .panicked [{ v := refusal (errA p d), recovered := false }] ∧ Kept w w' := by
  cases h1 : argB p d
  · rw [show errA p d = 2 by simp [errA, hk, *]]
    exact f_valve_no1 d h hp h1
  · by_cases h2 : amount (at_ p d) < d.n
    · rw [show errA p d = 6 by simp [errA, hk, *]]
      exact f_valve_no2 d h hp h1 h2
    · exact absurd (by simp [errA, hk, *]) he
theorem act3_ok {B s cp : Nat} {ad : Option Addr} {p : Plant} {w : World} (d : Deed) (h : Shop 25 174 B w s ad cp p) (hp : plantB p = true) (hk : d.kind = 3) (he : errA p d = 0) : Calls Try.prog 108 #[.pointer (some ⟨s, 0, none⟩), .agg #[.int .u8 d.kind, .int .i64 d.cell, .int .i64 d.to, .int .i64 d.n]] w fun e w' => e = .returned (.tuple #[]) ∧ Shop 25 174 B w' s ad cp (resA p d) ∧ Below B w w' := by
  cases h1 : argB p d
  · simp [errA, hk, h1] at he
  · by_cases h2 : amount (at_ p d) < d.n
    · simp [errA, hk, h1, h2] at he
    · rw [show resA p d = valveP p d by simp [resA, hk]]
      exact f_valve_ok d h hp h1 h2

theorem act4_no {B s cp : Nat} {ad : Option Addr} {p : Plant} {w : World} (d : Deed) (h : Shop 25 174 B w s ad cp p) (hp : plantB p = true) (hk : d.kind = 4) (he : errA p d ≠ 0) : Calls Try.prog 109 #[.pointer (some ⟨s, 0, none⟩), .agg #[.int .u8 d.kind, .int .i64 d.cell, .int .i64 d.to, .int .i64 d.n]] w fun e w' => e = .panicked [{ v := refusal (errA p d), recovered := false }] ∧ Kept w w' := by
  cases h1 : argB p d
  · rw [show errA p d = 2 by simp [errA, hk, *]]
    exact f_move_no1 d h hp h1
  · cases h2 : rng [d.to] 0 (p.cells.length - 1)
    · have h5 : toB p d = false := by simp [toB, h2]
      rw [show errA p d = 2 by simp [errA, hk, *]]
      exact f_move_no2 d h hp h1 h2
    · by_cases h3 : d.to = d.cell
      · have h5 : toB p d = false := by simp [toB, h3]
        rw [show errA p d = 2 by simp [errA, hk, *]]
        exact f_move_no3 d h hp h1 h2 h3
      · have h5 : toB p d = true := by simp [toB, h2, h3]
        by_cases h4 : amount (at_ p d) < d.n
        · rw [show errA p d = 6 by simp [errA, hk, *]]
          exact f_move_no4 d h hp h1 h2 h3 h4
        · exact absurd (by simp [errA, hk, *]) he
theorem act4_ok {B s cp : Nat} {ad : Option Addr} {p : Plant} {w : World} (d : Deed) (h : Shop 25 174 B w s ad cp p) (hp : plantB p = true) (hk : d.kind = 4) (he : errA p d = 0) : Calls Try.prog 109 #[.pointer (some ⟨s, 0, none⟩), .agg #[.int .u8 d.kind, .int .i64 d.cell, .int .i64 d.to, .int .i64 d.n]] w fun e w' => e = .returned (.tuple #[]) ∧ Shop 25 174 B w' s ad cp (resA p d) ∧ Below B w w' := by
  cases h1 : argB p d
  · simp [errA, hk, h1] at he
  · cases h2 : rng [d.to] 0 (p.cells.length - 1)
    · simp [errA, hk, h1, toB, h2] at he
    · by_cases h3 : d.to = d.cell
      · simp [errA, hk, h1, toB, h3] at he
      · by_cases h4 : amount (at_ p d) < d.n
        · simp [errA, hk, h1, toB, h2, h3, h4] at he
        · rw [show resA p d = moveP p d by simp [resA, hk]]
          exact f_move_ok d h hp h1 h2 h3 h4

theorem act5_no {B s cp : Nat} {ad : Option Addr} {p : Plant} {w : World} (d : Deed) (h : Shop 25 174 B w s ad cp p) (hp : plantB p = true) (hk : d.kind = 5) (he : errA p d ≠ 0) : Calls Try.prog 110 #[.pointer (some ⟨s, 0, none⟩), .agg #[.int .u8 d.kind, .int .i64 d.cell, .int .i64 d.to, .int .i64 d.n]] w fun e w' => e = .panicked [{ v := refusal (errA p d), recovered := false }] ∧ Kept w w' := by
  cases h1 : argB p d
  · rw [show errA p d = 2 by simp [errA, hk, *]]
    exact f_purify_no1 d h hp h1
  · by_cases h2 : amount (at_ p d) < d.n
    · rw [show errA p d = 6 by simp [errA, hk, *]]
      exact f_purify_no2 d h hp h1 h2
    · exact absurd (by simp [errA, hk, *]) he
theorem act5_ok {B s cp : Nat} {ad : Option Addr} {p : Plant} {w : World} (d : Deed) (h : Shop 25 174 B w s ad cp p) (hp : plantB p = true) (hk : d.kind = 5) (he : errA p d = 0) : Calls Try.prog 110 #[.pointer (some ⟨s, 0, none⟩), .agg #[.int .u8 d.kind, .int .i64 d.cell, .int .i64 d.to, .int .i64 d.n]] w fun e w' => e = .returned (.tuple #[]) ∧ Shop 25 174 B w' s ad cp (resA p d) ∧ Below B w w' := by
  cases h1 : argB p d
  · simp [errA, hk, h1] at he
  · by_cases h2 : amount (at_ p d) < d.n
    · simp [errA, hk, h1, h2] at he
    · rw [show resA p d = purifyP p d by simp [resA, hk]]
      exact f_purify_ok d h hp h1 h2

theorem act6_no {B s cp : Nat} {ad : Option Addr} {p : Plant} {w : World} (d : Deed) (h : Shop 25 174 B w s ad cp p) (hp : plantB p = true) (hk : d.kind = 6) (he : errA p d ≠ 0) : Calls Try.prog 111 #[.pointer (some ⟨s, 0, none⟩), .agg #[.int .u8 d.kind, .int .i64 d.cell, .int .i64 d.to, .int .i64 d.n]] w fun e w' => e = .panicked [{ v := refusal (errA p d), recovered := false }] ∧ Kept w w' := by
  cases h1 : argB p d
  · rw [show errA p d = 2 by simp [errA, hk, *]]
    exact f_breathe_no d h hp h1
  · exact absurd (by simp [errA, hk, *]) he
theorem act6_ok {B s cp : Nat} {ad : Option Addr} {p : Plant} {w : World} (d : Deed) (h : Shop 25 174 B w s ad cp p) (hp : plantB p = true) (hk : d.kind = 6) (he : errA p d = 0) : Calls Try.prog 111 #[.pointer (some ⟨s, 0, none⟩), .agg #[.int .u8 d.kind, .int .i64 d.cell, .int .i64 d.to, .int .i64 d.n]] w fun e w' => e = .returned (.tuple #[]) ∧ Shop 25 174 B w' s ad cp (resA p d) ∧ Below B w w' := by
  cases h1 : argB p d
  · simp [errA, hk, h1] at he
  · rw [show resA p d = breatheP p d by simp [resA, hk]]
    exact f_breathe_ok d h hp h1

theorem act7_no {B s cp : Nat} {ad : Option Addr} {p : Plant} {w : World} (d : Deed) (h : Shop 25 174 B w s ad cp p) (hp : plantB p = true) (hk : d.kind = 7) (he : errA p d ≠ 0) : Calls Try.prog 112 #[.pointer (some ⟨s, 0, none⟩), .agg #[.int .u8 d.kind, .int .i64 d.cell, .int .i64 d.to, .int .i64 d.n]] w fun e w' => e = .panicked [{ v := refusal (errA p d), recovered := false }] ∧ Kept w w' := by
  cases h1 : rng [d.n] 1 1000
  · rw [show errA p d = 2 by simp [errA, hk, *]]
    exact f_tick_no d h hp h1
  · exact absurd (by simp [errA, hk, *]) he
theorem act7_ok {B s cp : Nat} {ad : Option Addr} {p : Plant} {w : World} (d : Deed) (h : Shop 25 174 B w s ad cp p) (hp : plantB p = true) (hk : d.kind = 7) (he : errA p d = 0) : Calls Try.prog 112 #[.pointer (some ⟨s, 0, none⟩), .agg #[.int .u8 d.kind, .int .i64 d.cell, .int .i64 d.to, .int .i64 d.n]] w fun e w' => e = .returned (.tuple #[]) ∧ Shop 25 174 B w' s ad cp (resA p d) ∧ Below B w w' := by
  cases h1 : rng [d.n] 1 1000
  · simp [errA, hk, h1] at he
  · rw [show resA p d = tickP p d by simp [resA, hk]]
    exact f_tick_ok d h hp h1

end Go.Proofs.Ytemafanncejeiaa

/-
  The reference: a tick.
-/
namespace Go.Proofs.Ytemafanncejeiaa
open Go.RowKit Bal Bal.Trim Bal.Gas
set_option linter.unusedVariables false
set_option linter.unusedSimpArgs false
set_option maxHeartbeats 8000000
set_option maxRecDepth 100000

theorem set_same {α : Type} {l : List α} {k : Nat} {x : α} (h : l[k]? = some x) : l.set k x = l := by
  obtain ⟨hk, rfl⟩ := List.getElem?_eq_some_iff.1 h
  exact List.set_getElem_self hk
theorem r_takenK {B g n0 cp k : Nat} {q : Plant} {w : World} (h : Mine 25 B w (.slice (some ⟨g, 0, none⟩) n0 cp) q.cells) {x : Cell} (hx : q.cells[k]? = some x) (hv : cellB x = true) (hl : q.cells.length ≤ 12) (n : Int) (h0 : 1 ≤ n) (h1 : n ≤ x.helium + x.air) :
    Calls Try.prog 118 #[.agg #[.slice (some ⟨g, 0, none⟩) n0 cp, .int .i64 (q.bottles), .int .i64 (q.inH), .int .i64 (q.inA), .int .i64 (q.vH), .int .i64 (q.vA), .int .i64 (q.lH), .int .i64 (q.lA), .int .i64 (q.pH), .int .i64 (q.pA)], .int .i64 k, .int .i64 n] w fun e w' => e = .returned (.agg #[.int .i64 (shareH x n), .int .i64 (n - shareH x n)]) ∧ Mine 25 B w' (.slice (some ⟨g, 0, none⟩) n0 cp) (q.cells.set k (less x n)) ∧ Below B w w' ∧ Besides 25 w w' := by
  have := r_taken h (k : Int) (by omega) (x := x) (by rw [Int.toNat_natCast]; exact hx) hv hl n h0 h1
  rwa [Int.toNat_natCast] at this

theorem r_ticked {B cp : Nat} {ad : Option Addr} {p : Plant} {w : World} (h : Mine 25 B w (.slice ad p.cells.length cp) p.cells) (hp : plantB p = true) (hB : B ≤ w.heap.size) :
    Calls Try.prog 120 #[.agg #[.slice ad p.cells.length cp, .int .i64 (p.bottles), .int .i64 (p.inH), .int .i64 (p.inA), .int .i64 (p.vH), .int .i64 (p.vA), .int .i64 (p.lH), .int .i64 (p.lA), .int .i64 (p.pH), .int .i64 (p.pA)]] w fun e w' => e = .returned (.agg #[.slice ad p.cells.length cp, .int .i64 ((tickTo p p.cells.length).bottles), .int .i64 ((tickTo p p.cells.length).inH), .int .i64 ((tickTo p p.cells.length).inA), .int .i64 ((tickTo p p.cells.length).vH), .int .i64 ((tickTo p p.cells.length).vA), .int .i64 ((tickTo p p.cells.length).lH), .int .i64 ((tickTo p p.cells.length).lA), .int .i64 ((tickTo p p.cells.length).pH), .int .i64 ((tickTo p p.cells.length).pA)]) ∧ Mine 25 B w' (.slice ad p.cells.length cp) (tickTo p p.cells.length).cells ∧ Below B w w' ∧ Besides 25 w w' := by
  have HP := Lib.hid hp
  have hn12 : p.cells.length ≤ 12 := (plantB_iff.1 hp).1
  have HLEN := Lib.hid (fun k => tickTo_len p k)
  have HBK := Lib.hid (fun k (hk : k ≤ p.cells.length) => tickTo_B HP.out k hk)
  have hcl : p.cells.length ≤ cp ∧ cp ≤ maxLen := ⟨h.row.2.2.1, h.row.2.2.2.1⟩
  unfold maxLen at hcl
  obtain ⟨Q, hQ⟩ : ∃ Q, Q = tickTo p p.cells.length := ⟨_, rfl⟩
  have HQ := Lib.hid hQ
  rw [← hQ]
  clear hp hQ
  go_enter Try.func120, Try.ntmps120
  go_upto_region 2 with fail
  refine at_world (S := fun W => Blk W w.heap.size #[.slice ad p.cells.length cp, .int .i64 (p.bottles), .int .i64 (p.inH), .int .i64 (p.inA), .int .i64 (p.vH), .int .i64 (p.vA), .int .i64 (p.lH), .int .i64 (p.lA), .int .i64 (p.pH), .int .i64 (p.pA)] 63 ∧ Blk W (w.heap.size + 1) #[.slice none 0 0, .int .i64 0, .int .i64 0, .int .i64 0, .int .i64 0, .int .i64 0, .int .i64 0, .int .i64 0, .int .i64 0, .int .i64 0] 63 ∧ Mine 25 B W (.slice ad p.cells.length cp) p.cells ∧ Below B w W ∧ Besides 25 w W ∧ w.heap.size + 1 < W.heap.size) ⟨by (exact blkc), by (exact blkc), h.keep (by (exact kpt)), ((Below.refl B w).alloc hB _).alloc (by simp; omega) _, Besides.keep (by (exact kpt)), by simp⟩ ?_
  rintro W ⟨r0, r9, hmW, hbW, hxW, hzW⟩
  go_loopw [3] (fun i wq => ∃ k : Nat, k ≤ p.cells.length ∧ i = .int .i64 k ∧ Blk wq w.heap.size #[.slice ad p.cells.length cp, .int .i64 ((tickTo p k).bottles), .int .i64 ((tickTo p k).inH), .int .i64 ((tickTo p k).inA), .int .i64 ((tickTo p k).vH), .int .i64 ((tickTo p k).vA), .int .i64 ((tickTo p k).lH), .int .i64 ((tickTo p k).lA), .int .i64 ((tickTo p k).pH), .int .i64 ((tickTo p k).pA)] 63 ∧ Blk wq (w.heap.size + 1) #[.slice none 0 0, .int .i64 0, .int .i64 0, .int .i64 0, .int .i64 0, .int .i64 0, .int .i64 0, .int .i64 0, .int .i64 0, .int .i64 0] 63 ∧ Mine 25 B wq (.slice ad p.cells.length cp) (tickTo p k).cells ∧ Below B w wq ∧ Besides 25 w wq ∧ w.heap.size + 1 < wq.heap.size) (fun i _ => p.cells.length - (intOf i).toNat)
  case atStart => exact ⟨0, Nat.zero_le _, rfl, r0, r9, hmW, hbW, hxW, hzW⟩
  case round =>
    clear r0 r9 hmW hbW hxW hzW
    obtain ⟨k, hk, rfl, r0, r9, hmW, hbW, hxW, hzW⟩ := hrel
    have hqB := HBK.out k hk
    have hql := HLEN.out k
    have HNX := Lib.hid (show tickTo p (k + 1) = leakAt (tickTo p k) k from rfl)
    obtain ⟨q, hq⟩ : ∃ q, q = tickTo p k := ⟨_, rfl⟩
    rw [← hq] at r0 hmW hqB hql HNX
    by_cases hlk : k < p.cells.length
    · have hkq : k < q.cells.length := by omega
      clear hq
      have hb := plantB_iff.1 hqB
      have hcv : cellB q.cells[k] = true := hb.2.2.2.2.2.2.1 _ (List.getElem_mem hkq)
      have hat : cellAt q k = q.cells[k] := cellAt_get hkq
      obtain ⟨g, cur, rfl, hBg, hcur, c0, c1, c2, c3, c4, c5, c6⟩ := hmW.at hkq
      obtain ⟨x, hx⟩ : ∃ x, x = q.cells[k] := ⟨_, rfl⟩
      have HX := Lib.hid (show q.cells[k]? = some x by rw [hx]; simp [hkq])
      rw [← hx] at hcv hat c0 c1 c2 c3 c4 c5 c6
      have HAT := Lib.hid hat
      have hxb := cellB_iff.1 hcv
      have hlb := leak_bd hcv
      have HCV := Lib.hid hcv
      obtain ⟨_, _, _, _, ⟨⟨hb6, hb7⟩, ⟨hb8, hb9⟩⟩, _⟩ := hb
      clear hcv hat hx hqB
      have HAC := fun (W : World) => r_amount x W HCV.out
      obtain ⟨AM, hAM⟩ : ∃ y, y = amount x := ⟨_, rfl⟩
      rw [← hAM] at HAC
      have hame : x.helium + x.air = AM := hAM.symm
      have hame2 : 0 ≤ AM ∧ AM ≤ 20000000 := by omega
      have w2 := i64_inx (n := AM * x.leak) (by rw [hame] at hlb; omega)
      have w3 := i64_inx (n := x.owed + AM * x.leak) (by rw [hame] at hlb; omega)
      obtain ⟨SUM, hSUM⟩ : ∃ y, y = x.owed + AM * x.leak := ⟨_, rfl⟩
      have HSU := Lib.hid (show x.owed + AM * x.leak = SUM from hSUM.symm)
      have HSX := Lib.hid (show x.owed + (x.helium + x.air) * x.leak = SUM by rw [hame]; exact hSUM.symm)
      have hlb1 : 0 ≤ SUM ∧ SUM ≤ 2000001000000 := by rw [HSX.out] at hlb; exact hlb.1
      have HL := Lib.hid (show SUM / 1000000 = leakN x by unfold leakN; rw [HSX.out])
      obtain ⟨L, hL⟩ : ∃ y, y = leakN x := ⟨_, rfl⟩
      rw [← hL] at hlb HL
      obtain ⟨_, _, hlb3, hlb4⟩ := hlb
      have HLL := Lib.hid hL
      clear hL hSUM hAM hame
      have k0 : (0 : Int) ≤ (k : Int) := by omega
      have k1 : (k : Int) < (p.cells.length : Int) := by omega
      have r0c0 := r0.cell 0
      have r0f0 := r0.free 0
      have r0c1 := r0.cell 1
      have r0f1 := r0.free 1
      have r0c2 := r0.cell 2
      have r0f2 := r0.free 2
      have r0c3 := r0.cell 3
      have r0f3 := r0.free 3
      have r0c4 := r0.cell 4
      have r0f4 := r0.free 4
      have r0c5 := r0.cell 5
      have r0f5 := r0.free 5
      have r0c6 := r0.cell 6
      have r0f6 := r0.free 6
      have r0c7 := r0.cell 7
      have r0f7 := r0.free 7
      have r0c8 := r0.cell 8
      have r0f8 := r0.free 8
      have r0c9 := r0.cell 9
      have r0f9 := r0.free 9
      have r0l := r0.lt
      simp at r0c0 r0c1 r0c2 r0c3 r0c4 r0c5 r0c6 r0c7 r0c8 r0c9
      go_upto_region 4 with fail
      clear r0c0 r0f0 r0c1 r0f1 r0c2 r0f2 r0c3 r0f3 r0c4 r0f4 r0c5 r0f5 r0c6 r0f6 r0c7 r0f7 r0c8 r0f8 r0c9 r0f9 r0l
      refine at_world (S := fun X => Blk X w.heap.size #[.slice (some ⟨g, 0, none⟩) p.cells.length cp, .int .i64 (q.bottles), .int .i64 (q.inH), .int .i64 (q.inA), .int .i64 (q.vH), .int .i64 (q.vA), .int .i64 (q.lH), .int .i64 (q.lA), .int .i64 (q.pH), .int .i64 (q.pA)] 63 ∧ Blk X (w.heap.size + 1) #[.slice none 0 0, .int .i64 0, .int .i64 0, .int .i64 0, .int .i64 0, .int .i64 0, .int .i64 0, .int .i64 0, .int .i64 0, .int .i64 0] 63 ∧ Mine 25 B X (.slice (some ⟨g, 0, none⟩) p.cells.length cp) q.cells ∧ Below B w X ∧ Besides 25 w X ∧ w.heap.size + 1 < X.heap.size ∧ Blk X g cur 25 ∧ X.cell? ⟨g, k * 7, none⟩ = some (.int .i64 x.room) ∧ X.cell? ⟨g, k * 7 + 1, none⟩ = some (.int .i64 x.helium) ∧ X.cell? ⟨g, k * 7 + 2, none⟩ = some (.int .i64 x.air) ∧ X.cell? ⟨g, k * 7 + 3, none⟩ = some (.int .i64 x.wlo) ∧ X.cell? ⟨g, k * 7 + 4, none⟩ = some (.int .i64 x.whi) ∧ X.cell? ⟨g, k * 7 + 5, none⟩ = some (.int .i64 x.leak) ∧ X.cell? ⟨g, k * 7 + 6, none⟩ = some (.int .i64 x.owed)) ⟨r0, r9, hmW, hbW, hxW, hzW, hcur, c0, c1, c2, c3, c4, c5, c6⟩ ?_
      clear r0 r9 hmW hbW hxW hzW hcur c0 c1 c2 c3 c4 c5 c6
      rintro X ⟨r0, r9, hmX, hbX, hxX, hzX, hcur, c0, c1, c2, c3, c4, c5, c6⟩
      have y0 := fun q : Later X => q.some c0
      have y1 := fun q : Later X => q.some c1
      have y2 := fun q : Later X => q.some c2
      have y3 := fun q : Later X => q.some c3
      have y4 := fun q : Later X => q.some c4
      have y5 := fun q : Later X => q.some c5
      have y6 := fun q : Later X => q.some c6
      clear c0 c1 c2 c3 c4 c5 c6
      have r0c0 := fun g : Later X => (r0.later g).cell 0
      have r0f0 := fun g : Later X => (r0.later g).free 0
      have r0c1 := fun g : Later X => (r0.later g).cell 1
      have r0f1 := fun g : Later X => (r0.later g).free 1
      have r0c2 := fun g : Later X => (r0.later g).cell 2
      have r0f2 := fun g : Later X => (r0.later g).free 2
      have r0c3 := fun g : Later X => (r0.later g).cell 3
      have r0f3 := fun g : Later X => (r0.later g).free 3
      have r0c4 := fun g : Later X => (r0.later g).cell 4
      have r0f4 := fun g : Later X => (r0.later g).free 4
      have r0c5 := fun g : Later X => (r0.later g).cell 5
      have r0f5 := fun g : Later X => (r0.later g).free 5
      have r0c6 := fun g : Later X => (r0.later g).cell 6
      have r0f6 := fun g : Later X => (r0.later g).free 6
      have r0c7 := fun g : Later X => (r0.later g).cell 7
      have r0f7 := fun g : Later X => (r0.later g).free 7
      have r0c8 := fun g : Later X => (r0.later g).cell 8
      have r0f8 := fun g : Later X => (r0.later g).free 8
      have r0c9 := fun g : Later X => (r0.later g).cell 9
      have r0f9 := fun g : Later X => (r0.later g).free 9
      have r0l := fun g : Later X => (r0.later g).lt
      simp at r0c0 r0c1 r0c2 r0c3 r0c4 r0c5 r0c6 r0c7 r0c8 r0c9
      refine Later.region (by kernel_rfl) (by kernel_rfl) ?_
      repeat (first | go_big_quiet_skip | (go_big_quiet_want; go_big_quiet_op; first | go_big_quiet_on | (apply Exists.intro; refine ⟨fun g => ?_, ?_⟩; (focus (first | (go_at_call 85; exact Later.call (HAC _)))); go_big_quiet_on)))
      refine wpQuiet_nil ?_
      intro gg
      rw [HSU.out]
      clear r0c0 r0f0 r0c1 r0f1 r0c2 r0f2 r0c3 r0f3 r0c4 r0f4 r0c5 r0f5 r0c6 r0f6 r0c7 r0f7 r0c8 r0f8 r0c9 r0f9 r0l y0 y1 y2 y3 y4 y5 y6 w2 w3 HAC
      obtain ⟨s0, s1, s2, s3⟩ := share_bd (okC_of HCV.out) hlb3 hlb4
      obtain ⟨T, hT⟩ : ∃ T, T = shareH x L := ⟨_, rfl⟩
      have HTT := Lib.hid (show shareH x L = T from hT.symm)
      rw [← hT] at s0 s1 s2 s3
      have sg := gg.ok.size
      by_cases hpos : 1000000 ≤ SUM
      · have hlt1 : decide (1000000 ≤ SUM) = true := by simp [hpos]
        have hL1 : 1 ≤ L := by have := HL.out; omega
        have HTA := fun (W : World) (h : Mine 25 B W (.slice (some ⟨g, 0, none⟩) p.cells.length cp) q.cells) => r_takenK h HX.out HCV.out (by omega) L hL1 hlb4
        rw [← hT] at HTA
        clear hT
        go_upto_region 6 with fail
        clear hlt1
        refine at_world (S := fun X => Blk X w.heap.size #[.slice (some ⟨g, 0, none⟩) p.cells.length cp, .int .i64 (q.bottles), .int .i64 (q.inH), .int .i64 (q.inA), .int .i64 (q.vH), .int .i64 (q.vA), .int .i64 (q.lH), .int .i64 (q.lA), .int .i64 (q.pH), .int .i64 (q.pA)] 63 ∧ Blk X (w.heap.size + 1) #[.slice none 0 0, .int .i64 0, .int .i64 0, .int .i64 0, .int .i64 0, .int .i64 0, .int .i64 0, .int .i64 0, .int .i64 0, .int .i64 0] 63 ∧ Mine 25 B X (.slice (some ⟨g, 0, none⟩) p.cells.length cp) q.cells ∧ Below B w X ∧ Besides 25 w X ∧ w.heap.size + 1 < X.heap.size) ⟨r0.later gg, r9.later gg, hmX.keep gg.ok, hbX.trans (gg.ok.mono (by omega)), hxX.trans (Besides.keep gg.ok), Nat.lt_of_lt_of_le hzX sg⟩ ?_
        clear r0 r9 hmX hbX hxX hzX sg gg
        rintro X ⟨r0, r9, hmX, hbX, hxX, hzX⟩
        refine held_walk (fun w' => Blk w' w.heap.size #[.slice (some ⟨g, 0, none⟩) p.cells.length cp, .int .i64 (q.bottles), .int .i64 (q.inH), .int .i64 (q.inA), .int .i64 (q.vH), .int .i64 (q.vA), .int .i64 (q.lH), .int .i64 (q.lA), .int .i64 (q.pH), .int .i64 (q.pA)] 63) [(true, 0), (true, 1), (true, 2), (true, 3), (true, 4), (true, 5), (false, 6), (false, 7), (true, 8), (false, 9)] 9 (by kernel_rfl) (by kernel_rfl) (fun c a d v w h => by cases d <;> exact h) r0.drew ?_
        simp only [List.filterMap_cons, List.filterMap_nil, List.getElem?_cons_zero, List.getElem?_cons_succ, Option.map_some]
        iterate 6 ((first | (refine held_take ?_ ?_ (fun w' hS => ?_) ?_; rotate_left 1; (focus rfl); (focus (first | (go_simp; done) | (go_simp; with_reducible rfl) | (obtain hS := hS; have k0 := hS.cell 0; have k1 := hS.cell 1; have k2 := hS.cell 2; have k3 := hS.cell 3; have k4 := hS.cell 4; have k5 := hS.cell 5; have k6 := hS.cell 6; have k7 := hS.cell 7; have k8 := hS.cell 8; have k9 := hS.cell 9; simp at k0 k1 k2 k3 k4 k5 k6 k7 k8 k9; first | (go_simp; done) | (go_simp; with_reducible rfl))))) | (refine held_pass ?_ ?_; (focus rfl))); simp only [Act.put, List.setIfInBounds_toArray, List.set_cons_zero, List.set_cons_succ])
        refine held_one ?_
        refine wpList_plain rfl fun K1 hK1 => ?_
        go_wp2_with (go_at_call 118; rw [HL.out]; (with_reducible refine (HTA _ hmX.drew).mono ?_); rintro e w2 ⟨rfl, hm2, hw2, hbes2⟩)
        refine held_on (Besides.blk hbes2 (by decide) r0.drew) ?_
        refine held_one ?_
        refine wpList_plain rfl fun K1 hK1 => ?_
        go_wp2_with (go_at_call 119; (with_reducible refine (r_plus _ _ _ _ _ (by omega) (by omega) (by omega) (by omega)).mono ?_); rintro e w3 ⟨rfl, hb3⟩)
        refine held_on ((Besides.blk hbes2 (by decide) r0.drew).keep hb3) ?_
        iterate 1 ((first | (refine held_take ?_ ?_ (fun w' hS => ?_) ?_; rotate_left 1; (focus rfl); (focus (first | (go_simp; done) | (go_simp; with_reducible rfl) | (obtain hS := hS; have k0 := hS.cell 0; have k1 := hS.cell 1; have k2 := hS.cell 2; have k3 := hS.cell 3; have k4 := hS.cell 4; have k5 := hS.cell 5; have k6 := hS.cell 6; have k7 := hS.cell 7; have k8 := hS.cell 8; have k9 := hS.cell 9; simp at k0 k1 k2 k3 k4 k5 k6 k7 k8 k9; first | (go_simp; done) | (go_simp; with_reducible rfl))))) | (refine held_pass ?_ ?_; (focus rfl))); simp only [Act.put, List.setIfInBounds_toArray, List.set_cons_zero, List.set_cons_succ])
        refine held_one ?_
        refine wpList_plain rfl fun K1 hK1 => ?_
        have z1 : Blk w3 w.heap.size #[.slice (some ⟨g, 0, none⟩) p.cells.length cp, .int .i64 (q.bottles), .int .i64 (q.inH), .int .i64 (q.inA), .int .i64 (q.vH), .int .i64 (q.vA), .int .i64 (q.lH), .int .i64 (q.lA), .int .i64 (q.pH), .int .i64 (q.pA)] 63 := (Besides.blk hbes2 (by decide) r0.drew).keep hb3
        have z9 : Blk w3 (w.heap.size + 1) #[.slice none 0 0, .int .i64 0, .int .i64 0, .int .i64 0, .int .i64 0, .int .i64 0, .int .i64 0, .int .i64 0, .int .i64 0, .int .i64 0] 63 := (Besides.blk hbes2 (by decide) r9.drew).keep hb3
        have z1c0 := z1.cell 0
        have z1f0 := z1.free 0
        have z1c1 := z1.cell 1
        have z1f1 := z1.free 1
        have z1c2 := z1.cell 2
        have z1f2 := z1.free 2
        have z1c3 := z1.cell 3
        have z1f3 := z1.free 3
        have z1c4 := z1.cell 4
        have z1f4 := z1.free 4
        have z1c5 := z1.cell 5
        have z1f5 := z1.free 5
        have z1c6 := z1.cell 6
        have z1f6 := z1.free 6
        have z1c7 := z1.cell 7
        have z1f7 := z1.free 7
        have z1c8 := z1.cell 8
        have z1f8 := z1.free 8
        have z1c9 := z1.cell 9
        have z1f9 := z1.free 9
        have z1l := z1.lt
        simp at z1c0 z1c1 z1c2 z1c3 z1c4 z1c5 z1c6 z1c7 z1c8 z1c9
        go_wp2
        (first | refine held_end ?_ | (refine onward_on ?_; first | refine held_nil ?_ | refine ⟨.inl trivial, held_nil ?_⟩ | refine ⟨.inl rfl, held_nil ?_⟩))
        go_upto_region 7 with fail
        have e1 : X.heap.size ≤ w2.heap.size := hw2.size
        have e2 := hb3.size
        refine at_world (S := fun Z => Blk Z w.heap.size #[.slice (some ⟨g, 0, none⟩) p.cells.length cp, .int .i64 (q.bottles), .int .i64 (q.inH), .int .i64 (q.inA), .int .i64 (q.vH), .int .i64 (q.vA), .int .i64 (q.lH + T), .int .i64 (q.lA + (L - T)), .int .i64 (q.pH), .int .i64 (q.pA)] 63 ∧ Blk Z (w.heap.size + 1) #[.slice none 0 0, .int .i64 0, .int .i64 0, .int .i64 0, .int .i64 0, .int .i64 0, .int .i64 0, .int .i64 0, .int .i64 0, .int .i64 0] 63 ∧ Mine 25 B Z (.slice (some ⟨g, 0, none⟩) p.cells.length cp) (q.cells.set k (less x L)) ∧ Below B w Z ∧ Besides 25 w Z ∧ w.heap.size + 1 < Z.heap.size) ⟨(z1.set 6 _).set 7 _, by (first | exact (z9.other (by simp) _).other (by simp) _ | (exact blkc)), ((hm2.keep hb3).other z1 (by decide) _).other (z1.set 6 _) (by decide) _, (((((hbX.drew).trans hw2).trans (hb3.mono (by omega))).setCell hB _).setCell hB _), ((((hxX.trans (Besides.keep (Below.refl _ _).drew)).trans hbes2).trans (Besides.keep hb3)).past (Nat.le_refl _) _).past (Nat.le_refl _) _, by simp [World.setCell]; omega⟩ ?_
        rintro Z ⟨z0, z9, hmZ, hbZ, hxZ, hzZ⟩
        clear z1c0 z1f0 z1c1 z1f1 z1c2 z1f2 z1c3 z1f3 z1c4 z1f4 z1c5 z1f5 z1c6 z1f6 z1c7 z1f7 z1c8 z1f8 z1c9 z1f9 z1l
        have hkZ : k < (q.cells.set k (less x L)).length := by simpa using hkq
        obtain ⟨_, cuz, hge, _, hcz, _, _, _, _, _, _, c6⟩ := hmZ.at hkZ
        cases hge
        rw [List.getElem_set_self] at c6
        have d6 : Z.cell? ⟨g, k * 7 + 6, none⟩ = some (.int .i64 x.owed) := c6
        clear c6
        have zf := hcz.free (k * 7 + 6)
        have z0c0 := z0.cell 0
        have z0f0 := z0.free 0
        have z0c1 := z0.cell 1
        have z0f1 := z0.free 1
        have z0c2 := z0.cell 2
        have z0f2 := z0.free 2
        have z0c3 := z0.cell 3
        have z0f3 := z0.free 3
        have z0c4 := z0.cell 4
        have z0f4 := z0.free 4
        have z0c5 := z0.cell 5
        have z0f5 := z0.free 5
        have z0c6 := z0.cell 6
        have z0f6 := z0.free 6
        have z0c7 := z0.cell 7
        have z0f7 := z0.free 7
        have z0c8 := z0.cell 8
        have z0f8 := z0.free 8
        have z0c9 := z0.cell 9
        have z0f9 := z0.free 9
        have z0l := z0.lt
        simp at z0c0 z0c1 z0c2 z0c3 z0c4 z0c5 z0c6 z0c7 z0c8 z0c9
        go_wp2
        go_roundw
        case rel =>
          refine ⟨k + 1, by omega, by go_num, ?_, ?_, ?_, hbZ.setCell hBg _, hxZ.trans (Besides.put hcz _), by simpa [World.setCell] using hzZ⟩
          · rw [HNX.out]
            exact (z0.other (a := ⟨g, k * 7 + 6, none⟩) (fun he => by simp only at he; subst he; have := z0.symm.trans hcz; simp at this) _).cast (by simp [leakAt, HAT.out, ← HLL.out, HTT.out])
          · exact z9.other (a := ⟨g, k * 7 + 6, none⟩) (fun he => by simp only at he; subst he; have := z9.symm.trans hcz; simp at this) _
          · have q1 := hmZ.put (i := k) (j := 6) (c := less x L) (u := .int .i64 (SUM % 1000000)) { less x L with owed := SUM % 1000000 } (List.getElem?_set_self hkq) (by decide) rfl
            rw [List.set_set] at q1
            rw [HNX.out]
            have e : leakC x = { less x L with owed := SUM % 1000000 } := by
              unfold leakC
              rw [HSX.out, ← HLL.out]
            have ec : (leakAt q k).cells = q.cells.set k (leakC x) := by simp [leakAt, HAT.out]
            rw [ec, e]
            exact q1
        case measure => simp [intOf]; omega
      · have hlt1 : decide (1000000 ≤ SUM) = false := by simp; omega
        have hL0 : L = 0 := by have := HL.out; omega
        have HL0 := Lib.hid hL0
        have HT0 := Lib.hid (show T = 0 by rw [hT, hL0]; simp [shareH])
        clear hT hL0
        go_upto_region 7 with fail
        clear hlt1
        refine at_world (S := fun Z => Blk Z w.heap.size #[.slice (some ⟨g, 0, none⟩) p.cells.length cp, .int .i64 (q.bottles), .int .i64 (q.inH), .int .i64 (q.inA), .int .i64 (q.vH), .int .i64 (q.vA), .int .i64 (q.lH + T), .int .i64 (q.lA + (L - T)), .int .i64 (q.pH), .int .i64 (q.pA)] 63 ∧ Blk Z (w.heap.size + 1) #[.slice none 0 0, .int .i64 0, .int .i64 0, .int .i64 0, .int .i64 0, .int .i64 0, .int .i64 0, .int .i64 0, .int .i64 0, .int .i64 0] 63 ∧ Mine 25 B Z (.slice (some ⟨g, 0, none⟩) p.cells.length cp) (q.cells.set k (less x L)) ∧ Below B w Z ∧ Besides 25 w Z ∧ w.heap.size + 1 < Z.heap.size) ⟨(r0.later gg).cast (by rw [HL0.out, HT0.out]; simp), r9.later gg, by rw [show less x L = x by rw [HL0.out]; exact less_zero x, set_same HX.out]; exact hmX.keep gg.ok, hbX.trans (gg.ok.mono (by omega)), hxX.trans (Besides.keep gg.ok), Nat.lt_of_lt_of_le hzX sg⟩ ?_
        rintro Z ⟨z0, z9, hmZ, hbZ, hxZ, hzZ⟩
        have hkZ : k < (q.cells.set k (less x L)).length := by simpa using hkq
        obtain ⟨_, cuz, hge, _, hcz, _, _, _, _, _, _, c6⟩ := hmZ.at hkZ
        cases hge
        rw [List.getElem_set_self] at c6
        have d6 : Z.cell? ⟨g, k * 7 + 6, none⟩ = some (.int .i64 x.owed) := c6
        clear c6
        have zf := hcz.free (k * 7 + 6)
        have z0c0 := z0.cell 0
        have z0f0 := z0.free 0
        have z0c1 := z0.cell 1
        have z0f1 := z0.free 1
        have z0c2 := z0.cell 2
        have z0f2 := z0.free 2
        have z0c3 := z0.cell 3
        have z0f3 := z0.free 3
        have z0c4 := z0.cell 4
        have z0f4 := z0.free 4
        have z0c5 := z0.cell 5
        have z0f5 := z0.free 5
        have z0c6 := z0.cell 6
        have z0f6 := z0.free 6
        have z0c7 := z0.cell 7
        have z0f7 := z0.free 7
        have z0c8 := z0.cell 8
        have z0f8 := z0.free 8
        have z0c9 := z0.cell 9
        have z0f9 := z0.free 9
        have z0l := z0.lt
        simp at z0c0 z0c1 z0c2 z0c3 z0c4 z0c5 z0c6 z0c7 z0c8 z0c9
        go_wp2
        go_roundw
        case rel =>
          refine ⟨k + 1, by omega, by go_num, ?_, ?_, ?_, hbZ.setCell hBg _, hxZ.trans (Besides.put hcz _), by simpa [World.setCell] using hzZ⟩
          · rw [HNX.out]
            exact (z0.other (a := ⟨g, k * 7 + 6, none⟩) (fun he => by simp only at he; subst he; have := z0.symm.trans hcz; simp at this) _).cast (by simp [leakAt, HAT.out, ← HLL.out, HTT.out])
          · exact z9.other (a := ⟨g, k * 7 + 6, none⟩) (fun he => by simp only at he; subst he; have := z9.symm.trans hcz; simp at this) _
          · have q1 := hmZ.put (i := k) (j := 6) (c := less x L) (u := .int .i64 (SUM % 1000000)) { less x L with owed := SUM % 1000000 } (List.getElem?_set_self hkq) (by decide) rfl
            rw [List.set_set] at q1
            rw [HNX.out]
            have e : leakC x = { less x L with owed := SUM % 1000000 } := by
              unfold leakC
              rw [HSX.out, ← HLL.out]
            have ec : (leakAt q k).cells = q.cells.set k (leakC x) := by simp [leakAt, HAT.out]
            rw [ec, e]
            exact q1
        case measure => simp [intOf]; omega
    · obtain rfl : k = p.cells.length := by omega
      clear HNX
      obtain rfl : Q = q := HQ.out.trans hq.symm
      clear hq
      have r0c0 := r0.cell 0
      have r0f0 := r0.free 0
      have r0c1 := r0.cell 1
      have r0f1 := r0.free 1
      have r0c2 := r0.cell 2
      have r0f2 := r0.free 2
      have r0c3 := r0.cell 3
      have r0f3 := r0.free 3
      have r0c4 := r0.cell 4
      have r0f4 := r0.free 4
      have r0c5 := r0.cell 5
      have r0f5 := r0.free 5
      have r0c6 := r0.cell 6
      have r0f6 := r0.free 6
      have r0c7 := r0.cell 7
      have r0f7 := r0.free 7
      have r0c8 := r0.cell 8
      have r0f8 := r0.free 8
      have r0c9 := r0.cell 9
      have r0f9 := r0.free 9
      have r0l := r0.lt
      simp at r0c0 r0c1 r0c2 r0c3 r0c4 r0c5 r0c6 r0c7 r0c8 r0c9
      have r9c0 := r9.cell 0
      have r9f0 := r9.free 0
      have r9c1 := r9.cell 1
      have r9f1 := r9.free 1
      have r9c2 := r9.cell 2
      have r9f2 := r9.free 2
      have r9c3 := r9.cell 3
      have r9f3 := r9.free 3
      have r9c4 := r9.cell 4
      have r9f4 := r9.free 4
      have r9c5 := r9.cell 5
      have r9f5 := r9.free 5
      have r9c6 := r9.cell 6
      have r9f6 := r9.free 6
      have r9c7 := r9.cell 7
      have r9f7 := r9.free 7
      have r9c8 := r9.cell 8
      have r9f8 := r9.free 8
      have r9c9 := r9.cell 9
      have r9f9 := r9.free 9
      have r9l := r9.lt
      simp at r9c0 r9c1 r9c2 r9c3 r9c4 r9c5 r9c6 r9c7 r9c8 r9c9
      go_wp2
      refine bodyPost_ret (v := .agg #[.slice ad p.cells.length cp, .int .i64 (Q.bottles), .int .i64 (Q.inH), .int .i64 (Q.inA), .int .i64 (Q.vH), .int .i64 (Q.vA), .int .i64 (Q.lH), .int .i64 (Q.lA), .int .i64 (Q.pH), .int .i64 (Q.pA)]) (by simp [results, Try.results120, go_sem, r9c0, r9f0, r9c1, r9f1, r9c2, r9f2, r9c3, r9f3, r9c4, r9f4, r9c5, r9f5, r9c6, r9f6, r9c7, r9f7, r9c8, r9f8, r9c9, r9f9, r0c0, r0f0, r0c1, r0f1, r0c2, r0f2, r0c3, r0f3, r0c4, r0f4, r0c5, r0f5, r0c6, r0f6, r0c7, r0f7, r0c8, r0f8, r0c9, r0f9]) rfl ⟨rfl, ?_, ?_, ?_⟩
      · have hn9 := hmW.ne r9 (by decide)
        (repeat (with_reducible refine Mine.off ?_ (by with_reducible assumption) _))
        exact hmW
      · (repeat (with_reducible refine Below.setCell ?_ (by simp; omega) _))
        exact hbW
      · (repeat (with_reducible refine Besides.past ?_ (by simp) _))
        exact hxW

end Go.Proofs.Ytemafanncejeiaa

/-
  The reference: Do, its early ends.
-/
namespace Go.Proofs.Ytemafanncejeiaa
open Go.RowKit Bal Bal.Trim Bal.Gas
set_option linter.unusedVariables false
set_option linter.unusedSimpArgs false
set_option maxHeartbeats 8000000
set_option maxRecDepth 100000

theorem r_sized (p : Plant) (d : Deed) (a : Option Addr) (cap : Nat) (w : World) (hc : p.cells.length ≤ cap) (hM : cap ≤ maxLen) :
    Calls Try.prog 116 #[.agg #[.slice a p.cells.length cap, .int .i64 p.bottles, .int .i64 p.inH, .int .i64 p.inA, .int .i64 p.vH, .int .i64 p.vA, .int .i64 p.lH, .int .i64 p.lA, .int .i64 p.pH, .int .i64 p.pA], .agg #[.int .u8 d.kind, .int .i64 d.cell, .int .i64 d.to, .int .i64 d.n]] w fun e w' => e = .returned (.int .i64 (sizedE p d)) ∧ Kept w w' := by
  by_cases k7 : d.kind = 7
  · cases hn : inB d.n 1 1000
    · rw [show sizedE p d = 2 by simp [sizedE, k7, hn]]
      exact r_sized2 p d a cap w hc hM k7 hn
    · rw [show sizedE p d = 0 by simp [sizedE, k7, hn]]
      exact r_sized1 p d a cap w hc hM k7 hn
  · by_cases l1 : d.kind < 1
    · rw [show sizedE p d = 2 by simp [sizedE, k7, l1]]
      exact r_sized3 p d a cap w hc hM l1
    · by_cases l6 : 6 < d.kind
      · rw [show sizedE p d = 2 by simp [sizedE, k7, l6]]
        exact r_sized4 p d a cap w hc hM l6 k7
      · cases hn : inB d.n 1 10000000
        · rw [show sizedE p d = 2 by simp [sizedE, k7, hn]]
          exact r_sized5 p d a cap w hc hM (by omega) (by omega) hn
        · by_cases k1 : d.kind = 1
          · rw [show sizedE p d = 0 by simp [sizedE, k1, hn]]
            exact r_sized6 p d a cap w hc hM k1 hn
          · cases hl : inB d.cell 0 (p.cells.length - 1)
            · rw [show sizedE p d = 2 by simp [sizedE, k7, l1, l6, hn, k1, hl]]
              exact r_sized7 p d a cap w hc hM (by omega) (by omega) hn hl
            · by_cases k4 : d.kind = 4
              · cases ht : inB d.to 0 (p.cells.length - 1)
                · rw [show sizedE p d = 2 by simp [sizedE, k7, l1, l6, hn, k1, hl, k4, ht]]
                  exact r_sized9 p d a cap w hc hM k4 hn hl ht
                · by_cases he : d.to = d.cell
                  · rw [show sizedE p d = 2 by rw [he] at ht; simp [sizedE, k7, l1, l6, hn, k1, hl, k4, ht, he]]
                    exact r_sized10 p d a cap w hc hM k4 hn hl ht he
                  · rw [show sizedE p d = 0 by simp [sizedE, k7, l1, l6, hn, k1, hl, k4, ht, he]]
                    exact r_sized11 p d a cap w hc hM k4 hn hl ht he
              · rw [show sizedE p d = 0 by simp [sizedE, k7, l1, l6, hn, k1, hl, k4]]
                exact r_sized8 p d a cap w hc hM (by omega) (by omega) k4 hn hl
theorem r_Do_bad (p : Plant) (d : Deed) (a : Option Addr) (cap : Nat) (w : World) (hx : Row Cell.cells 7 w.heap.size w a p.cells) (hc : p.cells.length ≤ cap) (hM : cap ≤ maxLen) (hz : a = none → cap = 0) (hp : plantB p = false) : Calls Try.prog 49 #[.agg #[.slice a p.cells.length cap, .int .i64 p.bottles, .int .i64 p.inH, .int .i64 p.inA, .int .i64 p.vH, .int .i64 p.vA, .int .i64 p.lH, .int .i64 p.lA, .int .i64 p.pH, .int .i64 p.pA], .agg #[.int .u8 d.kind, .int .i64 d.cell, .int .i64 d.to, .int .i64 d.n]] w fun e w' => e = .returned (.tuple #[.agg #[.slice none 0 0, .int .i64 0, .int .i64 0, .int .i64 0, .int .i64 0, .int .i64 0, .int .i64 0, .int .i64 0, .int .i64 0, .int .i64 0], .int .i64 32]) ∧ Kept w w' := by
  have HP := Lib.hid hp
  clear hp
  go_enter Try.func49, Try.ntmps49
  go_upto_region 2 with (go_at_call 115; (with_reducible refine (r_Plant p a cap _ (hx.later (by (exact kpt)) (Nat.le_refl _)) hc hM).mono ?_); rw [HP.out]; rintro e w1 ⟨rfl, hb1⟩; refine Blk.thru (b := w.heap.size) (arr := ?_) (t := ?_) ?_ hb1 ?_; rotate_left 2; (focus (exact blk)); intro rr; have rrc0 := rr.cell 0; have rrf0 := rr.free 0; have rrc1 := rr.cell 1; have rrf1 := rr.free 1; have rrc2 := rr.cell 2; have rrf2 := rr.free 2; have rrc3 := rr.cell 3; have rrf3 := rr.free 3; have rrc4 := rr.cell 4; have rrf4 := rr.free 4; have rrc5 := rr.cell 5; have rrf5 := rr.free 5; have rrc6 := rr.cell 6; have rrf6 := rr.free 6; have rrc7 := rr.cell 7; have rrf7 := rr.free 7; have rrc8 := rr.cell 8; have rrf8 := rr.free 8; have rrc9 := rr.cell 9; have rrf9 := rr.free 9; have rrl := rr.lt; simp at rrc0 rrc1 rrc2 rrc3 rrc4 rrc5 rrc6 rrc7 rrc8 rrc9; refine Blk.thru (b := (w.heap.size + 1)) (arr := ?_) (t := ?_) ?_ hb1 ?_; rotate_left 2; (focus (exact blk)); intro rq; have rqc0 := rq.cell 0; have rqf0 := rq.free 0; have rqc1 := rq.cell 1; have rqf1 := rq.free 1; have rqc2 := rq.cell 2; have rqf2 := rq.free 2; have rqc3 := rq.cell 3; have rqf3 := rq.free 3; have rql := rq.lt; simp at rqc0 rqc1 rqc2 rqc3)
  refine at_world (S := fun W => Blk W w.heap.size #[.slice a p.cells.length cap, .int .i64 p.bottles, .int .i64 p.inH, .int .i64 p.inA, .int .i64 p.vH, .int .i64 p.vA, .int .i64 p.lH, .int .i64 p.lA, .int .i64 p.pH, .int .i64 p.pA] 63 ∧ Blk W (w.heap.size + 1) #[.int .u8 d.kind, .int .i64 d.cell, .int .i64 d.to, .int .i64 d.n] 65 ∧ Blk W (w.heap.size + 1 + 1) #[.slice none 0 0, .int .i64 0, .int .i64 0, .int .i64 0, .int .i64 0, .int .i64 0, .int .i64 0, .int .i64 0, .int .i64 0, .int .i64 0] 63 ∧ Kept w W) ⟨by (exact blkc), by (exact blkc), by (exact blkc), by (exact kpt)⟩ ?_
  rintro W ⟨b0, b1, b2, hk⟩
  have b0c0 := b0.cell 0
  have b0f0 := b0.free 0
  have b0c1 := b0.cell 1
  have b0f1 := b0.free 1
  have b0c2 := b0.cell 2
  have b0f2 := b0.free 2
  have b0c3 := b0.cell 3
  have b0f3 := b0.free 3
  have b0c4 := b0.cell 4
  have b0f4 := b0.free 4
  have b0c5 := b0.cell 5
  have b0f5 := b0.free 5
  have b0c6 := b0.cell 6
  have b0f6 := b0.free 6
  have b0c7 := b0.cell 7
  have b0f7 := b0.free 7
  have b0c8 := b0.cell 8
  have b0f8 := b0.free 8
  have b0c9 := b0.cell 9
  have b0f9 := b0.free 9
  have b0l := b0.lt
  simp at b0c0 b0c1 b0c2 b0c3 b0c4 b0c5 b0c6 b0c7 b0c8 b0c9
  have b1c0 := b1.cell 0
  have b1f0 := b1.free 0
  have b1c1 := b1.cell 1
  have b1f1 := b1.free 1
  have b1c2 := b1.cell 2
  have b1f2 := b1.free 2
  have b1c3 := b1.cell 3
  have b1f3 := b1.free 3
  have b1l := b1.lt
  simp at b1c0 b1c1 b1c2 b1c3
  have b2c0 := b2.cell 0
  have b2f0 := b2.free 0
  have b2c1 := b2.cell 1
  have b2f1 := b2.free 1
  have b2c2 := b2.cell 2
  have b2f2 := b2.free 2
  have b2c3 := b2.cell 3
  have b2f3 := b2.free 3
  have b2c4 := b2.cell 4
  have b2f4 := b2.free 4
  have b2c5 := b2.cell 5
  have b2f5 := b2.free 5
  have b2c6 := b2.cell 6
  have b2f6 := b2.free 6
  have b2c7 := b2.cell 7
  have b2f7 := b2.free 7
  have b2c8 := b2.cell 8
  have b2f8 := b2.free 8
  have b2c9 := b2.cell 9
  have b2f9 := b2.free 9
  have b2l := b2.lt
  simp at b2c0 b2c1 b2c2 b2c3 b2c4 b2c5 b2c6 b2c7 b2c8 b2c9
  go_wp2
  refine bodyPost_ret (v := .tuple #[.agg #[.slice none 0 0, .int .i64 0, .int .i64 0, .int .i64 0, .int .i64 0, .int .i64 0, .int .i64 0, .int .i64 0, .int .i64 0, .int .i64 0], .int .i64 32]) (by simp [results, Try.results49, go_sem, b2c0, b2f0, b2c1, b2f1, b2c2, b2f2, b2c3, b2f3, b2c4, b2f4, b2c5, b2f5, b2c6, b2f6, b2c7, b2f7, b2c8, b2f8, b2c9, b2f9]) rfl ⟨rfl, by (exact kpt)⟩
theorem r_Do_size (p : Plant) (d : Deed) (a : Option Addr) (cap : Nat) (w : World) (hx : Row Cell.cells 7 w.heap.size w a p.cells) (hc : p.cells.length ≤ cap) (hM : cap ≤ maxLen) (hz : a = none → cap = 0) (hp : plantB p = true) (hs : sizedE p d = 2) : Calls Try.prog 49 #[.agg #[.slice a p.cells.length cap, .int .i64 p.bottles, .int .i64 p.inH, .int .i64 p.inA, .int .i64 p.vH, .int .i64 p.vA, .int .i64 p.lH, .int .i64 p.lA, .int .i64 p.pH, .int .i64 p.pA], .agg #[.int .u8 d.kind, .int .i64 d.cell, .int .i64 d.to, .int .i64 d.n]] w fun e w' => e = .returned (.tuple #[.agg #[.slice none 0 0, .int .i64 0, .int .i64 0, .int .i64 0, .int .i64 0, .int .i64 0, .int .i64 0, .int .i64 0, .int .i64 0, .int .i64 0], .int .i64 2]) ∧ Kept w w' := by
  have HP := Lib.hid hp
  have HS := Lib.hid hs
  clear hp hs
  go_enter Try.func49, Try.ntmps49
  go_upto_region 3 with (go_at_call 115; (with_reducible refine (r_Plant p a cap _ (hx.later (by (exact kpt)) (Nat.le_refl _)) hc hM).mono ?_); rw [HP.out]; rintro e w1 ⟨rfl, hb1⟩; refine Blk.thru (b := w.heap.size) (arr := ?_) (t := ?_) ?_ hb1 ?_; rotate_left 2; (focus (exact blk)); intro rr; have rrc0 := rr.cell 0; have rrf0 := rr.free 0; have rrc1 := rr.cell 1; have rrf1 := rr.free 1; have rrc2 := rr.cell 2; have rrf2 := rr.free 2; have rrc3 := rr.cell 3; have rrf3 := rr.free 3; have rrc4 := rr.cell 4; have rrf4 := rr.free 4; have rrc5 := rr.cell 5; have rrf5 := rr.free 5; have rrc6 := rr.cell 6; have rrf6 := rr.free 6; have rrc7 := rr.cell 7; have rrf7 := rr.free 7; have rrc8 := rr.cell 8; have rrf8 := rr.free 8; have rrc9 := rr.cell 9; have rrf9 := rr.free 9; have rrl := rr.lt; simp at rrc0 rrc1 rrc2 rrc3 rrc4 rrc5 rrc6 rrc7 rrc8 rrc9; refine Blk.thru (b := (w.heap.size + 1)) (arr := ?_) (t := ?_) ?_ hb1 ?_; rotate_left 2; (focus (exact blk)); intro rq; have rqc0 := rq.cell 0; have rqf0 := rq.free 0; have rqc1 := rq.cell 1; have rqf1 := rq.free 1; have rqc2 := rq.cell 2; have rqf2 := rq.free 2; have rqc3 := rq.cell 3; have rqf3 := rq.free 3; have rql := rq.lt; simp at rqc0 rqc1 rqc2 rqc3)
  refine at_world (S := fun W => Blk W w.heap.size #[.slice a p.cells.length cap, .int .i64 p.bottles, .int .i64 p.inH, .int .i64 p.inA, .int .i64 p.vH, .int .i64 p.vA, .int .i64 p.lH, .int .i64 p.lA, .int .i64 p.pH, .int .i64 p.pA] 63 ∧ Blk W (w.heap.size + 1) #[.int .u8 d.kind, .int .i64 d.cell, .int .i64 d.to, .int .i64 d.n] 65 ∧ Blk W (w.heap.size + 1 + 1) #[.slice none 0 0, .int .i64 0, .int .i64 0, .int .i64 0, .int .i64 0, .int .i64 0, .int .i64 0, .int .i64 0, .int .i64 0, .int .i64 0] 63 ∧ Kept w W) ⟨by (exact blkc), by (exact blkc), by (exact blkc), by (exact kpt)⟩ ?_
  rintro W ⟨b0, b1, b2, hk⟩
  have b0c0 := b0.cell 0
  have b0f0 := b0.free 0
  have b0c1 := b0.cell 1
  have b0f1 := b0.free 1
  have b0c2 := b0.cell 2
  have b0f2 := b0.free 2
  have b0c3 := b0.cell 3
  have b0f3 := b0.free 3
  have b0c4 := b0.cell 4
  have b0f4 := b0.free 4
  have b0c5 := b0.cell 5
  have b0f5 := b0.free 5
  have b0c6 := b0.cell 6
  have b0f6 := b0.free 6
  have b0c7 := b0.cell 7
  have b0f7 := b0.free 7
  have b0c8 := b0.cell 8
  have b0f8 := b0.free 8
  have b0c9 := b0.cell 9
  have b0f9 := b0.free 9
  have b0l := b0.lt
  simp at b0c0 b0c1 b0c2 b0c3 b0c4 b0c5 b0c6 b0c7 b0c8 b0c9
  have b1c0 := b1.cell 0
  have b1f0 := b1.free 0
  have b1c1 := b1.cell 1
  have b1f1 := b1.free 1
  have b1c2 := b1.cell 2
  have b1f2 := b1.free 2
  have b1c3 := b1.cell 3
  have b1f3 := b1.free 3
  have b1l := b1.lt
  simp at b1c0 b1c1 b1c2 b1c3
  have b2c0 := b2.cell 0
  have b2f0 := b2.free 0
  have b2c1 := b2.cell 1
  have b2f1 := b2.free 1
  have b2c2 := b2.cell 2
  have b2f2 := b2.free 2
  have b2c3 := b2.cell 3
  have b2f3 := b2.free 3
  have b2c4 := b2.cell 4
  have b2f4 := b2.free 4
  have b2c5 := b2.cell 5
  have b2f5 := b2.free 5
  have b2c6 := b2.cell 6
  have b2f6 := b2.free 6
  have b2c7 := b2.cell 7
  have b2f7 := b2.free 7
  have b2c8 := b2.cell 8
  have b2f8 := b2.free 8
  have b2c9 := b2.cell 9
  have b2f9 := b2.free 9
  have b2l := b2.lt
  simp at b2c0 b2c1 b2c2 b2c3 b2c4 b2c5 b2c6 b2c7 b2c8 b2c9
  go_upto_region 5 with (go_at_call 116; (with_reducible refine (r_sized p d a cap _ hc hM).mono ?_); rw [HS.out]; rintro e w1 ⟨rfl, hb1⟩)
  clear b0c0 b0f0 b0c1 b0f1 b0c2 b0f2 b0c3 b0f3 b0c4 b0f4 b0c5 b0f5 b0c6 b0f6 b0c7 b0f7 b0c8 b0f8 b0c9 b0f9 b0l b1c0 b1f0 b1c1 b1f1 b1c2 b1f2 b1c3 b1f3 b1l b2c0 b2f0 b2c1 b2f1 b2c2 b2f2 b2c3 b2f3 b2c4 b2f4 b2c5 b2f5 b2c6 b2f6 b2c7 b2f7 b2c8 b2f8 b2c9 b2f9 b2l
  refine at_world (S := fun X => Blk X w.heap.size #[.slice a p.cells.length cap, .int .i64 p.bottles, .int .i64 p.inH, .int .i64 p.inA, .int .i64 p.vH, .int .i64 p.vA, .int .i64 p.lH, .int .i64 p.lA, .int .i64 p.pH, .int .i64 p.pA] 63 ∧ Blk X (w.heap.size + 1) #[.int .u8 d.kind, .int .i64 d.cell, .int .i64 d.to, .int .i64 d.n] 65 ∧ Blk X (w.heap.size + 1 + 1) #[.slice none 0 0, .int .i64 0, .int .i64 0, .int .i64 0, .int .i64 0, .int .i64 0, .int .i64 0, .int .i64 0, .int .i64 0, .int .i64 0] 63 ∧ Kept w X) ⟨by (exact blkc), by (exact blkc), by (exact blkc), by (exact kpt)⟩ ?_
  clear b0 b1 b2 hk
  rintro X ⟨b0, b1, b2, hk⟩
  have b0c0 := b0.cell 0
  have b0f0 := b0.free 0
  have b0c1 := b0.cell 1
  have b0f1 := b0.free 1
  have b0c2 := b0.cell 2
  have b0f2 := b0.free 2
  have b0c3 := b0.cell 3
  have b0f3 := b0.free 3
  have b0c4 := b0.cell 4
  have b0f4 := b0.free 4
  have b0c5 := b0.cell 5
  have b0f5 := b0.free 5
  have b0c6 := b0.cell 6
  have b0f6 := b0.free 6
  have b0c7 := b0.cell 7
  have b0f7 := b0.free 7
  have b0c8 := b0.cell 8
  have b0f8 := b0.free 8
  have b0c9 := b0.cell 9
  have b0f9 := b0.free 9
  have b0l := b0.lt
  simp at b0c0 b0c1 b0c2 b0c3 b0c4 b0c5 b0c6 b0c7 b0c8 b0c9
  have b1c0 := b1.cell 0
  have b1f0 := b1.free 0
  have b1c1 := b1.cell 1
  have b1f1 := b1.free 1
  have b1c2 := b1.cell 2
  have b1f2 := b1.free 2
  have b1c3 := b1.cell 3
  have b1f3 := b1.free 3
  have b1l := b1.lt
  simp at b1c0 b1c1 b1c2 b1c3
  have b2c0 := b2.cell 0
  have b2f0 := b2.free 0
  have b2c1 := b2.cell 1
  have b2f1 := b2.free 1
  have b2c2 := b2.cell 2
  have b2f2 := b2.free 2
  have b2c3 := b2.cell 3
  have b2f3 := b2.free 3
  have b2c4 := b2.cell 4
  have b2f4 := b2.free 4
  have b2c5 := b2.cell 5
  have b2f5 := b2.free 5
  have b2c6 := b2.cell 6
  have b2f6 := b2.free 6
  have b2c7 := b2.cell 7
  have b2f7 := b2.free 7
  have b2c8 := b2.cell 8
  have b2f8 := b2.free 8
  have b2c9 := b2.cell 9
  have b2f9 := b2.free 9
  have b2l := b2.lt
  simp at b2c0 b2c1 b2c2 b2c3 b2c4 b2c5 b2c6 b2c7 b2c8 b2c9
  go_wp2
  refine bodyPost_ret (v := .tuple #[.agg #[.slice none 0 0, .int .i64 0, .int .i64 0, .int .i64 0, .int .i64 0, .int .i64 0, .int .i64 0, .int .i64 0, .int .i64 0, .int .i64 0], .int .i64 2]) (by simp [results, Try.results49, go_sem, b2c0, b2f0, b2c1, b2f1, b2c2, b2f2, b2c3, b2f3, b2c4, b2f4, b2c5, b2f5, b2c6, b2f6, b2c7, b2f7, b2c8, b2f8, b2c9, b2f9]) rfl ⟨rfl, by (exact kpt)⟩

end Go.Proofs.Ytemafanncejeiaa

/-
  The reference: Do, too little of a gas.
-/
namespace Go.Proofs.Ytemafanncejeiaa
open Go.RowKit Bal Bal.Trim Bal.Gas
set_option linter.unusedVariables false
set_option linter.unusedSimpArgs false
set_option maxHeartbeats 8000000
set_option maxRecDepth 100000

theorem r_PlantK {B n cp : Nat} {ad : Option Addr} {q : Plant} {w : World} (h : Mine 25 B w (.slice ad n cp) q.cells) : Calls Try.prog 115 #[.agg #[.slice ad n cp, .int .i64 q.bottles, .int .i64 q.inH, .int .i64 q.inA, .int .i64 q.vH, .int .i64 q.vA, .int .i64 q.lH, .int .i64 q.lA, .int .i64 q.pH, .int .i64 q.pA]] w fun e w' => e = .returned (.bool (plantB q)) ∧ Kept w w' := by
  obtain ⟨h1, h2, h3, h4, h5⟩ := h.row
  subst h1
  exact r_Plant q ad cp w h2 h3 h4
theorem r_mixedW (k : Int) (b : Bool) (h : mixedB k = b) (w : World) : Calls Try.prog 117 #[.int .u8 k] w fun e w' => e = .returned (.bool b) ∧ w = w' := by rw [← h]; exact r_mixed k w

theorem mine_past {T : TypeId} {B : Nat} {w : World} {ad : Option Addr} {n cp : Nat} {xs : List Cell} (h : Mine T B w (.slice ad n cp) xs) {b : Nat} (hb : w.heap.size ≤ b) : xs = [] ∨ ∀ g, ad = some ⟨g, 0, none⟩ → g ≠ b := by
  obtain ⟨ad', cp', h1, h2, h3, h4, h5⟩ := h
  cases h1
  rcases h5 with h5 | ⟨g, cur, ha, hg, hk, ht⟩
  · exact .inl h5
  · refine .inr fun g' hg' he => ?_
    rw [ha] at hg'
    cases hg'
    have := hk.lt
    omega

theorem r_Do_lack2 (p : Plant) (d : Deed) (a : Option Addr) (cap : Nat) (w : World) (hx : Row Cell.cells 7 w.heap.size w a p.cells) (hc : p.cells.length ≤ cap) (hM : cap ≤ maxLen) (hz : a = none → cap = 0) (hp : plantB p = true) (hs : sizedE p d = 0) (hk2 : d.kind = 2) (hl : p.bottles < d.n) : Calls Try.prog 49 #[.agg #[.slice a p.cells.length cap, .int .i64 p.bottles, .int .i64 p.inH, .int .i64 p.inA, .int .i64 p.vH, .int .i64 p.vA, .int .i64 p.lH, .int .i64 p.lA, .int .i64 p.pH, .int .i64 p.pA], .agg #[.int .u8 d.kind, .int .i64 d.cell, .int .i64 d.to, .int .i64 d.n]] w fun e w' => e = .returned (.tuple #[.agg #[.slice none 0 0, .int .i64 0, .int .i64 0, .int .i64 0, .int .i64 0, .int .i64 0, .int .i64 0, .int .i64 0, .int .i64 0, .int .i64 0], .int .i64 6]) ∧ Kept w w' := by
  have e2 : (d.kind == 2) = true := by simp; omega
  have g2 : decide (d.kind = 2) = true := by simp; omega
  have hlt : decide (p.bottles < d.n) = true := by simp [hl]
  clear hk2 hl
  have HP := Lib.hid hp
  have HS := Lib.hid hs
  have hn12 : p.cells.length ≤ 12 := (plantB_iff.1 hp).1
  have hb := plantB_iff.1 hp
  clear hp hs
  go_enter Try.func49, Try.ntmps49
  go_upto_region 3 with (go_at_call 115; (with_reducible refine (r_Plant p a cap _ (hx.later (by (exact kpt)) (Nat.le_refl _)) hc hM).mono ?_); rw [HP.out]; rintro e w1 ⟨rfl, hb1⟩; refine Blk.thru (b := w.heap.size) (arr := ?_) (t := ?_) ?_ hb1 ?_; rotate_left 2; (focus (exact blk)); intro rr; have rrc0 := rr.cell 0; have rrf0 := rr.free 0; have rrc1 := rr.cell 1; have rrf1 := rr.free 1; have rrc2 := rr.cell 2; have rrf2 := rr.free 2; have rrc3 := rr.cell 3; have rrf3 := rr.free 3; have rrc4 := rr.cell 4; have rrf4 := rr.free 4; have rrc5 := rr.cell 5; have rrf5 := rr.free 5; have rrc6 := rr.cell 6; have rrf6 := rr.free 6; have rrc7 := rr.cell 7; have rrf7 := rr.free 7; have rrc8 := rr.cell 8; have rrf8 := rr.free 8; have rrc9 := rr.cell 9; have rrf9 := rr.free 9; have rrl := rr.lt; simp at rrc0 rrc1 rrc2 rrc3 rrc4 rrc5 rrc6 rrc7 rrc8 rrc9; refine Blk.thru (b := (w.heap.size + 1)) (arr := ?_) (t := ?_) ?_ hb1 ?_; rotate_left 2; (focus (exact blk)); intro rq; have rqc0 := rq.cell 0; have rqf0 := rq.free 0; have rqc1 := rq.cell 1; have rqf1 := rq.free 1; have rqc2 := rq.cell 2; have rqf2 := rq.free 2; have rqc3 := rq.cell 3; have rqf3 := rq.free 3; have rql := rq.lt; simp at rqc0 rqc1 rqc2 rqc3)
  refine at_world (S := fun W => Blk W w.heap.size #[.slice a p.cells.length cap, .int .i64 p.bottles, .int .i64 p.inH, .int .i64 p.inA, .int .i64 p.vH, .int .i64 p.vA, .int .i64 p.lH, .int .i64 p.lA, .int .i64 p.pH, .int .i64 p.pA] 63 ∧ Blk W (w.heap.size + 1) #[.int .u8 d.kind, .int .i64 d.cell, .int .i64 d.to, .int .i64 d.n] 65 ∧ Blk W (w.heap.size + 1 + 1) #[.slice none 0 0, .int .i64 0, .int .i64 0, .int .i64 0, .int .i64 0, .int .i64 0, .int .i64 0, .int .i64 0, .int .i64 0, .int .i64 0] 63 ∧ Kept w W) ⟨by (exact blkc), by (exact blkc), by (exact blkc), by (exact kpt)⟩ ?_
  rintro W ⟨b0, b1, b2, hk⟩
  have b0c0 := b0.cell 0
  have b0f0 := b0.free 0
  have b0c1 := b0.cell 1
  have b0f1 := b0.free 1
  have b0c2 := b0.cell 2
  have b0f2 := b0.free 2
  have b0c3 := b0.cell 3
  have b0f3 := b0.free 3
  have b0c4 := b0.cell 4
  have b0f4 := b0.free 4
  have b0c5 := b0.cell 5
  have b0f5 := b0.free 5
  have b0c6 := b0.cell 6
  have b0f6 := b0.free 6
  have b0c7 := b0.cell 7
  have b0f7 := b0.free 7
  have b0c8 := b0.cell 8
  have b0f8 := b0.free 8
  have b0c9 := b0.cell 9
  have b0f9 := b0.free 9
  have b0l := b0.lt
  simp at b0c0 b0c1 b0c2 b0c3 b0c4 b0c5 b0c6 b0c7 b0c8 b0c9
  have b1c0 := b1.cell 0
  have b1f0 := b1.free 0
  have b1c1 := b1.cell 1
  have b1f1 := b1.free 1
  have b1c2 := b1.cell 2
  have b1f2 := b1.free 2
  have b1c3 := b1.cell 3
  have b1f3 := b1.free 3
  have b1l := b1.lt
  simp at b1c0 b1c1 b1c2 b1c3
  have b2c0 := b2.cell 0
  have b2f0 := b2.free 0
  have b2c1 := b2.cell 1
  have b2f1 := b2.free 1
  have b2c2 := b2.cell 2
  have b2f2 := b2.free 2
  have b2c3 := b2.cell 3
  have b2f3 := b2.free 3
  have b2c4 := b2.cell 4
  have b2f4 := b2.free 4
  have b2c5 := b2.cell 5
  have b2f5 := b2.free 5
  have b2c6 := b2.cell 6
  have b2f6 := b2.free 6
  have b2c7 := b2.cell 7
  have b2f7 := b2.free 7
  have b2c8 := b2.cell 8
  have b2f8 := b2.free 8
  have b2c9 := b2.cell 9
  have b2f9 := b2.free 9
  have b2l := b2.lt
  simp at b2c0 b2c1 b2c2 b2c3 b2c4 b2c5 b2c6 b2c7 b2c8 b2c9
  go_upto_region 6 with (go_at_call 116; (with_reducible refine (r_sized p d a cap _ hc hM).mono ?_); rw [HS.out]; rintro e w1 ⟨rfl, hb1⟩)
  clear b0c0 b0f0 b0c1 b0f1 b0c2 b0f2 b0c3 b0f3 b0c4 b0f4 b0c5 b0f5 b0c6 b0f6 b0c7 b0f7 b0c8 b0f8 b0c9 b0f9 b0l b1c0 b1f0 b1c1 b1f1 b1c2 b1f2 b1c3 b1f3 b1l b2c0 b2f0 b2c1 b2f1 b2c2 b2f2 b2c3 b2f3 b2c4 b2f4 b2c5 b2f5 b2c6 b2f6 b2c7 b2f7 b2c8 b2f8 b2c9 b2f9 b2l
  refine at_world (S := fun X => Blk X w.heap.size #[.slice a p.cells.length cap, .int .i64 p.bottles, .int .i64 p.inH, .int .i64 p.inA, .int .i64 p.vH, .int .i64 p.vA, .int .i64 p.lH, .int .i64 p.lA, .int .i64 p.pH, .int .i64 p.pA] 63 ∧ Blk X (w.heap.size + 1) #[.int .u8 d.kind, .int .i64 d.cell, .int .i64 d.to, .int .i64 d.n] 65 ∧ Blk X (w.heap.size + 1 + 1) #[.slice none 0 0, .int .i64 0, .int .i64 0, .int .i64 0, .int .i64 0, .int .i64 0, .int .i64 0, .int .i64 0, .int .i64 0, .int .i64 0] 63 ∧ Kept w X) ⟨by (exact blkc), by (exact blkc), by (exact blkc), by (exact kpt)⟩ ?_
  clear b0 b1 b2 hk
  rintro X ⟨b0, b1, b2, hk⟩
  have b0c0 := b0.cell 0
  have b0f0 := b0.free 0
  have b0c1 := b0.cell 1
  have b0f1 := b0.free 1
  have b0c2 := b0.cell 2
  have b0f2 := b0.free 2
  have b0c3 := b0.cell 3
  have b0f3 := b0.free 3
  have b0c4 := b0.cell 4
  have b0f4 := b0.free 4
  have b0c5 := b0.cell 5
  have b0f5 := b0.free 5
  have b0c6 := b0.cell 6
  have b0f6 := b0.free 6
  have b0c7 := b0.cell 7
  have b0f7 := b0.free 7
  have b0c8 := b0.cell 8
  have b0f8 := b0.free 8
  have b0c9 := b0.cell 9
  have b0f9 := b0.free 9
  have b0l := b0.lt
  simp at b0c0 b0c1 b0c2 b0c3 b0c4 b0c5 b0c6 b0c7 b0c8 b0c9
  have b1c0 := b1.cell 0
  have b1f0 := b1.free 0
  have b1c1 := b1.cell 1
  have b1f1 := b1.free 1
  have b1c2 := b1.cell 2
  have b1f2 := b1.free 2
  have b1c3 := b1.cell 3
  have b1f3 := b1.free 3
  have b1l := b1.lt
  simp at b1c0 b1c1 b1c2 b1c3
  have b2c0 := b2.cell 0
  have b2f0 := b2.free 0
  have b2c1 := b2.cell 1
  have b2f1 := b2.free 1
  have b2c2 := b2.cell 2
  have b2f2 := b2.free 2
  have b2c3 := b2.cell 3
  have b2f3 := b2.free 3
  have b2c4 := b2.cell 4
  have b2f4 := b2.free 4
  have b2c5 := b2.cell 5
  have b2f5 := b2.free 5
  have b2c6 := b2.cell 6
  have b2f6 := b2.free 6
  have b2c7 := b2.cell 7
  have b2f7 := b2.free 7
  have b2c8 := b2.cell 8
  have b2f8 := b2.free 8
  have b2c9 := b2.cell 9
  have b2f9 := b2.free 9
  have b2l := b2.lt
  simp at b2c0 b2c1 b2c2 b2c3 b2c4 b2c5 b2c6 b2c7 b2c8 b2c9
  go_upto_region 7 with (go_at_call 47; (with_reducible refine (r_Twin p a cap _ (hx.later (by (exact kpt)) (Nat.le_refl _)) (by omega) hz).mono ?_); rintro e w1 ⟨ad, cp, rfl, hm1, hb1⟩)
  have b1k := b1.keep hb1
  have b2k := b2.keep hb1
  have hsz := b2k.lt
  have hm2 := hm1.base (C := w.heap.size) hk.size
  have hk2 := hk.trans (hb1.mono hk.size)
  refine at_world (S := fun Y => Blk Y (w.heap.size + 1) #[.int .u8 d.kind, .int .i64 d.cell, .int .i64 d.to, .int .i64 d.n] 65 ∧ Blk Y (w.heap.size + 1 + 1) #[.slice none 0 0, .int .i64 0, .int .i64 0, .int .i64 0, .int .i64 0, .int .i64 0, .int .i64 0, .int .i64 0, .int .i64 0, .int .i64 0] 63 ∧ Blk Y w1.heap.size #[.slice ad p.cells.length cp, .int .i64 (p.bottles), .int .i64 (p.inH), .int .i64 (p.inA), .int .i64 (p.vH), .int .i64 (p.vA), .int .i64 (p.lH), .int .i64 (p.lA), .int .i64 (p.pH), .int .i64 (p.pA)] 63 ∧ Mine 25 w.heap.size Y (.slice ad p.cells.length cp) p.cells ∧ Kept w Y ∧ w.heap.size + 1 + 1 < w1.heap.size) ⟨by (exact blkc), by (exact blkc), by (exact blkc), by exact (by have hnp := mine_past hm2 (Nat.le_refl _); (repeat (with_reducible refine Mine.off ?_ hnp _)); exact hm2.alloc _), by (exact kpt), hsz⟩ ?_
  clear b0c0 b0f0 b0c1 b0f1 b0c2 b0f2 b0c3 b0f3 b0c4 b0f4 b0c5 b0f5 b0c6 b0f6 b0c7 b0f7 b0c8 b0f8 b0c9 b0f9 b0l b1c0 b1f0 b1c1 b1f1 b1c2 b1f2 b1c3 b1f3 b1l b2c0 b2f0 b2c1 b2f1 b2c2 b2f2 b2c3 b2f3 b2c4 b2f4 b2c5 b2f5 b2c6 b2f6 b2c7 b2f7 b2c8 b2f8 b2c9 b2f9 b2l b0 b1 b2 hk b1k b2k hm2 hk2 hm1 hb1 hsz
  rintro Y ⟨b1, b2, r3, hm, hk, hs⟩
  generalize w1.heap.size = s at hs r3 ⊢
  have b1c0 := fun g : Later Y => (b1.later g).cell 0
  have b1f0 := fun g : Later Y => (b1.later g).free 0
  have b1c1 := fun g : Later Y => (b1.later g).cell 1
  have b1f1 := fun g : Later Y => (b1.later g).free 1
  have b1c2 := fun g : Later Y => (b1.later g).cell 2
  have b1f2 := fun g : Later Y => (b1.later g).free 2
  have b1c3 := fun g : Later Y => (b1.later g).cell 3
  have b1f3 := fun g : Later Y => (b1.later g).free 3
  have b1l := fun g : Later Y => (b1.later g).lt
  simp at b1c0 b1c1 b1c2 b1c3
  have r3c0 := fun g : Later Y => (r3.later g).cell 0
  have r3f0 := fun g : Later Y => (r3.later g).free 0
  have r3c1 := fun g : Later Y => (r3.later g).cell 1
  have r3f1 := fun g : Later Y => (r3.later g).free 1
  have r3c2 := fun g : Later Y => (r3.later g).cell 2
  have r3f2 := fun g : Later Y => (r3.later g).free 2
  have r3c3 := fun g : Later Y => (r3.later g).cell 3
  have r3f3 := fun g : Later Y => (r3.later g).free 3
  have r3c4 := fun g : Later Y => (r3.later g).cell 4
  have r3f4 := fun g : Later Y => (r3.later g).free 4
  have r3c5 := fun g : Later Y => (r3.later g).cell 5
  have r3f5 := fun g : Later Y => (r3.later g).free 5
  have r3c6 := fun g : Later Y => (r3.later g).cell 6
  have r3f6 := fun g : Later Y => (r3.later g).free 6
  have r3c7 := fun g : Later Y => (r3.later g).cell 7
  have r3f7 := fun g : Later Y => (r3.later g).free 7
  have r3c8 := fun g : Later Y => (r3.later g).cell 8
  have r3f8 := fun g : Later Y => (r3.later g).free 8
  have r3c9 := fun g : Later Y => (r3.later g).cell 9
  have r3f9 := fun g : Later Y => (r3.later g).free 9
  have r3l := fun g : Later Y => (r3.later g).lt
  simp at r3c0 r3c1 r3c2 r3c3 r3c4 r3c5 r3c6 r3c7 r3c8 r3c9
  refine Later.region (by kernel_rfl) (by kernel_rfl) ?_
  repeat (first | go_big_quiet_skip | (go_big_quiet_want; go_big_quiet_op; first | go_big_quiet_on | (apply Exists.intro; refine ⟨fun g => ?_, ?_⟩; (focus (first | fail)); go_big_quiet_on)))
  refine wpQuiet_nil ?_
  intro gg
  clear b1c0 b1f0 b1c1 b1f1 b1c2 b1f2 b1c3 b1f3 b1l r3c0 r3f0 r3c1 r3f1 r3c2 r3f2 r3c3 r3f3 r3c4 r3f4 r3c5 r3f5 r3c6 r3f6 r3c7 r3f7 r3c8 r3f8 r3c9 r3f9 r3l
  have z2 := b2.later gg
  have hkg := Kept.drop hk gg.ok
  have z2c0 := z2.cell 0
  have z2f0 := z2.free 0
  have z2c1 := z2.cell 1
  have z2f1 := z2.free 1
  have z2c2 := z2.cell 2
  have z2f2 := z2.free 2
  have z2c3 := z2.cell 3
  have z2f3 := z2.free 3
  have z2c4 := z2.cell 4
  have z2f4 := z2.free 4
  have z2c5 := z2.cell 5
  have z2f5 := z2.free 5
  have z2c6 := z2.cell 6
  have z2f6 := z2.free 6
  have z2c7 := z2.cell 7
  have z2f7 := z2.free 7
  have z2c8 := z2.cell 8
  have z2f8 := z2.free 8
  have z2c9 := z2.cell 9
  have z2f9 := z2.free 9
  have z2l := z2.lt
  simp at z2c0 z2c1 z2c2 z2c3 z2c4 z2c5 z2c6 z2c7 z2c8 z2c9
  go_wp2
  refine bodyPost_ret (v := .tuple #[.agg #[.slice none 0 0, .int .i64 0, .int .i64 0, .int .i64 0, .int .i64 0, .int .i64 0, .int .i64 0, .int .i64 0, .int .i64 0, .int .i64 0], .int .i64 6]) (by simp [results, Try.results49, go_sem, z2c0, z2f0, z2c1, z2f1, z2c2, z2f2, z2c3, z2f3, z2c4, z2f4, z2c5, z2f5, z2c6, z2f6, z2c7, z2f7, z2c8, z2f8, z2c9, z2f9]) rfl ⟨rfl, by (exact kpt)⟩

theorem r_mixedK (k : Int) (b : Bool) (h : mixedB k = b) (w : World) : Calls Try.prog 117 #[.int .u8 k] w fun e w' => e = .returned (.bool b) ∧ Kept w w' := by
  refine (r_mixed k w).mono ?_
  rintro e w' ⟨rfl, rfl⟩
  exact ⟨by rw [h], Below.refl _ _⟩
theorem r_Do_lackm (p : Plant) (d : Deed) (a : Option Addr) (cap : Nat) (w : World) (hx : Row Cell.cells 7 w.heap.size w a p.cells) (hc : p.cells.length ≤ cap) (hM : cap ≤ maxLen) (hz : a = none → cap = 0) (hp : plantB p = true) (hs : sizedE p d = 0) (hkm : mixedB d.kind = true) (hcl : inB d.cell 0 (p.cells.length - 1) = true) (hl : amount (at_ p d) < d.n) : Calls Try.prog 49 #[.agg #[.slice a p.cells.length cap, .int .i64 p.bottles, .int .i64 p.inH, .int .i64 p.inA, .int .i64 p.vH, .int .i64 p.vA, .int .i64 p.lH, .int .i64 p.lA, .int .i64 p.pH, .int .i64 p.pA], .agg #[.int .u8 d.kind, .int .i64 d.cell, .int .i64 d.to, .int .i64 d.n]] w fun e w' => e = .returned (.tuple #[.agg #[.slice none 0 0, .int .i64 0, .int .i64 0, .int .i64 0, .int .i64 0, .int .i64 0, .int .i64 0, .int .i64 0, .int .i64 0, .int .i64 0], .int .i64 6]) ∧ Kept w w' := by
  have hkk : d.kind = 3 ∨ d.kind = 4 ∨ d.kind = 5 := by simp [mixedB] at hkm; omega
  have e2 : (d.kind == 2) = false := by simp; omega
  have g2 : decide (d.kind = 2) = false := by simp; omega
  have HMX := fun (W : World) => r_mixedK _ _ hkm W
  clear hkk hkm
  have HP := Lib.hid hp
  have HS := Lib.hid hs
  have hn12 : p.cells.length ≤ 12 := (plantB_iff.1 hp).1
  have hb := plantB_iff.1 hp
  have hi : d.cell.toNat < p.cells.length := by
    have h1 : 0 ≤ d.cell ∧ d.cell ≤ p.cells.length - 1 := by simpa [inB] using hcl
    omega
  have hd0 : 0 ≤ d.cell ∧ d.cell < p.cells.length := by
    have h1 : 0 ≤ d.cell ∧ d.cell ≤ p.cells.length - 1 := by simpa [inB] using hcl
    omega
  have hcv : cellB p.cells[d.cell.toNat] = true := hb.2.2.2.2.2.2.1 _ (List.getElem_mem hi)
  have hat : at_ p d = p.cells[d.cell.toNat] := cellAt_get hi
  clear hp hs
  go_enter Try.func49, Try.ntmps49
  go_upto_region 3 with (go_at_call 115; (with_reducible refine (r_Plant p a cap _ (hx.later (by (exact kpt)) (Nat.le_refl _)) hc hM).mono ?_); rw [HP.out]; rintro e w1 ⟨rfl, hb1⟩; refine Blk.thru (b := w.heap.size) (arr := ?_) (t := ?_) ?_ hb1 ?_; rotate_left 2; (focus (exact blk)); intro rr; have rrc0 := rr.cell 0; have rrf0 := rr.free 0; have rrc1 := rr.cell 1; have rrf1 := rr.free 1; have rrc2 := rr.cell 2; have rrf2 := rr.free 2; have rrc3 := rr.cell 3; have rrf3 := rr.free 3; have rrc4 := rr.cell 4; have rrf4 := rr.free 4; have rrc5 := rr.cell 5; have rrf5 := rr.free 5; have rrc6 := rr.cell 6; have rrf6 := rr.free 6; have rrc7 := rr.cell 7; have rrf7 := rr.free 7; have rrc8 := rr.cell 8; have rrf8 := rr.free 8; have rrc9 := rr.cell 9; have rrf9 := rr.free 9; have rrl := rr.lt; simp at rrc0 rrc1 rrc2 rrc3 rrc4 rrc5 rrc6 rrc7 rrc8 rrc9; refine Blk.thru (b := (w.heap.size + 1)) (arr := ?_) (t := ?_) ?_ hb1 ?_; rotate_left 2; (focus (exact blk)); intro rq; have rqc0 := rq.cell 0; have rqf0 := rq.free 0; have rqc1 := rq.cell 1; have rqf1 := rq.free 1; have rqc2 := rq.cell 2; have rqf2 := rq.free 2; have rqc3 := rq.cell 3; have rqf3 := rq.free 3; have rql := rq.lt; simp at rqc0 rqc1 rqc2 rqc3)
  refine at_world (S := fun W => Blk W w.heap.size #[.slice a p.cells.length cap, .int .i64 p.bottles, .int .i64 p.inH, .int .i64 p.inA, .int .i64 p.vH, .int .i64 p.vA, .int .i64 p.lH, .int .i64 p.lA, .int .i64 p.pH, .int .i64 p.pA] 63 ∧ Blk W (w.heap.size + 1) #[.int .u8 d.kind, .int .i64 d.cell, .int .i64 d.to, .int .i64 d.n] 65 ∧ Blk W (w.heap.size + 1 + 1) #[.slice none 0 0, .int .i64 0, .int .i64 0, .int .i64 0, .int .i64 0, .int .i64 0, .int .i64 0, .int .i64 0, .int .i64 0, .int .i64 0] 63 ∧ Kept w W) ⟨by (exact blkc), by (exact blkc), by (exact blkc), by (exact kpt)⟩ ?_
  rintro W ⟨b0, b1, b2, hk⟩
  have b0c0 := b0.cell 0
  have b0f0 := b0.free 0
  have b0c1 := b0.cell 1
  have b0f1 := b0.free 1
  have b0c2 := b0.cell 2
  have b0f2 := b0.free 2
  have b0c3 := b0.cell 3
  have b0f3 := b0.free 3
  have b0c4 := b0.cell 4
  have b0f4 := b0.free 4
  have b0c5 := b0.cell 5
  have b0f5 := b0.free 5
  have b0c6 := b0.cell 6
  have b0f6 := b0.free 6
  have b0c7 := b0.cell 7
  have b0f7 := b0.free 7
  have b0c8 := b0.cell 8
  have b0f8 := b0.free 8
  have b0c9 := b0.cell 9
  have b0f9 := b0.free 9
  have b0l := b0.lt
  simp at b0c0 b0c1 b0c2 b0c3 b0c4 b0c5 b0c6 b0c7 b0c8 b0c9
  have b1c0 := b1.cell 0
  have b1f0 := b1.free 0
  have b1c1 := b1.cell 1
  have b1f1 := b1.free 1
  have b1c2 := b1.cell 2
  have b1f2 := b1.free 2
  have b1c3 := b1.cell 3
  have b1f3 := b1.free 3
  have b1l := b1.lt
  simp at b1c0 b1c1 b1c2 b1c3
  have b2c0 := b2.cell 0
  have b2f0 := b2.free 0
  have b2c1 := b2.cell 1
  have b2f1 := b2.free 1
  have b2c2 := b2.cell 2
  have b2f2 := b2.free 2
  have b2c3 := b2.cell 3
  have b2f3 := b2.free 3
  have b2c4 := b2.cell 4
  have b2f4 := b2.free 4
  have b2c5 := b2.cell 5
  have b2f5 := b2.free 5
  have b2c6 := b2.cell 6
  have b2f6 := b2.free 6
  have b2c7 := b2.cell 7
  have b2f7 := b2.free 7
  have b2c8 := b2.cell 8
  have b2f8 := b2.free 8
  have b2c9 := b2.cell 9
  have b2f9 := b2.free 9
  have b2l := b2.lt
  simp at b2c0 b2c1 b2c2 b2c3 b2c4 b2c5 b2c6 b2c7 b2c8 b2c9
  go_upto_region 6 with (go_at_call 116; (with_reducible refine (r_sized p d a cap _ hc hM).mono ?_); rw [HS.out]; rintro e w1 ⟨rfl, hb1⟩)
  clear b0c0 b0f0 b0c1 b0f1 b0c2 b0f2 b0c3 b0f3 b0c4 b0f4 b0c5 b0f5 b0c6 b0f6 b0c7 b0f7 b0c8 b0f8 b0c9 b0f9 b0l b1c0 b1f0 b1c1 b1f1 b1c2 b1f2 b1c3 b1f3 b1l b2c0 b2f0 b2c1 b2f1 b2c2 b2f2 b2c3 b2f3 b2c4 b2f4 b2c5 b2f5 b2c6 b2f6 b2c7 b2f7 b2c8 b2f8 b2c9 b2f9 b2l
  refine at_world (S := fun X => Blk X w.heap.size #[.slice a p.cells.length cap, .int .i64 p.bottles, .int .i64 p.inH, .int .i64 p.inA, .int .i64 p.vH, .int .i64 p.vA, .int .i64 p.lH, .int .i64 p.lA, .int .i64 p.pH, .int .i64 p.pA] 63 ∧ Blk X (w.heap.size + 1) #[.int .u8 d.kind, .int .i64 d.cell, .int .i64 d.to, .int .i64 d.n] 65 ∧ Blk X (w.heap.size + 1 + 1) #[.slice none 0 0, .int .i64 0, .int .i64 0, .int .i64 0, .int .i64 0, .int .i64 0, .int .i64 0, .int .i64 0, .int .i64 0, .int .i64 0] 63 ∧ Kept w X) ⟨by (exact blkc), by (exact blkc), by (exact blkc), by (exact kpt)⟩ ?_
  clear b0 b1 b2 hk
  rintro X ⟨b0, b1, b2, hk⟩
  have b0c0 := b0.cell 0
  have b0f0 := b0.free 0
  have b0c1 := b0.cell 1
  have b0f1 := b0.free 1
  have b0c2 := b0.cell 2
  have b0f2 := b0.free 2
  have b0c3 := b0.cell 3
  have b0f3 := b0.free 3
  have b0c4 := b0.cell 4
  have b0f4 := b0.free 4
  have b0c5 := b0.cell 5
  have b0f5 := b0.free 5
  have b0c6 := b0.cell 6
  have b0f6 := b0.free 6
  have b0c7 := b0.cell 7
  have b0f7 := b0.free 7
  have b0c8 := b0.cell 8
  have b0f8 := b0.free 8
  have b0c9 := b0.cell 9
  have b0f9 := b0.free 9
  have b0l := b0.lt
  simp at b0c0 b0c1 b0c2 b0c3 b0c4 b0c5 b0c6 b0c7 b0c8 b0c9
  have b1c0 := b1.cell 0
  have b1f0 := b1.free 0
  have b1c1 := b1.cell 1
  have b1f1 := b1.free 1
  have b1c2 := b1.cell 2
  have b1f2 := b1.free 2
  have b1c3 := b1.cell 3
  have b1f3 := b1.free 3
  have b1l := b1.lt
  simp at b1c0 b1c1 b1c2 b1c3
  have b2c0 := b2.cell 0
  have b2f0 := b2.free 0
  have b2c1 := b2.cell 1
  have b2f1 := b2.free 1
  have b2c2 := b2.cell 2
  have b2f2 := b2.free 2
  have b2c3 := b2.cell 3
  have b2f3 := b2.free 3
  have b2c4 := b2.cell 4
  have b2f4 := b2.free 4
  have b2c5 := b2.cell 5
  have b2f5 := b2.free 5
  have b2c6 := b2.cell 6
  have b2f6 := b2.free 6
  have b2c7 := b2.cell 7
  have b2f7 := b2.free 7
  have b2c8 := b2.cell 8
  have b2f8 := b2.free 8
  have b2c9 := b2.cell 9
  have b2f9 := b2.free 9
  have b2l := b2.lt
  simp at b2c0 b2c1 b2c2 b2c3 b2c4 b2c5 b2c6 b2c7 b2c8 b2c9
  go_upto_region 7 with (go_at_call 47; (with_reducible refine (r_Twin p a cap _ (hx.later (by (exact kpt)) (Nat.le_refl _)) (by omega) hz).mono ?_); rintro e w1 ⟨ad, cp, rfl, hm1, hb1⟩)
  have b1k := b1.keep hb1
  have b2k := b2.keep hb1
  have hsz := b2k.lt
  have hm2 := hm1.base (C := w.heap.size) hk.size
  have hk2 := hk.trans (hb1.mono hk.size)
  refine at_world (S := fun Y => Blk Y (w.heap.size + 1) #[.int .u8 d.kind, .int .i64 d.cell, .int .i64 d.to, .int .i64 d.n] 65 ∧ Blk Y (w.heap.size + 1 + 1) #[.slice none 0 0, .int .i64 0, .int .i64 0, .int .i64 0, .int .i64 0, .int .i64 0, .int .i64 0, .int .i64 0, .int .i64 0, .int .i64 0] 63 ∧ Blk Y w1.heap.size #[.slice ad p.cells.length cp, .int .i64 (p.bottles), .int .i64 (p.inH), .int .i64 (p.inA), .int .i64 (p.vH), .int .i64 (p.vA), .int .i64 (p.lH), .int .i64 (p.lA), .int .i64 (p.pH), .int .i64 (p.pA)] 63 ∧ Mine 25 w.heap.size Y (.slice ad p.cells.length cp) p.cells ∧ Kept w Y ∧ w.heap.size + 1 + 1 < w1.heap.size) ⟨by (exact blkc), by (exact blkc), by (exact blkc), by exact (by have hnp := mine_past hm2 (Nat.le_refl _); (repeat (with_reducible refine Mine.off ?_ hnp _)); exact hm2.alloc _), by (exact kpt), hsz⟩ ?_
  clear b0c0 b0f0 b0c1 b0f1 b0c2 b0f2 b0c3 b0f3 b0c4 b0f4 b0c5 b0f5 b0c6 b0f6 b0c7 b0f7 b0c8 b0f8 b0c9 b0f9 b0l b1c0 b1f0 b1c1 b1f1 b1c2 b1f2 b1c3 b1f3 b1l b2c0 b2f0 b2c1 b2f1 b2c2 b2f2 b2c3 b2f3 b2c4 b2f4 b2c5 b2f5 b2c6 b2f6 b2c7 b2f7 b2c8 b2f8 b2c9 b2f9 b2l b0 b1 b2 hk b1k b2k hm2 hk2 hm1 hb1 hsz
  rintro Y ⟨b1, b2, r3, hm, hk, hs⟩
  generalize w1.heap.size = s at hs r3 ⊢
  obtain ⟨x, hx⟩ : ∃ x, x = p.cells[d.cell.toNat] := ⟨_, rfl⟩
  have HX := Lib.hid (show p.cells[d.cell.toNat]? = some x by rw [hx]; simp [hi])
  have HXX := Lib.hid hx
  rw [← hx] at hcv hat
  have HAT := Lib.hid hat
  have HCV := Lib.hid hcv
  have hxb := cellB_iff.1 hcv
  obtain ⟨g, cur, rfl, hBg, hcur, c0, c1, c2, c3, c4, c5, c6⟩ := hm.at hi
  rw [← hx] at c0 c1 c2 c3 c4 c5 c6
  clear hx hat hcv
  have HAC := fun (W : World) => r_amount x W HCV.out
  obtain ⟨AM, hAM⟩ : ∃ y, y = amount x := ⟨_, rfl⟩
  have HAM := Lib.hid (show amount x = AM from hAM.symm)
  rw [← hAM] at HAC
  clear hAM
  have hlt : decide (AM < d.n) = true := by rw [← HAM.out, ← HAT.out]; simpa using hl
  clear hl
  have b1c0 := fun g : Later Y => (b1.later g).cell 0
  have b1f0 := fun g : Later Y => (b1.later g).free 0
  have b1c1 := fun g : Later Y => (b1.later g).cell 1
  have b1f1 := fun g : Later Y => (b1.later g).free 1
  have b1c2 := fun g : Later Y => (b1.later g).cell 2
  have b1f2 := fun g : Later Y => (b1.later g).free 2
  have b1c3 := fun g : Later Y => (b1.later g).cell 3
  have b1f3 := fun g : Later Y => (b1.later g).free 3
  have b1l := fun g : Later Y => (b1.later g).lt
  simp at b1c0 b1c1 b1c2 b1c3
  have r3c0 := fun g : Later Y => (r3.later g).cell 0
  have r3f0 := fun g : Later Y => (r3.later g).free 0
  have r3c1 := fun g : Later Y => (r3.later g).cell 1
  have r3f1 := fun g : Later Y => (r3.later g).free 1
  have r3c2 := fun g : Later Y => (r3.later g).cell 2
  have r3f2 := fun g : Later Y => (r3.later g).free 2
  have r3c3 := fun g : Later Y => (r3.later g).cell 3
  have r3f3 := fun g : Later Y => (r3.later g).free 3
  have r3c4 := fun g : Later Y => (r3.later g).cell 4
  have r3f4 := fun g : Later Y => (r3.later g).free 4
  have r3c5 := fun g : Later Y => (r3.later g).cell 5
  have r3f5 := fun g : Later Y => (r3.later g).free 5
  have r3c6 := fun g : Later Y => (r3.later g).cell 6
  have r3f6 := fun g : Later Y => (r3.later g).free 6
  have r3c7 := fun g : Later Y => (r3.later g).cell 7
  have r3f7 := fun g : Later Y => (r3.later g).free 7
  have r3c8 := fun g : Later Y => (r3.later g).cell 8
  have r3f8 := fun g : Later Y => (r3.later g).free 8
  have r3c9 := fun g : Later Y => (r3.later g).cell 9
  have r3f9 := fun g : Later Y => (r3.later g).free 9
  have r3l := fun g : Later Y => (r3.later g).lt
  simp at r3c0 r3c1 r3c2 r3c3 r3c4 r3c5 r3c6 r3c7 r3c8 r3c9
  have y0 := fun q : Later Y => q.some c0
  have y1 := fun q : Later Y => q.some c1
  have y2 := fun q : Later Y => q.some c2
  have y3 := fun q : Later Y => q.some c3
  have y4 := fun q : Later Y => q.some c4
  have y5 := fun q : Later Y => q.some c5
  have y6 := fun q : Later Y => q.some c6
  clear c0 c1 c2 c3 c4 c5 c6
  refine Later.region (by kernel_rfl) (by kernel_rfl) ?_
  repeat (first | go_big_quiet_skip | (go_big_quiet_want; go_big_quiet_op; first | go_big_quiet_on | (apply Exists.intro; refine ⟨fun g => ?_, ?_⟩; (focus (first | (go_at_call 117; exact Later.call (HMX _)) | (go_at_call 85; exact Later.call (HAC _)))); go_big_quiet_on)))
  refine wpQuiet_nil ?_
  intro gg
  clear b1c0 b1f0 b1c1 b1f1 b1c2 b1f2 b1c3 b1f3 b1l r3c0 r3f0 r3c1 r3f1 r3c2 r3f2 r3c3 r3f3 r3c4 r3f4 r3c5 r3f5 r3c6 r3f6 r3c7 r3f7 r3c8 r3f8 r3c9 r3f9 r3l y0 y1 y2 y3 y4 y5 y6
  have z2 := b2.later gg
  have hkg := Kept.drop hk gg.ok
  have z2c0 := z2.cell 0
  have z2f0 := z2.free 0
  have z2c1 := z2.cell 1
  have z2f1 := z2.free 1
  have z2c2 := z2.cell 2
  have z2f2 := z2.free 2
  have z2c3 := z2.cell 3
  have z2f3 := z2.free 3
  have z2c4 := z2.cell 4
  have z2f4 := z2.free 4
  have z2c5 := z2.cell 5
  have z2f5 := z2.free 5
  have z2c6 := z2.cell 6
  have z2f6 := z2.free 6
  have z2c7 := z2.cell 7
  have z2f7 := z2.free 7
  have z2c8 := z2.cell 8
  have z2f8 := z2.free 8
  have z2c9 := z2.cell 9
  have z2f9 := z2.free 9
  have z2l := z2.lt
  simp at z2c0 z2c1 z2c2 z2c3 z2c4 z2c5 z2c6 z2c7 z2c8 z2c9
  go_wp2
  refine bodyPost_ret (v := .tuple #[.agg #[.slice none 0 0, .int .i64 0, .int .i64 0, .int .i64 0, .int .i64 0, .int .i64 0, .int .i64 0, .int .i64 0, .int .i64 0, .int .i64 0], .int .i64 6]) (by simp [results, Try.results49, go_sem, z2c0, z2f0, z2c1, z2f1, z2c2, z2f2, z2c3, z2f3, z2c4, z2f4, z2c5, z2f5, z2c6, z2f6, z2c7, z2f7, z2c8, z2f8, z2c9, z2f9]) rfl ⟨rfl, by (exact kpt)⟩

end Go.Proofs.Ytemafanncejeiaa

/-
  The reference: Do, buy.
-/
namespace Go.Proofs.Ytemafanncejeiaa
open Go.RowKit Bal Bal.Trim Bal.Gas
set_option linter.unusedVariables false
set_option linter.unusedSimpArgs false
set_option maxHeartbeats 8000000
set_option maxRecDepth 100000

/-- what an act's last check makes of a plant, and its error -/
def endQ (q : Plant) : Plant := if plantB q then q else noPlant
def endE (q : Plant) : Int := if plantB q then 0 else 9
theorem r_Do_1 (p : Plant) (d : Deed) (a : Option Addr) (cap : Nat) (w : World) (hx : Row Cell.cells 7 w.heap.size w a p.cells) (hc : p.cells.length ≤ cap) (hM : cap ≤ maxLen) (hz : a = none → cap = 0) (hp : plantB p = true) (hs : sizedE p d = 0) (hk1 : d.kind = 1) (hn : 1 ≤ d.n ∧ d.n ≤ 10000000) : Calls Try.prog 49 #[.agg #[.slice a p.cells.length cap, .int .i64 p.bottles, .int .i64 p.inH, .int .i64 p.inA, .int .i64 p.vH, .int .i64 p.vA, .int .i64 p.lH, .int .i64 p.lA, .int .i64 p.pH, .int .i64 p.pA], .agg #[.int .u8 d.kind, .int .i64 d.cell, .int .i64 d.to, .int .i64 d.n]] w fun e w' => ∃ v, e = .returned (.tuple #[.agg #[v, .int .i64 (endQ (buyP p d)).bottles, .int .i64 (endQ (buyP p d)).inH, .int .i64 (endQ (buyP p d)).inA, .int .i64 (endQ (buyP p d)).vH, .int .i64 (endQ (buyP p d)).vA, .int .i64 (endQ (buyP p d)).lH, .int .i64 (endQ (buyP p d)).lA, .int .i64 (endQ (buyP p d)).pH, .int .i64 (endQ (buyP p d)).pA], .int .i64 (endE (buyP p d))]) ∧ Mine 25 w.heap.size w' v ((endQ (buyP p d))).cells ∧ Kept w w' := by
  have e1 : (d.kind == 1) = true := by simp; omega
  have g1 : decide (d.kind = 1) = true := by simp; omega
  have e2 : (d.kind == 2) = false := by simp; omega
  have g2 : decide (d.kind = 2) = false := by simp; omega
  have e3 : (d.kind == 3) = false := by simp; omega
  have g3 : decide (d.kind = 3) = false := by simp; omega
  have e4 : (d.kind == 4) = false := by simp; omega
  have g4 : decide (d.kind = 4) = false := by simp; omega
  have e5 : (d.kind == 5) = false := by simp; omega
  have g5 : decide (d.kind = 5) = false := by simp; omega
  have e6 : (d.kind == 6) = false := by simp; omega
  have g6 : decide (d.kind = 6) = false := by simp; omega
  have HMX := fun (W : World) => r_mixedK d.kind false (by simp [mixedB, hk1]) W
  have HMW := fun (W : World) => r_mixedW d.kind false (by simp [mixedB, hk1]) W
  clear hk1
  obtain ⟨Q, hQ⟩ : ∃ Q, Q = buyP p d := ⟨_, rfl⟩
  have HQ := Lib.hid hQ
  rw [← hQ]
  clear hQ
  have HP := Lib.hid hp
  have HS := Lib.hid hs
  have hn12 : p.cells.length ≤ 12 := (plantB_iff.1 hp).1
  have hb := plantB_iff.1 hp
  clear hp hs
  go_enter Try.func49, Try.ntmps49
  go_upto_region 3 with (go_at_call 115; (with_reducible refine (r_Plant p a cap _ (hx.later (by (exact kpt)) (Nat.le_refl _)) hc hM).mono ?_); rw [HP.out]; rintro e w1 ⟨rfl, hb1⟩; refine Blk.thru (b := w.heap.size) (arr := ?_) (t := ?_) ?_ hb1 ?_; rotate_left 2; (focus (exact blk)); intro rr; have rrc0 := rr.cell 0; have rrf0 := rr.free 0; have rrc1 := rr.cell 1; have rrf1 := rr.free 1; have rrc2 := rr.cell 2; have rrf2 := rr.free 2; have rrc3 := rr.cell 3; have rrf3 := rr.free 3; have rrc4 := rr.cell 4; have rrf4 := rr.free 4; have rrc5 := rr.cell 5; have rrf5 := rr.free 5; have rrc6 := rr.cell 6; have rrf6 := rr.free 6; have rrc7 := rr.cell 7; have rrf7 := rr.free 7; have rrc8 := rr.cell 8; have rrf8 := rr.free 8; have rrc9 := rr.cell 9; have rrf9 := rr.free 9; have rrl := rr.lt; simp at rrc0 rrc1 rrc2 rrc3 rrc4 rrc5 rrc6 rrc7 rrc8 rrc9; refine Blk.thru (b := (w.heap.size + 1)) (arr := ?_) (t := ?_) ?_ hb1 ?_; rotate_left 2; (focus (exact blk)); intro rq; have rqc0 := rq.cell 0; have rqf0 := rq.free 0; have rqc1 := rq.cell 1; have rqf1 := rq.free 1; have rqc2 := rq.cell 2; have rqf2 := rq.free 2; have rqc3 := rq.cell 3; have rqf3 := rq.free 3; have rql := rq.lt; simp at rqc0 rqc1 rqc2 rqc3)
  refine at_world (S := fun W => Blk W w.heap.size #[.slice a p.cells.length cap, .int .i64 p.bottles, .int .i64 p.inH, .int .i64 p.inA, .int .i64 p.vH, .int .i64 p.vA, .int .i64 p.lH, .int .i64 p.lA, .int .i64 p.pH, .int .i64 p.pA] 63 ∧ Blk W (w.heap.size + 1) #[.int .u8 d.kind, .int .i64 d.cell, .int .i64 d.to, .int .i64 d.n] 65 ∧ Blk W (w.heap.size + 1 + 1) #[.slice none 0 0, .int .i64 0, .int .i64 0, .int .i64 0, .int .i64 0, .int .i64 0, .int .i64 0, .int .i64 0, .int .i64 0, .int .i64 0] 63 ∧ Kept w W) ⟨by (exact blkc), by (exact blkc), by (exact blkc), by (exact kpt)⟩ ?_
  rintro W ⟨b0, b1, b2, hk⟩
  have b0c0 := b0.cell 0
  have b0f0 := b0.free 0
  have b0c1 := b0.cell 1
  have b0f1 := b0.free 1
  have b0c2 := b0.cell 2
  have b0f2 := b0.free 2
  have b0c3 := b0.cell 3
  have b0f3 := b0.free 3
  have b0c4 := b0.cell 4
  have b0f4 := b0.free 4
  have b0c5 := b0.cell 5
  have b0f5 := b0.free 5
  have b0c6 := b0.cell 6
  have b0f6 := b0.free 6
  have b0c7 := b0.cell 7
  have b0f7 := b0.free 7
  have b0c8 := b0.cell 8
  have b0f8 := b0.free 8
  have b0c9 := b0.cell 9
  have b0f9 := b0.free 9
  have b0l := b0.lt
  simp at b0c0 b0c1 b0c2 b0c3 b0c4 b0c5 b0c6 b0c7 b0c8 b0c9
  have b1c0 := b1.cell 0
  have b1f0 := b1.free 0
  have b1c1 := b1.cell 1
  have b1f1 := b1.free 1
  have b1c2 := b1.cell 2
  have b1f2 := b1.free 2
  have b1c3 := b1.cell 3
  have b1f3 := b1.free 3
  have b1l := b1.lt
  simp at b1c0 b1c1 b1c2 b1c3
  have b2c0 := b2.cell 0
  have b2f0 := b2.free 0
  have b2c1 := b2.cell 1
  have b2f1 := b2.free 1
  have b2c2 := b2.cell 2
  have b2f2 := b2.free 2
  have b2c3 := b2.cell 3
  have b2f3 := b2.free 3
  have b2c4 := b2.cell 4
  have b2f4 := b2.free 4
  have b2c5 := b2.cell 5
  have b2f5 := b2.free 5
  have b2c6 := b2.cell 6
  have b2f6 := b2.free 6
  have b2c7 := b2.cell 7
  have b2f7 := b2.free 7
  have b2c8 := b2.cell 8
  have b2f8 := b2.free 8
  have b2c9 := b2.cell 9
  have b2f9 := b2.free 9
  have b2l := b2.lt
  simp at b2c0 b2c1 b2c2 b2c3 b2c4 b2c5 b2c6 b2c7 b2c8 b2c9
  go_upto_region 6 with (go_at_call 116; (with_reducible refine (r_sized p d a cap _ hc hM).mono ?_); rw [HS.out]; rintro e w1 ⟨rfl, hb1⟩)
  clear b0c0 b0f0 b0c1 b0f1 b0c2 b0f2 b0c3 b0f3 b0c4 b0f4 b0c5 b0f5 b0c6 b0f6 b0c7 b0f7 b0c8 b0f8 b0c9 b0f9 b0l b1c0 b1f0 b1c1 b1f1 b1c2 b1f2 b1c3 b1f3 b1l b2c0 b2f0 b2c1 b2f1 b2c2 b2f2 b2c3 b2f3 b2c4 b2f4 b2c5 b2f5 b2c6 b2f6 b2c7 b2f7 b2c8 b2f8 b2c9 b2f9 b2l
  refine at_world (S := fun X => Blk X w.heap.size #[.slice a p.cells.length cap, .int .i64 p.bottles, .int .i64 p.inH, .int .i64 p.inA, .int .i64 p.vH, .int .i64 p.vA, .int .i64 p.lH, .int .i64 p.lA, .int .i64 p.pH, .int .i64 p.pA] 63 ∧ Blk X (w.heap.size + 1) #[.int .u8 d.kind, .int .i64 d.cell, .int .i64 d.to, .int .i64 d.n] 65 ∧ Blk X (w.heap.size + 1 + 1) #[.slice none 0 0, .int .i64 0, .int .i64 0, .int .i64 0, .int .i64 0, .int .i64 0, .int .i64 0, .int .i64 0, .int .i64 0, .int .i64 0] 63 ∧ Kept w X) ⟨by (exact blkc), by (exact blkc), by (exact blkc), by (exact kpt)⟩ ?_
  clear b0 b1 b2 hk
  rintro X ⟨b0, b1, b2, hk⟩
  have b0c0 := b0.cell 0
  have b0f0 := b0.free 0
  have b0c1 := b0.cell 1
  have b0f1 := b0.free 1
  have b0c2 := b0.cell 2
  have b0f2 := b0.free 2
  have b0c3 := b0.cell 3
  have b0f3 := b0.free 3
  have b0c4 := b0.cell 4
  have b0f4 := b0.free 4
  have b0c5 := b0.cell 5
  have b0f5 := b0.free 5
  have b0c6 := b0.cell 6
  have b0f6 := b0.free 6
  have b0c7 := b0.cell 7
  have b0f7 := b0.free 7
  have b0c8 := b0.cell 8
  have b0f8 := b0.free 8
  have b0c9 := b0.cell 9
  have b0f9 := b0.free 9
  have b0l := b0.lt
  simp at b0c0 b0c1 b0c2 b0c3 b0c4 b0c5 b0c6 b0c7 b0c8 b0c9
  have b1c0 := b1.cell 0
  have b1f0 := b1.free 0
  have b1c1 := b1.cell 1
  have b1f1 := b1.free 1
  have b1c2 := b1.cell 2
  have b1f2 := b1.free 2
  have b1c3 := b1.cell 3
  have b1f3 := b1.free 3
  have b1l := b1.lt
  simp at b1c0 b1c1 b1c2 b1c3
  have b2c0 := b2.cell 0
  have b2f0 := b2.free 0
  have b2c1 := b2.cell 1
  have b2f1 := b2.free 1
  have b2c2 := b2.cell 2
  have b2f2 := b2.free 2
  have b2c3 := b2.cell 3
  have b2f3 := b2.free 3
  have b2c4 := b2.cell 4
  have b2f4 := b2.free 4
  have b2c5 := b2.cell 5
  have b2f5 := b2.free 5
  have b2c6 := b2.cell 6
  have b2f6 := b2.free 6
  have b2c7 := b2.cell 7
  have b2f7 := b2.free 7
  have b2c8 := b2.cell 8
  have b2f8 := b2.free 8
  have b2c9 := b2.cell 9
  have b2f9 := b2.free 9
  have b2l := b2.lt
  simp at b2c0 b2c1 b2c2 b2c3 b2c4 b2c5 b2c6 b2c7 b2c8 b2c9
  go_upto_region 7 with (go_at_call 47; (with_reducible refine (r_Twin p a cap _ (hx.later (by (exact kpt)) (Nat.le_refl _)) (by omega) hz).mono ?_); rintro e w1 ⟨ad, cp, rfl, hm1, hb1⟩)
  have b1k := b1.keep hb1
  have b2k := b2.keep hb1
  have hsz := b2k.lt
  have hm2 := hm1.base (C := w.heap.size) hk.size
  have hk2 := hk.trans (hb1.mono hk.size)
  refine at_world (S := fun Y => Blk Y (w.heap.size + 1) #[.int .u8 d.kind, .int .i64 d.cell, .int .i64 d.to, .int .i64 d.n] 65 ∧ Blk Y (w.heap.size + 1 + 1) #[.slice none 0 0, .int .i64 0, .int .i64 0, .int .i64 0, .int .i64 0, .int .i64 0, .int .i64 0, .int .i64 0, .int .i64 0, .int .i64 0] 63 ∧ Blk Y w1.heap.size #[.slice ad p.cells.length cp, .int .i64 (p.bottles), .int .i64 (p.inH), .int .i64 (p.inA), .int .i64 (p.vH), .int .i64 (p.vA), .int .i64 (p.lH), .int .i64 (p.lA), .int .i64 (p.pH), .int .i64 (p.pA)] 63 ∧ Mine 25 w.heap.size Y (.slice ad p.cells.length cp) p.cells ∧ Kept w Y ∧ w.heap.size + 1 + 1 < w1.heap.size) ⟨by (exact blkc), by (exact blkc), by (exact blkc), by exact (by have hnp := mine_past hm2 (Nat.le_refl _); (repeat (with_reducible refine Mine.off ?_ hnp _)); exact hm2.alloc _), by (exact kpt), hsz⟩ ?_
  clear b0c0 b0f0 b0c1 b0f1 b0c2 b0f2 b0c3 b0f3 b0c4 b0f4 b0c5 b0f5 b0c6 b0f6 b0c7 b0f7 b0c8 b0f8 b0c9 b0f9 b0l b1c0 b1f0 b1c1 b1f1 b1c2 b1f2 b1c3 b1f3 b1l b2c0 b2f0 b2c1 b2f1 b2c2 b2f2 b2c3 b2f3 b2c4 b2f4 b2c5 b2f5 b2c6 b2f6 b2c7 b2f7 b2c8 b2f8 b2c9 b2f9 b2l b0 b1 b2 hk b1k b2k hm2 hk2 hm1 hb1 hsz
  rintro Y ⟨b1, b2, r3, hm, hk, hs⟩
  generalize w1.heap.size = s at hs r3 ⊢
  obtain ⟨_, hb1, hb2, _⟩ := hb
  have w1 := i64_inx (n := p.bottles + d.n) (by omega)
  have w2 := i64_inx (n := p.inH + d.n) (by omega)
  have b1c0 := fun g : Later Y => (b1.later g).cell 0
  have b1f0 := fun g : Later Y => (b1.later g).free 0
  have b1c1 := fun g : Later Y => (b1.later g).cell 1
  have b1f1 := fun g : Later Y => (b1.later g).free 1
  have b1c2 := fun g : Later Y => (b1.later g).cell 2
  have b1f2 := fun g : Later Y => (b1.later g).free 2
  have b1c3 := fun g : Later Y => (b1.later g).cell 3
  have b1f3 := fun g : Later Y => (b1.later g).free 3
  have b1l := fun g : Later Y => (b1.later g).lt
  simp at b1c0 b1c1 b1c2 b1c3
  have r3c0 := fun g : Later Y => (r3.later g).cell 0
  have r3f0 := fun g : Later Y => (r3.later g).free 0
  have r3c1 := fun g : Later Y => (r3.later g).cell 1
  have r3f1 := fun g : Later Y => (r3.later g).free 1
  have r3c2 := fun g : Later Y => (r3.later g).cell 2
  have r3f2 := fun g : Later Y => (r3.later g).free 2
  have r3c3 := fun g : Later Y => (r3.later g).cell 3
  have r3f3 := fun g : Later Y => (r3.later g).free 3
  have r3c4 := fun g : Later Y => (r3.later g).cell 4
  have r3f4 := fun g : Later Y => (r3.later g).free 4
  have r3c5 := fun g : Later Y => (r3.later g).cell 5
  have r3f5 := fun g : Later Y => (r3.later g).free 5
  have r3c6 := fun g : Later Y => (r3.later g).cell 6
  have r3f6 := fun g : Later Y => (r3.later g).free 6
  have r3c7 := fun g : Later Y => (r3.later g).cell 7
  have r3f7 := fun g : Later Y => (r3.later g).free 7
  have r3c8 := fun g : Later Y => (r3.later g).cell 8
  have r3f8 := fun g : Later Y => (r3.later g).free 8
  have r3c9 := fun g : Later Y => (r3.later g).cell 9
  have r3f9 := fun g : Later Y => (r3.later g).free 9
  have r3l := fun g : Later Y => (r3.later g).lt
  simp at r3c0 r3c1 r3c2 r3c3 r3c4 r3c5 r3c6 r3c7 r3c8 r3c9
  refine Later.region (by kernel_rfl) (by kernel_rfl) ?_
  repeat (first | go_big_quiet_skip | (go_big_quiet_want; go_big_quiet_op; first | go_big_quiet_on | (apply Exists.intro; refine ⟨fun g => ?_, ?_⟩; (focus (first | (go_at_call 117; exact Later.call (HMX _)))); go_big_quiet_on)))
  refine wpQuiet_nil ?_
  intro gg
  clear b1c0 b1f0 b1c1 b1f1 b1c2 b1f2 b1c3 b1f3 b1l r3c0 r3f0 r3c1 r3f1 r3c2 r3f2 r3c3 r3f3 r3c4 r3f4 r3c5 r3f5 r3c6 r3f6 r3c7 r3f7 r3c8 r3f8 r3c9 r3f9 r3l
  have z1 := b1.later gg
  have z2 := b2.later gg
  have z3 := r3.later gg
  have hmg := hm.keep gg.ok
  have hkg := Kept.drop hk gg.ok
  have hne := hmg.ne z3 (by decide)
  have z1c0 := z1.cell 0
  have z1f0 := z1.free 0
  have z1c1 := z1.cell 1
  have z1f1 := z1.free 1
  have z1c2 := z1.cell 2
  have z1f2 := z1.free 2
  have z1c3 := z1.cell 3
  have z1f3 := z1.free 3
  have z1l := z1.lt
  simp at z1c0 z1c1 z1c2 z1c3
  have z3c0 := z3.cell 0
  have z3f0 := z3.free 0
  have z3c1 := z3.cell 1
  have z3f1 := z3.free 1
  have z3c2 := z3.cell 2
  have z3f2 := z3.free 2
  have z3c3 := z3.cell 3
  have z3f3 := z3.free 3
  have z3c4 := z3.cell 4
  have z3f4 := z3.free 4
  have z3c5 := z3.cell 5
  have z3f5 := z3.free 5
  have z3c6 := z3.cell 6
  have z3f6 := z3.free 6
  have z3c7 := z3.cell 7
  have z3f7 := z3.free 7
  have z3c8 := z3.cell 8
  have z3f8 := z3.free 8
  have z3c9 := z3.cell 9
  have z3f9 := z3.free 9
  have z3l := z3.lt
  simp at z3c0 z3c1 z3c2 z3c3 z3c4 z3c5 z3c6 z3c7 z3c8 z3c9
  go_upto_region 34 with (go_at_call 117; (with_reducible refine (HMW _).mono ?_); rintro e w9 ⟨rfl, rfl⟩)
  clear z1c0 z1f0 z1c1 z1f1 z1c2 z1f2 z1c3 z1f3 z1l z3c0 z3f0 z3c1 z3f1 z3c2 z3f2 z3c3 z3f3 z3c4 z3f4 z3c5 z3f5 z3c6 z3f6 z3c7 z3f7 z3c8 z3f8 z3c9 z3f9 z3l
  refine at_world (S := fun Z => Blk Z (w.heap.size + 1 + 1) #[.slice none 0 0, .int .i64 0, .int .i64 0, .int .i64 0, .int .i64 0, .int .i64 0, .int .i64 0, .int .i64 0, .int .i64 0, .int .i64 0] 63 ∧ Blk Z s #[.slice ad p.cells.length cp, .int .i64 (Q.bottles), .int .i64 (Q.inH), .int .i64 (Q.inA), .int .i64 (Q.vH), .int .i64 (Q.vA), .int .i64 (Q.lH), .int .i64 (Q.lA), .int .i64 (Q.pH), .int .i64 (Q.pA)] 63 ∧ Mine 25 w.heap.size Z (.slice ad p.cells.length cp) Q.cells ∧ Kept w Z) ⟨by (exact blkc), (((z3.set 1 _).set 2 _).alloc _).cast (by rw [HQ.out]; simp [buyP]), by rw [show Q.cells = p.cells by rw [HQ.out]; rfl]; exact ((hmg.off hne _).off hne _).alloc _, by (exact kpt)⟩ ?_
  clear hne b1 b2 r3 hm hk z1 z2 z3 hmg hkg
  rintro Z ⟨b2, r3, hm, hk⟩
  cases hpq : plantB Q
  · have HPQ := Lib.hid hpq
    have r3c0 := r3.cell 0
    have r3f0 := r3.free 0
    have r3c1 := r3.cell 1
    have r3f1 := r3.free 1
    have r3c2 := r3.cell 2
    have r3f2 := r3.free 2
    have r3c3 := r3.cell 3
    have r3f3 := r3.free 3
    have r3c4 := r3.cell 4
    have r3f4 := r3.free 4
    have r3c5 := r3.cell 5
    have r3f5 := r3.free 5
    have r3c6 := r3.cell 6
    have r3f6 := r3.free 6
    have r3c7 := r3.cell 7
    have r3f7 := r3.free 7
    have r3c8 := r3.cell 8
    have r3f8 := r3.free 8
    have r3c9 := r3.cell 9
    have r3f9 := r3.free 9
    have r3l := r3.lt
    simp at r3c0 r3c1 r3c2 r3c3 r3c4 r3c5 r3c6 r3c7 r3c8 r3c9
    go_upto_region 35 with (go_at_call 115; (with_reducible refine (r_PlantK hm).mono ?_); rw [HPQ.out]; rintro e w4 ⟨rfl, hb4⟩)
    clear r3c0 r3f0 r3c1 r3f1 r3c2 r3f2 r3c3 r3f3 r3c4 r3f4 r3c5 r3f5 r3c6 r3f6 r3c7 r3f7 r3c8 r3f8 r3c9 r3f9 r3l
    refine at_world (S := fun U => Blk U (w.heap.size + 1 + 1) #[.slice none 0 0, .int .i64 0, .int .i64 0, .int .i64 0, .int .i64 0, .int .i64 0, .int .i64 0, .int .i64 0, .int .i64 0, .int .i64 0] 63 ∧ Blk U s #[.slice ad p.cells.length cp, .int .i64 (Q.bottles), .int .i64 (Q.inH), .int .i64 (Q.inA), .int .i64 (Q.vH), .int .i64 (Q.vA), .int .i64 (Q.lH), .int .i64 (Q.lA), .int .i64 (Q.pH), .int .i64 (Q.pA)] 63 ∧ Mine 25 w.heap.size U (.slice ad p.cells.length cp) Q.cells ∧ Kept w U) ⟨b2.keep hb4, r3.keep hb4, hm.keep hb4, Kept.drop hk hb4⟩ ?_
    clear b2 r3 hm hk hb4
    rintro U ⟨b2, r3, hm, hk⟩
    have b2c0 := b2.cell 0
    have b2f0 := b2.free 0
    have b2c1 := b2.cell 1
    have b2f1 := b2.free 1
    have b2c2 := b2.cell 2
    have b2f2 := b2.free 2
    have b2c3 := b2.cell 3
    have b2f3 := b2.free 3
    have b2c4 := b2.cell 4
    have b2f4 := b2.free 4
    have b2c5 := b2.cell 5
    have b2f5 := b2.free 5
    have b2c6 := b2.cell 6
    have b2f6 := b2.free 6
    have b2c7 := b2.cell 7
    have b2f7 := b2.free 7
    have b2c8 := b2.cell 8
    have b2f8 := b2.free 8
    have b2c9 := b2.cell 9
    have b2f9 := b2.free 9
    have b2l := b2.lt
    simp at b2c0 b2c1 b2c2 b2c3 b2c4 b2c5 b2c6 b2c7 b2c8 b2c9
    have r3c0 := r3.cell 0
    have r3f0 := r3.free 0
    have r3c1 := r3.cell 1
    have r3f1 := r3.free 1
    have r3c2 := r3.cell 2
    have r3f2 := r3.free 2
    have r3c3 := r3.cell 3
    have r3f3 := r3.free 3
    have r3c4 := r3.cell 4
    have r3f4 := r3.free 4
    have r3c5 := r3.cell 5
    have r3f5 := r3.free 5
    have r3c6 := r3.cell 6
    have r3f6 := r3.free 6
    have r3c7 := r3.cell 7
    have r3f7 := r3.free 7
    have r3c8 := r3.cell 8
    have r3f8 := r3.free 8
    have r3c9 := r3.cell 9
    have r3f9 := r3.free 9
    have r3l := r3.lt
    simp at r3c0 r3c1 r3c2 r3c3 r3c4 r3c5 r3c6 r3c7 r3c8 r3c9
    go_wp2
    refine bodyPost_ret (v := .tuple #[.agg #[.slice none 0 0, .int .i64 0, .int .i64 0, .int .i64 0, .int .i64 0, .int .i64 0, .int .i64 0, .int .i64 0, .int .i64 0, .int .i64 0], .int .i64 9]) (by simp [results, Try.results49, go_sem, b2c0, b2f0, b2c1, b2f1, b2c2, b2f2, b2c3, b2f3, b2c4, b2f4, b2c5, b2f5, b2c6, b2f6, b2c7, b2f7, b2c8, b2f8, b2c9, b2f9, r3c0, r3f0, r3c1, r3f1, r3c2, r3f2, r3c3, r3f3, r3c4, r3f4, r3c5, r3f5, r3c6, r3f6, r3c7, r3f7, r3c8, r3f8, r3c9, r3f9]) rfl ⟨.slice none 0 0, ?_, ?_, ?_⟩
    · simp [endQ, endE, HPQ.out, noPlant]
    · rw [show endQ Q = noPlant by simp [endQ, HPQ.out]]
      exact Mine.zero
    · (exact kpt)
  · have HPQ := Lib.hid hpq
    have r3c0 := r3.cell 0
    have r3f0 := r3.free 0
    have r3c1 := r3.cell 1
    have r3f1 := r3.free 1
    have r3c2 := r3.cell 2
    have r3f2 := r3.free 2
    have r3c3 := r3.cell 3
    have r3f3 := r3.free 3
    have r3c4 := r3.cell 4
    have r3f4 := r3.free 4
    have r3c5 := r3.cell 5
    have r3f5 := r3.free 5
    have r3c6 := r3.cell 6
    have r3f6 := r3.free 6
    have r3c7 := r3.cell 7
    have r3f7 := r3.free 7
    have r3c8 := r3.cell 8
    have r3f8 := r3.free 8
    have r3c9 := r3.cell 9
    have r3f9 := r3.free 9
    have r3l := r3.lt
    simp at r3c0 r3c1 r3c2 r3c3 r3c4 r3c5 r3c6 r3c7 r3c8 r3c9
    go_upto_region 36 with (go_at_call 115; (with_reducible refine (r_PlantK hm).mono ?_); rw [HPQ.out]; rintro e w4 ⟨rfl, hb4⟩)
    clear r3c0 r3f0 r3c1 r3f1 r3c2 r3f2 r3c3 r3f3 r3c4 r3f4 r3c5 r3f5 r3c6 r3f6 r3c7 r3f7 r3c8 r3f8 r3c9 r3f9 r3l
    refine at_world (S := fun U => Blk U (w.heap.size + 1 + 1) #[.slice none 0 0, .int .i64 0, .int .i64 0, .int .i64 0, .int .i64 0, .int .i64 0, .int .i64 0, .int .i64 0, .int .i64 0, .int .i64 0] 63 ∧ Blk U s #[.slice ad p.cells.length cp, .int .i64 (Q.bottles), .int .i64 (Q.inH), .int .i64 (Q.inA), .int .i64 (Q.vH), .int .i64 (Q.vA), .int .i64 (Q.lH), .int .i64 (Q.lA), .int .i64 (Q.pH), .int .i64 (Q.pA)] 63 ∧ Mine 25 w.heap.size U (.slice ad p.cells.length cp) Q.cells ∧ Kept w U) ⟨b2.keep hb4, r3.keep hb4, hm.keep hb4, Kept.drop hk hb4⟩ ?_
    clear b2 r3 hm hk hb4
    rintro U ⟨b2, r3, hm, hk⟩
    have b2c0 := b2.cell 0
    have b2f0 := b2.free 0
    have b2c1 := b2.cell 1
    have b2f1 := b2.free 1
    have b2c2 := b2.cell 2
    have b2f2 := b2.free 2
    have b2c3 := b2.cell 3
    have b2f3 := b2.free 3
    have b2c4 := b2.cell 4
    have b2f4 := b2.free 4
    have b2c5 := b2.cell 5
    have b2f5 := b2.free 5
    have b2c6 := b2.cell 6
    have b2f6 := b2.free 6
    have b2c7 := b2.cell 7
    have b2f7 := b2.free 7
    have b2c8 := b2.cell 8
    have b2f8 := b2.free 8
    have b2c9 := b2.cell 9
    have b2f9 := b2.free 9
    have b2l := b2.lt
    simp at b2c0 b2c1 b2c2 b2c3 b2c4 b2c5 b2c6 b2c7 b2c8 b2c9
    have r3c0 := r3.cell 0
    have r3f0 := r3.free 0
    have r3c1 := r3.cell 1
    have r3f1 := r3.free 1
    have r3c2 := r3.cell 2
    have r3f2 := r3.free 2
    have r3c3 := r3.cell 3
    have r3f3 := r3.free 3
    have r3c4 := r3.cell 4
    have r3f4 := r3.free 4
    have r3c5 := r3.cell 5
    have r3f5 := r3.free 5
    have r3c6 := r3.cell 6
    have r3f6 := r3.free 6
    have r3c7 := r3.cell 7
    have r3f7 := r3.free 7
    have r3c8 := r3.cell 8
    have r3f8 := r3.free 8
    have r3c9 := r3.cell 9
    have r3f9 := r3.free 9
    have r3l := r3.lt
    simp at r3c0 r3c1 r3c2 r3c3 r3c4 r3c5 r3c6 r3c7 r3c8 r3c9
    go_wp2
    refine bodyPost_ret (v := .tuple #[.agg #[.slice ad p.cells.length cp, .int .i64 (Q.bottles), .int .i64 (Q.inH), .int .i64 (Q.inA), .int .i64 (Q.vH), .int .i64 (Q.vA), .int .i64 (Q.lH), .int .i64 (Q.lA), .int .i64 (Q.pH), .int .i64 (Q.pA)], .int .i64 0]) (by simp [results, Try.results49, go_sem, b2c0, b2f0, b2c1, b2f1, b2c2, b2f2, b2c3, b2f3, b2c4, b2f4, b2c5, b2f5, b2c6, b2f6, b2c7, b2f7, b2c8, b2f8, b2c9, b2f9, r3c0, r3f0, r3c1, r3f1, r3c2, r3f2, r3c3, r3f3, r3c4, r3f4, r3c5, r3f5, r3c6, r3f6, r3c7, r3f7, r3c8, r3f8, r3c9, r3f9]) rfl ⟨.slice ad p.cells.length cp, ?_, ?_, ?_⟩
    · simp [endQ, endE, HPQ.out, noPlant]
    · rw [show endQ Q = Q by simp [endQ, HPQ.out]]
      have hne := hm.ne b2 (by decide)
      (repeat (with_reducible refine Mine.off ?_ (by with_reducible assumption) _))
      exact hm
    · (exact kpt)

end Go.Proofs.Ytemafanncejeiaa

/-
  The program: Do, kind by kind.
-/
namespace Go.Proofs.Ytemafanncejeiaa
open Go.RowKit Bal Bal.Trim Bal.Gas
set_option linter.unusedVariables false
set_option linter.unusedSimpArgs false
set_option maxHeartbeats 8000000
set_option maxRecDepth 100000

theorem blk_below {W W' : World} {b B : Nat} {arr : Array Value} {t : TypeId} (h : Blk W b arr t) (hb : Below B W W') (hB : b < B) : Blk W' b arr t := (hb.block b hB).trans h
theorem f_CheckK {B n cp : Nat} {ad : Option Addr} {q : Plant} {w : World} (h : Mine 25 B w (.slice ad n cp) q.cells) : Calls Try.prog 50 #[.agg #[.slice ad n cp, .int .i64 q.bottles, .int .i64 q.inH, .int .i64 q.inA, .int .i64 q.vH, .int .i64 q.vA, .int .i64 q.lH, .int .i64 q.lA, .int .i64 q.pH, .int .i64 q.pA]] w fun e w' => e = .returned (.int .i64 (plantE q)) ∧ Kept w w' := by
  obtain ⟨h1, h2, h3, h4, h5⟩ := h.row
  subst h1
  exact f_Check q ad cp w h2 h3 h4

theorem f_DoX_no (p : Plant) (d : Deed) (a : Option Addr) (cap : Nat) (w : World) (hx : Row Cell.cells 7 w.heap.size w a p.cells) (hc : p.cells.length ≤ cap) (hM : cap ≤ maxLen) (hz : a = none → cap = 0) (fn : FuncId) (hcf : ∀ (args : Array Value) (w : World), (callFunc fn args).run Try.prog w = .ok (.enter fn args) w) (hp : plantB p = true) (hk17 : 1 ≤ d.kind ∧ d.kind ≤ 7) (hfn : (#[.nilFunc, .func (.func 106) #[] #[], .func (.func 107) #[] #[], .func (.func 108) #[] #[], .func (.func 109) #[] #[], .func (.func 110) #[] #[], .func (.func 111) #[] #[], .func (.func 112) #[] #[]] : Array Value)[d.kind.toNat]? = some (.func (.func fn) #[] #[])) (he : errA p d ≠ 0) (hact : ∀ (B s cp : Nat) (ad : Option Addr) (w : World), Shop 25 174 B w s ad cp p → Calls Try.prog fn #[.pointer (some ⟨s, 0, none⟩), .agg #[.int .u8 d.kind, .int .i64 d.cell, .int .i64 d.to, .int .i64 d.n]] w fun e w' => e = .panicked [{ v := refusal (errA p d), recovered := false }] ∧ Kept w w') : Calls Try.prog 48 #[.agg #[.slice a p.cells.length cap, .int .i64 p.bottles, .int .i64 p.inH, .int .i64 p.inA, .int .i64 p.vH, .int .i64 p.vA, .int .i64 p.lH, .int .i64 p.lA, .int .i64 p.pH, .int .i64 p.pA], .agg #[.int .u8 d.kind, .int .i64 d.cell, .int .i64 d.to, .int .i64 d.n]] w fun e w' => e = .returned (.tuple #[.agg #[.slice none 0 0, .int .i64 0, .int .i64 0, .int .i64 0, .int .i64 0, .int .i64 0, .int .i64 0, .int .i64 0, .int .i64 0, .int .i64 0], .int .i64 (errA p d)]) ∧ Kept w w' := by
  have HP := Lib.hid (show plantE p = 0 by simp [plantE, hp])
  have H1 := Lib.hid (show rng [d.kind] 1 7 = true by simp [rng, inB]; omega)
  have hw := i64_inx (n := d.kind) (by omega)
  have hn12 : p.cells.length ≤ 12 := (plantB_iff.1 hp).1
  have HFN := Lib.hid hfn
  have HACT := Lib.hid hact
  have HPP := Lib.hid hp
  have HE := Lib.hid he
  clear hfn hp he hact
  have hmf : ∀ (fn : Fn) (first cap : Array Value) (w : World), (Instr.makeFunc fn first cap).run Try.prog w = .ok (.func fn first cap) w := fun _ _ _ _ => rfl
  go_enter_defers Try.func48, Try.ntmps48
  go_upto_region 4 with (go_at_call 50; (with_reducible refine (f_Check p a cap _ (hx.later (by (exact kpt)) (Nat.le_refl _)) hc hM).mono ?_); rw [HP.out]; rintro e w1 ⟨rfl, hb1⟩; refine Blk.thru (b := w.heap.size) (arr := ?_) (t := ?_) ?_ hb1 ?_; rotate_left 2; (focus (exact blk)); intro rr; have rrc0 := rr.cell 0; have rrf0 := rr.free 0; have rrc1 := rr.cell 1; have rrf1 := rr.free 1; have rrc2 := rr.cell 2; have rrf2 := rr.free 2; have rrc3 := rr.cell 3; have rrf3 := rr.free 3; have rrc4 := rr.cell 4; have rrf4 := rr.free 4; have rrc5 := rr.cell 5; have rrf5 := rr.free 5; have rrc6 := rr.cell 6; have rrf6 := rr.free 6; have rrc7 := rr.cell 7; have rrf7 := rr.free 7; have rrc8 := rr.cell 8; have rrf8 := rr.free 8; have rrc9 := rr.cell 9; have rrf9 := rr.free 9; have rrl := rr.lt; simp at rrc0 rrc1 rrc2 rrc3 rrc4 rrc5 rrc6 rrc7 rrc8 rrc9; refine Blk.thru (b := (w.heap.size + 1)) (arr := ?_) (t := ?_) ?_ hb1 ?_; rotate_left 2; (focus (exact blk)); intro rq; have rqc0 := rq.cell 0; have rqf0 := rq.free 0; have rqc1 := rq.cell 1; have rqf1 := rq.free 1; have rqc2 := rq.cell 2; have rqf2 := rq.free 2; have rqc3 := rq.cell 3; have rqf3 := rq.free 3; have rql := rq.lt; simp at rqc0 rqc1 rqc2 rqc3)
  refine at_world (S := fun W => Blk W w.heap.size #[.slice a p.cells.length cap, .int .i64 p.bottles, .int .i64 p.inH, .int .i64 p.inA, .int .i64 p.vH, .int .i64 p.vA, .int .i64 p.lH, .int .i64 p.lA, .int .i64 p.pH, .int .i64 p.pA] 63 ∧ Blk W (w.heap.size + 1) #[.int .u8 d.kind, .int .i64 d.cell, .int .i64 d.to, .int .i64 d.n] 65 ∧ Blk W (w.heap.size + 1 + 1) #[.slice none 0 0, .int .i64 0, .int .i64 0, .int .i64 0, .int .i64 0, .int .i64 0, .int .i64 0, .int .i64 0, .int .i64 0, .int .i64 0] 63 ∧ Blk W (w.heap.size + 1 + 1 + 1) #[.int .i64 0] 28 ∧ Kept w W) ⟨by (exact blkc), by (exact blkc), by (exact blkc), by (exact blkc), by (exact kpt)⟩ ?_
  rintro W ⟨b0, b1, b2, b3, hk⟩
  have b0c0 := b0.cell 0
  have b0f0 := b0.free 0
  have b0c1 := b0.cell 1
  have b0f1 := b0.free 1
  have b0c2 := b0.cell 2
  have b0f2 := b0.free 2
  have b0c3 := b0.cell 3
  have b0f3 := b0.free 3
  have b0c4 := b0.cell 4
  have b0f4 := b0.free 4
  have b0c5 := b0.cell 5
  have b0f5 := b0.free 5
  have b0c6 := b0.cell 6
  have b0f6 := b0.free 6
  have b0c7 := b0.cell 7
  have b0f7 := b0.free 7
  have b0c8 := b0.cell 8
  have b0f8 := b0.free 8
  have b0c9 := b0.cell 9
  have b0f9 := b0.free 9
  have b0l := b0.lt
  simp at b0c0 b0c1 b0c2 b0c3 b0c4 b0c5 b0c6 b0c7 b0c8 b0c9
  have b1c0 := b1.cell 0
  have b1f0 := b1.free 0
  have b1c1 := b1.cell 1
  have b1f1 := b1.free 1
  have b1c2 := b1.cell 2
  have b1f2 := b1.free 2
  have b1c3 := b1.cell 3
  have b1f3 := b1.free 3
  have b1l := b1.lt
  simp at b1c0 b1c1 b1c2 b1c3
  have b2c0 := b2.cell 0
  have b2f0 := b2.free 0
  have b2c1 := b2.cell 1
  have b2f1 := b2.free 1
  have b2c2 := b2.cell 2
  have b2f2 := b2.free 2
  have b2c3 := b2.cell 3
  have b2f3 := b2.free 3
  have b2c4 := b2.cell 4
  have b2f4 := b2.free 4
  have b2c5 := b2.cell 5
  have b2f5 := b2.free 5
  have b2c6 := b2.cell 6
  have b2f6 := b2.free 6
  have b2c7 := b2.cell 7
  have b2f7 := b2.free 7
  have b2c8 := b2.cell 8
  have b2f8 := b2.free 8
  have b2c9 := b2.cell 9
  have b2f9 := b2.free 9
  have b2l := b2.lt
  simp at b2c0 b2c1 b2c2 b2c3 b2c4 b2c5 b2c6 b2c7 b2c8 b2c9
  have b3c0 := b3.cell 0
  have b3f0 := b3.free 0
  have b3l := b3.lt
  simp at b3c0
  go_upto_region 7 with (first | (go_at_call 91; (with_reducible refine (f_ranged1 _ _ d.kind _ _ _ (by simp)).mono ?_); rw [H1.out]; rintro e w1 ⟨rfl, rfl⟩) | (go_at_call 113; (with_reducible refine (f_need_ok _ _).mono ?_); rintro e w1 ⟨rfl, rfl⟩))
  clear b0c0 b0f0 b0c1 b0f1 b0c2 b0f2 b0c3 b0f3 b0c4 b0f4 b0c5 b0f5 b0c6 b0f6 b0c7 b0f7 b0c8 b0f8 b0c9 b0f9 b0l b1c0 b1f0 b1c1 b1f1 b1c2 b1f2 b1c3 b1f3 b1l b2c0 b2f0 b2c1 b2f1 b2c2 b2f2 b2c3 b2f3 b2c4 b2f4 b2c5 b2f5 b2c6 b2f6 b2c7 b2f7 b2c8 b2f8 b2c9 b2f9 b2l b3c0 b3f0 b3l
  refine at_world (S := fun X => Blk X w.heap.size #[.slice a p.cells.length cap, .int .i64 p.bottles, .int .i64 p.inH, .int .i64 p.inA, .int .i64 p.vH, .int .i64 p.vA, .int .i64 p.lH, .int .i64 p.lA, .int .i64 p.pH, .int .i64 p.pA] 63 ∧ Blk X (w.heap.size + 1) #[.int .u8 d.kind, .int .i64 d.cell, .int .i64 d.to, .int .i64 d.n] 65 ∧ Blk X (w.heap.size + 1 + 1) #[.slice none 0 0, .int .i64 0, .int .i64 0, .int .i64 0, .int .i64 0, .int .i64 0, .int .i64 0, .int .i64 0, .int .i64 0, .int .i64 0] 63 ∧ Blk X (w.heap.size + 1 + 1 + 1) #[.int .i64 0] 28 ∧ Blk X W.heap.size #[.nilFunc, .func (.func 106) #[] #[], .func (.func 107) #[] #[], .func (.func 108) #[] #[], .func (.func 109) #[] #[], .func (.func 110) #[] #[], .func (.func 111) #[] #[], .func (.func 112) #[] #[]] 171 ∧ Kept w X) ⟨by (exact blkc), by (exact blkc), by (exact blkc), by (exact blkc), by (exact blkc), by (exact kpt)⟩ ?_
  clear b0 b1 b2 b3 hk
  rintro X ⟨b0, b1, b2, b3, ba, hk⟩
  generalize W.heap.size = m at ba ⊢
  have b0c0 := b0.cell 0
  have b0f0 := b0.free 0
  have b0c1 := b0.cell 1
  have b0f1 := b0.free 1
  have b0c2 := b0.cell 2
  have b0f2 := b0.free 2
  have b0c3 := b0.cell 3
  have b0f3 := b0.free 3
  have b0c4 := b0.cell 4
  have b0f4 := b0.free 4
  have b0c5 := b0.cell 5
  have b0f5 := b0.free 5
  have b0c6 := b0.cell 6
  have b0f6 := b0.free 6
  have b0c7 := b0.cell 7
  have b0f7 := b0.free 7
  have b0c8 := b0.cell 8
  have b0f8 := b0.free 8
  have b0c9 := b0.cell 9
  have b0f9 := b0.free 9
  have b0l := b0.lt
  simp at b0c0 b0c1 b0c2 b0c3 b0c4 b0c5 b0c6 b0c7 b0c8 b0c9
  go_upto_region 9 with (go_at_call 114; (with_reducible refine (s_CloneC a cap p.cells _ (hx.later (by (exact kpt)) (Nat.le_refl _)) (by omega) hz).mono ?_); rintro e w2 ⟨v, rfl, hown, hb2⟩; obtain ⟨ad, cp, rfl, _⟩ := (Mine.of_owns hown).slice; refine Blk.thru (b := X.heap.size) (arr := ?_) (t := ?_) ?_ hb2 ?_; rotate_left 2; (focus (exact blk)); intro rs; have rsc0 := rs.cell 0; have rsf0 := rs.free 0; have rsc1 := rs.cell 1; have rsf1 := rs.free 1; have rsc2 := rs.cell 2; have rsf2 := rs.free 2; have rsc3 := rs.cell 3; have rsf3 := rs.free 3; have rsc4 := rs.cell 4; have rsf4 := rs.free 4; have rsc5 := rs.cell 5; have rsf5 := rs.free 5; have rsc6 := rs.cell 6; have rsf6 := rs.free 6; have rsc7 := rs.cell 7; have rsf7 := rs.free 7; have rsc8 := rs.cell 8; have rsf8 := rs.free 8; have rsc9 := rs.cell 9; have rsf9 := rs.free 9; have rsl := rs.lt; simp at rsc0 rsc1 rsc2 rsc3 rsc4 rsc5 rsc6 rsc7 rsc8 rsc9)
  have hsX := hk.size
  have l1 := b1.lt
  have l2 := b2.lt
  have l3 := b3.lt
  have la := ba.lt
  have x2 := rs.lt
  have hm2 := Mine.of_owns hown
  have xb1 := ((b1.alloc _).keep hb2)
  have xb2 := ((b2.alloc _).keep hb2)
  have xb3 := ((b3.alloc _).keep hb2)
  have xba := ((ba.alloc _).keep hb2)
  have hk2 := Kept.drop (Kept.alloc hk _) hb2
  refine at_world (S := fun Y => Blk Y (w.heap.size + 1) #[.int .u8 d.kind, .int .i64 d.cell, .int .i64 d.to, .int .i64 d.n] 65 ∧ Blk Y (w.heap.size + 1 + 1) #[.slice none 0 0, .int .i64 0, .int .i64 0, .int .i64 0, .int .i64 0, .int .i64 0, .int .i64 0, .int .i64 0, .int .i64 0, .int .i64 0] 63 ∧ Blk Y (w.heap.size + 1 + 1 + 1) #[.int .i64 0] 28 ∧ Blk Y m #[.nilFunc, .func (.func 106) #[] #[], .func (.func 107) #[] #[], .func (.func 108) #[] #[], .func (.func 109) #[] #[], .func (.func 110) #[] #[], .func (.func 111) #[] #[], .func (.func 112) #[] #[]] 171 ∧ Shop 25 174 X.heap.size Y X.heap.size ad cp p ∧ Kept w Y ∧ w.heap.size + 1 + 1 + 1 < X.heap.size) ⟨xb1.other (by simp; omega) _, xb2.other (by simp; omega) _, xb3.other (by simp; omega) _, xba.other (by simp; omega) _, ⟨Nat.le_refl _, (rs.set 0 _).cast (by simp [plantCells]), (hm2.base (by simp)).other rs (by decide) _⟩, hk2.setCell hk.size _, b3.lt⟩ ?_
  clear l1 l2 l3 la b0 b1 b2 b3 ba hk xb1 xb2 xb3 xba hk2 hsX hm2 x2 rs hown hb2 b0c0 b0f0 b0c1 b0f1 b0c2 b0f2 b0c3 b0f3 b0c4 b0f4 b0c5 b0f5 b0c6 b0f6 b0c7 b0f7 b0c8 b0f8 b0c9 b0f9 b0l
  rintro Y ⟨b1, b2, b3, ba, hsh, hk, hs⟩
  generalize X.heap.size = s at hs hsh ⊢
  have b1c0 := fun g : Later Y => (b1.later g).cell 0
  have b1f0 := fun g : Later Y => (b1.later g).free 0
  have b1c1 := fun g : Later Y => (b1.later g).cell 1
  have b1f1 := fun g : Later Y => (b1.later g).free 1
  have b1c2 := fun g : Later Y => (b1.later g).cell 2
  have b1f2 := fun g : Later Y => (b1.later g).free 2
  have b1c3 := fun g : Later Y => (b1.later g).cell 3
  have b1f3 := fun g : Later Y => (b1.later g).free 3
  have b1l := fun g : Later Y => (b1.later g).lt
  simp at b1c0 b1c1 b1c2 b1c3
  have ya : ∀ g : Later Y, g.val.cell? ⟨m, d.kind.toNat, none⟩ = some (.func (.func fn) #[] #[]) := fun g => by rw [(ba.later g).cell]; exact HFN.out
  refine Later.tail 6 (by kernel_rfl) (by kernel_rfl) ?_
  simp only [List.take_succ_cons, List.take_zero, List.drop_succ_cons, List.drop_zero]
  repeat (first | go_big_quiet_skip | (go_big_quiet_want; go_big_quiet_op; first | go_big_quiet_on | (apply Exists.intro; refine ⟨fun g_ => ?_, ?_⟩; (focus (first | fail)); go_big_quiet_on)))
  refine wpQuiet_nil ?_
  intro gg
  refine wpList_plain rfl fun K1 hK1 => ?_
  have n2 := b2.later gg
  have n3 := b3.later gg
  have hkg := Kept.drop hk gg.ok
  clear b1c0 b1f0 b1c1 b1f1 b1c2 b1f2 b1c3 b1f3 b1l
  go_wp2_with ((with_reducible refine (HACT.out _ _ _ _ _ (hsh.keep gg.ok)).mono ?_); rintro e w5 ⟨rfl, hb5⟩)
  have n2 := n2.keep hb5
  have n3 := n3.keep hb5
  have hkg := Kept.drop hkg hb5
  refine leaves_cons (f := 105) (args := #[.pointer (some ⟨w.heap.size + 1 + 1, 0, none⟩), .pointer (some ⟨w.heap.size + 1 + 1 + 1, 0, none⟩)]) (by simp) (by simp [go_sem]) ?_
  refine (catch_panics _ _ (errA p d) _ (by (exact blkc)) (by (exact blkc))).mono ?_
  rintro e u' w'' ⟨rfl, rfl, k1, k2, kb⟩
  have k1c0 := k1.cell 0
  have k1f0 := k1.free 0
  have k1c1 := k1.cell 1
  have k1f1 := k1.free 1
  have k1c2 := k1.cell 2
  have k1f2 := k1.free 2
  have k1c3 := k1.cell 3
  have k1f3 := k1.free 3
  have k1c4 := k1.cell 4
  have k1f4 := k1.free 4
  have k1c5 := k1.cell 5
  have k1f5 := k1.free 5
  have k1c6 := k1.cell 6
  have k1f6 := k1.free 6
  have k1c7 := k1.cell 7
  have k1f7 := k1.free 7
  have k1c8 := k1.cell 8
  have k1f8 := k1.free 8
  have k1c9 := k1.cell 9
  have k1f9 := k1.free 9
  have k1l := k1.lt
  simp at k1c0 k1c1 k1c2 k1c3 k1c4 k1c5 k1c6 k1c7 k1c8 k1c9
  have k2c0 := k2.cell 0
  have k2f0 := k2.free 0
  have k2l := k2.lt
  simp at k2c0
  exact (show ∃ v, (results _ _).run _ _ = .ok v _ ∧ _ from ⟨.tuple #[.agg #[.slice none 0 0, .int .i64 0, .int .i64 0, .int .i64 0, .int .i64 0, .int .i64 0, .int .i64 0, .int .i64 0, .int .i64 0, .int .i64 0], .int .i64 (errA p d)], by simp [results, Try.results48, go_sem, k1c0, k1f0, k1c1, k1f1, k1c2, k1f2, k1c3, k1f3, k1c4, k1f4, k1c5, k1f5, k1c6, k1f6, k1c7, k1f7, k1c8, k1f8, k1c9, k1f9, k2c0, k2f0], rfl, by exact Below.trans (by (exact kpt)) (kb _ (by omega) (by omega))⟩)
theorem f_DoX_ok (p : Plant) (d : Deed) (a : Option Addr) (cap : Nat) (w : World) (hx : Row Cell.cells 7 w.heap.size w a p.cells) (hc : p.cells.length ≤ cap) (hM : cap ≤ maxLen) (hz : a = none → cap = 0) (fn : FuncId) (hcf : ∀ (args : Array Value) (w : World), (callFunc fn args).run Try.prog w = .ok (.enter fn args) w) (hp : plantB p = true) (hk17 : 1 ≤ d.kind ∧ d.kind ≤ 7) (hfn : (#[.nilFunc, .func (.func 106) #[] #[], .func (.func 107) #[] #[], .func (.func 108) #[] #[], .func (.func 109) #[] #[], .func (.func 110) #[] #[], .func (.func 111) #[] #[], .func (.func 112) #[] #[]] : Array Value)[d.kind.toNat]? = some (.func (.func fn) #[] #[])) (he : errA p d = 0) (hact : ∀ (B s cp : Nat) (ad : Option Addr) (w : World), Shop 25 174 B w s ad cp p → Calls Try.prog fn #[.pointer (some ⟨s, 0, none⟩), .agg #[.int .u8 d.kind, .int .i64 d.cell, .int .i64 d.to, .int .i64 d.n]] w fun e w' => e = .returned (.tuple #[]) ∧ Shop 25 174 B w' s ad cp (resA p d) ∧ Below B w w') : Calls Try.prog 48 #[.agg #[.slice a p.cells.length cap, .int .i64 p.bottles, .int .i64 p.inH, .int .i64 p.inA, .int .i64 p.vH, .int .i64 p.vA, .int .i64 p.lH, .int .i64 p.lA, .int .i64 p.pH, .int .i64 p.pA], .agg #[.int .u8 d.kind, .int .i64 d.cell, .int .i64 d.to, .int .i64 d.n]] w fun e w' => ∃ v, e = .returned (.tuple #[.agg #[v, .int .i64 (endQ (resA p d)).bottles, .int .i64 (endQ (resA p d)).inH, .int .i64 (endQ (resA p d)).inA, .int .i64 (endQ (resA p d)).vH, .int .i64 (endQ (resA p d)).vA, .int .i64 (endQ (resA p d)).lH, .int .i64 (endQ (resA p d)).lA, .int .i64 (endQ (resA p d)).pH, .int .i64 (endQ (resA p d)).pA], .int .i64 (endE (resA p d))]) ∧ Mine 25 w.heap.size w' v ((endQ (resA p d))).cells ∧ Kept w w' := by
  obtain ⟨Q, hQ⟩ : ∃ Q, Q = resA p d := ⟨_, rfl⟩
  rw [← hQ]
  have HQ := Lib.hid hQ
  clear hQ
  have HP := Lib.hid (show plantE p = 0 by simp [plantE, hp])
  have H1 := Lib.hid (show rng [d.kind] 1 7 = true by simp [rng, inB]; omega)
  have hw := i64_inx (n := d.kind) (by omega)
  have hn12 : p.cells.length ≤ 12 := (plantB_iff.1 hp).1
  have HFN := Lib.hid hfn
  have HACT := Lib.hid hact
  have HPP := Lib.hid hp
  have HE := Lib.hid he
  clear hfn hp he hact
  have hmf : ∀ (fn : Fn) (first cap : Array Value) (w : World), (Instr.makeFunc fn first cap).run Try.prog w = .ok (.func fn first cap) w := fun _ _ _ _ => rfl
  go_enter_defers Try.func48, Try.ntmps48
  go_upto_region 4 with (go_at_call 50; (with_reducible refine (f_Check p a cap _ (hx.later (by (exact kpt)) (Nat.le_refl _)) hc hM).mono ?_); rw [HP.out]; rintro e w1 ⟨rfl, hb1⟩; refine Blk.thru (b := w.heap.size) (arr := ?_) (t := ?_) ?_ hb1 ?_; rotate_left 2; (focus (exact blk)); intro rr; have rrc0 := rr.cell 0; have rrf0 := rr.free 0; have rrc1 := rr.cell 1; have rrf1 := rr.free 1; have rrc2 := rr.cell 2; have rrf2 := rr.free 2; have rrc3 := rr.cell 3; have rrf3 := rr.free 3; have rrc4 := rr.cell 4; have rrf4 := rr.free 4; have rrc5 := rr.cell 5; have rrf5 := rr.free 5; have rrc6 := rr.cell 6; have rrf6 := rr.free 6; have rrc7 := rr.cell 7; have rrf7 := rr.free 7; have rrc8 := rr.cell 8; have rrf8 := rr.free 8; have rrc9 := rr.cell 9; have rrf9 := rr.free 9; have rrl := rr.lt; simp at rrc0 rrc1 rrc2 rrc3 rrc4 rrc5 rrc6 rrc7 rrc8 rrc9; refine Blk.thru (b := (w.heap.size + 1)) (arr := ?_) (t := ?_) ?_ hb1 ?_; rotate_left 2; (focus (exact blk)); intro rq; have rqc0 := rq.cell 0; have rqf0 := rq.free 0; have rqc1 := rq.cell 1; have rqf1 := rq.free 1; have rqc2 := rq.cell 2; have rqf2 := rq.free 2; have rqc3 := rq.cell 3; have rqf3 := rq.free 3; have rql := rq.lt; simp at rqc0 rqc1 rqc2 rqc3)
  refine at_world (S := fun W => Blk W w.heap.size #[.slice a p.cells.length cap, .int .i64 p.bottles, .int .i64 p.inH, .int .i64 p.inA, .int .i64 p.vH, .int .i64 p.vA, .int .i64 p.lH, .int .i64 p.lA, .int .i64 p.pH, .int .i64 p.pA] 63 ∧ Blk W (w.heap.size + 1) #[.int .u8 d.kind, .int .i64 d.cell, .int .i64 d.to, .int .i64 d.n] 65 ∧ Blk W (w.heap.size + 1 + 1) #[.slice none 0 0, .int .i64 0, .int .i64 0, .int .i64 0, .int .i64 0, .int .i64 0, .int .i64 0, .int .i64 0, .int .i64 0, .int .i64 0] 63 ∧ Blk W (w.heap.size + 1 + 1 + 1) #[.int .i64 0] 28 ∧ Kept w W) ⟨by (exact blkc), by (exact blkc), by (exact blkc), by (exact blkc), by (exact kpt)⟩ ?_
  rintro W ⟨b0, b1, b2, b3, hk⟩
  have b0c0 := b0.cell 0
  have b0f0 := b0.free 0
  have b0c1 := b0.cell 1
  have b0f1 := b0.free 1
  have b0c2 := b0.cell 2
  have b0f2 := b0.free 2
  have b0c3 := b0.cell 3
  have b0f3 := b0.free 3
  have b0c4 := b0.cell 4
  have b0f4 := b0.free 4
  have b0c5 := b0.cell 5
  have b0f5 := b0.free 5
  have b0c6 := b0.cell 6
  have b0f6 := b0.free 6
  have b0c7 := b0.cell 7
  have b0f7 := b0.free 7
  have b0c8 := b0.cell 8
  have b0f8 := b0.free 8
  have b0c9 := b0.cell 9
  have b0f9 := b0.free 9
  have b0l := b0.lt
  simp at b0c0 b0c1 b0c2 b0c3 b0c4 b0c5 b0c6 b0c7 b0c8 b0c9
  have b1c0 := b1.cell 0
  have b1f0 := b1.free 0
  have b1c1 := b1.cell 1
  have b1f1 := b1.free 1
  have b1c2 := b1.cell 2
  have b1f2 := b1.free 2
  have b1c3 := b1.cell 3
  have b1f3 := b1.free 3
  have b1l := b1.lt
  simp at b1c0 b1c1 b1c2 b1c3
  have b2c0 := b2.cell 0
  have b2f0 := b2.free 0
  have b2c1 := b2.cell 1
  have b2f1 := b2.free 1
  have b2c2 := b2.cell 2
  have b2f2 := b2.free 2
  have b2c3 := b2.cell 3
  have b2f3 := b2.free 3
  have b2c4 := b2.cell 4
  have b2f4 := b2.free 4
  have b2c5 := b2.cell 5
  have b2f5 := b2.free 5
  have b2c6 := b2.cell 6
  have b2f6 := b2.free 6
  have b2c7 := b2.cell 7
  have b2f7 := b2.free 7
  have b2c8 := b2.cell 8
  have b2f8 := b2.free 8
  have b2c9 := b2.cell 9
  have b2f9 := b2.free 9
  have b2l := b2.lt
  simp at b2c0 b2c1 b2c2 b2c3 b2c4 b2c5 b2c6 b2c7 b2c8 b2c9
  have b3c0 := b3.cell 0
  have b3f0 := b3.free 0
  have b3l := b3.lt
  simp at b3c0
  go_upto_region 7 with (first | (go_at_call 91; (with_reducible refine (f_ranged1 _ _ d.kind _ _ _ (by simp)).mono ?_); rw [H1.out]; rintro e w1 ⟨rfl, rfl⟩) | (go_at_call 113; (with_reducible refine (f_need_ok _ _).mono ?_); rintro e w1 ⟨rfl, rfl⟩))
  clear b0c0 b0f0 b0c1 b0f1 b0c2 b0f2 b0c3 b0f3 b0c4 b0f4 b0c5 b0f5 b0c6 b0f6 b0c7 b0f7 b0c8 b0f8 b0c9 b0f9 b0l b1c0 b1f0 b1c1 b1f1 b1c2 b1f2 b1c3 b1f3 b1l b2c0 b2f0 b2c1 b2f1 b2c2 b2f2 b2c3 b2f3 b2c4 b2f4 b2c5 b2f5 b2c6 b2f6 b2c7 b2f7 b2c8 b2f8 b2c9 b2f9 b2l b3c0 b3f0 b3l
  refine at_world (S := fun X => Blk X w.heap.size #[.slice a p.cells.length cap, .int .i64 p.bottles, .int .i64 p.inH, .int .i64 p.inA, .int .i64 p.vH, .int .i64 p.vA, .int .i64 p.lH, .int .i64 p.lA, .int .i64 p.pH, .int .i64 p.pA] 63 ∧ Blk X (w.heap.size + 1) #[.int .u8 d.kind, .int .i64 d.cell, .int .i64 d.to, .int .i64 d.n] 65 ∧ Blk X (w.heap.size + 1 + 1) #[.slice none 0 0, .int .i64 0, .int .i64 0, .int .i64 0, .int .i64 0, .int .i64 0, .int .i64 0, .int .i64 0, .int .i64 0, .int .i64 0] 63 ∧ Blk X (w.heap.size + 1 + 1 + 1) #[.int .i64 0] 28 ∧ Blk X W.heap.size #[.nilFunc, .func (.func 106) #[] #[], .func (.func 107) #[] #[], .func (.func 108) #[] #[], .func (.func 109) #[] #[], .func (.func 110) #[] #[], .func (.func 111) #[] #[], .func (.func 112) #[] #[]] 171 ∧ Kept w X) ⟨by (exact blkc), by (exact blkc), by (exact blkc), by (exact blkc), by (exact blkc), by (exact kpt)⟩ ?_
  clear b0 b1 b2 b3 hk
  rintro X ⟨b0, b1, b2, b3, ba, hk⟩
  generalize W.heap.size = m at ba ⊢
  have b0c0 := b0.cell 0
  have b0f0 := b0.free 0
  have b0c1 := b0.cell 1
  have b0f1 := b0.free 1
  have b0c2 := b0.cell 2
  have b0f2 := b0.free 2
  have b0c3 := b0.cell 3
  have b0f3 := b0.free 3
  have b0c4 := b0.cell 4
  have b0f4 := b0.free 4
  have b0c5 := b0.cell 5
  have b0f5 := b0.free 5
  have b0c6 := b0.cell 6
  have b0f6 := b0.free 6
  have b0c7 := b0.cell 7
  have b0f7 := b0.free 7
  have b0c8 := b0.cell 8
  have b0f8 := b0.free 8
  have b0c9 := b0.cell 9
  have b0f9 := b0.free 9
  have b0l := b0.lt
  simp at b0c0 b0c1 b0c2 b0c3 b0c4 b0c5 b0c6 b0c7 b0c8 b0c9
  go_upto_region 9 with (go_at_call 114; (with_reducible refine (s_CloneC a cap p.cells _ (hx.later (by (exact kpt)) (Nat.le_refl _)) (by omega) hz).mono ?_); rintro e w2 ⟨v, rfl, hown, hb2⟩; obtain ⟨ad, cp, rfl, _⟩ := (Mine.of_owns hown).slice; refine Blk.thru (b := X.heap.size) (arr := ?_) (t := ?_) ?_ hb2 ?_; rotate_left 2; (focus (exact blk)); intro rs; have rsc0 := rs.cell 0; have rsf0 := rs.free 0; have rsc1 := rs.cell 1; have rsf1 := rs.free 1; have rsc2 := rs.cell 2; have rsf2 := rs.free 2; have rsc3 := rs.cell 3; have rsf3 := rs.free 3; have rsc4 := rs.cell 4; have rsf4 := rs.free 4; have rsc5 := rs.cell 5; have rsf5 := rs.free 5; have rsc6 := rs.cell 6; have rsf6 := rs.free 6; have rsc7 := rs.cell 7; have rsf7 := rs.free 7; have rsc8 := rs.cell 8; have rsf8 := rs.free 8; have rsc9 := rs.cell 9; have rsf9 := rs.free 9; have rsl := rs.lt; simp at rsc0 rsc1 rsc2 rsc3 rsc4 rsc5 rsc6 rsc7 rsc8 rsc9)
  have hsX := hk.size
  have l1 := b1.lt
  have l2 := b2.lt
  have l3 := b3.lt
  have la := ba.lt
  have x2 := rs.lt
  have hm2 := Mine.of_owns hown
  have xb1 := ((b1.alloc _).keep hb2)
  have xb2 := ((b2.alloc _).keep hb2)
  have xb3 := ((b3.alloc _).keep hb2)
  have xba := ((ba.alloc _).keep hb2)
  have hk2 := Kept.drop (Kept.alloc hk _) hb2
  refine at_world (S := fun Y => Blk Y (w.heap.size + 1) #[.int .u8 d.kind, .int .i64 d.cell, .int .i64 d.to, .int .i64 d.n] 65 ∧ Blk Y (w.heap.size + 1 + 1) #[.slice none 0 0, .int .i64 0, .int .i64 0, .int .i64 0, .int .i64 0, .int .i64 0, .int .i64 0, .int .i64 0, .int .i64 0, .int .i64 0] 63 ∧ Blk Y (w.heap.size + 1 + 1 + 1) #[.int .i64 0] 28 ∧ Blk Y m #[.nilFunc, .func (.func 106) #[] #[], .func (.func 107) #[] #[], .func (.func 108) #[] #[], .func (.func 109) #[] #[], .func (.func 110) #[] #[], .func (.func 111) #[] #[], .func (.func 112) #[] #[]] 171 ∧ Shop 25 174 X.heap.size Y X.heap.size ad cp p ∧ Kept w Y ∧ w.heap.size + 1 + 1 + 1 < X.heap.size) ⟨xb1.other (by simp; omega) _, xb2.other (by simp; omega) _, xb3.other (by simp; omega) _, xba.other (by simp; omega) _, ⟨Nat.le_refl _, (rs.set 0 _).cast (by simp [plantCells]), (hm2.base (by simp)).other rs (by decide) _⟩, hk2.setCell hk.size _, b3.lt⟩ ?_
  clear l1 l2 l3 la b0 b1 b2 b3 ba hk xb1 xb2 xb3 xba hk2 hsX hm2 x2 rs hown hb2 b0c0 b0f0 b0c1 b0f1 b0c2 b0f2 b0c3 b0f3 b0c4 b0f4 b0c5 b0f5 b0c6 b0f6 b0c7 b0f7 b0c8 b0f8 b0c9 b0f9 b0l
  rintro Y ⟨b1, b2, b3, ba, hsh, hk, hs⟩
  generalize X.heap.size = s at hs hsh ⊢
  have b1c0 := fun g : Later Y => (b1.later g).cell 0
  have b1f0 := fun g : Later Y => (b1.later g).free 0
  have b1c1 := fun g : Later Y => (b1.later g).cell 1
  have b1f1 := fun g : Later Y => (b1.later g).free 1
  have b1c2 := fun g : Later Y => (b1.later g).cell 2
  have b1f2 := fun g : Later Y => (b1.later g).free 2
  have b1c3 := fun g : Later Y => (b1.later g).cell 3
  have b1f3 := fun g : Later Y => (b1.later g).free 3
  have b1l := fun g : Later Y => (b1.later g).lt
  simp at b1c0 b1c1 b1c2 b1c3
  have ya : ∀ g : Later Y, g.val.cell? ⟨m, d.kind.toNat, none⟩ = some (.func (.func fn) #[] #[]) := fun g => by rw [(ba.later g).cell]; exact HFN.out
  refine Later.tail 6 (by kernel_rfl) (by kernel_rfl) ?_
  simp only [List.take_succ_cons, List.take_zero, List.drop_succ_cons, List.drop_zero]
  repeat (first | go_big_quiet_skip | (go_big_quiet_want; go_big_quiet_op; first | go_big_quiet_on | (apply Exists.intro; refine ⟨fun g_ => ?_, ?_⟩; (focus (first | fail)); go_big_quiet_on)))
  refine wpQuiet_nil ?_
  intro gg
  refine wpList_plain rfl fun K1 hK1 => ?_
  have n2 := b2.later gg
  have n3 := b3.later gg
  have hkg := Kept.drop hk gg.ok
  clear b1c0 b1f0 b1c1 b1f1 b1c2 b1f2 b1c3 b1f3 b1l
  go_upto_region 10 with ((with_reducible refine (HACT.out _ _ _ _ _ (hsh.keep gg.ok)).mono ?_); rintro e w5 ⟨rfl, hsh5, hb5⟩)
  refine at_world (S := fun Z => Blk Z (w.heap.size + 1 + 1) #[.slice none 0 0, .int .i64 0, .int .i64 0, .int .i64 0, .int .i64 0, .int .i64 0, .int .i64 0, .int .i64 0, .int .i64 0, .int .i64 0] 63 ∧ Blk Z (w.heap.size + 1 + 1 + 1) #[.int .i64 0] 28 ∧ Blk Z s #[.slice ad Q.cells.length cp, .int .i64 Q.bottles, .int .i64 Q.inH, .int .i64 Q.inA, .int .i64 Q.vH, .int .i64 Q.vA, .int .i64 Q.lH, .int .i64 Q.lA, .int .i64 Q.pH, .int .i64 Q.pA] 174 ∧ Mine 25 s Z (.slice ad Q.cells.length cp) Q.cells ∧ Kept w Z) ⟨blk_below n2 hb5 (by omega), blk_below n3 hb5 (by omega), by rw [HQ.out]; exact hsh5.2.1, by rw [HQ.out]; exact hsh5.2.2, hkg.trans (hb5.mono (by omega))⟩ ?_
  clear b1 b2 b3 ba hk hsh n2 n3 hkg hsh5 hb5
  rintro Z ⟨b2, b3, r3, hm, hk⟩
  have r3c0 := r3.cell 0
  have r3f0 := r3.free 0
  have r3c1 := r3.cell 1
  have r3f1 := r3.free 1
  have r3c2 := r3.cell 2
  have r3f2 := r3.free 2
  have r3c3 := r3.cell 3
  have r3f3 := r3.free 3
  have r3c4 := r3.cell 4
  have r3f4 := r3.free 4
  have r3c5 := r3.cell 5
  have r3f5 := r3.free 5
  have r3c6 := r3.cell 6
  have r3f6 := r3.free 6
  have r3c7 := r3.cell 7
  have r3f7 := r3.free 7
  have r3c8 := r3.cell 8
  have r3f8 := r3.free 8
  have r3c9 := r3.cell 9
  have r3f9 := r3.free 9
  have r3l := r3.lt
  simp at r3c0 r3c1 r3c2 r3c3 r3c4 r3c5 r3c6 r3c7 r3c8 r3c9
  cases hpq : plantB Q
  · have HPQ := Lib.hid (show plantE Q = 32 by simp [plantE, hpq])
    have HPB := Lib.hid hpq
    clear hpq
    go_wp2_with (first | (go_at_call 50; (with_reducible refine (f_CheckK hm).mono ?_); rw [HPQ.out]; rintro e w6 ⟨rfl, hb6⟩) | (go_at_call 113; (with_reducible refine (f_need_no _ _).mono ?_); rintro e w1 ⟨rfl, rfl⟩))
    have n2 := b2.keep hb6
    have n3 := b3.keep hb6
    have hkg := Kept.drop hk hb6
    clear b2 b3 hk
    skip
    refine leaves_cons (f := 105) (args := #[.pointer (some ⟨w.heap.size + 1 + 1, 0, none⟩), .pointer (some ⟨w.heap.size + 1 + 1 + 1, 0, none⟩)]) (by simp) (by simp [go_sem]) ?_
    refine (catch_panics _ _ 9 _ (by (exact blkc)) (by (exact blkc))).mono ?_
    rintro e u' w'' ⟨rfl, rfl, k1, k2, kb⟩
    have k1c0 := k1.cell 0
    have k1f0 := k1.free 0
    have k1c1 := k1.cell 1
    have k1f1 := k1.free 1
    have k1c2 := k1.cell 2
    have k1f2 := k1.free 2
    have k1c3 := k1.cell 3
    have k1f3 := k1.free 3
    have k1c4 := k1.cell 4
    have k1f4 := k1.free 4
    have k1c5 := k1.cell 5
    have k1f5 := k1.free 5
    have k1c6 := k1.cell 6
    have k1f6 := k1.free 6
    have k1c7 := k1.cell 7
    have k1f7 := k1.free 7
    have k1c8 := k1.cell 8
    have k1f8 := k1.free 8
    have k1c9 := k1.cell 9
    have k1f9 := k1.free 9
    have k1l := k1.lt
    simp at k1c0 k1c1 k1c2 k1c3 k1c4 k1c5 k1c6 k1c7 k1c8 k1c9
    have k2c0 := k2.cell 0
    have k2f0 := k2.free 0
    have k2l := k2.lt
    simp at k2c0
    refine (show ∃ v, (results _ _).run _ _ = .ok v _ ∧ _ from ⟨.tuple #[.agg #[.slice none 0 0, .int .i64 0, .int .i64 0, .int .i64 0, .int .i64 0, .int .i64 0, .int .i64 0, .int .i64 0, .int .i64 0, .int .i64 0], .int .i64 9], by simp [results, Try.results48, go_sem, k1c0, k1f0, k1c1, k1f1, k1c2, k1f2, k1c3, k1f3, k1c4, k1f4, k1c5, k1f5, k1c6, k1f6, k1c7, k1f7, k1c8, k1f8, k1c9, k1f9, k2c0, k2f0], .slice none 0 0, by simp [endQ, endE, HPB.out, noPlant], by rw [show endQ Q = noPlant by simp [endQ, HPB.out]]; exact Mine.zero, by exact Below.trans (by (exact kpt)) (kb _ (by omega) (by omega))⟩)
  · have HPQ := Lib.hid (show plantE Q = 0 by simp [plantE, hpq])
    have HPB := Lib.hid hpq
    clear hpq
    go_upto_region 11 with (first | (go_at_call 50; (with_reducible refine (f_CheckK hm).mono ?_); rw [HPQ.out]; rintro e w6 ⟨rfl, hb6⟩) | (go_at_call 113; (with_reducible refine (f_need_ok _ _).mono ?_); rintro e w1 ⟨rfl, rfl⟩))
    clear r3c0 r3f0 r3c1 r3f1 r3c2 r3f2 r3c3 r3f3 r3c4 r3f4 r3c5 r3f5 r3c6 r3f6 r3c7 r3f7 r3c8 r3f8 r3c9 r3f9 r3l
    refine at_world (S := fun U => Blk U (w.heap.size + 1 + 1) #[.slice none 0 0, .int .i64 0, .int .i64 0, .int .i64 0, .int .i64 0, .int .i64 0, .int .i64 0, .int .i64 0, .int .i64 0, .int .i64 0] 63 ∧ Blk U (w.heap.size + 1 + 1 + 1) #[.int .i64 0] 28 ∧ Blk U s #[.slice ad Q.cells.length cp, .int .i64 Q.bottles, .int .i64 Q.inH, .int .i64 Q.inA, .int .i64 Q.vH, .int .i64 Q.vA, .int .i64 Q.lH, .int .i64 Q.lA, .int .i64 Q.pH, .int .i64 Q.pA] 174 ∧ Mine 25 s U (.slice ad Q.cells.length cp) Q.cells ∧ Kept w U) ⟨b2.keep hb6, b3.keep hb6, r3.keep hb6, hm.keep hb6, Kept.drop hk hb6⟩ ?_
    clear b2 b3 r3 hm hk hb6
    rintro U ⟨b2, b3, r3, hm, hk⟩
    have b2c0 := b2.cell 0
    have b2f0 := b2.free 0
    have b2c1 := b2.cell 1
    have b2f1 := b2.free 1
    have b2c2 := b2.cell 2
    have b2f2 := b2.free 2
    have b2c3 := b2.cell 3
    have b2f3 := b2.free 3
    have b2c4 := b2.cell 4
    have b2f4 := b2.free 4
    have b2c5 := b2.cell 5
    have b2f5 := b2.free 5
    have b2c6 := b2.cell 6
    have b2f6 := b2.free 6
    have b2c7 := b2.cell 7
    have b2f7 := b2.free 7
    have b2c8 := b2.cell 8
    have b2f8 := b2.free 8
    have b2c9 := b2.cell 9
    have b2f9 := b2.free 9
    have b2l := b2.lt
    simp at b2c0 b2c1 b2c2 b2c3 b2c4 b2c5 b2c6 b2c7 b2c8 b2c9
    have b3c0 := b3.cell 0
    have b3f0 := b3.free 0
    have b3l := b3.lt
    simp at b3c0
    have r3c0 := r3.cell 0
    have r3f0 := r3.free 0
    have r3c1 := r3.cell 1
    have r3f1 := r3.free 1
    have r3c2 := r3.cell 2
    have r3f2 := r3.free 2
    have r3c3 := r3.cell 3
    have r3f3 := r3.free 3
    have r3c4 := r3.cell 4
    have r3f4 := r3.free 4
    have r3c5 := r3.cell 5
    have r3f5 := r3.free 5
    have r3c6 := r3.cell 6
    have r3f6 := r3.free 6
    have r3c7 := r3.cell 7
    have r3f7 := r3.free 7
    have r3c8 := r3.cell 8
    have r3f8 := r3.free 8
    have r3c9 := r3.cell 9
    have r3f9 := r3.free 9
    have r3l := r3.lt
    simp at r3c0 r3c1 r3c2 r3c3 r3c4 r3c5 r3c6 r3c7 r3c8 r3c9
    go_wp2
    refine leaves_cons (f := 105) (args := #[.pointer (some ⟨w.heap.size + 1 + 1, 0, none⟩), .pointer (some ⟨w.heap.size + 1 + 1 + 1, 0, none⟩)]) (by simp) (by simp [go_sem]) ?_
    refine (catch_idle _ _ _).mono ?_
    rintro e u' w'' ⟨rfl, rfl, rfl⟩
    refine (show ∃ v, (results _ _).run _ _ = .ok v _ ∧ _ from ⟨.tuple #[.agg #[.slice ad Q.cells.length cp, .int .i64 Q.bottles, .int .i64 Q.inH, .int .i64 Q.inA, .int .i64 Q.vH, .int .i64 Q.vA, .int .i64 Q.lH, .int .i64 Q.lA, .int .i64 Q.pH, .int .i64 Q.pA], .int .i64 0], by simp [results, Try.results48, go_sem, b2c0, b2f0, b2c1, b2f1, b2c2, b2f2, b2c3, b2f3, b2c4, b2f4, b2c5, b2f5, b2c6, b2f6, b2c7, b2f7, b2c8, b2f8, b2c9, b2f9, b3c0, b3f0], .slice ad Q.cells.length cp, by simp [endQ, endE, HPB.out], ?_, by (exact kpt)⟩)
    rw [show endQ Q = Q by simp [endQ, HPB.out]]
    have hne := hm.ne b2 (by decide)
    have hne3 := hm.ne b3 (by decide)
    (repeat (first | with_reducible refine Mine.off ?_ hne _ | with_reducible refine Mine.off ?_ hne3 _))
    exact hm.base (by omega)

end Go.Proofs.Ytemafanncejeiaa

/-
  The program: Do.
-/
namespace Go.Proofs.Ytemafanncejeiaa
open Go.RowKit Bal Bal.Trim Bal.Gas
set_option linter.unusedVariables false
set_option linter.unusedSimpArgs false
set_option maxHeartbeats 8000000

theorem f_zero_end {p : Plant} {d : Deed} {a : Option Addr} {cap : Nat} {w : World} {n : Int} (h : Calls Try.prog 48 #[.agg #[.slice a p.cells.length cap, .int .i64 p.bottles, .int .i64 p.inH, .int .i64 p.inA, .int .i64 p.vH, .int .i64 p.vA, .int .i64 p.lH, .int .i64 p.lA, .int .i64 p.pH, .int .i64 p.pA], .agg #[.int .u8 d.kind, .int .i64 d.cell, .int .i64 d.to, .int .i64 d.n]] w fun e w' => e = .returned (.tuple #[.agg #[.slice none 0 0, .int .i64 0, .int .i64 0, .int .i64 0, .int .i64 0, .int .i64 0, .int .i64 0, .int .i64 0, .int .i64 0, .int .i64 0], .int .i64 n]) ∧ Kept w w') : Calls Try.prog 48 #[.agg #[.slice a p.cells.length cap, .int .i64 p.bottles, .int .i64 p.inH, .int .i64 p.inA, .int .i64 p.vH, .int .i64 p.vA, .int .i64 p.lH, .int .i64 p.lA, .int .i64 p.pH, .int .i64 p.pA], .agg #[.int .u8 d.kind, .int .i64 d.cell, .int .i64 d.to, .int .i64 d.n]] w fun e w' => ∃ v, e = .returned (.tuple #[.agg #[v, .int .i64 (noPlant).bottles, .int .i64 (noPlant).inH, .int .i64 (noPlant).inA, .int .i64 (noPlant).vH, .int .i64 (noPlant).vA, .int .i64 (noPlant).lH, .int .i64 (noPlant).lA, .int .i64 (noPlant).pH, .int .i64 (noPlant).pA], .int .i64 (n)]) ∧ Mine 25 w.heap.size w' v (noPlant).cells ∧ Kept w w' := by
  refine h.mono ?_
  rintro e w' ⟨rfl, hk⟩
  exact ⟨.slice none 0 0, rfl, Mine.zero, hk⟩
theorem f_Do (p : Plant) (d : Deed) (a : Option Addr) (cap : Nat) (w : World) (hx : Row Cell.cells 7 w.heap.size w a p.cells) (hc : p.cells.length ≤ cap) (hM : cap ≤ maxLen) (hz : a = none → cap = 0) (hu : 0 ≤ d.kind ∧ d.kind ≤ 255) : Calls Try.prog 48 #[.agg #[.slice a p.cells.length cap, .int .i64 p.bottles, .int .i64 p.inH, .int .i64 p.inA, .int .i64 p.vH, .int .i64 p.vA, .int .i64 p.lH, .int .i64 p.lA, .int .i64 p.pH, .int .i64 p.pA], .agg #[.int .u8 d.kind, .int .i64 d.cell, .int .i64 d.to, .int .i64 d.n]] w fun e w' => ∃ v, e = .returned (.tuple #[.agg #[v, .int .i64 (doQ p d).bottles, .int .i64 (doQ p d).inH, .int .i64 (doQ p d).inA, .int .i64 (doQ p d).vH, .int .i64 (doQ p d).vA, .int .i64 (doQ p d).lH, .int .i64 (doQ p d).lA, .int .i64 (doQ p d).pH, .int .i64 (doQ p d).pA], .int .i64 (doE p d)]) ∧ Mine 25 w.heap.size w' v (doQ p d).cells ∧ Kept w w' := by
  cases hp : plantB p
  · rw [show doE p d = 32 by simp [doE, hp], show doQ p d = noPlant by simp [doQ, doE, hp]]
    exact f_zero_end (f_Do_bad p d a cap w hx hc hM hz hp)
  · by_cases h17 : 1 ≤ d.kind ∧ d.kind ≤ 7
    · have key : d.kind = 1 ∨ d.kind = 2 ∨ d.kind = 3 ∨ d.kind = 4 ∨ d.kind = 5 ∨ d.kind = 6 ∨ d.kind = 7 := by omega
      rcases key with hk | hk | hk | hk | hk | hk | hk
      · by_cases he : errA p d = 0
        · rw [show doE p d = endE (resA p d) by simp [doE, hp, he, endE], show doQ p d = endQ (resA p d) by simp [doQ, doE, hp, he, endQ] <;> (split <;> simp_all)]
          exact f_DoX_ok p d a cap w hx hc hM hz 106 (fun _ _ => by kernel_rfl) hp h17 (by rw [hk]; rfl) he (fun _ _ _ _ _ h => act1_ok d h hp hk he)
        · rw [show doE p d = errA p d by simp [doE, hp, he], show doQ p d = noPlant by simp [doQ, doE, hp, he]]
          exact f_zero_end (f_DoX_no p d a cap w hx hc hM hz 106 (fun _ _ => by kernel_rfl) hp h17 (by rw [hk]; rfl) he (fun _ _ _ _ _ h => act1_no d h hp hk he))
      · by_cases he : errA p d = 0
        · rw [show doE p d = endE (resA p d) by simp [doE, hp, he, endE], show doQ p d = endQ (resA p d) by simp [doQ, doE, hp, he, endQ] <;> (split <;> simp_all)]
          exact f_DoX_ok p d a cap w hx hc hM hz 107 (fun _ _ => by kernel_rfl) hp h17 (by rw [hk]; rfl) he (fun _ _ _ _ _ h => act2_ok d h hp hk he)
        · rw [show doE p d = errA p d by simp [doE, hp, he], show doQ p d = noPlant by simp [doQ, doE, hp, he]]
          exact f_zero_end (f_DoX_no p d a cap w hx hc hM hz 107 (fun _ _ => by kernel_rfl) hp h17 (by rw [hk]; rfl) he (fun _ _ _ _ _ h => act2_no d h hp hk he))
      · by_cases he : errA p d = 0
        · rw [show doE p d = endE (resA p d) by simp [doE, hp, he, endE], show doQ p d = endQ (resA p d) by simp [doQ, doE, hp, he, endQ] <;> (split <;> simp_all)]
          exact f_DoX_ok p d a cap w hx hc hM hz 108 (fun _ _ => by kernel_rfl) hp h17 (by rw [hk]; rfl) he (fun _ _ _ _ _ h => act3_ok d h hp hk he)
        · rw [show doE p d = errA p d by simp [doE, hp, he], show doQ p d = noPlant by simp [doQ, doE, hp, he]]
          exact f_zero_end (f_DoX_no p d a cap w hx hc hM hz 108 (fun _ _ => by kernel_rfl) hp h17 (by rw [hk]; rfl) he (fun _ _ _ _ _ h => act3_no d h hp hk he))
      · by_cases he : errA p d = 0
        · rw [show doE p d = endE (resA p d) by simp [doE, hp, he, endE], show doQ p d = endQ (resA p d) by simp [doQ, doE, hp, he, endQ] <;> (split <;> simp_all)]
          exact f_DoX_ok p d a cap w hx hc hM hz 109 (fun _ _ => by kernel_rfl) hp h17 (by rw [hk]; rfl) he (fun _ _ _ _ _ h => act4_ok d h hp hk he)
        · rw [show doE p d = errA p d by simp [doE, hp, he], show doQ p d = noPlant by simp [doQ, doE, hp, he]]
          exact f_zero_end (f_DoX_no p d a cap w hx hc hM hz 109 (fun _ _ => by kernel_rfl) hp h17 (by rw [hk]; rfl) he (fun _ _ _ _ _ h => act4_no d h hp hk he))
      · by_cases he : errA p d = 0
        · rw [show doE p d = endE (resA p d) by simp [doE, hp, he, endE], show doQ p d = endQ (resA p d) by simp [doQ, doE, hp, he, endQ] <;> (split <;> simp_all)]
          exact f_DoX_ok p d a cap w hx hc hM hz 110 (fun _ _ => by kernel_rfl) hp h17 (by rw [hk]; rfl) he (fun _ _ _ _ _ h => act5_ok d h hp hk he)
        · rw [show doE p d = errA p d by simp [doE, hp, he], show doQ p d = noPlant by simp [doQ, doE, hp, he]]
          exact f_zero_end (f_DoX_no p d a cap w hx hc hM hz 110 (fun _ _ => by kernel_rfl) hp h17 (by rw [hk]; rfl) he (fun _ _ _ _ _ h => act5_no d h hp hk he))
      · by_cases he : errA p d = 0
        · rw [show doE p d = endE (resA p d) by simp [doE, hp, he, endE], show doQ p d = endQ (resA p d) by simp [doQ, doE, hp, he, endQ] <;> (split <;> simp_all)]
          exact f_DoX_ok p d a cap w hx hc hM hz 111 (fun _ _ => by kernel_rfl) hp h17 (by rw [hk]; rfl) he (fun _ _ _ _ _ h => act6_ok d h hp hk he)
        · rw [show doE p d = errA p d by simp [doE, hp, he], show doQ p d = noPlant by simp [doQ, doE, hp, he]]
          exact f_zero_end (f_DoX_no p d a cap w hx hc hM hz 111 (fun _ _ => by kernel_rfl) hp h17 (by rw [hk]; rfl) he (fun _ _ _ _ _ h => act6_no d h hp hk he))
      · by_cases he : errA p d = 0
        · rw [show doE p d = endE (resA p d) by simp [doE, hp, he, endE], show doQ p d = endQ (resA p d) by simp [doQ, doE, hp, he, endQ] <;> (split <;> simp_all)]
          exact f_DoX_ok p d a cap w hx hc hM hz 112 (fun _ _ => by kernel_rfl) hp h17 (by rw [hk]; rfl) he (fun _ _ _ _ _ h => act7_ok d h hp hk he)
        · rw [show doE p d = errA p d by simp [doE, hp, he], show doQ p d = noPlant by simp [doQ, doE, hp, he]]
          exact f_zero_end (f_DoX_no p d a cap w hx hc hM hz 112 (fun _ _ => by kernel_rfl) hp h17 (by rw [hk]; rfl) he (fun _ _ _ _ _ h => act7_no d h hp hk he))
    · have he : errA p d = 2 := by
        have k1 : d.kind ≠ 1 ∧ d.kind ≠ 2 ∧ d.kind ≠ 3 ∧ d.kind ≠ 4 ∧ d.kind ≠ 5 ∧ d.kind ≠ 6 ∧ d.kind ≠ 7 := by omega
        simp [errA, k1]
      rw [show doE p d = 2 by simp [doE, hp, he], show doQ p d = noPlant by simp [doQ, doE, hp, he]]
      exact f_zero_end (f_Do_kind p d a cap w hx hc hM hz hp (by omega) (by simp [inB]; omega))

end Go.Proofs.Ytemafanncejeiaa

/-
  Structs as cells of memory. No program in sight.
-/
namespace Bal.Gas
open Go Go.RowKit Bal

def Deed.cells (x : Deed) : List Value := [.int .u8 x.kind, .int .i64 x.cell, .int .i64 x.to, .int .i64 x.n]
theorem Deed.row {B : Nat} {w : World} {a : Option Addr} {xs : List Deed} (h : Row Deed.cells 4 B w a xs) (i : Nat) (hi : i < xs.length) :
    ∃ b off, a = some ⟨b, off, none⟩ ∧ b < B ∧ w.cell? ⟨b, off + i * 4, none⟩ = some (.int .u8 xs[i].kind) ∧ w.cell? ⟨b, off + i * 4 + 1, none⟩ = some (.int .i64 xs[i].cell) ∧ w.cell? ⟨b, off + i * 4 + 2, none⟩ = some (.int .i64 xs[i].to) ∧ w.cell? ⟨b, off + i * 4 + 3, none⟩ = some (.int .i64 xs[i].n) := by
  obtain ⟨b, off, ha, hb, hc⟩ := h i xs[i] (by simp [hi])
  exact ⟨b, off, ha, hb, hc 0 _ rfl, hc 1 _ rfl, hc 2 _ rfl, hc 3 _ rfl⟩
theorem Deed.of_leaves {cs : List Value} (h : LeavesOk [.int .u8, .int .i64, .int .i64, .int .i64] cs) : ∃ x : Deed, cs = x.cells ∧ (Lit.int .u8 x.kind).wf = true ∧ (Lit.int .i64 x.cell).wf = true ∧ (Lit.int .i64 x.to).wf = true ∧ (Lit.int .i64 x.n).wf = true := by
  obtain ⟨hl, h⟩ := h
  match cs, hl with
  | [v0, v1, v2, v3], _ =>
    obtain ⟨_, e0, n0, rfl, w0⟩ := h 0 (.int .u8) rfl; simp at e0; subst e0
    obtain ⟨_, e1, n1, rfl, w1⟩ := h 1 (.int .i64) rfl; simp at e1; subst e1
    obtain ⟨_, e2, n2, rfl, w2⟩ := h 2 (.int .i64) rfl; simp at e2; subst e2
    obtain ⟨_, e3, n3, rfl, w3⟩ := h 3 (.int .i64) rfl; simp at e3; subst e3
    exact ⟨⟨n0, n1, n2, n3⟩, rfl, w0, w1, w2, w3⟩

end Bal.Gas

/-
  The reference: what is great; plants that are the same.
-/
namespace Go.Proofs.Ytemafanncejeiaa
open Go.RowKit Bal Bal.Trim Bal.Gas
set_option linter.unusedVariables false
set_option linter.unusedSimpArgs false
set_option maxHeartbeats 4000000
set_option maxRecDepth 100000

def bigD (d : Deed) : Bool := decide (d.kind = 7) && inB d.n 51 1000
def greatB (p : Plant) (ds : List Deed) : Bool := decide (20 < p.cells.length) || (decide (210 < ds.length) || ds.any bigD)
theorem any_take_false {α : Type} (g : α → Bool) : ∀ (l : List α), l.any g = false → ∀ x ∈ l, g x = false
  | [], _, x, h => by simp at h
  | y :: ys, h0, x, h => by
    simp only [List.any_cons, Bool.or_eq_false_iff] at h0
    rcases List.mem_cons.1 h with rfl | h
    · exact h0.1
    · exact any_take_false g ys h0.2 x h
theorem any_prefix {α : Type} (g : α → Bool) {l : List α} {k : Nat} (hk : k < l.length) (h : (l.take k).any g = false) (hx : g l[k] = false) : (l.take (k + 1)).any g = false := by
  rw [List.take_succ_eq_append_getElem hk, List.any_append, h]
  simp [hx]
theorem r_Great (p : Plant) (ds : List Deed) (v : Value) (a : Option Addr) (cap : Nat) (b : Option Addr) (cb : Nat) (w : World) (hv : v = .slice a p.cells.length cap) (hx : Row Deed.cells 4 w.heap.size w b ds) (hc : p.cells.length ≤ cap) (hM : cap ≤ maxLen) (hd : ds.length ≤ cb) (hN : cb ≤ maxLen) :
    Calls Try.prog 46 #[.agg #[v, .int .i64 p.bottles, .int .i64 p.inH, .int .i64 p.inA, .int .i64 p.vH, .int .i64 p.vA, .int .i64 p.lH, .int .i64 p.lA, .int .i64 p.pH, .int .i64 p.pA], .slice b ds.length cb] w fun e w' => e = .returned (.bool (greatB p ds)) ∧ Kept w w' := by
  subst hv
  unfold maxLen at hM hN
  by_cases h1 : 20 < p.cells.length
  · have e1 : decide ((20 : Int) < (p.cells.length : Int)) = true := by simp; omega
    have HG := Lib.hid (show greatB p ds = true by simp [greatB, h1])
    go_enter Try.func46, Try.ntmps46
    go_wp2
    go_ret
    exact ⟨ret_bool HG.out.symm, by (exact kpt)⟩
  · have e1 : decide ((20 : Int) < (p.cells.length : Int)) = false := by simp; omega
    by_cases h2 : 210 < ds.length
    · have e2 : decide ((210 : Int) < (ds.length : Int)) = true := by simp; omega
      have HG := Lib.hid (show greatB p ds = true by simp [greatB, h2])
      go_enter Try.func46, Try.ntmps46
      go_wp2
      go_ret
      exact ⟨ret_bool HG.out.symm, by (exact kpt)⟩
    · have e2 : decide ((210 : Int) < (ds.length : Int)) = false := by simp; omega
      have HQ := Lib.hid (show greatB p ds = ds.any bigD by simp [greatB, h1, h2])
      go_enter Try.func46, Try.ntmps46
      go_wp2
      clear e1 e2
      go_loopw [5] (fun i wr => ∃ k : Nat, k ≤ ds.length ∧ i = .int .i64 k ∧ (ds.take k).any bigD = false ∧ Kept w wr) (fun i _ => ds.length - (intOf i).toNat)
      case atStart => exact ⟨0, Nat.zero_le _, rfl, by simp, by (exact kpt)⟩
      case round =>
        obtain ⟨k, hk, rfl, hany, hkk⟩ := hrel
        have HA := Lib.hid hany
        clear hany
        by_cases hlt : k < ds.length
        · obtain ⟨b1, o1, rfl, hb1, c0, c1, c2, c3⟩ := Deed.row (hx.later hkk (Nat.le_refl _)) k hlt
          obtain ⟨x, hxx⟩ : ∃ x, x = ds[k] := ⟨_, rfl⟩
          rw [← hxx] at c0 c1 c2 c3
          have HX := Lib.hid hxx
          clear hxx
          cases hb : bigD x
          · have HB := Lib.hid hb
            by_cases h7 : x.kind = 7
            · have g7 : (x.kind == 7) = true := by simp [h7]
              have d7 : decide (x.kind = 7) = true := by simp [h7]
              have HI := Lib.hid (show inB x.n 51 1000 = false by simpa [bigD, h7] using hb)
              clear hb h7
              go_wp2_with (go_at_call 104; (with_reducible refine (r_within x.n _ _ _).mono ?_); rw [HI.out]; rintro e w1 ⟨rfl, rfl⟩)
              go_round
              case rel => exact ⟨k + 1, by omega, by go_num, any_prefix bigD hlt HA.out (by rw [← HX.out]; exact HB.out), hkk⟩
              case measure => simp [intOf]; omega
            · have g7 : (x.kind == 7) = false := by simp [h7]
              have d7 : decide (x.kind = 7) = false := by simp [h7]
              clear hb h7
              go_wp2
              go_round
              case rel => exact ⟨k + 1, by omega, by go_num, any_prefix bigD hlt HA.out (by rw [← HX.out]; exact HB.out), hkk⟩
              case measure => simp [intOf]; omega
          · have h7 : x.kind = 7 ∧ inB x.n 51 1000 = true := by simpa [bigD] using hb
            have g7 : (x.kind == 7) = true := by simp [h7.1]
            have d7 : decide (x.kind = 7) = true := by simp [h7.1]
            have HI := Lib.hid h7.2
            have HG := Lib.hid (show greatB p ds = true by rw [HQ.out, List.any_eq_true]; exact ⟨x, by rw [HX.out]; exact List.getElem_mem hlt, hb⟩)
            clear hb h7
            go_wp2_with (go_at_call 104; (with_reducible refine (r_within x.n _ _ _).mono ?_); rw [HI.out]; rintro e w1 ⟨rfl, rfl⟩)
            go_ret
            exact ⟨ret_bool HG.out.symm, hkk⟩
        · obtain rfl : k = ds.length := by omega
          have HG := Lib.hid (show greatB p ds = false by rw [HQ.out]; have := HA.out; rwa [List.take_length] at this)
          go_wp2
          go_ret
          exact ⟨ret_bool HG.out.symm, hkk⟩

theorem r_SameCells (a b : Option Addr) (c d : Nat) (xs : List Cell) (w : World) (hx : Row Cell.cells 7 w.heap.size w a xs) (hy : Row Cell.cells 7 w.heap.size w b xs) (hc : xs.length ≤ c) (hd : xs.length ≤ d) (hM : c ≤ maxLen) (hN : d ≤ maxLen) :
    Calls Try.prog 124 #[.slice a xs.length c, .slice b xs.length d] w fun e w' => e = .returned (.bool true) ∧ Kept w w' := by
  unfold maxLen at hM hN
  go_enter Try.func124, Try.ntmps124
  go_wp2
  go_loopw [5] (fun i wr => ∃ k : Nat, k ≤ xs.length ∧ i = .int .i64 k ∧ Kept w wr) (fun i _ => xs.length - (intOf i).toNat)
  case atStart => exact ⟨0, Nat.zero_le _, rfl, Below.refl _ _⟩
  case round =>
    obtain ⟨k, hk, rfl, hkk⟩ := hrel
    by_cases hlt : k < xs.length
    · obtain ⟨b1, o1, rfl, hb1, h0, h1, h2, h3, h4, h5, h6⟩ := Cell.row (hx.later hkk (Nat.le_refl _)) k hlt
      obtain ⟨b2, o2, rfl, hb2, j0, j1, j2, j3, j4, j5, j6⟩ := Cell.row (hy.later hkk (Nat.le_refl _)) k hlt
      have x0 := fun g : Later wr => g.some h0
      have y0 := fun g : Later wr => g.some j0
      have x1 := fun g : Later wr => g.some h1
      have y1 := fun g : Later wr => g.some j1
      have x2 := fun g : Later wr => g.some h2
      have y2 := fun g : Later wr => g.some j2
      have x3 := fun g : Later wr => g.some h3
      have y3 := fun g : Later wr => g.some j3
      have x4 := fun g : Later wr => g.some h4
      have y4 := fun g : Later wr => g.some j4
      have x5 := fun g : Later wr => g.some h5
      have y5 := fun g : Later wr => g.some j5
      have x6 := fun g : Later wr => g.some h6
      have y6 := fun g : Later wr => g.some j6
      go_upto_region 6 with fail
      refine Later.region (by kernel_rfl) (by kernel_rfl) ?_
      repeat (first | go_big_quiet_skip | (go_big_quiet_want; go_big_quiet_op; first | go_big_quiet_on | (apply Exists.intro; refine ⟨fun g => ?_, ?_⟩; (focus (first | fail)); go_big_quiet_on)))
      refine wpQuiet_nil ?_
      intro gg
      have hkgg := Kept.drop hkk gg.ok
      go_wp2
      go_round
      case rel => exact ⟨k + 1, by omega, by go_num, by (exact kpt)⟩
      case measure => simp [intOf]; omega
    · obtain rfl : k = xs.length := by omega
      go_wp2
      go_ret
      exact ⟨rfl, hkk⟩

theorem r_SamePlant (a b : Option Addr) (c d : Nat) (p : Plant) (w : World) (hx : Row Cell.cells 7 w.heap.size w a p.cells) (hy : Row Cell.cells 7 w.heap.size w b p.cells) (hc : p.cells.length ≤ c) (hd : p.cells.length ≤ d) (hM : c ≤ maxLen) (hN : d ≤ maxLen) :
    Calls Try.prog 52 #[.agg #[.slice a p.cells.length c, .int .i64 p.bottles, .int .i64 p.inH, .int .i64 p.inA, .int .i64 p.vH, .int .i64 p.vA, .int .i64 p.lH, .int .i64 p.lA, .int .i64 p.pH, .int .i64 p.pA], .agg #[.slice b p.cells.length d, .int .i64 p.bottles, .int .i64 p.inH, .int .i64 p.inA, .int .i64 p.vH, .int .i64 p.vA, .int .i64 p.lH, .int .i64 p.lA, .int .i64 p.pH, .int .i64 p.pA]] w fun e w' => e = .returned (.bool true) ∧ Kept w w' := by
  go_enter Try.func52, Try.ntmps52
  go_wp2_with (go_at_call 124; (with_reducible refine (r_SameCells a b c d p.cells _ (hx.later (by (exact kpt)) (Nat.le_refl _)) (hy.later (by (exact kpt)) (Nat.le_refl _)) hc hd hM hN).mono ?_); rintro e w1 ⟨rfl, hb1⟩; refine Blk.thru (b := w.heap.size) (arr := ?_) (t := ?_) ?_ hb1 ?_; rotate_left 2; (focus (exact blk)); intro rr; have rrc0 := rr.cell 0; have rrf0 := rr.free 0; have rrc1 := rr.cell 1; have rrf1 := rr.free 1; have rrc2 := rr.cell 2; have rrf2 := rr.free 2; have rrc3 := rr.cell 3; have rrf3 := rr.free 3; have rrc4 := rr.cell 4; have rrf4 := rr.free 4; have rrc5 := rr.cell 5; have rrf5 := rr.free 5; have rrc6 := rr.cell 6; have rrf6 := rr.free 6; have rrc7 := rr.cell 7; have rrf7 := rr.free 7; have rrc8 := rr.cell 8; have rrf8 := rr.free 8; have rrc9 := rr.cell 9; have rrf9 := rr.free 9; have rrl := rr.lt; simp at rrc0 rrc1 rrc2 rrc3 rrc4 rrc5 rrc6 rrc7 rrc8 rrc9; refine Blk.thru (b := (w.heap.size + 1)) (arr := ?_) (t := ?_) ?_ hb1 ?_; rotate_left 2; (focus (exact blk)); intro rq; have rqc0 := rq.cell 0; have rqf0 := rq.free 0; have rqc1 := rq.cell 1; have rqf1 := rq.free 1; have rqc2 := rq.cell 2; have rqf2 := rq.free 2; have rqc3 := rq.cell 3; have rqf3 := rq.free 3; have rqc4 := rq.cell 4; have rqf4 := rq.free 4; have rqc5 := rq.cell 5; have rqf5 := rq.free 5; have rqc6 := rq.cell 6; have rqf6 := rq.free 6; have rqc7 := rq.cell 7; have rqf7 := rq.free 7; have rqc8 := rq.cell 8; have rqf8 := rq.free 8; have rqc9 := rq.cell 9; have rqf9 := rq.free 9; have rql := rq.lt; simp at rqc0 rqc1 rqc2 rqc3 rqc4 rqc5 rqc6 rqc7 rqc8 rqc9)
  go_ret
  exact ⟨rfl, by (exact kpt)⟩
theorem r_SamePlantK {B C m n c d : Nat} {a b : Option Addr} {p : Plant} {w : World} (h : Mine 25 B w (.slice a m c) p.cells) (k : Mine 25 C w (.slice b n d) p.cells) :
    Calls Try.prog 52 #[.agg #[.slice a m c, .int .i64 p.bottles, .int .i64 p.inH, .int .i64 p.inA, .int .i64 p.vH, .int .i64 p.vA, .int .i64 p.lH, .int .i64 p.lA, .int .i64 p.pH, .int .i64 p.pA], .agg #[.slice b n d, .int .i64 p.bottles, .int .i64 p.inH, .int .i64 p.inA, .int .i64 p.vH, .int .i64 p.vA, .int .i64 p.lH, .int .i64 p.lA, .int .i64 p.pH, .int .i64 p.pA]] w fun e w' => e = .returned (.bool true) ∧ Kept w w' := by
  obtain ⟨h1, h2, h3, h4, _⟩ := h.row
  obtain ⟨k1, k2, k3, k4, _⟩ := k.row
  subst h1 k1
  exact r_SamePlant a b c d p w h2 k2 h3 k3 h4 k4

end Go.Proofs.Ytemafanncejeiaa

/-
  The reference: Do, fill and breathe.
-/
namespace Go.Proofs.Ytemafanncejeiaa
open Go.RowKit Bal Bal.Trim Bal.Gas
set_option linter.unusedVariables false
set_option linter.unusedSimpArgs false
set_option maxHeartbeats 8000000
set_option maxRecDepth 100000

theorem r_Do_2 (p : Plant) (d : Deed) (a : Option Addr) (cap : Nat) (w : World) (hx : Row Cell.cells 7 w.heap.size w a p.cells) (hc : p.cells.length ≤ cap) (hM : cap ≤ maxLen) (hz : a = none → cap = 0) (hp : plantB p = true) (hs : sizedE p d = 0) (hkk : d.kind = 2) (hn : 1 ≤ d.n ∧ d.n ≤ 10000000) (hcl : inB d.cell 0 (p.cells.length - 1) = true) (hl : ¬ p.bottles < d.n) : Calls Try.prog 49 #[.agg #[.slice a p.cells.length cap, .int .i64 p.bottles, .int .i64 p.inH, .int .i64 p.inA, .int .i64 p.vH, .int .i64 p.vA, .int .i64 p.lH, .int .i64 p.lA, .int .i64 p.pH, .int .i64 p.pA], .agg #[.int .u8 d.kind, .int .i64 d.cell, .int .i64 d.to, .int .i64 d.n]] w fun e w' => ∃ v, e = .returned (.tuple #[.agg #[v, .int .i64 (endQ (fillP p d)).bottles, .int .i64 (endQ (fillP p d)).inH, .int .i64 (endQ (fillP p d)).inA, .int .i64 (endQ (fillP p d)).vH, .int .i64 (endQ (fillP p d)).vA, .int .i64 (endQ (fillP p d)).lH, .int .i64 (endQ (fillP p d)).lA, .int .i64 (endQ (fillP p d)).pH, .int .i64 (endQ (fillP p d)).pA], .int .i64 (endE (fillP p d))]) ∧ Mine 25 w.heap.size w' v ((endQ (fillP p d))).cells ∧ Kept w w' := by
  have e1 : (d.kind == 1) = false := by simp; omega
  have g1 : decide (d.kind = 1) = false := by simp; omega
  have e2 : (d.kind == 2) = true := by simp; omega
  have g2 : decide (d.kind = 2) = true := by simp; omega
  have e3 : (d.kind == 3) = false := by simp; omega
  have g3 : decide (d.kind = 3) = false := by simp; omega
  have e4 : (d.kind == 4) = false := by simp; omega
  have g4 : decide (d.kind = 4) = false := by simp; omega
  have e5 : (d.kind == 5) = false := by simp; omega
  have g5 : decide (d.kind = 5) = false := by simp; omega
  have e6 : (d.kind == 6) = false := by simp; omega
  have g6 : decide (d.kind = 6) = false := by simp; omega
  have HMX := fun (W : World) => r_mixedK d.kind false (by simp [mixedB, hkk]) W
  have HMW := fun (W : World) => r_mixedW d.kind false (by simp [mixedB, hkk]) W
  clear hkk
  have hlt : decide (p.bottles < d.n) = false := by simpa using hl
  obtain ⟨Q, hQ⟩ : ∃ Q, Q = fillP p d := ⟨_, rfl⟩
  have HQ := Lib.hid hQ
  rw [← hQ]
  clear hQ
  have HP := Lib.hid hp
  have HS := Lib.hid hs
  have hn12 : p.cells.length ≤ 12 := (plantB_iff.1 hp).1
  have hb := plantB_iff.1 hp
  have hi : d.cell.toNat < p.cells.length := by
    have h1 : 0 ≤ d.cell ∧ d.cell ≤ p.cells.length - 1 := by simpa [inB] using hcl
    omega
  have hd0 : 0 ≤ d.cell ∧ d.cell < p.cells.length := by
    have h1 : 0 ≤ d.cell ∧ d.cell ≤ p.cells.length - 1 := by simpa [inB] using hcl
    omega
  have hcv : cellB p.cells[d.cell.toNat] = true := hb.2.2.2.2.2.2.1 _ (List.getElem_mem hi)
  have hat : at_ p d = p.cells[d.cell.toNat] := cellAt_get hi
  clear hp hs
  go_enter Try.func49, Try.ntmps49
  go_upto_region 3 with (go_at_call 115; (with_reducible refine (r_Plant p a cap _ (hx.later (by (exact kpt)) (Nat.le_refl _)) hc hM).mono ?_); rw [HP.out]; rintro e w1 ⟨rfl, hb1⟩; refine Blk.thru (b := w.heap.size) (arr := ?_) (t := ?_) ?_ hb1 ?_; rotate_left 2; (focus (exact blk)); intro rr; have rrc0 := rr.cell 0; have rrf0 := rr.free 0; have rrc1 := rr.cell 1; have rrf1 := rr.free 1; have rrc2 := rr.cell 2; have rrf2 := rr.free 2; have rrc3 := rr.cell 3; have rrf3 := rr.free 3; have rrc4 := rr.cell 4; have rrf4 := rr.free 4; have rrc5 := rr.cell 5; have rrf5 := rr.free 5; have rrc6 := rr.cell 6; have rrf6 := rr.free 6; have rrc7 := rr.cell 7; have rrf7 := rr.free 7; have rrc8 := rr.cell 8; have rrf8 := rr.free 8; have rrc9 := rr.cell 9; have rrf9 := rr.free 9; have rrl := rr.lt; simp at rrc0 rrc1 rrc2 rrc3 rrc4 rrc5 rrc6 rrc7 rrc8 rrc9; refine Blk.thru (b := (w.heap.size + 1)) (arr := ?_) (t := ?_) ?_ hb1 ?_; rotate_left 2; (focus (exact blk)); intro rq; have rqc0 := rq.cell 0; have rqf0 := rq.free 0; have rqc1 := rq.cell 1; have rqf1 := rq.free 1; have rqc2 := rq.cell 2; have rqf2 := rq.free 2; have rqc3 := rq.cell 3; have rqf3 := rq.free 3; have rql := rq.lt; simp at rqc0 rqc1 rqc2 rqc3)
  refine at_world (S := fun W => Blk W w.heap.size #[.slice a p.cells.length cap, .int .i64 p.bottles, .int .i64 p.inH, .int .i64 p.inA, .int .i64 p.vH, .int .i64 p.vA, .int .i64 p.lH, .int .i64 p.lA, .int .i64 p.pH, .int .i64 p.pA] 63 ∧ Blk W (w.heap.size + 1) #[.int .u8 d.kind, .int .i64 d.cell, .int .i64 d.to, .int .i64 d.n] 65 ∧ Blk W (w.heap.size + 1 + 1) #[.slice none 0 0, .int .i64 0, .int .i64 0, .int .i64 0, .int .i64 0, .int .i64 0, .int .i64 0, .int .i64 0, .int .i64 0, .int .i64 0] 63 ∧ Kept w W) ⟨by (exact blkc), by (exact blkc), by (exact blkc), by (exact kpt)⟩ ?_
  rintro W ⟨b0, b1, b2, hk⟩
  have b0c0 := b0.cell 0
  have b0f0 := b0.free 0
  have b0c1 := b0.cell 1
  have b0f1 := b0.free 1
  have b0c2 := b0.cell 2
  have b0f2 := b0.free 2
  have b0c3 := b0.cell 3
  have b0f3 := b0.free 3
  have b0c4 := b0.cell 4
  have b0f4 := b0.free 4
  have b0c5 := b0.cell 5
  have b0f5 := b0.free 5
  have b0c6 := b0.cell 6
  have b0f6 := b0.free 6
  have b0c7 := b0.cell 7
  have b0f7 := b0.free 7
  have b0c8 := b0.cell 8
  have b0f8 := b0.free 8
  have b0c9 := b0.cell 9
  have b0f9 := b0.free 9
  have b0l := b0.lt
  simp at b0c0 b0c1 b0c2 b0c3 b0c4 b0c5 b0c6 b0c7 b0c8 b0c9
  have b1c0 := b1.cell 0
  have b1f0 := b1.free 0
  have b1c1 := b1.cell 1
  have b1f1 := b1.free 1
  have b1c2 := b1.cell 2
  have b1f2 := b1.free 2
  have b1c3 := b1.cell 3
  have b1f3 := b1.free 3
  have b1l := b1.lt
  simp at b1c0 b1c1 b1c2 b1c3
  have b2c0 := b2.cell 0
  have b2f0 := b2.free 0
  have b2c1 := b2.cell 1
  have b2f1 := b2.free 1
  have b2c2 := b2.cell 2
  have b2f2 := b2.free 2
  have b2c3 := b2.cell 3
  have b2f3 := b2.free 3
  have b2c4 := b2.cell 4
  have b2f4 := b2.free 4
  have b2c5 := b2.cell 5
  have b2f5 := b2.free 5
  have b2c6 := b2.cell 6
  have b2f6 := b2.free 6
  have b2c7 := b2.cell 7
  have b2f7 := b2.free 7
  have b2c8 := b2.cell 8
  have b2f8 := b2.free 8
  have b2c9 := b2.cell 9
  have b2f9 := b2.free 9
  have b2l := b2.lt
  simp at b2c0 b2c1 b2c2 b2c3 b2c4 b2c5 b2c6 b2c7 b2c8 b2c9
  go_upto_region 6 with (go_at_call 116; (with_reducible refine (r_sized p d a cap _ hc hM).mono ?_); rw [HS.out]; rintro e w1 ⟨rfl, hb1⟩)
  clear b0c0 b0f0 b0c1 b0f1 b0c2 b0f2 b0c3 b0f3 b0c4 b0f4 b0c5 b0f5 b0c6 b0f6 b0c7 b0f7 b0c8 b0f8 b0c9 b0f9 b0l b1c0 b1f0 b1c1 b1f1 b1c2 b1f2 b1c3 b1f3 b1l b2c0 b2f0 b2c1 b2f1 b2c2 b2f2 b2c3 b2f3 b2c4 b2f4 b2c5 b2f5 b2c6 b2f6 b2c7 b2f7 b2c8 b2f8 b2c9 b2f9 b2l
  refine at_world (S := fun X => Blk X w.heap.size #[.slice a p.cells.length cap, .int .i64 p.bottles, .int .i64 p.inH, .int .i64 p.inA, .int .i64 p.vH, .int .i64 p.vA, .int .i64 p.lH, .int .i64 p.lA, .int .i64 p.pH, .int .i64 p.pA] 63 ∧ Blk X (w.heap.size + 1) #[.int .u8 d.kind, .int .i64 d.cell, .int .i64 d.to, .int .i64 d.n] 65 ∧ Blk X (w.heap.size + 1 + 1) #[.slice none 0 0, .int .i64 0, .int .i64 0, .int .i64 0, .int .i64 0, .int .i64 0, .int .i64 0, .int .i64 0, .int .i64 0, .int .i64 0] 63 ∧ Kept w X) ⟨by (exact blkc), by (exact blkc), by (exact blkc), by (exact kpt)⟩ ?_
  clear b0 b1 b2 hk
  rintro X ⟨b0, b1, b2, hk⟩
  have b0c0 := b0.cell 0
  have b0f0 := b0.free 0
  have b0c1 := b0.cell 1
  have b0f1 := b0.free 1
  have b0c2 := b0.cell 2
  have b0f2 := b0.free 2
  have b0c3 := b0.cell 3
  have b0f3 := b0.free 3
  have b0c4 := b0.cell 4
  have b0f4 := b0.free 4
  have b0c5 := b0.cell 5
  have b0f5 := b0.free 5
  have b0c6 := b0.cell 6
  have b0f6 := b0.free 6
  have b0c7 := b0.cell 7
  have b0f7 := b0.free 7
  have b0c8 := b0.cell 8
  have b0f8 := b0.free 8
  have b0c9 := b0.cell 9
  have b0f9 := b0.free 9
  have b0l := b0.lt
  simp at b0c0 b0c1 b0c2 b0c3 b0c4 b0c5 b0c6 b0c7 b0c8 b0c9
  have b1c0 := b1.cell 0
  have b1f0 := b1.free 0
  have b1c1 := b1.cell 1
  have b1f1 := b1.free 1
  have b1c2 := b1.cell 2
  have b1f2 := b1.free 2
  have b1c3 := b1.cell 3
  have b1f3 := b1.free 3
  have b1l := b1.lt
  simp at b1c0 b1c1 b1c2 b1c3
  have b2c0 := b2.cell 0
  have b2f0 := b2.free 0
  have b2c1 := b2.cell 1
  have b2f1 := b2.free 1
  have b2c2 := b2.cell 2
  have b2f2 := b2.free 2
  have b2c3 := b2.cell 3
  have b2f3 := b2.free 3
  have b2c4 := b2.cell 4
  have b2f4 := b2.free 4
  have b2c5 := b2.cell 5
  have b2f5 := b2.free 5
  have b2c6 := b2.cell 6
  have b2f6 := b2.free 6
  have b2c7 := b2.cell 7
  have b2f7 := b2.free 7
  have b2c8 := b2.cell 8
  have b2f8 := b2.free 8
  have b2c9 := b2.cell 9
  have b2f9 := b2.free 9
  have b2l := b2.lt
  simp at b2c0 b2c1 b2c2 b2c3 b2c4 b2c5 b2c6 b2c7 b2c8 b2c9
  go_upto_region 7 with (go_at_call 47; (with_reducible refine (r_Twin p a cap _ (hx.later (by (exact kpt)) (Nat.le_refl _)) (by omega) hz).mono ?_); rintro e w1 ⟨ad, cp, rfl, hm1, hb1⟩)
  have b1k := b1.keep hb1
  have b2k := b2.keep hb1
  have hsz := b2k.lt
  have hm2 := hm1.base (C := w.heap.size) hk.size
  have hk2 := hk.trans (hb1.mono hk.size)
  refine at_world (S := fun Y => Blk Y (w.heap.size + 1) #[.int .u8 d.kind, .int .i64 d.cell, .int .i64 d.to, .int .i64 d.n] 65 ∧ Blk Y (w.heap.size + 1 + 1) #[.slice none 0 0, .int .i64 0, .int .i64 0, .int .i64 0, .int .i64 0, .int .i64 0, .int .i64 0, .int .i64 0, .int .i64 0, .int .i64 0] 63 ∧ Blk Y w1.heap.size #[.slice ad p.cells.length cp, .int .i64 (p.bottles), .int .i64 (p.inH), .int .i64 (p.inA), .int .i64 (p.vH), .int .i64 (p.vA), .int .i64 (p.lH), .int .i64 (p.lA), .int .i64 (p.pH), .int .i64 (p.pA)] 63 ∧ Mine 25 w.heap.size Y (.slice ad p.cells.length cp) p.cells ∧ Kept w Y ∧ w.heap.size + 1 + 1 < w1.heap.size) ⟨by (exact blkc), by (exact blkc), by (exact blkc), by exact (by have hnp := mine_past hm2 (Nat.le_refl _); (repeat (with_reducible refine Mine.off ?_ hnp _)); exact hm2.alloc _), by (exact kpt), hsz⟩ ?_
  clear b0c0 b0f0 b0c1 b0f1 b0c2 b0f2 b0c3 b0f3 b0c4 b0f4 b0c5 b0f5 b0c6 b0f6 b0c7 b0f7 b0c8 b0f8 b0c9 b0f9 b0l b1c0 b1f0 b1c1 b1f1 b1c2 b1f2 b1c3 b1f3 b1l b2c0 b2f0 b2c1 b2f1 b2c2 b2f2 b2c3 b2f3 b2c4 b2f4 b2c5 b2f5 b2c6 b2f6 b2c7 b2f7 b2c8 b2f8 b2c9 b2f9 b2l b0 b1 b2 hk b1k b2k hm2 hk2 hm1 hb1 hsz
  rintro Y ⟨b1, b2, r3, hm, hk, hs⟩
  generalize w1.heap.size = s at hs r3 ⊢
  obtain ⟨x, hx⟩ : ∃ x, x = p.cells[d.cell.toNat] := ⟨_, rfl⟩
  have HX := Lib.hid (show p.cells[d.cell.toNat]? = some x by rw [hx]; simp [hi])
  have HXX := Lib.hid hx
  rw [← hx] at hcv hat
  have HAT := Lib.hid hat
  have HCV := Lib.hid hcv
  have hxb := cellB_iff.1 hcv
  obtain ⟨g, cur, rfl, hBg, hcur, c0, c1, c2, c3, c4, c5, c6⟩ := hm.at hi
  rw [← hx] at c0 c1 c2 c3 c4 c5 c6
  clear hx hat hcv
  have HAC := fun (W : World) => r_amount x W HCV.out
  obtain ⟨AM, hAM⟩ : ∃ y, y = amount x := ⟨_, rfl⟩
  have HAM := Lib.hid (show amount x = AM from hAM.symm)
  rw [← hAM] at HAC
  clear hAM
  obtain ⟨_, hb1, hb2, _⟩ := hb
  have w1 := i64_inx (n := p.bottles - d.n) (by omega)
  have w2 := i64_inx (n := x.helium + d.n) (by omega)
  have b1c0 := fun g : Later Y => (b1.later g).cell 0
  have b1f0 := fun g : Later Y => (b1.later g).free 0
  have b1c1 := fun g : Later Y => (b1.later g).cell 1
  have b1f1 := fun g : Later Y => (b1.later g).free 1
  have b1c2 := fun g : Later Y => (b1.later g).cell 2
  have b1f2 := fun g : Later Y => (b1.later g).free 2
  have b1c3 := fun g : Later Y => (b1.later g).cell 3
  have b1f3 := fun g : Later Y => (b1.later g).free 3
  have b1l := fun g : Later Y => (b1.later g).lt
  simp at b1c0 b1c1 b1c2 b1c3
  have r3c0 := fun g : Later Y => (r3.later g).cell 0
  have r3f0 := fun g : Later Y => (r3.later g).free 0
  have r3c1 := fun g : Later Y => (r3.later g).cell 1
  have r3f1 := fun g : Later Y => (r3.later g).free 1
  have r3c2 := fun g : Later Y => (r3.later g).cell 2
  have r3f2 := fun g : Later Y => (r3.later g).free 2
  have r3c3 := fun g : Later Y => (r3.later g).cell 3
  have r3f3 := fun g : Later Y => (r3.later g).free 3
  have r3c4 := fun g : Later Y => (r3.later g).cell 4
  have r3f4 := fun g : Later Y => (r3.later g).free 4
  have r3c5 := fun g : Later Y => (r3.later g).cell 5
  have r3f5 := fun g : Later Y => (r3.later g).free 5
  have r3c6 := fun g : Later Y => (r3.later g).cell 6
  have r3f6 := fun g : Later Y => (r3.later g).free 6
  have r3c7 := fun g : Later Y => (r3.later g).cell 7
  have r3f7 := fun g : Later Y => (r3.later g).free 7
  have r3c8 := fun g : Later Y => (r3.later g).cell 8
  have r3f8 := fun g : Later Y => (r3.later g).free 8
  have r3c9 := fun g : Later Y => (r3.later g).cell 9
  have r3f9 := fun g : Later Y => (r3.later g).free 9
  have r3l := fun g : Later Y => (r3.later g).lt
  simp at r3c0 r3c1 r3c2 r3c3 r3c4 r3c5 r3c6 r3c7 r3c8 r3c9
  clear c0 c1 c2 c3 c4 c5 c6
  refine Later.region (by kernel_rfl) (by kernel_rfl) ?_
  repeat (first | go_big_quiet_skip | (go_big_quiet_want; go_big_quiet_op; first | go_big_quiet_on | (apply Exists.intro; refine ⟨fun g => ?_, ?_⟩; (focus (first | (go_at_call 117; exact Later.call (HMX _)))); go_big_quiet_on)))
  refine wpQuiet_nil ?_
  intro gg
  clear b1c0 b1f0 b1c1 b1f1 b1c2 b1f2 b1c3 b1f3 b1l r3c0 r3f0 r3c1 r3f1 r3c2 r3f2 r3c3 r3f3 r3c4 r3f4 r3c5 r3f5 r3c6 r3f6 r3c7 r3f7 r3c8 r3f8 r3c9 r3f9 r3l
  have z1 := b1.later gg
  have z2 := b2.later gg
  have z3 := r3.later gg
  have hmg := hm.keep gg.ok
  have hkg := Kept.drop hk gg.ok
  have hne := hmg.ne z3 (by decide)
  have z1c0 := z1.cell 0
  have z1f0 := z1.free 0
  have z1c1 := z1.cell 1
  have z1f1 := z1.free 1
  have z1c2 := z1.cell 2
  have z1f2 := z1.free 2
  have z1c3 := z1.cell 3
  have z1f3 := z1.free 3
  have z1l := z1.lt
  simp at z1c0 z1c1 z1c2 z1c3
  have z3c0 := z3.cell 0
  have z3f0 := z3.free 0
  have z3c1 := z3.cell 1
  have z3f1 := z3.free 1
  have z3c2 := z3.cell 2
  have z3f2 := z3.free 2
  have z3c3 := z3.cell 3
  have z3f3 := z3.free 3
  have z3c4 := z3.cell 4
  have z3f4 := z3.free 4
  have z3c5 := z3.cell 5
  have z3f5 := z3.free 5
  have z3c6 := z3.cell 6
  have z3f6 := z3.free 6
  have z3c7 := z3.cell 7
  have z3f7 := z3.free 7
  have z3c8 := z3.cell 8
  have z3f8 := z3.free 8
  have z3c9 := z3.cell 9
  have z3f9 := z3.free 9
  have z3l := z3.lt
  simp at z3c0 z3c1 z3c2 z3c3 z3c4 z3c5 z3c6 z3c7 z3c8 z3c9
  go_upto_region 22 with (go_at_call 117; (with_reducible refine (HMW _).mono ?_); rintro e w9 ⟨rfl, rfl⟩)
  refine at_world (S := fun V => Blk V (w.heap.size + 1) #[.int .u8 d.kind, .int .i64 d.cell, .int .i64 d.to, .int .i64 d.n] 65 ∧ Blk V (w.heap.size + 1 + 1) #[.slice none 0 0, .int .i64 0, .int .i64 0, .int .i64 0, .int .i64 0, .int .i64 0, .int .i64 0, .int .i64 0, .int .i64 0, .int .i64 0] 63 ∧ Blk V s #[.slice (some ⟨g, 0, none⟩) p.cells.length cp, .int .i64 (p.bottles - d.n), .int .i64 (p.inH), .int .i64 (p.inA), .int .i64 (p.vH), .int .i64 (p.vA), .int .i64 (p.lH), .int .i64 (p.lA), .int .i64 (p.pH), .int .i64 (p.pA)] 63 ∧ Mine 25 w.heap.size V (.slice (some ⟨g, 0, none⟩) p.cells.length cp) p.cells ∧ Kept w V) ⟨by (exact blkc), by (exact blkc), (z3.set 1 _).alloc _, (hmg.off hne _).alloc _, by (exact kpt)⟩ ?_
  clear hne b1 b2 r3 hm hk hcur z1 z2 z3 hmg hkg z1c0 z1f0 z1c1 z1f1 z1c2 z1f2 z1c3 z1f3 z1l z3c0 z3f0 z3c1 z3f1 z3c2 z3f2 z3c3 z3f3 z3c4 z3f4 z3c5 z3f5 z3c6 z3f6 z3c7 z3f7 z3c8 z3f8 z3c9 z3f9 z3l
  rintro V ⟨b1, b2, r3, hm, hk⟩
  obtain ⟨_, cuv, hge, _, hcv, c0, c1, c2, c3, c4, c5, c6⟩ := hm.at hi
  cases hge
  rw [← HXX.out] at c0 c1 c2 c3 c4 c5 c6
  have b1c0 := fun g : Later V => (b1.later g).cell 0
  have b1f0 := fun g : Later V => (b1.later g).free 0
  have b1c1 := fun g : Later V => (b1.later g).cell 1
  have b1f1 := fun g : Later V => (b1.later g).free 1
  have b1c2 := fun g : Later V => (b1.later g).cell 2
  have b1f2 := fun g : Later V => (b1.later g).free 2
  have b1c3 := fun g : Later V => (b1.later g).cell 3
  have b1f3 := fun g : Later V => (b1.later g).free 3
  have b1l := fun g : Later V => (b1.later g).lt
  simp at b1c0 b1c1 b1c2 b1c3
  have r3c0 := fun g : Later V => (r3.later g).cell 0
  have r3f0 := fun g : Later V => (r3.later g).free 0
  have r3c1 := fun g : Later V => (r3.later g).cell 1
  have r3f1 := fun g : Later V => (r3.later g).free 1
  have r3c2 := fun g : Later V => (r3.later g).cell 2
  have r3f2 := fun g : Later V => (r3.later g).free 2
  have r3c3 := fun g : Later V => (r3.later g).cell 3
  have r3f3 := fun g : Later V => (r3.later g).free 3
  have r3c4 := fun g : Later V => (r3.later g).cell 4
  have r3f4 := fun g : Later V => (r3.later g).free 4
  have r3c5 := fun g : Later V => (r3.later g).cell 5
  have r3f5 := fun g : Later V => (r3.later g).free 5
  have r3c6 := fun g : Later V => (r3.later g).cell 6
  have r3f6 := fun g : Later V => (r3.later g).free 6
  have r3c7 := fun g : Later V => (r3.later g).cell 7
  have r3f7 := fun g : Later V => (r3.later g).free 7
  have r3c8 := fun g : Later V => (r3.later g).cell 8
  have r3f8 := fun g : Later V => (r3.later g).free 8
  have r3c9 := fun g : Later V => (r3.later g).cell 9
  have r3f9 := fun g : Later V => (r3.later g).free 9
  have r3l := fun g : Later V => (r3.later g).lt
  simp at r3c0 r3c1 r3c2 r3c3 r3c4 r3c5 r3c6 r3c7 r3c8 r3c9
  have y1 := fun q : Later V => q.some c1
  clear c0 c1 c2 c3 c4 c5 c6
  refine Later.tail 12 (by kernel_rfl) (by kernel_rfl) ?_
  simp only [List.take_succ_cons, List.take_zero, List.drop_succ_cons, List.drop_zero]
  repeat (first | go_big_quiet_skip | (go_big_quiet_want; go_big_quiet_op; first | go_big_quiet_on | (apply Exists.intro; refine ⟨fun g_ => ?_, ?_⟩; (focus (first | fail)); go_big_quiet_on)))
  refine wpQuiet_nil ?_
  intro gh
  refine wpList_plain rfl fun K1 hK1 => ?_
  have y1 := y1 gh
  have hcg := hcv.later gh
  have zf := hcg.free (d.cell.toNat * 7 + 1)
  clear b1c0 b1f0 b1c1 b1f1 b1c2 b1f2 b1c3 b1f3 b1l r3c0 r3f0 r3c1 r3f1 r3c2 r3f2 r3c3 r3f3 r3c4 r3f4 r3c5 r3f5 r3c6 r3f6 r3c7 r3f7 r3c8 r3f8 r3c9 r3f9 r3l
  go_upto_region 34 with fail
  refine at_world (S := fun Z => Blk Z (w.heap.size + 1 + 1) #[.slice none 0 0, .int .i64 0, .int .i64 0, .int .i64 0, .int .i64 0, .int .i64 0, .int .i64 0, .int .i64 0, .int .i64 0, .int .i64 0] 63 ∧ Blk Z s #[.slice (some ⟨g, 0, none⟩) p.cells.length cp, .int .i64 (Q.bottles), .int .i64 (Q.inH), .int .i64 (Q.inA), .int .i64 (Q.vH), .int .i64 (Q.vA), .int .i64 (Q.lH), .int .i64 (Q.lA), .int .i64 (Q.pH), .int .i64 (Q.pA)] 63 ∧ Mine 25 w.heap.size Z (.slice (some ⟨g, 0, none⟩) p.cells.length cp) Q.cells ∧ Kept w Z) ⟨(b2.later gh).other (a := ⟨g, d.cell.toNat * 7 + 1, none⟩) (fun he => by simp only at he; subst he; have := (b2.later gh).symm.trans hcg; simp at this) _, ((r3.later gh).other (a := ⟨g, d.cell.toNat * 7 + 1, none⟩) (fun he => by simp only at he; subst he; have := (r3.later gh).symm.trans hcg; simp at this) _).cast (by rw [HQ.out]; simp [fillP]), by have hq := (hm.keep gh.ok).put (i := d.cell.toNat) (j := 1) (c := x) (u := .int .i64 (x.helium + d.n)) { x with helium := x.helium + d.n } HX.out (by decide) rfl; rw [HQ.out]; simpa [fillP, HAT.out] using hq, (Kept.drop hk gh.ok).setCell hBg _⟩ ?_
  clear b1 b2 r3 hm hk y1 zf hcg hcv gh
  rintro Z ⟨b2, r3, hm, hk⟩
  cases hpq : plantB Q
  · have HPQ := Lib.hid hpq
    have r3c0 := r3.cell 0
    have r3f0 := r3.free 0
    have r3c1 := r3.cell 1
    have r3f1 := r3.free 1
    have r3c2 := r3.cell 2
    have r3f2 := r3.free 2
    have r3c3 := r3.cell 3
    have r3f3 := r3.free 3
    have r3c4 := r3.cell 4
    have r3f4 := r3.free 4
    have r3c5 := r3.cell 5
    have r3f5 := r3.free 5
    have r3c6 := r3.cell 6
    have r3f6 := r3.free 6
    have r3c7 := r3.cell 7
    have r3f7 := r3.free 7
    have r3c8 := r3.cell 8
    have r3f8 := r3.free 8
    have r3c9 := r3.cell 9
    have r3f9 := r3.free 9
    have r3l := r3.lt
    simp at r3c0 r3c1 r3c2 r3c3 r3c4 r3c5 r3c6 r3c7 r3c8 r3c9
    go_upto_region 35 with (go_at_call 115; (with_reducible refine (r_PlantK hm).mono ?_); rw [HPQ.out]; rintro e w4 ⟨rfl, hb4⟩)
    clear r3c0 r3f0 r3c1 r3f1 r3c2 r3f2 r3c3 r3f3 r3c4 r3f4 r3c5 r3f5 r3c6 r3f6 r3c7 r3f7 r3c8 r3f8 r3c9 r3f9 r3l
    refine at_world (S := fun U => Blk U (w.heap.size + 1 + 1) #[.slice none 0 0, .int .i64 0, .int .i64 0, .int .i64 0, .int .i64 0, .int .i64 0, .int .i64 0, .int .i64 0, .int .i64 0, .int .i64 0] 63 ∧ Blk U s #[.slice (some ⟨g, 0, none⟩) p.cells.length cp, .int .i64 (Q.bottles), .int .i64 (Q.inH), .int .i64 (Q.inA), .int .i64 (Q.vH), .int .i64 (Q.vA), .int .i64 (Q.lH), .int .i64 (Q.lA), .int .i64 (Q.pH), .int .i64 (Q.pA)] 63 ∧ Mine 25 w.heap.size U (.slice (some ⟨g, 0, none⟩) p.cells.length cp) Q.cells ∧ Kept w U) ⟨b2.keep hb4, r3.keep hb4, hm.keep hb4, Kept.drop hk hb4⟩ ?_
    clear b2 r3 hm hk hb4
    rintro U ⟨b2, r3, hm, hk⟩
    have b2c0 := b2.cell 0
    have b2f0 := b2.free 0
    have b2c1 := b2.cell 1
    have b2f1 := b2.free 1
    have b2c2 := b2.cell 2
    have b2f2 := b2.free 2
    have b2c3 := b2.cell 3
    have b2f3 := b2.free 3
    have b2c4 := b2.cell 4
    have b2f4 := b2.free 4
    have b2c5 := b2.cell 5
    have b2f5 := b2.free 5
    have b2c6 := b2.cell 6
    have b2f6 := b2.free 6
    have b2c7 := b2.cell 7
    have b2f7 := b2.free 7
    have b2c8 := b2.cell 8
    have b2f8 := b2.free 8
    have b2c9 := b2.cell 9
    have b2f9 := b2.free 9
    have b2l := b2.lt
    simp at b2c0 b2c1 b2c2 b2c3 b2c4 b2c5 b2c6 b2c7 b2c8 b2c9
    have r3c0 := r3.cell 0
    have r3f0 := r3.free 0
    have r3c1 := r3.cell 1
    have r3f1 := r3.free 1
    have r3c2 := r3.cell 2
    have r3f2 := r3.free 2
    have r3c3 := r3.cell 3
    have r3f3 := r3.free 3
    have r3c4 := r3.cell 4
    have r3f4 := r3.free 4
    have r3c5 := r3.cell 5
    have r3f5 := r3.free 5
    have r3c6 := r3.cell 6
    have r3f6 := r3.free 6
    have r3c7 := r3.cell 7
    have r3f7 := r3.free 7
    have r3c8 := r3.cell 8
    have r3f8 := r3.free 8
    have r3c9 := r3.cell 9
    have r3f9 := r3.free 9
    have r3l := r3.lt
    simp at r3c0 r3c1 r3c2 r3c3 r3c4 r3c5 r3c6 r3c7 r3c8 r3c9
    go_wp2
    refine bodyPost_ret (v := .tuple #[.agg #[.slice none 0 0, .int .i64 0, .int .i64 0, .int .i64 0, .int .i64 0, .int .i64 0, .int .i64 0, .int .i64 0, .int .i64 0, .int .i64 0], .int .i64 9]) (by simp [results, Try.results49, go_sem, b2c0, b2f0, b2c1, b2f1, b2c2, b2f2, b2c3, b2f3, b2c4, b2f4, b2c5, b2f5, b2c6, b2f6, b2c7, b2f7, b2c8, b2f8, b2c9, b2f9, r3c0, r3f0, r3c1, r3f1, r3c2, r3f2, r3c3, r3f3, r3c4, r3f4, r3c5, r3f5, r3c6, r3f6, r3c7, r3f7, r3c8, r3f8, r3c9, r3f9]) rfl ⟨.slice none 0 0, ?_, ?_, ?_⟩
    · simp [endQ, endE, HPQ.out, noPlant]
    · rw [show endQ Q = noPlant by simp [endQ, HPQ.out]]
      exact Mine.zero
    · (exact kpt)
  · have HPQ := Lib.hid hpq
    have r3c0 := r3.cell 0
    have r3f0 := r3.free 0
    have r3c1 := r3.cell 1
    have r3f1 := r3.free 1
    have r3c2 := r3.cell 2
    have r3f2 := r3.free 2
    have r3c3 := r3.cell 3
    have r3f3 := r3.free 3
    have r3c4 := r3.cell 4
    have r3f4 := r3.free 4
    have r3c5 := r3.cell 5
    have r3f5 := r3.free 5
    have r3c6 := r3.cell 6
    have r3f6 := r3.free 6
    have r3c7 := r3.cell 7
    have r3f7 := r3.free 7
    have r3c8 := r3.cell 8
    have r3f8 := r3.free 8
    have r3c9 := r3.cell 9
    have r3f9 := r3.free 9
    have r3l := r3.lt
    simp at r3c0 r3c1 r3c2 r3c3 r3c4 r3c5 r3c6 r3c7 r3c8 r3c9
    go_upto_region 36 with (go_at_call 115; (with_reducible refine (r_PlantK hm).mono ?_); rw [HPQ.out]; rintro e w4 ⟨rfl, hb4⟩)
    clear r3c0 r3f0 r3c1 r3f1 r3c2 r3f2 r3c3 r3f3 r3c4 r3f4 r3c5 r3f5 r3c6 r3f6 r3c7 r3f7 r3c8 r3f8 r3c9 r3f9 r3l
    refine at_world (S := fun U => Blk U (w.heap.size + 1 + 1) #[.slice none 0 0, .int .i64 0, .int .i64 0, .int .i64 0, .int .i64 0, .int .i64 0, .int .i64 0, .int .i64 0, .int .i64 0, .int .i64 0] 63 ∧ Blk U s #[.slice (some ⟨g, 0, none⟩) p.cells.length cp, .int .i64 (Q.bottles), .int .i64 (Q.inH), .int .i64 (Q.inA), .int .i64 (Q.vH), .int .i64 (Q.vA), .int .i64 (Q.lH), .int .i64 (Q.lA), .int .i64 (Q.pH), .int .i64 (Q.pA)] 63 ∧ Mine 25 w.heap.size U (.slice (some ⟨g, 0, none⟩) p.cells.length cp) Q.cells ∧ Kept w U) ⟨b2.keep hb4, r3.keep hb4, hm.keep hb4, Kept.drop hk hb4⟩ ?_
    clear b2 r3 hm hk hb4
    rintro U ⟨b2, r3, hm, hk⟩
    have b2c0 := b2.cell 0
    have b2f0 := b2.free 0
    have b2c1 := b2.cell 1
    have b2f1 := b2.free 1
    have b2c2 := b2.cell 2
    have b2f2 := b2.free 2
    have b2c3 := b2.cell 3
    have b2f3 := b2.free 3
    have b2c4 := b2.cell 4
    have b2f4 := b2.free 4
    have b2c5 := b2.cell 5
    have b2f5 := b2.free 5
    have b2c6 := b2.cell 6
    have b2f6 := b2.free 6
    have b2c7 := b2.cell 7
    have b2f7 := b2.free 7
    have b2c8 := b2.cell 8
    have b2f8 := b2.free 8
    have b2c9 := b2.cell 9
    have b2f9 := b2.free 9
    have b2l := b2.lt
    simp at b2c0 b2c1 b2c2 b2c3 b2c4 b2c5 b2c6 b2c7 b2c8 b2c9
    have r3c0 := r3.cell 0
    have r3f0 := r3.free 0
    have r3c1 := r3.cell 1
    have r3f1 := r3.free 1
    have r3c2 := r3.cell 2
    have r3f2 := r3.free 2
    have r3c3 := r3.cell 3
    have r3f3 := r3.free 3
    have r3c4 := r3.cell 4
    have r3f4 := r3.free 4
    have r3c5 := r3.cell 5
    have r3f5 := r3.free 5
    have r3c6 := r3.cell 6
    have r3f6 := r3.free 6
    have r3c7 := r3.cell 7
    have r3f7 := r3.free 7
    have r3c8 := r3.cell 8
    have r3f8 := r3.free 8
    have r3c9 := r3.cell 9
    have r3f9 := r3.free 9
    have r3l := r3.lt
    simp at r3c0 r3c1 r3c2 r3c3 r3c4 r3c5 r3c6 r3c7 r3c8 r3c9
    go_wp2
    refine bodyPost_ret (v := .tuple #[.agg #[.slice (some ⟨g, 0, none⟩) p.cells.length cp, .int .i64 (Q.bottles), .int .i64 (Q.inH), .int .i64 (Q.inA), .int .i64 (Q.vH), .int .i64 (Q.vA), .int .i64 (Q.lH), .int .i64 (Q.lA), .int .i64 (Q.pH), .int .i64 (Q.pA)], .int .i64 0]) (by simp [results, Try.results49, go_sem, b2c0, b2f0, b2c1, b2f1, b2c2, b2f2, b2c3, b2f3, b2c4, b2f4, b2c5, b2f5, b2c6, b2f6, b2c7, b2f7, b2c8, b2f8, b2c9, b2f9, r3c0, r3f0, r3c1, r3f1, r3c2, r3f2, r3c3, r3f3, r3c4, r3f4, r3c5, r3f5, r3c6, r3f6, r3c7, r3f7, r3c8, r3f8, r3c9, r3f9]) rfl ⟨.slice (some ⟨g, 0, none⟩) p.cells.length cp, ?_, ?_, ?_⟩
    · simp [endQ, endE, HPQ.out, noPlant]
    · rw [show endQ Q = Q by simp [endQ, HPQ.out]]
      have hne := hm.ne b2 (by decide)
      (repeat (with_reducible refine Mine.off ?_ (by with_reducible assumption) _))
      exact hm
    · (exact kpt)

theorem r_Do_6 (p : Plant) (d : Deed) (a : Option Addr) (cap : Nat) (w : World) (hx : Row Cell.cells 7 w.heap.size w a p.cells) (hc : p.cells.length ≤ cap) (hM : cap ≤ maxLen) (hz : a = none → cap = 0) (hp : plantB p = true) (hs : sizedE p d = 0) (hkk : d.kind = 6) (hn : 1 ≤ d.n ∧ d.n ≤ 10000000) (hcl : inB d.cell 0 (p.cells.length - 1) = true) : Calls Try.prog 49 #[.agg #[.slice a p.cells.length cap, .int .i64 p.bottles, .int .i64 p.inH, .int .i64 p.inA, .int .i64 p.vH, .int .i64 p.vA, .int .i64 p.lH, .int .i64 p.lA, .int .i64 p.pH, .int .i64 p.pA], .agg #[.int .u8 d.kind, .int .i64 d.cell, .int .i64 d.to, .int .i64 d.n]] w fun e w' => ∃ v, e = .returned (.tuple #[.agg #[v, .int .i64 (endQ (breatheP p d)).bottles, .int .i64 (endQ (breatheP p d)).inH, .int .i64 (endQ (breatheP p d)).inA, .int .i64 (endQ (breatheP p d)).vH, .int .i64 (endQ (breatheP p d)).vA, .int .i64 (endQ (breatheP p d)).lH, .int .i64 (endQ (breatheP p d)).lA, .int .i64 (endQ (breatheP p d)).pH, .int .i64 (endQ (breatheP p d)).pA], .int .i64 (endE (breatheP p d))]) ∧ Mine 25 w.heap.size w' v ((endQ (breatheP p d))).cells ∧ Kept w w' := by
  have e1 : (d.kind == 1) = false := by simp; omega
  have g1 : decide (d.kind = 1) = false := by simp; omega
  have e2 : (d.kind == 2) = false := by simp; omega
  have g2 : decide (d.kind = 2) = false := by simp; omega
  have e3 : (d.kind == 3) = false := by simp; omega
  have g3 : decide (d.kind = 3) = false := by simp; omega
  have e4 : (d.kind == 4) = false := by simp; omega
  have g4 : decide (d.kind = 4) = false := by simp; omega
  have e5 : (d.kind == 5) = false := by simp; omega
  have g5 : decide (d.kind = 5) = false := by simp; omega
  have e6 : (d.kind == 6) = true := by simp; omega
  have g6 : decide (d.kind = 6) = true := by simp; omega
  have HMX := fun (W : World) => r_mixedK d.kind false (by simp [mixedB, hkk]) W
  have HMW := fun (W : World) => r_mixedW d.kind false (by simp [mixedB, hkk]) W
  clear hkk
  obtain ⟨Q, hQ⟩ : ∃ Q, Q = breatheP p d := ⟨_, rfl⟩
  have HQ := Lib.hid hQ
  rw [← hQ]
  clear hQ
  have HP := Lib.hid hp
  have HS := Lib.hid hs
  have hn12 : p.cells.length ≤ 12 := (plantB_iff.1 hp).1
  have hb := plantB_iff.1 hp
  have hi : d.cell.toNat < p.cells.length := by
    have h1 : 0 ≤ d.cell ∧ d.cell ≤ p.cells.length - 1 := by simpa [inB] using hcl
    omega
  have hd0 : 0 ≤ d.cell ∧ d.cell < p.cells.length := by
    have h1 : 0 ≤ d.cell ∧ d.cell ≤ p.cells.length - 1 := by simpa [inB] using hcl
    omega
  have hcv : cellB p.cells[d.cell.toNat] = true := hb.2.2.2.2.2.2.1 _ (List.getElem_mem hi)
  have hat : at_ p d = p.cells[d.cell.toNat] := cellAt_get hi
  clear hp hs
  go_enter Try.func49, Try.ntmps49
  go_upto_region 3 with (go_at_call 115; (with_reducible refine (r_Plant p a cap _ (hx.later (by (exact kpt)) (Nat.le_refl _)) hc hM).mono ?_); rw [HP.out]; rintro e w1 ⟨rfl, hb1⟩; refine Blk.thru (b := w.heap.size) (arr := ?_) (t := ?_) ?_ hb1 ?_; rotate_left 2; (focus (exact blk)); intro rr; have rrc0 := rr.cell 0; have rrf0 := rr.free 0; have rrc1 := rr.cell 1; have rrf1 := rr.free 1; have rrc2 := rr.cell 2; have rrf2 := rr.free 2; have rrc3 := rr.cell 3; have rrf3 := rr.free 3; have rrc4 := rr.cell 4; have rrf4 := rr.free 4; have rrc5 := rr.cell 5; have rrf5 := rr.free 5; have rrc6 := rr.cell 6; have rrf6 := rr.free 6; have rrc7 := rr.cell 7; have rrf7 := rr.free 7; have rrc8 := rr.cell 8; have rrf8 := rr.free 8; have rrc9 := rr.cell 9; have rrf9 := rr.free 9; have rrl := rr.lt; simp at rrc0 rrc1 rrc2 rrc3 rrc4 rrc5 rrc6 rrc7 rrc8 rrc9; refine Blk.thru (b := (w.heap.size + 1)) (arr := ?_) (t := ?_) ?_ hb1 ?_; rotate_left 2; (focus (exact blk)); intro rq; have rqc0 := rq.cell 0; have rqf0 := rq.free 0; have rqc1 := rq.cell 1; have rqf1 := rq.free 1; have rqc2 := rq.cell 2; have rqf2 := rq.free 2; have rqc3 := rq.cell 3; have rqf3 := rq.free 3; have rql := rq.lt; simp at rqc0 rqc1 rqc2 rqc3)
  refine at_world (S := fun W => Blk W w.heap.size #[.slice a p.cells.length cap, .int .i64 p.bottles, .int .i64 p.inH, .int .i64 p.inA, .int .i64 p.vH, .int .i64 p.vA, .int .i64 p.lH, .int .i64 p.lA, .int .i64 p.pH, .int .i64 p.pA] 63 ∧ Blk W (w.heap.size + 1) #[.int .u8 d.kind, .int .i64 d.cell, .int .i64 d.to, .int .i64 d.n] 65 ∧ Blk W (w.heap.size + 1 + 1) #[.slice none 0 0, .int .i64 0, .int .i64 0, .int .i64 0, .int .i64 0, .int .i64 0, .int .i64 0, .int .i64 0, .int .i64 0, .int .i64 0] 63 ∧ Kept w W) ⟨by (exact blkc), by (exact blkc), by (exact blkc), by (exact kpt)⟩ ?_
  rintro W ⟨b0, b1, b2, hk⟩
  have b0c0 := b0.cell 0
  have b0f0 := b0.free 0
  have b0c1 := b0.cell 1
  have b0f1 := b0.free 1
  have b0c2 := b0.cell 2
  have b0f2 := b0.free 2
  have b0c3 := b0.cell 3
  have b0f3 := b0.free 3
  have b0c4 := b0.cell 4
  have b0f4 := b0.free 4
  have b0c5 := b0.cell 5
  have b0f5 := b0.free 5
  have b0c6 := b0.cell 6
  have b0f6 := b0.free 6
  have b0c7 := b0.cell 7
  have b0f7 := b0.free 7
  have b0c8 := b0.cell 8
  have b0f8 := b0.free 8
  have b0c9 := b0.cell 9
  have b0f9 := b0.free 9
  have b0l := b0.lt
  simp at b0c0 b0c1 b0c2 b0c3 b0c4 b0c5 b0c6 b0c7 b0c8 b0c9
  have b1c0 := b1.cell 0
  have b1f0 := b1.free 0
  have b1c1 := b1.cell 1
  have b1f1 := b1.free 1
  have b1c2 := b1.cell 2
  have b1f2 := b1.free 2
  have b1c3 := b1.cell 3
  have b1f3 := b1.free 3
  have b1l := b1.lt
  simp at b1c0 b1c1 b1c2 b1c3
  have b2c0 := b2.cell 0
  have b2f0 := b2.free 0
  have b2c1 := b2.cell 1
  have b2f1 := b2.free 1
  have b2c2 := b2.cell 2
  have b2f2 := b2.free 2
  have b2c3 := b2.cell 3
  have b2f3 := b2.free 3
  have b2c4 := b2.cell 4
  have b2f4 := b2.free 4
  have b2c5 := b2.cell 5
  have b2f5 := b2.free 5
  have b2c6 := b2.cell 6
  have b2f6 := b2.free 6
  have b2c7 := b2.cell 7
  have b2f7 := b2.free 7
  have b2c8 := b2.cell 8
  have b2f8 := b2.free 8
  have b2c9 := b2.cell 9
  have b2f9 := b2.free 9
  have b2l := b2.lt
  simp at b2c0 b2c1 b2c2 b2c3 b2c4 b2c5 b2c6 b2c7 b2c8 b2c9
  go_upto_region 6 with (go_at_call 116; (with_reducible refine (r_sized p d a cap _ hc hM).mono ?_); rw [HS.out]; rintro e w1 ⟨rfl, hb1⟩)
  clear b0c0 b0f0 b0c1 b0f1 b0c2 b0f2 b0c3 b0f3 b0c4 b0f4 b0c5 b0f5 b0c6 b0f6 b0c7 b0f7 b0c8 b0f8 b0c9 b0f9 b0l b1c0 b1f0 b1c1 b1f1 b1c2 b1f2 b1c3 b1f3 b1l b2c0 b2f0 b2c1 b2f1 b2c2 b2f2 b2c3 b2f3 b2c4 b2f4 b2c5 b2f5 b2c6 b2f6 b2c7 b2f7 b2c8 b2f8 b2c9 b2f9 b2l
  refine at_world (S := fun X => Blk X w.heap.size #[.slice a p.cells.length cap, .int .i64 p.bottles, .int .i64 p.inH, .int .i64 p.inA, .int .i64 p.vH, .int .i64 p.vA, .int .i64 p.lH, .int .i64 p.lA, .int .i64 p.pH, .int .i64 p.pA] 63 ∧ Blk X (w.heap.size + 1) #[.int .u8 d.kind, .int .i64 d.cell, .int .i64 d.to, .int .i64 d.n] 65 ∧ Blk X (w.heap.size + 1 + 1) #[.slice none 0 0, .int .i64 0, .int .i64 0, .int .i64 0, .int .i64 0, .int .i64 0, .int .i64 0, .int .i64 0, .int .i64 0, .int .i64 0] 63 ∧ Kept w X) ⟨by (exact blkc), by (exact blkc), by (exact blkc), by (exact kpt)⟩ ?_
  clear b0 b1 b2 hk
  rintro X ⟨b0, b1, b2, hk⟩
  have b0c0 := b0.cell 0
  have b0f0 := b0.free 0
  have b0c1 := b0.cell 1
  have b0f1 := b0.free 1
  have b0c2 := b0.cell 2
  have b0f2 := b0.free 2
  have b0c3 := b0.cell 3
  have b0f3 := b0.free 3
  have b0c4 := b0.cell 4
  have b0f4 := b0.free 4
  have b0c5 := b0.cell 5
  have b0f5 := b0.free 5
  have b0c6 := b0.cell 6
  have b0f6 := b0.free 6
  have b0c7 := b0.cell 7
  have b0f7 := b0.free 7
  have b0c8 := b0.cell 8
  have b0f8 := b0.free 8
  have b0c9 := b0.cell 9
  have b0f9 := b0.free 9
  have b0l := b0.lt
  simp at b0c0 b0c1 b0c2 b0c3 b0c4 b0c5 b0c6 b0c7 b0c8 b0c9
  have b1c0 := b1.cell 0
  have b1f0 := b1.free 0
  have b1c1 := b1.cell 1
  have b1f1 := b1.free 1
  have b1c2 := b1.cell 2
  have b1f2 := b1.free 2
  have b1c3 := b1.cell 3
  have b1f3 := b1.free 3
  have b1l := b1.lt
  simp at b1c0 b1c1 b1c2 b1c3
  have b2c0 := b2.cell 0
  have b2f0 := b2.free 0
  have b2c1 := b2.cell 1
  have b2f1 := b2.free 1
  have b2c2 := b2.cell 2
  have b2f2 := b2.free 2
  have b2c3 := b2.cell 3
  have b2f3 := b2.free 3
  have b2c4 := b2.cell 4
  have b2f4 := b2.free 4
  have b2c5 := b2.cell 5
  have b2f5 := b2.free 5
  have b2c6 := b2.cell 6
  have b2f6 := b2.free 6
  have b2c7 := b2.cell 7
  have b2f7 := b2.free 7
  have b2c8 := b2.cell 8
  have b2f8 := b2.free 8
  have b2c9 := b2.cell 9
  have b2f9 := b2.free 9
  have b2l := b2.lt
  simp at b2c0 b2c1 b2c2 b2c3 b2c4 b2c5 b2c6 b2c7 b2c8 b2c9
  go_upto_region 7 with (go_at_call 47; (with_reducible refine (r_Twin p a cap _ (hx.later (by (exact kpt)) (Nat.le_refl _)) (by omega) hz).mono ?_); rintro e w1 ⟨ad, cp, rfl, hm1, hb1⟩)
  have b1k := b1.keep hb1
  have b2k := b2.keep hb1
  have hsz := b2k.lt
  have hm2 := hm1.base (C := w.heap.size) hk.size
  have hk2 := hk.trans (hb1.mono hk.size)
  refine at_world (S := fun Y => Blk Y (w.heap.size + 1) #[.int .u8 d.kind, .int .i64 d.cell, .int .i64 d.to, .int .i64 d.n] 65 ∧ Blk Y (w.heap.size + 1 + 1) #[.slice none 0 0, .int .i64 0, .int .i64 0, .int .i64 0, .int .i64 0, .int .i64 0, .int .i64 0, .int .i64 0, .int .i64 0, .int .i64 0] 63 ∧ Blk Y w1.heap.size #[.slice ad p.cells.length cp, .int .i64 (p.bottles), .int .i64 (p.inH), .int .i64 (p.inA), .int .i64 (p.vH), .int .i64 (p.vA), .int .i64 (p.lH), .int .i64 (p.lA), .int .i64 (p.pH), .int .i64 (p.pA)] 63 ∧ Mine 25 w.heap.size Y (.slice ad p.cells.length cp) p.cells ∧ Kept w Y ∧ w.heap.size + 1 + 1 < w1.heap.size) ⟨by (exact blkc), by (exact blkc), by (exact blkc), by exact (by have hnp := mine_past hm2 (Nat.le_refl _); (repeat (with_reducible refine Mine.off ?_ hnp _)); exact hm2.alloc _), by (exact kpt), hsz⟩ ?_
  clear b0c0 b0f0 b0c1 b0f1 b0c2 b0f2 b0c3 b0f3 b0c4 b0f4 b0c5 b0f5 b0c6 b0f6 b0c7 b0f7 b0c8 b0f8 b0c9 b0f9 b0l b1c0 b1f0 b1c1 b1f1 b1c2 b1f2 b1c3 b1f3 b1l b2c0 b2f0 b2c1 b2f1 b2c2 b2f2 b2c3 b2f3 b2c4 b2f4 b2c5 b2f5 b2c6 b2f6 b2c7 b2f7 b2c8 b2f8 b2c9 b2f9 b2l b0 b1 b2 hk b1k b2k hm2 hk2 hm1 hb1 hsz
  rintro Y ⟨b1, b2, r3, hm, hk, hs⟩
  generalize w1.heap.size = s at hs r3 ⊢
  obtain ⟨x, hx⟩ : ∃ x, x = p.cells[d.cell.toNat] := ⟨_, rfl⟩
  have HX := Lib.hid (show p.cells[d.cell.toNat]? = some x by rw [hx]; simp [hi])
  have HXX := Lib.hid hx
  rw [← hx] at hcv hat
  have HAT := Lib.hid hat
  have HCV := Lib.hid hcv
  have hxb := cellB_iff.1 hcv
  obtain ⟨g, cur, rfl, hBg, hcur, c0, c1, c2, c3, c4, c5, c6⟩ := hm.at hi
  rw [← hx] at c0 c1 c2 c3 c4 c5 c6
  clear hx hat hcv
  have HAC := fun (W : World) => r_amount x W HCV.out
  obtain ⟨AM, hAM⟩ : ∃ y, y = amount x := ⟨_, rfl⟩
  have HAM := Lib.hid (show amount x = AM from hAM.symm)
  rw [← hAM] at HAC
  clear hAM
  obtain ⟨_, _, ⟨_, hb1, hb2⟩, _⟩ := hb
  have w1 := i64_inx (n := p.inA + d.n) (by omega)
  have w2 := i64_inx (n := x.air + d.n) (by omega)
  have b1c0 := fun g : Later Y => (b1.later g).cell 0
  have b1f0 := fun g : Later Y => (b1.later g).free 0
  have b1c1 := fun g : Later Y => (b1.later g).cell 1
  have b1f1 := fun g : Later Y => (b1.later g).free 1
  have b1c2 := fun g : Later Y => (b1.later g).cell 2
  have b1f2 := fun g : Later Y => (b1.later g).free 2
  have b1c3 := fun g : Later Y => (b1.later g).cell 3
  have b1f3 := fun g : Later Y => (b1.later g).free 3
  have b1l := fun g : Later Y => (b1.later g).lt
  simp at b1c0 b1c1 b1c2 b1c3
  have r3c0 := fun g : Later Y => (r3.later g).cell 0
  have r3f0 := fun g : Later Y => (r3.later g).free 0
  have r3c1 := fun g : Later Y => (r3.later g).cell 1
  have r3f1 := fun g : Later Y => (r3.later g).free 1
  have r3c2 := fun g : Later Y => (r3.later g).cell 2
  have r3f2 := fun g : Later Y => (r3.later g).free 2
  have r3c3 := fun g : Later Y => (r3.later g).cell 3
  have r3f3 := fun g : Later Y => (r3.later g).free 3
  have r3c4 := fun g : Later Y => (r3.later g).cell 4
  have r3f4 := fun g : Later Y => (r3.later g).free 4
  have r3c5 := fun g : Later Y => (r3.later g).cell 5
  have r3f5 := fun g : Later Y => (r3.later g).free 5
  have r3c6 := fun g : Later Y => (r3.later g).cell 6
  have r3f6 := fun g : Later Y => (r3.later g).free 6
  have r3c7 := fun g : Later Y => (r3.later g).cell 7
  have r3f7 := fun g : Later Y => (r3.later g).free 7
  have r3c8 := fun g : Later Y => (r3.later g).cell 8
  have r3f8 := fun g : Later Y => (r3.later g).free 8
  have r3c9 := fun g : Later Y => (r3.later g).cell 9
  have r3f9 := fun g : Later Y => (r3.later g).free 9
  have r3l := fun g : Later Y => (r3.later g).lt
  simp at r3c0 r3c1 r3c2 r3c3 r3c4 r3c5 r3c6 r3c7 r3c8 r3c9
  clear c0 c1 c2 c3 c4 c5 c6
  refine Later.region (by kernel_rfl) (by kernel_rfl) ?_
  repeat (first | go_big_quiet_skip | (go_big_quiet_want; go_big_quiet_op; first | go_big_quiet_on | (apply Exists.intro; refine ⟨fun g => ?_, ?_⟩; (focus (first | (go_at_call 117; exact Later.call (HMX _)))); go_big_quiet_on)))
  refine wpQuiet_nil ?_
  intro gg
  clear b1c0 b1f0 b1c1 b1f1 b1c2 b1f2 b1c3 b1f3 b1l r3c0 r3f0 r3c1 r3f1 r3c2 r3f2 r3c3 r3f3 r3c4 r3f4 r3c5 r3f5 r3c6 r3f6 r3c7 r3f7 r3c8 r3f8 r3c9 r3f9 r3l
  have z1 := b1.later gg
  have z2 := b2.later gg
  have z3 := r3.later gg
  have hmg := hm.keep gg.ok
  have hkg := Kept.drop hk gg.ok
  have hne := hmg.ne z3 (by decide)
  have z1c0 := z1.cell 0
  have z1f0 := z1.free 0
  have z1c1 := z1.cell 1
  have z1f1 := z1.free 1
  have z1c2 := z1.cell 2
  have z1f2 := z1.free 2
  have z1c3 := z1.cell 3
  have z1f3 := z1.free 3
  have z1l := z1.lt
  simp at z1c0 z1c1 z1c2 z1c3
  have z3c0 := z3.cell 0
  have z3f0 := z3.free 0
  have z3c1 := z3.cell 1
  have z3f1 := z3.free 1
  have z3c2 := z3.cell 2
  have z3f2 := z3.free 2
  have z3c3 := z3.cell 3
  have z3f3 := z3.free 3
  have z3c4 := z3.cell 4
  have z3f4 := z3.free 4
  have z3c5 := z3.cell 5
  have z3f5 := z3.free 5
  have z3c6 := z3.cell 6
  have z3f6 := z3.free 6
  have z3c7 := z3.cell 7
  have z3f7 := z3.free 7
  have z3c8 := z3.cell 8
  have z3f8 := z3.free 8
  have z3c9 := z3.cell 9
  have z3f9 := z3.free 9
  have z3l := z3.lt
  simp at z3c0 z3c1 z3c2 z3c3 z3c4 z3c5 z3c6 z3c7 z3c8 z3c9
  go_upto_region 32 with (go_at_call 117; (with_reducible refine (HMW _).mono ?_); rintro e w9 ⟨rfl, rfl⟩)
  refine at_world (S := fun V => Blk V (w.heap.size + 1) #[.int .u8 d.kind, .int .i64 d.cell, .int .i64 d.to, .int .i64 d.n] 65 ∧ Blk V (w.heap.size + 1 + 1) #[.slice none 0 0, .int .i64 0, .int .i64 0, .int .i64 0, .int .i64 0, .int .i64 0, .int .i64 0, .int .i64 0, .int .i64 0, .int .i64 0] 63 ∧ Blk V s #[.slice (some ⟨g, 0, none⟩) p.cells.length cp, .int .i64 (p.bottles), .int .i64 (p.inH), .int .i64 (p.inA), .int .i64 (p.vH), .int .i64 (p.vA), .int .i64 (p.lH), .int .i64 (p.lA), .int .i64 (p.pH), .int .i64 (p.pA)] 63 ∧ Mine 25 w.heap.size V (.slice (some ⟨g, 0, none⟩) p.cells.length cp) p.cells ∧ Kept w V) ⟨z1.alloc _, z2.alloc _, z3.alloc _, hmg.alloc _, by (exact kpt)⟩ ?_
  clear hne b1 b2 r3 hm hk hcur z1 z2 z3 hmg hkg z1c0 z1f0 z1c1 z1f1 z1c2 z1f2 z1c3 z1f3 z1l z3c0 z3f0 z3c1 z3f1 z3c2 z3f2 z3c3 z3f3 z3c4 z3f4 z3c5 z3f5 z3c6 z3f6 z3c7 z3f7 z3c8 z3f8 z3c9 z3f9 z3l
  rintro V ⟨b1, b2, r3, hm, hk⟩
  obtain ⟨_, cuv, hge, _, hcv, c0, c1, c2, c3, c4, c5, c6⟩ := hm.at hi
  cases hge
  rw [← HXX.out] at c0 c1 c2 c3 c4 c5 c6
  have b1c0 := fun g : Later V => (b1.later g).cell 0
  have b1f0 := fun g : Later V => (b1.later g).free 0
  have b1c1 := fun g : Later V => (b1.later g).cell 1
  have b1f1 := fun g : Later V => (b1.later g).free 1
  have b1c2 := fun g : Later V => (b1.later g).cell 2
  have b1f2 := fun g : Later V => (b1.later g).free 2
  have b1c3 := fun g : Later V => (b1.later g).cell 3
  have b1f3 := fun g : Later V => (b1.later g).free 3
  have b1l := fun g : Later V => (b1.later g).lt
  simp at b1c0 b1c1 b1c2 b1c3
  have r3c0 := fun g : Later V => (r3.later g).cell 0
  have r3f0 := fun g : Later V => (r3.later g).free 0
  have r3c1 := fun g : Later V => (r3.later g).cell 1
  have r3f1 := fun g : Later V => (r3.later g).free 1
  have r3c2 := fun g : Later V => (r3.later g).cell 2
  have r3f2 := fun g : Later V => (r3.later g).free 2
  have r3c3 := fun g : Later V => (r3.later g).cell 3
  have r3f3 := fun g : Later V => (r3.later g).free 3
  have r3c4 := fun g : Later V => (r3.later g).cell 4
  have r3f4 := fun g : Later V => (r3.later g).free 4
  have r3c5 := fun g : Later V => (r3.later g).cell 5
  have r3f5 := fun g : Later V => (r3.later g).free 5
  have r3c6 := fun g : Later V => (r3.later g).cell 6
  have r3f6 := fun g : Later V => (r3.later g).free 6
  have r3c7 := fun g : Later V => (r3.later g).cell 7
  have r3f7 := fun g : Later V => (r3.later g).free 7
  have r3c8 := fun g : Later V => (r3.later g).cell 8
  have r3f8 := fun g : Later V => (r3.later g).free 8
  have r3c9 := fun g : Later V => (r3.later g).cell 9
  have r3f9 := fun g : Later V => (r3.later g).free 9
  have r3l := fun g : Later V => (r3.later g).lt
  simp at r3c0 r3c1 r3c2 r3c3 r3c4 r3c5 r3c6 r3c7 r3c8 r3c9
  have y1 := fun q : Later V => q.some c2
  clear c0 c1 c2 c3 c4 c5 c6
  refine Later.tail 12 (by kernel_rfl) (by kernel_rfl) ?_
  simp only [List.take_succ_cons, List.take_zero, List.drop_succ_cons, List.drop_zero]
  repeat (first | go_big_quiet_skip | (go_big_quiet_want; go_big_quiet_op; first | go_big_quiet_on | (apply Exists.intro; refine ⟨fun g_ => ?_, ?_⟩; (focus (first | fail)); go_big_quiet_on)))
  refine wpQuiet_nil ?_
  intro gh
  refine wpList_plain rfl fun K1 hK1 => ?_
  have y1 := y1 gh
  have hcg := hcv.later gh
  have zf := hcg.free (d.cell.toNat * 7 + 2)
  clear b1c0 b1f0 b1c1 b1f1 b1c2 b1f2 b1c3 b1f3 b1l r3c0 r3f0 r3c1 r3f1 r3c2 r3f2 r3c3 r3f3 r3c4 r3f4 r3c5 r3f5 r3c6 r3f6 r3c7 r3f7 r3c8 r3f8 r3c9 r3f9 r3l
  go_upto_region 33 with fail
  refine at_world (S := fun T => Blk T (w.heap.size + 1) #[.int .u8 d.kind, .int .i64 d.cell, .int .i64 d.to, .int .i64 d.n] 65 ∧ Blk T (w.heap.size + 1 + 1) #[.slice none 0 0, .int .i64 0, .int .i64 0, .int .i64 0, .int .i64 0, .int .i64 0, .int .i64 0, .int .i64 0, .int .i64 0, .int .i64 0] 63 ∧ Blk T s #[.slice (some ⟨g, 0, none⟩) p.cells.length cp, .int .i64 (p.bottles), .int .i64 (p.inH), .int .i64 (p.inA), .int .i64 (p.vH), .int .i64 (p.vA), .int .i64 (p.lH), .int .i64 (p.lA), .int .i64 (p.pH), .int .i64 (p.pA)] 63 ∧ Mine 25 w.heap.size T (.slice (some ⟨g, 0, none⟩) p.cells.length cp) Q.cells ∧ Kept w T) ⟨(b1.later gh).other (a := ⟨g, d.cell.toNat * 7 + 2, none⟩) (fun he => by simp only at he; subst he; have := (b1.later gh).symm.trans hcg; simp at this) _, (b2.later gh).other (a := ⟨g, d.cell.toNat * 7 + 2, none⟩) (fun he => by simp only at he; subst he; have := (b2.later gh).symm.trans hcg; simp at this) _, (r3.later gh).other (a := ⟨g, d.cell.toNat * 7 + 2, none⟩) (fun he => by simp only at he; subst he; have := (r3.later gh).symm.trans hcg; simp at this) _, by have hq := (hm.keep gh.ok).put (i := d.cell.toNat) (j := 2) (c := x) (u := .int .i64 (x.air + d.n)) { x with air := x.air + d.n } HX.out (by decide) rfl; rw [HQ.out]; simpa [breatheP, HAT.out] using hq, (Kept.drop hk gh.ok).setCell hBg _⟩ ?_
  clear b1 b2 r3 hm hk y1 zf hcg hcv gh
  rintro T ⟨b1, b2, r3, hm, hk⟩
  have hne := hm.ne r3 (by decide)
  have b1c0 := b1.cell 0
  have b1f0 := b1.free 0
  have b1c1 := b1.cell 1
  have b1f1 := b1.free 1
  have b1c2 := b1.cell 2
  have b1f2 := b1.free 2
  have b1c3 := b1.cell 3
  have b1f3 := b1.free 3
  have b1l := b1.lt
  simp at b1c0 b1c1 b1c2 b1c3
  have r3c0 := r3.cell 0
  have r3f0 := r3.free 0
  have r3c1 := r3.cell 1
  have r3f1 := r3.free 1
  have r3c2 := r3.cell 2
  have r3f2 := r3.free 2
  have r3c3 := r3.cell 3
  have r3f3 := r3.free 3
  have r3c4 := r3.cell 4
  have r3f4 := r3.free 4
  have r3c5 := r3.cell 5
  have r3f5 := r3.free 5
  have r3c6 := r3.cell 6
  have r3f6 := r3.free 6
  have r3c7 := r3.cell 7
  have r3f7 := r3.free 7
  have r3c8 := r3.cell 8
  have r3f8 := r3.free 8
  have r3c9 := r3.cell 9
  have r3f9 := r3.free 9
  have r3l := r3.lt
  simp at r3c0 r3c1 r3c2 r3c3 r3c4 r3c5 r3c6 r3c7 r3c8 r3c9
  go_upto_region 34 with fail
  clear b1c0 b1f0 b1c1 b1f1 b1c2 b1f2 b1c3 b1f3 b1l r3c0 r3f0 r3c1 r3f1 r3c2 r3f2 r3c3 r3f3 r3c4 r3f4 r3c5 r3f5 r3c6 r3f6 r3c7 r3f7 r3c8 r3f8 r3c9 r3f9 r3l
  refine at_world (S := fun Z => Blk Z (w.heap.size + 1 + 1) #[.slice none 0 0, .int .i64 0, .int .i64 0, .int .i64 0, .int .i64 0, .int .i64 0, .int .i64 0, .int .i64 0, .int .i64 0, .int .i64 0] 63 ∧ Blk Z s #[.slice (some ⟨g, 0, none⟩) p.cells.length cp, .int .i64 (Q.bottles), .int .i64 (Q.inH), .int .i64 (Q.inA), .int .i64 (Q.vH), .int .i64 (Q.vA), .int .i64 (Q.lH), .int .i64 (Q.lA), .int .i64 (Q.pH), .int .i64 (Q.pA)] 63 ∧ Mine 25 w.heap.size Z (.slice (some ⟨g, 0, none⟩) p.cells.length cp) Q.cells ∧ Kept w Z) ⟨by (exact blkc), (r3.set 3 _).cast (by rw [HQ.out]; simp [breatheP]), hm.off hne _, by (exact kpt)⟩ ?_
  clear b1 b2 r3 hm hk hne
  rintro Z ⟨b2, r3, hm, hk⟩
  cases hpq : plantB Q
  · have HPQ := Lib.hid hpq
    have r3c0 := r3.cell 0
    have r3f0 := r3.free 0
    have r3c1 := r3.cell 1
    have r3f1 := r3.free 1
    have r3c2 := r3.cell 2
    have r3f2 := r3.free 2
    have r3c3 := r3.cell 3
    have r3f3 := r3.free 3
    have r3c4 := r3.cell 4
    have r3f4 := r3.free 4
    have r3c5 := r3.cell 5
    have r3f5 := r3.free 5
    have r3c6 := r3.cell 6
    have r3f6 := r3.free 6
    have r3c7 := r3.cell 7
    have r3f7 := r3.free 7
    have r3c8 := r3.cell 8
    have r3f8 := r3.free 8
    have r3c9 := r3.cell 9
    have r3f9 := r3.free 9
    have r3l := r3.lt
    simp at r3c0 r3c1 r3c2 r3c3 r3c4 r3c5 r3c6 r3c7 r3c8 r3c9
    go_upto_region 35 with (go_at_call 115; (with_reducible refine (r_PlantK hm).mono ?_); rw [HPQ.out]; rintro e w4 ⟨rfl, hb4⟩)
    clear r3c0 r3f0 r3c1 r3f1 r3c2 r3f2 r3c3 r3f3 r3c4 r3f4 r3c5 r3f5 r3c6 r3f6 r3c7 r3f7 r3c8 r3f8 r3c9 r3f9 r3l
    refine at_world (S := fun U => Blk U (w.heap.size + 1 + 1) #[.slice none 0 0, .int .i64 0, .int .i64 0, .int .i64 0, .int .i64 0, .int .i64 0, .int .i64 0, .int .i64 0, .int .i64 0, .int .i64 0] 63 ∧ Blk U s #[.slice (some ⟨g, 0, none⟩) p.cells.length cp, .int .i64 (Q.bottles), .int .i64 (Q.inH), .int .i64 (Q.inA), .int .i64 (Q.vH), .int .i64 (Q.vA), .int .i64 (Q.lH), .int .i64 (Q.lA), .int .i64 (Q.pH), .int .i64 (Q.pA)] 63 ∧ Mine 25 w.heap.size U (.slice (some ⟨g, 0, none⟩) p.cells.length cp) Q.cells ∧ Kept w U) ⟨b2.keep hb4, r3.keep hb4, hm.keep hb4, Kept.drop hk hb4⟩ ?_
    clear b2 r3 hm hk hb4
    rintro U ⟨b2, r3, hm, hk⟩
    have b2c0 := b2.cell 0
    have b2f0 := b2.free 0
    have b2c1 := b2.cell 1
    have b2f1 := b2.free 1
    have b2c2 := b2.cell 2
    have b2f2 := b2.free 2
    have b2c3 := b2.cell 3
    have b2f3 := b2.free 3
    have b2c4 := b2.cell 4
    have b2f4 := b2.free 4
    have b2c5 := b2.cell 5
    have b2f5 := b2.free 5
    have b2c6 := b2.cell 6
    have b2f6 := b2.free 6
    have b2c7 := b2.cell 7
    have b2f7 := b2.free 7
    have b2c8 := b2.cell 8
    have b2f8 := b2.free 8
    have b2c9 := b2.cell 9
    have b2f9 := b2.free 9
    have b2l := b2.lt
    simp at b2c0 b2c1 b2c2 b2c3 b2c4 b2c5 b2c6 b2c7 b2c8 b2c9
    have r3c0 := r3.cell 0
    have r3f0 := r3.free 0
    have r3c1 := r3.cell 1
    have r3f1 := r3.free 1
    have r3c2 := r3.cell 2
    have r3f2 := r3.free 2
    have r3c3 := r3.cell 3
    have r3f3 := r3.free 3
    have r3c4 := r3.cell 4
    have r3f4 := r3.free 4
    have r3c5 := r3.cell 5
    have r3f5 := r3.free 5
    have r3c6 := r3.cell 6
    have r3f6 := r3.free 6
    have r3c7 := r3.cell 7
    have r3f7 := r3.free 7
    have r3c8 := r3.cell 8
    have r3f8 := r3.free 8
    have r3c9 := r3.cell 9
    have r3f9 := r3.free 9
    have r3l := r3.lt
    simp at r3c0 r3c1 r3c2 r3c3 r3c4 r3c5 r3c6 r3c7 r3c8 r3c9
    go_wp2
    refine bodyPost_ret (v := .tuple #[.agg #[.slice none 0 0, .int .i64 0, .int .i64 0, .int .i64 0, .int .i64 0, .int .i64 0, .int .i64 0, .int .i64 0, .int .i64 0, .int .i64 0], .int .i64 9]) (by simp [results, Try.results49, go_sem, b2c0, b2f0, b2c1, b2f1, b2c2, b2f2, b2c3, b2f3, b2c4, b2f4, b2c5, b2f5, b2c6, b2f6, b2c7, b2f7, b2c8, b2f8, b2c9, b2f9, r3c0, r3f0, r3c1, r3f1, r3c2, r3f2, r3c3, r3f3, r3c4, r3f4, r3c5, r3f5, r3c6, r3f6, r3c7, r3f7, r3c8, r3f8, r3c9, r3f9]) rfl ⟨.slice none 0 0, ?_, ?_, ?_⟩
    · simp [endQ, endE, HPQ.out, noPlant]
    · rw [show endQ Q = noPlant by simp [endQ, HPQ.out]]
      exact Mine.zero
    · (exact kpt)
  · have HPQ := Lib.hid hpq
    have r3c0 := r3.cell 0
    have r3f0 := r3.free 0
    have r3c1 := r3.cell 1
    have r3f1 := r3.free 1
    have r3c2 := r3.cell 2
    have r3f2 := r3.free 2
    have r3c3 := r3.cell 3
    have r3f3 := r3.free 3
    have r3c4 := r3.cell 4
    have r3f4 := r3.free 4
    have r3c5 := r3.cell 5
    have r3f5 := r3.free 5
    have r3c6 := r3.cell 6
    have r3f6 := r3.free 6
    have r3c7 := r3.cell 7
    have r3f7 := r3.free 7
    have r3c8 := r3.cell 8
    have r3f8 := r3.free 8
    have r3c9 := r3.cell 9
    have r3f9 := r3.free 9
    have r3l := r3.lt
    simp at r3c0 r3c1 r3c2 r3c3 r3c4 r3c5 r3c6 r3c7 r3c8 r3c9
    go_upto_region 36 with (go_at_call 115; (with_reducible refine (r_PlantK hm).mono ?_); rw [HPQ.out]; rintro e w4 ⟨rfl, hb4⟩)
    clear r3c0 r3f0 r3c1 r3f1 r3c2 r3f2 r3c3 r3f3 r3c4 r3f4 r3c5 r3f5 r3c6 r3f6 r3c7 r3f7 r3c8 r3f8 r3c9 r3f9 r3l
    refine at_world (S := fun U => Blk U (w.heap.size + 1 + 1) #[.slice none 0 0, .int .i64 0, .int .i64 0, .int .i64 0, .int .i64 0, .int .i64 0, .int .i64 0, .int .i64 0, .int .i64 0, .int .i64 0] 63 ∧ Blk U s #[.slice (some ⟨g, 0, none⟩) p.cells.length cp, .int .i64 (Q.bottles), .int .i64 (Q.inH), .int .i64 (Q.inA), .int .i64 (Q.vH), .int .i64 (Q.vA), .int .i64 (Q.lH), .int .i64 (Q.lA), .int .i64 (Q.pH), .int .i64 (Q.pA)] 63 ∧ Mine 25 w.heap.size U (.slice (some ⟨g, 0, none⟩) p.cells.length cp) Q.cells ∧ Kept w U) ⟨b2.keep hb4, r3.keep hb4, hm.keep hb4, Kept.drop hk hb4⟩ ?_
    clear b2 r3 hm hk hb4
    rintro U ⟨b2, r3, hm, hk⟩
    have b2c0 := b2.cell 0
    have b2f0 := b2.free 0
    have b2c1 := b2.cell 1
    have b2f1 := b2.free 1
    have b2c2 := b2.cell 2
    have b2f2 := b2.free 2
    have b2c3 := b2.cell 3
    have b2f3 := b2.free 3
    have b2c4 := b2.cell 4
    have b2f4 := b2.free 4
    have b2c5 := b2.cell 5
    have b2f5 := b2.free 5
    have b2c6 := b2.cell 6
    have b2f6 := b2.free 6
    have b2c7 := b2.cell 7
    have b2f7 := b2.free 7
    have b2c8 := b2.cell 8
    have b2f8 := b2.free 8
    have b2c9 := b2.cell 9
    have b2f9 := b2.free 9
    have b2l := b2.lt
    simp at b2c0 b2c1 b2c2 b2c3 b2c4 b2c5 b2c6 b2c7 b2c8 b2c9
    have r3c0 := r3.cell 0
    have r3f0 := r3.free 0
    have r3c1 := r3.cell 1
    have r3f1 := r3.free 1
    have r3c2 := r3.cell 2
    have r3f2 := r3.free 2
    have r3c3 := r3.cell 3
    have r3f3 := r3.free 3
    have r3c4 := r3.cell 4
    have r3f4 := r3.free 4
    have r3c5 := r3.cell 5
    have r3f5 := r3.free 5
    have r3c6 := r3.cell 6
    have r3f6 := r3.free 6
    have r3c7 := r3.cell 7
    have r3f7 := r3.free 7
    have r3c8 := r3.cell 8
    have r3f8 := r3.free 8
    have r3c9 := r3.cell 9
    have r3f9 := r3.free 9
    have r3l := r3.lt
    simp at r3c0 r3c1 r3c2 r3c3 r3c4 r3c5 r3c6 r3c7 r3c8 r3c9
    go_wp2
    refine bodyPost_ret (v := .tuple #[.agg #[.slice (some ⟨g, 0, none⟩) p.cells.length cp, .int .i64 (Q.bottles), .int .i64 (Q.inH), .int .i64 (Q.inA), .int .i64 (Q.vH), .int .i64 (Q.vA), .int .i64 (Q.lH), .int .i64 (Q.lA), .int .i64 (Q.pH), .int .i64 (Q.pA)], .int .i64 0]) (by simp [results, Try.results49, go_sem, b2c0, b2f0, b2c1, b2f1, b2c2, b2f2, b2c3, b2f3, b2c4, b2f4, b2c5, b2f5, b2c6, b2f6, b2c7, b2f7, b2c8, b2f8, b2c9, b2f9, r3c0, r3f0, r3c1, r3f1, r3c2, r3f2, r3c3, r3f3, r3c4, r3f4, r3c5, r3f5, r3c6, r3f6, r3c7, r3f7, r3c8, r3f8, r3c9, r3f9]) rfl ⟨.slice (some ⟨g, 0, none⟩) p.cells.length cp, ?_, ?_, ?_⟩
    · simp [endQ, endE, HPQ.out, noPlant]
    · rw [show endQ Q = Q by simp [endQ, HPQ.out]]
      have hne := hm.ne b2 (by decide)
      (repeat (with_reducible refine Mine.off ?_ (by with_reducible assumption) _))
      exact hm
    · (exact kpt)

end Go.Proofs.Ytemafanncejeiaa
