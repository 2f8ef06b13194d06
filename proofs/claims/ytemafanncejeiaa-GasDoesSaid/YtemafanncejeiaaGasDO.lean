/-
  The reference: a tick.
-/
import Derived.Test.YtemafanncejeiaaGasDN
import Derived.Test.YtemafanncejeiaaGasDK
namespace Go.Proofs.Ytemafanncejeiaa
open Go.RowKit Bal Bal.Trim Bal.Gas
set_option linter.unusedVariables false
set_option linter.unusedSimpArgs false
set_option maxHeartbeats 8000000
set_option maxRecDepth 100000

theorem set_same {α : Type} {l : List α} {k : Nat} {x : α} (h : l[k]? = some x) : l.set k x = l := by
  obtain ⟨hk, rfl⟩ := List.getElem?_eq_some_iff.1 h
  exact List.set_getElem_self hk
theorem r_takenK {B g n0 cp k : Nat} {q : Plant} {w : World} (h : Mine 25 B w (.slice (some ⟨g, 0, none⟩) n0 cp) q.cells) {x : Cell} (hx : q.cells[k]? = some x) (hv : cellB x = true) (hl : q.cells.length ≤ 12) (n : Int) (h0 : 1 ≤ n) (h1 : n ≤ x.helium + x.air) :
    Calls Try.prog 118 #[.agg #[.slice (some ⟨g, 0, none⟩) n0 cp, .int .i64 (q.bottles), .int .i64 (q.inH), .int .i64 (q.inA), .int .i64 (q.vH), .int .i64 (q.vA), .int .i64 (q.lH), .int .i64 (q.lA), .int .i64 (q.pH), .int .i64 (q.pA)], .int .i64 k, .int .i64 n] w fun e w' => e = .returned (.agg #[.int .i64 (shareH x n), .int .i64 (n - shareH x n)]) ∧ Mine 25 B w' (.slice (some ⟨g, 0, none⟩) n0 cp) (q.cells.set k (less x n)) ∧ Below B w w' ∧ Besides 25 w w' := by
  have := r_taken h (k : Int) (by omega) (x := x) (by rw [Int.toNat_natCast]; exact hx) hv hl n h0 h1
  rwa [Int.toNat_natCast] at this

theorem r_ticked {B cp : Nat} {ad : Option Addr} {p : Plant} {w : World} (h : Mine 25 B w (.slice ad p.cells.length cp) p.cells) (hp : plantB p = true) (hB : B ≤ w.heap.size) :
    Calls Try.prog 120 #[.agg #[.slice ad p.cells.length cp, .int .i64 (p.bottles), .int .i64 (p.inH), .int .i64 (p.inA), .int .i64 (p.vH), .int .i64 (p.vA), .int .i64 (p.lH), .int .i64 (p.lA), .int .i64 (p.pH), .int .i64 (p.pA)]] w fun e w' => e = .returned (.agg #[.slice ad p.cells.length cp, .int .i64 ((tickTo p p.cells.length).bottles), .int .i64 ((tickTo p p.cells.length).inH), .int .i64 ((tickTo p p.cells.length).inA), .int .i64 ((tickTo p p.cells.length).vH), .int .i64 ((tickTo p p.cells.length).vA), .int .i64 ((tickTo p p.cells.length).lH), .int .i64 ((tickTo p p.cells.length).lA), .int .i64 ((tickTo p p.cells.length).pH), .int .i64 ((tickTo p p.cells.length).pA)]) ∧ Mine 25 B w' (.slice ad p.cells.length cp) (tickTo p p.cells.length).cells ∧ Below B w w' ∧ Besides 25 w w' := by
  have HP := Lib.hid hp
  have hn12 : p.cells.length ≤ 12 := (plantB_iff.1 hp).1
  have HLEN := Lib.hid (fun k => tickTo_len p k)
  have HBK := Lib.hid (fun k (hk : k ≤ p.cells.length) => tickTo_B HP.out k hk)
  have hcl : p.cells.length ≤ cp ∧ cp ≤ maxLen := ⟨h.row.2.2.1, h.row.2.2.2.1⟩
  unfold maxLen at hcl
  obtain ⟨Q, hQ⟩ : ∃ Q, Q = tickTo p p.cells.length := ⟨_, rfl⟩
  have HQ := Lib.hid hQ
  rw [← hQ]
  clear hp hQ
  go_enter Try.func120, Try.ntmps120
  go_upto_region 2 with fail
  refine at_world (S := fun W => Blk W w.heap.size #[.slice ad p.cells.length cp, .int .i64 (p.bottles), .int .i64 (p.inH), .int .i64 (p.inA), .int .i64 (p.vH), .int .i64 (p.vA), .int .i64 (p.lH), .int .i64 (p.lA), .int .i64 (p.pH), .int .i64 (p.pA)] 63 ∧ Blk W (w.heap.size + 1) #[.slice none 0 0, .int .i64 0, .int .i64 0, .int .i64 0, .int .i64 0, .int .i64 0, .int .i64 0, .int .i64 0, .int .i64 0, .int .i64 0] 63 ∧ Mine 25 B W (.slice ad p.cells.length cp) p.cells ∧ Below B w W ∧ Besides 25 w W ∧ w.heap.size + 1 < W.heap.size) ⟨by (exact blkc), by (exact blkc), h.keep (by (exact kpt)), ((Below.refl B w).alloc hB _).alloc (by simp; omega) _, Besides.keep (by (exact kpt)), by simp⟩ ?_
  rintro W ⟨r0, r9, hmW, hbW, hxW, hzW⟩
  go_loopw [3] (fun i wq => ∃ k : Nat, k ≤ p.cells.length ∧ i = .int .i64 k ∧ Blk wq w.heap.size #[.slice ad p.cells.length cp, .int .i64 ((tickTo p k).bottles), .int .i64 ((tickTo p k).inH), .int .i64 ((tickTo p k).inA), .int .i64 ((tickTo p k).vH), .int .i64 ((tickTo p k).vA), .int .i64 ((tickTo p k).lH), .int .i64 ((tickTo p k).lA), .int .i64 ((tickTo p k).pH), .int .i64 ((tickTo p k).pA)] 63 ∧ Blk wq (w.heap.size + 1) #[.slice none 0 0, .int .i64 0, .int .i64 0, .int .i64 0, .int .i64 0, .int .i64 0, .int .i64 0, .int .i64 0, .int .i64 0, .int .i64 0] 63 ∧ Mine 25 B wq (.slice ad p.cells.length cp) (tickTo p k).cells ∧ Below B w wq ∧ Besides 25 w wq ∧ w.heap.size + 1 < wq.heap.size) (fun i _ => p.cells.length - (intOf i).toNat)
  case atStart => exact ⟨0, Nat.zero_le _, rfl, r0, r9, hmW, hbW, hxW, hzW⟩
  case round =>
    clear r0 r9 hmW hbW hxW hzW
    obtain ⟨k, hk, rfl, r0, r9, hmW, hbW, hxW, hzW⟩ := hrel
    have hqB := HBK.out k hk
    have hql := HLEN.out k
    have HNX := Lib.hid (show tickTo p (k + 1) = leakAt (tickTo p k) k from rfl)
    obtain ⟨q, hq⟩ : ∃ q, q = tickTo p k := ⟨_, rfl⟩
    rw [← hq] at r0 hmW hqB hql HNX
    by_cases hlk : k < p.cells.length
    · have hkq : k < q.cells.length := by omega
      clear hq
      have hb := plantB_iff.1 hqB
      have hcv : cellB q.cells[k] = true := hb.2.2.2.2.2.2.1 _ (List.getElem_mem hkq)
      have hat : cellAt q k = q.cells[k] := cellAt_get hkq
      obtain ⟨g, cur, rfl, hBg, hcur, c0, c1, c2, c3, c4, c5, c6⟩ := hmW.at hkq
      obtain ⟨x, hx⟩ : ∃ x, x = q.cells[k] := ⟨_, rfl⟩
      have HX := Lib.hid (show q.cells[k]? = some x by rw [hx]; simp [hkq])
      rw [← hx] at hcv hat c0 c1 c2 c3 c4 c5 c6
      have HAT := Lib.hid hat
      have hxb := cellB_iff.1 hcv
      have hlb := leak_bd hcv
      have HCV := Lib.hid hcv
      obtain ⟨_, _, _, _, ⟨⟨hb6, hb7⟩, ⟨hb8, hb9⟩⟩, _⟩ := hb
      clear hcv hat hx hqB
      have HAC := fun (W : World) => r_amount x W HCV.out
      obtain ⟨AM, hAM⟩ : ∃ y, y = amount x := ⟨_, rfl⟩
      rw [← hAM] at HAC
      have hame : x.helium + x.air = AM := hAM.symm
      have hame2 : 0 ≤ AM ∧ AM ≤ 20000000 := by omega
      have w2 := i64_inx (n := AM * x.leak) (by rw [hame] at hlb; omega)
      have w3 := i64_inx (n := x.owed + AM * x.leak) (by rw [hame] at hlb; omega)
      obtain ⟨SUM, hSUM⟩ : ∃ y, y = x.owed + AM * x.leak := ⟨_, rfl⟩
      have HSU := Lib.hid (show x.owed + AM * x.leak = SUM from hSUM.symm)
      have HSX := Lib.hid (show x.owed + (x.helium + x.air) * x.leak = SUM by rw [hame]; exact hSUM.symm)
      have hlb1 : 0 ≤ SUM ∧ SUM ≤ 2000001000000 := by rw [HSX.out] at hlb; exact hlb.1
      have HL := Lib.hid (show SUM / 1000000 = leakN x by unfold leakN; rw [HSX.out])
      obtain ⟨L, hL⟩ : ∃ y, y = leakN x := ⟨_, rfl⟩
      rw [← hL] at hlb HL
      obtain ⟨_, _, hlb3, hlb4⟩ := hlb
      have HLL := Lib.hid hL
      clear hL hSUM hAM hame
      have k0 : (0 : Int) ≤ (k : Int) := by omega
      have k1 : (k : Int) < (p.cells.length : Int) := by omega
      have r0c0 := r0.cell 0
      have r0f0 := r0.free 0
      have r0c1 := r0.cell 1
      have r0f1 := r0.free 1
      have r0c2 := r0.cell 2
      have r0f2 := r0.free 2
      have r0c3 := r0.cell 3
      have r0f3 := r0.free 3
      have r0c4 := r0.cell 4
      have r0f4 := r0.free 4
      have r0c5 := r0.cell 5
      have r0f5 := r0.free 5
      have r0c6 := r0.cell 6
      have r0f6 := r0.free 6
      have r0c7 := r0.cell 7
      have r0f7 := r0.free 7
      have r0c8 := r0.cell 8
      have r0f8 := r0.free 8
      have r0c9 := r0.cell 9
      have r0f9 := r0.free 9
      have r0l := r0.lt
      simp at r0c0 r0c1 r0c2 r0c3 r0c4 r0c5 r0c6 r0c7 r0c8 r0c9
      go_upto_region 4 with fail
      clear r0c0 r0f0 r0c1 r0f1 r0c2 r0f2 r0c3 r0f3 r0c4 r0f4 r0c5 r0f5 r0c6 r0f6 r0c7 r0f7 r0c8 r0f8 r0c9 r0f9 r0l
      refine at_world (S := fun X => Blk X w.heap.size #[.slice (some ⟨g, 0, none⟩) p.cells.length cp, .int .i64 (q.bottles), .int .i64 (q.inH), .int .i64 (q.inA), .int .i64 (q.vH), .int .i64 (q.vA), .int .i64 (q.lH), .int .i64 (q.lA), .int .i64 (q.pH), .int .i64 (q.pA)] 63 ∧ Blk X (w.heap.size + 1) #[.slice none 0 0, .int .i64 0, .int .i64 0, .int .i64 0, .int .i64 0, .int .i64 0, .int .i64 0, .int .i64 0, .int .i64 0, .int .i64 0] 63 ∧ Mine 25 B X (.slice (some ⟨g, 0, none⟩) p.cells.length cp) q.cells ∧ Below B w X ∧ Besides 25 w X ∧ w.heap.size + 1 < X.heap.size ∧ Blk X g cur 25 ∧ X.cell? ⟨g, k * 7, none⟩ = some (.int .i64 x.room) ∧ X.cell? ⟨g, k * 7 + 1, none⟩ = some (.int .i64 x.helium) ∧ X.cell? ⟨g, k * 7 + 2, none⟩ = some (.int .i64 x.air) ∧ X.cell? ⟨g, k * 7 + 3, none⟩ = some (.int .i64 x.wlo) ∧ X.cell? ⟨g, k * 7 + 4, none⟩ = some (.int .i64 x.whi) ∧ X.cell? ⟨g, k * 7 + 5, none⟩ = some (.int .i64 x.leak) ∧ X.cell? ⟨g, k * 7 + 6, none⟩ = some (.int .i64 x.owed)) ⟨r0, r9, hmW, hbW, hxW, hzW, hcur, c0, c1, c2, c3, c4, c5, c6⟩ ?_
      clear r0 r9 hmW hbW hxW hzW hcur c0 c1 c2 c3 c4 c5 c6
      rintro X ⟨r0, r9, hmX, hbX, hxX, hzX, hcur, c0, c1, c2, c3, c4, c5, c6⟩
      have y0 := fun q : Later X => q.some c0
      have y1 := fun q : Later X => q.some c1
      have y2 := fun q : Later X => q.some c2
      have y3 := fun q : Later X => q.some c3
      have y4 := fun q : Later X => q.some c4
      have y5 := fun q : Later X => q.some c5
      have y6 := fun q : Later X => q.some c6
      clear c0 c1 c2 c3 c4 c5 c6
      have r0c0 := fun g : Later X => (r0.later g).cell 0
      have r0f0 := fun g : Later X => (r0.later g).free 0
      have r0c1 := fun g : Later X => (r0.later g).cell 1
      have r0f1 := fun g : Later X => (r0.later g).free 1
      have r0c2 := fun g : Later X => (r0.later g).cell 2
      have r0f2 := fun g : Later X => (r0.later g).free 2
      have r0c3 := fun g : Later X => (r0.later g).cell 3
      have r0f3 := fun g : Later X => (r0.later g).free 3
      have r0c4 := fun g : Later X => (r0.later g).cell 4
      have r0f4 := fun g : Later X => (r0.later g).free 4
      have r0c5 := fun g : Later X => (r0.later g).cell 5
      have r0f5 := fun g : Later X => (r0.later g).free 5
      have r0c6 := fun g : Later X => (r0.later g).cell 6
      have r0f6 := fun g : Later X => (r0.later g).free 6
      have r0c7 := fun g : Later X => (r0.later g).cell 7
      have r0f7 := fun g : Later X => (r0.later g).free 7
      have r0c8 := fun g : Later X => (r0.later g).cell 8
      have r0f8 := fun g : Later X => (r0.later g).free 8
      have r0c9 := fun g : Later X => (r0.later g).cell 9
      have r0f9 := fun g : Later X => (r0.later g).free 9
      have r0l := fun g : Later X => (r0.later g).lt
      simp at r0c0 r0c1 r0c2 r0c3 r0c4 r0c5 r0c6 r0c7 r0c8 r0c9
      refine Later.region (by kernel_rfl) (by kernel_rfl) ?_
      repeat (first | go_big_quiet_skip | (go_big_quiet_want; go_big_quiet_op; first | go_big_quiet_on | (apply Exists.intro; refine ⟨fun g => ?_, ?_⟩; (focus (first | (go_at_call 85; exact Later.call (HAC _)))); go_big_quiet_on)))
      refine wpQuiet_nil ?_
      intro gg
      rw [HSU.out]
      clear r0c0 r0f0 r0c1 r0f1 r0c2 r0f2 r0c3 r0f3 r0c4 r0f4 r0c5 r0f5 r0c6 r0f6 r0c7 r0f7 r0c8 r0f8 r0c9 r0f9 r0l y0 y1 y2 y3 y4 y5 y6 w2 w3 HAC
      obtain ⟨s0, s1, s2, s3⟩ := share_bd (okC_of HCV.out) hlb3 hlb4
      obtain ⟨T, hT⟩ : ∃ T, T = shareH x L := ⟨_, rfl⟩
      have HTT := Lib.hid (show shareH x L = T from hT.symm)
      rw [← hT] at s0 s1 s2 s3
      have sg := gg.ok.size
      by_cases hpos : 1000000 ≤ SUM
      · have hlt1 : decide (1000000 ≤ SUM) = true := by simp [hpos]
        have hL1 : 1 ≤ L := by have := HL.out; omega
        have HTA := fun (W : World) (h : Mine 25 B W (.slice (some ⟨g, 0, none⟩) p.cells.length cp) q.cells) => r_takenK h HX.out HCV.out (by omega) L hL1 hlb4
        rw [← hT] at HTA
        clear hT
        go_upto_region 6 with fail
        clear hlt1
        refine at_world (S := fun X => Blk X w.heap.size #[.slice (some ⟨g, 0, none⟩) p.cells.length cp, .int .i64 (q.bottles), .int .i64 (q.inH), .int .i64 (q.inA), .int .i64 (q.vH), .int .i64 (q.vA), .int .i64 (q.lH), .int .i64 (q.lA), .int .i64 (q.pH), .int .i64 (q.pA)] 63 ∧ Blk X (w.heap.size + 1) #[.slice none 0 0, .int .i64 0, .int .i64 0, .int .i64 0, .int .i64 0, .int .i64 0, .int .i64 0, .int .i64 0, .int .i64 0, .int .i64 0] 63 ∧ Mine 25 B X (.slice (some ⟨g, 0, none⟩) p.cells.length cp) q.cells ∧ Below B w X ∧ Besides 25 w X ∧ w.heap.size + 1 < X.heap.size) ⟨r0.later gg, r9.later gg, hmX.keep gg.ok, hbX.trans (gg.ok.mono (by omega)), hxX.trans (Besides.keep gg.ok), Nat.lt_of_lt_of_le hzX sg⟩ ?_
        clear r0 r9 hmX hbX hxX hzX sg gg
        rintro X ⟨r0, r9, hmX, hbX, hxX, hzX⟩
        refine held_walk (fun w' => Blk w' w.heap.size #[.slice (some ⟨g, 0, none⟩) p.cells.length cp, .int .i64 (q.bottles), .int .i64 (q.inH), .int .i64 (q.inA), .int .i64 (q.vH), .int .i64 (q.vA), .int .i64 (q.lH), .int .i64 (q.lA), .int .i64 (q.pH), .int .i64 (q.pA)] 63) [(true, 0), (true, 1), (true, 2), (true, 3), (true, 4), (true, 5), (false, 6), (false, 7), (true, 8), (false, 9)] 9 (by kernel_rfl) (by kernel_rfl) (fun c a d v w h => by cases d <;> exact h) r0.drew ?_
        simp only [List.filterMap_cons, List.filterMap_nil, List.getElem?_cons_zero, List.getElem?_cons_succ, Option.map_some]
        iterate 6 ((first | (refine held_take ?_ ?_ (fun w' hS => ?_) ?_; rotate_left 1; (focus rfl); (focus (first | (go_simp; done) | (go_simp; with_reducible rfl) | (obtain hS := hS; have k0 := hS.cell 0; have k1 := hS.cell 1; have k2 := hS.cell 2; have k3 := hS.cell 3; have k4 := hS.cell 4; have k5 := hS.cell 5; have k6 := hS.cell 6; have k7 := hS.cell 7; have k8 := hS.cell 8; have k9 := hS.cell 9; simp at k0 k1 k2 k3 k4 k5 k6 k7 k8 k9; first | (go_simp; done) | (go_simp; with_reducible rfl))))) | (refine held_pass ?_ ?_; (focus rfl))); simp only [Act.put, List.setIfInBounds_toArray, List.set_cons_zero, List.set_cons_succ])
        refine held_one ?_
        refine wpList_plain rfl fun K1 hK1 => ?_
        go_wp2_with (go_at_call 118; rw [HL.out]; (with_reducible refine (HTA _ hmX.drew).mono ?_); rintro e w2 ⟨rfl, hm2, hw2, hbes2⟩)
        refine held_on (Besides.blk hbes2 (by decide) r0.drew) ?_
        refine held_one ?_
        refine wpList_plain rfl fun K1 hK1 => ?_
        go_wp2_with (go_at_call 119; (with_reducible refine (r_plus _ _ _ _ _ (by omega) (by omega) (by omega) (by omega)).mono ?_); rintro e w3 ⟨rfl, hb3⟩)
        refine held_on ((Besides.blk hbes2 (by decide) r0.drew).keep hb3) ?_
        iterate 1 ((first | (refine held_take ?_ ?_ (fun w' hS => ?_) ?_; rotate_left 1; (focus rfl); (focus (first | (go_simp; done) | (go_simp; with_reducible rfl) | (obtain hS := hS; have k0 := hS.cell 0; have k1 := hS.cell 1; have k2 := hS.cell 2; have k3 := hS.cell 3; have k4 := hS.cell 4; have k5 := hS.cell 5; have k6 := hS.cell 6; have k7 := hS.cell 7; have k8 := hS.cell 8; have k9 := hS.cell 9; simp at k0 k1 k2 k3 k4 k5 k6 k7 k8 k9; first | (go_simp; done) | (go_simp; with_reducible rfl))))) | (refine held_pass ?_ ?_; (focus rfl))); simp only [Act.put, List.setIfInBounds_toArray, List.set_cons_zero, List.set_cons_succ])
        refine held_one ?_
        refine wpList_plain rfl fun K1 hK1 => ?_
        have z1 : Blk w3 w.heap.size #[.slice (some ⟨g, 0, none⟩) p.cells.length cp, .int .i64 (q.bottles), .int .i64 (q.inH), .int .i64 (q.inA), .int .i64 (q.vH), .int .i64 (q.vA), .int .i64 (q.lH), .int .i64 (q.lA), .int .i64 (q.pH), .int .i64 (q.pA)] 63 := (Besides.blk hbes2 (by decide) r0.drew).keep hb3
        have z9 : Blk w3 (w.heap.size + 1) #[.slice none 0 0, .int .i64 0, .int .i64 0, .int .i64 0, .int .i64 0, .int .i64 0, .int .i64 0, .int .i64 0, .int .i64 0, .int .i64 0] 63 := (Besides.blk hbes2 (by decide) r9.drew).keep hb3
        have z1c0 := z1.cell 0
        have z1f0 := z1.free 0
        have z1c1 := z1.cell 1
        have z1f1 := z1.free 1
        have z1c2 := z1.cell 2
        have z1f2 := z1.free 2
        have z1c3 := z1.cell 3
        have z1f3 := z1.free 3
        have z1c4 := z1.cell 4
        have z1f4 := z1.free 4
        have z1c5 := z1.cell 5
        have z1f5 := z1.free 5
        have z1c6 := z1.cell 6
        have z1f6 := z1.free 6
        have z1c7 := z1.cell 7
        have z1f7 := z1.free 7
        have z1c8 := z1.cell 8
        have z1f8 := z1.free 8
        have z1c9 := z1.cell 9
        have z1f9 := z1.free 9
        have z1l := z1.lt
        simp at z1c0 z1c1 z1c2 z1c3 z1c4 z1c5 z1c6 z1c7 z1c8 z1c9
        go_wp2
        (first | refine held_end ?_ | (refine onward_on ?_; first | refine held_nil ?_ | refine ⟨.inl trivial, held_nil ?_⟩ | refine ⟨.inl rfl, held_nil ?_⟩))
        go_upto_region 7 with fail
        have e1 : X.heap.size ≤ w2.heap.size := hw2.size
        have e2 := hb3.size
        refine at_world (S := fun Z => Blk Z w.heap.size #[.slice (some ⟨g, 0, none⟩) p.cells.length cp, .int .i64 (q.bottles), .int .i64 (q.inH), .int .i64 (q.inA), .int .i64 (q.vH), .int .i64 (q.vA), .int .i64 (q.lH + T), .int .i64 (q.lA + (L - T)), .int .i64 (q.pH), .int .i64 (q.pA)] 63 ∧ Blk Z (w.heap.size + 1) #[.slice none 0 0, .int .i64 0, .int .i64 0, .int .i64 0, .int .i64 0, .int .i64 0, .int .i64 0, .int .i64 0, .int .i64 0, .int .i64 0] 63 ∧ Mine 25 B Z (.slice (some ⟨g, 0, none⟩) p.cells.length cp) (q.cells.set k (less x L)) ∧ Below B w Z ∧ Besides 25 w Z ∧ w.heap.size + 1 < Z.heap.size) ⟨(z1.set 6 _).set 7 _, by (first | exact (z9.other (by simp) _).other (by simp) _ | (exact blkc)), ((hm2.keep hb3).other z1 (by decide) _).other (z1.set 6 _) (by decide) _, (((((hbX.drew).trans hw2).trans (hb3.mono (by omega))).setCell hB _).setCell hB _), ((((hxX.trans (Besides.keep (Below.refl _ _).drew)).trans hbes2).trans (Besides.keep hb3)).past (Nat.le_refl _) _).past (Nat.le_refl _) _, by simp [World.setCell]; omega⟩ ?_
        rintro Z ⟨z0, z9, hmZ, hbZ, hxZ, hzZ⟩
        clear z1c0 z1f0 z1c1 z1f1 z1c2 z1f2 z1c3 z1f3 z1c4 z1f4 z1c5 z1f5 z1c6 z1f6 z1c7 z1f7 z1c8 z1f8 z1c9 z1f9 z1l
        have hkZ : k < (q.cells.set k (less x L)).length := by simpa using hkq
        obtain ⟨_, cuz, hge, _, hcz, _, _, _, _, _, _, c6⟩ := hmZ.at hkZ
        cases hge
        rw [List.getElem_set_self] at c6
        have d6 : Z.cell? ⟨g, k * 7 + 6, none⟩ = some (.int .i64 x.owed) := c6
        clear c6
        have zf := hcz.free (k * 7 + 6)
        have z0c0 := z0.cell 0
        have z0f0 := z0.free 0
        have z0c1 := z0.cell 1
        have z0f1 := z0.free 1
        have z0c2 := z0.cell 2
        have z0f2 := z0.free 2
        have z0c3 := z0.cell 3
        have z0f3 := z0.free 3
        have z0c4 := z0.cell 4
        have z0f4 := z0.free 4
        have z0c5 := z0.cell 5
        have z0f5 := z0.free 5
        have z0c6 := z0.cell 6
        have z0f6 := z0.free 6
        have z0c7 := z0.cell 7
        have z0f7 := z0.free 7
        have z0c8 := z0.cell 8
        have z0f8 := z0.free 8
        have z0c9 := z0.cell 9
        have z0f9 := z0.free 9
        have z0l := z0.lt
        simp at z0c0 z0c1 z0c2 z0c3 z0c4 z0c5 z0c6 z0c7 z0c8 z0c9
        go_wp2
        go_roundw
        case rel =>
          refine ⟨k + 1, by omega, by go_num, ?_, ?_, ?_, hbZ.setCell hBg _, hxZ.trans (Besides.put hcz _), by simpa [World.setCell] using hzZ⟩
          · rw [HNX.out]
            exact (z0.other (a := ⟨g, k * 7 + 6, none⟩) (fun he => by simp only at he; subst he; have := z0.symm.trans hcz; simp at this) _).cast (by simp [leakAt, HAT.out, ← HLL.out, HTT.out])
          · exact z9.other (a := ⟨g, k * 7 + 6, none⟩) (fun he => by simp only at he; subst he; have := z9.symm.trans hcz; simp at this) _
          · have q1 := hmZ.put (i := k) (j := 6) (c := less x L) (u := .int .i64 (SUM % 1000000)) { less x L with owed := SUM % 1000000 } (List.getElem?_set_self hkq) (by decide) rfl
            rw [List.set_set] at q1
            rw [HNX.out]
            have e : leakC x = { less x L with owed := SUM % 1000000 } := by
              unfold leakC
              rw [HSX.out, ← HLL.out]
            have ec : (leakAt q k).cells = q.cells.set k (leakC x) := by simp [leakAt, HAT.out]
            rw [ec, e]
            exact q1
        case measure => simp [intOf]; omega
      · have hlt1 : decide (1000000 ≤ SUM) = false := by simp; omega
        have hL0 : L = 0 := by have := HL.out; omega
        have HL0 := Lib.hid hL0
        have HT0 := Lib.hid (show T = 0 by rw [hT, hL0]; simp [shareH])
        clear hT hL0
        go_upto_region 7 with fail
        clear hlt1
        refine at_world (S := fun Z => Blk Z w.heap.size #[.slice (some ⟨g, 0, none⟩) p.cells.length cp, .int .i64 (q.bottles), .int .i64 (q.inH), .int .i64 (q.inA), .int .i64 (q.vH), .int .i64 (q.vA), .int .i64 (q.lH + T), .int .i64 (q.lA + (L - T)), .int .i64 (q.pH), .int .i64 (q.pA)] 63 ∧ Blk Z (w.heap.size + 1) #[.slice none 0 0, .int .i64 0, .int .i64 0, .int .i64 0, .int .i64 0, .int .i64 0, .int .i64 0, .int .i64 0, .int .i64 0, .int .i64 0] 63 ∧ Mine 25 B Z (.slice (some ⟨g, 0, none⟩) p.cells.length cp) (q.cells.set k (less x L)) ∧ Below B w Z ∧ Besides 25 w Z ∧ w.heap.size + 1 < Z.heap.size) ⟨(r0.later gg).cast (by rw [HL0.out, HT0.out]; simp), r9.later gg, by rw [show less x L = x by rw [HL0.out]; exact less_zero x, set_same HX.out]; exact hmX.keep gg.ok, hbX.trans (gg.ok.mono (by omega)), hxX.trans (Besides.keep gg.ok), Nat.lt_of_lt_of_le hzX sg⟩ ?_
        rintro Z ⟨z0, z9, hmZ, hbZ, hxZ, hzZ⟩
        have hkZ : k < (q.cells.set k (less x L)).length := by simpa using hkq
        obtain ⟨_, cuz, hge, _, hcz, _, _, _, _, _, _, c6⟩ := hmZ.at hkZ
        cases hge
        rw [List.getElem_set_self] at c6
        have d6 : Z.cell? ⟨g, k * 7 + 6, none⟩ = some (.int .i64 x.owed) := c6
        clear c6
        have zf := hcz.free (k * 7 + 6)
        have z0c0 := z0.cell 0
        have z0f0 := z0.free 0
        have z0c1 := z0.cell 1
        have z0f1 := z0.free 1
        have z0c2 := z0.cell 2
        have z0f2 := z0.free 2
        have z0c3 := z0.cell 3
        have z0f3 := z0.free 3
        have z0c4 := z0.cell 4
        have z0f4 := z0.free 4
        have z0c5 := z0.cell 5
        have z0f5 := z0.free 5
        have z0c6 := z0.cell 6
        have z0f6 := z0.free 6
        have z0c7 := z0.cell 7
        have z0f7 := z0.free 7
        have z0c8 := z0.cell 8
        have z0f8 := z0.free 8
        have z0c9 := z0.cell 9
        have z0f9 := z0.free 9
        have z0l := z0.lt
        simp at z0c0 z0c1 z0c2 z0c3 z0c4 z0c5 z0c6 z0c7 z0c8 z0c9
        go_wp2
        go_roundw
        case rel =>
          refine ⟨k + 1, by omega, by go_num, ?_, ?_, ?_, hbZ.setCell hBg _, hxZ.trans (Besides.put hcz _), by simpa [World.setCell] using hzZ⟩
          · rw [HNX.out]
            exact (z0.other (a := ⟨g, k * 7 + 6, none⟩) (fun he => by simp only at he; subst he; have := z0.symm.trans hcz; simp at this) _).cast (by simp [leakAt, HAT.out, ← HLL.out, HTT.out])
          · exact z9.other (a := ⟨g, k * 7 + 6, none⟩) (fun he => by simp only at he; subst he; have := z9.symm.trans hcz; simp at this) _
          · have q1 := hmZ.put (i := k) (j := 6) (c := less x L) (u := .int .i64 (SUM % 1000000)) { less x L with owed := SUM % 1000000 } (List.getElem?_set_self hkq) (by decide) rfl
            rw [List.set_set] at q1
            rw [HNX.out]
            have e : leakC x = { less x L with owed := SUM % 1000000 } := by
              unfold leakC
              rw [HSX.out, ← HLL.out]
            have ec : (leakAt q k).cells = q.cells.set k (leakC x) := by simp [leakAt, HAT.out]
            rw [ec, e]
            exact q1
        case measure => simp [intOf]; omega
    · obtain rfl : k = p.cells.length := by omega
      clear HNX
      obtain rfl : Q = q := HQ.out.trans hq.symm
      clear hq
      have r0c0 := r0.cell 0
      have r0f0 := r0.free 0
      have r0c1 := r0.cell 1
      have r0f1 := r0.free 1
      have r0c2 := r0.cell 2
      have r0f2 := r0.free 2
      have r0c3 := r0.cell 3
      have r0f3 := r0.free 3
      have r0c4 := r0.cell 4
      have r0f4 := r0.free 4
      have r0c5 := r0.cell 5
      have r0f5 := r0.free 5
      have r0c6 := r0.cell 6
      have r0f6 := r0.free 6
      have r0c7 := r0.cell 7
      have r0f7 := r0.free 7
      have r0c8 := r0.cell 8
      have r0f8 := r0.free 8
      have r0c9 := r0.cell 9
      have r0f9 := r0.free 9
      have r0l := r0.lt
      simp at r0c0 r0c1 r0c2 r0c3 r0c4 r0c5 r0c6 r0c7 r0c8 r0c9
      have r9c0 := r9.cell 0
      have r9f0 := r9.free 0
      have r9c1 := r9.cell 1
      have r9f1 := r9.free 1
      have r9c2 := r9.cell 2
      have r9f2 := r9.free 2
      have r9c3 := r9.cell 3
      have r9f3 := r9.free 3
      have r9c4 := r9.cell 4
      have r9f4 := r9.free 4
      have r9c5 := r9.cell 5
      have r9f5 := r9.free 5
      have r9c6 := r9.cell 6
      have r9f6 := r9.free 6
      have r9c7 := r9.cell 7
      have r9f7 := r9.free 7
      have r9c8 := r9.cell 8
      have r9f8 := r9.free 8
      have r9c9 := r9.cell 9
      have r9f9 := r9.free 9
      have r9l := r9.lt
      simp at r9c0 r9c1 r9c2 r9c3 r9c4 r9c5 r9c6 r9c7 r9c8 r9c9
      go_wp2
      refine bodyPost_ret (v := .agg #[.slice ad p.cells.length cp, .int .i64 (Q.bottles), .int .i64 (Q.inH), .int .i64 (Q.inA), .int .i64 (Q.vH), .int .i64 (Q.vA), .int .i64 (Q.lH), .int .i64 (Q.lA), .int .i64 (Q.pH), .int .i64 (Q.pA)]) (by simp [results, Try.results120, go_sem, r9c0, r9f0, r9c1, r9f1, r9c2, r9f2, r9c3, r9f3, r9c4, r9f4, r9c5, r9f5, r9c6, r9f6, r9c7, r9f7, r9c8, r9f8, r9c9, r9f9, r0c0, r0f0, r0c1, r0f1, r0c2, r0f2, r0c3, r0f3, r0c4, r0f4, r0c5, r0f5, r0c6, r0f6, r0c7, r0f7, r0c8, r0f8, r0c9, r0f9]) rfl ⟨rfl, ?_, ?_, ?_⟩
      · have hn9 := hmW.ne r9 (by decide)
        (repeat (with_reducible refine Mine.off ?_ (by with_reducible assumption) _))
        exact hmW
      · (repeat (with_reducible refine Below.setCell ?_ (by simp; omega) _))
        exact hbW
      · (repeat (with_reducible refine Besides.past ?_ (by simp) _))
        exact hxW

end Go.Proofs.Ytemafanncejeiaa
