/-
  Ticks: each cell leaks.
-/
import Derived.Test.YtemafanncejeiaaGasDI
namespace Go.Proofs.Ytemafanncejeiaa
open Go.RowKit Bal Bal.Trim Bal.Gas
set_option linter.unusedVariables false
set_option linter.unusedSimpArgs false
set_option maxHeartbeats 8000000
set_option maxRecDepth 100000

theorem f_tick_no {B s cp : Nat} {ad : Option Addr} {p : Plant} {w : World} (d : Deed) (h : Shop 25 174 B w s ad cp p) (hp : plantB p = true) (he : rng [d.n] 1 1000 = false) : Calls Try.prog 112 #[.pointer (some ⟨s, 0, none⟩), .agg #[.int .u8 d.kind, .int .i64 d.cell, .int .i64 d.to, .int .i64 d.n]] w fun e w' => e = .panicked [{ v := refusal 2, recovered := false }] ∧ Kept w w' := by
  have H1 := Lib.hid he
  clear he
  go_enter Try.func112, Try.ntmps112
  go_wp2_with (first | (go_at_call 91; (with_reducible refine (f_ranged1 _ _ d.n _ _ _ (by simp)).mono ?_); rw [H1.out]; rintro e w1 ⟨rfl, rfl⟩) | (go_at_call 113; (with_reducible refine (f_need_no _ _).mono ?_); rintro e w1 ⟨rfl, rfl⟩))
  exact ⟨rfl, rfl, by (exact kpt)⟩
theorem f_outY {B cp g n0 : Nat} {xs : List Cell} {w : World} (h : Mine 25 B w (.slice (some ⟨g, 0, none⟩) n0 cp) xs) {i : Nat} {x : Cell} (hx : xs[i]? = some x) (hc : okC x) (n : Int) (h0 : 1 ≤ n) (h1 : n ≤ x.helium + x.air) :
    Calls Try.prog 136 #[.pointer (some ⟨g, i * 7, none⟩), .int .i64 n] w fun e w' => e = .returned (.agg #[.int .i64 (shareH x n), .int .i64 (n - shareH x n)]) ∧
      Mine 25 B w' (.slice (some ⟨g, 0, none⟩) n0 cp) (xs.set i (less x n)) ∧ Below B w w' ∧ Besides 25 w w' := by
  obtain rfl := h.row.1
  exact f_outX h hx hc n h0 h1
theorem less_zero (x : Cell) : less x 0 = x := by simp [less, shareH]
theorem leak_small {x : Cell} (h0 : 0 ≤ x.owed + (x.helium + x.air) * x.leak) (h : ¬ 0 < leakN x) : leakN x = 0 ∧ leakC x = { x with owed := x.owed + (x.helium + x.air) * x.leak } := by
  have hz : leakN x = 0 := by unfold leakN at *; omega
  refine ⟨hz, ?_⟩
  have hm : (x.owed + (x.helium + x.air) * x.leak) % 1000000 = x.owed + (x.helium + x.air) * x.leak := by unfold leakN at hz; omega
  unfold leakC
  rw [hz, less_zero, hm]
theorem f_tick_ok {B s cp : Nat} {ad : Option Addr} {p : Plant} {w : World} (d : Deed) (h : Shop 25 174 B w s ad cp p) (hp : plantB p = true) (he : rng [d.n] 1 1000 = true) : Calls Try.prog 112 #[.pointer (some ⟨s, 0, none⟩), .agg #[.int .u8 d.kind, .int .i64 d.cell, .int .i64 d.to, .int .i64 d.n]] w fun e w' => e = .returned (.tuple #[]) ∧ Shop 25 174 B w' s ad cp (tickP p d) ∧ Below B w w' := by
  have hn : 1 ≤ d.n ∧ d.n ≤ 1000 := by simpa [rng, inB] using he
  have H1 := Lib.hid he
  have HP := Lib.hid hp
  have hn12 : p.cells.length ≤ 12 := (plantB_iff.1 hp).1
  clear he hp
  obtain ⟨hB, hs, hm⟩ := h
  have hBw : B ≤ w.heap.size := by have := hs.lt; omega
  obtain ⟨N, hN⟩ : ∃ N : Nat, d.n = N := ⟨d.n.toNat, by omega⟩
  have HN := Lib.hid (show d.n.toNat = N by omega)
  have HNI := Lib.hid hN
  have hN1 : N ≤ 1000 := by omega
  clear hN
  have HLEN := Lib.hid (fun j => ticks_len p j)
  have HLEK := Lib.hid (fun j k => (tickTo_len (ticks p j) k).trans (ticks_len p j))
  have HBK := Lib.hid (fun j k (hk : k ≤ p.cells.length) => tickTo_B (ticks_B HP.out j) k (by rw [ticks_len]; exact hk))
  go_enter Try.func112, Try.ntmps112
  go_upto_region 3 with (first | (go_at_call 91; (with_reducible refine (f_ranged1 _ _ d.n _ _ _ (by simp)).mono ?_); rw [H1.out]; rintro e w1 ⟨rfl, rfl⟩) | (go_at_call 113; (with_reducible refine (f_need_ok _ _).mono ?_); rintro e w1 ⟨rfl, rfl⟩))
  rw [HNI.out]
  refine at_world (S := fun W => Blk W s #[.slice ad p.cells.length cp, .int .i64 (p.bottles), .int .i64 (p.inH), .int .i64 (p.inA), .int .i64 (p.vH), .int .i64 (p.vA), .int .i64 (p.lH), .int .i64 (p.lA), .int .i64 (p.pH), .int .i64 (p.pA)] 174 ∧ Mine 25 B W (.slice ad p.cells.length cp) p.cells ∧ Below B w W ∧ w.heap.size ≤ W.heap.size) ⟨hs.keep (by (exact kpt)), hm.keep (by (exact kpt)), by (repeat (first | with_reducible exact Below.refl _ _ | with_reducible refine Below.drew ?_ | ((with_reducible refine Below.alloc ?_ ?_ _); rotate_left 1; (focus (first | omega | (simp; omega)))))), by simp; omega⟩ ?_
  rintro W ⟨r0, hmW, hbW, hzW⟩
  go_loopw [14] (fun i wr => ∃ j : Nat, j ≤ N ∧ i = .int .i64 j ∧ Blk wr s #[.slice ad p.cells.length cp, .int .i64 ((ticks p j).bottles), .int .i64 ((ticks p j).inH), .int .i64 ((ticks p j).inA), .int .i64 ((ticks p j).vH), .int .i64 ((ticks p j).vA), .int .i64 ((ticks p j).lH), .int .i64 ((ticks p j).lA), .int .i64 ((ticks p j).pH), .int .i64 ((ticks p j).pA)] 174 ∧ Mine 25 B wr (.slice ad p.cells.length cp) (ticks p j).cells ∧ Below B w wr ∧ w.heap.size ≤ wr.heap.size) (fun i _ => N - (intOf i).toNat)
  case atStart => exact ⟨0, Nat.zero_le _, rfl, r0, hmW, hbW, hzW⟩
  case round =>
    clear r0 hmW hbW hzW
    obtain ⟨j, hj, rfl, r0, hmW, hbW, hzW⟩ := hrel
    by_cases hlt : j < N
    · have r0c0 := r0.cell 0
      have r0f0 := r0.free 0
      have r0c1 := r0.cell 1
      have r0f1 := r0.free 1
      have r0c2 := r0.cell 2
      have r0f2 := r0.free 2
      have r0c3 := r0.cell 3
      have r0f3 := r0.free 3
      have r0c4 := r0.cell 4
      have r0f4 := r0.free 4
      have r0c5 := r0.cell 5
      have r0f5 := r0.free 5
      have r0c6 := r0.cell 6
      have r0f6 := r0.free 6
      have r0c7 := r0.cell 7
      have r0f7 := r0.free 7
      have r0c8 := r0.cell 8
      have r0f8 := r0.free 8
      have r0c9 := r0.cell 9
      have r0f9 := r0.free 9
      have r0l := r0.lt
      simp at r0c0 r0c1 r0c2 r0c3 r0c4 r0c5 r0c6 r0c7 r0c8 r0c9
      go_wp2
      go_loopw [22] (fun i wq => ∃ k : Nat, k ≤ p.cells.length ∧ i = .int .i64 k ∧ Blk wq s #[.slice ad p.cells.length cp, .int .i64 ((tickTo (ticks p j) k).bottles), .int .i64 ((tickTo (ticks p j) k).inH), .int .i64 ((tickTo (ticks p j) k).inA), .int .i64 ((tickTo (ticks p j) k).vH), .int .i64 ((tickTo (ticks p j) k).vA), .int .i64 ((tickTo (ticks p j) k).lH), .int .i64 ((tickTo (ticks p j) k).lA), .int .i64 ((tickTo (ticks p j) k).pH), .int .i64 ((tickTo (ticks p j) k).pA)] 174 ∧ Mine 25 B wq (.slice ad p.cells.length cp) (tickTo (ticks p j) k).cells ∧ Below B w wq ∧ w.heap.size ≤ wq.heap.size) (fun i _ => p.cells.length - (intOf i).toNat)
      case atStart => exact ⟨0, Nat.zero_le _, rfl, r0, hmW, hbW, hzW⟩
      case round =>
        clear r0c0 r0f0 r0c1 r0f1 r0c2 r0f2 r0c3 r0f3 r0c4 r0f4 r0c5 r0f5 r0c6 r0f6 r0c7 r0f7 r0c8 r0f8 r0c9 r0f9 r0l r0 hmW hbW hzW
        obtain ⟨k, hk, rfl, r0, hmW, hbW, hzW⟩ := hrel
        have hqB := HBK.out j k hk
        have hql := HLEK.out j k
        have HNX := Lib.hid (show tickTo (ticks p j) (k + 1) = leakAt (tickTo (ticks p j) k) k from rfl)
        obtain ⟨q, hq⟩ : ∃ q, q = tickTo (ticks p j) k := ⟨_, rfl⟩
        rw [← hq] at r0 hmW hqB hql HNX
        by_cases hlk : k < p.cells.length
        · have hkq : k < q.cells.length := by omega
          clear hq
          have hb := plantB_iff.1 hqB
          have hcv : cellB q.cells[k] = true := hb.2.2.2.2.2.2.1 _ (List.getElem_mem hkq)
          have hat : cellAt q k = q.cells[k] := cellAt_get hkq
          obtain ⟨g, cur, rfl, hBg, hcur, c0, c1, c2, c3, c4, c5, c6⟩ := hmW.at hkq
          obtain ⟨x, hx⟩ : ∃ x, x = q.cells[k] := ⟨_, rfl⟩
          have HX := Lib.hid (show q.cells[k]? = some x by rw [hx]; simp [hkq])
          rw [← hx] at hcv hat c0 c1 c2 c3 c4 c5 c6
          have HAT := Lib.hid hat
          have hxb := cellB_iff.1 hcv
          have hlb := leak_bd hcv
          have HOK := Lib.hid (okC_of hcv)
          have hsmall := Lib.hid (fun h : ¬ 0 < leakN x => leak_small hlb.1.1 h)
          obtain ⟨_, _, _, _, ⟨⟨hb6, hb7⟩, ⟨hb8, hb9⟩⟩, _⟩ := hb
          clear hcv hat hx hqB
          have w1 := i64_inx (n := x.helium + x.air) (by omega)
          have w2 := i64_inx (n := (x.helium + x.air) * x.leak) (by omega)
          have w3 := i64_inx (n := x.owed + (x.helium + x.air) * x.leak) (by omega)
          obtain ⟨PR, hPR⟩ : ∃ y, y = (x.helium + x.air) * x.leak := ⟨_, rfl⟩
          obtain ⟨SUM, hSUM⟩ : ∃ y, y = x.owed + PR := ⟨_, rfl⟩
          have HSU := Lib.hid (show x.owed + (x.helium + x.air) * x.leak = SUM by rw [hSUM, hPR])
          have HPR := Lib.hid (show (x.helium + x.air) * x.leak = PR from hPR.symm)
          have HSM := Lib.hid (show x.owed + PR = SUM from hSUM.symm)
          rw [HSU.out] at hlb hsmall
          clear hSUM hPR
          have HL := Lib.hid (show SUM / 1000000 = leakN x by unfold leakN; rw [HSU.out])
          obtain ⟨L, hL⟩ : ∃ y, y = leakN x := ⟨_, rfl⟩
          rw [← hL] at hlb hsmall HL
          obtain ⟨hlb1, hlb2, hlb3, hlb4⟩ := hlb
          have HLL := Lib.hid hL
          clear hL
          have r0c0 := r0.cell 0
          have r0f0 := r0.free 0
          have r0c1 := r0.cell 1
          have r0f1 := r0.free 1
          have r0c2 := r0.cell 2
          have r0f2 := r0.free 2
          have r0c3 := r0.cell 3
          have r0f3 := r0.free 3
          have r0c4 := r0.cell 4
          have r0f4 := r0.free 4
          have r0c5 := r0.cell 5
          have r0f5 := r0.free 5
          have r0c6 := r0.cell 6
          have r0f6 := r0.free 6
          have r0c7 := r0.cell 7
          have r0f7 := r0.free 7
          have r0c8 := r0.cell 8
          have r0f8 := r0.free 8
          have r0c9 := r0.cell 9
          have r0f9 := r0.free 9
          have r0l := r0.lt
          simp at r0c0 r0c1 r0c2 r0c3 r0c4 r0c5 r0c6 r0c7 r0c8 r0c9
          go_upto_region 8 with fail
          clear r0c0 r0f0 r0c1 r0f1 r0c2 r0f2 r0c3 r0f3 r0c4 r0f4 r0c5 r0f5 r0c6 r0f6 r0c7 r0f7 r0c8 r0f8 r0c9 r0f9 r0l
          refine at_world (S := fun X => Blk X s #[.slice (some ⟨g, 0, none⟩) p.cells.length cp, .int .i64 (q.bottles), .int .i64 (q.inH), .int .i64 (q.inA), .int .i64 (q.vH), .int .i64 (q.vA), .int .i64 (q.lH), .int .i64 (q.lA), .int .i64 (q.pH), .int .i64 (q.pA)] 174 ∧ Mine 25 B X (.slice (some ⟨g, 0, none⟩) p.cells.length cp) q.cells ∧ Below B w X ∧ w.heap.size ≤ X.heap.size ∧ Blk X g cur 25 ∧ X.cell? ⟨g, k * 7, none⟩ = some (.int .i64 x.room) ∧ X.cell? ⟨g, k * 7 + 1, none⟩ = some (.int .i64 x.helium) ∧ X.cell? ⟨g, k * 7 + 2, none⟩ = some (.int .i64 x.air) ∧ X.cell? ⟨g, k * 7 + 3, none⟩ = some (.int .i64 x.wlo) ∧ X.cell? ⟨g, k * 7 + 4, none⟩ = some (.int .i64 x.whi) ∧ X.cell? ⟨g, k * 7 + 5, none⟩ = some (.int .i64 x.leak) ∧ X.cell? ⟨g, k * 7 + 6, none⟩ = some (.int .i64 x.owed)) ⟨r0, hmW, hbW, hzW, hcur, c0, c1, c2, c3, c4, c5, c6⟩ ?_
          clear r0 hmW hbW hzW hcur c0 c1 c2 c3 c4 c5 c6
          rintro X ⟨r1, hmX, hbX, hzX, hcur, c0, c1, c2, c3, c4, c5, c6⟩
          clear c0 c3 c4
          have y1 := fun q : Later X => q.some c1
          have y2 := fun q : Later X => q.some c2
          have y5 := fun q : Later X => q.some c5
          have y6 := fun q : Later X => q.some c6
          clear c1 c2 c5 c6
          refine Later.tail 21 (by kernel_rfl) (by kernel_rfl) ?_
          simp only [List.take_succ_cons, List.take_zero, List.drop_succ_cons, List.drop_zero]
          repeat (first | go_big_quiet_skip | (go_big_quiet_want; go_big_quiet_op; first | go_big_quiet_on | (apply Exists.intro; refine ⟨fun g_ => ?_, ?_⟩; (focus (first | fail)); go_big_quiet_on)))
          refine wpQuiet_nil ?_
          intro gg
          refine wpList_plain rfl fun K1 hK1 => ?_
          have z6 := y6 gg
          have hcg := hcur.later gg
          have zf := hcg.free (k * 7 + 6)
          clear w1 w2 w3
          go_upto_region 9 with fail
          rw [HSU.out]
          have HCO := Lib.hid (show (gg.val.setCell ⟨g, k * 7 + 6, none⟩ (.int .i64 SUM)).heap.size = gg.val.heap.size by simp [World.setCell])
          refine at_world (S := fun Y => Blk Y s #[.slice (some ⟨g, 0, none⟩) p.cells.length cp, .int .i64 (q.bottles), .int .i64 (q.inH), .int .i64 (q.inA), .int .i64 (q.vH), .int .i64 (q.vA), .int .i64 (q.lH), .int .i64 (q.lA), .int .i64 (q.pH), .int .i64 (q.pA)] 174 ∧ Mine 25 B Y (.slice (some ⟨g, 0, none⟩) p.cells.length cp) (q.cells.set k { x with owed := SUM }) ∧ Below B w Y ∧ w.heap.size ≤ Y.heap.size) ⟨(r1.later gg).other (a := ⟨g, k * 7 + 6, none⟩) (fun he => by simp only at he; subst he; have := (r1.later gg).symm.trans hcg; simp at this) _, (hmX.keep gg.ok).put (i := k) (j := 6) (c := x) (u := .int .i64 SUM) { x with owed := SUM } HX.out (by decide) rfl, (hbX.trans (gg.ok.mono (by omega))).setCell hBg _, by rw [HCO.out]; exact Nat.le_trans hzX gg.ok.size⟩ ?_
          rintro Y ⟨r1, hmY, hbY, hzY⟩
          clear z6 zf hcg
          have hkY : k < (q.cells.set k { x with owed := SUM }).length := by simpa using hkq
          have HXY := Lib.hid (show (q.cells.set k { x with owed := SUM })[k]? = some { x with owed := SUM } from List.getElem?_set_self hkq)
          obtain ⟨_, cuy, hge, _, hcy, _, _, _, _, _, _, c6⟩ := hmY.at hkY
          cases hge
          rw [List.getElem_set_self] at c6
          have hqq := HL.out
          by_cases hpos : 0 < L
          · have hlt1 : decide (0 < L) = true := by simp [hpos]
            obtain ⟨s0, s1, s2, s3⟩ := share_bd HOK.out (show 0 ≤ L by omega) hlb4
            obtain ⟨T, hT⟩ : ∃ T, T = shareH x L := ⟨_, rfl⟩
            have HTT := Lib.hid (show shareH x L = T from hT.symm)
            have HOUT := fun (W : World) (h : Mine 25 B W (.slice (some ⟨g, 0, none⟩) p.cells.length cp) (q.cells.set k { x with owed := SUM })) => f_outY h HXY.out (show okC { x with owed := SUM } from HOK.out) L (show 1 ≤ L by omega) hlb4
            rw [show shareH { x with owed := SUM } L = T from hT.symm] at HOUT
            rw [← hT] at s0 s1 s2 s3
            clear hT
            go_upto_region 11 with fail
            try rw [HL.out]
            clear hqq c6 hlt1
            refine at_world (S := fun X => Blk X s #[.slice (some ⟨g, 0, none⟩) p.cells.length cp, .int .i64 (q.bottles), .int .i64 (q.inH), .int .i64 (q.inA), .int .i64 (q.vH), .int .i64 (q.vA), .int .i64 (q.lH), .int .i64 (q.lA), .int .i64 (q.pH), .int .i64 (q.pA)] 174 ∧ Mine 25 B X (.slice (some ⟨g, 0, none⟩) p.cells.length cp) (q.cells.set k { x with owed := SUM }) ∧ Below B w X ∧ w.heap.size ≤ X.heap.size) ⟨r1, hmY, hbY, hzY⟩ ?_
            rintro X ⟨r1, hmX, hbX, hzX⟩
            refine held_walk (fun w' => Blk w' s #[.slice (some ⟨g, 0, none⟩) p.cells.length cp, .int .i64 (q.bottles), .int .i64 (q.inH), .int .i64 (q.inA), .int .i64 (q.vH), .int .i64 (q.vA), .int .i64 (q.lH), .int .i64 (q.lA), .int .i64 (q.pH), .int .i64 (q.pA)] 174) [(true, 0), (true, 1), (true, 2), (true, 3), (true, 4), (true, 5), (true, 6), (true, 7), (false, 8), (false, 9), (true, 10), (true, 11), (true, 12), (false, 13)] 13 (by kernel_rfl) (by kernel_rfl) (fun c a d v w h => by cases d <;> exact h) r1.drew ?_
            simp only [List.filterMap_cons, List.filterMap_nil, List.getElem?_cons_zero, List.getElem?_cons_succ, Option.map_some]
            iterate 8 ((first | (refine held_take ?_ ?_ (fun w' hS => ?_) ?_; rotate_left 1; (focus rfl); (focus (first | (go_simp; done) | (go_simp; with_reducible rfl) | (obtain hS := hS; have k0 := hS.cell 0; have k1 := hS.cell 1; have k2 := hS.cell 2; have k3 := hS.cell 3; have k4 := hS.cell 4; have k5 := hS.cell 5; have k6 := hS.cell 6; have k7 := hS.cell 7; have k8 := hS.cell 8; have k9 := hS.cell 9; simp at k0 k1 k2 k3 k4 k5 k6 k7 k8 k9; first | (go_simp; done) | (go_simp; with_reducible rfl))))) | (refine held_pass ?_ ?_; (focus rfl))); simp only [Act.put, List.setIfInBounds_toArray, List.set_cons_zero, List.set_cons_succ])
            refine held_one ?_
            refine wpList_plain rfl fun K1 hK1 => ?_
            go_wp2_with (go_at_call 136; (with_reducible refine (HOUT _ hmX.drew).mono ?_); rintro e w2 ⟨rfl, hm2, hw2, hbes2⟩)
            refine held_on (Besides.blk hbes2 (by decide) r1.drew) ?_
            refine held_one ?_
            refine wpList_plain rfl fun K1 hK1 => ?_
            go_wp2_with (go_at_call 123; (with_reducible refine (f_plus _ _ _ _ _ (by omega) (by omega) (by omega) (by omega)).mono ?_); rintro e w3 ⟨rfl, hb3⟩)
            refine held_on ((Besides.blk hbes2 (by decide) r1.drew).keep hb3) ?_
            iterate 3 ((first | (refine held_take ?_ ?_ (fun w' hS => ?_) ?_; rotate_left 1; (focus rfl); (focus (first | (go_simp; done) | (go_simp; with_reducible rfl) | (obtain hS := hS; have k0 := hS.cell 0; have k1 := hS.cell 1; have k2 := hS.cell 2; have k3 := hS.cell 3; have k4 := hS.cell 4; have k5 := hS.cell 5; have k6 := hS.cell 6; have k7 := hS.cell 7; have k8 := hS.cell 8; have k9 := hS.cell 9; simp at k0 k1 k2 k3 k4 k5 k6 k7 k8 k9; first | (go_simp; done) | (go_simp; with_reducible rfl))))) | (refine held_pass ?_ ?_; (focus rfl))); simp only [Act.put, List.setIfInBounds_toArray, List.set_cons_zero, List.set_cons_succ])
            refine held_one ?_
            refine wpList_plain rfl fun K1 hK1 => ?_
            have z1 : Blk w3 s #[.slice (some ⟨g, 0, none⟩) p.cells.length cp, .int .i64 (q.bottles), .int .i64 (q.inH), .int .i64 (q.inA), .int .i64 (q.vH), .int .i64 (q.vA), .int .i64 (q.lH), .int .i64 (q.lA), .int .i64 (q.pH), .int .i64 (q.pA)] 174 := (Besides.blk hbes2 (by decide) r1.drew).keep hb3
            have z1c0 := z1.cell 0
            have z1f0 := z1.free 0
            have z1c1 := z1.cell 1
            have z1f1 := z1.free 1
            have z1c2 := z1.cell 2
            have z1f2 := z1.free 2
            have z1c3 := z1.cell 3
            have z1f3 := z1.free 3
            have z1c4 := z1.cell 4
            have z1f4 := z1.free 4
            have z1c5 := z1.cell 5
            have z1f5 := z1.free 5
            have z1c6 := z1.cell 6
            have z1f6 := z1.free 6
            have z1c7 := z1.cell 7
            have z1f7 := z1.free 7
            have z1c8 := z1.cell 8
            have z1f8 := z1.free 8
            have z1c9 := z1.cell 9
            have z1f9 := z1.free 9
            have z1l := z1.lt
            simp at z1c0 z1c1 z1c2 z1c3 z1c4 z1c5 z1c6 z1c7 z1c8 z1c9
            go_wp2
            (first | refine held_end ?_ | (refine onward_on ?_; first | refine held_nil ?_ | refine ⟨.inl trivial, held_nil ?_⟩ | refine ⟨.inl rfl, held_nil ?_⟩))
            go_upto_region 12 with fail
            have e1 : X.heap.size ≤ w2.heap.size := hw2.size
            have e2 := hb3.size
            refine at_world (S := fun Z => Blk Z s #[.slice (some ⟨g, 0, none⟩) p.cells.length cp, .int .i64 (q.bottles), .int .i64 (q.inH), .int .i64 (q.inA), .int .i64 (q.vH), .int .i64 (q.vA), .int .i64 (q.lH + T), .int .i64 (q.lA + (L - T)), .int .i64 (q.pH), .int .i64 (q.pA)] 174 ∧ Mine 25 B Z (.slice (some ⟨g, 0, none⟩) p.cells.length cp) ((q.cells.set k { x with owed := SUM }).set k (less { x with owed := SUM } L)) ∧ Below B w Z ∧ w.heap.size ≤ Z.heap.size) ⟨(z1.set 6 _).set 7 _, ((hm2.keep hb3).other z1 (by decide) _).other (z1.set 6 _) (by decide) _, (((((hbX.drew).trans hw2).trans (hb3.mono (by omega))).setCell hB _).setCell hB _), by simp [World.setCell]; omega⟩ ?_
            rintro Z ⟨r1, hmZ, hbZ, hzZ⟩
            clear z1c0 z1f0 z1c1 z1f1 z1c2 z1f2 z1c3 z1f3 z1c4 z1f4 z1c5 z1f5 z1c6 z1f6 z1c7 z1f7 z1c8 z1f8 z1c9 z1f9 z1l
            have hkZ : k < ((q.cells.set k { x with owed := SUM }).set k (less { x with owed := SUM } L)).length := by simpa using hkq
            obtain ⟨_, cuz, hge, _, hcz, _, _, _, _, _, _, c6⟩ := hmZ.at hkZ
            cases hge
            rw [List.getElem_set_self] at c6
            have d6 : Z.cell? ⟨g, k * 7 + 6, none⟩ = some (.int .i64 SUM) := c6
            clear c6
            have zf := hcz.free (k * 7 + 6)
            go_wp2
            go_roundw
            case rel =>
              refine ⟨k + 1, by omega, by go_num, ?_, ?_, hbZ.setCell hBg _, by simpa [World.setCell] using hzZ⟩
              · rw [HNX.out]
                exact (r1.other (a := ⟨g, k * 7 + 6, none⟩) (fun he => by simp only at he; subst he; have := r1.symm.trans hcz; simp at this) _).cast (by simp [leakAt, HAT.out, ← HLL.out, HTT.out])
              · have q1 := hmZ.put (i := k) (j := 6) (c := less { x with owed := SUM } L) (u := .int .i64 (SUM % 1000000)) { less { x with owed := SUM } L with owed := SUM % 1000000 } (List.getElem?_set_self (by simpa using hkq)) (by decide) rfl
                rw [List.set_set, List.set_set] at q1
                rw [HNX.out]
                have e : leakC x = { less { x with owed := SUM } L with owed := SUM % 1000000 } := by
                  unfold leakC
                  rw [HSU.out, ← HLL.out]
                  rfl
                have ec : (leakAt q k).cells = q.cells.set k (leakC x) := by simp [leakAt, HAT.out]
                rw [ec, e]
                exact q1
            case measure => simp [intOf]; omega
          · have hlt1 : decide (0 < L) = false := by simp; omega
            obtain ⟨e1, e2⟩ := hsmall.out hpos
            have HL0 := Lib.hid e1
            have HE2 := Lib.hid e2
            clear e1 e2
            go_wp2
            go_roundw
            case rel => exact ⟨k + 1, by omega, by go_num, by rw [HNX.out]; exact r1.cast (by simp [leakAt, HAT.out, ← HLL.out, HL0.out, shareH]), by rw [HNX.out]; simpa [leakAt, HAT.out, HE2.out] using hmY, hbY, hzY⟩
            case measure => simp [intOf]; omega
        · obtain rfl : k = p.cells.length := by omega
          clear HNX
          go_wp2
          go_roundw
          case rel => exact ⟨j + 1, by omega, by go_num, by rw [hq] at r0; exact r0, by rw [hq] at hmW; exact hmW, hbW, hzW⟩
          case measure => simp [intOf]; omega
    · obtain rfl : j = N := by omega
      go_wp2
      go_end0
      exact ⟨rfl, ⟨hB, r0.cast (by simp [plantCells, tickP, HN.out, HLEN.out]), by simpa [tickP, HN.out, HLEN.out] using hmW⟩, hbW⟩

end Go.Proofs.Ytemafanncejeiaa
