/-
  The program: Do, kind by kind.
-/
import Derived.Test.YtemafanncejeiaaGasDY
import Derived.Test.YtemafanncejeiaaGasDR
namespace Go.Proofs.Ytemafanncejeiaa
open Go.RowKit Bal Bal.Trim Bal.Gas
set_option linter.unusedVariables false
set_option linter.unusedSimpArgs false
set_option maxHeartbeats 8000000
set_option maxRecDepth 100000

theorem blk_below {W W' : World} {b B : Nat} {arr : Array Value} {t : TypeId} (h : Blk W b arr t) (hb : Below B W W') (hB : b < B) : Blk W' b arr t := (hb.block b hB).trans h
theorem f_CheckK {B n cp : Nat} {ad : Option Addr} {q : Plant} {w : World} (h : Mine 25 B w (.slice ad n cp) q.cells) : Calls Try.prog 50 #[.agg #[.slice ad n cp, .int .i64 q.bottles, .int .i64 q.inH, .int .i64 q.inA, .int .i64 q.vH, .int .i64 q.vA, .int .i64 q.lH, .int .i64 q.lA, .int .i64 q.pH, .int .i64 q.pA]] w fun e w' => e = .returned (.int .i64 (plantE q)) ∧ Kept w w' := by
  obtain ⟨h1, h2, h3, h4, h5⟩ := h.row
  subst h1
  exact f_Check q ad cp w h2 h3 h4

theorem f_DoX_no (p : Plant) (d : Deed) (a : Option Addr) (cap : Nat) (w : World) (hx : Row Cell.cells 7 w.heap.size w a p.cells) (hc : p.cells.length ≤ cap) (hM : cap ≤ maxLen) (hz : a = none → cap = 0) (fn : FuncId) (hcf : ∀ (args : Array Value) (w : World), (callFunc fn args).run Try.prog w = .ok (.enter fn args) w) (hp : plantB p = true) (hk17 : 1 ≤ d.kind ∧ d.kind ≤ 7) (hfn : (#[.nilFunc, .func (.func 106) #[] #[], .func (.func 107) #[] #[], .func (.func 108) #[] #[], .func (.func 109) #[] #[], .func (.func 110) #[] #[], .func (.func 111) #[] #[], .func (.func 112) #[] #[]] : Array Value)[d.kind.toNat]? = some (.func (.func fn) #[] #[])) (he : errA p d ≠ 0) (hact : ∀ (B s cp : Nat) (ad : Option Addr) (w : World), Shop 25 174 B w s ad cp p → Calls Try.prog fn #[.pointer (some ⟨s, 0, none⟩), .agg #[.int .u8 d.kind, .int .i64 d.cell, .int .i64 d.to, .int .i64 d.n]] w fun e w' => e = .panicked [{ v := refusal (errA p d), recovered := false }] ∧ Kept w w') : Calls Try.prog 48 #[.agg #[.slice a p.cells.length cap, .int .i64 p.bottles, .int .i64 p.inH, .int .i64 p.inA, .int .i64 p.vH, .int .i64 p.vA, .int .i64 p.lH, .int .i64 p.lA, .int .i64 p.pH, .int .i64 p.pA], .agg #[.int .u8 d.kind, .int .i64 d.cell, .int .i64 d.to, .int .i64 d.n]] w fun e w' => e = .returned (.tuple #[.agg #[.slice none 0 0, .int .i64 0, .int .i64 0, .int .i64 0, .int .i64 0, .int .i64 0, .int .i64 0, .int .i64 0, .int .i64 0, .int .i64 0], .int .i64 (errA p d)]) ∧ Kept w w' := by
  have HP := Lib.hid (show plantE p = 0 by simp [plantE, hp])
  have H1 := Lib.hid (show rng [d.kind] 1 7 = true by simp [rng, inB]; omega)
  have hw := i64_inx (n := d.kind) (by omega)
  have hn12 : p.cells.length ≤ 12 := (plantB_iff.1 hp).1
  have HFN := Lib.hid hfn
  have HACT := Lib.hid hact
  have HPP := Lib.hid hp
  have HE := Lib.hid he
  clear hfn hp he hact
  have hmf : ∀ (fn : Fn) (first cap : Array Value) (w : World), (Instr.makeFunc fn first cap).run Try.prog w = .ok (.func fn first cap) w := fun _ _ _ _ => rfl
  go_enter_defers Try.func48, Try.ntmps48
  go_upto_region 4 with (go_at_call 50; (with_reducible refine (f_Check p a cap _ (hx.later (by (exact kpt)) (Nat.le_refl _)) hc hM).mono ?_); rw [HP.out]; rintro e w1 ⟨rfl, hb1⟩; refine Blk.thru (b := w.heap.size) (arr := ?_) (t := ?_) ?_ hb1 ?_; rotate_left 2; (focus (exact blk)); intro rr; have rrc0 := rr.cell 0; have rrf0 := rr.free 0; have rrc1 := rr.cell 1; have rrf1 := rr.free 1; have rrc2 := rr.cell 2; have rrf2 := rr.free 2; have rrc3 := rr.cell 3; have rrf3 := rr.free 3; have rrc4 := rr.cell 4; have rrf4 := rr.free 4; have rrc5 := rr.cell 5; have rrf5 := rr.free 5; have rrc6 := rr.cell 6; have rrf6 := rr.free 6; have rrc7 := rr.cell 7; have rrf7 := rr.free 7; have rrc8 := rr.cell 8; have rrf8 := rr.free 8; have rrc9 := rr.cell 9; have rrf9 := rr.free 9; have rrl := rr.lt; simp at rrc0 rrc1 rrc2 rrc3 rrc4 rrc5 rrc6 rrc7 rrc8 rrc9; refine Blk.thru (b := (w.heap.size + 1)) (arr := ?_) (t := ?_) ?_ hb1 ?_; rotate_left 2; (focus (exact blk)); intro rq; have rqc0 := rq.cell 0; have rqf0 := rq.free 0; have rqc1 := rq.cell 1; have rqf1 := rq.free 1; have rqc2 := rq.cell 2; have rqf2 := rq.free 2; have rqc3 := rq.cell 3; have rqf3 := rq.free 3; have rql := rq.lt; simp at rqc0 rqc1 rqc2 rqc3)
  refine at_world (S := fun W => Blk W w.heap.size #[.slice a p.cells.length cap, .int .i64 p.bottles, .int .i64 p.inH, .int .i64 p.inA, .int .i64 p.vH, .int .i64 p.vA, .int .i64 p.lH, .int .i64 p.lA, .int .i64 p.pH, .int .i64 p.pA] 63 ∧ Blk W (w.heap.size + 1) #[.int .u8 d.kind, .int .i64 d.cell, .int .i64 d.to, .int .i64 d.n] 65 ∧ Blk W (w.heap.size + 1 + 1) #[.slice none 0 0, .int .i64 0, .int .i64 0, .int .i64 0, .int .i64 0, .int .i64 0, .int .i64 0, .int .i64 0, .int .i64 0, .int .i64 0] 63 ∧ Blk W (w.heap.size + 1 + 1 + 1) #[.int .i64 0] 28 ∧ Kept w W) ⟨by (exact blkc), by (exact blkc), by (exact blkc), by (exact blkc), by (exact kpt)⟩ ?_
  rintro W ⟨b0, b1, b2, b3, hk⟩
  have b0c0 := b0.cell 0
  have b0f0 := b0.free 0
  have b0c1 := b0.cell 1
  have b0f1 := b0.free 1
  have b0c2 := b0.cell 2
  have b0f2 := b0.free 2
  have b0c3 := b0.cell 3
  have b0f3 := b0.free 3
  have b0c4 := b0.cell 4
  have b0f4 := b0.free 4
  have b0c5 := b0.cell 5
  have b0f5 := b0.free 5
  have b0c6 := b0.cell 6
  have b0f6 := b0.free 6
  have b0c7 := b0.cell 7
  have b0f7 := b0.free 7
  have b0c8 := b0.cell 8
  have b0f8 := b0.free 8
  have b0c9 := b0.cell 9
  have b0f9 := b0.free 9
  have b0l := b0.lt
  simp at b0c0 b0c1 b0c2 b0c3 b0c4 b0c5 b0c6 b0c7 b0c8 b0c9
  have b1c0 := b1.cell 0
  have b1f0 := b1.free 0
  have b1c1 := b1.cell 1
  have b1f1 := b1.free 1
  have b1c2 := b1.cell 2
  have b1f2 := b1.free 2
  have b1c3 := b1.cell 3
  have b1f3 := b1.free 3
  have b1l := b1.lt
  simp at b1c0 b1c1 b1c2 b1c3
  have b2c0 := b2.cell 0
  have b2f0 := b2.free 0
  have b2c1 := b2.cell 1
  have b2f1 := b2.free 1
  have b2c2 := b2.cell 2
  have b2f2 := b2.free 2
  have b2c3 := b2.cell 3
  have b2f3 := b2.free 3
  have b2c4 := b2.cell 4
  have b2f4 := b2.free 4
  have b2c5 := b2.cell 5
  have b2f5 := b2.free 5
  have b2c6 := b2.cell 6
  have b2f6 := b2.free 6
  have b2c7 := b2.cell 7
  have b2f7 := b2.free 7
  have b2c8 := b2.cell 8
  have b2f8 := b2.free 8
  have b2c9 := b2.cell 9
  have b2f9 := b2.free 9
  have b2l := b2.lt
  simp at b2c0 b2c1 b2c2 b2c3 b2c4 b2c5 b2c6 b2c7 b2c8 b2c9
  have b3c0 := b3.cell 0
  have b3f0 := b3.free 0
  have b3l := b3.lt
  simp at b3c0
  go_upto_region 7 with (first | (go_at_call 91; (with_reducible refine (f_ranged1 _ _ d.kind _ _ _ (by simp)).mono ?_); rw [H1.out]; rintro e w1 ⟨rfl, rfl⟩) | (go_at_call 113; (with_reducible refine (f_need_ok _ _).mono ?_); rintro e w1 ⟨rfl, rfl⟩))
  clear b0c0 b0f0 b0c1 b0f1 b0c2 b0f2 b0c3 b0f3 b0c4 b0f4 b0c5 b0f5 b0c6 b0f6 b0c7 b0f7 b0c8 b0f8 b0c9 b0f9 b0l b1c0 b1f0 b1c1 b1f1 b1c2 b1f2 b1c3 b1f3 b1l b2c0 b2f0 b2c1 b2f1 b2c2 b2f2 b2c3 b2f3 b2c4 b2f4 b2c5 b2f5 b2c6 b2f6 b2c7 b2f7 b2c8 b2f8 b2c9 b2f9 b2l b3c0 b3f0 b3l
  refine at_world (S := fun X => Blk X w.heap.size #[.slice a p.cells.length cap, .int .i64 p.bottles, .int .i64 p.inH, .int .i64 p.inA, .int .i64 p.vH, .int .i64 p.vA, .int .i64 p.lH, .int .i64 p.lA, .int .i64 p.pH, .int .i64 p.pA] 63 ∧ Blk X (w.heap.size + 1) #[.int .u8 d.kind, .int .i64 d.cell, .int .i64 d.to, .int .i64 d.n] 65 ∧ Blk X (w.heap.size + 1 + 1) #[.slice none 0 0, .int .i64 0, .int .i64 0, .int .i64 0, .int .i64 0, .int .i64 0, .int .i64 0, .int .i64 0, .int .i64 0, .int .i64 0] 63 ∧ Blk X (w.heap.size + 1 + 1 + 1) #[.int .i64 0] 28 ∧ Blk X W.heap.size #[.nilFunc, .func (.func 106) #[] #[], .func (.func 107) #[] #[], .func (.func 108) #[] #[], .func (.func 109) #[] #[], .func (.func 110) #[] #[], .func (.func 111) #[] #[], .func (.func 112) #[] #[]] 171 ∧ Kept w X) ⟨by (exact blkc), by (exact blkc), by (exact blkc), by (exact blkc), by (exact blkc), by (exact kpt)⟩ ?_
  clear b0 b1 b2 b3 hk
  rintro X ⟨b0, b1, b2, b3, ba, hk⟩
  generalize W.heap.size = m at ba ⊢
  have b0c0 := b0.cell 0
  have b0f0 := b0.free 0
  have b0c1 := b0.cell 1
  have b0f1 := b0.free 1
  have b0c2 := b0.cell 2
  have b0f2 := b0.free 2
  have b0c3 := b0.cell 3
  have b0f3 := b0.free 3
  have b0c4 := b0.cell 4
  have b0f4 := b0.free 4
  have b0c5 := b0.cell 5
  have b0f5 := b0.free 5
  have b0c6 := b0.cell 6
  have b0f6 := b0.free 6
  have b0c7 := b0.cell 7
  have b0f7 := b0.free 7
  have b0c8 := b0.cell 8
  have b0f8 := b0.free 8
  have b0c9 := b0.cell 9
  have b0f9 := b0.free 9
  have b0l := b0.lt
  simp at b0c0 b0c1 b0c2 b0c3 b0c4 b0c5 b0c6 b0c7 b0c8 b0c9
  go_upto_region 9 with (go_at_call 114; (with_reducible refine (s_CloneC a cap p.cells _ (hx.later (by (exact kpt)) (Nat.le_refl _)) (by omega) hz).mono ?_); rintro e w2 ⟨v, rfl, hown, hb2⟩; obtain ⟨ad, cp, rfl, _⟩ := (Mine.of_owns hown).slice; refine Blk.thru (b := X.heap.size) (arr := ?_) (t := ?_) ?_ hb2 ?_; rotate_left 2; (focus (exact blk)); intro rs; have rsc0 := rs.cell 0; have rsf0 := rs.free 0; have rsc1 := rs.cell 1; have rsf1 := rs.free 1; have rsc2 := rs.cell 2; have rsf2 := rs.free 2; have rsc3 := rs.cell 3; have rsf3 := rs.free 3; have rsc4 := rs.cell 4; have rsf4 := rs.free 4; have rsc5 := rs.cell 5; have rsf5 := rs.free 5; have rsc6 := rs.cell 6; have rsf6 := rs.free 6; have rsc7 := rs.cell 7; have rsf7 := rs.free 7; have rsc8 := rs.cell 8; have rsf8 := rs.free 8; have rsc9 := rs.cell 9; have rsf9 := rs.free 9; have rsl := rs.lt; simp at rsc0 rsc1 rsc2 rsc3 rsc4 rsc5 rsc6 rsc7 rsc8 rsc9)
  have hsX := hk.size
  have l1 := b1.lt
  have l2 := b2.lt
  have l3 := b3.lt
  have la := ba.lt
  have x2 := rs.lt
  have hm2 := Mine.of_owns hown
  have xb1 := ((b1.alloc _).keep hb2)
  have xb2 := ((b2.alloc _).keep hb2)
  have xb3 := ((b3.alloc _).keep hb2)
  have xba := ((ba.alloc _).keep hb2)
  have hk2 := Kept.drop (Kept.alloc hk _) hb2
  refine at_world (S := fun Y => Blk Y (w.heap.size + 1) #[.int .u8 d.kind, .int .i64 d.cell, .int .i64 d.to, .int .i64 d.n] 65 ∧ Blk Y (w.heap.size + 1 + 1) #[.slice none 0 0, .int .i64 0, .int .i64 0, .int .i64 0, .int .i64 0, .int .i64 0, .int .i64 0, .int .i64 0, .int .i64 0, .int .i64 0] 63 ∧ Blk Y (w.heap.size + 1 + 1 + 1) #[.int .i64 0] 28 ∧ Blk Y m #[.nilFunc, .func (.func 106) #[] #[], .func (.func 107) #[] #[], .func (.func 108) #[] #[], .func (.func 109) #[] #[], .func (.func 110) #[] #[], .func (.func 111) #[] #[], .func (.func 112) #[] #[]] 171 ∧ Shop 25 174 X.heap.size Y X.heap.size ad cp p ∧ Kept w Y ∧ w.heap.size + 1 + 1 + 1 < X.heap.size) ⟨xb1.other (by simp; omega) _, xb2.other (by simp; omega) _, xb3.other (by simp; omega) _, xba.other (by simp; omega) _, ⟨Nat.le_refl _, (rs.set 0 _).cast (by simp [plantCells]), (hm2.base (by simp)).other rs (by decide) _⟩, hk2.setCell hk.size _, b3.lt⟩ ?_
  clear l1 l2 l3 la b0 b1 b2 b3 ba hk xb1 xb2 xb3 xba hk2 hsX hm2 x2 rs hown hb2 b0c0 b0f0 b0c1 b0f1 b0c2 b0f2 b0c3 b0f3 b0c4 b0f4 b0c5 b0f5 b0c6 b0f6 b0c7 b0f7 b0c8 b0f8 b0c9 b0f9 b0l
  rintro Y ⟨b1, b2, b3, ba, hsh, hk, hs⟩
  generalize X.heap.size = s at hs hsh ⊢
  have b1c0 := fun g : Later Y => (b1.later g).cell 0
  have b1f0 := fun g : Later Y => (b1.later g).free 0
  have b1c1 := fun g : Later Y => (b1.later g).cell 1
  have b1f1 := fun g : Later Y => (b1.later g).free 1
  have b1c2 := fun g : Later Y => (b1.later g).cell 2
  have b1f2 := fun g : Later Y => (b1.later g).free 2
  have b1c3 := fun g : Later Y => (b1.later g).cell 3
  have b1f3 := fun g : Later Y => (b1.later g).free 3
  have b1l := fun g : Later Y => (b1.later g).lt
  simp at b1c0 b1c1 b1c2 b1c3
  have ya : ∀ g : Later Y, g.val.cell? ⟨m, d.kind.toNat, none⟩ = some (.func (.func fn) #[] #[]) := fun g => by rw [(ba.later g).cell]; exact HFN.out
  refine Later.tail 6 (by kernel_rfl) (by kernel_rfl) ?_
  simp only [List.take_succ_cons, List.take_zero, List.drop_succ_cons, List.drop_zero]
  repeat (first | go_big_quiet_skip | (go_big_quiet_want; go_big_quiet_op; first | go_big_quiet_on | (apply Exists.intro; refine ⟨fun g_ => ?_, ?_⟩; (focus (first | fail)); go_big_quiet_on)))
  refine wpQuiet_nil ?_
  intro gg
  refine wpList_plain rfl fun K1 hK1 => ?_
  have n2 := b2.later gg
  have n3 := b3.later gg
  have hkg := Kept.drop hk gg.ok
  clear b1c0 b1f0 b1c1 b1f1 b1c2 b1f2 b1c3 b1f3 b1l
  go_wp2_with ((with_reducible refine (HACT.out _ _ _ _ _ (hsh.keep gg.ok)).mono ?_); rintro e w5 ⟨rfl, hb5⟩)
  have n2 := n2.keep hb5
  have n3 := n3.keep hb5
  have hkg := Kept.drop hkg hb5
  refine leaves_cons (f := 105) (args := #[.pointer (some ⟨w.heap.size + 1 + 1, 0, none⟩), .pointer (some ⟨w.heap.size + 1 + 1 + 1, 0, none⟩)]) (by simp) (by simp [go_sem]) ?_
  refine (catch_panics _ _ (errA p d) _ (by (exact blkc)) (by (exact blkc))).mono ?_
  rintro e u' w'' ⟨rfl, rfl, k1, k2, kb⟩
  have k1c0 := k1.cell 0
  have k1f0 := k1.free 0
  have k1c1 := k1.cell 1
  have k1f1 := k1.free 1
  have k1c2 := k1.cell 2
  have k1f2 := k1.free 2
  have k1c3 := k1.cell 3
  have k1f3 := k1.free 3
  have k1c4 := k1.cell 4
  have k1f4 := k1.free 4
  have k1c5 := k1.cell 5
  have k1f5 := k1.free 5
  have k1c6 := k1.cell 6
  have k1f6 := k1.free 6
  have k1c7 := k1.cell 7
  have k1f7 := k1.free 7
  have k1c8 := k1.cell 8
  have k1f8 := k1.free 8
  have k1c9 := k1.cell 9
  have k1f9 := k1.free 9
  have k1l := k1.lt
  simp at k1c0 k1c1 k1c2 k1c3 k1c4 k1c5 k1c6 k1c7 k1c8 k1c9
  have k2c0 := k2.cell 0
  have k2f0 := k2.free 0
  have k2l := k2.lt
  simp at k2c0
  exact (show ∃ v, (results _ _).run _ _ = .ok v _ ∧ _ from ⟨.tuple #[.agg #[.slice none 0 0, .int .i64 0, .int .i64 0, .int .i64 0, .int .i64 0, .int .i64 0, .int .i64 0, .int .i64 0, .int .i64 0, .int .i64 0], .int .i64 (errA p d)], by simp [results, Try.results48, go_sem, k1c0, k1f0, k1c1, k1f1, k1c2, k1f2, k1c3, k1f3, k1c4, k1f4, k1c5, k1f5, k1c6, k1f6, k1c7, k1f7, k1c8, k1f8, k1c9, k1f9, k2c0, k2f0], rfl, by exact Below.trans (by (exact kpt)) (kb _ (by omega) (by omega))⟩)
theorem f_DoX_ok (p : Plant) (d : Deed) (a : Option Addr) (cap : Nat) (w : World) (hx : Row Cell.cells 7 w.heap.size w a p.cells) (hc : p.cells.length ≤ cap) (hM : cap ≤ maxLen) (hz : a = none → cap = 0) (fn : FuncId) (hcf : ∀ (args : Array Value) (w : World), (callFunc fn args).run Try.prog w = .ok (.enter fn args) w) (hp : plantB p = true) (hk17 : 1 ≤ d.kind ∧ d.kind ≤ 7) (hfn : (#[.nilFunc, .func (.func 106) #[] #[], .func (.func 107) #[] #[], .func (.func 108) #[] #[], .func (.func 109) #[] #[], .func (.func 110) #[] #[], .func (.func 111) #[] #[], .func (.func 112) #[] #[]] : Array Value)[d.kind.toNat]? = some (.func (.func fn) #[] #[])) (he : errA p d = 0) (hact : ∀ (B s cp : Nat) (ad : Option Addr) (w : World), Shop 25 174 B w s ad cp p → Calls Try.prog fn #[.pointer (some ⟨s, 0, none⟩), .agg #[.int .u8 d.kind, .int .i64 d.cell, .int .i64 d.to, .int .i64 d.n]] w fun e w' => e = .returned (.tuple #[]) ∧ Shop 25 174 B w' s ad cp (resA p d) ∧ Below B w w') : Calls Try.prog 48 #[.agg #[.slice a p.cells.length cap, .int .i64 p.bottles, .int .i64 p.inH, .int .i64 p.inA, .int .i64 p.vH, .int .i64 p.vA, .int .i64 p.lH, .int .i64 p.lA, .int .i64 p.pH, .int .i64 p.pA], .agg #[.int .u8 d.kind, .int .i64 d.cell, .int .i64 d.to, .int .i64 d.n]] w fun e w' => ∃ v, e = .returned (.tuple #[.agg #[v, .int .i64 (endQ (resA p d)).bottles, .int .i64 (endQ (resA p d)).inH, .int .i64 (endQ (resA p d)).inA, .int .i64 (endQ (resA p d)).vH, .int .i64 (endQ (resA p d)).vA, .int .i64 (endQ (resA p d)).lH, .int .i64 (endQ (resA p d)).lA, .int .i64 (endQ (resA p d)).pH, .int .i64 (endQ (resA p d)).pA], .int .i64 (endE (resA p d))]) ∧ Mine 25 w.heap.size w' v ((endQ (resA p d))).cells ∧ Kept w w' := by
  obtain ⟨Q, hQ⟩ : ∃ Q, Q = resA p d := ⟨_, rfl⟩
  rw [← hQ]
  have HQ := Lib.hid hQ
  clear hQ
  have HP := Lib.hid (show plantE p = 0 by simp [plantE, hp])
  have H1 := Lib.hid (show rng [d.kind] 1 7 = true by simp [rng, inB]; omega)
  have hw := i64_inx (n := d.kind) (by omega)
  have hn12 : p.cells.length ≤ 12 := (plantB_iff.1 hp).1
  have HFN := Lib.hid hfn
  have HACT := Lib.hid hact
  have HPP := Lib.hid hp
  have HE := Lib.hid he
  clear hfn hp he hact
  have hmf : ∀ (fn : Fn) (first cap : Array Value) (w : World), (Instr.makeFunc fn first cap).run Try.prog w = .ok (.func fn first cap) w := fun _ _ _ _ => rfl
  go_enter_defers Try.func48, Try.ntmps48
  go_upto_region 4 with (go_at_call 50; (with_reducible refine (f_Check p a cap _ (hx.later (by (exact kpt)) (Nat.le_refl _)) hc hM).mono ?_); rw [HP.out]; rintro e w1 ⟨rfl, hb1⟩; refine Blk.thru (b := w.heap.size) (arr := ?_) (t := ?_) ?_ hb1 ?_; rotate_left 2; (focus (exact blk)); intro rr; have rrc0 := rr.cell 0; have rrf0 := rr.free 0; have rrc1 := rr.cell 1; have rrf1 := rr.free 1; have rrc2 := rr.cell 2; have rrf2 := rr.free 2; have rrc3 := rr.cell 3; have rrf3 := rr.free 3; have rrc4 := rr.cell 4; have rrf4 := rr.free 4; have rrc5 := rr.cell 5; have rrf5 := rr.free 5; have rrc6 := rr.cell 6; have rrf6 := rr.free 6; have rrc7 := rr.cell 7; have rrf7 := rr.free 7; have rrc8 := rr.cell 8; have rrf8 := rr.free 8; have rrc9 := rr.cell 9; have rrf9 := rr.free 9; have rrl := rr.lt; simp at rrc0 rrc1 rrc2 rrc3 rrc4 rrc5 rrc6 rrc7 rrc8 rrc9; refine Blk.thru (b := (w.heap.size + 1)) (arr := ?_) (t := ?_) ?_ hb1 ?_; rotate_left 2; (focus (exact blk)); intro rq; have rqc0 := rq.cell 0; have rqf0 := rq.free 0; have rqc1 := rq.cell 1; have rqf1 := rq.free 1; have rqc2 := rq.cell 2; have rqf2 := rq.free 2; have rqc3 := rq.cell 3; have rqf3 := rq.free 3; have rql := rq.lt; simp at rqc0 rqc1 rqc2 rqc3)
  refine at_world (S := fun W => Blk W w.heap.size #[.slice a p.cells.length cap, .int .i64 p.bottles, .int .i64 p.inH, .int .i64 p.inA, .int .i64 p.vH, .int .i64 p.vA, .int .i64 p.lH, .int .i64 p.lA, .int .i64 p.pH, .int .i64 p.pA] 63 ∧ Blk W (w.heap.size + 1) #[.int .u8 d.kind, .int .i64 d.cell, .int .i64 d.to, .int .i64 d.n] 65 ∧ Blk W (w.heap.size + 1 + 1) #[.slice none 0 0, .int .i64 0, .int .i64 0, .int .i64 0, .int .i64 0, .int .i64 0, .int .i64 0, .int .i64 0, .int .i64 0, .int .i64 0] 63 ∧ Blk W (w.heap.size + 1 + 1 + 1) #[.int .i64 0] 28 ∧ Kept w W) ⟨by (exact blkc), by (exact blkc), by (exact blkc), by (exact blkc), by (exact kpt)⟩ ?_
  rintro W ⟨b0, b1, b2, b3, hk⟩
  have b0c0 := b0.cell 0
  have b0f0 := b0.free 0
  have b0c1 := b0.cell 1
  have b0f1 := b0.free 1
  have b0c2 := b0.cell 2
  have b0f2 := b0.free 2
  have b0c3 := b0.cell 3
  have b0f3 := b0.free 3
  have b0c4 := b0.cell 4
  have b0f4 := b0.free 4
  have b0c5 := b0.cell 5
  have b0f5 := b0.free 5
  have b0c6 := b0.cell 6
  have b0f6 := b0.free 6
  have b0c7 := b0.cell 7
  have b0f7 := b0.free 7
  have b0c8 := b0.cell 8
  have b0f8 := b0.free 8
  have b0c9 := b0.cell 9
  have b0f9 := b0.free 9
  have b0l := b0.lt
  simp at b0c0 b0c1 b0c2 b0c3 b0c4 b0c5 b0c6 b0c7 b0c8 b0c9
  have b1c0 := b1.cell 0
  have b1f0 := b1.free 0
  have b1c1 := b1.cell 1
  have b1f1 := b1.free 1
  have b1c2 := b1.cell 2
  have b1f2 := b1.free 2
  have b1c3 := b1.cell 3
  have b1f3 := b1.free 3
  have b1l := b1.lt
  simp at b1c0 b1c1 b1c2 b1c3
  have b2c0 := b2.cell 0
  have b2f0 := b2.free 0
  have b2c1 := b2.cell 1
  have b2f1 := b2.free 1
  have b2c2 := b2.cell 2
  have b2f2 := b2.free 2
  have b2c3 := b2.cell 3
  have b2f3 := b2.free 3
  have b2c4 := b2.cell 4
  have b2f4 := b2.free 4
  have b2c5 := b2.cell 5
  have b2f5 := b2.free 5
  have b2c6 := b2.cell 6
  have b2f6 := b2.free 6
  have b2c7 := b2.cell 7
  have b2f7 := b2.free 7
  have b2c8 := b2.cell 8
  have b2f8 := b2.free 8
  have b2c9 := b2.cell 9
  have b2f9 := b2.free 9
  have b2l := b2.lt
  simp at b2c0 b2c1 b2c2 b2c3 b2c4 b2c5 b2c6 b2c7 b2c8 b2c9
  have b3c0 := b3.cell 0
  have b3f0 := b3.free 0
  have b3l := b3.lt
  simp at b3c0
  go_upto_region 7 with (first | (go_at_call 91; (with_reducible refine (f_ranged1 _ _ d.kind _ _ _ (by simp)).mono ?_); rw [H1.out]; rintro e w1 ⟨rfl, rfl⟩) | (go_at_call 113; (with_reducible refine (f_need_ok _ _).mono ?_); rintro e w1 ⟨rfl, rfl⟩))
  clear b0c0 b0f0 b0c1 b0f1 b0c2 b0f2 b0c3 b0f3 b0c4 b0f4 b0c5 b0f5 b0c6 b0f6 b0c7 b0f7 b0c8 b0f8 b0c9 b0f9 b0l b1c0 b1f0 b1c1 b1f1 b1c2 b1f2 b1c3 b1f3 b1l b2c0 b2f0 b2c1 b2f1 b2c2 b2f2 b2c3 b2f3 b2c4 b2f4 b2c5 b2f5 b2c6 b2f6 b2c7 b2f7 b2c8 b2f8 b2c9 b2f9 b2l b3c0 b3f0 b3l
  refine at_world (S := fun X => Blk X w.heap.size #[.slice a p.cells.length cap, .int .i64 p.bottles, .int .i64 p.inH, .int .i64 p.inA, .int .i64 p.vH, .int .i64 p.vA, .int .i64 p.lH, .int .i64 p.lA, .int .i64 p.pH, .int .i64 p.pA] 63 ∧ Blk X (w.heap.size + 1) #[.int .u8 d.kind, .int .i64 d.cell, .int .i64 d.to, .int .i64 d.n] 65 ∧ Blk X (w.heap.size + 1 + 1) #[.slice none 0 0, .int .i64 0, .int .i64 0, .int .i64 0, .int .i64 0, .int .i64 0, .int .i64 0, .int .i64 0, .int .i64 0, .int .i64 0] 63 ∧ Blk X (w.heap.size + 1 + 1 + 1) #[.int .i64 0] 28 ∧ Blk X W.heap.size #[.nilFunc, .func (.func 106) #[] #[], .func (.func 107) #[] #[], .func (.func 108) #[] #[], .func (.func 109) #[] #[], .func (.func 110) #[] #[], .func (.func 111) #[] #[], .func (.func 112) #[] #[]] 171 ∧ Kept w X) ⟨by (exact blkc), by (exact blkc), by (exact blkc), by (exact blkc), by (exact blkc), by (exact kpt)⟩ ?_
  clear b0 b1 b2 b3 hk
  rintro X ⟨b0, b1, b2, b3, ba, hk⟩
  generalize W.heap.size = m at ba ⊢
  have b0c0 := b0.cell 0
  have b0f0 := b0.free 0
  have b0c1 := b0.cell 1
  have b0f1 := b0.free 1
  have b0c2 := b0.cell 2
  have b0f2 := b0.free 2
  have b0c3 := b0.cell 3
  have b0f3 := b0.free 3
  have b0c4 := b0.cell 4
  have b0f4 := b0.free 4
  have b0c5 := b0.cell 5
  have b0f5 := b0.free 5
  have b0c6 := b0.cell 6
  have b0f6 := b0.free 6
  have b0c7 := b0.cell 7
  have b0f7 := b0.free 7
  have b0c8 := b0.cell 8
  have b0f8 := b0.free 8
  have b0c9 := b0.cell 9
  have b0f9 := b0.free 9
  have b0l := b0.lt
  simp at b0c0 b0c1 b0c2 b0c3 b0c4 b0c5 b0c6 b0c7 b0c8 b0c9
  go_upto_region 9 with (go_at_call 114; (with_reducible refine (s_CloneC a cap p.cells _ (hx.later (by (exact kpt)) (Nat.le_refl _)) (by omega) hz).mono ?_); rintro e w2 ⟨v, rfl, hown, hb2⟩; obtain ⟨ad, cp, rfl, _⟩ := (Mine.of_owns hown).slice; refine Blk.thru (b := X.heap.size) (arr := ?_) (t := ?_) ?_ hb2 ?_; rotate_left 2; (focus (exact blk)); intro rs; have rsc0 := rs.cell 0; have rsf0 := rs.free 0; have rsc1 := rs.cell 1; have rsf1 := rs.free 1; have rsc2 := rs.cell 2; have rsf2 := rs.free 2; have rsc3 := rs.cell 3; have rsf3 := rs.free 3; have rsc4 := rs.cell 4; have rsf4 := rs.free 4; have rsc5 := rs.cell 5; have rsf5 := rs.free 5; have rsc6 := rs.cell 6; have rsf6 := rs.free 6; have rsc7 := rs.cell 7; have rsf7 := rs.free 7; have rsc8 := rs.cell 8; have rsf8 := rs.free 8; have rsc9 := rs.cell 9; have rsf9 := rs.free 9; have rsl := rs.lt; simp at rsc0 rsc1 rsc2 rsc3 rsc4 rsc5 rsc6 rsc7 rsc8 rsc9)
  have hsX := hk.size
  have l1 := b1.lt
  have l2 := b2.lt
  have l3 := b3.lt
  have la := ba.lt
  have x2 := rs.lt
  have hm2 := Mine.of_owns hown
  have xb1 := ((b1.alloc _).keep hb2)
  have xb2 := ((b2.alloc _).keep hb2)
  have xb3 := ((b3.alloc _).keep hb2)
  have xba := ((ba.alloc _).keep hb2)
  have hk2 := Kept.drop (Kept.alloc hk _) hb2
  refine at_world (S := fun Y => Blk Y (w.heap.size + 1) #[.int .u8 d.kind, .int .i64 d.cell, .int .i64 d.to, .int .i64 d.n] 65 ∧ Blk Y (w.heap.size + 1 + 1) #[.slice none 0 0, .int .i64 0, .int .i64 0, .int .i64 0, .int .i64 0, .int .i64 0, .int .i64 0, .int .i64 0, .int .i64 0, .int .i64 0] 63 ∧ Blk Y (w.heap.size + 1 + 1 + 1) #[.int .i64 0] 28 ∧ Blk Y m #[.nilFunc, .func (.func 106) #[] #[], .func (.func 107) #[] #[], .func (.func 108) #[] #[], .func (.func 109) #[] #[], .func (.func 110) #[] #[], .func (.func 111) #[] #[], .func (.func 112) #[] #[]] 171 ∧ Shop 25 174 X.heap.size Y X.heap.size ad cp p ∧ Kept w Y ∧ w.heap.size + 1 + 1 + 1 < X.heap.size) ⟨xb1.other (by simp; omega) _, xb2.other (by simp; omega) _, xb3.other (by simp; omega) _, xba.other (by simp; omega) _, ⟨Nat.le_refl _, (rs.set 0 _).cast (by simp [plantCells]), (hm2.base (by simp)).other rs (by decide) _⟩, hk2.setCell hk.size _, b3.lt⟩ ?_
  clear l1 l2 l3 la b0 b1 b2 b3 ba hk xb1 xb2 xb3 xba hk2 hsX hm2 x2 rs hown hb2 b0c0 b0f0 b0c1 b0f1 b0c2 b0f2 b0c3 b0f3 b0c4 b0f4 b0c5 b0f5 b0c6 b0f6 b0c7 b0f7 b0c8 b0f8 b0c9 b0f9 b0l
  rintro Y ⟨b1, b2, b3, ba, hsh, hk, hs⟩
  generalize X.heap.size = s at hs hsh ⊢
  have b1c0 := fun g : Later Y => (b1.later g).cell 0
  have b1f0 := fun g : Later Y => (b1.later g).free 0
  have b1c1 := fun g : Later Y => (b1.later g).cell 1
  have b1f1 := fun g : Later Y => (b1.later g).free 1
  have b1c2 := fun g : Later Y => (b1.later g).cell 2
  have b1f2 := fun g : Later Y => (b1.later g).free 2
  have b1c3 := fun g : Later Y => (b1.later g).cell 3
  have b1f3 := fun g : Later Y => (b1.later g).free 3
  have b1l := fun g : Later Y => (b1.later g).lt
  simp at b1c0 b1c1 b1c2 b1c3
  have ya : ∀ g : Later Y, g.val.cell? ⟨m, d.kind.toNat, none⟩ = some (.func (.func fn) #[] #[]) := fun g => by rw [(ba.later g).cell]; exact HFN.out
  refine Later.tail 6 (by kernel_rfl) (by kernel_rfl) ?_
  simp only [List.take_succ_cons, List.take_zero, List.drop_succ_cons, List.drop_zero]
  repeat (first | go_big_quiet_skip | (go_big_quiet_want; go_big_quiet_op; first | go_big_quiet_on | (apply Exists.intro; refine ⟨fun g_ => ?_, ?_⟩; (focus (first | fail)); go_big_quiet_on)))
  refine wpQuiet_nil ?_
  intro gg
  refine wpList_plain rfl fun K1 hK1 => ?_
  have n2 := b2.later gg
  have n3 := b3.later gg
  have hkg := Kept.drop hk gg.ok
  clear b1c0 b1f0 b1c1 b1f1 b1c2 b1f2 b1c3 b1f3 b1l
  go_upto_region 10 with ((with_reducible refine (HACT.out _ _ _ _ _ (hsh.keep gg.ok)).mono ?_); rintro e w5 ⟨rfl, hsh5, hb5⟩)
  refine at_world (S := fun Z => Blk Z (w.heap.size + 1 + 1) #[.slice none 0 0, .int .i64 0, .int .i64 0, .int .i64 0, .int .i64 0, .int .i64 0, .int .i64 0, .int .i64 0, .int .i64 0, .int .i64 0] 63 ∧ Blk Z (w.heap.size + 1 + 1 + 1) #[.int .i64 0] 28 ∧ Blk Z s #[.slice ad Q.cells.length cp, .int .i64 Q.bottles, .int .i64 Q.inH, .int .i64 Q.inA, .int .i64 Q.vH, .int .i64 Q.vA, .int .i64 Q.lH, .int .i64 Q.lA, .int .i64 Q.pH, .int .i64 Q.pA] 174 ∧ Mine 25 s Z (.slice ad Q.cells.length cp) Q.cells ∧ Kept w Z) ⟨blk_below n2 hb5 (by omega), blk_below n3 hb5 (by omega), by rw [HQ.out]; exact hsh5.2.1, by rw [HQ.out]; exact hsh5.2.2, hkg.trans (hb5.mono (by omega))⟩ ?_
  clear b1 b2 b3 ba hk hsh n2 n3 hkg hsh5 hb5
  rintro Z ⟨b2, b3, r3, hm, hk⟩
  have r3c0 := r3.cell 0
  have r3f0 := r3.free 0
  have r3c1 := r3.cell 1
  have r3f1 := r3.free 1
  have r3c2 := r3.cell 2
  have r3f2 := r3.free 2
  have r3c3 := r3.cell 3
  have r3f3 := r3.free 3
  have r3c4 := r3.cell 4
  have r3f4 := r3.free 4
  have r3c5 := r3.cell 5
  have r3f5 := r3.free 5
  have r3c6 := r3.cell 6
  have r3f6 := r3.free 6
  have r3c7 := r3.cell 7
  have r3f7 := r3.free 7
  have r3c8 := r3.cell 8
  have r3f8 := r3.free 8
  have r3c9 := r3.cell 9
  have r3f9 := r3.free 9
  have r3l := r3.lt
  simp at r3c0 r3c1 r3c2 r3c3 r3c4 r3c5 r3c6 r3c7 r3c8 r3c9
  cases hpq : plantB Q
  · have HPQ := Lib.hid (show plantE Q = 32 by simp [plantE, hpq])
    have HPB := Lib.hid hpq
    clear hpq
    go_wp2_with (first | (go_at_call 50; (with_reducible refine (f_CheckK hm).mono ?_); rw [HPQ.out]; rintro e w6 ⟨rfl, hb6⟩) | (go_at_call 113; (with_reducible refine (f_need_no _ _).mono ?_); rintro e w1 ⟨rfl, rfl⟩))
    have n2 := b2.keep hb6
    have n3 := b3.keep hb6
    have hkg := Kept.drop hk hb6
    clear b2 b3 hk
    skip
    refine leaves_cons (f := 105) (args := #[.pointer (some ⟨w.heap.size + 1 + 1, 0, none⟩), .pointer (some ⟨w.heap.size + 1 + 1 + 1, 0, none⟩)]) (by simp) (by simp [go_sem]) ?_
    refine (catch_panics _ _ 9 _ (by (exact blkc)) (by (exact blkc))).mono ?_
    rintro e u' w'' ⟨rfl, rfl, k1, k2, kb⟩
    have k1c0 := k1.cell 0
    have k1f0 := k1.free 0
    have k1c1 := k1.cell 1
    have k1f1 := k1.free 1
    have k1c2 := k1.cell 2
    have k1f2 := k1.free 2
    have k1c3 := k1.cell 3
    have k1f3 := k1.free 3
    have k1c4 := k1.cell 4
    have k1f4 := k1.free 4
    have k1c5 := k1.cell 5
    have k1f5 := k1.free 5
    have k1c6 := k1.cell 6
    have k1f6 := k1.free 6
    have k1c7 := k1.cell 7
    have k1f7 := k1.free 7
    have k1c8 := k1.cell 8
    have k1f8 := k1.free 8
    have k1c9 := k1.cell 9
    have k1f9 := k1.free 9
    have k1l := k1.lt
    simp at k1c0 k1c1 k1c2 k1c3 k1c4 k1c5 k1c6 k1c7 k1c8 k1c9
    have k2c0 := k2.cell 0
    have k2f0 := k2.free 0
    have k2l := k2.lt
    simp at k2c0
    refine (show ∃ v, (results _ _).run _ _ = .ok v _ ∧ _ from ⟨.tuple #[.agg #[.slice none 0 0, .int .i64 0, .int .i64 0, .int .i64 0, .int .i64 0, .int .i64 0, .int .i64 0, .int .i64 0, .int .i64 0, .int .i64 0], .int .i64 9], by simp [results, Try.results48, go_sem, k1c0, k1f0, k1c1, k1f1, k1c2, k1f2, k1c3, k1f3, k1c4, k1f4, k1c5, k1f5, k1c6, k1f6, k1c7, k1f7, k1c8, k1f8, k1c9, k1f9, k2c0, k2f0], .slice none 0 0, by simp [endQ, endE, HPB.out, noPlant], by rw [show endQ Q = noPlant by simp [endQ, HPB.out]]; exact Mine.zero, by exact Below.trans (by (exact kpt)) (kb _ (by omega) (by omega))⟩)
  · have HPQ := Lib.hid (show plantE Q = 0 by simp [plantE, hpq])
    have HPB := Lib.hid hpq
    clear hpq
    go_upto_region 11 with (first | (go_at_call 50; (with_reducible refine (f_CheckK hm).mono ?_); rw [HPQ.out]; rintro e w6 ⟨rfl, hb6⟩) | (go_at_call 113; (with_reducible refine (f_need_ok _ _).mono ?_); rintro e w1 ⟨rfl, rfl⟩))
    clear r3c0 r3f0 r3c1 r3f1 r3c2 r3f2 r3c3 r3f3 r3c4 r3f4 r3c5 r3f5 r3c6 r3f6 r3c7 r3f7 r3c8 r3f8 r3c9 r3f9 r3l
    refine at_world (S := fun U => Blk U (w.heap.size + 1 + 1) #[.slice none 0 0, .int .i64 0, .int .i64 0, .int .i64 0, .int .i64 0, .int .i64 0, .int .i64 0, .int .i64 0, .int .i64 0, .int .i64 0] 63 ∧ Blk U (w.heap.size + 1 + 1 + 1) #[.int .i64 0] 28 ∧ Blk U s #[.slice ad Q.cells.length cp, .int .i64 Q.bottles, .int .i64 Q.inH, .int .i64 Q.inA, .int .i64 Q.vH, .int .i64 Q.vA, .int .i64 Q.lH, .int .i64 Q.lA, .int .i64 Q.pH, .int .i64 Q.pA] 174 ∧ Mine 25 s U (.slice ad Q.cells.length cp) Q.cells ∧ Kept w U) ⟨b2.keep hb6, b3.keep hb6, r3.keep hb6, hm.keep hb6, Kept.drop hk hb6⟩ ?_
    clear b2 b3 r3 hm hk hb6
    rintro U ⟨b2, b3, r3, hm, hk⟩
    have b2c0 := b2.cell 0
    have b2f0 := b2.free 0
    have b2c1 := b2.cell 1
    have b2f1 := b2.free 1
    have b2c2 := b2.cell 2
    have b2f2 := b2.free 2
    have b2c3 := b2.cell 3
    have b2f3 := b2.free 3
    have b2c4 := b2.cell 4
    have b2f4 := b2.free 4
    have b2c5 := b2.cell 5
    have b2f5 := b2.free 5
    have b2c6 := b2.cell 6
    have b2f6 := b2.free 6
    have b2c7 := b2.cell 7
    have b2f7 := b2.free 7
    have b2c8 := b2.cell 8
    have b2f8 := b2.free 8
    have b2c9 := b2.cell 9
    have b2f9 := b2.free 9
    have b2l := b2.lt
    simp at b2c0 b2c1 b2c2 b2c3 b2c4 b2c5 b2c6 b2c7 b2c8 b2c9
    have b3c0 := b3.cell 0
    have b3f0 := b3.free 0
    have b3l := b3.lt
    simp at b3c0
    have r3c0 := r3.cell 0
    have r3f0 := r3.free 0
    have r3c1 := r3.cell 1
    have r3f1 := r3.free 1
    have r3c2 := r3.cell 2
    have r3f2 := r3.free 2
    have r3c3 := r3.cell 3
    have r3f3 := r3.free 3
    have r3c4 := r3.cell 4
    have r3f4 := r3.free 4
    have r3c5 := r3.cell 5
    have r3f5 := r3.free 5
    have r3c6 := r3.cell 6
    have r3f6 := r3.free 6
    have r3c7 := r3.cell 7
    have r3f7 := r3.free 7
    have r3c8 := r3.cell 8
    have r3f8 := r3.free 8
    have r3c9 := r3.cell 9
    have r3f9 := r3.free 9
    have r3l := r3.lt
    simp at r3c0 r3c1 r3c2 r3c3 r3c4 r3c5 r3c6 r3c7 r3c8 r3c9
    go_wp2
    refine leaves_cons (f := 105) (args := #[.pointer (some ⟨w.heap.size + 1 + 1, 0, none⟩), .pointer (some ⟨w.heap.size + 1 + 1 + 1, 0, none⟩)]) (by simp) (by simp [go_sem]) ?_
    refine (catch_idle _ _ _).mono ?_
    rintro e u' w'' ⟨rfl, rfl, rfl⟩
    refine (show ∃ v, (results _ _).run _ _ = .ok v _ ∧ _ from ⟨.tuple #[.agg #[.slice ad Q.cells.length cp, .int .i64 Q.bottles, .int .i64 Q.inH, .int .i64 Q.inA, .int .i64 Q.vH, .int .i64 Q.vA, .int .i64 Q.lH, .int .i64 Q.lA, .int .i64 Q.pH, .int .i64 Q.pA], .int .i64 0], by simp [results, Try.results48, go_sem, b2c0, b2f0, b2c1, b2f1, b2c2, b2f2, b2c3, b2f3, b2c4, b2f4, b2c5, b2f5, b2c6, b2f6, b2c7, b2f7, b2c8, b2f8, b2c9, b2f9, b3c0, b3f0], .slice ad Q.cells.length cp, by simp [endQ, endE, HPB.out], ?_, by (exact kpt)⟩)
    rw [show endQ Q = Q by simp [endQ, HPB.out]]
    have hne := hm.ne b2 (by decide)
    have hne3 := hm.ne b3 (by decide)
    (repeat (first | with_reducible refine Mine.off ?_ hne _ | with_reducible refine Mine.off ?_ hne3 _))
    exact hm.base (by omega)

end Go.Proofs.Ytemafanncejeiaa
