/-
  Limits at work, in the reference: corners, values, the worst choice; lists that are the same.
-/
import Derived.Test.YtlloijkmpmfapaaTrimC
import Derived.Test.YtlloijkmpmfapaaOrder
import Derived.Deep.DeepCutAuto
namespace Go.Proofs.Ytlloijkmpmfapaa
open Go.RowKit Bal Bal.Trim
set_option linter.unusedVariables false
set_option linter.unusedSimpArgs false
set_option maxHeartbeats 800000

set_option maxRecDepth 10000

theorem r_corners (x : Load) (w : World) :
    Calls Try.prog 82 #[.agg #[.int .i64 x.alo, .int .i64 x.ahi, .int .i64 x.wlo, .int .i64 x.whi]] w fun e w' => e = .returned (.slice (some ⟨w.heap.size + 1, 0, none⟩) 4 4) ∧ Blk w' (w.heap.size + 1) #[.int .i64 x.alo, .int .i64 x.wlo, .int .i64 x.ahi, .int .i64 x.wlo, .int .i64 x.alo, .int .i64 x.whi, .int .i64 x.ahi, .int .i64 x.whi] 85 ∧ Kept w w' := by
  go_enter Try.func82, Try.ntmps82
  go_wp2
  go_ret
  exact ⟨rfl, by (repeat (first | with_reducible assumption | ((with_reducible refine Blk.new' ?_); first | with_reducible rfl | (simp; done) | (simp [World.drew]; done)) | with_reducible refine Blk.alloc ?_ _ | ((with_reducible refine Blk.set (arr := ?_) ?_ _ _); rotate_left 1) | ((with_reducible refine Blk.other ?_ ?_ _); rotate_left 1; (focus (first | (simp; done) | (simp; omega) | (refine Nat.ne_of_gt (Blk.lt (arr := ?_) (t := ?_) ?_); rotate_left 2; focus (repeat (first | with_reducible assumption | ((with_reducible refine Blk.new' ?_); first | with_reducible rfl | (simp; done) | (simp [World.drew]; done)) | with_reducible refine Blk.alloc ?_ _ | with_reducible refine Blk.keep ?_ (by with_reducible assumption) | with_reducible refine Blk.drew ?_))) | (refine Nat.ne_of_lt (Blk.lt (arr := ?_) (t := ?_) ?_); rotate_left 2; focus (repeat (first | with_reducible assumption | ((with_reducible refine Blk.new' ?_); first | with_reducible rfl | (simp; done) | (simp [World.drew]; done)) | with_reducible refine Blk.alloc ?_ _ | with_reducible refine Blk.keep ?_ (by with_reducible assumption) | with_reducible refine Blk.drew ?_)))))) | with_reducible refine Blk.keep ?_ (by with_reducible assumption) | with_reducible refine Blk.drew ?_)), by (repeat (first | with_reducible exact Below.refl _ _ | with_reducible assumption | with_reducible refine Kept.drop ?_ (by with_reducible assumption) | with_reducible refine Kept.alloc ?_ _ | ((with_reducible refine Below.setCell ?_ ?_ _); rotate_left 1; (focus (first | exact Nat.le_refl _ | (simp; done) | (simp; omega) | exact Below.size (by with_reducible assumption) | (refine Kept.size ?_; (repeat (first | with_reducible exact Below.refl _ _ | with_reducible assumption | with_reducible refine Kept.drop ?_ (by with_reducible assumption) | with_reducible refine Kept.alloc ?_ _ | with_reducible refine Below.drew ?_)))))) | with_reducible refine Below.drew ?_))⟩

def ValueRel (w : World) (m : Limit) (ps : List Put) (s i : Value) (wr : World) : Prop :=
  ∃ k : Nat, k ≤ ps.length ∧ i = .int .i64 k ∧ s = .int .i64 (sumBy (vOf m) (ps.take k)) ∧ Blk wr w.heap.size #[.int .i64 m.a, .int .i64 m.b, .int .i64 m.c] 47 ∧ Kept w wr
theorem r_Value (m : Limit) (a : Option Addr) (n cap : Nat) (ps : List Put) (w : World) (hl : ps.length = n) (hx : Row Put.cells 2 w.heap.size w a ps) (hn : ps.length ≤ 60) (hm : limitB m = true) (hp : ∀ p ∈ ps, putB p) :
    Calls Try.prog 77 #[.slice a n cap, .agg #[.int .i64 m.a, .int .i64 m.b, .int .i64 m.c]] w fun e w' => e = .returned (.int .i64 (value m ps)) ∧ Kept w w' := by
  subst hl
  have HSUM := Lib.hid (fun k => sumBy_take_bd (vOf m) 22000000000000000 1320000000000000000 ps 60 hn (by omega) (by omega) (fun x h => vOf_bd hm (hp x h)) k)
  have HM := Lib.hid hm
  have HP := Lib.hid hp
  clear hm hp
  go_enter Try.func77, Try.ntmps77
  go_wp2
  go_loopw [5, 6] (fun s i wr => ValueRel w m ps s i wr) (fun _ i _ => ps.length - (intOf i).toNat)
  case atStart => exact ⟨0, Nat.zero_le _, rfl, rfl, by (repeat (first | with_reducible assumption | ((with_reducible refine Blk.new' ?_); first | with_reducible rfl | (simp; done) | (simp [World.drew]; done)) | with_reducible refine Blk.alloc ?_ _ | ((with_reducible refine Blk.set (arr := ?_) ?_ _ _); rotate_left 1) | ((with_reducible refine Blk.other ?_ ?_ _); rotate_left 1; (focus (first | (simp; done) | (simp; omega) | (refine Nat.ne_of_gt (Blk.lt (arr := ?_) (t := ?_) ?_); rotate_left 2; focus (repeat (first | with_reducible assumption | ((with_reducible refine Blk.new' ?_); first | with_reducible rfl | (simp; done) | (simp [World.drew]; done)) | with_reducible refine Blk.alloc ?_ _ | with_reducible refine Blk.keep ?_ (by with_reducible assumption) | with_reducible refine Blk.drew ?_))) | (refine Nat.ne_of_lt (Blk.lt (arr := ?_) (t := ?_) ?_); rotate_left 2; focus (repeat (first | with_reducible assumption | ((with_reducible refine Blk.new' ?_); first | with_reducible rfl | (simp; done) | (simp [World.drew]; done)) | with_reducible refine Blk.alloc ?_ _ | with_reducible refine Blk.keep ?_ (by with_reducible assumption) | with_reducible refine Blk.drew ?_)))))) | with_reducible refine Blk.keep ?_ (by with_reducible assumption) | with_reducible refine Blk.drew ?_)), by (repeat (first | with_reducible exact Below.refl _ _ | with_reducible assumption | with_reducible refine Kept.drop ?_ (by with_reducible assumption) | with_reducible refine Kept.alloc ?_ _ | ((with_reducible refine Below.setCell ?_ ?_ _); rotate_left 1; (focus (first | exact Nat.le_refl _ | (simp; done) | (simp; omega) | exact Below.size (by with_reducible assumption) | (refine Kept.size ?_; (repeat (first | with_reducible exact Below.refl _ _ | with_reducible assumption | with_reducible refine Kept.drop ?_ (by with_reducible assumption) | with_reducible refine Kept.alloc ?_ _ | with_reducible refine Below.drew ?_)))))) | with_reducible refine Below.drew ?_))⟩
  case round =>
    obtain ⟨k, hk, rfl, rfl, q0, hkk⟩ := hrel
    by_cases hlt : k < ps.length
    · obtain ⟨b, off, rfl, hb, h0, h1⟩ := Put.row (hx.later hkk (Nat.le_refl _)) k hlt
      obtain ⟨u1, u2⟩ := HSUM.out k
      obtain ⟨⟨u3, u4⟩, ⟨u5, u6⟩, u7, u8⟩ := put_bd HM.out (HP.out ps[k] (List.getElem_mem hlt))
      have k0 := fun g : Later wr => g.some h0
      have k1 := fun g : Later wr => g.some h1
      go_upto_region 5 with fail
      have q0c0 := fun g : Later wr => (q0.later g).cell 0
      have q0f0 := fun g : Later wr => (q0.later g).free 0
      have q0c1 := fun g : Later wr => (q0.later g).cell 1
      have q0f1 := fun g : Later wr => (q0.later g).free 1
      have q0c2 := fun g : Later wr => (q0.later g).cell 2
      have q0f2 := fun g : Later wr => (q0.later g).free 2
      have q0l := fun g : Later wr => (q0.later g).lt
      simp at q0c0 q0c1 q0c2
      refine Later.region (by kernel_rfl) (by kernel_rfl) ?_
      repeat (first | go_big_quiet_skip | (go_big_quiet_want; go_big_quiet_op; first | go_big_quiet_on | (apply Exists.intro; refine ⟨fun g => ?_, ?_⟩; (focus (first | fail)); go_big_quiet_on)))
      refine wpQuiet_nil ?_
      intro gg
      have hkgg := Kept.drop hkk gg.ok
      have q1 := q0.later gg
      go_wp2
      go_round
      case rel => exact ⟨k + 1, by omega, by go_num, by rw [sumBy_take _ _ _ hlt]; rfl, q1, by (repeat (first | with_reducible exact Below.refl _ _ | with_reducible assumption | with_reducible refine Kept.drop ?_ (by with_reducible assumption) | with_reducible refine Kept.alloc ?_ _ | ((with_reducible refine Below.setCell ?_ ?_ _); rotate_left 1; (focus (first | exact Nat.le_refl _ | (simp; done) | (simp; omega) | exact Below.size (by with_reducible assumption) | (refine Kept.size ?_; (repeat (first | with_reducible exact Below.refl _ _ | with_reducible assumption | with_reducible refine Kept.drop ?_ (by with_reducible assumption) | with_reducible refine Kept.alloc ?_ _ | with_reducible refine Below.drew ?_)))))) | with_reducible refine Below.drew ?_))⟩
      case measure => simp [intOf]; omega
    · obtain rfl : k = ps.length := by omega
      go_wp2
      go_ret
      exact ⟨ret_int (by rw [List.take_length]; rfl), hkk⟩

theorem value_one (m : Limit) (p : Put) : value m [p] = vOf m p := by simp [value, sumBy_cons]
theorem r_Value1 (m : Limit) (a : Option Addr) (cap : Nat) (p : Put) (w : World) (hx : Row Put.cells 2 w.heap.size w a [p]) (hm : limitB m = true) (hp : putB p) :
    Calls Try.prog 77 #[.slice a 1 cap, .agg #[.int .i64 m.a, .int .i64 m.b, .int .i64 m.c]] w fun e w' => e = .returned (.int .i64 (vOf m p)) ∧ Kept w w' := by
  have := r_Value m a 1 cap [p] w rfl hx (by simp) hm (by simpa using hp)
  rwa [value_one] at this
theorem r_ValueN (m : Limit) (p : Put) (t : TypeId) (W : World) (n : Nat) (hn : n = W.heap.size) (hm : limitB m = true) (hp : putB p) :
    Calls Try.prog 77 #[.slice (some ⟨n, 0, none⟩) 1 1, .agg #[.int .i64 m.a, .int .i64 m.b, .int .i64 m.c]] (W.alloc (.cells #[.int .i64 p.pos, .int .i64 p.wt] t)) fun e w' => e = .returned (.int .i64 (vOf m p)) ∧ Kept (W.alloc (.cells #[.int .i64 p.pos, .int .i64 p.wt] t)) w' := by
  subst hn
  exact r_Value1 m _ 1 p _ (Row.one Blk.new rfl) hm hp

theorem r_SamePuts (a b : Option Addr) (c d : Nat) (xs : List Put) (w : World) (hx : Row Put.cells 2 w.heap.size w a xs) (hy : Row Put.cells 2 w.heap.size w b xs) (hc : xs.length ≤ c) (hd : xs.length ≤ d) (hM : c ≤ maxLen) (hN : d ≤ maxLen) :
    Calls Try.prog 27 #[.slice a xs.length c, .slice b xs.length d] w fun e w' => e = .returned (.bool true) ∧ Kept w w' := by
  unfold maxLen at hM hN
  go_enter Try.func27, Try.ntmps27
  go_wp2
  go_loopw [5] (fun i wr => ∃ k : Nat, k ≤ xs.length ∧ i = .int .i64 k ∧ Kept w wr) (fun i _ => xs.length - (intOf i).toNat)
  case atStart => exact ⟨0, Nat.zero_le _, rfl, Below.refl _ _⟩
  case round =>
    obtain ⟨k, hk, rfl, hkk⟩ := hrel
    by_cases hlt : k < xs.length
    · obtain ⟨b1, o1, rfl, hb1, h0, h1⟩ := Put.row (hx.later hkk (Nat.le_refl _)) k hlt
      obtain ⟨b2, o2, rfl, hb2, j0, j1⟩ := Put.row (hy.later hkk (Nat.le_refl _)) k hlt
      have x0 := fun g : Later wr => g.some h0
      have y0 := fun g : Later wr => g.some j0
      have x1 := fun g : Later wr => g.some h1
      have y1 := fun g : Later wr => g.some j1
      go_upto_region 6 with fail
      refine Later.region (by kernel_rfl) (by kernel_rfl) ?_
      repeat (first | go_big_quiet_skip | (go_big_quiet_want; go_big_quiet_op; first | go_big_quiet_on | (apply Exists.intro; refine ⟨fun g => ?_, ?_⟩; (focus (first | fail)); go_big_quiet_on)))
      refine wpQuiet_nil ?_
      intro gg
      have hkgg := Kept.drop hkk gg.ok
      go_wp2
      go_round
      case rel => exact ⟨k + 1, by omega, by go_num, by (repeat (first | with_reducible exact Below.refl _ _ | with_reducible assumption | with_reducible refine Kept.drop ?_ (by with_reducible assumption) | with_reducible refine Kept.alloc ?_ _ | ((with_reducible refine Below.setCell ?_ ?_ _); rotate_left 1; (focus (first | exact Nat.le_refl _ | (simp; done) | (simp; omega) | exact Below.size (by with_reducible assumption) | (refine Kept.size ?_; (repeat (first | with_reducible exact Below.refl _ _ | with_reducible assumption | with_reducible refine Kept.drop ?_ (by with_reducible assumption) | with_reducible refine Kept.alloc ?_ _ | with_reducible refine Below.drew ?_)))))) | with_reducible refine Below.drew ?_))⟩
      case measure => simp [intOf]; omega
    · obtain rfl : k = xs.length := by omega
      go_wp2
      go_ret
      exact ⟨rfl, hkk⟩

theorem f_kept (a b : Option Addr) (c d : Nat) (xs : List Load) (w : World) (hx : Row Load.cells 4 w.heap.size w a xs) (hy : Row Load.cells 4 w.heap.size w b xs) (hc : xs.length ≤ c) (hd : xs.length ≤ d) (hM : c ≤ maxLen) (hN : d ≤ maxLen) :
    Calls Try.prog 30 #[.slice a xs.length c, .slice b xs.length d] w fun e w' => e = .returned (.bool true) ∧ Kept w w' := by
  unfold maxLen at hM hN
  go_enter Try.func30, Try.ntmps30
  go_wp2
  go_loopw [8] (fun i wr => ∃ k : Nat, k ≤ xs.length ∧ i = .int .i64 k ∧ Kept w wr) (fun i _ => xs.length - (intOf i).toNat)
  case atStart => exact ⟨0, Nat.zero_le _, rfl, Below.refl _ _⟩
  case round =>
    obtain ⟨k, hk, rfl, hkk⟩ := hrel
    by_cases hlt : k < xs.length
    · obtain ⟨b1, o1, rfl, hb1, h0, h1, h2, h3⟩ := Load.row (hx.later hkk (Nat.le_refl _)) k hlt
      obtain ⟨b2, o2, rfl, hb2, j0, j1, j2, j3⟩ := Load.row (hy.later hkk (Nat.le_refl _)) k hlt
      have x0 := fun g : Later wr => g.some h0
      have y0 := fun g : Later wr => g.some j0
      have x1 := fun g : Later wr => g.some h1
      have y1 := fun g : Later wr => g.some j1
      have x2 := fun g : Later wr => g.some h2
      have y2 := fun g : Later wr => g.some j2
      have x3 := fun g : Later wr => g.some h3
      have y3 := fun g : Later wr => g.some j3
      go_upto_region 4 with fail
      refine Later.region (by kernel_rfl) (by kernel_rfl) ?_
      repeat (first | go_big_quiet_skip | (go_big_quiet_want; go_big_quiet_op; first | go_big_quiet_on | (apply Exists.intro; refine ⟨fun g => ?_, ?_⟩; (focus (first | fail)); go_big_quiet_on)))
      refine wpQuiet_nil ?_
      intro gg
      have hkgg := Kept.drop hkk gg.ok
      go_wp2
      go_round
      case rel => exact ⟨k + 1, by omega, by go_num, by (repeat (first | with_reducible exact Below.refl _ _ | with_reducible assumption | with_reducible refine Kept.drop ?_ (by with_reducible assumption) | with_reducible refine Kept.alloc ?_ _ | ((with_reducible refine Below.setCell ?_ ?_ _); rotate_left 1; (focus (first | exact Nat.le_refl _ | (simp; done) | (simp; omega) | exact Below.size (by with_reducible assumption) | (refine Kept.size ?_; (repeat (first | with_reducible exact Below.refl _ _ | with_reducible assumption | with_reducible refine Kept.drop ?_ (by with_reducible assumption) | with_reducible refine Kept.alloc ?_ _ | with_reducible refine Below.drew ?_)))))) | with_reducible refine Below.drew ?_))⟩
      case measure => simp [intOf]; omega
    · obtain rfl : k = xs.length := by omega
      go_wp2
      go_ret
      exact ⟨rfl, hkk⟩

end Go.Proofs.Ytlloijkmpmfapaa
