/-
  The contracts of chapter 4 that the outright statements lean on:
  o_alive o_one o_loads o_holds o_parcels o_inside o_chosen o_sums o_sumsN o_valid o_validN o_validZ o_breach o_checkBreach o_worst o_strained o_balance o_shear o_bend a_balance a_breach a_shear a_drop a_stow a_stow1 a_puts2 a_ints1 a_ints3
  f_Stow f_CheckStow f_Drop f_Strained f_Worst f_Breach f_CheckBreach f_Balance f_Shear f_Bend f_CheckLoads f_CheckLimits f_CheckFrames r_CheckLoads r_CheckLimits r_CheckFrames r_great r_SamePuts r_SameInts f_exact
  mayEnter_is liftsFinal_is make_is open_typed open_agg of_leaves int_of_leaves u16_of_leaves wf_u16 wf_u8 wf_i64 Load Limit Frm Put Hold Parcel Rule row Row owns_row owns_slc owns_cap owns_slice owns_none wpList_copyZ wpList_copy
  infoLoad infoPut infoPut2 infoI infoI2 cell_one_at cell_two_at cells_four ucell_row int_row later_mix held_walk fork_walk tail region at_world at_worldQ blk blkc kpt own thru later take sub block one
  both_is both_err validB_ok valid_not chk_err choice_picks chosen_picks picks_B picks_value kept_law ends_law breach_proof brk_one broken_some broken_none broken_before broken_never t_le prod_t lin_t best_v no_worse pick_at chosenTo_succ
  stow_search search_eq lex_mem good_nil frE_ok argS_ok argS_nat puts_both order_sorted mem_order first_is_best drop_found drop_none strainedTo_succ str_snoc str_same strain worst_bd strainE wtS_all moS_all mo_bd row_ints ncells_at ncells_set run_makeI
-/
import Derived.Laws.CopyOwn
import Derived.Deep.DeepCutAuto
import Derived.OrdersHeld
import Derived.Laws.EntriesVeiled
import Derived.RangeFuncNested
import Derived.RangeFuncBound
import Derived.RangeFuncCalls
import Derived.RangeFuncLeaves
import Derived.Shelf.Abstract
import Derived.Shelf.RegionOpen
import Derived.WalkKit
import Derived.OwnWalkIn
import Derived.TacticsInMore
import Derived.LoopNIn
import Derived.LoopIn
import Derived.Sort.QuietTacIn
import Derived.WideShapes
import Derived.JoinedOf
import Derived.Test.YtlloijkmpmfapaaProg
import Derived.WalkSpells
import Derived.WalkLawsBesides
import Derived.Lib.Hide
import Derived.ProofKit
import Derived.OpenShut
import Derived.ChangeOld
import Derived.Below
import Derived.Deep.Slices
import Derived.Deep.Fields
import Derived.Deep.Quiet
import Derived.Laws.AppendOwn
import Derived.Laws.AppendOwnNone
import Derived.Deep.QuietTactic
import Derived.BigQuiet
import Derived.StillTail
import Derived.WalkSmall
import Derived.OwnWalk
import Derived.Deep.RegionHeld3
import Derived.Scope
import Derived.ControlIn
import Derived.Test.YtlloijkmpmfapaaTrimBaseMA
import Derived.Test.YtlloijkmpmfapaaTrimBaseMB
set_option linter.unusedVariables false
set_option linter.unusedSimpArgs false
/-
  Stowages: whether one is off trim, and the rooms of the holds, in the program.
-/
namespace Go.Proofs.Ytlloijkmpmfapaa
open Go.RowKit Bal Bal.Trim
set_option linter.unusedVariables false
set_option linter.unusedSimpArgs false
set_option maxHeartbeats 4000000
set_option maxRecDepth 10000

theorem f_off (F : Fr) (s : FSpot) (w : World) (hh : FrAt F s w) (ho : FrOk F) (a : Option Addr) (cap : Nat) (x : List Nat) (hx : Row icell 1 w.heap.size w a (ints x)) (hc : x.length ≤ cap) (hM : cap ≤ maxLen) (hl : x.length ≤ F.ps.length) (hs : ∀ k ∈ x, k < F.hs.length) :
    Calls Try.prog 101 #[.agg #[.slice s.ax F.xs.length s.cx, .slice s.ah F.hs.length s.ch, .slice s.ap F.ps.length s.cp, .slice s.ar F.rs.length s.cr, .slice s.am F.ms.length s.cm], .slice a x.length cap] w fun e w' => e = .returned (.bool (offB F x)) ∧ Kept w w' := by
  obtain ⟨RB, hRB⟩ : ∃ RB, RB = offB F x := ⟨_, rfl⟩
  rw [← hRB]
  have HRB := Lib.hid hRB
  clear hRB
  obtain ⟨ax, ah, ap, ar, am, cx, ch, cp, cr, cm⟩ := s
  have hxs := hh.xs
  have hhs := hh.hs
  have hps := hh.ps
  have hms := hh.ms
  have hmc := hh.mc
  have hmM := hh.mM
  have hxz := hh.xz
  dsimp only at hxs hhs hps hms hmc hmM hxz
  have hln := ho.ln
  have hpn := ho.pn
  have hpM := hh.pM
  have hhn := ho.hn
  have hhM := hh.hM
  have hpc := hh.pc
  have hhc := hh.hc
  dsimp only at hpM hhM hpc hhc
  clear hh
  unfold maxLen at hM hpM hhM
  go_enter Try.func101, Try.ntmps101
  go_upto_region 1 with fail
  refine at_world (S := fun W => Blk W w.heap.size #[.slice ax F.xs.length cx, .slice ah F.hs.length ch, .slice ap F.ps.length cp, .slice ar F.rs.length cr, .slice am F.ms.length cm] 149 ∧ Kept w W) ⟨by (exact blk), by (exact kpt)⟩ ?_
  rintro W ⟨r0, hW⟩
  have hzW := hW.size
  have r0c0 := r0.cell 0
  have r0f0 := r0.free 0
  have r0c1 := r0.cell 1
  have r0f1 := r0.free 1
  have r0c2 := r0.cell 2
  have r0f2 := r0.free 2
  have r0c3 := r0.cell 3
  have r0f3 := r0.free 3
  have r0c4 := r0.cell 4
  have r0f4 := r0.free 4
  have r0l := r0.lt
  simp at r0c0 r0c1 r0c2 r0c3 r0c4
  go_wp2_with (go_at_call 91; (with_reducible refine (s_CloneL ax cx F.xs _ (hxs.later (by (exact kpt)) (Nat.le_refl _)) (by omega) hxz).mono ?_); rintro e w1 ⟨v1, rfl, ho1, hb1⟩; refine Blk.thru (b := w.heap.size) (arr := ?_) (t := ?_) ?_ hb1 ?_; rotate_left 2; (focus (exact blk)); intro q0; have q0c0 := q0.cell 0; have q0f0 := q0.free 0; have q0c1 := q0.cell 1; have q0f1 := q0.free 1; have q0c2 := q0.cell 2; have q0f2 := q0.free 2; have q0c3 := q0.cell 3; have q0f3 := q0.free 3; have q0c4 := q0.cell 4; have q0f4 := q0.free 4; have q0l := q0.lt; simp at q0c0 q0c1 q0c2 q0c3 q0c4)
  go_loopw [5, 15] (fun s5 i wr => ∃ j : Nat, j ≤ x.length ∧ i = .int .i64 j ∧ wr.ownsRow W.heap.size 88 4 s5 (F.xs ++ (puts F x).take j).length ((F.xs ++ (puts F x).take j).flatMap Load.cells) ∧ Blk wr w.heap.size #[.slice ax F.xs.length cx, .slice ah F.hs.length ch, .slice ap F.ps.length cp, .slice ar F.rs.length cr, .slice am F.ms.length cm] 149 ∧ Kept W wr) (fun _ i _ => x.length - (intOf i).toNat)
  case atStart => exact ⟨0, Nat.zero_le _, rfl, by simpa using ho1, q0, hb1⟩
  case round =>
    clear ho1 q0 hb1 r0 r0c0 r0f0 r0c1 r0f1 r0c2 r0f2 r0c3 r0f3 r0c4 r0f4 r0l q0c0 q0f0 q0c1 q0f1 q0c2 q0f2 q0c3 q0f3 q0c4 q0f4 q0l
    obtain ⟨j, hj, rfl, hown, r0, hkq⟩ := hrel
    have hkw := Kept.drop hW hkq
    have hzq := hkq.size
    have hlen : (F.xs ++ (puts F x).take j).length ≤ 40 := by rw [List.length_append, List.length_take, puts_len hl]; omega
    have r0l := r0.lt
    by_cases hlt : j < x.length
    · obtain ⟨bs, os, rfl, _, gs⟩ := int_row (hx.later hkw (Nat.le_refl _)) j (by rw [ints_len]; exact hlt)
      have hkj : x[j] < F.hs.length := hs _ (List.getElem_mem hlt)
      have hpj : j < F.ps.length := by omega
      obtain ⟨bh, oh, rfl, hbh, g0, _⟩ := Hold.row (hhs.later hkw (Nat.le_refl _)) x[j] hkj
      obtain ⟨bp, op, rfl, hbp, q0, _⟩ := Parcel.row (hps.later hkw (Nat.le_refl _)) j hpj
      have HP := Lib.hid (puts_take hlt hl)
      have gs2 : wr.cell? ⟨bs, os + j, none⟩ = some (.int .i64 (x[j] : Int)) := by simpa [ints] using gs
      rw [← hsAt_eq hkj] at g0
      rw [← psAt_eq hpj] at q0
      obtain ⟨y, hy⟩ : ∃ y : Put, y = ⟨(hsAt F x[j]).pos, (psAt F j).wt⟩ := ⟨_, rfl⟩
      rw [← hy] at HP
      rw [show (hsAt F x[j]).pos = y.pos by rw [hy]] at g0
      rw [show (psAt F j).wt = y.wt by rw [hy]] at q0
      obtain ⟨k, hk0⟩ : ∃ k, k = x[j] := ⟨_, rfl⟩
      rw [← hk0] at gs2 g0 hkj
      clear hk0 hy gs
      have x0 := fun g : Later wr => g.some g0
      have x1 := fun g : Later wr => g.some q0
      have j0 : (0 : Int) ≤ (j : Int) := by omega
      have j1 : (j : Int) < (F.ps.length : Int) := by omega
      have j2 : (0 : Int) ≤ (k : Int) := by omega
      have j3 : (k : Int) < (F.hs.length : Int) := by omega
      have r0c0 := fun g : Later wr => (r0.later g).cell 0
      have r0f0 := fun g : Later wr => (r0.later g).free 0
      have r0c1 := fun g : Later wr => (r0.later g).cell 1
      have r0f1 := fun g : Later wr => (r0.later g).free 1
      have r0c2 := fun g : Later wr => (r0.later g).cell 2
      have r0f2 := fun g : Later wr => (r0.later g).free 2
      have r0c3 := fun g : Later wr => (r0.later g).cell 3
      have r0f3 := fun g : Later wr => (r0.later g).free 3
      have r0c4 := fun g : Later wr => (r0.later g).cell 4
      have r0f4 := fun g : Later wr => (r0.later g).free 4
      have r0l := fun g : Later wr => (r0.later g).lt
      simp at r0c0 r0c1 r0c2 r0c3 r0c4
      go_upto_region 5 with fail
      refine later_mix [(true, 0), (false, 1), (false, 2), (false, 3), (false, 4), (false, 5), (false, 6), (false, 7), (false, 8), (false, 9), (false, 10), (false, 11), (false, 12), (false, 13), (false, 14)] 15 [16, 17] (by kernel_rfl) (by kernel_rfl) ?_
      simp only [List.filterMap_cons, List.filterMap_nil, List.getElem?_cons_zero, List.getElem?_cons_succ, Option.map_some]
      refine wpSteps_any _ rfl (fun w => rfl) ?_
      simp only [Act.put, List.setIfInBounds_toArray, List.set_cons_zero, List.set_cons_succ]
      repeat (refine wpSteps_quiet ?_; (first | go_big_quiet_skip | (go_big_quiet_want; go_big_quiet_op; first | go_big_quiet_on | (apply Exists.intro; refine ⟨fun g => ?_, ?_⟩; (focus (first | (go_at_call 93; with_reducible exact Later.call (f_exact y _)))); go_big_quiet_on))); refine wpQuiet_nil ?_)
      refine wpSteps_nil ?_
      intro gg
      have hown1 := owns_keep hown gg.ok
      refine wpList_plain rfl fun K1 hK1 => ?_
      go_simp
      refine hK1 _ _ ?_
      (obtain ⟨i0, hi, hz0, hz1, hz2⟩ := info_parts infoLoad; refine wpList_append_own _ rfl _ _ 22 rfl W.heap.size 88 i0 (.agg #[.int .i64 0, .int .i64 0, .int .i64 0, .int .i64 0]) 4 32 Try.underlying22 hi hz0 hz1 hz2 rfl (by decide) _ _ _ rfl (hown1.alloc _) ⟨_, 0, none⟩ 1 1 [.int .i64 y.pos, .int .i64 y.pos, .int .i64 y.wt, .int .i64 y.wt] rfl rfl (cells_four _ _ _ _ _ _) (by intro x hx; simp only [List.mem_cons, List.not_mem_nil, or_false] at hx; rcases hx with rfl | rfl | rfl | rfl <;> rfl) (by unfold maxLen; omega) (by omega) (by have := gg.ok.size; simp only [World.size_alloc] at this ⊢; omega) ?_; intro v9 w9 hown9 hgrow9 hnil9; clear hi hz0 hz1 hz2)
      have hK9 : Kept W w9 := Kept.grown (Kept.alloc (Kept.drop hkq gg.ok) _) (hown1.alloc _) (Nat.le_refl _) hgrow9
      have r09 := (Blk.alloc (r0.keep gg.ok) _).grown (hown1.alloc _) (by decide) hgrow9
      go_wp2
      refine NoPanic.normal ?_
      go_wp2
      go_roundw
      case rel => exact ⟨j + 1, by omega, by go_num, by rw [HP.out, ← List.append_assoc, List.flatMap_append, List.length_append]; exact hown9, r09, hK9⟩
      case measure => simp [intOf]; omega
    · obtain rfl : j = x.length := by omega
      have hT : (puts F x).take x.length = puts F x := List.take_of_length_le (by rw [puts_len hl]; omega)
      rw [hT] at hown
      obtain ⟨L, hL⟩ : ∃ L, L = F.xs ++ puts F x := ⟨_, rfl⟩
      rw [← hL] at hown
      obtain ⟨ad, cpp, rfl, hrow, hcp, hcm⟩ := owns_row (enc := Load.cells) (k := 4) (fun _ => rfl) hown
      have HBr := f_broken ad cpp L am cm F.ms wr hrow hcp hcm (hms.later hkw (Nat.le_refl _)) hmc hmM (by rw [hL]; exact puts_both ho hs hl)
      have hO : offB F x = (broken L F.ms).isSome := by rw [hL]; rfl
      obtain ⟨Ob, hOb⟩ : ∃ Ob, Ob = broken L F.ms := ⟨_, rfl⟩
      rw [← hOb] at HBr hO
      have HO := Lib.hid hO
      clear hOb hO hL hown hrow
      have r0c0 := r0.cell 0
      have r0f0 := r0.free 0
      have r0c1 := r0.cell 1
      have r0f1 := r0.free 1
      have r0c2 := r0.cell 2
      have r0f2 := r0.free 2
      have r0c3 := r0.cell 3
      have r0f3 := r0.free 3
      have r0c4 := r0.cell 4
      have r0f4 := r0.free 4
      have r0l := r0.lt
      simp at r0c0 r0c1 r0c2 r0c3 r0c4
      go_wp2_with (go_at_call 72; (with_reducible refine HBr.mono ?_); rintro e w7 ⟨v7, rfl, ho7, hb7⟩; obtain ⟨ad7, cp7, rfl, hr7, hc7, hm7⟩ := owns_row (enc := Put.cells) (k := 2) (fun _ => rfl) ho7; refine Blk.thru (b := w.heap.size) (arr := ?_) (t := ?_) ?_ hb7 ?_; rotate_left 2; (focus (exact blk)); intro q0; have q0c0 := q0.cell 0; have q0f0 := q0.free 0; have q0c1 := q0.cell 1; have q0f1 := q0.free 1; have q0c2 := q0.cell 2; have q0f2 := q0.free 2; have q0c3 := q0.cell 3; have q0f3 := q0.free 3; have q0c4 := q0.cell 4; have q0f4 := q0.free 4; have q0l := q0.lt; simp at q0c0 q0c1 q0c2 q0c3 q0c4)
      go_ret
      exact ⟨ret_bool (by rw [HRB.out, HO.out]), by (exact kpt)⟩

theorem row_cells {B : Nat} {w : World} {ad : Option Addr} {xs : List Int} (h : Row icell 1 B w ad xs) (hp : 0 < (xs.map fun n => Value.int .i64 n).length) : ∃ a, ad = some a ∧ ∀ j v, (xs.map fun n => Value.int .i64 n)[j]? = some v → w.cell? (a.add j) = some v := by
  have h0 : 0 < xs.length := by simpa using hp
  obtain ⟨b, off, rfl, _, _⟩ := h 0 xs[0] (List.getElem?_eq_getElem h0)
  refine ⟨_, rfl, fun j v hj => ?_⟩
  rw [List.getElem?_map, Option.map_eq_some_iff] at hj
  obtain ⟨n, hn, rfl⟩ := hj
  obtain ⟨b', off', he, _, hc⟩ := h j n hn
  cases he
  have := hc 0 (.int .i64 n) rfl
  have e : (⟨b, off, none⟩ : Addr).add j = ⟨b, off + j, none⟩ := by unfold Addr.add; split <;> simp_all
  rw [e]
  simpa using this
theorem rooms_splice (F : Fr) (hn : F.hs.length ≤ 5) : (splice [.int .i64 0, .int .i64 0, .int .i64 0, .int .i64 0, .int .i64 0] 0 ((F.hs.map Hold.room).map fun n => Value.int .i64 n)).toArray = #[.int .i64 (leftIn F [] 0), .int .i64 (leftIn F [] 1), .int .i64 (leftIn F [] 2), .int .i64 (leftIn F [] 3), .int .i64 (leftIn F [] 4)] := by
  obtain ⟨l, hl⟩ : ∃ l, l = F.hs := ⟨_, rfl⟩
  have e : ∀ k, leftIn F [] k = (l.getD k default).room := fun k => by rw [left_nil, hl]; rfl
  rw [e, e, e, e, e, ← hl]
  rw [← hl] at hn
  have d : (default : Hold).room = 0 := rfl
  rcases l with _ | ⟨h0, _ | ⟨h1, _ | ⟨h2, _ | ⟨h3, _ | ⟨h4, _ | ⟨h5, l⟩⟩⟩⟩⟩⟩
  all_goals first | (simp at hn; done) | (simp [splice, d]; done) | (simp at hn; omega)
theorem f_rooms (F : Fr) (s : FSpot) (w : World) (hh : FrAt F s w) (hn : F.hs.length ≤ 5) :
    Calls Try.prog 103 #[.agg #[.slice s.ax F.xs.length s.cx, .slice s.ah F.hs.length s.ch, .slice s.ap F.ps.length s.cp, .slice s.ar F.rs.length s.cr, .slice s.am F.ms.length s.cm]] w fun e w' => e = .returned (.agg #[.int .i64 (leftIn F [] 0), .int .i64 (leftIn F [] 1), .int .i64 (leftIn F [] 2), .int .i64 (leftIn F [] 3), .int .i64 (leftIn F [] 4)]) ∧ Kept w w' := by
  have HRS := Lib.hid (rooms_splice F hn)
  obtain ⟨p0, hp0⟩ : ∃ p, p = leftIn F [] 0 := ⟨_, rfl⟩
  obtain ⟨p1, hp1⟩ : ∃ p, p = leftIn F [] 1 := ⟨_, rfl⟩
  obtain ⟨p2, hp2⟩ : ∃ p, p = leftIn F [] 2 := ⟨_, rfl⟩
  obtain ⟨p3, hp3⟩ : ∃ p, p = leftIn F [] 3 := ⟨_, rfl⟩
  obtain ⟨p4, hp4⟩ : ∃ p, p = leftIn F [] 4 := ⟨_, rfl⟩
  rw [← hp0, ← hp1, ← hp2, ← hp3, ← hp4] at HRS ⊢
  clear hp0 hp1 hp2 hp3 hp4
  obtain ⟨ax, ah, ap, ar, am, cx, ch, cp, cr, cm⟩ := s
  have hxs := hh.xs
  have hhs := hh.hs
  have hps := hh.ps
  have hms := hh.ms
  have hmc := hh.mc
  have hmM := hh.mM
  have hxz := hh.xz
  dsimp only at hxs hhs hps hms hmc hmM hxz
  have hhM := hh.hM
  have hhc := hh.hc
  dsimp only at hhM hhc
  clear hh
  unfold maxLen at hhM
  go_enter Try.func103, Try.ntmps103
  go_upto_region 1 with fail
  refine at_world (S := fun W => Blk W w.heap.size #[.slice ax F.xs.length cx, .slice ah F.hs.length ch, .slice ap F.ps.length cp, .slice ar F.rs.length cr, .slice am F.ms.length cm] 149 ∧ Blk W (w.heap.size + 1) #[.int .i64 0, .int .i64 0, .int .i64 0, .int .i64 0, .int .i64 0] 152 ∧ Kept w W) ⟨by (exact blk), by (exact blk), by (exact kpt)⟩ ?_
  rintro W ⟨r0, r1, hW⟩
  have hzW := hW.size
  have r0c0 := r0.cell 0
  have r0f0 := r0.free 0
  have r0c1 := r0.cell 1
  have r0f1 := r0.free 1
  have r0c2 := r0.cell 2
  have r0f2 := r0.free 2
  have r0c3 := r0.cell 3
  have r0f3 := r0.free 3
  have r0c4 := r0.cell 4
  have r0f4 := r0.free 4
  have r0l := r0.lt
  simp at r0c0 r0c1 r0c2 r0c3 r0c4
  go_wp2
  go_loopw [3, 10] (fun s3 i wr => ∃ j : Nat, j ≤ F.hs.length ∧ i = .int .i64 j ∧ wr.ownsRow W.heap.size 3 1 s3 ((F.hs.take j).map Hold.room).length (((F.hs.take j).map Hold.room).flatMap icell) ∧ Blk wr w.heap.size #[.slice ax F.xs.length cx, .slice ah F.hs.length ch, .slice ap F.ps.length cp, .slice ar F.rs.length cr, .slice am F.ms.length cm] 149 ∧ Blk wr (w.heap.size + 1) #[.int .i64 0, .int .i64 0, .int .i64 0, .int .i64 0, .int .i64 0] 152 ∧ Kept W wr) (fun _ i _ => F.hs.length - (intOf i).toNat)
  case atStart => exact ⟨0, Nat.zero_le _, rfl, by simpa using owns_nil (α := Int) (enc := icell), r0, r1, Below.refl _ _⟩
  case round =>
    clear r0 r1 r0c0 r0f0 r0c1 r0f1 r0c2 r0f2 r0c3 r0f3 r0c4 r0f4 r0l
    obtain ⟨j, hj, rfl, hown, r0, r1, hkq⟩ := hrel
    have hkw := Kept.drop hW hkq
    have hzq := hkq.size
    have hlen : ((F.hs.take j).map Hold.room).length ≤ 5 := by rw [List.length_map, List.length_take]; omega
    have r0l := r0.lt
    by_cases hlt : j < F.hs.length
    · obtain ⟨bh, oh, rfl, hbh, g0, g1⟩ := Hold.row (hhs.later hkw (Nat.le_refl _)) j hlt
      have HP := Lib.hid (show (F.hs.take (j + 1)).map Hold.room = (F.hs.take j).map Hold.room ++ [F.hs[j].room] by rw [List.take_succ_eq_append_getElem hlt, List.map_append]; rfl)
      obtain ⟨y, hy⟩ : ∃ y, y = F.hs[j] := ⟨_, rfl⟩
      rw [← hy] at HP g0 g1
      clear hy
      have j0 : (0 : Int) ≤ (j : Int) := by omega
      have j1 : (j : Int) < (F.hs.length : Int) := by omega
      go_wp2_with (at_builtin; obtain ⟨i0, hi, hz0, hz1, hz2⟩ := info_parts infoI2; refine wpList_append_own _ rfl _ _ 63 rfl W.heap.size 3 i0 (.int .i64 0) 1 8 Try.underlying63 hi hz0 hz1 hz2 rfl (by decide) _ _ _ rfl ((hown.alloc _).alloc _) ⟨wr.heap.size + 1, 0, none⟩ 1 1 [.int .i64 y.room] rfl rfl (cell_one_at (by simp) _ _) (fun x hx => by simp at hx; subst hx; rfl) (by unfold maxLen; omega) (by omega) (by simp; omega) ?_; intro v' w9 hown' hgrow hnil; clear hi hz0 hz1 hz2)
      go_roundw
      case rel => exact ⟨j + 1, by omega, by go_num, by rw [HP.out, List.flatMap_append, List.length_append]; exact hown', ((r0.alloc _).alloc _).grown ((hown.alloc _).alloc _) (by decide) hgrow, ((r1.alloc _).alloc _).grown ((hown.alloc _).alloc _) (by decide) hgrow, Kept.grown (Kept.alloc (Kept.alloc hkq _) _) ((hown.alloc _).alloc _) (Nat.le_refl _) hgrow⟩
      case measure => simp [intOf]; omega
    · obtain rfl : j = F.hs.length := by omega
      rw [List.take_length] at hown
      obtain ⟨L, hL⟩ : ∃ L, L = F.hs.map Hold.room := ⟨_, rfl⟩
      rw [← hL] at hown HRS
      have hLn : L.length ≤ 5 := by rw [hL, List.length_map]; exact hn
      obtain ⟨ad, cpp, rfl, hrow, hcp, hcm⟩ := owns_row (enc := icell) (k := 1) (fun _ => rfl) hown
      obtain ⟨CS, hCS⟩ : ∃ CS, CS = L.map fun n => Value.int .i64 n := ⟨_, rfl⟩
      have hCSl : CS.length = L.length := by rw [hCS, List.length_map]
      have HCO := Lib.hid (show ∀ V, Kept wr V → 0 < CS.length → ∃ a, ad = some a ∧ ∀ j v, CS[j]? = some v → V.cell? (a.add j) = some v from fun V hV hp => by rw [hCS] at hp ⊢; exact row_cells (hrow.later hV (Nat.le_refl _)) hp)
      have HCL := Lib.hid (show CS.length = Nat.min L.length 5 by rw [hCSl]; exact (Nat.min_eq_left hLn).symm)
      have HCF := Lib.hid (show 0 + CS.length ≤ ([.int .i64 0, .int .i64 0, .int .i64 0, .int .i64 0, .int .i64 0] : List Value).length by simp only [List.length_cons, List.length_nil]; omega)
      have HC1 := Lib.hid (show ∀ v ∈ CS, v.oneCell' = true from fun v hv => by rw [hCS] at hv; obtain ⟨n, _, rfl⟩ := List.mem_map.1 hv; rfl)
      rw [← hCS] at HRS
      have r1c0 := r1.lt
      clear hown hCS hL hrow
      have r1n : w.heap.size + 1 ≠ wr.heap.size := by omega
      have r1m : wr.heap.size ≠ w.heap.size + 1 := by omega
      go_upto_region 8 with fail
      go_wp2_with (refine wpList_copy_splice rfl _ _ 63 63 rfl 3 rfl (by kernel_rfl) _ _ _ _ _ _ rfl rfl wr.heap.size 0 [.int .i64 0, .int .i64 0, .int .i64 0, .int .i64 0, .int .i64 0] 152 (Blk.new (w := wr)) CS HCL.out (fun hp => ⟨rfl, HCO.out _ (Kept.alloc (Below.refl _ _) _) hp⟩) HCF.out HC1.out wr.heap.size _ (Below.refl _ _) (Nat.le_refl _) ?_; intro w9 hg9 hb9; have q9 : Blk w9 wr.heap.size #[.int .i64 p0, .int .i64 p1, .int .i64 p2, .int .i64 p3, .int .i64 p4] 152 := (by have := hg9.out; rw [HRS.out] at this; exact this); have k9 : Kept wr w9 := Below.trans (Kept.alloc (Below.refl _ _) _) hb9; have s1 := r1.keep k9; have q9c0 := q9.cell 0; have q9f0 := q9.free 0; have q9c1 := q9.cell 1; have q9f1 := q9.free 1; have q9c2 := q9.cell 2; have q9f2 := q9.free 2; have q9c3 := q9.cell 3; have q9f3 := q9.free 3; have q9c4 := q9.cell 4; have q9f4 := q9.free 4; have q9l := q9.lt; simp at q9c0 q9c1 q9c2 q9c3 q9c4; have s1c0 := s1.cell 0; have s1f0 := s1.free 0; have s1c1 := s1.cell 1; have s1f1 := s1.free 1; have s1c2 := s1.cell 2; have s1f2 := s1.free 2; have s1c3 := s1.cell 3; have s1f3 := s1.free 3; have s1c4 := s1.cell 4; have s1f4 := s1.free 4; have s1l := s1.lt; simp at s1c0 s1c1 s1c2 s1c3 s1c4)
      exact bodyPost_ret (v := .agg #[.int .i64 p0, .int .i64 p1, .int .i64 p2, .int .i64 p3, .int .i64 p4]) (by simp [results, Try.results103, go_sem, s1c0, s1c1, s1c2, s1c3, s1c4, s1f0, s1f1, s1f2, s1f3, s1f4, s1l, r1n, r1m]) rfl ⟨rfl, by (exact kpt)⟩

end Go.Proofs.Ytlloijkmpmfapaa

/-
  Stowages: whether one has an error, in the program.
-/
namespace Go.Proofs.Ytlloijkmpmfapaa
open Go.RowKit Bal Bal.Trim
set_option linter.unusedVariables false
set_option linter.unusedSimpArgs false
set_option maxHeartbeats 4000000
set_option maxRecDepth 10000

/-- whether a number is none of a hold -/
def outB (H : Nat) (k : Int) : Bool := !inB k 0 (H - 1)
theorem f_CheckStow1 (x : Int) (w : World) (H : Nat) (ah : Option Addr) (ch : Nat) (n1 : Nat) (k1 : Blk w n1 #[.slice ah H ch] 73) (g1 : H ≤ 1000000) (g2 : H ≤ ch) :
    Calls Try.prog 107 #[.int .i64 x, .pointer (some ⟨n1, 0, none⟩)] w fun e w' => e = .returned (.bool (outB H x)) ∧ Kept w w' := by
  have k1c := k1.cell 0
  have k1l := k1.lt
  simp at k1c
  have u1 : wrap64 ((H : Int) - 1) = (H : Int) - 1 := by unfold wrap64; omega
  have u2 : IntKind.i64.wrap ((H : Int) - 1) = (H : Int) - 1 := by rw [IntKind.wrap_i64]; omega
  obtain ⟨V, hV⟩ : ∃ V, V = inB x 0 (H - 1) := ⟨_, rfl⟩
  have HV := Lib.hid hV
  unfold outB
  rw [← hV]
  clear hV
  go_enter Try.func107, Try.ntmps107
  go_wp2_with (go_at_call 68; (with_reducible refine (f_ranged _ _ _ _).mono ?_); rw [← HV.out]; rintro e w1 ⟨rfl, rfl⟩)
  go_ret
  exact ⟨rfl, Below.refl _ _⟩

theorem s_IndexI (a : Option Addr) (cap : Nat) (xs : List Int) (w : World) (hx : Row icell 1 w.heap.size w a xs) (h1 : xs.length ≤ 1000000) (H : Nat) (ah : Option Addr) (ch : Nat) (n1 : Nat) (k1 : Blk w n1 #[.slice ah H ch] 73) (g1 : H ≤ 1000000) (g2 : H ≤ ch) :
    Calls Try.prog 126 #[.slice a xs.length cap, .func (.func 107) #[] #[.pointer (some ⟨n1, 0, none⟩)]] w fun e w' => (∃ r : Int, e = .returned (.int .i64 r) ∧ decide (0 ≤ r) = xs.any (outB H) ∧ -1 ≤ r) ∧ Kept w w' := by
  obtain ⟨R, hR⟩ : ∃ R, R = xs.any (outB H) := ⟨_, rfl⟩
  have HR := Lib.hid hR
  rw [← hR]
  clear hR
  go_enter Try.func126, Try.ntmps126
  go_wp2
  go_loopw [8] (fun i wr => ∃ k : Nat, k ≤ xs.length ∧ i = .int .i64 k ∧ (xs.take k).any (outB H) = false ∧ Kept w wr) (fun i _ => xs.length - (intOf i).toNat)
  case atStart => exact ⟨0, Nat.zero_le _, rfl, by simp, Below.refl _ _⟩
  case round =>
    obtain ⟨k, hk, rfl, ha', hb⟩ := hrel
    have ha := Lib.hid ha'
    clear ha'
    by_cases hlt : k < xs.length
    · obtain ⟨b0, off0, rfl, hbl0, g0⟩ := int_row (hx.later hb (Nat.le_refl _)) k hlt
      have HB := Lib.hid (show (outB H) xs[k] = true → R = true from fun hv => by rw [HR.out]; exact List.any_eq_true.2 ⟨_, List.getElem_mem hlt, hv⟩)
      have HT := Lib.hid (show (outB H) xs[k] = false → (xs.take (k + 1)).any (outB H) = false from fun hv => by rw [List.take_succ_eq_append_getElem hlt, List.any_append, ha.out]; simp [hv])
      obtain ⟨x, hx0⟩ : ∃ x, x = xs[k] := ⟨_, rfl⟩
      rw [← hx0] at HB HT g0
      clear hx0
      have hcall := fun (W : World) (hk : Kept w W) => f_CheckStow1 x W H ah ch n1 (k1.keep hk) g1 g2
      obtain ⟨V, hV⟩ : ∃ V, V = (outB H) x := ⟨_, rfl⟩
      rw [← hV] at hcall HB HT
      clear hV
      cases V with
      | true =>
        have HF := Lib.hid (HB.out rfl)
        clear HB HT
        go_wp2_with (go_at_call 107; refine (hcall _ (by (exact kpt))).mono ?_; rintro e w1 ⟨rfl, hb1⟩)
        go_ret
        refine ⟨⟨k, rfl, ?_, by omega⟩, by (exact kpt)⟩
        rw [HF.out, decide_eq_true_eq]; omega
      | false =>
        have HF := Lib.hid (HT.out rfl)
        clear HB HT
        go_wp2_with (go_at_call 107; refine (hcall _ (by (exact kpt))).mono ?_; rintro e w1 ⟨rfl, hb1⟩)
        go_roundw
        case rel => exact ⟨k + 1, by omega, by go_num, HF.out, by (exact kpt)⟩
        case measure => simp [intOf]; omega
    · obtain rfl : k = xs.length := by omega
      have HF := Lib.hid (show R = false by rw [HR.out, ← ha.out, List.take_length])
      go_wp2
      go_ret
      refine ⟨⟨-1, rfl, ?_, by omega⟩, hb⟩
      rw [HF.out]; rfl
theorem s_ContainsI (a : Option Addr) (cap : Nat) (xs : List Int) (w : World) (hx : Row icell 1 w.heap.size w a xs) (h1 : xs.length ≤ 1000000) (H : Nat) (ah : Option Addr) (ch : Nat) (n1 : Nat) (k1 : Blk w n1 #[.slice ah H ch] 73) (g1 : H ≤ 1000000) (g2 : H ≤ ch) :
    Calls Try.prog 106 #[.slice a xs.length cap, .func (.func 107) #[] #[.pointer (some ⟨n1, 0, none⟩)]] w fun e w' => e = .returned (.bool (xs.any (outB H))) ∧ Kept w w' := by
  obtain ⟨R, hR⟩ : ∃ R, R = xs.any (outB H) := ⟨_, rfl⟩
  have hcall := s_IndexI a cap xs w hx h1 H ah ch n1 k1 g1 g2
  rw [← hR] at hcall ⊢
  clear hR
  go_enter Try.func106, Try.ntmps106
  go_wp2_with (go_at_call 126; refine hcall.mono ?_; rintro e w1 ⟨⟨r, rfl, hr1, hr2⟩, hb1⟩)
  go_ret
  refine ⟨ret_bool ?_, hb1⟩
  rw [← hr1]

theorem rv_set {F : Fr} {s : List Nat} {k : Nat} (hk : k < 5) (hs : s.length < F.ps.length) : (#[.int .i64 (leftIn F s 0), .int .i64 (leftIn F s 1), .int .i64 (leftIn F s 2), .int .i64 (leftIn F s 3), .int .i64 (leftIn F s 4)] : Array Value).setIfInBounds k (.int .i64 (leftIn F s k - (psAt F s.length).wt)) = #[.int .i64 (leftIn F (s ++ [k]) 0), .int .i64 (leftIn F (s ++ [k]) 1), .int .i64 (leftIn F (s ++ [k]) 2), .int .i64 (leftIn F (s ++ [k]) 3), .int .i64 (leftIn F (s ++ [k]) 4)] := by
  rcases (show k = 0 ∨ k = 1 ∨ k = 2 ∨ k = 3 ∨ k = 4 by omega) with rfl | rfl | rfl | rfl | rfl <;> simp [left_snoc _ _ hs]
theorem rv_cell {F : Fr} {s : List Nat} {k : Nat} (hk : k < 5) : (#[.int .i64 (leftIn F s 0), .int .i64 (leftIn F s 1), .int .i64 (leftIn F s 2), .int .i64 (leftIn F s 3), .int .i64 (leftIn F s 4)] : Array Value)[k]? = some (.int .i64 (leftIn F s k)) := by
  rcases (show k = 0 ∨ k = 1 ∨ k = 2 ∨ k = 3 ∨ k = 4 by omega) with rfl | rfl | rfl | rfl | rfl <;> rfl
theorem rooms_min {F : Fr} {x : List Nat} (hn : F.hs.length ≤ 5) (hs : ∀ k ∈ x, k < F.hs.length) : (lmin [leftIn F x 0, leftIn F x 1, leftIn F x 2, leftIn F x 3, leftIn F x 4] < 0 → faultS F x = 44) ∧ (¬ lmin [leftIn F x 0, leftIn F x 1, leftIn F x 2, leftIn F x 3, leftIn F x 4] < 0 → roomsOk F x = true) := by
  have ho := fun j (hj : F.hs.length ≤ j) => left_out (F := F) (s := x) (j := j) hs hj
  have h0 := ho 0
  have h1 := ho 1
  have h2 := ho 2
  have h3 := ho 3
  have h4 := ho 4
  simp only [lmin, List.foldl_cons, List.foldl_nil]
  constructor
  · intro h
    rcases (show leftIn F x 0 < 0 ∨ leftIn F x 1 < 0 ∨ leftIn F x 2 < 0 ∨ leftIn F x 3 < 0 ∨ leftIn F x 4 < 0 by omega) with h | h | h | h | h
    · exact rooms_bad (k := 0) (by omega) h
    · exact rooms_bad (k := 1) (by omega) h
    · exact rooms_bad (k := 2) (by omega) h
    · exact rooms_bad (k := 3) (by omega) h
    · exact rooms_bad (k := 4) (by omega) h
  · intro h
    refine rooms_good fun k hk => ?_
    rcases (show k = 0 ∨ k = 1 ∨ k = 2 ∨ k = 3 ∨ k = 4 by omega) with rfl | rfl | rfl | rfl | rfl <;> omega

theorem f_CheckStow_bad (F : Fr) (s : FSpot) (w : World) (hh : FrAt F s w) (a : Option Addr) (cap : Nat) (t : List Int) (ht : Row icell 1 w.heap.size w a t) (hc : t.length ≤ cap) (hM : cap ≤ maxLen) (he : frE F ≠ 0) :
    Calls Try.prog 46 #[.slice s.ax F.xs.length s.cx, .slice s.ah F.hs.length s.ch, .slice s.ap F.ps.length s.cp, .slice s.ar F.rs.length s.cr, .slice s.am F.ms.length s.cm, .slice a t.length cap] w fun e w' => e = .returned (.int .i64 (frE F)) ∧ Kept w w' := by
  obtain ⟨E, hE⟩ : ∃ E, E = frE F := ⟨_, rfl⟩
  have HE := Lib.hid hE.symm
  rw [← hE] at he ⊢
  have e1 : (E != 0) = true := by simp [he]
  clear hE
  go_enter Try.func46, Try.ntmps46
  go_wp2_with (go_at_call 99; (with_reducible refine (f_frcheck F s _ (hh.later (by (exact kpt)))).mono ?_); rw [HE.out]; rintro e w1 ⟨rfl, hb1⟩; refine Blk.thru (b := w.heap.size) (arr := ?_) (t := ?_) ?_ hb1 ?_; rotate_left 2; (focus (exact blk)); intro q0; have q0c0 := q0.cell 0; have q0f0 := q0.free 0; have q0l := q0.lt; simp at q0c0; refine Blk.thru (b := w.heap.size + 1) (arr := ?_) (t := ?_) ?_ hb1 ?_; rotate_left 2; (focus (exact blk)); intro q1; have q1c0 := q1.cell 0; have q1f0 := q1.free 0; have q1c1 := q1.cell 1; have q1f1 := q1.free 1; have q1c2 := q1.cell 2; have q1f2 := q1.free 2; have q1c3 := q1.cell 3; have q1f3 := q1.free 3; have q1c4 := q1.cell 4; have q1f4 := q1.free 4; have q1l := q1.lt; simp at q1c0 q1c1 q1c2 q1c3 q1c4)
  go_ret
  exact ⟨rfl, by (exact kpt)⟩
theorem f_CheckStow_len (F : Fr) (s : FSpot) (w : World) (hh : FrAt F s w) (a : Option Addr) (cap : Nat) (t : List Int) (ht : Row icell 1 w.heap.size w a t) (hc : t.length ≤ cap) (hM : cap ≤ maxLen) (he : frE F = 0) (hl : t.length ≠ F.ps.length) :
    Calls Try.prog 46 #[.slice s.ax F.xs.length s.cx, .slice s.ah F.hs.length s.ch, .slice s.ap F.ps.length s.cp, .slice s.ar F.rs.length s.cr, .slice s.am F.ms.length s.cm, .slice a t.length cap] w fun e w' => e = .returned (.int .i64 2) ∧ Kept w w' := by
  have HE := Lib.hid he
  have l1 : ((t.length : Int) != (F.ps.length : Int)) = true := by simp; omega
  have l2 : ((t.length : Int) = (F.ps.length : Int)) ↔ False := by simp; omega
  have l3 : ¬ ((t.length : Int) = (F.ps.length : Int)) := by omega
  clear he
  go_enter Try.func46, Try.ntmps46
  go_wp2_with (go_at_call 99; (with_reducible refine (f_frcheck F s _ (hh.later (by (exact kpt)))).mono ?_); rw [HE.out]; rintro e w1 ⟨rfl, hb1⟩; refine Blk.thru (b := w.heap.size) (arr := ?_) (t := ?_) ?_ hb1 ?_; rotate_left 2; (focus (exact blk)); intro q0; have q0c0 := q0.cell 0; have q0f0 := q0.free 0; have q0l := q0.lt; simp at q0c0; refine Blk.thru (b := w.heap.size + 1) (arr := ?_) (t := ?_) ?_ hb1 ?_; rotate_left 2; (focus (exact blk)); intro q1; have q1c0 := q1.cell 0; have q1f0 := q1.free 0; have q1c1 := q1.cell 1; have q1f1 := q1.free 1; have q1c2 := q1.cell 2; have q1f2 := q1.free 2; have q1c3 := q1.cell 3; have q1f3 := q1.free 3; have q1c4 := q1.cell 4; have q1f4 := q1.free 4; have q1l := q1.lt; simp at q1c0 q1c1 q1c2 q1c3 q1c4)
  go_ret
  exact ⟨rfl, by (exact kpt)⟩
theorem f_CheckStow_arg (F : Fr) (s : FSpot) (w : World) (hh : FrAt F s w) (a : Option Addr) (cap : Nat) (t : List Int) (ht : Row icell 1 w.heap.size w a t) (hc : t.length ≤ cap) (hM : cap ≤ maxLen) (he : frE F = 0) (hl : t.length = F.ps.length) (hv : (t.any (outB F.hs.length)) = true) :
    Calls Try.prog 46 #[.slice s.ax F.xs.length s.cx, .slice s.ah F.hs.length s.ch, .slice s.ap F.ps.length s.cp, .slice s.ar F.rs.length s.cr, .slice s.am F.ms.length s.cm, .slice a t.length cap] w fun e w' => e = .returned (.int .i64 2) ∧ Kept w w' := by
  have HE := Lib.hid he
  have HA := Lib.hid hv
  have ho := frE_ok he
  have hn := ho.hn
  have hpn := ho.pn
  have hhc := hh.hc
  have l1 : ((t.length : Int) != (F.ps.length : Int)) = false := by simp [hl]
  have l3 : ((t.length : Int) = (F.ps.length : Int)) = True := by simp [hl]
  have hxl : t.length ≤ 6 := by omega
  clear he hv ho hl
  go_enter Try.func46, Try.ntmps46
  go_wp2_with (first | (go_at_call 99; (with_reducible refine (f_frcheck F s _ (hh.later (by (exact kpt)))).mono ?_); rw [HE.out]; rintro e w1 ⟨rfl, hb1⟩; refine Blk.thru (b := w.heap.size) (arr := ?_) (t := ?_) ?_ hb1 ?_; rotate_left 2; (focus (exact blk)); intro q0; have q0c0 := q0.cell 0; have q0f0 := q0.free 0; have q0l := q0.lt; simp at q0c0; refine Blk.thru (b := w.heap.size + 1) (arr := ?_) (t := ?_) ?_ hb1 ?_; rotate_left 2; (focus (exact blk)); intro q1; have q1c0 := q1.cell 0; have q1f0 := q1.free 0; have q1c1 := q1.cell 1; have q1f1 := q1.free 1; have q1c2 := q1.cell 2; have q1f2 := q1.free 2; have q1c3 := q1.cell 3; have q1f3 := q1.free 3; have q1c4 := q1.cell 4; have q1f4 := q1.free 4; have q1l := q1.lt; simp at q1c0 q1c1 q1c2 q1c3 q1c4) | (go_at_call 106; (with_reducible refine (s_ContainsI a cap t _ (ht.later (by (exact kpt)) (Nat.le_refl _)) (by omega) F.hs.length s.ah s.ch w.heap.size ?_ (by omega) (by omega)).mono ?_); (focus (exact blk)); rw [HA.out]; rintro e w2 ⟨rfl, hb2⟩; refine Blk.thru (b := w.heap.size) (arr := ?_) (t := ?_) ?_ hb2 ?_; rotate_left 2; (focus (exact blk)); intro q0; have q0c0 := q0.cell 0; have q0f0 := q0.free 0; have q0l := q0.lt; simp at q0c0; refine Blk.thru (b := w.heap.size + 1) (arr := ?_) (t := ?_) ?_ hb2 ?_; rotate_left 2; (focus (exact blk)); intro q1; have q1c0 := q1.cell 0; have q1f0 := q1.free 0; have q1c1 := q1.cell 1; have q1f1 := q1.free 1; have q1c2 := q1.cell 2; have q1f2 := q1.free 2; have q1c3 := q1.cell 3; have q1f3 := q1.free 3; have q1c4 := q1.cell 4; have q1f4 := q1.free 4; have q1l := q1.lt; simp at q1c0 q1c1 q1c2 q1c3 q1c4))
  go_ret
  exact ⟨rfl, by (exact kpt)⟩

theorem args_in {H : Nat} {x : List Nat} (hs : ∀ k ∈ x, k < H) : ((ints x).any (outB H)) = false := by
  rw [List.any_eq_false]
  intro y hy
  simp only [ints, List.mem_map] at hy
  obtain ⟨k, hk, rfl⟩ := hy
  have := hs k hk
  simp [outB, inB]
  omega
theorem fr_min (b : Nat) (cs : Array Value) (t : TypeId) (p q r u v : Int) (w : World) (h : Blk w b cs t) (he : cs = #[.int .i64 p, .int .i64 q, .int .i64 r, .int .i64 u, .int .i64 v]) :
    Calls Try.prog 108 #[.slice (some ⟨b, 0, none⟩) 5 5] w fun e w' => e = .returned (.int .i64 (lmin [p, q, r, u, v])) ∧ w = w' := by
  subst he
  exact s_min _ 5 5 [p, q, r, u, v] _ rfl (Row.block (enc := icell) (fun _ => rfl) h rfl) (by decide) (by decide)

theorem f_CheckStow_main (F : Fr) (s : FSpot) (w : World) (hh : FrAt F s w) (a : Option Addr) (cap : Nat) (x : List Nat) (ht : Row icell 1 w.heap.size w a (ints x)) (hc : x.length ≤ cap) (hM : cap ≤ maxLen) (he : frE F = 0) (hl : x.length = F.ps.length) (hs : ∀ k ∈ x, k < F.hs.length) :
    Calls Try.prog 46 #[.slice s.ax F.xs.length s.cx, .slice s.ah F.hs.length s.ch, .slice s.ap F.ps.length s.cp, .slice s.ar F.rs.length s.cr, .slice s.am F.ms.length s.cm, .slice a x.length cap] w fun e w' => e = .returned (.int .i64 (faultS F x)) ∧ Kept w w' := by
  have HE := Lib.hid he
  have ho := frE_ok he
  have HO := Lib.hid ho
  have HS := Lib.hid hs
  have hn := ho.hn
  have hpn := ho.pn
  have hrn := ho.rn
  have hhc := hh.hc
  have hpc := hh.pc
  have hpM := hh.pM
  have hM' := hM
  unfold maxLen at hM' hpM
  have hps := hh.ps
  have HCI := Lib.hid (fun (W : World) (h1 : Kept w W) (h2 : Blk W w.heap.size #[.slice s.ah F.hs.length s.ch] 73) => (by
    have := s_ContainsI a cap (ints x) W (ht.later h1 (Nat.le_refl _)) (by rw [ints_len]; omega) F.hs.length s.ah s.ch w.heap.size h2 (by omega) (by omega)
    rwa [ints_len, args_in hs] at this : Calls Try.prog 106 #[.slice a x.length cap, .func (.func 107) #[] #[.pointer (some ⟨w.heap.size, 0, none⟩)]] W fun e w' => e = .returned (.bool false) ∧ Kept W w'))
  obtain ⟨R, hR⟩ : ∃ R, R = faultS F x := ⟨_, rfl⟩
  have HR := Lib.hid hR
  rw [← hR]
  obtain ⟨OB, hOB⟩ : ∃ OB, OB = offB F x := ⟨_, rfl⟩
  have HOB := Lib.hid hOB
  have l1 : ((x.length : Int) != (F.ps.length : Int)) = false := by simp [hl]
  have l3 : ((x.length : Int) = (F.ps.length : Int)) = True := by simp [hl]
  have HL := Lib.hid hl
  have hxl : x.length ≤ 6 := by omega
  clear he hR hOB ho hs hl
  go_enter Try.func46, Try.ntmps46
  go_upto_region 8 with (first | (go_at_call 99; (with_reducible refine (f_frcheck F s _ (hh.later (by (exact kpt)))).mono ?_); rw [HE.out]; rintro e w1 ⟨rfl, hb1⟩; refine Blk.thru (b := w.heap.size) (arr := ?_) (t := ?_) ?_ hb1 ?_; rotate_left 2; (focus (exact blk)); intro q0; have q0c0 := q0.cell 0; have q0f0 := q0.free 0; have q0l := q0.lt; simp at q0c0; refine Blk.thru (b := w.heap.size + 1) (arr := ?_) (t := ?_) ?_ hb1 ?_; rotate_left 2; (focus (exact blk)); intro q1; have q1c0 := q1.cell 0; have q1f0 := q1.free 0; have q1c1 := q1.cell 1; have q1f1 := q1.free 1; have q1c2 := q1.cell 2; have q1f2 := q1.free 2; have q1c3 := q1.cell 3; have q1f3 := q1.free 3; have q1c4 := q1.cell 4; have q1f4 := q1.free 4; have q1l := q1.lt; simp at q1c0 q1c1 q1c2 q1c3 q1c4) | (go_at_call 106; refine (HCI.out _ (by (exact kpt)) ?_).mono ?_; (focus (exact blk)); rintro e w2 ⟨rfl, hb2⟩; refine Blk.thru (b := w.heap.size) (arr := ?_) (t := ?_) ?_ hb2 ?_; rotate_left 2; (focus (exact blk)); intro q0; have q0c0 := q0.cell 0; have q0f0 := q0.free 0; have q0l := q0.lt; simp at q0c0; refine Blk.thru (b := w.heap.size + 1) (arr := ?_) (t := ?_) ?_ hb2 ?_; rotate_left 2; (focus (exact blk)); intro q1; have q1c0 := q1.cell 0; have q1f0 := q1.free 0; have q1c1 := q1.cell 1; have q1f1 := q1.free 1; have q1c2 := q1.cell 2; have q1f2 := q1.free 2; have q1c3 := q1.cell 3; have q1f3 := q1.free 3; have q1c4 := q1.cell 4; have q1f4 := q1.free 4; have q1l := q1.lt; simp at q1c0 q1c1 q1c2 q1c3 q1c4) | (go_at_call 103; (with_reducible refine (f_rooms F s _ (hh.later (by (exact kpt))) HO.out.hn).mono ?_); rintro e w3 ⟨rfl, hb3⟩; refine Blk.thru (b := w.heap.size) (arr := ?_) (t := ?_) ?_ hb3 ?_; rotate_left 2; (focus (exact blk)); intro q0; have q0c0 := q0.cell 0; have q0f0 := q0.free 0; have q0l := q0.lt; simp at q0c0; refine Blk.thru (b := w.heap.size + 1) (arr := ?_) (t := ?_) ?_ hb3 ?_; rotate_left 2; (focus (exact blk)); intro q1; have q1c0 := q1.cell 0; have q1f0 := q1.free 0; have q1c1 := q1.cell 1; have q1f1 := q1.free 1; have q1c2 := q1.cell 2; have q1f2 := q1.free 2; have q1c3 := q1.cell 3; have q1f3 := q1.free 3; have q1c4 := q1.cell 4; have q1f4 := q1.free 4; have q1l := q1.lt; simp at q1c0 q1c1 q1c2 q1c3 q1c4))
  refine at_world (S := fun W => Blk W w.heap.size #[.slice s.ah F.hs.length s.ch] 73 ∧ Blk W (w.heap.size + 1) #[.slice s.ax F.xs.length s.cx, .slice s.ah F.hs.length s.ch, .slice s.ap F.ps.length s.cp, .slice s.ar F.rs.length s.cr, .slice s.am F.ms.length s.cm] 149 ∧ Blk W w3.heap.size #[.int .i64 (leftIn F [] 0), .int .i64 (leftIn F [] 1), .int .i64 (leftIn F [] 2), .int .i64 (leftIn F [] 3), .int .i64 (leftIn F [] 4)] 152 ∧ Kept w W ∧ w.heap.size + 1 < w3.heap.size) ⟨by (exact blk), by (exact blk), by (exact blk), by (exact kpt), q1l⟩ ?_
  rintro W ⟨r0, r1, r3, hW, hn3⟩
  obtain ⟨n3, hn30⟩ : ∃ n3, n3 = w3.heap.size := ⟨_, rfl⟩
  rw [← hn30] at r3 hn3 ⊢
  clear hn30 q0 q0c0 q0f0 q0l q1 q1c0 q1f0 q1c1 q1f1 q1c2 q1f2 q1c3 q1f3 q1c4 q1f4 q1l
  go_wp2
  go_loopw [45] (fun i wr => ∃ j : Nat, j ≤ x.length ∧ i = .int .i64 j ∧ Blk wr w.heap.size #[.slice s.ah F.hs.length s.ch] 73 ∧ Blk wr (w.heap.size + 1) #[.slice s.ax F.xs.length s.cx, .slice s.ah F.hs.length s.ch, .slice s.ap F.ps.length s.cp, .slice s.ar F.rs.length s.cr, .slice s.am F.ms.length s.cm] 149 ∧ Blk wr n3 #[.int .i64 (leftIn F (x.take j) 0), .int .i64 (leftIn F (x.take j) 1), .int .i64 (leftIn F (x.take j) 2), .int .i64 (leftIn F (x.take j) 3), .int .i64 (leftIn F (x.take j) 4)] 152 ∧ Kept w wr) (fun i _ => x.length - (intOf i).toNat)
  case atStart => exact ⟨0, Nat.zero_le _, rfl, r0, r1, r3, hW⟩
  case round =>
    clear r0 r1 r3
    obtain ⟨j, hj, rfl, r0, r1, r3, hkk⟩ := hrel
    have r3l := r3.lt
    by_cases hlt : j < x.length
    · obtain ⟨bs, os, rfl, _, gs⟩ := int_row (ht.later hkk (Nat.le_refl _)) j (by rw [ints_len]; exact hlt)
      have hkj : x[j] < F.hs.length := HS.out _ (List.getElem_mem hlt)
      have hpj : j < F.ps.length := by have := HL.out; omega
      obtain ⟨bp, op, hpe, hbp, q0, _⟩ := Parcel.row (hps.later hkk (Nat.le_refl _)) j hpj
      have gs2 : wr.cell? ⟨bs, os + j, none⟩ = some (.int .i64 (x[j] : Int)) := by simpa [ints] using gs
      have hsl : (x.take j).length = j := by rw [List.length_take]; omega
      have hset := rv_set (F := F) (s := x.take j) (k := x[j]) (by omega) (by have := HL.out; omega)
      rw [← List.take_succ_eq_append_getElem hlt, hsl] at hset
      have g3 := r3.cell x[j]
      rw [rv_cell (F := F) (s := x.take j) (k := x[j]) (by omega)] at g3
      have g3f := r3.free x[j]
      have hb1 := left_bd HO.out (x.take j) x[j]
      have hb2 := parcel_bd (HO.out.pB _ (List.getElem_mem hpj))
      rw [← psAt_eq hpj] at q0 hb2
      have r3k := fun v => r3.set x[j] v
      obtain ⟨k, hk0⟩ : ∃ k, k = x[j] := ⟨_, rfl⟩
      obtain ⟨L, hL⟩ : ∃ L, L = leftIn F (x.take j) k := ⟨_, rfl⟩
      obtain ⟨P, hP⟩ : ∃ P, P = (psAt F j).wt := ⟨_, rfl⟩
      rw [← hk0] at hset g3 g3f hb1 r3k gs2 hkj
      rw [← hL] at g3 hb1 hset
      rw [← hP] at q0 hb2 hset
      have HSET := Lib.hid hset
      have HK3 := Lib.hid r3k
      have hap : s.ap = some ⟨bp, op, none⟩ := hpe
      have u1 : IntKind.i64.wrap (L - P) = L - P := by rw [IntKind.wrap_i64]; omega
      have u2 : wrap64 (L - P) = L - P := by unfold wrap64; omega
      clear hset hk0 hL hP gs hsl r3k hpe
      have j0 : (0 : Int) ≤ (j : Int) := by omega
      have j1 : (j : Int) < (F.ps.length : Int) := by omega
      have j2 : (0 : Int) ≤ (k : Int) := by omega
      have j3 : (k : Int) < 5 := by omega
      go_upto_region 11 with fail
      rw [hap]
      go_region
      all_goals go_wp2
      all_goals (rw [← hap]; clear hap)
      all_goals go_roundw
      case rel => exact ⟨j + 1, by omega, by go_num, by (exact blk), by (exact blk), by rw [← HSET.out]; exact HK3.out _, by (exact kpt)⟩
      case measure => simp [intOf]; omega
    · obtain rfl : x.length = j := by omega
      rw [List.take_length] at r3
      obtain ⟨hm1, hm2⟩ := rooms_min (F := F) (x := x) hn HS.out
      obtain ⟨p0, hp0⟩ : ∃ p, p = leftIn F x 0 := ⟨_, rfl⟩
      obtain ⟨p1, hp1⟩ : ∃ p, p = leftIn F x 1 := ⟨_, rfl⟩
      obtain ⟨p2, hp2⟩ : ∃ p, p = leftIn F x 2 := ⟨_, rfl⟩
      obtain ⟨p3, hp3⟩ : ∃ p, p = leftIn F x 3 := ⟨_, rfl⟩
      obtain ⟨p4, hp4⟩ : ∃ p, p = leftIn F x 4 := ⟨_, rfl⟩
      rw [← hp0, ← hp1, ← hp2, ← hp3, ← hp4] at r3 hm1 hm2
      obtain ⟨M, hMm⟩ : ∃ M, M = lmin [p0, p1, p2, p3, p4] := ⟨_, rfl⟩
      rw [← hMm] at hm1 hm2
      have HMM := Lib.hid hMm.symm
      have H1 := Lib.hid hm1
      have H2 := Lib.hid hm2
      clear hp0 hp1 hp2 hp3 hp4 hMm hm1 hm2
      have r3n : n3 < wr.heap.size := r3.lt
      have r0c0 := r0.cell 0
      have r0f0 := r0.free 0
      have r0l := r0.lt
      simp at r0c0
      have r1c0 := r1.cell 0
      have r1f0 := r1.free 0
      have r1c1 := r1.cell 1
      have r1f1 := r1.free 1
      have r1c2 := r1.cell 2
      have r1f2 := r1.free 2
      have r1c3 := r1.cell 3
      have r1f3 := r1.free 3
      have r1c4 := r1.cell 4
      have r1f4 := r1.free 4
      have r1l := r1.lt
      simp at r1c0 r1c1 r1c2 r1c3 r1c4
      by_cases hneg : M < 0
      · have HF := Lib.hid (H1.out hneg)
        go_wp2_with (go_at_call 108; (with_reducible refine (fr_min n3 _ _ p0 p1 p2 p3 p4 _ r3 rfl).mono ?_); rw [HMM.out]; rintro e w5 ⟨rfl, rfl⟩)
        go_ret
        exact ⟨ret_int (by rw [HR.out, HF.out]), by (exact kpt)⟩
      · have HRO := Lib.hid (H2.out hneg)
        go_wp2_with (go_at_call 108; (with_reducible refine (fr_min n3 _ _ p0 p1 p2 p3 p4 _ r3 rfl).mono ?_); rw [HMM.out]; rintro e w5 ⟨rfl, rfl⟩)
        refine at_world (S := fun W => Blk W w.heap.size #[.slice s.ah F.hs.length s.ch] 73 ∧ Blk W (w.heap.size + 1) #[.slice s.ax F.xs.length s.cx, .slice s.ah F.hs.length s.ch, .slice s.ap F.ps.length s.cp, .slice s.ar F.rs.length s.cr, .slice s.am F.ms.length s.cm] 149 ∧ Kept w W) ⟨r0, r1, hkk⟩ ?_
        clear r0 r1 r3 hkk r0c0 r0f0 r0l r1c0 r1f0 r1c1 r1f1 r1c2 r1f2 r1c3 r1f3 r1c4 r1f4 r1l r3n r3l H1 H2
        rintro W2 ⟨r0, r1, hW2⟩
        go_loopw [66] (fun i wr => ∃ j : Nat, j ≤ x.length ∧ i = .int .i64 j ∧ (∀ i', i' < j → ∀ j', j' < i' → nearAt F x i' (x.getD i' 0 : Nat) j' = false) ∧ Blk wr w.heap.size #[.slice s.ah F.hs.length s.ch] 73 ∧ Blk wr (w.heap.size + 1) #[.slice s.ax F.xs.length s.cx, .slice s.ah F.hs.length s.ch, .slice s.ap F.ps.length s.cp, .slice s.ar F.rs.length s.cr, .slice s.am F.ms.length s.cm] 149 ∧ Kept w wr) (fun i _ => x.length - (intOf i).toNat)
        case atStart => exact ⟨0, Nat.zero_le _, rfl, by intro i' h; omega, r0, r1, hW2⟩
        case round =>
          clear r0 r1
          obtain ⟨i, hi, rfl, hno', r0, r1, hkk⟩ := hrel
          have HNO := Lib.hid hno'
          clear hno'
          by_cases hlt : i < x.length
          · go_wp2
            go_loopw [70] (fun i2 wr => ∃ j : Nat, j ≤ i ∧ i2 = .int .i64 j ∧ (∀ j', j' < j → nearAt F x i (x.getD i 0 : Nat) j' = false) ∧ Blk wr w.heap.size #[.slice s.ah F.hs.length s.ch] 73 ∧ Blk wr (w.heap.size + 1) #[.slice s.ax F.xs.length s.cx, .slice s.ah F.hs.length s.ch, .slice s.ap F.ps.length s.cp, .slice s.ar F.rs.length s.cr, .slice s.am F.ms.length s.cm] 149 ∧ Kept w wr) (fun i2 _ => i - (intOf i2).toNat)
            case atStart => exact ⟨0, Nat.zero_le _, rfl, by intro j' h; omega, r0, r1, hkk⟩
            case round =>
              clear r0 r1 hkk
              obtain ⟨j, hj, rfl, hno', r0, r1, hkk⟩ := hrel
              have HNJ := Lib.hid hno'
              clear hno'
              by_cases hlt2 : j < i
              · have hjx : j < x.length := by omega
                obtain ⟨bs, os, hae, hbs, gi⟩ := int_row ht i (by rw [ints_len]; exact hlt)
                obtain ⟨bs', os', hae', _, gj⟩ := int_row ht j (by rw [ints_len]; exact hjx)
                obtain ⟨rfl, rfl⟩ : bs = bs' ∧ os = os' := by rw [hae] at hae'; simpa using hae'
                have hki : x[i] < F.hs.length := HS.out _ (List.getElem_mem hlt)
                have hkj : x[j] < F.hs.length := HS.out _ (List.getElem_mem hjx)
                have e1 : x.getD i 0 = x[i] := by simp [List.getD_eq_getElem?_getD, hlt]
                have e2 : x.getD j 0 = x[j] := by simp [List.getD_eq_getElem?_getD, hjx]
                have hne := near_eq (F := F) (s := x) (i := i) (j := j)
                have HS0 := (show nearAt F x i (x.getD i 0 : Nat) j = false → ∀ j', j' < j + 1 → nearAt F x i (x.getD i 0 : Nat) j' = false from fun h j' hj' => by
                  rcases Nat.lt_or_ge j' j with h' | h'
                  · exact HNJ.out j' h'
                  · obtain rfl : j' = j := by omega
                    exact h)
                have HBD := Lib.hid (show nearAt F x i (x.getD i 0 : Nat) j = true → R = 45 from fun h => by rw [HR.out]; exact near_bad HRO.out hlt hlt2 h)
                rw [e1, e2] at hne
                have gi2 : w.cell? ⟨bs, os + i, none⟩ = some (.int .i64 (x[i] : Int)) := by simpa [ints] using gi
                have gj2 : w.cell? ⟨bs, os + j, none⟩ = some (.int .i64 (x[j] : Int)) := by simpa [ints] using gj
                obtain ⟨ti, hti⟩ : ∃ t, t = x[i] := ⟨_, rfl⟩
                obtain ⟨tj, htj⟩ : ∃ t, t = x[j] := ⟨_, rfl⟩
                rw [← hti, ← htj] at hne
                rw [← hti] at gi2 hki
                rw [← htj] at gj2 hkj
                obtain ⟨V, hV⟩ : ∃ V, V = nearB F.rs (psAt F i).cls (psAt F j).cls (gap ti tj) := ⟨_, rfl⟩
                rw [← hV, hti, ← e1] at hne
                rw [hne] at HBD HS0
                have HST := Lib.hid HS0
                clear HS0
                have HN := Lib.hid (fun (g : Later wr) => (by
                  have := f_near F s g.val (hh.later (Kept.drop hkk g.ok)) i j ti tj (by have := HL.out; omega) (by have := HL.out; omega) (by omega) (by omega) (by omega) (by omega) (by omega)
                  rwa [← hV] at this : Calls Try.prog 102 #[.agg #[.slice s.ax F.xs.length s.cx, .slice s.ah F.hs.length s.ch, .slice s.ap F.ps.length s.cp, .slice s.ar F.rs.length s.cr, .slice s.am F.ms.length s.cm], .int .i64 i, .int .i64 j, .int .i64 ti, .int .i64 tj] g.val fun e w' => e = .returned (.bool V) ∧ Kept g.val w'))
                have y0 := fun g : Later wr => ((Kept.drop hkk g.ok).cell (p := ⟨bs, os + i, none⟩) hbs).trans gi2
                have y1 := fun g : Later wr => ((Kept.drop hkk g.ok).cell (p := ⟨bs, os + j, none⟩) hbs).trans gj2
                clear hne e1 e2 gi gj gi2 gj2 hti htj hV hae'
                subst hae
                have j0 : (0 : Int) ≤ (j : Int) := by omega
                have j1 : (j : Int) < (x.length : Int) := by omega
                have j2 : (0 : Int) ≤ (i : Int) := by omega
                have j3 : (i : Int) < (x.length : Int) := by omega
                go_upto_region 21 with fail
                have r1c0 := fun g : Later wr => (r1.later g).cell 0
                have r1f0 := fun g : Later wr => (r1.later g).free 0
                have r1c1 := fun g : Later wr => (r1.later g).cell 1
                have r1f1 := fun g : Later wr => (r1.later g).free 1
                have r1c2 := fun g : Later wr => (r1.later g).cell 2
                have r1f2 := fun g : Later wr => (r1.later g).free 2
                have r1c3 := fun g : Later wr => (r1.later g).cell 3
                have r1f3 := fun g : Later wr => (r1.later g).free 3
                have r1c4 := fun g : Later wr => (r1.later g).cell 4
                have r1f4 := fun g : Later wr => (r1.later g).free 4
                have r1l := fun g : Later wr => (r1.later g).lt
                simp at r1c0 r1c1 r1c2 r1c3 r1c4
                refine Later.region (by kernel_rfl) (by kernel_rfl) ?_
                repeat (first | go_big_quiet_skip | (go_big_quiet_want; go_big_quiet_op; first | go_big_quiet_on | (apply Exists.intro; refine ⟨fun g => ?_, ?_⟩; (focus (first | (go_at_call 102; with_reducible exact Later.call (HN.out g)))); go_big_quiet_on)))
                refine wpQuiet_nil ?_
                intro gg
                have hkgg := Kept.drop hkk gg.ok
                have s0 := r0.later gg
                have s1 := r1.later gg
                cases V with
                | true =>
                  have HB := Lib.hid (HBD.out rfl)
                  go_wp2
                  go_ret
                  exact ⟨ret_int HB.out.symm, by (exact kpt)⟩
                | false =>
                  have HB := Lib.hid (HST.out rfl)
                  go_wp2
                  go_roundw
                  case rel => exact ⟨j + 1, by omega, by go_num, HB.out, s0, s1, by (exact kpt)⟩
                  case measure => simp [intOf]; omega
              · obtain rfl : i = j := by omega
                have HB := Lib.hid (show ∀ i', i' < i + 1 → ∀ j', j' < i' → nearAt F x i' (x.getD i' 0 : Nat) j' = false from fun i' hi' => by
                  rcases Nat.lt_or_ge i' i with h' | h'
                  · exact HNO.out i' h'
                  · obtain rfl : i' = i := by omega
                    exact HNJ.out)
                go_wp2
                go_roundw
                case rel => exact ⟨i + 1, by omega, by go_num, HB.out, r0, r1, hkk⟩
                case measure => simp [intOf]; omega
          · obtain rfl : x.length = i := by omega
            have HNA := Lib.hid (near_good (F := F) (s := x) HNO.out)
            have HRF := Lib.hid (show R = if OB then 46 else 0 by rw [HR.out, HOB.out]; exact fault_last HRO.out HNA.out)
            have r1c0 := r1.cell 0
            have r1f0 := r1.free 0
            have r1c1 := r1.cell 1
            have r1f1 := r1.free 1
            have r1c2 := r1.cell 2
            have r1f2 := r1.free 2
            have r1c3 := r1.cell 3
            have r1f3 := r1.free 3
            have r1c4 := r1.cell 4
            have r1f4 := r1.free 4
            have r1l := r1.lt
            simp at r1c0 r1c1 r1c2 r1c3 r1c4
            cases OB with
            | true =>
              go_wp2_with (go_at_call 101; (with_reducible refine (f_off F s _ (hh.later (by (exact kpt))) HO.out a cap x (ht.later (by (exact kpt)) (Nat.le_refl _)) hc hM (by have := HL.out; omega) HS.out).mono ?_); rw [← HOB.out]; rintro e w6 ⟨rfl, hb6⟩)
              go_ret
              exact ⟨ret_int HRF.out.symm, by (exact kpt)⟩
            | false =>
              go_wp2_with (go_at_call 101; (with_reducible refine (f_off F s _ (hh.later (by (exact kpt))) HO.out a cap x (ht.later (by (exact kpt)) (Nat.le_refl _)) hc hM (by have := HL.out; omega) HS.out).mono ?_); rw [← HOB.out]; rintro e w6 ⟨rfl, hb6⟩)
              go_ret
              exact ⟨ret_int HRF.out.symm, by (exact kpt)⟩

theorem f_CheckStow (F : Fr) (s : FSpot) (w : World) (hh : FrAt F s w) (a : Option Addr) (cap : Nat) (t : List Int) (ht : Row icell 1 w.heap.size w a t) (hc : t.length ≤ cap) (hM : cap ≤ maxLen) :
    Calls Try.prog 46 #[.slice s.ax F.xs.length s.cx, .slice s.ah F.hs.length s.ch, .slice s.ap F.ps.length s.cp, .slice s.ar F.rs.length s.cr, .slice s.am F.ms.length s.cm, .slice a t.length cap] w fun e w' => e = .returned (.int .i64 (checkStowE F t)) ∧ Kept w w' := by
  unfold checkStowE
  by_cases he : frE F = 0
  · rw [if_pos he]
    cases ha : argS F t
    · rw [if_neg (by simp)]
      by_cases hl : t.length = F.ps.length
      · refine f_CheckStow_arg F s w hh a cap t ht hc hM he hl ?_
        rw [List.any_eq_true]
        unfold argS at ha
        rw [decide_eq_true hl, Bool.true_and, List.all_eq_false] at ha
        obtain ⟨k, hk, hv⟩ := ha
        exact ⟨k, hk, by unfold outB; simpa using hv⟩
      · exact f_CheckStow_len F s w hh a cap t ht hc hM he hl
    · rw [if_pos rfl]
      obtain ⟨h1, x, rfl, h2, h3⟩ := argS_ok ha
      rw [h2]
      have := f_CheckStow_main F s w hh a cap x ht (by simpa using hc) hM he (by simpa using h1) h3
      rwa [← List.length_map (f := Int.ofNat)] at this
  · rw [if_neg he]
    exact f_CheckStow_bad F s w hh a cap t ht hc hM he

end Go.Proofs.Ytlloijkmpmfapaa

/-
  A region that draws its order in which a call panics: whatever order is picked, the operations that come up ahead of it only read or call (or make a block), and then it panics. No program in sight.
-/
namespace Bal
open Go Go.RowKit

section
variable {P : Program} {ops : Array Oper} {md : Region.Mode} {C : World → Prop} {Q : Exit → Act → World → Prop}

/-- operation p panics in state a, in every world of the class -/
def DiesAt (P : Program) (ops : Array Oper) (C : World → Prop) (Q : Exit → Act → World → Prop) (p : Nat) (a : Act) : Prop := ∀ w, C w → wpOp P ops Q p (fun _ _ => False) a w
/-- one operation that panics, out of its run -/
theorem DiesAt.of {p : Nat} {o : Oper} {a : Act} (ho : ops[p]? = some o) (hg : o.guard = none) (h : ∀ w, C w → Oper.wp P o a w (fun _ _ => False) Q) : DiesAt P ops C Q p a := fun w hw => by
  unfold wpOp
  simp only [ho]
  have hwt : Region.wanted o (yielded ops a.tmps) = true := by simp [Region.wanted, hg]
  simp only [hwt, if_true]
  exact .inl (h w hw)
end
end Bal

/-
  A region that draws its order, walked once: loads (of cells that the region leaves alone till they are read) and operations that need no world are taken first; what is then left comes up one at a time: a call, a block that is made, a store; it may panic. No program in sight.
-/
namespace Bal
open Go Go.RowKit

section
variable {P : Program} {ops : Array Oper} {md : Region.Mode} {S : World → Prop} {Q : Exit → Act → World → Prop}

/-- what a walk goes on with behind one operation -/
def onward (K : Act → World → Prop) (Q : Exit → Act → World → Prop) : Exit → Act → World → Prop
  | .normal, a, w => K a w
  | .exit i, a, w => Q (.exit i) a w
  | .goto l, a, w => Q (.goto l) a w
  | .ret, a, w => Q .ret a w
  | .panic c, a, w => Q (.panic c) a w
  | .outgrown, a, w => Q .outgrown a w
theorem wpOp_onward {i : Nat} {a : Act} {w : World} {K : Act → World → Prop} (h : wpOp P ops (onward K Q) i K a w) : wpOp P ops Q i K a w := by
  unfold wpOp at *
  split
  · simpa [*] using h
  · rename_i o ho
    simp only [ho] at h
    split
    · rename_i hw
      simp only [hw, if_true] at h
      rcases h with h | ⟨h1, h2⟩
      · refine .inl ?_
        unfold Oper.wp at *
        generalize (execOp a.eval o).run P w = r at *
        cases r with
        | ok n w' =>
          cases n <;> simp only [Oper.upon] at h ⊢
          case enter f args =>
            refine Calls.mono h fun e w'' he => ?_
            cases e with
            | returned u => exact he
            | panicked c => exact he
            | outgrown => exact he
          all_goals exact h
        | halt x w' =>
          cases x <;> simp only [Oper.upon] at h ⊢
          case panic u => exact h
      · exact .inr ⟨h1, h2⟩
    · rename_i hw
      simp only [hw] at h
      exact h

/-- whatever order is picked from here on, and S holds behind every operation but number n -/
def wpAnyE (P : Program) (md : Region.Mode) (ops : Array Oper) (Q : Exit → Act → World → Prop) (S : World → Prop) (n : Nat) : Nat → Array Bool → Act → World → Prop
  | 0, listed, a, w => Region.ready md ops listed = [] ∧ Q .normal a w
  | f + 1, listed, a, w =>
    (Region.ready md ops listed = [] → Q .normal a w) ∧
    ∀ i ∈ Region.ready md ops listed, wpOp P ops Q i (fun a' w' => (i = n ∨ S w') ∧ wpAnyE P md ops Q S n f (listed.setIfInBounds i true) a' w') a w

theorem wpAny_of_E {n : Nat} : ∀ (f : Nat) (listed : Array Bool) (a : Act) (w : World), wpAnyE P md ops Q S n f listed a w → wpAny P md ops Q f listed a w
  | 0, _, _, _, h => h
  | f + 1, _, _, _, h => ⟨h.1, fun i hi => wpOp_mono (fun a' w' h' => wpAny_of_E f _ a' w' h'.2) (h.2 i hi)⟩

/-- number n, if there is one, waits for all others -/
structure LastOk (md : Region.Mode) (ops : Array Oper) (n : Nat) : Prop where
  sink : n < ops.size → Region.sinkB md ops n = true
  chain : n < ops.size → Region.chainB md ops n = true
  last : n < ops.size → n + 1 = ops.size
def LastInv (md : Region.Mode) (ops : Array Oper) (n : Nat) (listed : Array Bool) : Prop := n < ops.size → HeadInv md ops n listed

theorem LastInv.set {n i : Nat} {listed : Array Bool} (hl : LastOk md ops n) (inv : LastInv md ops n listed) (hi : i ∈ Region.ready md ops listed) (hin : i ≠ n) : LastInv md ops n (listed.setIfInBounds i true) := fun hn =>
  (inv hn).set hi (by
    obtain ⟨_, o, ho, _⟩ := mem_ready.1 hi
    have := (Array.getElem?_eq_some_iff.1 ho).1
    have := hl.last hn
    omega)
/-- beside another one that may come up, n may not -/
theorem LastInv.other {n i j : Nat} {listed : Array Bool} (hl : LastOk md ops n) (inv : LastInv md ops n listed) (hi : i ∈ Region.ready md ops listed) (hin : i ≠ n) (hj : j ∈ Region.ready md ops listed) : j ≠ n := by
  rintro rfl
  obtain ⟨_, o, ho, _⟩ := mem_ready.1 hj
  have hn := (Array.getElem?_eq_some_iff.1 ho).1
  obtain ⟨hun, oi, hoi, _⟩ := mem_ready.1 hi
  have h1 := (Array.getElem?_eq_some_iff.1 hoi).1
  have h2 := hl.last hn
  exact tail_waits (hl.sink hn) (hl.chain hn) hn (inv hn) _ i rfl (by omega) hun j (Nat.le_refl _) hj

theorem wpAnyE_first {n i : Nat} {oi : Oper} {v : Value} (hl : LastOk md ops n) (hin : i ≠ n) (hi : ops[i]? = some oi) (hsel : ∀ (j : Nat) (o : Oper) cs b, ops[j]? = some o → o.op ≠ .select cs b)
    (hQ : ∀ c a w, Q (.panic c) (a.put oi.dst v) w → Q (.panic c) a w) :
    ∀ (f : Nat) (listed : Array Bool) (a : Act) (w : World), LastInv md ops n listed →
      (∀ j oj, ops[j]? = some oj → j ≠ i → listed.getD j true = false → (∀ e ∈ oj.after, Region.binds md e = true → e.on ≠ i) → oi.apart ops oj = true) →
      i ∈ Region.ready md ops listed → YieldsIf P ops S oi v a → S w →
      wpAnyE P md ops Q S n f (listed.setIfInBounds i true) (a.put oi.dst v) w → wpAnyE P md ops Q S n (f + 1) listed a w := by
  intro f
  induction f with
  | zero =>
    intro listed a w inv _ hr hy hS H
    refine ⟨fun h => (by rw [h] at hr; cases hr), fun j hj => ?_⟩
    by_cases hji : j = i
    · subst hji; exact hy.wpOp hi hS ⟨.inr hS, H⟩
    · have := ready_mono hj hji
      rw [H.1] at this
      cases this
  | succ f ih =>
    intro listed a w inv hfree hr hy hS H
    refine ⟨fun h => (by rw [h] at hr; cases hr), fun j hj => ?_⟩
    by_cases hji : j = i
    · subst hji; exact hy.wpOp hi hS ⟨.inr hS, H⟩
    · have hjn := inv.other hl hr hin hj
      have h1 := H.2 j (ready_mono hj hji)
      obtain ⟨hjun, oj, hoj, hall⟩ := mem_ready.1 hj
      have hnot : ∀ e ∈ oj.after, Region.binds md e = true → e.on ≠ i := fun e he hb heq => by
        have h1 := hall e he hb
        rw [heq, getD_both (mem_ready.1 hr).1] at h1
        cases h1
      have h2 := wpOp_putIf hoj (hfree j oj hoj hji hjun hnot) (fun cs b => hsel i oi cs b hi) (fun cs b => hsel j oj cs b hoj) hQ hy h1
      have hfree' : ∀ k ok, ops[k]? = some ok → k ≠ i → (listed.setIfInBounds j true).getD k true = false →
          (∀ e ∈ ok.after, Region.binds md e = true → e.on ≠ i) → oi.apart ops ok = true := fun k ok hk hki hun hno => by
        refine hfree k ok hk hki ?_ hno
        by_cases hjk : j = k
        · subst hjk; exact hjun
        · rw [getD_set_ne true hjk] at hun; exact hun
      refine wpOp_mono (fun a' w' h3 => ?_) h2
      have hS' : S w' := h3.2.1.resolve_left hjn
      refine ⟨.inr hS', ih (listed.setIfInBounds j true) a' w' (inv.set hl hj hjn) hfree' (ready_mono hr (Ne.symm hji)) h3.1 hS' ?_⟩
      rw [Array.setIfInBounds_comm _ _ hji]
      exact h3.2.2

/-- THE WALK: 'true' at an operation that yields in every world that meets S; the others come up one at a time -/
def Held (P : Program) (ops : Array Oper) (Q : Exit → Act → World → Prop) (S : World → Prop) : List (Bool × Oper) → Act → World → Prop
  | [], a, w => Q .normal a w
  | (true, o) :: r, a, w => ∃ v, YieldsIf P ops S o v a ∧ Held P ops Q S r (a.put o.dst v) w
  | (false, o) :: r, a, w => wpList P ops (onward (fun a' w' => (r = [] ∨ S w') ∧ Held P ops Q S r a' w') Q) [o] a w
def heldB (md : Region.Mode) (ops : Array Oper) (n : Nat) : List (Bool × Nat) → Array Bool → Bool
  | [], listed => (Region.ready md ops listed).isEmpty
  | (true, i) :: r, listed => (Region.ready md ops listed).contains i && Region.free md ops listed i && decide (i ≠ n) && heldB md ops n r (listed.setIfInBounds i true)
  | (false, i) :: r, listed => decide (Region.ready md ops listed = [i]) && (decide (i = n) == r.isEmpty) && heldB md ops n r (listed.setIfInBounds i true)

theorem wpAnyE_of_held {n : Nat} (hl : LastOk md ops n) (hsel : Region.noSelect ops = true) (hQ : ∀ c a d v w, Q (.panic c) (Act.put a d v) w → Q (.panic c) a w) :
    ∀ (is : List (Bool × Nat)) (l : List (Bool × Oper)) (listed : Array Bool) (a : Act) (w : World), is.map (fun x => (x.1, ops[x.2]?)) = l.map (fun x => (x.1, some x.2)) → LastInv md ops n listed ∨ is = [] → heldB md ops n is listed = true →
    (is = [] ∨ S w) → Held P ops Q S l a w → wpAnyE P md ops Q S n l.length listed a w
  | [], [], listed, a, w, _, _, hB, _, h => ⟨by simpa [heldB] using hB, h⟩
  | [], _ :: _, _, _, _, hm, _, _, _, _ => by simp at hm
  | _ :: _, [], _, _, _, hm, _, _, _, _ => by simp at hm
  | (true, i) :: is, (b, o) :: l, listed, a, w, hm, inv, hB, hS, h => by
    simp only [List.map_cons, List.cons.injEq, Prod.mk.injEq] at hm
    obtain ⟨⟨rfl, h0⟩, hm'⟩ := hm
    simp only [heldB, Bool.and_eq_true, decide_eq_true_eq] at hB
    obtain ⟨⟨⟨hr, hf⟩, hin⟩, hB'⟩ := hB
    obtain ⟨v, hy, hK⟩ := h
    have hr' : i ∈ Region.ready md ops listed := by simpa using hr
    have hS' : S w := hS.resolve_left (by simp)
    have inv' := inv.resolve_right (by simp)
    exact wpAnyE_first hl hin h0 (Region.noSelect_spec hsel) (fun c a w => hQ c a _ _ w) _ listed a w inv' (Region.free_spec h0 hf) hr' hy hS'
      (wpAnyE_of_held hl hsel hQ is l _ _ _ hm' (.inl (inv'.set hl hr' hin)) hB' (.inr hS') hK)
  | (false, i) :: is, (b, o) :: l, listed, a, w, hm, inv, hB, hS, h => by
    simp only [List.map_cons, List.cons.injEq, Prod.mk.injEq] at hm
    obtain ⟨⟨rfl, h0⟩, hm'⟩ := hm
    simp only [heldB, Bool.and_eq_true, decide_eq_true_eq, beq_iff_eq] at hB
    obtain ⟨⟨hr, hlast⟩, hB'⟩ := hB
    have inv' := inv.resolve_right (by simp)
    have hr' : i ∈ Region.ready md ops listed := by rw [hr]; simp
    have hnil : l = [] ↔ is = [] := by
      have := congrArg List.length hm'
      simp only [List.length_map] at this
      rw [← List.length_eq_zero_iff, ← List.length_eq_zero_iff, this]
    refine ⟨fun h1 => (by rw [hr] at h1; cases h1), fun j hj => ?_⟩
    rw [hr] at hj
    have hji : j = i := by simpa using hj
    subst hji
    have hin : j = n ↔ is = [] := by rw [← List.isEmpty_iff, ← hlast]; simp
    refine wpOp_mono (fun a' w' hh => ?_) (wpOp_onward (K := fun a' w' => (l = [] ∨ S w') ∧ Held P ops Q S l a' w') (by
      unfold wpOp
      simp only [h0]
      exact h))
    refine ⟨?_, wpAnyE_of_held hl hsel hQ is l _ _ _ hm' ?_ hB' ?_ hh.2⟩
    · rcases hh.1 with h1 | h1
      · exact .inl (hin.2 (hnil.1 h1))
      · exact .inr h1
    · by_cases hn : j = n
      · exact .inr (hin.1 hn)
      · exact .inl (inv'.set hl hr' hn)
    · rcases hh.1 with h1 | h1
      · exact .inl (hnil.1 h1)
      · exact .inr h1

/-- THE THEOREM: is: the operations as they are walked, 'true' at those that yield under S; n: the one behind which S need not hold, for it waits for all others (or any number beyond the region's). -/
theorem held_walk {P : Program} {id : Nat} {Q : Exit → Act → World → Prop} {a : Act} {w : World} {l : List Oper} (S : World → Prop) (is : List (Bool × Nat)) (n : Nat) (hm : P.follows .mixedOrders = true)
    (hB : (Region.noSelect l.toArray && heldB .any l.toArray n is (Array.replicate l.toArray.size false) && is.all (fun i => decide (i.2 < l.length)) && decide (is.length = l.length) &&
      (decide (l.toArray.size ≤ n) || (Region.sinkB .any l.toArray n && Region.chainB .any l.toArray n && decide (n + 1 = l.toArray.size)))) = true)
    (hQ : ∀ c a d v w, Q (.panic c) (Act.put a d v) w → Q (.panic c) a w) (hS : S w.drew)
    (h : Held P l.toArray Q S (is.filterMap fun x => (l[x.2]?).map fun o => (x.1, o)) a w.drew) : (Code.region id l.toArray true).wp P Q a w := by
  simp only [Bool.and_eq_true, decide_eq_true_eq, List.all_eq_true, Bool.or_eq_true] at hB
  obtain ⟨⟨⟨⟨hsel, hheld⟩, hlt⟩, hlen⟩, hlast⟩ := hB
  obtain ⟨q1, q2⟩ := filterMap_ok2 is hlt
  have hl : LastOk .any l.toArray n := by
    rcases hlast with h1 | ⟨⟨h1, h2⟩, h3⟩
    · exact ⟨fun h => by omega, fun h => by omega, fun h => by omega⟩
    · exact ⟨fun _ => h1, fun _ => h2, fun _ => h3⟩
  have inv0 : LastInv .any l.toArray n (Array.replicate l.toArray.size false) := fun _ =>
    ⟨by simp, fun j oj _ hl => (by rw [getD_replicate_false] at hl; cases hl), fun t _ ht => getD_in (by simpa using ht) (getD_replicate_false _ _)⟩
  refine wp_region_any hm (wpAny_of_E (S := S) (n := n) _ _ _ _ ?_)
  have key := wpAnyE_of_held (P := P) (S := S) (md := .any) (Q := Q) hl hsel hQ is _ _ a w.drew q1 (.inl inv0) hheld (.inr hS) h
  rw [q2, hlen] at key
  simpa using key

/-! ### The moves of a walk -/
theorem held_take {o : Oper} {r : List (Bool × Oper)} {a : Act} {w : World} (v : Value) (hw : Region.wanted o (yielded ops a.tmps) = true) (hy : ∀ w', S w' → (execOp a.eval o).run P w' = .ok (.value v) w') (h : Held P ops Q S r (a.put o.dst v) w) :
    Held P ops Q S ((true, o) :: r) a w := ⟨v, .inl ⟨hw, hy⟩, h⟩
theorem held_one {o : Oper} {r : List (Bool × Oper)} {a : Act} {w : World} (h : wpList P ops (onward (fun a' w' => (r = [] ∨ S w') ∧ Held P ops Q S r a' w') Q) [o] a w) : Held P ops Q S ((false, o) :: r) a w := h
theorem held_on {r : List (Bool × Oper)} {a : Act} {w : World} (hS : S w) (h : Held P ops Q S r a w) : onward (fun a' w' => (r = [] ∨ S w') ∧ Held P ops Q S r a' w') Q .normal a w := ⟨.inr hS, h⟩
theorem held_nil {a : Act} {w : World} (h : Q .normal a w) : Held P ops Q S [] a w := h
end
end Bal

/-
  A region that draws its order: some operations are taken first, two may then come up in either order, the rest is walked as in XHeld. No program in sight.
-/
namespace Bal
open Go Go.RowKit

section
variable {P : Program} {ops : Array Oper} {md : Region.Mode} {S : World → Prop} {Q : Exit → Act → World → Prop}

/-- operations that are taken first: all yield under S -/
def TakenAll (P : Program) (ops : Array Oper) (S : World → Prop) (K : Act → World → Prop) : List Oper → Act → World → Prop
  | [], a, w => K a w
  | o :: r, a, w => ∃ v, YieldsIf P ops S o v a ∧ TakenAll P ops S K r (a.put o.dst v) w
def marked : List Nat → Array Bool → Array Bool
  | [], listed => listed
  | i :: is, listed => marked is (listed.setIfInBounds i true)
def takenB (md : Region.Mode) (ops : Array Oper) : List Nat → Array Bool → Bool
  | [], _ => true
  | i :: is, listed => (Region.ready md ops listed).contains i && Region.free md ops listed i && decide (i < ops.size) && takenB md ops is (listed.setIfInBounds i true)

theorem lastOk_size : LastOk md ops ops.size := ⟨fun h => absurd h (Nat.lt_irrefl _), fun h => absurd h (Nat.lt_irrefl _), fun h => absurd h (Nat.lt_irrefl _)⟩
theorem lastInv_size (listed : Array Bool) : LastInv md ops ops.size listed := fun h => absurd h (Nat.lt_irrefl _)

theorem wpAnyE_of_taken (hsel : Region.noSelect ops = true) (hQ : ∀ c a d v w, Q (.panic c) (Act.put a d v) w → Q (.panic c) a w) {K : Act → World → Prop} {g : Nat} :
    ∀ (is : List Nat) (l : List Oper) (listed : Array Bool) (a : Act) (w : World), is.map (fun i => ops[i]?) = l.map some → takenB md ops is listed = true → S w →
      (∀ a, K a w → wpAnyE P md ops Q S ops.size g (marked is listed) a w) → TakenAll P ops S K l a w → wpAnyE P md ops Q S ops.size (l.length + g) listed a w
  | [], [], listed, a, w, _, _, _, hK, h => by rw [List.length_nil, Nat.zero_add]; exact hK a h
  | [], _ :: _, _, _, _, hm, _, _, _, _ => by simp at hm
  | _ :: _, [], _, _, _, hm, _, _, _, _ => by simp at hm
  | i :: is, o :: l, listed, a, w, hm, hB, hS, hK, h => by
    simp only [List.map_cons, List.cons.injEq] at hm
    obtain ⟨h0, hm'⟩ := hm
    simp only [takenB, Bool.and_eq_true, decide_eq_true_eq] at hB
    obtain ⟨⟨⟨hr, hf⟩, hlt⟩, hB'⟩ := hB
    obtain ⟨v, hy, hT⟩ := h
    have hr' : i ∈ Region.ready md ops listed := by simpa using hr
    rw [show (o :: l).length + g = (l.length + g) + 1 by simp only [List.length_cons]; omega]
    exact wpAnyE_first lastOk_size (by omega) h0 (Region.noSelect_spec hsel) (fun c a w => hQ c a _ _ w) _ listed a w (lastInv_size _) (Region.free_spec h0 hf) hr' hy hS
      (wpAnyE_of_taken hsel hQ is l _ _ _ hm' hB' hS hK hT)

/-- two operations, each ahead of the other, and what is then known of what they yielded -/
def Fork (P : Program) (ops : Array Oper) (Q : Exit → Act → World → Prop) (S : World → Prop) (R : Value → Value → World → Prop) (oi oj : Oper) (K : Act → World → Prop) (a : Act) (w : World) : Prop :=
  wpList P ops (onward (fun a1 w1 => S w1 ∧ wpList P ops (onward (fun a2 w2 => S w2 ∧ ∃ u v, a2 = (a.put oi.dst u).put oj.dst v ∧ R u v w2) Q) [oj] a1 w1) Q) [oi] a w ∧
  wpList P ops (onward (fun a1 w1 => S w1 ∧ wpList P ops (onward (fun a2 w2 => S w2 ∧ ∃ u v, a2 = (a.put oj.dst v).put oi.dst u ∧ R u v w2) Q) [oi] a1 w1) Q) [oj] a w ∧
  ∀ u v w2, S w2 → R u v w2 → K ((a.put oi.dst u).put oj.dst v) w2

theorem wpAnyE_fork {i j n g : Nat} {oi oj : Oper} {R : Value → Value → World → Prop} {K : Act → World → Prop} {listed : Array Bool} {a : Act} {w : World} (h0 : ops[i]? = some oi) (h0' : ops[j]? = some oj)
    (hd : ∀ d, oi.dst = some d → oj.dst ≠ some d) (hr : Region.ready md ops listed = [i, j]) (hri : Region.ready md ops (listed.setIfInBounds i true) = [j]) (hrj : Region.ready md ops (listed.setIfInBounds j true) = [i])
    (hij : i ≠ j) (h : Fork P ops Q S R oi oj K a w) (hK : ∀ a w, S w → K a w → wpAnyE P md ops Q S n g ((listed.setIfInBounds i true).setIfInBounds j true) a w) : wpAnyE P md ops Q S n (g + 2) listed a w := by
  obtain ⟨h1, h2, h3⟩ := h
  have one : ∀ {k : Nat} {o : Oper} {K : Act → World → Prop} {a : Act} {w : World}, ops[k]? = some o → wpList P ops (onward K Q) [o] a w → wpOp P ops Q k K a w := by
    intro k o K a w hk h
    refine wpOp_onward ?_
    unfold wpOp
    simp only [hk]
    exact h
  refine ⟨fun h => (by rw [hr] at h; cases h), fun k hk => ?_⟩
  rw [hr] at hk
  rcases List.mem_cons.1 hk with rfl | hk
  · refine wpOp_mono (fun a1 w1 hh => ⟨.inr hh.1, fun h => (by rw [hri] at h; cases h), fun k2 hk2 => ?_⟩) (one h0 h1)
    rw [hri] at hk2
    obtain rfl : k2 = j := by simpa using hk2
    refine wpOp_mono (fun a2 w2 hh2 => ⟨.inr hh2.1, ?_⟩) (one h0' hh.2)
    obtain ⟨hS2, u, v, rfl, hR⟩ := hh2
    exact hK _ _ hS2 (h3 u v w2 hS2 hR)
  · obtain rfl : k = j := by simpa using hk
    refine wpOp_mono (fun a1 w1 hh => ⟨.inr hh.1, fun h => (by rw [hrj] at h; cases h), fun k2 hk2 => ?_⟩) (one h0' h2)
    rw [hrj] at hk2
    obtain rfl : k2 = i := by simpa using hk2
    refine wpOp_mono (fun a2 w2 hh2 => ⟨.inr hh2.1, ?_⟩) (one h0 hh.2)
    obtain ⟨hS2, u, v, rfl, hR⟩ := hh2
    rw [← Act.put_comm a u v (fun d hd' => hd d hd'), Array.setIfInBounds_comm _ _ (Ne.symm hij)]
    exact hK _ _ hS2 (h3 u v w2 hS2 hR)

/-- THE THEOREM -/
theorem fork_walk {P : Program} {id : Nat} {Q : Exit → Act → World → Prop} {a : Act} {w : World} {l : List Oper} (S : World → Prop) (R : Value → Value → World → Prop) (is1 : List Nat) (i j : Nat) (is2 : List (Bool × Nat)) (hm : P.follows .mixedOrders = true)
    (hB : (Region.noSelect l.toArray && takenB .any l.toArray is1 (Array.replicate l.toArray.size false) && is1.all (fun i => decide (i < l.length)) && decide (i < l.length) && decide (j < l.length) && decide (i ≠ j) &&
      decide (Region.ready .any l.toArray (marked is1 (Array.replicate l.toArray.size false)) = [i, j]) && decide (Region.ready .any l.toArray ((marked is1 (Array.replicate l.toArray.size false)).setIfInBounds i true) = [j]) &&
      decide (Region.ready .any l.toArray ((marked is1 (Array.replicate l.toArray.size false)).setIfInBounds j true) = [i]) &&
      heldB .any l.toArray l.toArray.size is2 (((marked is1 (Array.replicate l.toArray.size false)).setIfInBounds i true).setIfInBounds j true) && is2.all (fun i => decide (i.2 < l.length)) &&
      decide (is1.length + (is2.length + 2) = l.length) && decide ((l[i]?).map (·.dst) ≠ (l[j]?).map (·.dst))) = true)
    (hQ : ∀ c a d v w, Q (.panic c) (Act.put a d v) w → Q (.panic c) a w) (hS : S w.drew)
    (h : TakenAll P l.toArray S (fun a w => ∀ oi oj, l[i]? = some oi → l[j]? = some oj → Fork P l.toArray Q S R oi oj (fun a w => Held P l.toArray Q S (is2.filterMap fun x => (l[x.2]?).map fun o => (x.1, o)) a w) a w) (is1.filterMap fun i => l[i]?) a w.drew) : (Code.region id l.toArray true).wp P Q a w := by
  simp only [Bool.and_eq_true, decide_eq_true_eq, List.all_eq_true] at hB
  obtain ⟨⟨⟨⟨⟨⟨⟨⟨⟨⟨⟨⟨hsel, htk⟩, hlt1⟩, hi⟩, hj⟩, hij⟩, hr⟩, hri⟩, hrj⟩, hheld⟩, hlt2⟩, hlen⟩, hdst⟩ := hB
  obtain ⟨q1, q2⟩ := filterMap_ok2 is2 hlt2
  have p : ∀ is : List Nat, (∀ x ∈ is, x < l.length) → is.map (fun i => l.toArray[i]?) = (is.filterMap fun i => l[i]?).map some ∧ (is.filterMap fun i => l[i]?).length = is.length := by
    intro is
    induction is with
    | nil => simp
    | cons x is ih =>
      intro hx
      have hx0 := hx x (by simp)
      obtain ⟨e1, e2⟩ := ih fun y hy => hx y (by simp [hy])
      have e0 : l[x]? = some l[x] := List.getElem?_eq_getElem hx0
      rw [List.filterMap_cons, e0]
      simp only [List.map_cons, List.length_cons, e1, e2]
      exact ⟨by simp [hx0], trivial⟩
  obtain ⟨p1, p2⟩ := p is1 hlt1
  have ei : l[i]? = some l[i] := List.getElem?_eq_getElem hi
  have ej : l[j]? = some l[j] := List.getElem?_eq_getElem hj
  refine wp_region_any hm (wpAny_of_E (S := S) (n := l.toArray.size) _ _ _ _ ?_)
  have key := wpAnyE_of_taken (P := P) (S := S) (md := .any) (Q := Q) (g := is2.length + 2) hsel hQ is1 _ _ a w.drew p1 htk hS (fun a' hK => by
    have := wpAnyE_fork (P := P) (md := .any) (n := l.toArray.size) (g := is2.length) (i := i) (j := j) (by simp) (by simp) (by
      intro d hd he
      rw [ei, ej] at hdst
      simp only [Option.map_some, ne_eq, Option.some.injEq] at hdst
      exact hdst (by rw [hd, he])) hr hri hrj hij (hK _ _ ei ej) (fun a2 w2 hS2 hH => by
        have := wpAnyE_of_held (P := P) (S := S) (md := .any) (Q := Q) lastOk_size hsel hQ is2 _ _ a2 w2 q1 (.inl (lastInv_size _)) hheld (.inr hS2) hH
        rwa [q2] at this)
    exact this) h
  rw [p2, hlen] at key
  simpa using key
/-! ### The moves of a walk -/
theorem taken_take {K : Act → World → Prop} {o : Oper} {r : List Oper} {a : Act} {w : World} (v : Value) (hw : Region.wanted o (yielded ops a.tmps) = true) (hy : ∀ w', S w' → (execOp a.eval o).run P w' = .ok (.value v) w') (h : TakenAll P ops S K r (a.put o.dst v) w) :
    TakenAll P ops S K (o :: r) a w := ⟨v, .inl ⟨hw, hy⟩, h⟩
theorem taken_nil {K : Act → World → Prop} {a : Act} {w : World} (h : K a w) : TakenAll P ops S K [] a w := h
theorem fork_first {S : World → Prop} {K : Act → World → Prop} {a : Act} {w : World} (hS : S w) (h : K a w) : onward (fun a w => S w ∧ K a w) Q .normal a w := ⟨hS, h⟩
end
end Bal

/-
  Stowages: the search, and Stow, in the program.
-/
namespace Go.Proofs.Ytlloijkmpmfapaa
open Go.RowKit Bal Bal.Trim
set_option linter.unusedVariables false
set_option linter.unusedSimpArgs false
set_option maxHeartbeats 4000000
set_option maxRecDepth 10000

theorem owns_cap {w : World} {base k n m c : Nat} {e : TypeId} {a : Option Addr} {xs : List Value} (h : w.ownsRow base e k (.slice a n c) m xs) : a = none → c = 0 := by
  rintro rfl
  obtain ⟨_, ⟨hv, _⟩ | ⟨g, cap, cur, hv, _⟩⟩ := h
  · cases hv; rfl
  · cases hv
theorem owns_slice {w : World} {base k m : Nat} {e : TypeId} {v : Value} {xs : List Value} (h : w.ownsRow base e k v m xs) : ∃ ad cp, v = .slice ad m cp ∧ w.ownsRow base e k (.slice ad m cp) m xs := by
  obtain ⟨h0, ⟨rfl, rfl⟩ | ⟨g, cap, cur, rfl, hr⟩⟩ := h
  · exact ⟨none, 0, rfl, h0, .inl ⟨rfl, rfl⟩⟩
  · exact ⟨_, _, rfl, h0, .inr ⟨g, cap, cur, rfl, hr⟩⟩
theorem cell_blk {w : World} {g : Nat} {v : Value} {t : TypeId} (h : Blk w g #[v] t) : ∀ j u, [v][j]? = some u → w.cell? ((⟨g, 0, none⟩ : Addr).add j) = some u := by
  intro j u hj
  have hj0 : j = 0 := by
    have := (List.getElem?_eq_some_iff.1 hj).1
    simp at this; omega
  subst hj0
  simp at hj
  subst hj
  have := h.cell 0
  simpa [Addr.add] using this
theorem ints_snoc (x : List Nat) (k : Nat) : ints (x ++ [k]) = ints x ++ [(k : Int)] := by simp [ints]

theorem f_search (F : Fr) (s : FSpot) (ho : FrOk F) (n2 n3 n4 n5 : Nat) : ∀ (m : Nat) (x : List Nat) (w : World), FrAt F s w → Blk w n2 #[.slice s.ap F.ps.length s.cp] 74 → Blk w n3 #[.slice s.ax F.xs.length s.cx, .slice s.ah F.hs.length s.ch, .slice s.ap F.ps.length s.cp, .slice s.ar F.rs.length s.cr, .slice s.am F.ms.length s.cm] 149 → Blk w n4 #[.slice s.ah F.hs.length s.ch] 73 → Blk w n5 #[.func (.func 100) #[] #[.pointer (some ⟨n2, 0, none⟩), .pointer (some ⟨n3, 0, none⟩), .pointer (some ⟨n4, 0, none⟩), .pointer (some ⟨n5, 0, none⟩)]] 151 →
    ∀ (a : Option Addr) (cap : Nat), Row icell 1 w.heap.size w a (ints x) → x.length ≤ cap → cap ≤ maxLen → (a = none → cap = 0) → x.length + m = F.ps.length → (∀ k ∈ x, k < F.hs.length) →
    Calls Try.prog 100 #[.slice a x.length cap, .agg #[.int .i64 (leftIn F x 0), .int .i64 (leftIn F x 1), .int .i64 (leftIn F x 2), .int .i64 (leftIn F x 3), .int .i64 (leftIn F x 4)], .pointer (some ⟨n2, 0, none⟩), .pointer (some ⟨n3, 0, none⟩), .pointer (some ⟨n4, 0, none⟩), .pointer (some ⟨n5, 0, none⟩)] w fun e w' => (∃ (a' : Option Addr) (n' c' : Nat), e = .returned (.tuple #[.slice a' n' c', .bool (search F m x).isSome]) ∧ ∀ y, search F m x = some y → n' = y.length ∧ Row icell 1 w'.heap.size w' a' (ints y) ∧ y.length ≤ c' ∧ c' ≤ maxLen) ∧ Kept w w' := by
  intro m
  induction m with
  | zero =>
    intro x w hh h2 h3 h4 h5 a cap hx hc hM hz hl hs
    have HL := Lib.hid (show x.length = F.ps.length by omega)
    have hpn := ho.pn
    have hxl : x.length ≤ 6 := by omega
    have l1 : ((x.length : Int) == (F.ps.length : Int)) = true := by simp; omega
    have l3 : ((x.length : Int) = (F.ps.length : Int)) = True := by simp; omega
    obtain ⟨OB, hOB⟩ : ∃ OB, OB = offB F x := ⟨_, rfl⟩
    have HOB := Lib.hid hOB
    have HSE := Lib.hid (show search F 0 x = if OB then none else some x by rw [hOB]; exact search_done)
    clear hOB hl
    go_enter Try.func100, Try.ntmps100
    go_upto_region 1 with fail
    refine at_world (S := fun W => Kept w W) (by (exact kpt)) ?_
    intro W hW
    have c2 := (h2.keep hW).cell 0; have c2f := (h2.keep hW).free 0; have c2l := (h2.keep hW).lt
    have c4 := (h4.keep hW).cell 0; have c4f := (h4.keep hW).free 0; have c4l := (h4.keep hW).lt
    have c5 := (h5.keep hW).cell 0; have c5f := (h5.keep hW).free 0; have c5l := (h5.keep hW).lt
    have c30 := (h3.keep hW).cell 0; have c3f0 := (h3.keep hW).free 0; have c31 := (h3.keep hW).cell 1; have c3f1 := (h3.keep hW).free 1; have c32 := (h3.keep hW).cell 2; have c3f2 := (h3.keep hW).free 2; have c33 := (h3.keep hW).cell 3; have c3f3 := (h3.keep hW).free 3; have c34 := (h3.keep hW).cell 4; have c3f4 := (h3.keep hW).free 4; have c3l := (h3.keep hW).lt
    simp at c2 c4 c5 c30 c31 c32 c33 c34
    refine wp_scope_straight ?_
    go_wp2_with (go_at_call 101; (with_reducible refine (f_off F s _ (hh.later (by (exact kpt))) ho a cap x (hx.later (by (exact kpt)) (Nat.le_refl _)) hc hM (by have := HL.out; omega) hs).mono ?_); rw [← HOB.out]; rintro e w6 ⟨rfl, hb6⟩)
    simp only [Exit.noGoto]
    refine bodyPost_ret (v := .tuple #[.slice a x.length cap, .bool (!OB)]) (by simp [results, Try.results100, go_sem]) rfl ⟨⟨a, x.length, cap, ?_, ?_⟩, by (exact kpt)⟩
    · rw [HSE.out]
      cases OB <;> rfl
    · intro y hy
      rw [HSE.out] at hy
      cases OB with
      | true => cases hy
      | false =>
        cases hy
        exact ⟨rfl, hx.later (by (exact kpt)) (Nat.le_refl _), hc, hM⟩
  | succ m ih =>
    intro x w hh h2 h3 h4 h5 a cap hx hc hM hz hl hs
    have hpn := ho.pn
    have hhn := ho.hn
    have hrn := ho.rn
    have hhM := hh.hM
    have hhc := hh.hc
    have hpM := hh.pM
    have hpc := hh.pc
    have hM' := hM
    unfold maxLen at hM' hhM hpM
    have hps := hh.ps
    have hpx : x.length < F.ps.length := by omega
    have hxl : x.length ≤ 6 := by omega
    have HL := Lib.hid hl
    have HS := Lib.hid hs
    have l1 : ((x.length : Int) == (F.ps.length : Int)) = false := by simp; omega
    have l3 : ((x.length : Int) = (F.ps.length : Int)) = False := by simp; omega
    obtain ⟨bp, op, hap, hbp, p0, _⟩ := Parcel.row hps x.length hpx
    rw [← psAt_eq hpx] at p0
    have hb2 := parcel_bd (ho.pB _ (List.getElem_mem hpx))
    rw [← psAt_eq hpx] at hb2
    obtain ⟨P, hP⟩ : ∃ P, P = (psAt F x.length).wt := ⟨_, rfl⟩
    have HP := Lib.hid hP
    rw [← hP] at p0 hb2
    clear hP hl hs
    obtain ⟨O, hO⟩ : ∃ O, O = search F (m + 1) x := ⟨_, rfl⟩
    have HO := Lib.hid hO
    rw [← hO]
    clear hO
    have HAP := Lib.hid hap
    clear hap
    go_enter Try.func100, Try.ntmps100
    go_upto_region 1 with fail
    refine at_world (S := fun W => Blk W w.heap.size #[.int .i64 (leftIn F x 0), .int .i64 (leftIn F x 1), .int .i64 (leftIn F x 2), .int .i64 (leftIn F x 3), .int .i64 (leftIn F x 4)] 152 ∧ Kept w W) ⟨by (exact blk), by (exact kpt)⟩ ?_
    rintro W ⟨r7, hW⟩
    have c2 := (h2.keep hW).cell 0; have c2f := (h2.keep hW).free 0; have c2l := (h2.keep hW).lt
    have c4 := (h4.keep hW).cell 0; have c4f := (h4.keep hW).free 0; have c4l := (h4.keep hW).lt
    have c5 := (h5.keep hW).cell 0; have c5f := (h5.keep hW).free 0; have c5l := (h5.keep hW).lt
    have c30 := (h3.keep hW).cell 0; have c3f0 := (h3.keep hW).free 0; have c31 := (h3.keep hW).cell 1; have c3f1 := (h3.keep hW).free 1; have c32 := (h3.keep hW).cell 2; have c3f2 := (h3.keep hW).free 2; have c33 := (h3.keep hW).cell 3; have c3f3 := (h3.keep hW).free 3; have c34 := (h3.keep hW).cell 4; have c3f4 := (h3.keep hW).free 4; have c3l := (h3.keep hW).lt
    simp at c2 c4 c5 c30 c31 c32 c33 c34
    refine wp_scope_straight ?_
    go_wp2
    refine wp_label ?_
    go_wp2
    go_loopw [30] (fun i wr => ∃ k : Nat, k ≤ F.hs.length ∧ i = .int .i64 k ∧ (∀ j, j < k → stepS F m x j = none) ∧ Blk wr w.heap.size #[.int .i64 (leftIn F x 0), .int .i64 (leftIn F x 1), .int .i64 (leftIn F x 2), .int .i64 (leftIn F x 3), .int .i64 (leftIn F x 4)] 152 ∧ Kept w wr) (fun i _ => F.hs.length - (intOf i).toNat)
    case atStart => exact ⟨0, Nat.zero_le _, rfl, by intro j h; omega, r7, hW⟩
    case round =>
      clear r7 hW c2 c2f c2l c4 c4f c4l c5 c5f c5l c30 c3f0 c31 c3f1 c32 c3f2 c33 c3f3 c34 c3f4 c3l
      obtain ⟨k, hk, rfl, hno', r7, hkk⟩ := hrel
      have HNO := Lib.hid hno'
      clear hno'
      have c2 := (h2.keep hkk).cell 0; have c2f := (h2.keep hkk).free 0; have c2l := (h2.keep hkk).lt
      have c4 := (h4.keep hkk).cell 0; have c4f := (h4.keep hkk).free 0; have c4l := (h4.keep hkk).lt
      have c5 := (h5.keep hkk).cell 0; have c5f := (h5.keep hkk).free 0; have c5l := (h5.keep hkk).lt
      have c30 := (h3.keep hkk).cell 0; have c3f0 := (h3.keep hkk).free 0; have c31 := (h3.keep hkk).cell 1; have c3f1 := (h3.keep hkk).free 1; have c32 := (h3.keep hkk).cell 2; have c3f2 := (h3.keep hkk).free 2; have c33 := (h3.keep hkk).cell 3; have c3f3 := (h3.keep hkk).free 3; have c34 := (h3.keep hkk).cell 4; have c3f4 := (h3.keep hkk).free 4; have c3l := (h3.keep hkk).lt
      simp at c2 c4 c5 c30 c31 c32 c33 c34
      by_cases hlt : k < F.hs.length
      · have hsl := left_same k hpx
        rw [← HP.out] at hsl
        have hset := rv_set (F := F) (s := x) (k := k) (by omega) hpx
        have g7 := rv_cell (F := F) (s := x) (k := k) (by omega)
        rw [← HP.out] at hset
        have hb1 := left_bd ho x k
        obtain ⟨L, hL⟩ : ∃ L, L = leftIn F x k := ⟨_, rfl⟩
        rw [← hL] at hsl hset g7 hb1
        have HSET := Lib.hid hset
        have HSL := Lib.hid hsl
        have HG7 := Lib.hid g7
        have u1 : IntKind.i64.wrap (L - P) = L - P := by rw [IntKind.wrap_i64]; omega
        have u2 : wrap64 (L - P) = L - P := by unfold wrap64; omega
        clear hset hL hsl g7
        have j0 : (0 : Int) ≤ (x.length : Int) := by omega
        have j1 : (x.length : Int) < (F.ps.length : Int) := by omega
        have j2 : (0 : Int) ≤ (k : Int) := by omega
        have j3 : (k : Int) < 5 := by omega
        have r7c0 := r7.cell 0
        have r7f0 := r7.free 0
        have r7c1 := r7.cell 1
        have r7f1 := r7.free 1
        have r7c2 := r7.cell 2
        have r7f2 := r7.free 2
        have r7c3 := r7.cell 3
        have r7f3 := r7.free 3
        have r7c4 := r7.cell 4
        have r7f4 := r7.free 4
        have r7l := r7.lt
        simp at r7c0 r7c1 r7c2 r7c3 r7c4
        go_upto_region 8 with fail
        refine at_world (S := fun V => Blk V wr.heap.size #[.int .i64 (leftIn F x 0), .int .i64 (leftIn F x 1), .int .i64 (leftIn F x 2), .int .i64 (leftIn F x 3), .int .i64 (leftIn F x 4)] 152 ∧ Blk V w.heap.size #[.int .i64 (leftIn F x 0), .int .i64 (leftIn F x 1), .int .i64 (leftIn F x 2), .int .i64 (leftIn F x 3), .int .i64 (leftIn F x 4)] 152 ∧ Kept w V ∧ w.heap.size < wr.heap.size) ⟨by (exact blk), by (exact blk), by (exact kpt), r7.lt⟩ ?_
        rintro V ⟨r8, q7, hV, hnL⟩
        obtain ⟨nL, hnL0⟩ : ∃ nL, nL = wr.heap.size := ⟨_, rfl⟩
        rw [← hnL0] at r8 hnL ⊢
        clear hnL0 r7 r7c0 r7f0 r7c1 r7f1 r7c2 r7f2 r7c3 r7f3 r7c4 r7f4 r7l hkk c2 c2f c2l c4 c4f c4l c5 c5f c5l c30 c3f0 c31 c3f1 c32 c3f2 c33 c3f3 c34 c3f4 c3l
        have g8 := (r8.cell k).trans HG7.out
        have g8f := r8.free k
        have r8l := r8.lt
        have HK8 := Lib.hid (fun v => r8.set k v)
        have c2 := (h2.keep hV).cell 0; have c2f := (h2.keep hV).free 0; have c2l := (h2.keep hV).lt
        have c4 := (h4.keep hV).cell 0; have c4f := (h4.keep hV).free 0; have c4l := (h4.keep hV).lt
        have c5 := (h5.keep hV).cell 0; have c5f := (h5.keep hV).free 0; have c5l := (h5.keep hV).lt
        have c30 := (h3.keep hV).cell 0; have c3f0 := (h3.keep hV).free 0; have c31 := (h3.keep hV).cell 1; have c3f1 := (h3.keep hV).free 1; have c32 := (h3.keep hV).cell 2; have c3f2 := (h3.keep hV).free 2; have c33 := (h3.keep hV).cell 3; have c3f3 := (h3.keep hV).free 3; have c34 := (h3.keep hV).cell 4; have c3f4 := (h3.keep hV).free 4; have c3l := (h3.keep hV).lt
        simp at c2 c4 c5 c30 c31 c32 c33 c34
        have px0 := (hV.cell (p := ⟨bp, op + x.length * 2, none⟩) hbp).trans p0
        have hap := HAP.out
        by_cases hneg : L - P < 0
        · have HNO2 := Lib.hid (show ∀ j, j < k + 1 → stepS F m x j = none from fun j hj => by
            rcases Nat.lt_or_ge j k with h | h
            · exact HNO.out j h
            · obtain rfl : j = k := by omega
              exact step_room (by rw [HSL.out]; exact hneg))
          go_region
          all_goals go_wp2
          all_goals go_roundw
          case rel => exact ⟨k + 1, by omega, by go_num, HNO2.out, by (exact blk), by (exact kpt)⟩
          case measure => simp [intOf]; omega
        · go_region
          all_goals go_wp2
          rw [← hap]
          clear hap px0 c2 c2f c2l c4 c4f c4l c5 c5f c5l c30 c3f0 c31 c3f1 c32 c3f2 c33 c3f3 c34 c3f4 c3l g8 g8f
          refine at_world (S := fun V => Blk V nL #[.int .i64 (leftIn F (x ++ [k]) 0), .int .i64 (leftIn F (x ++ [k]) 1), .int .i64 (leftIn F (x ++ [k]) 2), .int .i64 (leftIn F (x ++ [k]) 3), .int .i64 (leftIn F (x ++ [k]) 4)] 152 ∧ Blk V w.heap.size #[.int .i64 (leftIn F x 0), .int .i64 (leftIn F x 1), .int .i64 (leftIn F x 2), .int .i64 (leftIn F x 3), .int .i64 (leftIn F x 4)] 152 ∧ Kept w V) ⟨by rw [← HSET.out]; exact (HK8.out _).drew, by (exact blk), by (exact kpt)⟩ ?_
          clear r8 q7 hV r8l HK8
          rintro V2 ⟨r8, q7, hV⟩
          go_loopw [50] (fun i2 wq => ∃ i : Nat, i ≤ x.length ∧ i2 = .int .i64 i ∧ (∀ i', i' < i → nearAt F x x.length k i' = false) ∧ Blk wq nL #[.int .i64 (leftIn F (x ++ [k]) 0), .int .i64 (leftIn F (x ++ [k]) 1), .int .i64 (leftIn F (x ++ [k]) 2), .int .i64 (leftIn F (x ++ [k]) 3), .int .i64 (leftIn F (x ++ [k]) 4)] 152 ∧ Blk wq w.heap.size #[.int .i64 (leftIn F x 0), .int .i64 (leftIn F x 1), .int .i64 (leftIn F x 2), .int .i64 (leftIn F x 3), .int .i64 (leftIn F x 4)] 152 ∧ Kept w wq) (fun i2 _ => x.length - (intOf i2).toNat)
          case atStart => exact ⟨0, Nat.zero_le _, rfl, by intro j h; omega, r8, q7, hV⟩
          case round =>
            clear r8 q7 hV
            obtain ⟨i, hi, rfl, hni', r8, q7, hkk⟩ := hrel
            have HNI := Lib.hid hni'
            clear hni'
            by_cases hlt2 : i < x.length
            · obtain ⟨bs, os, hae, hbs, gi⟩ := int_row (hx.later hkk (Nat.le_refl _)) i (by rw [ints_len]; exact hlt2)
              have hki : x[i] < F.hs.length := HS.out _ (List.getElem_mem hlt2)
              have e1 : x.getD i 0 = x[i] := by simp [List.getD_eq_getElem?_getD, hlt2]
              have gi2 : wr.cell? ⟨bs, os + i, none⟩ = some (.int .i64 (x[i] : Int)) := by simpa [ints] using gi
              obtain ⟨V, hV⟩ : ∃ V, V = nearAt F x x.length k i := ⟨_, rfl⟩
              have hV1 : V = nearB F.rs (psAt F i).cls (psAt F x.length).cls (gap (x[i] : Nat) k) := by rw [hV, ← e1]; rfl
              obtain ⟨ti, hti⟩ : ∃ t, t = x[i] := ⟨_, rfl⟩
              rw [← hti] at gi2 hki hV1
              have HN := Lib.hid (fun (W : World) (hW : Kept w W) => (by
                have := f_near F s W (hh.later hW) i x.length ti k (by omega) hpx (by omega) (by omega) (by omega) (by omega) (by omega)
                rwa [← hV1] at this : Calls Try.prog 102 #[.agg #[.slice s.ax F.xs.length s.cx, .slice s.ah F.hs.length s.ch, .slice s.ap F.ps.length s.cp, .slice s.ar F.rs.length s.cr, .slice s.am F.ms.length s.cm], .int .i64 i, .int .i64 x.length, .int .i64 ti, .int .i64 k] W fun e w' => e = .returned (.bool V) ∧ Kept W w'))
              have HNT := Lib.hid (show V = true → ∀ j, j < k + 1 → stepS F m x j = none from fun hv j hj => by
                rcases Nat.lt_or_ge j k with h | h
                · exact HNO.out j h
                · obtain rfl : j = k := by omega
                  exact step_near hlt2 (hV ▸ hv))
              have HNF := Lib.hid (show V = false → ∀ i', i' < i + 1 → nearAt F x x.length k i' = false from fun hv i' hi' => by
                rcases Nat.lt_or_ge i' i with h | h
                · exact HNI.out i' h
                · obtain rfl : i' = i := by omega
                  exact hV ▸ hv)
              clear hti gi hV1 e1 hV
              subst hae
              have j4 : (0 : Int) ≤ (i : Int) := by omega
              have j5 : (i : Int) < (x.length : Int) := by omega
              have c2 := (h2.keep hkk).cell 0; have c2f := (h2.keep hkk).free 0; have c2l := (h2.keep hkk).lt
              have c4 := (h4.keep hkk).cell 0; have c4f := (h4.keep hkk).free 0; have c4l := (h4.keep hkk).lt
              have c5 := (h5.keep hkk).cell 0; have c5f := (h5.keep hkk).free 0; have c5l := (h5.keep hkk).lt
              have c30 := (h3.keep hkk).cell 0; have c3f0 := (h3.keep hkk).free 0; have c31 := (h3.keep hkk).cell 1; have c3f1 := (h3.keep hkk).free 1; have c32 := (h3.keep hkk).cell 2; have c3f2 := (h3.keep hkk).free 2; have c33 := (h3.keep hkk).cell 3; have c3f3 := (h3.keep hkk).free 3; have c34 := (h3.keep hkk).cell 4; have c3f4 := (h3.keep hkk).free 4; have c3l := (h3.keep hkk).lt
              simp at c2 c4 c5 c30 c31 c32 c33 c34
              cases V with
              | true =>
                have HF := Lib.hid (HNT.out rfl)
                go_wp2_with (go_at_call 102; (with_reducible refine (HN.out _ (by (exact kpt))).mono ?_); rintro e w5 ⟨rfl, hb5⟩)
                go_roundw
                case rel => exact ⟨k + 1, by omega, by go_num, HF.out, by (exact blk), by (exact kpt)⟩
                case measure => simp [intOf]; omega
              | false =>
                have HF := Lib.hid (HNF.out rfl)
                go_wp2_with (go_at_call 102; (with_reducible refine (HN.out _ (by (exact kpt))).mono ?_); rintro e w5 ⟨rfl, hb5⟩)
                go_roundw
                case rel => exact ⟨i + 1, by omega, by go_num, HF.out, by (exact blk), by (exact blk), by (exact kpt)⟩
                case measure => simp [intOf]; omega
            · obtain rfl : x.length = i := by omega
              have HFIT := Lib.hid (show stepS F m x k = search F m (x ++ [k]) from step_fit (by rw [HSL.out]; omega) HNI.out)
              obtain ⟨OS, hOS⟩ : ∃ OS, OS = search F m (x ++ [k]) := ⟨_, rfl⟩
              rw [← hOS] at HFIT
              have HIH := Lib.hid (fun (W : World) (ad : Option Addr) (cp : Nat) (hW : Kept w W) (hr : Row icell 1 W.heap.size W ad (ints (x ++ [k]))) (h1 : x.length + 1 ≤ cp) (h6 : cp ≤ maxLen) (h7 : ad = none → cp = 0) => (by
                have := ih (x ++ [k]) W (hh.later hW) (h2.keep hW) (h3.keep hW) (h4.keep hW) (h5.keep hW) ad cp hr (by simpa using h1) h6 h7 (by have := HL.out; simp; omega) (fun j hj => by
                  rcases List.mem_append.1 hj with hj | hj
                  · exact HS.out j hj
                  · simp at hj; omega)
                rw [← hOS, List.length_append, List.length_singleton] at this
                exact this : Calls Try.prog 100 #[.slice ad (x.length + 1) cp, .agg #[.int .i64 (leftIn F (x ++ [k]) 0), .int .i64 (leftIn F (x ++ [k]) 1), .int .i64 (leftIn F (x ++ [k]) 2), .int .i64 (leftIn F (x ++ [k]) 3), .int .i64 (leftIn F (x ++ [k]) 4)], .pointer (some ⟨n2, 0, none⟩), .pointer (some ⟨n3, 0, none⟩), .pointer (some ⟨n4, 0, none⟩), .pointer (some ⟨n5, 0, none⟩)] W fun e w' => (∃ (a' : Option Addr) (n' c' : Nat), e = .returned (.tuple #[.slice a' n' c', .bool (OS).isSome]) ∧ ∀ y, OS = some y → n' = y.length ∧ Row icell 1 w'.heap.size w' a' (ints y) ∧ y.length ≤ c' ∧ c' ≤ maxLen) ∧ Kept W w'))
              have HCLO := Lib.hid (fun (W : World) (hW : Kept w W) => (by
                have := s_CloneI a cap (ints x) W (hx.later hW (Nat.le_refl _)) (by rw [ints_len]; omega) hz
                rwa [ints_len] at this : Calls Try.prog 94 #[.slice a x.length cap] W fun e w' => ∃ v, e = .returned v ∧ w'.ownsRow W.heap.size 3 1 v x.length ((ints x).flatMap icell) ∧ Kept W w'))
              clear hOS
              go_upto_region 15 with fail
              refine fork_walk (fun w' => Kept wr w') (fun u v V => ∃ ad cp g, u = .slice ad x.length cp ∧ v = .slice (some ⟨g, 0, none⟩) 1 1 ∧ V.ownsRow wr.heap.size 3 1 u x.length ((ints x).flatMap icell) ∧ Blk V g #[.int .i64 k] 3) [0, 1, 3, 6] 2 4 [(false, 5), (false, 7), (true, 8), (true, 9), (true, 10), (true, 11), (true, 12)] (by kernel_rfl) (by kernel_rfl) (fun c a d v w h => by cases d <;> exact h) (Below.drew (Below.refl _ _)) ?_
              simp only [List.filterMap_cons, List.filterMap_nil, List.getElem?_cons_zero, List.getElem?_cons_succ, Option.map_some]
              refine taken_take ?_ ?_ (fun w' hS => ?_) ?_; rotate_left 1; (focus rfl); (focus (have hS2 := Kept.drop hkk hS; have y5 := (h5.keep hS2).cell 0; have y8 := r8.keep hS; have y80 := y8.cell 0; have y81 := y8.cell 1; have y82 := y8.cell 2; have y83 := y8.cell 3; have y84 := y8.cell 4; simp at y5 y80 y81 y82 y83 y84; first | (go_simp; done) | (go_simp; with_reducible rfl))); simp only [Act.put, List.setIfInBounds_toArray, List.set_cons_zero, List.set_cons_succ]
              refine taken_take ?_ ?_ (fun w' hS => ?_) ?_; rotate_left 1; (focus rfl); (focus (have hS2 := Kept.drop hkk hS; have y5 := (h5.keep hS2).cell 0; have y8 := r8.keep hS; have y80 := y8.cell 0; have y81 := y8.cell 1; have y82 := y8.cell 2; have y83 := y8.cell 3; have y84 := y8.cell 4; simp at y5 y80 y81 y82 y83 y84; first | (go_simp; done) | (go_simp; with_reducible rfl))); simp only [Act.put, List.setIfInBounds_toArray, List.set_cons_zero, List.set_cons_succ]
              refine taken_take ?_ ?_ (fun w' hS => ?_) ?_; rotate_left 1; (focus rfl); (focus (have hS2 := Kept.drop hkk hS; have y5 := (h5.keep hS2).cell 0; have y8 := r8.keep hS; have y80 := y8.cell 0; have y81 := y8.cell 1; have y82 := y8.cell 2; have y83 := y8.cell 3; have y84 := y8.cell 4; simp at y5 y80 y81 y82 y83 y84; first | (go_simp; done) | (go_simp; with_reducible rfl))); simp only [Act.put, List.setIfInBounds_toArray, List.set_cons_zero, List.set_cons_succ]
              refine taken_take ?_ ?_ (fun w' hS => ?_) ?_; rotate_left 1; (focus rfl); (focus (have hS2 := Kept.drop hkk hS; have y5 := (h5.keep hS2).cell 0; have y8 := r8.keep hS; have y80 := y8.cell 0; have y81 := y8.cell 1; have y82 := y8.cell 2; have y83 := y8.cell 3; have y84 := y8.cell 4; simp at y5 y80 y81 y82 y83 y84; first | (go_simp; done) | (go_simp; with_reducible rfl))); simp only [Act.put, List.setIfInBounds_toArray, List.set_cons_zero, List.set_cons_succ]
              refine taken_nil ?_
              intro oi oj hoi hoj
              simp only [Option.some.injEq] at hoi hoj
              subst hoi hoj
              refine ⟨?_, ?_, ?_⟩
              · refine wpList_plain rfl fun K1 hK1 => ?_
                go_wp2_with (go_at_call 94; (with_reducible refine (HCLO.out _ (by (exact kpt))).mono ?_); rintro e w1 ⟨v1, rfl, ho1, hb1⟩)
                obtain ⟨ad1, cp1, rfl, hown1⟩ : ∃ ad cp, v1 = .slice ad x.length cp ∧ _ := owns_slice ho1
                refine fork_first (by (exact kpt)) ?_
                refine wpList_plain rfl fun K2 hK2 => ?_
                go_wp2
                refine fork_first (by (exact kpt)) ?_
                exact ⟨_, _, rfl, ad1, cp1, _, rfl, rfl, owns_keep (owns_base hown1 (Nat.le_refl _)) (by (exact kpt)), by (exact blk)⟩
              · refine wpList_plain rfl fun K1 hK1 => ?_
                go_wp2
                refine fork_first (by (exact kpt)) ?_
                refine wpList_plain rfl fun K2 hK2 => ?_
                go_wp2_with (go_at_call 94; (with_reducible refine (HCLO.out _ (by (exact kpt))).mono ?_); rintro e w1 ⟨v1, rfl, ho1, hb1⟩)
                obtain ⟨ad1, cp1, rfl, hown1⟩ : ∃ ad cp, v1 = .slice ad x.length cp ∧ _ := owns_slice ho1
                refine fork_first (by (exact kpt)) ?_
                first | exact ⟨_, _, rfl, ad1, cp1, _, rfl, rfl, owns_base hown1 (by simp), by (exact blk)⟩ | exact ⟨_, _, rfl, ⟨ad1, cp1, rfl⟩, _, rfl, owns_base hown1 (by simp), by (exact blk)⟩
              intro u v w2 hS2 hR
              obtain ⟨ad9, cp9, g9, rfl, rfl, ho9, hb9⟩ := hR
              simp only [Act.put, List.setIfInBounds_toArray, List.set_cons_zero, List.set_cons_succ]
              have HNEW := Lib.hid (show ∀ j u, ([.int .i64 (k : Int)] : List Value)[j]? = some u → w2.cell? ((⟨g9, 0, none⟩ : Addr).add j) = some u from cell_blk hb9)
              have hz9 : wr.heap.size ≤ w2.heap.size := hS2.size
              refine held_one ?_
              (obtain ⟨i0, hi, hz0, hz1, hz2⟩ := info_parts infoI2; refine wpList_append_own _ rfl _ _ 63 rfl wr.heap.size 3 i0 (.int .i64 0) 1 8 Try.underlying63 hi hz0 hz1 hz2 rfl (by decide) _ _ _ rfl ho9 ⟨g9, 0, none⟩ 1 1 [.int .i64 k] rfl rfl HNEW.out (fun x hx => by simp at hx; subst hx; rfl) (by unfold maxLen; omega) (by omega) hz9 ?_; intro v8 w8 hown8 hgrow8 hnil8; clear hi hz0 hz1 hz2)
              have hk8 : Kept wr w8 := Kept.grown hS2 ho9 (Nat.le_refl _) hgrow8
              obtain ⟨ad8, cp8, rfl, hrow8, hc8, hm8⟩ := owns_row (enc := icell) (k := 1) (xs := ints (x ++ [k])) (fun _ => rfl) (by rw [ints_snoc, List.flatMap_append, List.length_append, ints_len]; exact hown8)
              have hz8 := owns_cap hown8
              rw [ints_len, List.length_append, List.length_singleton] at hc8 ⊢
              have hk98 : Kept w w8 := Kept.drop hkk hk8
              refine held_on hk8 ?_
              simp only [Act.put, List.setIfInBounds_toArray, List.set_cons_zero, List.set_cons_succ]
              refine held_one ?_
              refine wpList_plain rfl fun K1 hK1 => ?_
              go_wp2_with (go_at_call 100; (with_reducible refine (HIH.out _ ad8 cp8 hk98 hrow8 hc8 hm8 hz8).mono ?_); rintro e w7 ⟨⟨a7, n7, c7, rfl, hres7⟩, hb7⟩)
              refine held_on (by (exact kpt)) ?_
              refine held_take ?_ ?_ (fun w' hS => ?_) ?_; rotate_left 1; (focus rfl); (focus (skip; first | (go_simp; done) | (go_simp; with_reducible rfl))); simp only [Act.put, List.setIfInBounds_toArray, List.set_cons_zero, List.set_cons_succ]
              refine held_take ?_ ?_ (fun w' hS => ?_) ?_; rotate_left 1; (focus rfl); (focus (skip; first | (go_simp; done) | (go_simp; with_reducible rfl))); simp only [Act.put, List.setIfInBounds_toArray, List.set_cons_zero, List.set_cons_succ]
              refine held_take ?_ ?_ (fun w' hS => ?_) ?_; rotate_left 1; (focus rfl); (focus (skip; first | (go_simp; done) | (go_simp; with_reducible rfl))); simp only [Act.put, List.setIfInBounds_toArray, List.set_cons_zero, List.set_cons_succ]
              refine held_take ?_ ?_ (fun w' hS => ?_) ?_; rotate_left 1; (focus rfl); (focus (skip; first | (go_simp; done) | (go_simp; with_reducible rfl))); simp only [Act.put, List.setIfInBounds_toArray, List.set_cons_zero, List.set_cons_succ]
              refine held_take ?_ ?_ (fun w' hS => ?_) ?_; rotate_left 1; (focus rfl); (focus (skip; first | (go_simp; done) | (go_simp; with_reducible rfl))); simp only [Act.put, List.setIfInBounds_toArray, List.set_cons_zero, List.set_cons_succ]
              refine held_nil ?_
              cases OS with
              | none =>
                have HF := Lib.hid (show ∀ j, j < k + 1 → stepS F m x j = none from fun j hj => by
                  rcases Nat.lt_or_ge j k with h | h
                  · exact HNO.out j h
                  · obtain rfl : j = k := by omega
                    exact HFIT.out)
                go_wp2
                go_roundw
                case rel => exact ⟨k + 1, by omega, by go_num, HF.out, (q7.keep hk8).keep hb7, Kept.drop hk98 hb7⟩
                case measure => simp [intOf]; omega
              | some y =>
                have HF := Lib.hid (show O = some y by rw [HO.out]; exact search_found hlt HNO.out HFIT.out)
                go_wp2
                simp only [Exit.noGoto]
                refine bodyPost_ret (v := .tuple #[.slice a7 n7 c7, .bool true]) (by simp [results, Try.results100, go_sem]) rfl ⟨⟨a7, n7, c7, ?_, ?_⟩, Kept.drop hk98 hb7⟩
                · rw [HF.out]; rfl
                · intro z hz
                  rw [HF.out] at hz
                  cases hz
                  exact hres7 y rfl
      · obtain rfl : F.hs.length = k := by omega
        have HN := Lib.hid (show O = none by rw [HO.out]; exact search_none HNO.out)
        have r7c0 := r7.cell 0
        have r7f0 := r7.free 0
        have r7c1 := r7.cell 1
        have r7f1 := r7.free 1
        have r7c2 := r7.cell 2
        have r7f2 := r7.free 2
        have r7c3 := r7.cell 3
        have r7f3 := r7.free 3
        have r7c4 := r7.cell 4
        have r7f4 := r7.free 4
        have r7l := r7.lt
        simp at r7c0 r7c1 r7c2 r7c3 r7c4
        go_wp2
        simp only [Exit.noGoto]
        refine bodyPost_ret (v := .tuple #[.slice none 0 0, .bool false]) (by simp [results, Try.results100, go_sem]) rfl ⟨⟨none, 0, 0, ?_, ?_⟩, by (exact kpt)⟩
        · rw [HN.out]; rfl
        · intro y hy
          rw [HN.out] at hy
          cases hy

def stE (o : Option (List Nat)) : Int := match o with | some _ => 0 | none => 6
def stL (o : Option (List Nat)) : List Int := match o with | some s => s.map Int.ofNat | none => []
theorem f_Stow (F : Fr) (s : FSpot) (w : World) (hh : FrAt F s w) :
    Calls Try.prog 44 #[.slice s.ax F.xs.length s.cx, .slice s.ah F.hs.length s.ch, .slice s.ap F.ps.length s.cp, .slice s.ar F.rs.length s.cr, .slice s.am F.ms.length s.cm] w fun e w' => ∃ (a' : Option Addr) (c' : Nat), e = .returned (.tuple #[.slice a' (stowL F).length c', .int .i64 (stowE F)]) ∧ Row icell 1 w'.heap.size w' a' (stowL F) ∧ (stowL F).length ≤ c' ∧ c' ≤ maxLen ∧ Kept w w' := by
  by_cases he : frE F = 0
  · have ho := frE_ok he
    have HO := Lib.hid ho
    have HE := Lib.hid he
    have hSS := stow_search (F := F) (wt_ok ho) (room_ok ho)
    obtain ⟨OS, hOS⟩ : ∃ OS, OS = search F F.ps.length [] := ⟨_, rfl⟩
    have hE : stowE F = stE OS := by unfold stowE; rw [if_pos he, hSS, hOS]; rfl
    have hL : stowL F = stL OS := by unfold stowL; rw [if_pos he, hSS, hOS]; rfl
    have hlen : ∀ y, OS = some y → y.length = (stowL F).length := fun y hy => by rw [hL, hy]; unfold stL; rw [List.length_map]
    have HSE := Lib.hid hE
    have HSL := Lib.hid hL
    have HSN := Lib.hid hlen
    obtain ⟨EE, hEE⟩ : ∃ EE, EE = stowE F := ⟨_, rfl⟩
    rw [← hEE] at HSE ⊢
    obtain ⟨LL, hLL⟩ : ∃ LL, LL = stowL F := ⟨_, rfl⟩
    rw [← hLL] at HSL HSN ⊢
    clear hE hL hEE hLL he hSS hlen
    go_enter Try.func44, Try.ntmps44
    go_upto_region 7 with (go_at_call 99; (with_reducible refine (f_frcheck F s _ (hh.later (by (exact kpt)))).mono ?_); rw [HE.out]; rintro e w1 ⟨rfl, hb1⟩; refine Blk.thru (b := w.heap.size) (arr := ?_) (t := ?_) ?_ hb1 ?_; rotate_left 2; (focus (exact blk)); intro q4; have q4c0 := q4.cell 0; have q4f0 := q4.free 0; have q4l := q4.lt; simp at q4c0; refine Blk.thru (b := w.heap.size + 1) (arr := ?_) (t := ?_) ?_ hb1 ?_; rotate_left 2; (focus (exact blk)); intro q2; have q2c0 := q2.cell 0; have q2f0 := q2.free 0; have q2l := q2.lt; simp at q2c0; refine Blk.thru (b := w.heap.size + 1 + 1) (arr := ?_) (t := ?_) ?_ hb1 ?_; rotate_left 2; (focus (exact blk)); intro q3; have q3c0 := q3.cell 0; have q3f0 := q3.free 0; have q3c1 := q3.cell 1; have q3f1 := q3.free 1; have q3c2 := q3.cell 2; have q3f2 := q3.free 2; have q3c3 := q3.cell 3; have q3f3 := q3.free 3; have q3c4 := q3.cell 4; have q3f4 := q3.free 4; have q3l := q3.lt; simp at q3c0 q3c1 q3c2 q3c3 q3c4)
    refine at_world (S := fun W => Blk W w.heap.size #[.slice s.ah F.hs.length s.ch] 73 ∧ Blk W (w.heap.size + 1) #[.slice s.ap F.ps.length s.cp] 74 ∧ Blk W (w.heap.size + 1 + 1) #[.slice s.ax F.xs.length s.cx, .slice s.ah F.hs.length s.ch, .slice s.ap F.ps.length s.cp, .slice s.ar F.rs.length s.cr, .slice s.am F.ms.length s.cm] 149 ∧ Blk W w1.heap.size #[.func (.func 100) #[] #[.pointer (some ⟨w.heap.size + 1, 0, none⟩), .pointer (some ⟨w.heap.size + 1 + 1, 0, none⟩), .pointer (some ⟨w.heap.size, 0, none⟩), .pointer (some ⟨w1.heap.size, 0, none⟩)]] 151 ∧ Kept w W) ⟨by (exact blk), by (exact blk), by (exact blk), by (exact blkc), by (exact kpt)⟩ ?_
    rintro W ⟨r4, r2, r3, r5, hW⟩
    clear q4 q4c0 q4f0 q4l q2 q2c0 q2f0 q2l q3 q3c0 q3f0 q3c1 q3f1 q3c2 q3f2 q3c3 q3f3 q3c4 q3f4 q3l
    obtain ⟨n5, hn5⟩ : ∃ n5, n5 = w1.heap.size := ⟨_, rfl⟩
    rw [← hn5] at r5 ⊢
    clear hn5
    have HSR := Lib.hid (fun (V : World) (hV : Kept W V) => (by
      have hk := Kept.drop hW hV
      have := f_search F s ho (w.heap.size + 1) (w.heap.size + 1 + 1) w.heap.size n5 F.ps.length [] V (hh.later hk) (r2.keep hV) (r3.keep hV) (r4.keep hV) (r5.keep hV) none 0 Row.nil (Nat.le_refl _) (by simp [maxLen]) (fun _ => rfl) (by simp) (by simp)
      rw [← hOS] at this
      exact this : Calls Try.prog 100 #[.slice none 0 0, .agg #[.int .i64 (leftIn F [] 0), .int .i64 (leftIn F [] 1), .int .i64 (leftIn F [] 2), .int .i64 (leftIn F [] 3), .int .i64 (leftIn F [] 4)], .pointer (some ⟨w.heap.size + 1, 0, none⟩), .pointer (some ⟨w.heap.size + 1 + 1, 0, none⟩), .pointer (some ⟨w.heap.size, 0, none⟩), .pointer (some ⟨n5, 0, none⟩)] V fun e w' => (∃ (a' : Option Addr) (n' c' : Nat), e = .returned (.tuple #[.slice a' n' c', .bool (OS).isSome]) ∧ ∀ y, OS = some y → n' = y.length ∧ Row icell 1 w'.heap.size w' a' (ints y) ∧ y.length ≤ c' ∧ c' ≤ maxLen) ∧ Kept V w'))
    clear hOS ho
    refine held_walk (fun w' => Kept W w') [(true, 0), (true, 1), (false, 2), (false, 3), (true, 4), (true, 5), (true, 6), (true, 7), (true, 8)] 9 (by kernel_rfl) (by kernel_rfl) (fun c a d v w h => by cases d <;> exact h) (Below.drew (Below.refl _ _)) ?_
    simp only [List.filterMap_cons, List.filterMap_nil, List.getElem?_cons_zero, List.getElem?_cons_succ, Option.map_some]
    refine held_take ?_ ?_ (fun w' hS => ?_) ?_; rotate_left 1; (focus rfl); (focus (have y5 := (r5.keep hS).cell 0; have b3 := r3.keep hS; have y0 := b3.cell 0; have y1 := b3.cell 1; have y2 := b3.cell 2; have y3 := b3.cell 3; have y4 := b3.cell 4; simp at y0 y1 y2 y3 y4; simp at y5; first | (go_simp; done) | (go_simp; with_reducible rfl))); simp only [Act.put, List.setIfInBounds_toArray, List.set_cons_zero, List.set_cons_succ]
    refine held_take ?_ ?_ (fun w' hS => ?_) ?_; rotate_left 1; (focus rfl); (focus (have y5 := (r5.keep hS).cell 0; have b3 := r3.keep hS; have y0 := b3.cell 0; have y1 := b3.cell 1; have y2 := b3.cell 2; have y3 := b3.cell 3; have y4 := b3.cell 4; simp at y0 y1 y2 y3 y4; simp at y5; first | (go_simp; done) | (go_simp; with_reducible rfl))); simp only [Act.put, List.setIfInBounds_toArray, List.set_cons_zero, List.set_cons_succ]
    refine held_one ?_
    refine wpList_plain rfl fun K1 hK1 => ?_
    go_wp2_with (go_at_call 103; (with_reducible refine (f_rooms F s _ (hh.later (by (exact kpt))) HO.out.hn).mono ?_); rintro e w3 ⟨rfl, hb3⟩)
    refine held_on (by (exact kpt)) ?_
    try simp only [Act.put, List.setIfInBounds_toArray, List.set_cons_zero, List.set_cons_succ]
    refine held_one ?_
    refine wpList_plain rfl fun K1 hK1 => ?_
    go_wp2_with (go_at_call 100; (with_reducible refine (HSR.out _ (by (exact kpt))).mono ?_); rintro e w7 ⟨⟨a7, n7, c7, rfl, hres7⟩, hb7⟩)
    refine held_on (by (exact kpt)) ?_
    refine held_take ?_ ?_ (fun w' hS => ?_) ?_; rotate_left 1; (focus rfl); (focus (skip; first | (go_simp; done) | (go_simp; with_reducible rfl))); simp only [Act.put, List.setIfInBounds_toArray, List.set_cons_zero, List.set_cons_succ]
    refine held_take ?_ ?_ (fun w' hS => ?_) ?_; rotate_left 1; (focus rfl); (focus (skip; first | (go_simp; done) | (go_simp; with_reducible rfl))); simp only [Act.put, List.setIfInBounds_toArray, List.set_cons_zero, List.set_cons_succ]
    refine held_take ?_ ?_ (fun w' hS => ?_) ?_; rotate_left 1; (focus rfl); (focus (skip; first | (go_simp; done) | (go_simp; with_reducible rfl))); simp only [Act.put, List.setIfInBounds_toArray, List.set_cons_zero, List.set_cons_succ]
    refine held_take ?_ ?_ (fun w' hS => ?_) ?_; rotate_left 1; (focus rfl); (focus (skip; first | (go_simp; done) | (go_simp; with_reducible rfl))); simp only [Act.put, List.setIfInBounds_toArray, List.set_cons_zero, List.set_cons_succ]
    refine held_take ?_ ?_ (fun w' hS => ?_) ?_; rotate_left 1; (focus rfl); (focus (skip; first | (go_simp; done) | (go_simp; with_reducible rfl))); simp only [Act.put, List.setIfInBounds_toArray, List.set_cons_zero, List.set_cons_succ]
    refine held_nil ?_
    cases OS with
    | none =>
      have H1 := Lib.hid (show EE = 6 from HSE.out)
      have H2 := Lib.hid (show LL = [] from HSL.out)
      go_wp2
      refine bodyPost_ret (v := .tuple #[.slice none 0 0, .int .i64 6]) (by simp [results, Try.results44, go_sem]) rfl ⟨none, 0, ?_, ?_, ?_, ?_, by (exact kpt)⟩
      · rw [H1.out, H2.out]; rfl
      · rw [H2.out]; exact Row.nil
      · rw [H2.out]; simp
      · simp [maxLen]
    | some y =>
      have H1 := Lib.hid (show EE = 0 from HSE.out)
      have H2 := Lib.hid (show LL = ints y from HSL.out)
      obtain ⟨rfl, hr7, hc7, hm7⟩ := hres7 y rfl
      have HY := Lib.hid (show y.length = LL.length from HSN.out y rfl)
      go_wp2
      refine bodyPost_ret (v := .tuple #[.slice a7 y.length c7, .int .i64 0]) (by simp [results, Try.results44, go_sem]) rfl ⟨a7, c7, ?_, ?_, ?_, hm7, by (exact kpt)⟩
      · rw [H1.out, ← HY.out]
      · rw [H2.out]; exact hr7
      · rw [← HY.out]; exact hc7
  · have hE : stowE F = frE F := by unfold stowE; rw [if_neg he]
    have hL : stowL F = [] := by unfold stowL; rw [if_neg he]
    rw [hE, hL]
    obtain ⟨E, hE2⟩ : ∃ E, E = frE F := ⟨_, rfl⟩
    have HE := Lib.hid hE2.symm
    rw [← hE2] at he ⊢
    have e1 : (E != 0) = true := by simp [he]
    clear hE2 hE hL
    go_enter Try.func44, Try.ntmps44
    go_wp2_with (go_at_call 99; (with_reducible refine (f_frcheck F s _ (hh.later (by (exact kpt)))).mono ?_); rw [HE.out]; rintro e w1 ⟨rfl, hb1⟩; refine Blk.thru (b := w.heap.size) (arr := ?_) (t := ?_) ?_ hb1 ?_; rotate_left 2; (focus (exact blk)); intro q4; have q4c0 := q4.cell 0; have q4f0 := q4.free 0; have q4l := q4.lt; simp at q4c0; refine Blk.thru (b := w.heap.size + 1) (arr := ?_) (t := ?_) ?_ hb1 ?_; rotate_left 2; (focus (exact blk)); intro q2; have q2c0 := q2.cell 0; have q2f0 := q2.free 0; have q2l := q2.lt; simp at q2c0; refine Blk.thru (b := w.heap.size + 1 + 1) (arr := ?_) (t := ?_) ?_ hb1 ?_; rotate_left 2; (focus (exact blk)); intro q3; have q3c0 := q3.cell 0; have q3f0 := q3.free 0; have q3c1 := q3.cell 1; have q3f1 := q3.free 1; have q3c2 := q3.cell 2; have q3f2 := q3.free 2; have q3c3 := q3.cell 3; have q3f3 := q3.free 3; have q3c4 := q3.cell 4; have q3f4 := q3.free 4; have q3l := q3.lt; simp at q3c0 q3c1 q3c2 q3c3 q3c4)
    exact bodyPost_ret (v := .tuple #[.slice none 0 0, .int .i64 E]) (by simp [results, Try.results44, go_sem]) rfl ⟨none, 0, rfl, Row.nil, by simp, by simp [maxLen], by (exact kpt)⟩

end Go.Proofs.Ytlloijkmpmfapaa

/-
  Drop, in the program: all sets in order.
-/
namespace Go.Proofs.Ytlloijkmpmfapaa
open Go.RowKit Bal Bal.Trim
set_option linter.unusedVariables false
set_option linter.unusedSimpArgs false
set_option maxHeartbeats 4000000
set_option maxRecDepth 10000
attribute [local go_sem] Oper.semAt_some

def dropR (xs : List Load) (bs : List Put) (ms : List Limit) : List Int := match dropS xs bs ms with | some x => ints x | none => []
def dropN (xs : List Load) (bs : List Put) (ms : List Limit) : Int := match dropS xs bs ms with | some _ => 0 | none => 6
theorem f_Drop_main (a : Option Addr) (cap : Nat) (xs : List Load) (d : Option Addr) (cd : Nat) (bs : List Put) (b : Option Addr) (cb : Nat) (ms : List Limit) (w : World) (hx : Row Load.cells 4 w.heap.size w a xs) (hc : xs.length ≤ cap) (hM : cap ≤ maxLen) (hp : Row Put.cells 2 w.heap.size w d bs) (hpc : bs.length ≤ cd) (hpM : cd ≤ maxLen) (hy : Row Limit.cells 3 w.heap.size w b ms) (hd : ms.length ≤ cb) (hN : cb ≤ maxLen) (hz : a = none → cap = 0) (he : both xs ms = 0) (hm : many xs bs = false) (hb : bs.all bagB = true) :
    Calls Try.prog 42 #[.slice a xs.length cap, .slice d bs.length cd, .slice b ms.length cb] w fun e w' => ∃ v, e = .returned (.tuple #[v, .int .i64 (dropN xs bs ms)]) ∧ w'.ownsRow w.heap.size 3 1 v (dropR xs bs ms).length ((dropR xs bs ms).flatMap icell) ∧ Kept w w' := by
  obtain ⟨he1, he2⟩ := both_ok he
  obtain ⟨hn, hv⟩ := checkLoads_ok he1
  obtain ⟨hn2, hv2⟩ := checkLimits_ok he2
  simp only [many, Bool.or_eq_false_iff, decide_eq_false_iff_not] at hm
  obtain ⟨hm1, hm2⟩ := hm
  have HE := Lib.hid he
  have HB := Lib.hid (List.all_eq_true.1 hb)
  have HV := Lib.hid hv
  have HV2 := Lib.hid hv2
  clear he he1 he2 hb hv hv2
  unfold maxLen at hM hpM hN
  refine (callsIn_wide (n := 6)).1 ?_
  refine callsIn_of_wp_marks Try.func42 rfl trivial ?_ rfl
  simp only [Try.ntmps42, List.size_toArray, List.length_cons, List.length_nil, Nat.reduceAdd, Nat.reduceSub, Array.replicate_succ, Array.replicate_zero, List.push_toArray, List.append_toArray, List.nil_append, List.cons_append]
  gi_wp2_with (refine ⟨trivial, ?_⟩; gi_at_call 71; (refine (callsIn_wide.2 (f_both _ _ _ _ _ _ _ (hx.later (by (exact kpt)) (Nat.le_refl _)) hc (by unfold maxLen; omega) (hy.later (by (exact kpt)) (Nat.le_refl _)) hd (by unfold maxLen; omega))).mono ?_); rw [HE.out]; rintro e w1 ⟨rfl, hb1⟩; refine Blk.thru (b := w.heap.size) (arr := ?_) (t := ?_) ?_ hb1 ?_; rotate_left 2; (focus (exact blk)); intro r0; have r0c0 := r0.cell 0; have r0f0 := r0.free 0; have r0l := r0.lt; simp at r0c0; refine Blk.thru (b := w.heap.size + 1) (arr := ?_) (t := ?_) ?_ hb1 ?_; rotate_left 2; (focus (exact blk)); intro r1; have r1c0 := r1.cell 0; have r1f0 := r1.free 0; have r1l := r1.lt; simp at r1c0; refine Blk.thru (b := w.heap.size + 1 + 1) (arr := ?_) (t := ?_) ?_ hb1 ?_; rotate_left 2; (focus (exact blk)); intro r2; have r2c0 := r2.cell 0; have r2f0 := r2.free 0; have r2l := r2.lt; simp at r2c0; refine Blk.thru (b := w.heap.size + 1 + 1 + 1) (arr := ?_) (t := ?_) ?_ hb1 ?_; rotate_left 2; (focus (exact blk)); intro r3; have r3c0 := r3.cell 0; have r3f0 := r3.free 0; have r3l := r3.lt; simp at r3c0; refine Blk.thru (b := w.heap.size + 1 + 1 + 1 + 1) (arr := ?_) (t := ?_) ?_ hb1 ?_; rotate_left 2; (focus (exact blk)); intro r4; have r4c0 := r4.cell 0; have r4f0 := r4.free 0; have r4l := r4.lt; simp at r4c0)
  gi_loopw [39] (fun i wr => ∃ k : Nat, k ≤ bs.length ∧ i = .int .i64 k ∧ DropW w wr a d b xs.length bs.length ms.length cap cd cb) (fun i _ => bs.length - (intOf i).toNat)
  case atStart => exact ⟨0, Nat.zero_le _, rfl, ⟨by (exact blkc), by (exact blkc), by (exact blkc), by (exact blkc), by (exact blkc), by (exact kpt)⟩⟩
  case round =>
    clear r0 r0c0 r0f0 r0l r1 r1c0 r1f0 r1l r2 r2c0 r2f0 r2l r3 r3c0 r3f0 r3l r4 r4c0 r4f0 r4l
    obtain ⟨k, hk, rfl, ⟨r0, r1, r2, r3, r4, hkk⟩⟩ := hrel
    by_cases hlt : k < bs.length
    · obtain ⟨bb, off, rfl, hbl, h0, h1⟩ := Put.row (hp.later hkk (Nat.le_refl _)) k hlt
      have hbx := HB.out _ (List.getElem_mem hlt)
      obtain ⟨x, hx0⟩ : ∃ x, x = bs[k] := ⟨_, rfl⟩
      rw [← hx0] at hbx h0 h1
      clear hx0
      have r0c0 := r0.cell 0
      have r0f0 := r0.free 0
      have r0l := r0.lt
      simp at r0c0
      have r1c0 := r1.cell 0
      have r1f0 := r1.free 0
      have r1l := r1.lt
      simp at r1c0
      have r2c0 := r2.cell 0
      have r2f0 := r2.free 0
      have r2l := r2.lt
      simp at r2c0
      have r3c0 := r3.cell 0
      have r3f0 := r3.free 0
      have r3l := r3.lt
      simp at r3c0
      have r4c0 := r4.cell 0
      have r4f0 := r4.free 0
      have r4l := r4.lt
      simp at r4c0
      unfold bagB at hbx
      rw [Bool.and_eq_true] at hbx
      have HB1 := Lib.hid hbx.1
      have HB2 := Lib.hid hbx.2
      clear hbx
      gi_wp2_with (first | (refine ⟨trivial, ?_⟩; gi_at_call 67; (refine (callsIn_wide.2 (f_place _ _)).mono ?_); rw [HB1.out]; rintro e w2 ⟨rfl, rfl⟩) | (refine ⟨trivial, ?_⟩; gi_at_call 68; (refine (callsIn_wide.2 (f_ranged _ _ _ _)).mono ?_); rw [HB2.out]; rintro e w2 ⟨rfl, rfl⟩))
      go_roundw
      case rel => exact ⟨k + 1, by omega, by go_num, ⟨by (exact blkc), by (exact blkc), by (exact blkc), by (exact blkc), by (exact blkc), by (exact kpt)⟩⟩
      case measure => simp [intOf]; omega
    · obtain rfl : bs.length = k := by omega
      have HD : DropW w wr a d b xs.length bs.length ms.length cap cd cb := ⟨r0, r1, r2, r3, r4, hkk⟩
      have r0c0 := r0.cell 0
      have r0f0 := r0.free 0
      have r0l := r0.lt
      simp at r0c0
      have r1c0 := r1.cell 0
      have r1f0 := r1.free 0
      have r1l := r1.lt
      simp at r1c0
      have r2c0 := r2.cell 0
      have r2f0 := r2.free 0
      have r2l := r2.lt
      simp at r2c0
      have r3c0 := r3.cell 0
      have r3f0 := r3.free 0
      have r3l := r3.lt
      simp at r3c0
      have r4c0 := r4.cell 0
      have r4f0 := r4.free 0
      have r4l := r4.lt
      simp at r4c0
      clear r0 r1 r2 r3 r4 hkk
      gi_wp2
      refine wpIn_loop (fun a' W => ∃ (k : Nat) (Ds : List Nat), (∃ u : Nat → Value, a' = { tmps := #[.slice a xs.length cap, .slice d bs.length cd, .slice b ms.length cb, .pointer (some ⟨w.heap.size, 0, none⟩), .pointer (some ⟨w.heap.size + 1, 0, none⟩), .pointer (some ⟨w.heap.size + 1 + 1, 0, none⟩), .pointer (some ⟨w.heap.size + 1 + 1 + 1, 0, none⟩), .pointer (some ⟨w.heap.size + 1 + 1 + 1 + 1, 0, none⟩), u 8, u 9, u 10, u 11, u 12, u 13, u 14, u 15, u 16, u 17, u 18, u 19, u 20, u 21, u 22, u 23, u 24, u 25, u 26, u 27, u 28, u 29, u 30, u 31, u 32, u 33, u 34, u 35, u 36, u 37, u 38, u 39, u 40, u 41, u 42, u 43, u 44, u 45, u 46, u 47, u 48, u 49, u 50, u 51, u 52, u 53, u 54, u 55, .int .i64 ((bs.length : Int) + 1), .int .i64 k, u 58, u 59, u 60, u 61, u 62, u 63, u 64, u 65, u 66, u 67, u 68, u 69, u 70, u 71, u 72, u 73, u 74, u 75, u 76, u 77, u 78, u 79, u 80, u 81, u 82, u 83, u 84, u 85, u 86, u 87, u 88, u 89, u 90, u 91, u 92, u 93, u 94, u 95, u 96, u 97, u 98, u 99, u 100, u 101, u 102, u 103, u 104, u 105], defers := marks Ds }) ∧ k ≤ bs.length + 1 ∧ Marked w.heap.size Ds W ∧ DropW w W a d b xs.length bs.length ms.length cap cd cb ∧ ∀ s, s < k → ∀ y ∈ combs bs.length s 0, okSet xs bs ms y = false)
        (fun a' _ => bs.length + 1 - (intOf ((a'.tmps[57]?).getD undef)).toNat) ?_ ?_
      · refine ⟨0, [], ?_, by omega, ⟨by simp, by simp⟩, HD, fun s hs => by omega⟩
        exact (drop_act _ rfl rfl rfl rfl rfl rfl rfl rfl rfl rfl rfl).imp fun u hu => congrArg (fun A => Act.mk A []) hu
      clear HD r0c0 r0f0 r0l r1c0 r1f0 r1l r2c0 r2f0 r2l r3c0 r3f0 r3l r4c0 r4f0 r4l hk hlt
      rintro a' W ⟨k, Ds, ⟨u, rfl⟩, hk, hM1, HDW, hno⟩
      obtain ⟨r0, r1, r2, r3, r4, hkk⟩ := id HDW
      have r0c0 := r0.cell 0
      have r0f0 := r0.free 0
      have r0l := r0.lt
      simp at r0c0
      have r1c0 := r1.cell 0
      have r1f0 := r1.free 0
      have r1l := r1.lt
      simp at r1c0
      have r2c0 := r2.cell 0
      have r2f0 := r2.free 0
      have r2l := r2.lt
      simp at r2c0
      have r3c0 := r3.cell 0
      have r3f0 := r3.free 0
      have r3l := r3.lt
      simp at r3c0
      have r4c0 := r4.cell 0
      have r4f0 := r4.free 0
      have r4l := r4.lt
      simp at r4c0
      clear r0 r1 r2 r3 r4 hkk
      by_cases hlt : k < bs.length + 1
      · have hlt' : (k : Int) < (bs.length : Int) + 1 := by omega
        gi_wp2
        refine wpIn_scope ?_
        gi_wp2
        refine wpIn_label ?_
        gi_wp2_with (refine ⟨trivial, ?_⟩; gi_at_call 90; (refine (callsIn_wide.2 (f_subsets _ _ _)).mono ?_); rintro e w1 ⟨rfl, rfl⟩)
        refine at_worldIn (S := fun W1 => DropW w W1 a d b xs.length bs.length ms.length cap cd cb ∧ Marked w.heap.size Ds W1 ∧ Blk W1 W.heap.size #[.int .i64 bs.length] 3 ∧ Blk W1 (W.heap.size + 1) #[.int .i64 k] 3 ∧ w.heap.size ≤ W1.heap.size) ?_ ?_
        · have hbW : Below W.heap.size W ((W.alloc (.cells #[.int .i64 bs.length] 3)).alloc (.cells #[.int .i64 k] 3)) := ((Below.refl _ _).alloc (Nat.le_refl _) _).alloc (by simp) _
          exact ⟨HDW.keep hbW (Nat.le_refl _), hM1.keep hbW (Nat.le_refl _), Blk.alloc Blk.new _, by simpa using Blk.new (w := W.alloc (.cells #[.int .i64 bs.length] 3)), by have := HDW.kept.size; simp; omega⟩
        clear r0c0 r0f0 r0l r1c0 r1f0 r1l r2c0 r2f0 r2l r3c0 r3f0 r3l r4c0 r4f0 r4l
        rintro W1 ⟨HD1, hM, hB1, hB2, hsz⟩
        have HSub := f_subsets1 bs.length k (by omega) (by omega) W1 (W.heap.size + 1) W.heap.size hB2 hB1 5 (by omega)
        obtain ⟨S, hS⟩ : ∃ S, S = dropS xs bs ms := ⟨_, rfl⟩
        refine wpIn_rangeFunc_P (V := Shows) (L := combs bs.length k 0) (gf := 114) rfl (by omega) rfl trivial (enters_of Try.func114 (by kernel_rfl) rfl) HSub (Below.refl _ _) rfl
          (fun pre W2 => Below W1.heap.size W1 W2 ∧ ∀ y ∈ pre, okSet xs bs ms y = false)
          (fun c pre W2 => c = .ret ∧ DropEnd w S Ds W2)
          (fun s A B hs hB => ⟨hs.1.trans hB, hs.2⟩)
          (fun c s X Y row hs hg hr => ⟨hs.1, dropEnd_own (β := Unit) hM (Nat.le_refl _) hsz () X Y row hs.2 hg hr⟩)
          (fun x v => shows_own _ x v) ⟨Below.refl _ _, by simp⟩
          (fun v => { tmps := #[.slice a xs.length cap, .slice d bs.length cd, .slice b ms.length cb, .pointer (some ⟨w.heap.size, 0, none⟩), .pointer (some ⟨w.heap.size + 1, 0, none⟩), .pointer (some ⟨w.heap.size + 1 + 1, 0, none⟩), .pointer (some ⟨w.heap.size + 1 + 1 + 1, 0, none⟩), .pointer (some ⟨w.heap.size + 1 + 1 + 1 + 1, 0, none⟩), u 8, u 9, u 10, .int .i64 k, v, u 13, u 14, u 15, u 16, u 17, u 18, u 19, u 20, u 21, u 22, u 23, u 24, u 25, u 26, u 27, u 28, u 29, u 30, u 31, u 32, u 33, u 34, u 35, u 36, u 37, u 38, u 39, u 40, u 41, u 42, u 43, u 44, u 45, u 46, u 47, u 48, u 49, u 50, u 51, u 52, u 53, u 54, u 55, .int .i64 ((bs.length : Int) + 1), .int .i64 k, .bool true, .int .i64 k, .slice d bs.length cd, .int .i64 bs.length, .int .i64 k, .func (.func 114) #[] #[.pointer (some ⟨W.heap.size + 1, 0, none⟩), .pointer (some ⟨W.heap.size, 0, none⟩)], v, u 65, u 66, u 67, u 68, u 69, u 70, u 71, u 72, u 73, u 74, u 75, u 76, u 77, u 78, u 79, u 80, u 81, u 82, u 83, u 84, u 85, u 86, u 87, u 88, u 89, u 90, u 91, u 92, u 93, u 94, u 95, u 96, u 97, u 98, u 99, u 100, u 101, u 102, u 103, u 104, u 105], defers := [] }) ?assign ?body ?done ?stop
        case assign =>
          intro l v W2 K hK
          gi_wp2
          exact hK
        case body =>
          rintro l pre x v W2 hW2 ⟨hbel, hno2⟩ ⟨bx, rfl, hX⟩ hpre
          obtain ⟨rest, hL⟩ : ∃ rest, combs bs.length k 0 = pre ++ x :: rest := by obtain ⟨r, hr⟩ := hpre; exact ⟨r, by rw [← hr]; simp⟩
          obtain ⟨hxl, hxi⟩ := comb_mem hL
          have HD2 := HD1.keep hbel (Nat.le_refl _)
          have hk2 := HD2.kept
          have hs2 := hk2.size
          obtain ⟨L, hLL⟩ : ∃ L, L = left xs bs x := ⟨_, rfl⟩
          have hLn : L.length ≤ 40 := by rw [hLL]; have := left_len (xs := xs) (bs := bs) (x := x); omega
          have hLB : ∀ y ∈ L, loadB y = true := by rw [hLL]; exact left_B HV.out HB.out
          have HLL := Lib.hid hLL
          have HLB := Lib.hid hLB
          have HL := Lib.hid hL
          have HNO := Lib.hid hno
          clear hLL hLB hL hpre hno HSub hB1 hB2 HD1
          have r0c0 := HD2.r0.cell 0
          have r0f0 := HD2.r0.free 0
          have r0l := HD2.r0.lt
          have r1c0 := HD2.r1.cell 0
          have r1f0 := HD2.r1.free 0
          have r1l := HD2.r1.lt
          have r2c0 := HD2.r2.cell 0
          have r2f0 := HD2.r2.free 0
          have r2l := HD2.r2.lt
          have r3c0 := HD2.r3.cell 0
          have r3f0 := HD2.r3.free 0
          have r3l := HD2.r3.lt
          have r4c0 := HD2.r4.cell 0
          have r4f0 := HD2.r4.free 0
          have r4l := HD2.r4.lt
          simp at r0c0 r1c0 r2c0 r3c0 r4c0
          gi_wp2_with (refine ⟨trivial, ?_⟩; gi_at_call 91; refine (CallsIn.inRound l (callsIn_wide.2 (s_CloneL a cap xs _ (hx.later (by (exact kpt)) (Nat.le_refl _)) (by omega) hz))).mono ?_; rintro e w1 ⟨v1, rfl, ho1, hb1⟩; have HD3 := HD2.keep hb1 (Nat.le_refl _); have hX3 := hX.keep hb1; clear r0c0 r0f0 r0l r1c0 r1f0 r1l r2c0 r2f0 r2l r3c0 r3f0 r3l r4c0 r4f0 r4l; have r0c0 := HD3.r0.cell 0; have r0f0 := HD3.r0.free 0; have r0l := HD3.r0.lt; have r1c0 := HD3.r1.cell 0; have r1f0 := HD3.r1.free 0; have r1l := HD3.r1.lt; have r2c0 := HD3.r2.cell 0; have r2f0 := HD3.r2.free 0; have r2l := HD3.r2.lt; have r3c0 := HD3.r3.cell 0; have r3f0 := HD3.r3.free 0; have r3l := HD3.r3.lt; have r4c0 := HD3.r4.cell 0; have r4f0 := HD3.r4.free 0; have r4l := HD3.r4.lt; simp at r0c0 r1c0 r2c0 r3c0 r4c0)
          gi_loopw [13, 69] (fun s13 i wr => ∃ j : Nat, j ≤ bs.length ∧ i = .int .i64 j ∧ wr.ownsRow W2.heap.size 88 4 s13 (xs ++ stay bs (fun i => decide (i ∈ x)) j).length ((xs ++ stay bs (fun i => decide (i ∈ x)) j).flatMap Load.cells) ∧ DropW w wr a d b xs.length bs.length ms.length cap cd cb ∧ Blk wr bx (ncells x) 3 ∧ Kept W2 wr) (fun _ i _ => bs.length - (intOf i).toNat)
          case atStart => exact ⟨0, Nat.zero_le _, rfl, by simpa [stay] using ho1, HD3, hX3, hb1⟩
          case round =>
            clear HD3 hX3 hb1 ho1 r0c0 r0f0 r0l r1c0 r1f0 r1l r2c0 r2f0 r2l r3c0 r3f0 r3l r4c0 r4f0 r4l
            obtain ⟨j, hj, rfl, hown, ⟨r0, r1, r2, r3, r4, hkk⟩, hX5, hk5⟩ := hrel
            have hlen : (xs ++ stay bs (fun i => decide (i ∈ x)) j).length ≤ 40 := by have := stay_len bs (fun i => decide (i ∈ x)) j; rw [List.length_append]; omega
            have hs5 := hk5.size
            by_cases hlt2 : j < bs.length
            · obtain ⟨bb, off, rfl, hbl, h0, h1⟩ := Put.row (hp.later hkk (Nat.le_refl _)) j hlt2
              have hCon := fun (W : World) (h : Blk W bx (ncells x) 3) => s_Contains (some ⟨bx, 0, none⟩) x.length (ints x) (j : Int) W (row_ints h) (by rw [ints_len]; exact Nat.le_refl _) (by unfold maxLen; omega)
              simp only [ints_len] at hCon
              rw [hxl] at hCon
              obtain ⟨V, hV⟩ : ∃ V, V = decide (j ∈ x) := ⟨_, rfl⟩
              have hdec : decide ((j : Int) ∈ ints x) = V := by rw [hV]; exact decide_eq_decide.2 mem_ints
              have HKeep := Lib.hid (fun h => stay_keep (bs := bs) (f := fun i => decide (i ∈ x)) hlt2 h)
              obtain ⟨y, hy0⟩ : ∃ y, y = bs[j] := ⟨_, rfl⟩
              rw [← hy0] at HKeep h0 h1
              clear hy0
              have r0c0 := r0.cell 0
              have r0f0 := r0.free 0
              have r0l := r0.lt
              simp at r0c0
              have r1c0 := r1.cell 0
              have r1f0 := r1.free 0
              have r1l := r1.lt
              simp at r1c0
              have r2c0 := r2.cell 0
              have r2f0 := r2.free 0
              have r2l := r2.lt
              simp at r2c0
              have r3c0 := r3.cell 0
              have r3f0 := r3.free 0
              have r3l := r3.lt
              simp at r3c0
              have r4c0 := r4.cell 0
              have r4f0 := r4.free 0
              have r4l := r4.lt
              simp at r4c0
              cases V with
              | true =>
                have HDrop := Lib.hid (stay_drop (bs := bs) (f := fun i => decide (i ∈ x)) (k := j) hV.symm)
                clear hV HKeep
                gi_wp2_with (refine ⟨trivial, ?_⟩; gi_at_call 92; refine (CallsIn.inRound l (callsIn_wide.2 (hCon _ (Blk.alloc hX5 _)))).mono ?_; rw [hdec]; rintro e w1 ⟨rfl, rfl⟩)
                go_roundw
                case rel => exact ⟨j + 1, by omega, by go_num, by rw [HDrop.out]; exact hown.alloc _, ⟨by (exact blkc), by (exact blkc), by (exact blkc), by (exact blkc), by (exact blkc), by (exact kpt)⟩, hX5.alloc _, Kept.alloc hk5 _⟩
                case measure => simp [intOf]; omega
              | false =>
                have HK := Lib.hid (HKeep.out hV.symm)
                clear hV HKeep
                gi_wp2_with (first | (refine ⟨trivial, ?_⟩; gi_at_call 92; refine (CallsIn.inRound l (callsIn_wide.2 (hCon _ (Blk.alloc hX5 _)))).mono ?_; rw [hdec]; rintro e w1 ⟨rfl, rfl⟩) | (refine ⟨trivial, ?_⟩; gi_at_call 93; refine (CallsIn.inRound l (callsIn_wide.2 (f_exact y _))).mono ?_; rintro e w1 ⟨rfl, hb1⟩; have hown1 := owns_keep (hown.alloc _) hb1; refine Blk.thru (b := w.heap.size) (arr := ?_) (t := ?_) ?_ hb1 ?_; rotate_left 2; (focus (exact blk)); intro r0; have r0c0 := r0.cell 0; have r0f0 := r0.free 0; have r0l := r0.lt; simp at r0c0; refine Blk.thru (b := w.heap.size + 1) (arr := ?_) (t := ?_) ?_ hb1 ?_; rotate_left 2; (focus (exact blk)); intro r1; have r1c0 := r1.cell 0; have r1f0 := r1.free 0; have r1l := r1.lt; simp at r1c0; refine Blk.thru (b := w.heap.size + 1 + 1) (arr := ?_) (t := ?_) ?_ hb1 ?_; rotate_left 2; (focus (exact blk)); intro r2; have r2c0 := r2.cell 0; have r2f0 := r2.free 0; have r2l := r2.lt; simp at r2c0; refine Blk.thru (b := w.heap.size + 1 + 1 + 1) (arr := ?_) (t := ?_) ?_ hb1 ?_; rotate_left 2; (focus (exact blk)); intro r3; have r3c0 := r3.cell 0; have r3f0 := r3.free 0; have r3l := r3.lt; simp at r3c0; refine Blk.thru (b := w.heap.size + 1 + 1 + 1 + 1) (arr := ?_) (t := ?_) ?_ hb1 ?_; rotate_left 2; (focus (exact blk)); intro r4; have r4c0 := r4.cell 0; have r4f0 := r4.free 0; have r4l := r4.lt; simp at r4c0; refine Blk.thru (b := bx) (arr := ?_) (t := ?_) ?_ hb1 ?_; rotate_left 2; (focus (exact blk)); intro qx; have qxl := qx.lt) | (gi_at_builtin; obtain ⟨i0, hi, hz0, hz1, hz2⟩ := info_parts infoLoad; refine wpListIn_append_own _ rfl _ _ 22 rfl W2.heap.size 88 i0 (.agg #[.int .i64 0, .int .i64 0, .int .i64 0, .int .i64 0]) 4 32 Try.underlying22 hi hz0 hz1 hz2 rfl (by decide) _ _ _ rfl (hown1.alloc _) ⟨_, 0, none⟩ 1 1 [.int .i64 y.pos, .int .i64 y.pos, .int .i64 y.wt, .int .i64 y.wt] rfl rfl (cells_four _ _ _ _ _ _) (by intro x hx; simp only [List.mem_cons, List.not_mem_nil, or_false] at hx; rcases hx with rfl | rfl | rfl | rfl <;> rfl) (by unfold maxLen; omega) (by omega) (by have := hb1.size; simp only [World.size_alloc] at this ⊢; omega) ?_; intro v9 w9 hown9 hgrow9 hnil9; clear hi hz0 hz1 hz2))
                have HDa : DropW w w1 _ _ _ _ _ _ _ _ _ := ⟨r0, r1, r2, r3, r4, by (exact kpt)⟩
                have HD9 := DropW.grown (HDa.keep ((Below.refl _ _).alloc (Nat.le_refl _) _) (Nat.le_refl _)) (hown1.alloc _) hs2 hgrow9
                have hX9 := Blk.grown (qx.alloc _) (hown1.alloc _) (by decide) hgrow9
                have hK9 : Kept W2 w9 := Kept.grown (Kept.alloc (Kept.drop (Kept.alloc hk5 _) hb1) _) (hown1.alloc _) (Nat.le_refl _) hgrow9
                go_roundw
                case rel => exact ⟨j + 1, by omega, by go_num, by rw [HK.out, ← List.append_assoc, List.flatMap_append, List.length_append]; exact hown9, HD9, hX9, hK9⟩
                case measure => simp [intOf]; omega
            · obtain rfl : bs.length = j := by omega
              have hLe : xs ++ stay bs (fun i => decide (i ∈ x)) bs.length = L := by rw [HLL.out]; rfl
              rw [hLe] at hown
              obtain ⟨ad, cp, rfl, hrow, hcp, hcm⟩ := owns_row (enc := Load.cells) (k := 4) (fun _ => rfl) hown
              have HRow := fun (V : World) (h : Kept wr V) => hrow.later h (Nat.le_refl _)
              have HD5 : DropW w wr a d b xs.length bs.length ms.length cap cd cb := ⟨r0, r1, r2, r3, r4, hkk⟩
              have r0c0 := r0.cell 0
              have r0f0 := r0.free 0
              have r0l := r0.lt
              simp at r0c0
              have r1c0 := r1.cell 0
              have r1f0 := r1.free 0
              have r1l := r1.lt
              simp at r1c0
              have r2c0 := r2.cell 0
              have r2f0 := r2.free 0
              have r2l := r2.lt
              simp at r2c0
              have r3c0 := r3.cell 0
              have r3f0 := r3.free 0
              have r3l := r3.lt
              simp at r3c0
              have r4c0 := r4.cell 0
              have r4f0 := r4.free 0
              have r4l := r4.lt
              simp at r4c0
              clear r0 r1 r2 r3 r4 hkk hrow hown hLe
              gi_wp2
              gi_loopw [86] (fun i wq => ∃ t : Nat, t ≤ ms.length ∧ i = .int .i64 t ∧ (∀ j, j < t → brk L ms j = false) ∧ DropW w wq a d b xs.length bs.length ms.length cap cd cb ∧ Blk wq bx (ncells x) 3 ∧ Kept wr wq) (fun i _ => ms.length - (intOf i).toNat)
              case atStart => exact ⟨0, Nat.zero_le _, rfl, fun j h => absurd h (Nat.not_lt_zero _), HD5, hX5, Below.refl _ _⟩
              case round =>
                clear HD5 hX5 r0c0 r0f0 r0l r1c0 r1f0 r1l r2c0 r2f0 r2l r3c0 r3f0 r3l r4c0 r4f0 r4l
                obtain ⟨t, ht, rfl, hnb, ⟨r0, r1, r2, r3, r4, hkk⟩, hX5, hkq⟩ := hrel
                by_cases hlt3 : t < ms.length
                · obtain ⟨bm, om, rfl, hbm, l0, l1, l2⟩ := Limit.row (hy.later hkk (Nat.le_refl _)) t hlt3
                  have HMB := Lib.hid (HV2.out _ (List.getElem_mem hlt3))
                  have hbrk := brk_at (xs := L) hlt3
                  obtain ⟨m, hm0⟩ : ∃ m, m = ms[t] := ⟨_, rfl⟩
                  rw [← hm0] at HMB hbrk l0 l1 l2
                  clear hm0
                  have r0c0 := r0.cell 0
                  have r0f0 := r0.free 0
                  have r0l := r0.lt
                  simp at r0c0
                  have r1c0 := r1.cell 0
                  have r1f0 := r1.free 0
                  have r1l := r1.lt
                  simp at r1c0
                  have r2c0 := r2.cell 0
                  have r2f0 := r2.free 0
                  have r2l := r2.lt
                  simp at r2c0
                  have r3c0 := r3.cell 0
                  have r3f0 := r3.free 0
                  have r3l := r3.lt
                  simp at r3c0
                  have r4c0 := r4.cell 0
                  have r4f0 := r4.free 0
                  have r4l := r4.lt
                  simp at r4c0
                  by_cases hgt : m.c < worstV m L
                  · have HBK := Lib.hid (show brk L ms t = true by rw [hbrk]; exact decide_eq_true hgt)
                    clear hbrk
                    gi_wp2_with (refine ⟨trivial, ?_⟩; gi_at_call 83; refine (CallsIn.inRound l (callsIn_wide.2 (f_worst m ad cp L _ (HRow _ (by (exact kpt))) hcp hcm hLn HMB.out HLB.out))).mono ?_; rintro e w2 ⟨v2, rfl, ho2, hb2⟩; refine Blk.thru (b := w.heap.size) (arr := ?_) (t := ?_) ?_ hb2 ?_; rotate_left 2; (focus (exact blk)); intro r0; have r0c0 := r0.cell 0; have r0f0 := r0.free 0; have r0l := r0.lt; simp at r0c0; refine Blk.thru (b := w.heap.size + 1) (arr := ?_) (t := ?_) ?_ hb2 ?_; rotate_left 2; (focus (exact blk)); intro r1; have r1c0 := r1.cell 0; have r1f0 := r1.free 0; have r1l := r1.lt; simp at r1c0; refine Blk.thru (b := w.heap.size + 1 + 1) (arr := ?_) (t := ?_) ?_ hb2 ?_; rotate_left 2; (focus (exact blk)); intro r2; have r2c0 := r2.cell 0; have r2f0 := r2.free 0; have r2l := r2.lt; simp at r2c0; refine Blk.thru (b := w.heap.size + 1 + 1 + 1) (arr := ?_) (t := ?_) ?_ hb2 ?_; rotate_left 2; (focus (exact blk)); intro r3; have r3c0 := r3.cell 0; have r3f0 := r3.free 0; have r3l := r3.lt; simp at r3c0; refine Blk.thru (b := w.heap.size + 1 + 1 + 1 + 1) (arr := ?_) (t := ?_) ?_ hb2 ?_; rotate_left 2; (focus (exact blk)); intro r4; have r4c0 := r4.cell 0; have r4f0 := r4.free 0; have r4l := r4.lt; simp at r4c0; refine Blk.thru (b := bx) (arr := ?_) (t := ?_) ?_ hb2 ?_; rotate_left 2; (focus (exact blk)); intro qx; have qxl := qx.lt; refine Blk.thru (b := wr.heap.size) (arr := ?_) (t := ?_) ?_ hb2 ?_; rotate_left 2; (focus (exact blk)); intro qm; have qmc0 := qm.cell 0; have qmf0 := qm.free 0; have qmc1 := qm.cell 1; have qmf1 := qm.free 1; have qmc2 := qm.cell 2; have qmf2 := qm.free 2; have qml := qm.lt; simp at qmc0 qmc1 qmc2)
                    have hKW : Kept W2 w2 := by (exact kpt)
                    refine ⟨hKW, hbel.trans (hKW.mono hbel.size), ?_⟩
                    intro z hz
                    rcases List.mem_append.1 hz with hz | hz
                    · exact hno2 z hz
                    · simp at hz
                      subst hz
                      exact okSet_some HLL.out.symm hlt3 hnb HBK.out
                  · have HBK := Lib.hid (show brk L ms t = false by rw [hbrk]; exact decide_eq_false hgt)
                    clear hbrk
                    gi_wp2_with (refine ⟨trivial, ?_⟩; gi_at_call 83; refine (CallsIn.inRound l (callsIn_wide.2 (f_worst m ad cp L _ (HRow _ (by (exact kpt))) hcp hcm hLn HMB.out HLB.out))).mono ?_; rintro e w2 ⟨v2, rfl, ho2, hb2⟩; refine Blk.thru (b := w.heap.size) (arr := ?_) (t := ?_) ?_ hb2 ?_; rotate_left 2; (focus (exact blk)); intro r0; have r0c0 := r0.cell 0; have r0f0 := r0.free 0; have r0l := r0.lt; simp at r0c0; refine Blk.thru (b := w.heap.size + 1) (arr := ?_) (t := ?_) ?_ hb2 ?_; rotate_left 2; (focus (exact blk)); intro r1; have r1c0 := r1.cell 0; have r1f0 := r1.free 0; have r1l := r1.lt; simp at r1c0; refine Blk.thru (b := w.heap.size + 1 + 1) (arr := ?_) (t := ?_) ?_ hb2 ?_; rotate_left 2; (focus (exact blk)); intro r2; have r2c0 := r2.cell 0; have r2f0 := r2.free 0; have r2l := r2.lt; simp at r2c0; refine Blk.thru (b := w.heap.size + 1 + 1 + 1) (arr := ?_) (t := ?_) ?_ hb2 ?_; rotate_left 2; (focus (exact blk)); intro r3; have r3c0 := r3.cell 0; have r3f0 := r3.free 0; have r3l := r3.lt; simp at r3c0; refine Blk.thru (b := w.heap.size + 1 + 1 + 1 + 1) (arr := ?_) (t := ?_) ?_ hb2 ?_; rotate_left 2; (focus (exact blk)); intro r4; have r4c0 := r4.cell 0; have r4f0 := r4.free 0; have r4l := r4.lt; simp at r4c0; refine Blk.thru (b := bx) (arr := ?_) (t := ?_) ?_ hb2 ?_; rotate_left 2; (focus (exact blk)); intro qx; have qxl := qx.lt; refine Blk.thru (b := wr.heap.size) (arr := ?_) (t := ?_) ?_ hb2 ?_; rotate_left 2; (focus (exact blk)); intro qm; have qmc0 := qm.cell 0; have qmf0 := qm.free 0; have qmc1 := qm.cell 1; have qmf1 := qm.free 1; have qmc2 := qm.cell 2; have qmf2 := qm.free 2; have qml := qm.lt; simp at qmc0 qmc1 qmc2)
                    go_roundw
                    case rel =>
                      refine ⟨t + 1, by omega, by go_num, fun j hj => ?_, ⟨by (exact blkc), by (exact blkc), by (exact blkc), by (exact blkc), by (exact blkc), by (exact kpt)⟩, by (exact blkc), by (exact kpt)⟩
                      rcases Nat.lt_or_ge j t with h | h
                      · exact hnb j h
                      · obtain rfl : j = t := by omega
                        exact HBK.out
                    case measure => simp [intOf]; omega
                · obtain rfl : ms.length = t := by omega
                  have HOK := Lib.hid (okSet_none (x := x) HLL.out.symm hnb)
                  have hClo := fun (W : World) (h : Blk W bx (ncells x) 3) => s_CloneI (some ⟨bx, 0, none⟩) x.length (ints x) W (row_ints h) (by rw [ints_len]; omega) (fun h => by cases h)
                  simp only [ints_len] at hClo
                  rw [hxl] at hClo
                  have r0c0 := r0.cell 0
                  have r0f0 := r0.free 0
                  have r0l := r0.lt
                  simp at r0c0
                  have r1c0 := r1.cell 0
                  have r1f0 := r1.free 0
                  have r1l := r1.lt
                  simp at r1c0
                  have r2c0 := r2.cell 0
                  have r2f0 := r2.free 0
                  have r2l := r2.lt
                  simp at r2c0
                  have r3c0 := r3.cell 0
                  have r3f0 := r3.free 0
                  have r3l := r3.lt
                  simp at r3c0
                  have r4c0 := r4.cell 0
                  have r4f0 := r4.free 0
                  have r4l := r4.lt
                  simp at r4c0
                  clear hnb
                  have hKq : Kept W2 wr := by (exact kpt)
                  have hqs := hKq.size
                  gi_wp2_with (refine ⟨trivial, ?_⟩; gi_at_call 94; refine (CallsIn.inRound l (callsIn_wide.2 (hClo _ hX5))).mono ?_; rintro e w1 ⟨v1, rfl, ho1, hb1⟩; obtain ⟨ad1, cp1, rfl, hrw1, hcp1, hcm1⟩ := owns_row (enc := icell) (k := 1) (fun _ => rfl) (show w1.ownsRow _ _ 1 v1 (ints x).length _ by rw [ints_len, hxl]; exact ho1); clear hrw1 hcp1 hcm1; refine Blk.thru (b := w.heap.size) (arr := ?_) (t := ?_) ?_ hb1 ?_; rotate_left 2; (focus (exact blk)); intro r0; have r0c0 := r0.cell 0; have r0f0 := r0.free 0; have r0l := r0.lt; simp at r0c0; refine Blk.thru (b := w.heap.size + 1) (arr := ?_) (t := ?_) ?_ hb1 ?_; rotate_left 2; (focus (exact blk)); intro r1; have r1c0 := r1.cell 0; have r1f0 := r1.free 0; have r1l := r1.lt; simp at r1c0; refine Blk.thru (b := w.heap.size + 1 + 1) (arr := ?_) (t := ?_) ?_ hb1 ?_; rotate_left 2; (focus (exact blk)); intro r2; have r2c0 := r2.cell 0; have r2f0 := r2.free 0; have r2l := r2.lt; simp at r2c0; refine Blk.thru (b := w.heap.size + 1 + 1 + 1) (arr := ?_) (t := ?_) ?_ hb1 ?_; rotate_left 2; (focus (exact blk)); intro r3; have r3c0 := r3.cell 0; have r3f0 := r3.free 0; have r3l := r3.lt; simp at r3c0; refine Blk.thru (b := w.heap.size + 1 + 1 + 1 + 1) (arr := ?_) (t := ?_) ?_ hb1 ?_; rotate_left 2; (focus (exact blk)); intro r4; have r4c0 := r4.cell 0; have r4f0 := r4.free 0; have r4l := r4.lt; simp at r4c0)
                  have hKW : Kept W2 w1 := by (exact kpt)
                  have hkw : Kept w w1 := by (exact kpt)
                  have ho3 := owns_set r3 ho1 (by decide) (i := 0) (u := .slice ad1 (ints x).length cp1)
                  have ho4 := owns_set (b := w.heap.size + 1 + 1 + 1 + 1) (i := 0) (u := .int .i64 0) (r4.other (a := ⟨w.heap.size + 1 + 1 + 1, 0, none⟩) (by simp) (.slice ad1 (ints x).length cp1)) ho3 (by decide)
                  have hSx : S = some x := by rw [hS]; exact drop_found hlt HNO.out HL.out hno2 HOK.out
                  refine ⟨?_, rfl, x, .slice ad1 (ints x).length cp1, hSx, ?_, ?_, ?_, ?_, ?_⟩
                  · exact (keepsFrom_of_kept hKW _).trans (((KeepsOthers.setCell _ _ _).trans (KeepsOthers.setCell _ _ _)).from _)
                  · exact Blk.other (by simpa using r3.set 0 (.slice ad1 (ints x).length cp1)) (by simp) _
                  · simpa using (r4.other (a := ⟨w.heap.size + 1 + 1 + 1, 0, none⟩) (by simp) (.slice ad1 (ints x).length cp1)).set 0 (.int .i64 0)
                  · rw [← hxl, ← ints_len] at ho4
                    exact owns_base ho4 (by omega)
                  · (exact kpt)
                  · exact (hM.keep hbel (Nat.le_refl _)).from ((keepsFrom_of_kept hKW _).trans (((KeepsOthers.setCell _ _ _).trans (KeepsOthers.setCell _ _ _)).from _)) (Nat.le_refl _)

        case done =>
          rintro D W3 hD ⟨hbel, hno2⟩ hK
          simp only [Exit.noGoto, Exit.inBlock]
          have hlM : ∀ E ∈ Ds, E < W1.heap.size := fun E hE => (Array.getElem?_eq_some_iff.1 (hM.2 E hE).2).1
          have hM3 : Marked w.heap.size (D :: Ds) W3 := by
            have hk3 := hM.keep hbel (Nat.le_refl _)
            refine ⟨List.nodup_cons.2 ⟨fun h => by have := hlM D h; omega, hk3.1⟩, fun E hE => ?_⟩
            rcases List.mem_cons.1 hE with rfl | hE
            · exact ⟨by omega, hK⟩
            · exact hk3.2 E hE
          have HD3 := HD1.keep hbel (Nat.le_refl _)
          have hno3 : ∀ s, s < k + 1 → ∀ y ∈ combs bs.length s 0, okSet xs bs ms y = false := fun s hs => by
            rcases Nat.lt_or_ge s k with h | h
            · exact hno s h
            · obtain rfl : s = k := by omega
              exact hno2
          gi_wp2
          refine ⟨⟨k + 1, D :: Ds, ?_, by omega, hM3, HD3, hno3⟩, ?_⟩
          · exact (drop_act _ rfl rfl rfl rfl rfl rfl rfl rfl rfl rfl rfl).imp fun u hu => congrArg (fun A => Act.mk A (marks (D :: Ds))) hu
          · simp [intOf]; omega
        case stop =>
          rintro D c pre W3 hD hpre ⟨rfl, hend⟩ hK
          gi_wp2
          simp only [Exit.noGoto, Exit.inBlock, Exit.then]
          obtain ⟨x, vv, hSx, e3, e4, hrow, hkp, hmk⟩ := hend
          have hlM : ∀ E ∈ Ds, E < W1.heap.size := fun E hE => (Array.getElem?_eq_some_iff.1 (hM.2 E hE).2).1
          refine leaves_marks (B := w.heap.size) (fun W => DropEnd w S [] W) (dropEnd_own (W1 := w) ⟨by simp, by simp⟩ (Nat.le_refl _) (Nat.le_refl _)) ?_ (D :: Ds) W3 ⟨List.nodup_cons.2 ⟨fun h => by have := hlM D h; omega, hmk.1⟩, fun E hE => ?_⟩ ⟨x, vv, hSx, e3, e4, hrow, hkp, ⟨by simp, by simp⟩⟩
          · rintro W5 ⟨y, vv, hSy, e3, e4, hrow, hkp, _⟩
            have c3 := e3.cell 0
            have c4 := e4.cell 0
            simp at c3 c4
            have hN1 : dropN xs bs ms = 0 := by unfold dropN; rw [← hS, hSy]
            have hN2 : dropR xs bs ms = ints y := by unfold dropR; rw [← hS, hSy]
            refine ⟨.tuple #[vv, .int .i64 0], by simp [results, Try.results42, go_sem, c3, c4], vv, by rw [hN1], by rw [hN2]; exact hrow, hkp⟩
          · rcases List.mem_cons.1 hE with rfl | hE
            · exact ⟨by omega, hK⟩
            · exact hmk.2 E hE
      · obtain rfl : k = bs.length + 1 := by omega
        have hS : dropS xs bs ms = none := drop_none fun s hs => hno s hs
        have hN1 : dropN xs bs ms = 6 := by unfold dropN; rw [hS]
        have hN2 : dropR xs bs ms = [] := by unfold dropR; rw [hS]
        gi_wp2
        obtain ⟨r0, r1, r2, r3, r4, hkk⟩ := id HDW
        rw [hN1, hN2]
        refine leaves_marks (B := w.heap.size) (fun W => Blk W (w.heap.size + 1 + 1 + 1) #[.slice none 0 0] 63 ∧ Blk W (w.heap.size + 1 + 1 + 1 + 1) #[.int .i64 6] 26 ∧ Kept w W) ?_ ?_ Ds _ (hM1.from (((KeepsOthers.setCell _ _ _).trans (KeepsOthers.setCell _ _ _)).from w.heap.size) (Nat.le_refl _)) ⟨Blk.other (by simpa using r3.set 0 (.slice none 0 0)) (by simp) _, by simpa using (r4.other (a := ⟨w.heap.size + 1 + 1 + 1, 0, none⟩) (by simp) (.slice none 0 0)).set 0 (.int .i64 6), by (exact kpt)⟩
        · intro s X Y row hs hg hr
          exact ⟨blk_own (β := Unit) _ _ _ _ () X Y row hs.1 hg hr, blk_own (β := Unit) _ _ _ _ () X Y row hs.2.1 hg hr, ownFrom_below (β := Unit) (Nat.le_refl _) (Nat.le_refl _) () X Y row hs.2.2 hg hr⟩
        · rintro W5 ⟨e3, e4, hkp⟩
          have c3 := e3.cell 0
          have c4 := e4.cell 0
          simp at c3 c4
          refine ⟨.tuple #[.slice none 0 0, .int .i64 6], by simp [results, Try.results42, go_sem, c3, c4], .slice none 0 0, rfl, owns_nil (α := Int) (enc := icell), hkp⟩

theorem dropL_eq (xs : List Load) (bs : List Put) (ms : List Limit) (h1 : both xs ms = 0) (h2 : many xs bs = false) (h3 : bs.all bagB = true) : dropE xs bs ms = dropN xs bs ms ∧ dropL xs bs ms = dropR xs bs ms := by
  have h : dropE xs bs ms = dropN xs bs ms := by unfold dropE; rw [if_pos h1, h2, h3]; rfl
  refine ⟨h, ?_⟩
  unfold dropL
  rw [h]
  unfold dropN dropR
  cases dropS xs bs ms with
  | some x => rfl
  | none => rfl
theorem f_Drop (a : Option Addr) (cap : Nat) (xs : List Load) (d : Option Addr) (cd : Nat) (bs : List Put) (b : Option Addr) (cb : Nat) (ms : List Limit) (w : World) (hx : Row Load.cells 4 w.heap.size w a xs) (hc : xs.length ≤ cap) (hM : cap ≤ maxLen) (hp : Row Put.cells 2 w.heap.size w d bs) (hpc : bs.length ≤ cd) (hpM : cd ≤ maxLen) (hy : Row Limit.cells 3 w.heap.size w b ms) (hd : ms.length ≤ cb) (hN : cb ≤ maxLen) (hz : a = none → cap = 0) :
    Calls Try.prog 42 #[.slice a xs.length cap, .slice d bs.length cd, .slice b ms.length cb] w fun e w' => ∃ v, e = .returned (.tuple #[v, .int .i64 (dropE xs bs ms)]) ∧ w'.ownsRow w.heap.size 3 1 v (dropL xs bs ms).length ((dropL xs bs ms).flatMap icell) ∧ Kept w w' := by
  by_cases he : both xs ms = 0
  · cases hm : many xs bs
    · cases hb : bs.all bagB
      · have h1 : dropE xs bs ms = 40 := by unfold dropE; rw [if_pos he, hm, hb]; rfl
        have h2 : dropL xs bs ms = [] := by unfold dropL; rw [h1]; rfl
        rw [h1, h2]
        exact (f_Drop_bags a cap xs d cd bs b cb ms w hx hc hM hp hpc hpM hy hd hN he hm hb).mono fun e w' h => ⟨.slice none 0 0, h.1, owns_nil (α := Int) (enc := icell), h.2⟩
      · obtain ⟨h1, h2⟩ := dropL_eq xs bs ms he hm hb
        rw [h1, h2]
        exact f_Drop_main a cap xs d cd bs b cb ms w hx hc hM hp hpc hpM hy hd hN hz he hm hb
    · have h1 : dropE xs bs ms = 4 := by unfold dropE; rw [if_pos he, hm]; rfl
      have h2 : dropL xs bs ms = [] := by unfold dropL; rw [h1]; rfl
      rw [h1, h2]
      exact (f_Drop_many a cap xs d cd bs b cb ms w hx hc hM hp hpc hpM hy hd hN he hm).mono fun e w' h => ⟨.slice none 0 0, h.1, owns_nil (α := Int) (enc := icell), h.2⟩
  · have h1 : dropE xs bs ms = both xs ms := by unfold dropE; rw [if_neg he]
    have h2 : dropL xs bs ms = [] := by unfold dropL; rw [h1, if_neg he]
    rw [h1, h2]
    exact (f_Drop_bad a cap xs d cd bs b cb ms w hx hc hM hp hpc hpM hy hd hN he).mono fun e w' h => ⟨.slice none 0 0, h.1, owns_nil (α := Int) (enc := icell), h.2⟩

end Go.Proofs.Ytlloijkmpmfapaa

/-
  Shear and bending, in the program.
-/
namespace Go.Proofs.Ytlloijkmpmfapaa
open Go.RowKit Bal Bal.Trim
set_option linter.unusedVariables false
set_option linter.unusedSimpArgs false
set_option maxHeartbeats 800000

set_option maxRecDepth 10000

theorem Blk.cell0 {w : World} {b : Nat} {v : Value} {t : TypeId} (h : Blk w b #[v] t) : w.cell? ⟨b, 0, none⟩ = some v := by have := h.cell 0; simpa using this
theorem f_arm (x : Load) (n : Int) (w : World) (hv : loadB x = true) (hn : -20000 ≤ n ∧ n ≤ 20000) :
    Calls Try.prog 111 #[.agg #[.int .i64 x.alo, .int .i64 x.ahi, .int .i64 x.wlo, .int .i64 x.whi], .int .i64 n] w fun e w' => e = .returned (.agg #[.int .i64 (aLo x n), .int .i64 (aHi x n)]) ∧ Kept w w' := by
  obtain ⟨⟨h1, h2, h3, h4⟩, _, hle, _⟩ := loadB_bd hv
  clear hv
  by_cases c1 : n - x.ahi < 0 <;> by_cases c2 : n - x.alo < 0
  · have e1 : aLo x n = 0 := by unfold aLo; omega
    have e2 : aHi x n = 0 := by unfold aHi; omega
    rw [e1, e2]
    go_enter Try.func111, Try.ntmps111
    go_wp2
    exact bodyPost_ret (v := .agg #[.int .i64 (0), .int .i64 (0)]) (by simp [results, Try.results111, go_sem]) rfl ⟨rfl, by (exact kpt)⟩
  · have e1 : aLo x n = 0 := by unfold aLo; omega
    have e2 : aHi x n = n - x.alo := by unfold aHi; omega
    rw [e1, e2]
    go_enter Try.func111, Try.ntmps111
    go_wp2
    exact bodyPost_ret (v := .agg #[.int .i64 (0), .int .i64 (n - x.alo)]) (by simp [results, Try.results111, go_sem]) rfl ⟨rfl, by (exact kpt)⟩
  · omega
  · have e1 : aLo x n = n - x.ahi := by unfold aLo; omega
    have e2 : aHi x n = n - x.alo := by unfold aHi; omega
    rw [e1, e2]
    go_enter Try.func111, Try.ntmps111
    go_wp2
    exact bodyPost_ret (v := .agg #[.int .i64 (n - x.ahi), .int .i64 (n - x.alo)]) (by simp [results, Try.results111, go_sem]) rfl ⟨rfl, by (exact kpt)⟩

theorem f_shear1 (x : Load) (n : Int) (bn : Nat) (w : World) (hbn : bn < w.heap.size) (hcell : w.cell? ⟨bn, 0, none⟩ = some (.int .i64 n)) (hv : loadB x = true) (hn : -20000 ≤ n ∧ n ≤ 20000) :
    Calls Try.prog 110 #[.agg #[.int .i64 x.alo, .int .i64 x.ahi, .int .i64 x.wlo, .int .i64 x.whi], .pointer (some ⟨bn, 0, none⟩)] w fun e w' => e = .returned (.agg #[.int .i64 (sLo n x), .int .i64 (sHi n x)]) ∧ Kept w w' := by
  obtain ⟨_, ⟨h5, h6, h7, h8⟩, _⟩ := loadB_bd hv
  obtain ⟨⟨a1, a2⟩, a3, a4⟩ := a_bd hv hn
  have HV := Lib.hid hv
  have HN := Lib.hid hn
  clear hv hn
  by_cases c1 : 1 < aLo x n <;> by_cases c2 : 1 < aHi x n
  · have e1 : sLo n x = tLo (1) (1) x.wlo x.whi := by unfold sLo; rw [show min (aLo x n) 1 = 1 by omega, show min (aHi x n) 1 = 1 by omega]
    have e2 : sHi n x = tHi (1) (1) x.wlo x.whi := by unfold sHi; rw [show min (aLo x n) 1 = 1 by omega, show min (aHi x n) 1 = 1 by omega]
    rw [e1, e2]
    clear e1 e2
    go_enter Try.func110, Try.ntmps110
    go_wp2_with (first | (go_at_call 111; (with_reducible refine (f_arm x n _ HV.out HN.out).mono ?_); rintro e w1 ⟨rfl, hb1⟩; refine Blk.thru (b := w.heap.size) (arr := ?_) (t := ?_) ?_ hb1 ?_; rotate_left 2; (focus (exact blk)); intro qx; have qxc0 := qx.cell 0; have qxf0 := qx.free 0; have qxc1 := qx.cell 1; have qxf1 := qx.free 1; have qxc2 := qx.cell 2; have qxf2 := qx.free 2; have qxc3 := qx.cell 3; have qxf3 := qx.free 3; have qxl := qx.lt; simp at qxc0 qxc1 qxc2 qxc3; refine Blk.thru (b := w.heap.size + 1) (arr := ?_) (t := ?_) ?_ hb1 ?_; rotate_left 2; (focus (exact blk)); intro qr; have qrc0 := qr.cell 0; have qrf0 := qr.free 0; have qrc1 := qr.cell 1; have qrf1 := qr.free 1; have qrl := qr.lt; simp at qrc0 qrc1) | (go_at_call 81; refine (f_times _ _ _ _ _ (by omega) (by omega) (by omega) (by omega) (by omega) (by omega) (by omega) (by omega)).mono ?_; rintro e w2 ⟨rfl, hb2⟩; refine Blk.thru (b := w.heap.size + 1) (arr := ?_) (t := ?_) ?_ hb2 ?_; rotate_left 2; (focus (exact blk)); intro qr; have qrc0 := qr.cell 0; have qrf0 := qr.free 0; have qrc1 := qr.cell 1; have qrf1 := qr.free 1; have qrl := qr.lt; simp at qrc0 qrc1))
    exact bodyPost_ret (v := .agg #[.int .i64 (tLo (1) (1) x.wlo x.whi), .int .i64 (tHi (1) (1) x.wlo x.whi)]) (by simp [results, Try.results110, go_sem, qrc0, qrc1, qrf0, qrf1, qrl]) rfl ⟨rfl, by (exact kpt)⟩
  · have e1 : sLo n x = tLo (1) (aHi x n) x.wlo x.whi := by unfold sLo; rw [show min (aLo x n) 1 = 1 by omega, show min (aHi x n) 1 = aHi x n by omega]
    have e2 : sHi n x = tHi (1) (aHi x n) x.wlo x.whi := by unfold sHi; rw [show min (aLo x n) 1 = 1 by omega, show min (aHi x n) 1 = aHi x n by omega]
    rw [e1, e2]
    clear e1 e2
    go_enter Try.func110, Try.ntmps110
    go_wp2_with (first | (go_at_call 111; (with_reducible refine (f_arm x n _ HV.out HN.out).mono ?_); rintro e w1 ⟨rfl, hb1⟩; refine Blk.thru (b := w.heap.size) (arr := ?_) (t := ?_) ?_ hb1 ?_; rotate_left 2; (focus (exact blk)); intro qx; have qxc0 := qx.cell 0; have qxf0 := qx.free 0; have qxc1 := qx.cell 1; have qxf1 := qx.free 1; have qxc2 := qx.cell 2; have qxf2 := qx.free 2; have qxc3 := qx.cell 3; have qxf3 := qx.free 3; have qxl := qx.lt; simp at qxc0 qxc1 qxc2 qxc3; refine Blk.thru (b := w.heap.size + 1) (arr := ?_) (t := ?_) ?_ hb1 ?_; rotate_left 2; (focus (exact blk)); intro qr; have qrc0 := qr.cell 0; have qrf0 := qr.free 0; have qrc1 := qr.cell 1; have qrf1 := qr.free 1; have qrl := qr.lt; simp at qrc0 qrc1) | (go_at_call 81; refine (f_times _ _ _ _ _ (by omega) (by omega) (by omega) (by omega) (by omega) (by omega) (by omega) (by omega)).mono ?_; rintro e w2 ⟨rfl, hb2⟩; refine Blk.thru (b := w.heap.size + 1) (arr := ?_) (t := ?_) ?_ hb2 ?_; rotate_left 2; (focus (exact blk)); intro qr; have qrc0 := qr.cell 0; have qrf0 := qr.free 0; have qrc1 := qr.cell 1; have qrf1 := qr.free 1; have qrl := qr.lt; simp at qrc0 qrc1))
    exact bodyPost_ret (v := .agg #[.int .i64 (tLo (1) (aHi x n) x.wlo x.whi), .int .i64 (tHi (1) (aHi x n) x.wlo x.whi)]) (by simp [results, Try.results110, go_sem, qrc0, qrc1, qrf0, qrf1, qrl]) rfl ⟨rfl, by (exact kpt)⟩
  · have e1 : sLo n x = tLo (aLo x n) (1) x.wlo x.whi := by unfold sLo; rw [show min (aLo x n) 1 = aLo x n by omega, show min (aHi x n) 1 = 1 by omega]
    have e2 : sHi n x = tHi (aLo x n) (1) x.wlo x.whi := by unfold sHi; rw [show min (aLo x n) 1 = aLo x n by omega, show min (aHi x n) 1 = 1 by omega]
    rw [e1, e2]
    clear e1 e2
    go_enter Try.func110, Try.ntmps110
    go_wp2_with (first | (go_at_call 111; (with_reducible refine (f_arm x n _ HV.out HN.out).mono ?_); rintro e w1 ⟨rfl, hb1⟩; refine Blk.thru (b := w.heap.size) (arr := ?_) (t := ?_) ?_ hb1 ?_; rotate_left 2; (focus (exact blk)); intro qx; have qxc0 := qx.cell 0; have qxf0 := qx.free 0; have qxc1 := qx.cell 1; have qxf1 := qx.free 1; have qxc2 := qx.cell 2; have qxf2 := qx.free 2; have qxc3 := qx.cell 3; have qxf3 := qx.free 3; have qxl := qx.lt; simp at qxc0 qxc1 qxc2 qxc3; refine Blk.thru (b := w.heap.size + 1) (arr := ?_) (t := ?_) ?_ hb1 ?_; rotate_left 2; (focus (exact blk)); intro qr; have qrc0 := qr.cell 0; have qrf0 := qr.free 0; have qrc1 := qr.cell 1; have qrf1 := qr.free 1; have qrl := qr.lt; simp at qrc0 qrc1) | (go_at_call 81; refine (f_times _ _ _ _ _ (by omega) (by omega) (by omega) (by omega) (by omega) (by omega) (by omega) (by omega)).mono ?_; rintro e w2 ⟨rfl, hb2⟩; refine Blk.thru (b := w.heap.size + 1) (arr := ?_) (t := ?_) ?_ hb2 ?_; rotate_left 2; (focus (exact blk)); intro qr; have qrc0 := qr.cell 0; have qrf0 := qr.free 0; have qrc1 := qr.cell 1; have qrf1 := qr.free 1; have qrl := qr.lt; simp at qrc0 qrc1))
    exact bodyPost_ret (v := .agg #[.int .i64 (tLo (aLo x n) (1) x.wlo x.whi), .int .i64 (tHi (aLo x n) (1) x.wlo x.whi)]) (by simp [results, Try.results110, go_sem, qrc0, qrc1, qrf0, qrf1, qrl]) rfl ⟨rfl, by (exact kpt)⟩
  · have e1 : sLo n x = tLo (aLo x n) (aHi x n) x.wlo x.whi := by unfold sLo; rw [show min (aLo x n) 1 = aLo x n by omega, show min (aHi x n) 1 = aHi x n by omega]
    have e2 : sHi n x = tHi (aLo x n) (aHi x n) x.wlo x.whi := by unfold sHi; rw [show min (aLo x n) 1 = aLo x n by omega, show min (aHi x n) 1 = aHi x n by omega]
    rw [e1, e2]
    clear e1 e2
    go_enter Try.func110, Try.ntmps110
    go_wp2_with (first | (go_at_call 111; (with_reducible refine (f_arm x n _ HV.out HN.out).mono ?_); rintro e w1 ⟨rfl, hb1⟩; refine Blk.thru (b := w.heap.size) (arr := ?_) (t := ?_) ?_ hb1 ?_; rotate_left 2; (focus (exact blk)); intro qx; have qxc0 := qx.cell 0; have qxf0 := qx.free 0; have qxc1 := qx.cell 1; have qxf1 := qx.free 1; have qxc2 := qx.cell 2; have qxf2 := qx.free 2; have qxc3 := qx.cell 3; have qxf3 := qx.free 3; have qxl := qx.lt; simp at qxc0 qxc1 qxc2 qxc3; refine Blk.thru (b := w.heap.size + 1) (arr := ?_) (t := ?_) ?_ hb1 ?_; rotate_left 2; (focus (exact blk)); intro qr; have qrc0 := qr.cell 0; have qrf0 := qr.free 0; have qrc1 := qr.cell 1; have qrf1 := qr.free 1; have qrl := qr.lt; simp at qrc0 qrc1) | (go_at_call 81; refine (f_times _ _ _ _ _ (by omega) (by omega) (by omega) (by omega) (by omega) (by omega) (by omega) (by omega)).mono ?_; rintro e w2 ⟨rfl, hb2⟩; refine Blk.thru (b := w.heap.size + 1) (arr := ?_) (t := ?_) ?_ hb2 ?_; rotate_left 2; (focus (exact blk)); intro qr; have qrc0 := qr.cell 0; have qrf0 := qr.free 0; have qrc1 := qr.cell 1; have qrf1 := qr.free 1; have qrl := qr.lt; simp at qrc0 qrc1))
    exact bodyPost_ret (v := .agg #[.int .i64 (tLo (aLo x n) (aHi x n) x.wlo x.whi), .int .i64 (tHi (aLo x n) (aHi x n) x.wlo x.whi)]) (by simp [results, Try.results110, go_sem, qrc0, qrc1, qrf0, qrf1, qrl]) rfl ⟨rfl, by (exact kpt)⟩

theorem f_bend1 (x : Load) (n : Int) (bn : Nat) (w : World) (hbn : bn < w.heap.size) (hcell : w.cell? ⟨bn, 0, none⟩ = some (.int .i64 n)) (hv : loadB x = true) (hn : -20000 ≤ n ∧ n ≤ 20000) :
    Calls Try.prog 113 #[.agg #[.int .i64 x.alo, .int .i64 x.ahi, .int .i64 x.wlo, .int .i64 x.whi], .pointer (some ⟨bn, 0, none⟩)] w fun e w' => e = .returned (.agg #[.int .i64 (bLo n x), .int .i64 (bHi n x)]) ∧ Kept w w' := by
  obtain ⟨_, ⟨h5, h6, h7, h8⟩, _⟩ := loadB_bd hv
  obtain ⟨⟨a1, a2⟩, a3, a4⟩ := a_bd hv hn
  have HAR := Lib.hid (fun w => f_arm x n w hv hn)
  have HTI := Lib.hid (fun w => f_times (aLo x n) (aHi x n) x.wlo x.whi w (by omega) (by omega) (by omega) (by omega) (by omega) (by omega) (by omega) (by omega))
  clear hv hn
  go_enter Try.func113, Try.ntmps113
  go_upto_region 1 with fail
  refine at_world (S := fun W => Blk W w.heap.size #[.int .i64 x.alo, .int .i64 x.ahi, .int .i64 x.wlo, .int .i64 x.whi] 88 ∧ Blk W (w.heap.size + 1) #[.int .i64 0, .int .i64 0] 49 ∧ Kept w W) ⟨by (exact blk), by (exact blk), by (exact kpt)⟩ ?_
  rintro W ⟨r0, r1, hk⟩
  have r0c0 := fun g : Later W => (r0.later g).cell 0
  have r0f0 := fun g : Later W => (r0.later g).free 0
  have r0c1 := fun g : Later W => (r0.later g).cell 1
  have r0f1 := fun g : Later W => (r0.later g).free 1
  have r0c2 := fun g : Later W => (r0.later g).cell 2
  have r0f2 := fun g : Later W => (r0.later g).free 2
  have r0c3 := fun g : Later W => (r0.later g).cell 3
  have r0f3 := fun g : Later W => (r0.later g).free 3
  have r0l := fun g : Later W => (r0.later g).lt
  simp at r0c0 r0c1 r0c2 r0c3
  have r1c0 := fun g : Later W => (r1.later g).cell 0
  have r1f0 := fun g : Later W => (r1.later g).free 0
  have r1c1 := fun g : Later W => (r1.later g).cell 1
  have r1f1 := fun g : Later W => (r1.later g).free 1
  have r1l := fun g : Later W => (r1.later g).lt
  simp at r1c0 r1c1
  have y0 := fun g : Later W => (Below.cell (p := ⟨bn, 0, none⟩) (Kept.drop hk g.ok) hbn).trans hcell
  refine later_mix [(false, 0), (false, 1), (false, 2), (false, 3), (false, 4), (false, 5)] 6 [] (by kernel_rfl) (by kernel_rfl) ?_
  simp only [List.filterMap_cons, List.filterMap_nil, List.getElem?_cons_zero, List.getElem?_cons_succ, Option.map_some]
  repeat (refine wpSteps_quiet ?_; (first | go_big_quiet_skip | (go_big_quiet_want; go_big_quiet_op; first | go_big_quiet_on | (apply Exists.intro; refine ⟨fun g => ?_, ?_⟩; (focus (first | (go_at_call 111; with_reducible exact Later.call (HAR.out _)) | (go_at_call 81; with_reducible exact Later.call (HTI.out _)))); go_big_quiet_on))); refine wpQuiet_nil ?_)
  refine wpSteps_nil ?_
  intro gg
  have hkgg := Kept.drop hk gg.ok
  skip
  go_wp2
  refine NoPanic.normal ?_
  go_wp2
  have s1 := r1.later gg
  have s1c0 := s1.cell 0
  have s1f0 := s1.free 0
  have s1c1 := s1.cell 1
  have s1f1 := s1.free 1
  have s1l := s1.lt
  simp at s1c0 s1c1
  exact bodyPost_ret (v := .agg #[.int .i64 (tLo (aLo x n) (aHi x n) x.wlo x.whi), .int .i64 (tHi (aLo x n) (aHi x n) x.wlo x.whi)]) (by simp [results, Try.results113, go_sem, s1c0, s1c1, s1f0, s1f1]) rfl ⟨rfl, by (exact kpt)⟩

theorem f_added_shear (n : Int) (bn : Nat) (hnn : -20000 ≤ n ∧ n ≤ 20000) (a : Option Addr) (cap : Nat) (xs : List Load) (w : World) (hx : Row Load.cells 4 w.heap.size w a xs) (hc : xs.length ≤ cap) (hM : cap ≤ maxLen) (hn : xs.length ≤ 40) (hv : ∀ x ∈ xs, loadB x = true)
    (hbn : bn < w.heap.size) (hcell : w.cell? ⟨bn, 0, none⟩ = some (.int .i64 n)) (hg : ∀ x, loadB x = true → (-50000000000000 ≤ (sLo n) x ∧ (sLo n) x ≤ 50000000000000) ∧ (-50000000000000 ≤ (sHi n) x ∧ (sHi n) x ≤ 50000000000000)) :
    Calls Try.prog 78 #[.slice a xs.length cap, .func (.func 110) #[] #[.pointer (some ⟨bn, 0, none⟩)]] w fun e w' => e = .returned (.agg #[.int .i64 (sumBy ((sLo n)) xs), .int .i64 (sumBy ((sHi n)) xs)]) ∧ Kept w w' := by
  unfold maxLen at hM
  have HNN := Lib.hid hnn
  have bLo := fun k => sumBy_take_bd ((sLo n)) 50000000000000 2000000000000000 xs 40 hn (by omega) (by omega) (fun x h => (hg x (hv x h)).1) k
  have bHi := fun k => sumBy_take_bd ((sHi n)) 50000000000000 2000000000000000 xs 40 hn (by omega) (by omega) (fun x h => (hg x (hv x h)).2) k
  have HLo := Lib.hid bLo
  have HHi := Lib.hid bHi
  clear bLo bHi
  have HG := Lib.hid hg
  have HV := Lib.hid hv
  clear hg hv
  go_enter Try.func78, Try.ntmps78
  go_wp2
  go_loopw [11] (fun i wr => Added ((sLo n)) ((sHi n)) xs w i wr) (fun i _ => xs.length - (intOf i).toNat)
  case atStart => exact ⟨0, Nat.zero_le _, rfl, by simpa using Blk.new (w := w.alloc (.cells #[.int .i64 0, .int .i64 0] 49)), Blk.alloc Blk.new _, by (exact kpt)⟩
  case round =>
    obtain ⟨k, hk, rfl, q1, q0, hbel⟩ := hrel
    have t0 := q1.cell 0
    have t1 := q1.cell 1
    have t2 := q1.free 0
    have t3 := q1.free 1
    have t4 := q0.cell 0
    have t5 := q0.cell 1
    have t6 := q0.free 0
    have t7 := q0.free 1
    have l1 := q1.lt
    have l0 := q0.lt
    simp at t0 t1 t4 t5
    by_cases hlt : k < xs.length
    · obtain ⟨b, off, rfl, hb, h0, h1, h2, h3⟩ := Load.row (hx.later hbel (Nat.le_refl _)) k hlt
      obtain ⟨u1, u2⟩ := HLo.out k
      obtain ⟨u3, u4⟩ := HHi.out k
      obtain ⟨⟨u5, u6⟩, u7, u8⟩ := HG.out xs[k] (HV.out _ (List.getElem_mem hlt))
      go_wp2_with (go_at_call 110; refine (f_shear1 xs[k] n bn _ (Nat.lt_of_lt_of_le hbn (Kept.size (by (exact kpt)))) ((Below.cell (p := ⟨bn, 0, none⟩) (by (exact kpt)) hbn).trans hcell) (HV.out _ (List.getElem_mem hlt)) HNN.out).mono ?_; rintro e w1 ⟨rfl, hb1⟩; have q1' := (q1.alloc _).keep hb1; have q0' := (q0.alloc _).keep hb1; have t0' := q1'.cell 0; have t1' := q1'.cell 1; have t2' := q1'.free 0; have t3' := q1'.free 1; have l1' := q1'.lt; simp at t0' t1')
      go_round
      case rel =>
        refine ⟨k + 1, by omega, by go_num, ?_, ?_, by (exact kpt)⟩
        · rw [sumBy_take _ _ _ hlt, sumBy_take _ _ _ hlt]
          exact Blk.alloc (by simpa using (q1'.set 0 (.int .i64 (sumBy ((sLo n)) (xs.take k) + (sLo n) xs[k]))).set 1 (.int .i64 (sumBy ((sHi n)) (xs.take k) + (sHi n) xs[k]))) _
        · exact Blk.alloc ((q0'.other (by simp) _).other (by simp) _) _
      case measure => simp [intOf]; omega
    · have hk' : k = xs.length := by omega
      subst hk'
      rw [List.take_length] at t0 t1
      go_wp2
      exact bodyPost_ret (v := .agg #[.int .i64 (sumBy ((sLo n)) xs), .int .i64 (sumBy ((sHi n)) xs)]) (by simp [results, Try.results78, go_sem, t4, t5, t6, t7]) rfl ⟨rfl, by (exact kpt)⟩

theorem f_shear (n : Int) (a : Option Addr) (cap : Nat) (xs : List Load) (w : World) (hx : Row Load.cells 4 w.heap.size w a xs) (hc : xs.length ≤ cap) (hM : cap ≤ maxLen) (hn : xs.length ≤ 40) (hv : ∀ x ∈ xs, loadB x = true) (hnn : -20000 ≤ n ∧ n ≤ 20000) :
    Calls Try.prog 86 #[.slice a xs.length cap, .int .i64 n] w fun e w' => e = .returned (.agg #[.int .i64 (sumBy (sLo n) xs), .int .i64 (sumBy (sHi n) xs)]) ∧ Kept w w' := by
  have HV := Lib.hid hv
  clear hv
  go_enter Try.func86, Try.ntmps86
  go_wp2_with (go_at_call 78; refine (f_added_shear n _ hnn _ _ xs _ (hx.later (by (exact kpt)) (Nat.le_refl _)) hc hM hn HV.out (by simp; omega) (Blk.cell0 (t := 3) (by (exact blk))) (fun x h => s_bd h hnn)).mono ?_; rintro e w1 ⟨rfl, hb1⟩; refine Blk.thru (b := w.heap.size + 1) (arr := ?_) (t := ?_) ?_ hb1 ?_; rotate_left 2; (focus (exact blk)); intro qq; have qqc0 := qq.cell 0; have qqf0 := qq.free 0; have qqc1 := qq.cell 1; have qqf1 := qq.free 1; have qql := qq.lt; simp at qqc0 qqc1)
  exact bodyPost_ret (v := .agg #[.int .i64 (sumBy (sLo n) xs), .int .i64 (sumBy (sHi n) xs)]) (by simp [results, Try.results86, go_sem, qqc0, qqc1, qqf0, qqf1, qql]) rfl ⟨rfl, by (exact kpt)⟩

theorem f_added_bend (n : Int) (bn : Nat) (hnn : -20000 ≤ n ∧ n ≤ 20000) (a : Option Addr) (cap : Nat) (xs : List Load) (w : World) (hx : Row Load.cells 4 w.heap.size w a xs) (hc : xs.length ≤ cap) (hM : cap ≤ maxLen) (hn : xs.length ≤ 40) (hv : ∀ x ∈ xs, loadB x = true)
    (hbn : bn < w.heap.size) (hcell : w.cell? ⟨bn, 0, none⟩ = some (.int .i64 n)) (hg : ∀ x, loadB x = true → (-50000000000000 ≤ (bLo n) x ∧ (bLo n) x ≤ 50000000000000) ∧ (-50000000000000 ≤ (bHi n) x ∧ (bHi n) x ≤ 50000000000000)) :
    Calls Try.prog 78 #[.slice a xs.length cap, .func (.func 113) #[] #[.pointer (some ⟨bn, 0, none⟩)]] w fun e w' => e = .returned (.agg #[.int .i64 (sumBy ((bLo n)) xs), .int .i64 (sumBy ((bHi n)) xs)]) ∧ Kept w w' := by
  unfold maxLen at hM
  have HNN := Lib.hid hnn
  have bLo := fun k => sumBy_take_bd ((bLo n)) 50000000000000 2000000000000000 xs 40 hn (by omega) (by omega) (fun x h => (hg x (hv x h)).1) k
  have bHi := fun k => sumBy_take_bd ((bHi n)) 50000000000000 2000000000000000 xs 40 hn (by omega) (by omega) (fun x h => (hg x (hv x h)).2) k
  have HLo := Lib.hid bLo
  have HHi := Lib.hid bHi
  clear bLo bHi
  have HG := Lib.hid hg
  have HV := Lib.hid hv
  clear hg hv
  go_enter Try.func78, Try.ntmps78
  go_wp2
  go_loopw [11] (fun i wr => Added ((bLo n)) ((bHi n)) xs w i wr) (fun i _ => xs.length - (intOf i).toNat)
  case atStart => exact ⟨0, Nat.zero_le _, rfl, by simpa using Blk.new (w := w.alloc (.cells #[.int .i64 0, .int .i64 0] 49)), Blk.alloc Blk.new _, by (exact kpt)⟩
  case round =>
    obtain ⟨k, hk, rfl, q1, q0, hbel⟩ := hrel
    have t0 := q1.cell 0
    have t1 := q1.cell 1
    have t2 := q1.free 0
    have t3 := q1.free 1
    have t4 := q0.cell 0
    have t5 := q0.cell 1
    have t6 := q0.free 0
    have t7 := q0.free 1
    have l1 := q1.lt
    have l0 := q0.lt
    simp at t0 t1 t4 t5
    by_cases hlt : k < xs.length
    · obtain ⟨b, off, rfl, hb, h0, h1, h2, h3⟩ := Load.row (hx.later hbel (Nat.le_refl _)) k hlt
      obtain ⟨u1, u2⟩ := HLo.out k
      obtain ⟨u3, u4⟩ := HHi.out k
      obtain ⟨⟨u5, u6⟩, u7, u8⟩ := HG.out xs[k] (HV.out _ (List.getElem_mem hlt))
      go_wp2_with (go_at_call 113; refine (f_bend1 xs[k] n bn _ (Nat.lt_of_lt_of_le hbn (Kept.size (by (exact kpt)))) ((Below.cell (p := ⟨bn, 0, none⟩) (by (exact kpt)) hbn).trans hcell) (HV.out _ (List.getElem_mem hlt)) HNN.out).mono ?_; rintro e w1 ⟨rfl, hb1⟩; have q1' := (q1.alloc _).keep hb1; have q0' := (q0.alloc _).keep hb1; have t0' := q1'.cell 0; have t1' := q1'.cell 1; have t2' := q1'.free 0; have t3' := q1'.free 1; have l1' := q1'.lt; simp at t0' t1')
      go_round
      case rel =>
        refine ⟨k + 1, by omega, by go_num, ?_, ?_, by (exact kpt)⟩
        · rw [sumBy_take _ _ _ hlt, sumBy_take _ _ _ hlt]
          exact Blk.alloc (by simpa using (q1'.set 0 (.int .i64 (sumBy ((bLo n)) (xs.take k) + (bLo n) xs[k]))).set 1 (.int .i64 (sumBy ((bHi n)) (xs.take k) + (bHi n) xs[k]))) _
        · exact Blk.alloc ((q0'.other (by simp) _).other (by simp) _) _
      case measure => simp [intOf]; omega
    · have hk' : k = xs.length := by omega
      subst hk'
      rw [List.take_length] at t0 t1
      go_wp2
      exact bodyPost_ret (v := .agg #[.int .i64 (sumBy ((bLo n)) xs), .int .i64 (sumBy ((bHi n)) xs)]) (by simp [results, Try.results78, go_sem, t4, t5, t6, t7]) rfl ⟨rfl, by (exact kpt)⟩

theorem f_bend (n : Int) (a : Option Addr) (cap : Nat) (xs : List Load) (w : World) (hx : Row Load.cells 4 w.heap.size w a xs) (hc : xs.length ≤ cap) (hM : cap ≤ maxLen) (hn : xs.length ≤ 40) (hv : ∀ x ∈ xs, loadB x = true) (hnn : -20000 ≤ n ∧ n ≤ 20000) :
    Calls Try.prog 88 #[.slice a xs.length cap, .int .i64 n] w fun e w' => e = .returned (.agg #[.int .i64 (sumBy (bLo n) xs), .int .i64 (sumBy (bHi n) xs)]) ∧ Kept w w' := by
  have HV := Lib.hid hv
  clear hv
  go_enter Try.func88, Try.ntmps88
  go_wp2_with (go_at_call 78; refine (f_added_bend n _ hnn _ _ xs _ (hx.later (by (exact kpt)) (Nat.le_refl _)) hc hM hn HV.out (by simp; omega) (Blk.cell0 (t := 3) (by (exact blk))) (fun x h => b_bd h hnn)).mono ?_; rintro e w1 ⟨rfl, hb1⟩; refine Blk.thru (b := w.heap.size + 1) (arr := ?_) (t := ?_) ?_ hb1 ?_; rotate_left 2; (focus (exact blk)); intro qq; have qqc0 := qq.cell 0; have qqf0 := qq.free 0; have qqc1 := qq.cell 1; have qqf1 := qq.free 1; have qql := qq.lt; simp at qqc0 qqc1)
  exact bodyPost_ret (v := .agg #[.int .i64 (sumBy (bLo n) xs), .int .i64 (sumBy (bHi n) xs)]) (by simp [results, Try.results88, go_sem, qqc0, qqc1, qqf0, qqf1, qql]) rfl ⟨rfl, by (exact kpt)⟩

def strainE (xs : List Load) (n : Int) : Int := if checkLoads xs = 0 then (if inB n (-20000) 20000 = true then 0 else 2) else checkLoads xs
theorem inB_iff' {n lo hi : Int} : inB n lo hi = true ↔ lo ≤ n ∧ n ≤ hi := by simp [inB]

theorem f_at_shear (n : Int) (a : Option Addr) (cap : Nat) (xs : List Load) (w : World) (hx : Row Load.cells 4 w.heap.size w a xs) (hc : xs.length ≤ cap) (hM : cap ≤ maxLen) :
    Calls Try.prog 85 #[.slice a xs.length cap, .int .i64 n, .func (.func 86) #[] #[]] w fun e w' => e = .returned (.tuple #[.agg #[.int .i64 (ifOk (strainE xs n) (sumBy (sLo n) xs)), .int .i64 (ifOk (strainE xs n) (sumBy (sHi n) xs))], .int .i64 (strainE xs n)]) ∧ Kept w w' := by
  unfold strainE
  by_cases he : checkLoads xs = 0
  · rw [if_pos he]
    obtain ⟨hn, hv⟩ := checkLoads_ok he
    have HE := Lib.hid he
    have HN := Lib.hid hn
    have HV := Lib.hid hv
    clear he hn hv
    cases hp : inB n (-20000) 20000
    · have HP := Lib.hid hp
      clear hp
      simp only [Bool.false_eq_true, if_false]
      have z : ∀ v, ifOk 2 v = 0 := fun v => rfl
      simp only [z]
      go_enter Try.func85, Try.ntmps85
      go_wp2_with (first | (go_at_call 19; (with_reducible refine (f_CheckLoads _ _ _ _ (hx.later (by (exact kpt)) (Nat.le_refl _)) hc hM).mono ?_); rw [HE.out]; rintro e w1 ⟨rfl, hb1⟩; refine Blk.thru (b := w.heap.size) (arr := ?_) (t := ?_) ?_ hb1 ?_; rotate_left 2; (focus (exact blk)); intro z0; have z0c0 := z0.cell 0; have z0f0 := z0.free 0; have z0c1 := z0.cell 1; have z0f1 := z0.free 1; have z0l := z0.lt; simp at z0c0 z0c1) | (go_at_call 67; (with_reducible refine (f_place _ _).mono ?_); rw [HP.out]; rintro e w2 ⟨rfl, rfl⟩))
      exact bodyPost_ret (v := .tuple #[.agg #[.int .i64 (0), .int .i64 (0)], .int .i64 (2)]) (by simp [results, Try.results85, go_sem, z0c0, z0c1, z0f0, z0f1, z0l]) rfl ⟨rfl, by (exact kpt)⟩
    · have HNN := Lib.hid (inB_iff'.1 hp)
      have HP := Lib.hid hp
      clear hp
      simp only [if_true]
      have z : ∀ v, ifOk 0 v = v := fun v => rfl
      simp only [z]
      go_enter Try.func85, Try.ntmps85
      go_wp2_with (first | (go_at_call 19; (with_reducible refine (f_CheckLoads _ _ _ _ (hx.later (by (exact kpt)) (Nat.le_refl _)) hc hM).mono ?_); rw [HE.out]; rintro e w1 ⟨rfl, hb1⟩; refine Blk.thru (b := w.heap.size) (arr := ?_) (t := ?_) ?_ hb1 ?_; rotate_left 2; (focus (exact blk)); intro z0; have z0c0 := z0.cell 0; have z0f0 := z0.free 0; have z0c1 := z0.cell 1; have z0f1 := z0.free 1; have z0l := z0.lt; simp at z0c0 z0c1) | (go_at_call 67; (with_reducible refine (f_place _ _).mono ?_); rw [HP.out]; rintro e w2 ⟨rfl, rfl⟩) | (go_at_call 86; (with_reducible refine (f_shear n _ _ xs _ (hx.later (by (exact kpt)) (Nat.le_refl _)) hc hM HN.out HV.out HNN.out).mono ?_); rintro e w3 ⟨rfl, hb3⟩; refine Blk.thru (b := w.heap.size) (arr := ?_) (t := ?_) ?_ hb3 ?_; rotate_left 2; (focus (exact blk)); intro z0; have z0c0 := z0.cell 0; have z0f0 := z0.free 0; have z0c1 := z0.cell 1; have z0f1 := z0.free 1; have z0l := z0.lt; simp at z0c0 z0c1))
      exact bodyPost_ret (v := .tuple #[.agg #[.int .i64 (sumBy (sLo n) xs), .int .i64 (sumBy (sHi n) xs)], .int .i64 (0)]) (by simp [results, Try.results85, go_sem, z0c0, z0c1, z0f0, z0f1, z0l]) rfl ⟨rfl, by (exact kpt)⟩
  · have z : ∀ v, ifOk (checkLoads xs) v = 0 := fun v => if_neg he
    rw [if_neg he]
    simp only [z]
    have hb : (checkLoads xs != 0) = true := by simp [he]
    obtain ⟨E, hEE⟩ : ∃ E, E = checkLoads xs := ⟨_, rfl⟩
    have HE := Lib.hid hEE.symm
    rw [← hEE] at he hb ⊢
    clear hEE z
    go_enter Try.func85, Try.ntmps85
    go_wp2_with (go_at_call 19; (with_reducible refine (f_CheckLoads _ _ _ _ (hx.later (by (exact kpt)) (Nat.le_refl _)) hc hM).mono ?_); rw [HE.out]; rintro e w1 ⟨rfl, hb1⟩; refine Blk.thru (b := w.heap.size) (arr := ?_) (t := ?_) ?_ hb1 ?_; rotate_left 2; (focus (exact blk)); intro z0; have z0c0 := z0.cell 0; have z0f0 := z0.free 0; have z0c1 := z0.cell 1; have z0f1 := z0.free 1; have z0l := z0.lt; simp at z0c0 z0c1)
    exact bodyPost_ret (v := .tuple #[.agg #[.int .i64 (0), .int .i64 (0)], .int .i64 (E)]) (by simp [results, Try.results85, go_sem, z0c0, z0c1, z0f0, z0f1, z0l]) rfl ⟨rfl, by (exact kpt)⟩

theorem f_Shear (n : Int) (a : Option Addr) (cap : Nat) (xs : List Load) (w : World) (hx : Row Load.cells 4 w.heap.size w a xs) (hc : xs.length ≤ cap) (hM : cap ≤ maxLen) :
    Calls Try.prog 35 #[.slice a xs.length cap, .int .i64 n] w fun e w' => e = .returned (.tuple #[.agg #[.int .i64 (ifOk (strainE xs n) (sumBy (sLo n) xs)), .int .i64 (ifOk (strainE xs n) (sumBy (sHi n) xs))], .int .i64 (strainE xs n)]) ∧ Kept w w' := by
  go_enter Try.func35, Try.ntmps35
  go_wp2_with (go_at_call 85; (with_reducible refine (f_at_shear n _ _ xs _ (hx.later (by (exact kpt)) (Nat.le_refl _)) hc hM).mono ?_); rintro e w1 ⟨rfl, hb1⟩; refine Blk.thru (b := w.heap.size) (arr := ?_) (t := ?_) ?_ hb1 ?_; rotate_left 2; (focus (exact blk)); intro z0; have z0c0 := z0.cell 0; have z0f0 := z0.free 0; have z0c1 := z0.cell 1; have z0f1 := z0.free 1; have z0l := z0.lt; simp at z0c0 z0c1)
  exact bodyPost_ret (v := .tuple #[.agg #[.int .i64 (ifOk (strainE xs n) (sumBy (sLo n) xs)), .int .i64 (ifOk (strainE xs n) (sumBy (sHi n) xs))], .int .i64 (strainE xs n)]) (by simp [results, Try.results35, go_sem, z0c0, z0c1, z0f0, z0f1, z0l]) rfl ⟨rfl, by (exact kpt)⟩

theorem f_at_bend (n : Int) (a : Option Addr) (cap : Nat) (xs : List Load) (w : World) (hx : Row Load.cells 4 w.heap.size w a xs) (hc : xs.length ≤ cap) (hM : cap ≤ maxLen) :
    Calls Try.prog 85 #[.slice a xs.length cap, .int .i64 n, .func (.func 88) #[] #[]] w fun e w' => e = .returned (.tuple #[.agg #[.int .i64 (ifOk (strainE xs n) (sumBy (bLo n) xs)), .int .i64 (ifOk (strainE xs n) (sumBy (bHi n) xs))], .int .i64 (strainE xs n)]) ∧ Kept w w' := by
  unfold strainE
  by_cases he : checkLoads xs = 0
  · rw [if_pos he]
    obtain ⟨hn, hv⟩ := checkLoads_ok he
    have HE := Lib.hid he
    have HN := Lib.hid hn
    have HV := Lib.hid hv
    clear he hn hv
    cases hp : inB n (-20000) 20000
    · have HP := Lib.hid hp
      clear hp
      simp only [Bool.false_eq_true, if_false]
      have z : ∀ v, ifOk 2 v = 0 := fun v => rfl
      simp only [z]
      go_enter Try.func85, Try.ntmps85
      go_wp2_with (first | (go_at_call 19; (with_reducible refine (f_CheckLoads _ _ _ _ (hx.later (by (exact kpt)) (Nat.le_refl _)) hc hM).mono ?_); rw [HE.out]; rintro e w1 ⟨rfl, hb1⟩; refine Blk.thru (b := w.heap.size) (arr := ?_) (t := ?_) ?_ hb1 ?_; rotate_left 2; (focus (exact blk)); intro z0; have z0c0 := z0.cell 0; have z0f0 := z0.free 0; have z0c1 := z0.cell 1; have z0f1 := z0.free 1; have z0l := z0.lt; simp at z0c0 z0c1) | (go_at_call 67; (with_reducible refine (f_place _ _).mono ?_); rw [HP.out]; rintro e w2 ⟨rfl, rfl⟩))
      exact bodyPost_ret (v := .tuple #[.agg #[.int .i64 (0), .int .i64 (0)], .int .i64 (2)]) (by simp [results, Try.results85, go_sem, z0c0, z0c1, z0f0, z0f1, z0l]) rfl ⟨rfl, by (exact kpt)⟩
    · have HNN := Lib.hid (inB_iff'.1 hp)
      have HP := Lib.hid hp
      clear hp
      simp only [if_true]
      have z : ∀ v, ifOk 0 v = v := fun v => rfl
      simp only [z]
      go_enter Try.func85, Try.ntmps85
      go_wp2_with (first | (go_at_call 19; (with_reducible refine (f_CheckLoads _ _ _ _ (hx.later (by (exact kpt)) (Nat.le_refl _)) hc hM).mono ?_); rw [HE.out]; rintro e w1 ⟨rfl, hb1⟩; refine Blk.thru (b := w.heap.size) (arr := ?_) (t := ?_) ?_ hb1 ?_; rotate_left 2; (focus (exact blk)); intro z0; have z0c0 := z0.cell 0; have z0f0 := z0.free 0; have z0c1 := z0.cell 1; have z0f1 := z0.free 1; have z0l := z0.lt; simp at z0c0 z0c1) | (go_at_call 67; (with_reducible refine (f_place _ _).mono ?_); rw [HP.out]; rintro e w2 ⟨rfl, rfl⟩) | (go_at_call 88; (with_reducible refine (f_bend n _ _ xs _ (hx.later (by (exact kpt)) (Nat.le_refl _)) hc hM HN.out HV.out HNN.out).mono ?_); rintro e w3 ⟨rfl, hb3⟩; refine Blk.thru (b := w.heap.size) (arr := ?_) (t := ?_) ?_ hb3 ?_; rotate_left 2; (focus (exact blk)); intro z0; have z0c0 := z0.cell 0; have z0f0 := z0.free 0; have z0c1 := z0.cell 1; have z0f1 := z0.free 1; have z0l := z0.lt; simp at z0c0 z0c1))
      exact bodyPost_ret (v := .tuple #[.agg #[.int .i64 (sumBy (bLo n) xs), .int .i64 (sumBy (bHi n) xs)], .int .i64 (0)]) (by simp [results, Try.results85, go_sem, z0c0, z0c1, z0f0, z0f1, z0l]) rfl ⟨rfl, by (exact kpt)⟩
  · have z : ∀ v, ifOk (checkLoads xs) v = 0 := fun v => if_neg he
    rw [if_neg he]
    simp only [z]
    have hb : (checkLoads xs != 0) = true := by simp [he]
    obtain ⟨E, hEE⟩ : ∃ E, E = checkLoads xs := ⟨_, rfl⟩
    have HE := Lib.hid hEE.symm
    rw [← hEE] at he hb ⊢
    clear hEE z
    go_enter Try.func85, Try.ntmps85
    go_wp2_with (go_at_call 19; (with_reducible refine (f_CheckLoads _ _ _ _ (hx.later (by (exact kpt)) (Nat.le_refl _)) hc hM).mono ?_); rw [HE.out]; rintro e w1 ⟨rfl, hb1⟩; refine Blk.thru (b := w.heap.size) (arr := ?_) (t := ?_) ?_ hb1 ?_; rotate_left 2; (focus (exact blk)); intro z0; have z0c0 := z0.cell 0; have z0f0 := z0.free 0; have z0c1 := z0.cell 1; have z0f1 := z0.free 1; have z0l := z0.lt; simp at z0c0 z0c1)
    exact bodyPost_ret (v := .tuple #[.agg #[.int .i64 (0), .int .i64 (0)], .int .i64 (E)]) (by simp [results, Try.results85, go_sem, z0c0, z0c1, z0f0, z0f1, z0l]) rfl ⟨rfl, by (exact kpt)⟩

theorem f_Bend (n : Int) (a : Option Addr) (cap : Nat) (xs : List Load) (w : World) (hx : Row Load.cells 4 w.heap.size w a xs) (hc : xs.length ≤ cap) (hM : cap ≤ maxLen) :
    Calls Try.prog 37 #[.slice a xs.length cap, .int .i64 n] w fun e w' => e = .returned (.tuple #[.agg #[.int .i64 (ifOk (strainE xs n) (sumBy (bLo n) xs)), .int .i64 (ifOk (strainE xs n) (sumBy (bHi n) xs))], .int .i64 (strainE xs n)]) ∧ Kept w w' := by
  go_enter Try.func37, Try.ntmps37
  go_wp2_with (go_at_call 85; (with_reducible refine (f_at_bend n _ _ xs _ (hx.later (by (exact kpt)) (Nat.le_refl _)) hc hM).mono ?_); rintro e w1 ⟨rfl, hb1⟩; refine Blk.thru (b := w.heap.size) (arr := ?_) (t := ?_) ?_ hb1 ?_; rotate_left 2; (focus (exact blk)); intro z0; have z0c0 := z0.cell 0; have z0f0 := z0.free 0; have z0c1 := z0.cell 1; have z0f1 := z0.free 1; have z0l := z0.lt; simp at z0c0 z0c1)
  exact bodyPost_ret (v := .tuple #[.agg #[.int .i64 (ifOk (strainE xs n) (sumBy (bLo n) xs)), .int .i64 (ifOk (strainE xs n) (sumBy (bHi n) xs))], .int .i64 (strainE xs n)]) (by simp [results, Try.results37, go_sem, z0c0, z0c1, z0f0, z0f1, z0l]) rfl ⟨rfl, by (exact kpt)⟩

end Go.Proofs.Ytlloijkmpmfapaa

/-
  Strained frames, in the program.
-/
namespace Go.Proofs.Ytlloijkmpmfapaa
open Go.RowKit Bal Bal.Trim
set_option linter.unusedVariables false
set_option linter.unusedSimpArgs false
set_option maxHeartbeats 2000000

set_option maxRecDepth 10000

/-- the strained frames so far -/
def StrRel (w : World) (xs : List Load) (fs : List Frm) (cv i : Value) (wr : World) : Prop :=
  ∃ k : Nat, k ≤ fs.length ∧ i = .int .i64 k ∧ (∃ n : Nat, n ≤ k ∧ wr.ownsRow w.heap.size 3 1 cv n ((strainedTo xs fs k).flatMap icell) ∧ (strainedTo xs fs k).length = n) ∧ Kept w wr
theorem infoI : (Try.prog.info? 3).map (fun i => (i.zero, i.size, i.bytes)) = some (some (.int .i64 0), 1, 8) := by kernel_rfl
def strE (xs : List Load) (fs : List Frm) : Int := if checkLoads xs = 0 then checkFrames fs else checkLoads xs
def strP (xs : List Load) (fs : List Frm) : List Int := if strE xs fs = 0 then strainedTo xs fs fs.length else []
def StrPost (w : World) (xs : List Load) (fs : List Frm) (e : Ending) (w' : World) : Prop :=
  ∃ v, e = .returned (.tuple #[v, .int .i64 (strE xs fs)]) ∧ w'.ownsRow w.heap.size 3 1 v (strP xs fs).length ((strP xs fs).flatMap icell) ∧ Kept w w'
theorem frameB_bd {f : Frm} (h : frameB f = true) : (-20000 ≤ f.pos ∧ f.pos ≤ 20000) ∧ (0 ≤ f.shear ∧ f.shear ≤ 1000000000000) ∧ 0 ≤ f.bend ∧ f.bend ≤ 10000000000000000 := by
  simp [frameB, inB] at h; omega
theorem str_snoc {xs : List Load} {fs : List Frm} {k : Nat} (hk : k < fs.length) (h : strain xs fs[k] = true) : (strainedTo xs fs (k + 1)).flatMap icell = (strainedTo xs fs k).flatMap icell ++ [.int .i64 k] ∧ (strainedTo xs fs (k + 1)).length = (strainedTo xs fs k).length + 1 := by
  rw [strainedTo_succ hk, if_pos h]
  simp [icell]
theorem str_same {xs : List Load} {fs : List Frm} {k : Nat} (hk : k < fs.length) (h : strain xs fs[k] = false) : strainedTo xs fs (k + 1) = strainedTo xs fs k := by
  rw [strainedTo_succ hk, h]; simp

theorem f_Strained (a : Option Addr) (cap : Nat) (xs : List Load) (w : World) (hx : Row Load.cells 4 w.heap.size w a xs) (hc : xs.length ≤ cap) (hM : cap ≤ maxLen) (bf : Option Addr) (cf : Nat) (fs : List Frm) (hf : Row Frm.cells 3 w.heap.size w bf fs) (hfc : fs.length ≤ cf) (hfM : cf ≤ maxLen) :
    Calls Try.prog 39 #[.slice a xs.length cap, .slice bf fs.length cf] w fun e w' => StrPost w xs fs e w' := by
  unfold StrPost strP strE
  by_cases he : checkLoads xs = 0
  · rw [if_pos he]
    obtain ⟨hn, hv⟩ := checkLoads_ok he
    have HE := Lib.hid he
    clear he
    by_cases he2 : checkFrames fs = 0
    · rw [if_pos he2, he2]
      obtain ⟨hn2, hv2⟩ := checkFrames_ok he2
      have HF := Lib.hid he2
      have HN := Lib.hid hn
      have HV := Lib.hid hv
      have HV2 := Lib.hid hv2
      have hMM := hfM
      unfold maxLen at hMM
      clear he2 hv hv2
      go_enter Try.func39, Try.ntmps39
      go_wp2_with (first | (go_at_call 19; (with_reducible refine (f_CheckLoads _ _ _ _ (hx.later (by (exact kpt)) (Nat.le_refl _)) hc hM).mono ?_); rw [HE.out]; rintro e w1 ⟨rfl, hb1⟩) | (go_at_call 23; (with_reducible refine (f_CheckFrames _ _ _ _ (hf.later (by (exact kpt)) (Nat.le_refl _)) hfc hfM).mono ?_); rw [HF.out]; rintro e w2 ⟨rfl, hb2⟩))
      go_loopw [8, 23] (fun cv i wr => StrRel w xs fs cv i wr) (fun _ i _ => fs.length - (intOf i).toNat)
      case atStart => exact ⟨0, Nat.zero_le _, rfl, ⟨0, Nat.le_refl _, owns_nil (α := Int) (enc := icell), rfl⟩, by (exact kpt)⟩
      case round =>
        obtain ⟨k, hk, rfl, ⟨n, hnk, hown, hlen⟩, hkk⟩ := hrel
        by_cases hlt : k < fs.length
        · obtain ⟨bx, ox, rfl, hbx, l0, l1, l2⟩ := Frm.row (hf.later hkk (Nat.le_refl _)) k hlt
          have HB := Lib.hid (frameB_bd (HV2.out fs[k] (List.getElem_mem hlt)))
          have HSN := Lib.hid (fun h => @str_snoc xs fs k hlt h)
          have HSS := Lib.hid (fun h => @str_same xs fs k hlt h)
          obtain ⟨fr, hfr⟩ : ∃ f, f = fs[k] := ⟨_, rfl⟩
          rw [← hfr] at HB HSN HSS l0 l1 l2
          clear hfr
          obtain ⟨⟨o1, o2⟩, ⟨o3, o4⟩, o5, o6⟩ := HB.out
          have hks := hkk.size
          cases h1 : spanB (sumBy (sLo fr.pos) xs) (sumBy (sHi fr.pos) xs) fr.shear
          ·
            have Q1 := Lib.hid (fun w => (by have := f_span (sumBy (sLo fr.pos) xs) (sumBy (sHi fr.pos) xs) fr.shear w (by omega) (by omega); rwa [h1] at this : Calls Try.prog 60 #[.agg #[.int .i64 (sumBy (sLo fr.pos) xs), .int .i64 (sumBy (sHi fr.pos) xs)], .int .i64 fr.shear] w fun e w' => e = .returned (.bool false) ∧ Kept w w'))
            have HSN2 := Lib.hid (HSN.out (show strain xs fr = true by simp [strain, h1]))
            clear h1
            go_upto_region 11 with fail
            refine at_world (S := fun W => Blk W wr.heap.size #[.int .i64 fr.pos, .int .i64 fr.shear, .int .i64 fr.bend] 104 ∧ W.ownsRow w.heap.size 3 1 _ n ((strainedTo xs fs k).flatMap icell) ∧ Kept w W) ⟨by (exact blk), hown.alloc _, by (exact kpt)⟩ ?_
            rintro V ⟨qf, hown, hkV⟩
            have qfc0 := fun g : Later V => (qf.later g).cell 0
            have qff0 := fun g : Later V => (qf.later g).free 0
            have qfc1 := fun g : Later V => (qf.later g).cell 1
            have qff1 := fun g : Later V => (qf.later g).free 1
            have qfc2 := fun g : Later V => (qf.later g).cell 2
            have qff2 := fun g : Later V => (qf.later g).free 2
            have qfl := fun g : Later V => (qf.later g).lt
            simp at qfc0 qfc1 qfc2
            refine Later.region (by kernel_rfl) (by kernel_rfl) ?_
            repeat (first | go_big_quiet_skip | (go_big_quiet_want; go_big_quiet_op; first | go_big_quiet_on | (apply Exists.intro; refine ⟨fun g => ?_, ?_⟩; (focus (first | (go_at_call 86; exact Later.call (f_shear fr.pos _ _ xs _ (hx.later (Kept.drop hkV g.ok) (Nat.le_refl _)) hc hM HN.out HV.out ⟨o1, o2⟩)) | (go_at_call 60; with_reducible exact Later.call (Q1.out _)))); go_big_quiet_on)))
            refine wpQuiet_nil ?_
            intro gg
            have hkgg := Kept.drop hkV gg.ok
            have hownT := owns_keep hown gg.ok
            have hkT : Kept w gg.val := hkgg
            have hkTs := hkT.size
            go_wp2_with (at_builtin; obtain ⟨i0, hi, hz0, hz1, hz2⟩ := info_parts infoI; refine wpList_append_own _ rfl _ _ 63 rfl w.heap.size 3 i0 (.int .i64 0) 1 8 Try.underlying63 hi hz0 hz1 hz2 rfl (by decide) _ _ _ rfl (hownT.alloc _) ⟨gg.val.heap.size, 0, none⟩ 1 1 [.int .i64 k] rfl rfl (cell_one_at (by simp) _ _) (fun x hx => by simp at hx; subst hx; rfl) (by unfold maxLen; omega) (by omega) (by simp; omega) ?_; intro v' w9 hown' hgrow hnil; clear hi hz0 hz1 hz2)
            have hk9 : Kept w w9 := Kept.grown (Kept.alloc hkT _) (hownT.alloc _) (Nat.le_refl _) hgrow
            go_roundw
            case rel =>
              obtain ⟨g1, g2⟩ := HSN2.out
              have hown9 : w9.ownsRow w.heap.size 3 1 v' (n + 1) ((strainedTo xs fs (k + 1)).flatMap icell) := by rw [g1]; exact hown'
              first
              | exact ⟨k + 1, by omega, by go_num, ⟨n + 1, by omega, hown9, by omega⟩, hk9⟩
              | (apply Exists.intro; repeat (apply Exists.intro); refine ⟨?_, rfl⟩; exact ⟨k + 1, by omega, by go_num, ⟨n + 1, by omega, hown9, by omega⟩, hk9⟩)
            case measure => simp [intOf]; omega
          · cases h2 : spanB (sumBy (bLo fr.pos) xs) (sumBy (bHi fr.pos) xs) fr.bend
            ·
              have Q1 := Lib.hid (fun w => (by have := f_span (sumBy (sLo fr.pos) xs) (sumBy (sHi fr.pos) xs) fr.shear w (by omega) (by omega); rwa [h1] at this : Calls Try.prog 60 #[.agg #[.int .i64 (sumBy (sLo fr.pos) xs), .int .i64 (sumBy (sHi fr.pos) xs)], .int .i64 fr.shear] w fun e w' => e = .returned (.bool true) ∧ Kept w w'))
              have Q2 := Lib.hid (fun w => (by have := f_span (sumBy (bLo fr.pos) xs) (sumBy (bHi fr.pos) xs) fr.bend w (by omega) (by omega); rwa [h2] at this : Calls Try.prog 60 #[.agg #[.int .i64 (sumBy (bLo fr.pos) xs), .int .i64 (sumBy (bHi fr.pos) xs)], .int .i64 fr.bend] w fun e w' => e = .returned (.bool false) ∧ Kept w w'))
              have HSN2 := Lib.hid (HSN.out (show strain xs fr = true by simp [strain, h1, h2]))
              clear h1 h2
              go_upto_region 11 with fail
              refine at_world (S := fun W => Blk W wr.heap.size #[.int .i64 fr.pos, .int .i64 fr.shear, .int .i64 fr.bend] 104 ∧ W.ownsRow w.heap.size 3 1 _ n ((strainedTo xs fs k).flatMap icell) ∧ Kept w W) ⟨by (exact blk), hown.alloc _, by (exact kpt)⟩ ?_
              rintro V ⟨qf, hown, hkV⟩
              have qfc0 := fun g : Later V => (qf.later g).cell 0
              have qff0 := fun g : Later V => (qf.later g).free 0
              have qfc1 := fun g : Later V => (qf.later g).cell 1
              have qff1 := fun g : Later V => (qf.later g).free 1
              have qfc2 := fun g : Later V => (qf.later g).cell 2
              have qff2 := fun g : Later V => (qf.later g).free 2
              have qfl := fun g : Later V => (qf.later g).lt
              simp at qfc0 qfc1 qfc2
              refine Later.region (by kernel_rfl) (by kernel_rfl) ?_
              repeat (first | go_big_quiet_skip | (go_big_quiet_want; go_big_quiet_op; first | go_big_quiet_on | (apply Exists.intro; refine ⟨fun g => ?_, ?_⟩; (focus (first | (go_at_call 86; exact Later.call (f_shear fr.pos _ _ xs _ (hx.later (Kept.drop hkV g.ok) (Nat.le_refl _)) hc hM HN.out HV.out ⟨o1, o2⟩)) | (go_at_call 60; with_reducible exact Later.call (Q1.out _)) | (go_at_call 88; exact Later.call (f_bend fr.pos _ _ xs _ (hx.later (Kept.drop hkV g.ok) (Nat.le_refl _)) hc hM HN.out HV.out ⟨o1, o2⟩)) | (go_at_call 60; with_reducible exact Later.call (Q2.out _)))); go_big_quiet_on)))
              refine wpQuiet_nil ?_
              intro gg
              have hkgg := Kept.drop hkV gg.ok
              have hownT := owns_keep hown gg.ok
              have hkT : Kept w gg.val := hkgg
              have hkTs := hkT.size
              go_wp2_with (at_builtin; obtain ⟨i0, hi, hz0, hz1, hz2⟩ := info_parts infoI; refine wpList_append_own _ rfl _ _ 63 rfl w.heap.size 3 i0 (.int .i64 0) 1 8 Try.underlying63 hi hz0 hz1 hz2 rfl (by decide) _ _ _ rfl (hownT.alloc _) ⟨gg.val.heap.size, 0, none⟩ 1 1 [.int .i64 k] rfl rfl (cell_one_at (by simp) _ _) (fun x hx => by simp at hx; subst hx; rfl) (by unfold maxLen; omega) (by omega) (by simp; omega) ?_; intro v' w9 hown' hgrow hnil; clear hi hz0 hz1 hz2)
              have hk9 : Kept w w9 := Kept.grown (Kept.alloc hkT _) (hownT.alloc _) (Nat.le_refl _) hgrow
              go_roundw
              case rel =>
                obtain ⟨g1, g2⟩ := HSN2.out
                have hown9 : w9.ownsRow w.heap.size 3 1 v' (n + 1) ((strainedTo xs fs (k + 1)).flatMap icell) := by rw [g1]; exact hown'
                first
                | exact ⟨k + 1, by omega, by go_num, ⟨n + 1, by omega, hown9, by omega⟩, hk9⟩
                | (apply Exists.intro; repeat (apply Exists.intro); refine ⟨?_, rfl⟩; exact ⟨k + 1, by omega, by go_num, ⟨n + 1, by omega, hown9, by omega⟩, hk9⟩)
              case measure => simp [intOf]; omega
            ·
              have Q1 := Lib.hid (fun w => (by have := f_span (sumBy (sLo fr.pos) xs) (sumBy (sHi fr.pos) xs) fr.shear w (by omega) (by omega); rwa [h1] at this : Calls Try.prog 60 #[.agg #[.int .i64 (sumBy (sLo fr.pos) xs), .int .i64 (sumBy (sHi fr.pos) xs)], .int .i64 fr.shear] w fun e w' => e = .returned (.bool true) ∧ Kept w w'))
              have Q2 := Lib.hid (fun w => (by have := f_span (sumBy (bLo fr.pos) xs) (sumBy (bHi fr.pos) xs) fr.bend w (by omega) (by omega); rwa [h2] at this : Calls Try.prog 60 #[.agg #[.int .i64 (sumBy (bLo fr.pos) xs), .int .i64 (sumBy (bHi fr.pos) xs)], .int .i64 fr.bend] w fun e w' => e = .returned (.bool true) ∧ Kept w w'))
              have HSS2 := Lib.hid (HSS.out (show strain xs fr = false by simp [strain, h1, h2]))
              clear h1 h2
              go_upto_region 11 with fail
              refine at_world (S := fun W => Blk W wr.heap.size #[.int .i64 fr.pos, .int .i64 fr.shear, .int .i64 fr.bend] 104 ∧ W.ownsRow w.heap.size 3 1 _ n ((strainedTo xs fs k).flatMap icell) ∧ Kept w W) ⟨by (exact blk), hown.alloc _, by (exact kpt)⟩ ?_
              rintro V ⟨qf, hown, hkV⟩
              have qfc0 := fun g : Later V => (qf.later g).cell 0
              have qff0 := fun g : Later V => (qf.later g).free 0
              have qfc1 := fun g : Later V => (qf.later g).cell 1
              have qff1 := fun g : Later V => (qf.later g).free 1
              have qfc2 := fun g : Later V => (qf.later g).cell 2
              have qff2 := fun g : Later V => (qf.later g).free 2
              have qfl := fun g : Later V => (qf.later g).lt
              simp at qfc0 qfc1 qfc2
              refine Later.region (by kernel_rfl) (by kernel_rfl) ?_
              repeat (first | go_big_quiet_skip | (go_big_quiet_want; go_big_quiet_op; first | go_big_quiet_on | (apply Exists.intro; refine ⟨fun g => ?_, ?_⟩; (focus (first | (go_at_call 86; exact Later.call (f_shear fr.pos _ _ xs _ (hx.later (Kept.drop hkV g.ok) (Nat.le_refl _)) hc hM HN.out HV.out ⟨o1, o2⟩)) | (go_at_call 60; with_reducible exact Later.call (Q1.out _)) | (go_at_call 88; exact Later.call (f_bend fr.pos _ _ xs _ (hx.later (Kept.drop hkV g.ok) (Nat.le_refl _)) hc hM HN.out HV.out ⟨o1, o2⟩)) | (go_at_call 60; with_reducible exact Later.call (Q2.out _)))); go_big_quiet_on)))
              refine wpQuiet_nil ?_
              intro gg
              have hkgg := Kept.drop hkV gg.ok
              have hownT := owns_keep hown gg.ok
              have hkT : Kept w gg.val := hkgg
              have hkTs := hkT.size
              go_wp2
              go_roundw
              case rel =>
                have hown9 := hownT
                rw [← HSS2.out] at hown9 hlen
                first
                | exact ⟨k + 1, by omega, by go_num, ⟨n, by omega, hown9, hlen⟩, hkT⟩
                | (apply Exists.intro; repeat (apply Exists.intro); refine ⟨?_, rfl⟩; exact ⟨k + 1, by omega, by go_num, ⟨n, by omega, hown9, hlen⟩, hkT⟩)
              case measure => simp [intOf]; omega
        · obtain rfl : k = fs.length := by omega
          subst hlen
          obtain ⟨ad, cp, rfl, _⟩ := owns_row (enc := icell) (k := 1) (fun _ => rfl) hown
          go_wp2
          exact bodyPost_ret (v := .tuple #[.slice ad (strainedTo xs fs fs.length).length cp, .int .i64 0]) (by simp [results, Try.results39, go_sem]) rfl ⟨_, rfl, hown, by (exact kpt)⟩
    · rw [if_neg he2]
      have hb : (checkFrames fs != 0) = true := by simp [he2]
      obtain ⟨E, hEE⟩ : ∃ E, E = checkFrames fs := ⟨_, rfl⟩
      have HF := Lib.hid hEE.symm
      rw [← hEE] at he2 hb ⊢
      clear hEE hv
      go_enter Try.func39, Try.ntmps39
      go_wp2_with (first | (go_at_call 19; (with_reducible refine (f_CheckLoads _ _ _ _ (hx.later (by (exact kpt)) (Nat.le_refl _)) hc hM).mono ?_); rw [HE.out]; rintro e w1 ⟨rfl, hb1⟩) | (go_at_call 23; (with_reducible refine (f_CheckFrames _ _ _ _ (hf.later (by (exact kpt)) (Nat.le_refl _)) hfc hfM).mono ?_); rw [HF.out]; rintro e w2 ⟨rfl, hb2⟩))
      exact bodyPost_ret (v := .tuple #[.slice none 0 0, .int .i64 E]) (by simp [results, Try.results39, go_sem]) rfl ⟨_, rfl, owns_nil (α := Int) (enc := icell), by (exact kpt)⟩
  · rw [if_neg he, if_neg he]
    have hb : (checkLoads xs != 0) = true := by simp [he]
    obtain ⟨E, hEE⟩ : ∃ E, E = checkLoads xs := ⟨_, rfl⟩
    have HE := Lib.hid hEE.symm
    rw [← hEE] at he hb ⊢
    clear hEE
    go_enter Try.func39, Try.ntmps39
    go_wp2_with (go_at_call 19; (with_reducible refine (f_CheckLoads _ _ _ _ (hx.later (by (exact kpt)) (Nat.le_refl _)) hc hM).mono ?_); rw [HE.out]; rintro e w1 ⟨rfl, hb1⟩)
    exact bodyPost_ret (v := .tuple #[.slice none 0 0, .int .i64 E]) (by simp [results, Try.results39, go_sem]) rfl ⟨_, rfl, owns_nil (α := Int) (enc := icell), by (exact kpt)⟩

end Go.Proofs.Ytlloijkmpmfapaa

/-
  Shear, bending and strained frames, in the reference.
-/
namespace Go.Proofs.Ytlloijkmpmfapaa
open Go.RowKit Bal Bal.Trim
set_option linter.unusedVariables false
set_option linter.unusedSimpArgs false
set_option maxHeartbeats 2000000

set_option maxRecDepth 10000

theorem r_SameInts (a b : Option Addr) (c d : Nat) (xs : List Int) (w : World) (hx : Row icell 1 w.heap.size w a xs) (hy : Row icell 1 w.heap.size w b xs) (hc : xs.length ≤ c) (hd : xs.length ≤ d) (hM : c ≤ maxLen) (hN : d ≤ maxLen) :
    Calls Try.prog 41 #[.slice a xs.length c, .slice b xs.length d] w fun e w' => e = .returned (.bool true) ∧ Kept w w' := by
  unfold maxLen at hM hN
  go_enter Try.func41, Try.ntmps41
  go_wp2
  go_loopw [5] (fun i wr => ∃ k : Nat, k ≤ xs.length ∧ i = .int .i64 k ∧ Kept w wr) (fun i _ => xs.length - (intOf i).toNat)
  case atStart => exact ⟨0, Nat.zero_le _, rfl, Below.refl _ _⟩
  case round =>
    obtain ⟨k, hk, rfl, hkk⟩ := hrel
    by_cases hlt : k < xs.length
    · obtain ⟨b1, o1, rfl, hb1, h0⟩ := int_row (hx.later hkk (Nat.le_refl _)) k hlt
      obtain ⟨b2, o2, rfl, hb2, j0⟩ := int_row (hy.later hkk (Nat.le_refl _)) k hlt
      have x0 := fun g : Later wr => g.some h0
      have y0 := fun g : Later wr => g.some j0
      go_upto_region 6 with fail
      refine Later.region (by kernel_rfl) (by kernel_rfl) ?_
      repeat (first | go_big_quiet_skip | (go_big_quiet_want; go_big_quiet_op; first | go_big_quiet_on | (apply Exists.intro; refine ⟨fun g => ?_, ?_⟩; (focus (first | fail)); go_big_quiet_on)))
      refine wpQuiet_nil ?_
      intro gg
      have hkgg := Kept.drop hkk gg.ok
      go_wp2
      go_round
      case rel => exact ⟨k + 1, by omega, by go_num, by (exact kpt)⟩
      case measure => simp [intOf]; omega
    · obtain rfl : k = xs.length := by omega
      go_wp2
      go_ret
      exact ⟨rfl, hkk⟩

end Go.Proofs.Ytlloijkmpmfapaa

/-
  Slices of numbers that come in. No program in sight.
-/
namespace Bal.Trim
open Go Go.RowKit Go.ChangeShapes Go.WideShapes
set_option linter.unusedVariables false
def ucell (n : Int) : List Value := [.int .u16 n]
theorem int_of_leaves {cs : List Value} (h : LeavesOk [.int .i64] cs) : ∃ x : Int, cs = icell x ∧ (Lit.int .i64 x).wf = true := by
  obtain ⟨hl, h⟩ := h
  match cs, hl with
  | [v0], _ =>
    obtain ⟨_, e0, n0, rfl, w0⟩ := h 0 (.int .i64) rfl; simp at e0; subst e0
    exact ⟨n0, rfl, w0⟩
theorem u16_of_leaves {cs : List Value} (h : LeavesOk [.int .u16] cs) : ∃ x : Int, cs = ucell x ∧ (Lit.int .u16 x).wf = true := by
  obtain ⟨hl, h⟩ := h
  match cs, hl with
  | [v0], _ =>
    obtain ⟨_, e0, n0, rfl, w0⟩ := h 0 (.int .u16) rfl; simp at e0; subst e0
    exact ⟨n0, rfl, w0⟩
theorem wf_u16 {n : Int} (h : (Lit.int .u16 n).wf = true) : 0 ≤ n ∧ n ≤ 65535 := by
  simp only [Lit.wf, Bool.and_eq_true, decide_eq_true_eq] at h
  have e1 : IntKind.min .u16 = 0 := by decide
  have e2 : IntKind.max .u16 = 65535 := by decide
  rw [e1, e2] at h
  exact h
theorem wf_u8 {n : Int} (h : (Lit.int .u8 n).wf = true) : 0 ≤ n ∧ n ≤ 255 := by
  simp only [Lit.wf, Bool.and_eq_true, decide_eq_true_eq] at h
  have e1 : IntKind.min .u8 = 0 := by decide
  have e2 : IntKind.max .u8 = 255 := by decide
  rw [e1, e2] at h
  exact h
theorem wf_i64 {n : Int} (h : (Lit.int .i64 n).wf = true) : -9223372036854775808 ≤ n ∧ n ≤ 9223372036854775807 := by
  simp only [Lit.wf, Bool.and_eq_true, decide_eq_true_eq] at h
  have e1 : IntKind.min .i64 = -9223372036854775808 := by decide
  have e2 : IntKind.max .i64 = 9223372036854775807 := by decide
  rw [e1, e2] at h
  exact h
end Bal.Trim

/-
  The outright statements of chapter 4: the examples' data, alive.
-/
namespace Go.Proofs.Ytlloijkmpmfapaa
open Go.RowKit Bal Bal.Trim
set_option linter.unusedVariables false
set_option linter.unusedSimpArgs false
set_option maxHeartbeats 4000000
set_option maxRecDepth 10000

theorem o_one (n : Int) (w : World) : Calls Try.prog 51 #[.int .i64 n] w fun e w' => e = .returned (.agg #[.int .i64 n, .int .i64 n]) ∧ Kept w w' := by
  go_enter Try.func51, Try.ntmps51
  go_wp2
  exact bodyPost_ret (v := .agg #[.int .i64 n, .int .i64 n]) (by simp [results, Try.results51, go_sem]) rfl ⟨rfl, by (exact kpt)⟩
/-- the loads, holds and parcels of the chapter's examples -/
def LS : List Load := [⟨-10, -10, 100, 100⟩, ⟨10, 10, -120, -90⟩]
def HS : List Hold := [⟨-30, 10⟩, ⟨30, 10⟩]
def PS : List Parcel := [⟨6, 1⟩, ⟨5, 2⟩, ⟨4, 1⟩]
theorem o_loads (w : World) : Calls Try.prog 55 #[] w fun e w' => ∃ g, e = .returned (.slice (some ⟨g, 0, none⟩) 2 2) ∧ Row Load.cells 4 w'.heap.size w' (some ⟨g, 0, none⟩) LS ∧ Kept w w' := by
  go_enter Try.func55, Try.ntmps55
  go_wp2_with (go_at_call 51; (with_reducible refine (o_one _ _).mono ?_); rintro e wo ⟨rfl, hbo⟩)
  go_ret
  exact ⟨_, rfl, Row.block (fun _ => rfl) Blk.new rfl, by (exact kpt)⟩
theorem o_holds (w : World) : Calls Try.prog 56 #[] w fun e w' => ∃ g, e = .returned (.slice (some ⟨g, 0, none⟩) 2 2) ∧ Row Hold.cells 2 w'.heap.size w' (some ⟨g, 0, none⟩) HS ∧ Kept w w' := by
  go_enter Try.func56, Try.ntmps56
  go_wp2
  go_ret
  exact ⟨_, rfl, Row.block (fun _ => rfl) Blk.new rfl, by (exact kpt)⟩
theorem o_parcels (w : World) : Calls Try.prog 57 #[] w fun e w' => ∃ g, e = .returned (.slice (some ⟨g, 0, none⟩) 3 3) ∧ Row Parcel.cells 2 w'.heap.size w' (some ⟨g, 0, none⟩) PS ∧ Kept w w' := by
  go_enter Try.func57, Try.ntmps57
  go_wp2
  go_ret
  exact ⟨_, rfl, Row.block (fun _ => rfl) Blk.new rfl, by (exact kpt)⟩
theorem owns_slc {α : Type} {enc : α → List Value} {k base n : Nat} {e : TypeId} {w : World} {v : Value} {xs : List α} (he : ∀ x, (enc x).length = k) (hn : xs.length = n) (h : w.ownsRow base e k v xs.length (xs.flatMap enc)) :
    ∃ a cap, v = .slice a n cap ∧ Row enc k w.heap.size w a xs ∧ n ≤ cap ∧ cap ≤ maxLen := by subst hn; exact owns_row he h
theorem a_balance (a : Option Addr) (w : World) (h : Row Load.cells 4 w.heap.size w a LS) : Calls Try.prog 31 #[.slice a 2 2] w fun e w' => e = .returned (.tuple #[.agg #[.int .i64 (-20), .int .i64 (10)], .agg #[.int .i64 (-2200), .int .i64 (-1900)], .int .i64 0]) ∧ Kept w w' := by
  have := f_Balance a 2 LS w h (by decide) (by decide)
  rwa [show ifOk (checkLoads LS) (sumBy Load.wlo LS) = -20 by decide, show ifOk (checkLoads LS) (sumBy Load.whi LS) = 10 by decide, show ifOk (checkLoads LS) (sumBy mLo LS) = -2200 by decide, show ifOk (checkLoads LS) (sumBy mHi LS) = -1900 by decide, show checkLoads LS = 0 by decide] at this
theorem a_breach (a : Option Addr) (n : Nat) (w : World) (h : Row Load.cells 4 w.heap.size w a LS) (hb : Blk w n #[.int .i64 0, .int .i64 (-1), .int .i64 2200, .int .i64 1, .int .i64 0, .int .i64 5] 47) : Calls Try.prog 25 #[.slice a 2 2, .slice (some ⟨n, 0, none⟩) 2 2] w fun e w' =>
    ∃ a' c', e = .returned (.tuple #[.agg #[.int .i64 1, .slice a' 2 c'], .int .i64 0]) ∧ Row Put.cells 2 w'.heap.size w' a' [⟨-10, 100⟩, ⟨10, -90⟩] ∧ 2 ≤ c' ∧ c' ≤ maxLen ∧ Kept w w' := by
  refine (f_Breach a 2 LS (some ⟨n, 0, none⟩) 2 [⟨0, -1, 2200⟩, ⟨1, 0, 5⟩] w h (by decide) (by decide) (Row.block (fun _ => rfl) hb rfl) (by decide) (by decide)).mono ?_
  rintro e w' ⟨v, rfl, ho, hk⟩
  rw [show breachP LS [⟨0, -1, 2200⟩, ⟨1, 0, 5⟩] = [⟨-10, 100⟩, ⟨10, -90⟩] by decide] at ho
  obtain ⟨a', c', rfl, hr, h1, h2⟩ := owns_row (enc := Put.cells) (k := 2) (fun _ => rfl) ho
  exact ⟨a', c', rfl, hr, h1, h2, hk⟩
theorem a_shear (a : Option Addr) (w : World) (h : Row Load.cells 4 w.heap.size w a LS) : Calls Try.prog 35 #[.slice a 2 2, .int .i64 11] w fun e w' => e = .returned (.tuple #[.agg #[.int .i64 (-20), .int .i64 (10)], .int .i64 0]) ∧ Kept w w' := by
  have := f_Shear 11 a 2 LS w h (by decide) (by decide)
  rwa [show ifOk (strainE LS 11) (sumBy (sLo 11) LS) = -20 by decide, show ifOk (strainE LS 11) (sumBy (sHi 11) LS) = 10 by decide, show strainE LS 11 = 0 by decide] at this
theorem a_drop (a : Option Addr) (d b : Nat) (w : World) (h : Row Load.cells 4 w.heap.size w a LS) (hd : Blk w d #[.int .i64 0, .int .i64 6, .int .i64 20, .int .i64 3] 85) (hm : Blk w b #[.int .i64 1, .int .i64 0, .int .i64 14] 47) : Calls Try.prog 42 #[.slice a 2 2, .slice (some ⟨d, 0, none⟩) 2 2, .slice (some ⟨b, 0, none⟩) 1 1] w fun e w' =>
    ∃ a' c', e = .returned (.tuple #[.slice a' 1 c', .int .i64 0]) ∧ Row icell 1 w'.heap.size w' a' [0] ∧ 1 ≤ c' ∧ c' ≤ maxLen ∧ Kept w w' := by
  have hD : a = none → (2 : Nat) = 0 := fun e => by
    subst e
    obtain ⟨b, off, hb, _⟩ := h 0 _ rfl
    cases hb
  refine (f_Drop a 2 LS (some ⟨d, 0, none⟩) 2 [⟨0, 6⟩, ⟨20, 3⟩] (some ⟨b, 0, none⟩) 1 [⟨1, 0, 14⟩] w h (by decide) (by decide) (Row.block (fun _ => rfl) hd rfl) (by decide) (by decide) (Row.block (fun _ => rfl) hm rfl) (by decide) (by decide) hD).mono ?_
  rintro e w' ⟨v, rfl, ho, hk⟩
  rw [show dropL LS [⟨0, 6⟩, ⟨20, 3⟩] [⟨1, 0, 14⟩] = [0] by decide +kernel] at ho
  obtain ⟨a', c', rfl, hr, h1, h2⟩ := owns_row (enc := icell) (k := 1) (fun _ => rfl) ho
  rw [show dropE LS [⟨0, 6⟩, ⟨20, 3⟩] [⟨1, 0, 14⟩] = 0 by decide +kernel]
  exact ⟨a', c', rfl, hr, h1, h2, hk⟩
/-- stowing the examples' parcels by some rules -/
theorem a_stow (rs : List Rule) (n : Nat) (hn : rs.length = n) (x : List Int) (m : Nat) (hm : x.length = m) (er : Int) (hx : stowL ⟨[], HS, PS, rs, []⟩ = x) (he : stowE ⟨[], HS, PS, rs, []⟩ = er) (hM : n ≤ 20) (ah ap ar : Option Addr) (cr : Nat) (hcr : n ≤ cr) (hcM : cr ≤ maxLen) (w : World) (hh : Row Hold.cells 2 w.heap.size w ah HS) (hp : Row Parcel.cells 2 w.heap.size w ap PS) (hr : Row Rule.cells 3 w.heap.size w ar rs) :
    Calls Try.prog 44 #[.slice none 0 0, .slice ah 2 2, .slice ap 3 3, .slice ar n cr, .slice none 0 0] w fun e w' => ∃ a' c', e = .returned (.tuple #[.slice a' m c', .int .i64 er]) ∧ Row icell 1 w'.heap.size w' a' x ∧ m ≤ c' ∧ c' ≤ maxLen ∧ Kept w w' := by
  subst hn hm hx he
  exact f_Stow ⟨[], HS, PS, rs, []⟩ ⟨none, ah, ap, ar, none, 0, 2, 3, cr, 0⟩ w ⟨Row.nil, hh, hp, hr, Row.nil, Nat.le_refl _, Nat.le_refl _, Nat.le_refl _, hcr, Nat.le_refl _, by simp [maxLen], by simp [maxLen], by simp [maxLen], hcM, by simp [maxLen], fun _ => rfl⟩
theorem a_stow1 (ah ap : Option Addr) (n : Nat) (w : World) (hh : Row Hold.cells 2 w.heap.size w ah HS) (hp : Row Parcel.cells 2 w.heap.size w ap PS) (hr : Blk w n #[.int .i64 1, .int .i64 1, .int .i64 1] 110) :
    Calls Try.prog 44 #[.slice none 0 0, .slice ah 2 2, .slice ap 3 3, .slice (some ⟨n, 0, none⟩) 1 1, .slice none 0 0] w fun e w' => ∃ a' c', e = .returned (.tuple #[.slice a' 3 c', .int .i64 0]) ∧ Row icell 1 w'.heap.size w' a' [0, 1, 1] ∧ 3 ≤ c' ∧ c' ≤ maxLen ∧ Kept w w' :=
  a_stow [⟨1, 1, 1⟩] 1 rfl [0, 1, 1] 3 rfl 0 (by decide +kernel) (by decide +kernel) (by decide) ah ap _ 1 (Nat.le_refl _) (by decide) w hh hp (Row.block (fun _ => rfl) hr rfl)

theorem a_puts2 (a : Option Addr) (n c : Nat) (p q : Put) (w : World) (hx : Row Put.cells 2 w.heap.size w a [p, q]) (hc : 2 ≤ c) (hM : c ≤ maxLen) (hy : Blk w n #[.int .i64 p.pos, .int .i64 p.wt, .int .i64 q.pos, .int .i64 q.wt] 85) :
    Calls Try.prog 27 #[.slice a 2 c, .slice (some ⟨n, 0, none⟩) 2 2] w fun e w' => e = .returned (.bool true) ∧ Kept w w' := r_SamePuts a _ c 2 [p, q] w hx (Row.block (fun _ => rfl) hy rfl) hc (Nat.le_refl _) hM (by simp [maxLen])
theorem a_ints1 (a : Option Addr) (b c : Nat) (p : Int) (w : World) (hx : Row icell 1 w.heap.size w a [p]) (hc : 1 ≤ c) (hM : c ≤ maxLen) (hy : Blk w b #[.int .i64 p] 3) :
    Calls Try.prog 41 #[.slice a 1 c, .slice (some ⟨b, 0, none⟩) 1 1] w fun e w' => e = .returned (.bool true) ∧ Kept w w' := r_SameInts a _ c 1 [p] w hx (Row.block (fun _ => rfl) hy rfl) hc (Nat.le_refl _) hM (by simp [maxLen])
theorem a_ints3 (a : Option Addr) (b c : Nat) (p q r : Int) (w : World) (hx : Row icell 1 w.heap.size w a [p, q, r]) (hc : 3 ≤ c) (hM : c ≤ maxLen) (hy : Blk w b #[.int .i64 p, .int .i64 q, .int .i64 r] 3) :
    Calls Try.prog 41 #[.slice a 3 c, .slice (some ⟨b, 0, none⟩) 3 3] w fun e w' => e = .returned (.bool true) ∧ Kept w w' := r_SameInts a _ c 3 [p, q, r] w hx (Row.block (fun _ => rfl) hy rfl) hc (Nat.le_refl _) hM (by simp [maxLen])

theorem o_alive (w : World) : Calls Try.prog 48 #[] w fun e w' => e = .returned (.bool true) ∧ Kept w w' := by
  go_enter Try.func48, Try.ntmps48
  go_upto_region 2 with (first | (go_at_call 55; (with_reducible refine (o_loads _).mono ?_); rintro e wL ⟨gL, rfl, hL, hbL⟩) | (go_at_call 31; (with_reducible refine (a_balance _ _ (hL.later (by (exact kpt)) (Nat.le_refl _))).mono ?_); rintro e wB ⟨rfl, hbB⟩))
  refine at_world (S := fun W1 => Blk W1 wB.heap.size #[.int .i64 (-20), .int .i64 (10)] 49 ∧ Blk W1 (wB.heap.size + 1) #[.int .i64 (-2200), .int .i64 (-1900)] 49 ∧ Kept w W1) ⟨by (exact blkc), by (exact blkc), by (exact kpt)⟩ ?_
  obtain ⟨n1, hn1⟩ : ∃ n, n = wB.heap.size := ⟨_, rfl⟩
  rw [← hn1]
  clear hn1
  rintro W1 ⟨q1, q2, hk⟩
  go_upto_region 3 with (first | (go_at_call 55; (with_reducible refine (o_loads _).mono ?_); rintro e wL ⟨gL, rfl, hL, hbL⟩) | (go_at_call 25; (with_reducible refine (a_breach _ _ _ (hL.later (by (exact kpt)) (Nat.le_refl _)) ?_).mono ?_); (focus (exact blk)); rintro e wR ⟨aR, cR, rfl, hR, hR1, hR2, hbR⟩))
  refine at_world (S := fun W2 => Blk W2 n1 #[.int .i64 (-20), .int .i64 (10)] 49 ∧ Blk W2 (n1 + 1) #[.int .i64 (-2200), .int .i64 (-1900)] 49 ∧ Blk W2 wR.heap.size #[.int .i64 1, .slice aR 2 cR] 36 ∧ Row Put.cells 2 W2.heap.size W2 aR [⟨-10, 100⟩, ⟨10, -90⟩] ∧ Kept w W2) ⟨by (exact blk), by (exact blk), by (exact blkc), (hR.later (by (exact kpt)) (Nat.le_refl _)), by (exact kpt)⟩ ?_
  obtain ⟨n2, hn2⟩ : ∃ n, n = wR.heap.size := ⟨_, rfl⟩
  rw [← hn2]
  clear q1 q2 hk hn2
  rintro W2 ⟨q1, q2, q3, r1, hk⟩
  go_upto_region 4 with (first | (go_at_call 55; (with_reducible refine (o_loads _).mono ?_); rintro e wL ⟨gL, rfl, hL, hbL⟩) | (go_at_call 35; (with_reducible refine (a_shear _ _ (hL.later (by (exact kpt)) (Nat.le_refl _))).mono ?_); rintro e wS ⟨rfl, hbS⟩))
  refine at_world (S := fun W3 => Blk W3 n1 #[.int .i64 (-20), .int .i64 (10)] 49 ∧ Blk W3 (n1 + 1) #[.int .i64 (-2200), .int .i64 (-1900)] 49 ∧ Blk W3 n2 #[.int .i64 1, .slice aR 2 cR] 36 ∧ Row Put.cells 2 W3.heap.size W3 aR [⟨-10, 100⟩, ⟨10, -90⟩] ∧ Blk W3 wS.heap.size #[.int .i64 (-20), .int .i64 (10)] 49 ∧ Kept w W3) ⟨by (exact blk), by (exact blk), by (exact blk), (r1.later (by (exact kpt)) (Nat.le_refl _)), by (exact blkc), by (exact kpt)⟩ ?_
  obtain ⟨n3, hn3⟩ : ∃ n, n = wS.heap.size := ⟨_, rfl⟩
  rw [← hn3]
  clear q1 q2 q3 r1 hk hn3
  rintro W3 ⟨q1, q2, q3, r1, q4, hk⟩
  go_upto_region 5 with (first | (go_at_call 55; (with_reducible refine (o_loads _).mono ?_); rintro e wL ⟨gL, rfl, hL, hbL⟩) | (go_at_call 42; (with_reducible refine (a_drop _ _ _ _ (hL.later (by (exact kpt)) (Nat.le_refl _)) ?_ ?_).mono ?_); (focus (exact blk)); (focus (exact blk)); rintro e wD ⟨aD, cD, rfl, hD, hD1, hD2, hbD⟩))
  refine at_world (S := fun W4 => Blk W4 n1 #[.int .i64 (-20), .int .i64 (10)] 49 ∧ Blk W4 (n1 + 1) #[.int .i64 (-2200), .int .i64 (-1900)] 49 ∧ Blk W4 n2 #[.int .i64 1, .slice aR 2 cR] 36 ∧ Row Put.cells 2 W4.heap.size W4 aR [⟨-10, 100⟩, ⟨10, -90⟩] ∧ Blk W4 n3 #[.int .i64 (-20), .int .i64 (10)] 49 ∧ Row icell 1 W4.heap.size W4 aD [0] ∧ Kept w W4) ⟨by (exact blk), by (exact blk), by (exact blk), (r1.later (by (exact kpt)) (Nat.le_refl _)), by (exact blk), (hD.later (by (exact kpt)) (Nat.le_refl _)), by (exact kpt)⟩ ?_
  clear q1 q2 q3 r1 q4 hk
  rintro W4 ⟨q1, q2, q3, r1, q4, r2, hk⟩
  go_upto_region 6 with (first | (go_at_call 56; (with_reducible refine (o_holds _).mono ?_); rintro e wH ⟨gH, rfl, hH, hbH⟩) | (go_at_call 57; (with_reducible refine (o_parcels _).mono ?_); rintro e wP ⟨gP, rfl, hP, hbP⟩) | (go_at_call 44; (with_reducible refine (a_stow1 _ _ _ _ (hH.later (by (exact kpt)) (Nat.le_refl _)) (hP.later (by (exact kpt)) (Nat.le_refl _)) ?_).mono ?_); (focus (exact blk)); rintro e wT ⟨aT, cT, rfl, hT, hT1, hT2, hbT⟩))
  refine at_world (S := fun W5 => Blk W5 n1 #[.int .i64 (-20), .int .i64 (10)] 49 ∧ Blk W5 (n1 + 1) #[.int .i64 (-2200), .int .i64 (-1900)] 49 ∧ Blk W5 n2 #[.int .i64 1, .slice aR 2 cR] 36 ∧ Row Put.cells 2 W5.heap.size W5 aR [⟨-10, 100⟩, ⟨10, -90⟩] ∧ Blk W5 n3 #[.int .i64 (-20), .int .i64 (10)] 49 ∧ Row icell 1 W5.heap.size W5 aD [0] ∧ Row icell 1 W5.heap.size W5 aT [0, 1, 1] ∧ Kept w W5) ⟨by (exact blk), by (exact blk), by (exact blk), (r1.later (by (exact kpt)) (Nat.le_refl _)), by (exact blk), (r2.later (by (exact kpt)) (Nat.le_refl _)), (hT.later (by (exact kpt)) (Nat.le_refl _)), by (exact kpt)⟩ ?_
  clear q1 q2 q3 r1 q4 r2 hk
  rintro W5 ⟨q1, q2, q3, r1, q4, r2, r3, hk⟩
  have q1c0 := q1.cell 0
  have q1f0 := q1.free 0
  have q1c1 := q1.cell 1
  have q1f1 := q1.free 1
  have q1l := q1.lt
  simp at q1c0 q1c1
  have q2c0 := q2.cell 0
  have q2f0 := q2.free 0
  have q2c1 := q2.cell 1
  have q2f1 := q2.free 1
  have q2l := q2.lt
  simp at q2c0 q2c1
  have q3c0 := q3.cell 0
  have q3f0 := q3.free 0
  have q3c1 := q3.cell 1
  have q3f1 := q3.free 1
  have q3l := q3.lt
  simp at q3c0 q3c1
  have q4c0 := q4.cell 0
  have q4f0 := q4.free 0
  have q4c1 := q4.cell 1
  have q4f1 := q4.free 1
  have q4l := q4.lt
  simp at q4c0 q4c1
  go_wp2_with (first | (go_at_call 27; (with_reducible refine (a_puts2 _ _ _ ⟨-10, 100⟩ ⟨10, -90⟩ _ (r1.later (by (exact kpt)) (Nat.le_refl _)) hR1 hR2 ?_).mono ?_); (focus (exact blk)); rintro e w8 ⟨rfl, hb8⟩; refine Blk.thru (b := n3) (arr := ?_) (t := ?_) ?_ hb8 ?_; rotate_left 2; (focus (exact blk)); intro o4; have o4c0 := o4.cell 0; have o4f0 := o4.free 0; have o4c1 := o4.cell 1; have o4f1 := o4.free 1; have o4l := o4.lt; simp at o4c0 o4c1) | (go_at_call 41; (with_reducible refine (a_ints1 _ _ _ 0 _ (r2.later (by (exact kpt)) (Nat.le_refl _)) hD1 hD2 ?_).mono ?_); (focus (exact blk)); rintro e w9 ⟨rfl, hb9⟩) | (go_at_call 41; (with_reducible refine (a_ints3 _ _ _ 0 1 1 _ (r3.later (by (exact kpt)) (Nat.le_refl _)) hT1 hT2 ?_).mono ?_); (focus (exact blk)); rintro e w10 ⟨rfl, hb10⟩))
  go_ret
  exact ⟨rfl, by (exact kpt)⟩
end Go.Proofs.Ytlloijkmpmfapaa

/-
  The outright statements of chapter 4: what is valid, choices and their sums.
-/
namespace Go.Proofs.Ytlloijkmpmfapaa
open Go.RowKit Bal Bal.Trim
set_option linter.unusedVariables false
set_option linter.unusedSimpArgs false
set_option maxHeartbeats 4000000
set_option maxRecDepth 10000

theorem both_is {xs : List Load} {ms : List Limit} (h1 : checkLoads xs = 0) (h2 : checkLimits ms = 0) : both xs ms = 0 := by unfold both; rw [if_pos h1, h2]
/-- loads and limits that are valid, and not too many -/
def validB (xs : List Load) (ms : List Limit) : Bool := !great xs.length ms.length 0 0 && decide (checkLoads xs = 0) && decide (checkLimits ms = 0)
theorem validB_ok {xs : List Load} {ms : List Limit} (h : validB xs ms = true) : checkLoads xs = 0 ∧ checkLimits ms = 0 := by
  simp only [validB, Bool.and_eq_true, decide_eq_true_eq] at h
  exact ⟨h.1.2, h.2⟩
theorem o_valid (a : Option Addr) (cap : Nat) (xs : List Load) (b : Option Addr) (cb : Nat) (ms : List Limit) (w : World) (hx : Row Load.cells 4 w.heap.size w a xs) (hc : xs.length ≤ cap) (hM : cap ≤ maxLen) (hy : Row Limit.cells 3 w.heap.size w b ms) (hd : ms.length ≤ cb) (hN : cb ≤ maxLen) :
    Calls Try.prog 49 #[.slice a xs.length cap, .slice b ms.length cb] w fun e w' => e = .returned (.bool (validB xs ms)) ∧ Kept w w' := by
  obtain ⟨V, hV⟩ : ∃ V, V = validB xs ms := ⟨_, rfl⟩
  rw [← hV]
  unfold validB at hV
  obtain ⟨G, hG⟩ : ∃ G, great xs.length ms.length 0 0 = G := ⟨_, rfl⟩
  obtain ⟨E1, hE1⟩ : ∃ E, checkLoads xs = E := ⟨_, rfl⟩
  obtain ⟨E2, hE2⟩ : ∃ E, checkLimits ms = E := ⟨_, rfl⟩
  rw [hG, hE1, hE2] at hV
  have HG := Lib.hid hG
  have HE1 := Lib.hid hE1
  have HE2 := Lib.hid hE2
  have HV := Lib.hid hV
  clear hG hE1 hE2 hV
  cases G with
  | true =>
    have HF := Lib.hid (show V = false by rw [HV.out]; rfl)
    go_enter Try.func49, Try.ntmps49
    go_wp2_with (go_at_call 18; (with_reducible refine (r_great _ _ _ _ _).mono ?_); rw [HG.out]; rintro e w1 ⟨rfl, rfl⟩)
    go_ret
    exact ⟨ret_bool HF.out.symm, by (exact kpt)⟩
  | false =>
    by_cases h1 : E1 = 0
    · by_cases h2 : E2 = 0
      · have HF := Lib.hid (show V = true by rw [HV.out, h1, h2]; rfl)
        subst h1 h2
        go_enter Try.func49, Try.ntmps49
        go_wp2_with (first | (go_at_call 18; (with_reducible refine (r_great _ _ _ _ _).mono ?_); rw [HG.out]; rintro e w1 ⟨rfl, rfl⟩) | (go_at_call 20; (with_reducible refine (r_CheckLoads _ _ _ _ (hx.later (by (exact kpt)) (Nat.le_refl _)) hc hM).mono ?_); rw [HE1.out]; rintro e w2 ⟨rfl, hb2⟩) | (go_at_call 22; (with_reducible refine (r_CheckLimits _ _ _ _ (hy.later (by (exact kpt)) (Nat.le_refl _)) hd hN).mono ?_); rw [HE2.out]; rintro e w3 ⟨rfl, hb3⟩))
        go_ret
        exact ⟨ret_bool HF.out.symm, by (exact kpt)⟩
      · have HF := Lib.hid (show V = false by rw [HV.out, decide_eq_false h2]; simp)
        have e2 : (E2 == 0) = false := by simp [h2]
        subst h1
        go_enter Try.func49, Try.ntmps49
        go_wp2_with (first | (go_at_call 18; (with_reducible refine (r_great _ _ _ _ _).mono ?_); rw [HG.out]; rintro e w1 ⟨rfl, rfl⟩) | (go_at_call 20; (with_reducible refine (r_CheckLoads _ _ _ _ (hx.later (by (exact kpt)) (Nat.le_refl _)) hc hM).mono ?_); rw [HE1.out]; rintro e w2 ⟨rfl, hb2⟩) | (go_at_call 22; (with_reducible refine (r_CheckLimits _ _ _ _ (hy.later (by (exact kpt)) (Nat.le_refl _)) hd hN).mono ?_); rw [HE2.out]; rintro e w3 ⟨rfl, hb3⟩))
        go_ret
        exact ⟨ret_bool HF.out.symm, by (exact kpt)⟩
    · have HF := Lib.hid (show V = false by rw [HV.out, decide_eq_false h1]; simp)
      have e1 : (E1 == 0) = false := by simp [h1]
      go_enter Try.func49, Try.ntmps49
      go_wp2_with (first | (go_at_call 18; (with_reducible refine (r_great _ _ _ _ _).mono ?_); rw [HG.out]; rintro e w1 ⟨rfl, rfl⟩) | (go_at_call 20; (with_reducible refine (r_CheckLoads _ _ _ _ (hx.later (by (exact kpt)) (Nat.le_refl _)) hc hM).mono ?_); rw [HE1.out]; rintro e w2 ⟨rfl, hb2⟩))
      go_ret
      exact ⟨ret_bool HF.out.symm, by (exact kpt)⟩

theorem i64_inO {n : Int} (h : -9223372036854775808 ≤ n ∧ n ≤ 9223372036854775807) : IntKind.i64.wrap n = n := by rw [IntKind.wrap_i64]; first | omega | (unfold wrap64; omega)
theorem o_inside (lo hi n : Int) (w : World) (h1 : -1000000000000 ≤ lo) (h2 : lo ≤ hi) (h3 : hi ≤ 1000000000000) (hn : 0 ≤ n ∧ n ≤ 65535) :
    Calls Try.prog 54 #[.agg #[.int .i64 lo, .int .i64 hi], .int .u16 n] w fun e w' => e = .returned (.int .i64 (lo + n % (hi - lo + 1))) ∧ Kept w w' := by
  have m1 := Int.emod_nonneg n (show hi - lo + 1 ≠ 0 by omega)
  have m2 := Int.emod_lt_of_pos n (show 0 < hi - lo + 1 by omega)
  have hw1 := i64_inO (n := hi - lo) (by omega)
  have hw2 := i64_inO (n := hi - lo + 1) (by omega)
  have hw3 := i64_inO (n := lo + n % (hi - lo + 1)) (by omega)
  have hw4 := i64_inO (n := n % (hi - lo + 1)) (by omega)
  have hw5 := i64_inO (n := n) (by omega)
  have hz1 : (hi - lo + 1 == 0) = false := by simp; omega
  have hz2 : ¬ hi - lo + 1 = 0 := by omega
  have ht : n.tmod (hi - lo + 1) = n % (hi - lo + 1) := Int.tmod_eq_emod_of_nonneg hn.1
  have h0 : 0 < hi - lo + 1 := by omega
  go_enter Try.func54, Try.ntmps54
  go_upto_region 1 with fail
  have q0 := (Blk.new (w := w) (arr := #[.int .i64 lo, .int .i64 hi]) (t := 49))
  have q0c0 := fun g : Later (w.alloc (.cells #[.int .i64 lo, .int .i64 hi] 49)) => (q0.later g).cell 0
  have q0f0 := fun g : Later (w.alloc (.cells #[.int .i64 lo, .int .i64 hi] 49)) => (q0.later g).free 0
  have q0c1 := fun g : Later (w.alloc (.cells #[.int .i64 lo, .int .i64 hi] 49)) => (q0.later g).cell 1
  have q0f1 := fun g : Later (w.alloc (.cells #[.int .i64 lo, .int .i64 hi] 49)) => (q0.later g).free 1
  have q0l := fun g : Later (w.alloc (.cells #[.int .i64 lo, .int .i64 hi] 49)) => (q0.later g).lt
  simp at q0c0 q0c1
  refine Later.region (by kernel_rfl) (by kernel_rfl) ?_
  repeat (first | go_big_quiet_skip | (go_big_quiet_want; go_big_quiet_op; first | go_big_quiet_on | (apply Exists.intro; refine ⟨fun g => ?_, ?_⟩; (focus (first | fail)); go_big_quiet_on)))
  refine wpQuiet_nil ?_
  intro gg
  have hkg := Kept.drop ((Below.refl _ _).alloc (Nat.le_refl _) _ : Kept w _) gg.ok
  go_wp2
  go_ret
  exact ⟨ret_int rfl, by (exact kpt)⟩

theorem o_sums (a : Option Addr) (cap : Nat) (ps : List Put) (w : World) (hx : Row Put.cells 2 w.heap.size w a ps) (hn : ps.length ≤ 40) (hp : ∀ p ∈ ps, putB p) :
    Calls Try.prog 53 #[.slice a ps.length cap] w fun e w' => e = .returned (.tuple #[.int .i64 (wtS ps), .int .i64 (moS ps)]) ∧ Kept w w' := by
  have HP := Lib.hid hp
  clear hp
  go_enter Try.func53, Try.ntmps53
  go_wp2
  go_loopw [4, 5, 10] (fun s4 s5 i wr => ∃ k : Nat, k ≤ ps.length ∧ i = .int .i64 k ∧ s4 = .int .i64 (wtS (ps.take k)) ∧ s5 = .int .i64 (moS (ps.take k)) ∧ Kept w wr) (fun _ _ i _ => ps.length - (intOf i).toNat)
  case atStart => exact ⟨0, Nat.zero_le _, rfl, rfl, rfl, by (exact kpt)⟩
  case round =>
    obtain ⟨k, hk, rfl, rfl, rfl, hkk⟩ := hrel
    by_cases hlt : k < ps.length
    · obtain ⟨bb, off, rfl, hbl, g0, g1⟩ := Put.row (hx.later hkk (Nat.le_refl _)) k hlt
      have b1 := wtS_bd HP.out hn k
      have b2 := moS_bd HP.out hn k
      have b3 := mo_bd (HP.out _ (List.getElem_mem hlt))
      have b4 := HP.out _ (List.getElem_mem hlt)
      have s1 : wtS (ps.take (k + 1)) = wtS (ps.take k) + ps[k].wt := sumBy_take _ _ _ hlt
      have s2 : moS (ps.take (k + 1)) = moS (ps.take k) + ps[k].wt * ps[k].pos := sumBy_take _ _ _ hlt
      obtain ⟨S, hS⟩ : ∃ S, S = wtS (ps.take k) := ⟨_, rfl⟩
      obtain ⟨M, hM⟩ : ∃ M, M = moS (ps.take k) := ⟨_, rfl⟩
      obtain ⟨x, hx0⟩ : ∃ x, x = ps[k] := ⟨_, rfl⟩
      rw [← hx0] at b3 b4 s1 s2 g0 g1
      rw [← hS] at b1 s1 ⊢
      rw [← hM] at b2 s2 ⊢
      obtain ⟨b5, b6⟩ := b4
      have S1 := Lib.hid s1
      have S2 := Lib.hid s2
      clear hS hM hx0 s1 s2
      obtain ⟨p, hp0⟩ : ∃ p, p = x.wt * x.pos := ⟨_, rfl⟩
      rw [← hp0] at b3 S2
      have e0 : x.wt * x.pos = p := hp0.symm
      clear hp0
      have j0 : (0 : Int) ≤ (k : Int) := by omega
      have j1 : (k : Int) < (ps.length : Int) := by omega
      go_wp2
      go_roundw
      case rel => exact ⟨k + 1, by omega, by go_num, by rw [S1.out], by rw [S2.out], by (exact kpt)⟩
      case measure => simp [intOf]; omega
    · obtain rfl : ps.length = k := by omega
      rw [List.take_length]
      go_wp2
      exact bodyPost_ret (v := .tuple #[.int .i64 (wtS ps), .int .i64 (moS ps)]) (by simp [results, Try.results53, go_sem]) rfl ⟨rfl, by (exact kpt)⟩

theorem at_worldQ {Q : Exit → Act → World → Prop} {e : Exit} {a : Act} {S : World → Prop} {W : World} (h : S W) (k : ∀ W, S W → Q e a W) : Q e a W := k W h
theorem infoPut2 : (Try.prog.info? 85).map (fun i => (i.zero, i.size, i.bytes)) = some (some (.agg #[.int .i64 0, .int .i64 0]), 2, 16) := by kernel_rfl
theorem ucell_row {B : Nat} {w : World} {a : Option Addr} {xs : List Int} (h : Row ucell 1 B w a xs) (i : Nat) (hi : i < xs.length) :
    ∃ b off, a = some ⟨b, off, none⟩ ∧ b < B ∧ w.cell? ⟨b, off + i, none⟩ = some (.int .u16 xs[i]) := by
  obtain ⟨b, off, ha, hb, hc⟩ := h i xs[i] (by simp [hi])
  exact ⟨b, off, ha, hb, by simpa using hc 0 _ rfl⟩
theorem o_chosen (a : Option Addr) (cap : Nat) (xs : List Load) (b : Option Addr) (cb : Nat) (bs : List Int) (w : World) (hx : Row Load.cells 4 w.heap.size w a xs) (hn : xs.length ≤ 40) (hv : ∀ x ∈ xs, loadB x = true) (hb : Row ucell 1 w.heap.size w b bs) (hbl : bs.length ≤ cb) (hbM : cb ≤ maxLen) (hw : ∀ n ∈ bs, 0 ≤ n ∧ n ≤ 65535) :
    Calls Try.prog 52 #[.slice a xs.length cap, .slice b bs.length cb] w fun e w' => ∃ a' c', e = .returned (.slice a' xs.length c') ∧ Row Put.cells 2 w'.heap.size w' a' (chosen xs bs) ∧ xs.length ≤ c' ∧ c' ≤ maxLen ∧ Kept w w' := by
  have HV := Lib.hid hv
  have HW := Lib.hid hw
  unfold maxLen at hbM
  clear hv hw
  go_enter Try.func52, Try.ntmps52
  go_wp2
  go_loopw [5, 12] (fun s5 i wr => ∃ k : Nat, k ≤ xs.length ∧ i = .int .i64 k ∧ wr.ownsRow w.heap.size 85 2 s5 (chosenTo xs bs k).length ((chosenTo xs bs k).flatMap Put.cells) ∧ Kept w wr) (fun _ i _ => xs.length - (intOf i).toNat)
  case atStart => exact ⟨0, Nat.zero_le _, rfl, owns_nil (α := Put) (enc := Put.cells), by (exact kpt)⟩
  case round =>
    obtain ⟨k, hk, rfl, hown, hkk⟩ := hrel
    by_cases hlt : k < xs.length
    · obtain ⟨bb, off, rfl, hbb, g0, g1, g2, g3⟩ := Load.row (hx.later hkk (Nat.le_refl _)) k hlt
      have hxv := loadB_bd (HV.out _ (List.getElem_mem hlt))
      have HPK := Lib.hid (pick_at (bs := bs) hlt)
      have HCT := Lib.hid (chosenTo_succ xs bs k)
      have hlen : (chosenTo xs bs k).length ≤ 40 := by rw [chosenTo_len]; omega
      obtain ⟨x, hx0⟩ : ∃ x, x = xs[k] := ⟨_, rfl⟩
      rw [← hx0] at HPK hxv g0 g1 g2 g3
      clear hx0
      have j0 : (0 : Int) ≤ (k : Int) := by omega
      have j1 : (k : Int) < (xs.length : Int) := by omega
      have t1 : (2 * (k : Int)).toNat = 2 * k := by omega
      have t2 : (2 * (k : Int) + 1).toNat = 2 * k + 1 := by omega
      by_cases h2 : 2 * k + 1 < bs.length
      · have j2 : (2 * (k : Int) + 1) < (bs.length : Int) := by omega
        have j3 : (2 * (k : Int)) < (bs.length : Int) := by omega
        have j4 : (0 : Int) ≤ 2 * (k : Int) := by omega
        have j5 : (0 : Int) ≤ 2 * (k : Int) + 1 := by omega
        have b1 := HW.out bs[2 * k] (List.getElem_mem (by omega))
        have b2 := HW.out bs[2 * k + 1] (List.getElem_mem h2)
        obtain ⟨p, hp⟩ : ∃ p, p = bs[2 * k] := ⟨_, rfl⟩
        obtain ⟨q, hq⟩ : ∃ q, q = bs[2 * k + 1] := ⟨_, rfl⟩
        have e1 : byN bs k 0 = p := by unfold byN; rw [if_pos h2, hp]; simp [List.getD_eq_getElem?_getD, show 2 * k < bs.length by omega]
        have e2 : byN bs k 1 = q := by unfold byN; rw [if_pos h2, hq]; simp [List.getD_eq_getElem?_getD, h2]
        rw [e1, e2] at HPK
        rw [← hp] at b1
        rw [← hq] at b2
        have HI1 := Lib.hid (fun w => o_inside x.alo x.ahi p w (by omega) (by omega) (by omega) b1)
        have HI2 := Lib.hid (fun w => o_inside x.wlo x.whi q w (by omega) (by omega) (by omega) b2)
        obtain ⟨y, hy⟩ : ∃ y : Put, y = ⟨x.alo + p % (x.ahi - x.alo + 1), x.wlo + q % (x.whi - x.wlo + 1)⟩ := ⟨_, rfl⟩
        have HP := Lib.hid (show chosenTo xs bs (k + 1) = chosenTo xs bs k ++ [y] by rw [HCT.out, HPK.out, hy])
        rw [show x.alo + p % (x.ahi - x.alo + 1) = y.pos by rw [hy]] at HI1
        rw [show x.wlo + q % (x.whi - x.wlo + 1) = y.wt by rw [hy]] at HI2
        have HB := Lib.hid (show ∀ V, Kept w V → ∃ b1 o1, b = some ⟨b1, o1, none⟩ ∧ V.cell? ⟨b1, o1 + 2 * k, none⟩ = some (.int .u16 p) ∧ V.cell? ⟨b1, o1 + (2 * k + 1), none⟩ = some (.int .u16 q) from fun V hV => by
          obtain ⟨b1, o1, hb1, _, c1⟩ := ucell_row (hb.later hV (Nat.le_refl _)) (2 * k) (by omega)
          obtain ⟨b2, o2, hb2, _, c2⟩ := ucell_row (hb.later hV (Nat.le_refl _)) (2 * k + 1) h2
          obtain ⟨rfl, rfl⟩ : b1 = b2 ∧ o1 = o2 := by rw [hb1] at hb2; simpa using hb2
          exact ⟨b1, o1, hb1, by rw [hp]; exact c1, by rw [hq]; exact c2⟩)
        clear hy hp hq e1 e2 HPK HCT
        go_upto_region 7 with fail
        refine at_world (S := fun V => Blk V wr.heap.size #[.int .i64 x.alo, .int .i64 x.ahi, .int .i64 x.wlo, .int .i64 x.whi] 88 ∧ V.ownsRow w.heap.size 85 2 u5 (chosenTo xs bs k).length ((chosenTo xs bs k).flatMap Put.cells) ∧ Kept w V) ⟨by (exact blk), owns_keep hown (by (exact kpt)), by (exact kpt)⟩ ?_
        obtain ⟨nx, hnx⟩ : ∃ n, n = wr.heap.size := ⟨_, rfl⟩
        rw [← hnx]
        clear hnx hown hkk g0 g1 g2 g3
        rintro W2 ⟨r0, hown, hkq⟩
        have hzq := hkq.size
        have cs := HB.out W2 hkq
        obtain ⟨bu, ou, rfl, c0, c1⟩ := cs
        have v0 := fun g : Later W2 => g.some c0
        have v1 := fun g : Later W2 => g.some c1
        clear HB c0 c1
        refine Later.region (by kernel_rfl) (by kernel_rfl) ?_
        repeat (first | go_big_quiet_skip | (go_big_quiet_want; go_big_quiet_op; first | go_big_quiet_on | (apply Exists.intro; refine ⟨fun g => ?_, ?_⟩; (focus (first | fail)); go_big_quiet_on)))
        refine wpQuiet_nil ?_
        intro gg
        have hkgg := Kept.drop hkq gg.ok
        refine at_worldQ (S := fun V => Blk V nx #[.int .i64 x.alo, .int .i64 x.ahi, .int .i64 x.wlo, .int .i64 x.whi] 88 ∧ V.ownsRow w.heap.size 85 2 u5 (chosenTo xs bs k).length ((chosenTo xs bs k).flatMap Put.cells) ∧ Kept w V) ⟨r0.later gg, owns_keep hown gg.ok, Kept.drop hkq gg.ok⟩ ?_
        clear r0 hown hkq hzq v0 v1
        rintro W3 ⟨r0, hown, hkq⟩
        have hzq := hkq.size
        have r0c0 := fun g : Later W3 => (r0.later g).cell 0
        have r0f0 := fun g : Later W3 => (r0.later g).free 0
        have r0c1 := fun g : Later W3 => (r0.later g).cell 1
        have r0f1 := fun g : Later W3 => (r0.later g).free 1
        have r0c2 := fun g : Later W3 => (r0.later g).cell 2
        have r0f2 := fun g : Later W3 => (r0.later g).free 2
        have r0c3 := fun g : Later W3 => (r0.later g).cell 3
        have r0f3 := fun g : Later W3 => (r0.later g).free 3
        have r0l := fun g : Later W3 => (r0.later g).lt
        simp at r0c0 r0c1 r0c2 r0c3
        go_upto_region 8 with fail
        refine later_mix [(true, 0), (false, 1), (false, 2), (false, 3), (false, 4), (false, 5), (false, 6), (false, 7), (false, 8), (false, 9)] 10 [11, 12] (by kernel_rfl) (by kernel_rfl) ?_
        simp only [List.filterMap_cons, List.filterMap_nil, List.getElem?_cons_zero, List.getElem?_cons_succ, Option.map_some]
        refine wpSteps_any _ rfl (fun w => rfl) ?_
        simp only [Act.put, List.setIfInBounds_toArray, List.set_cons_zero, List.set_cons_succ]
        repeat (refine wpSteps_quiet ?_; (first | go_big_quiet_skip | (go_big_quiet_want; go_big_quiet_op; first | go_big_quiet_on | (apply Exists.intro; refine ⟨fun g => ?_, ?_⟩; (focus (first | (go_at_call 54; with_reducible exact Later.call (HI1.out _)) | (go_at_call 54; with_reducible exact Later.call (HI2.out _)))); go_big_quiet_on))); refine wpQuiet_nil ?_)
        refine wpSteps_nil ?_
        intro gg
        have hown1 := owns_keep hown gg.ok
        refine wpList_plain rfl fun K1 hK1 => ?_
        go_simp
        refine hK1 _ _ ?_
        (obtain ⟨i0, hi, hz0, hz1, hz2⟩ := info_parts infoPut2; refine wpList_append_own _ rfl _ _ 34 rfl w.heap.size 85 i0 (.agg #[.int .i64 0, .int .i64 0]) 2 16 Try.underlying34 hi hz0 hz1 hz2 rfl (by decide) _ _ _ rfl (hown1.alloc _) ⟨_, 0, none⟩ 1 1 [.int .i64 y.pos, .int .i64 y.wt] rfl rfl (cell_two_at rfl _ _ _) (by intro x hx; simp only [List.mem_cons, List.not_mem_nil, or_false] at hx; rcases hx with rfl | rfl <;> rfl) (by unfold maxLen; omega) (by omega) (by have := gg.ok.size; simp only [World.size_alloc] at this ⊢; omega) ?_; intro v9 w9 hown9 hgrow9 hnil9; clear hi hz0 hz1 hz2)
        have hK9 : Kept w w9 := Kept.grown (Kept.alloc (Kept.drop hkq gg.ok) _) (hown1.alloc _) (Nat.le_refl _) hgrow9
        go_wp2
        refine NoPanic.normal ?_
        go_wp2
        go_roundw
        case rel => exact ⟨k + 1, by omega, by go_num, by rw [HP.out, List.flatMap_append, List.length_append]; exact hown9, hK9⟩
        case measure => simp [intOf]; omega
      · have e1 : byN bs k 0 = 0 := by unfold byN; rw [if_neg h2]
        have e2 : byN bs k 1 = 0 := by unfold byN; rw [if_neg h2]
        rw [e1, e2] at HPK
        have HI1 := Lib.hid (fun w => o_inside x.alo x.ahi 0 w (by omega) (by omega) (by omega) (by omega))
        have HI2 := Lib.hid (fun w => o_inside x.wlo x.whi 0 w (by omega) (by omega) (by omega) (by omega))
        obtain ⟨y, hy⟩ : ∃ y : Put, y = ⟨x.alo + 0 % (x.ahi - x.alo + 1), x.wlo + 0 % (x.whi - x.wlo + 1)⟩ := ⟨_, rfl⟩
        have HP := Lib.hid (show chosenTo xs bs (k + 1) = chosenTo xs bs k ++ [y] by rw [HCT.out, HPK.out, hy])
        rw [show x.alo + 0 % (x.ahi - x.alo + 1) = y.pos by rw [hy]] at HI1
        rw [show x.wlo + 0 % (x.whi - x.wlo + 1) = y.wt by rw [hy]] at HI2
        have j2 : ¬ (2 * (k : Int) + 1) < (bs.length : Int) := by omega
        clear hy e1 e2 HPK HCT
        go_upto_region 8 with fail
        refine at_world (S := fun V => Blk V wr.heap.size #[.int .i64 x.alo, .int .i64 x.ahi, .int .i64 x.wlo, .int .i64 x.whi] 88 ∧ V.ownsRow w.heap.size 85 2 u5 (chosenTo xs bs k).length ((chosenTo xs bs k).flatMap Put.cells) ∧ Kept w V) ⟨by (exact blk), owns_keep hown (by (exact kpt)), by (exact kpt)⟩ ?_
        obtain ⟨nx, hnx⟩ : ∃ n, n = wr.heap.size := ⟨_, rfl⟩
        rw [← hnx]
        clear hnx hown hkk g0 g1 g2 g3
        rintro W2 ⟨r0, hown, hkq⟩
        have hzq := hkq.size
        have r0c0 := fun g : Later W2 => (r0.later g).cell 0
        have r0f0 := fun g : Later W2 => (r0.later g).free 0
        have r0c1 := fun g : Later W2 => (r0.later g).cell 1
        have r0f1 := fun g : Later W2 => (r0.later g).free 1
        have r0c2 := fun g : Later W2 => (r0.later g).cell 2
        have r0f2 := fun g : Later W2 => (r0.later g).free 2
        have r0c3 := fun g : Later W2 => (r0.later g).cell 3
        have r0f3 := fun g : Later W2 => (r0.later g).free 3
        have r0l := fun g : Later W2 => (r0.later g).lt
        simp at r0c0 r0c1 r0c2 r0c3
        skip
        refine later_mix [(true, 0), (false, 1), (false, 2), (false, 3), (false, 4), (false, 5), (false, 6), (false, 7), (false, 8), (false, 9)] 10 [11, 12] (by kernel_rfl) (by kernel_rfl) ?_
        simp only [List.filterMap_cons, List.filterMap_nil, List.getElem?_cons_zero, List.getElem?_cons_succ, Option.map_some]
        refine wpSteps_any _ rfl (fun w => rfl) ?_
        simp only [Act.put, List.setIfInBounds_toArray, List.set_cons_zero, List.set_cons_succ]
        repeat (refine wpSteps_quiet ?_; (first | go_big_quiet_skip | (go_big_quiet_want; go_big_quiet_op; first | go_big_quiet_on | (apply Exists.intro; refine ⟨fun g => ?_, ?_⟩; (focus (first | (go_at_call 54; with_reducible exact Later.call (HI1.out _)) | (go_at_call 54; with_reducible exact Later.call (HI2.out _)))); go_big_quiet_on))); refine wpQuiet_nil ?_)
        refine wpSteps_nil ?_
        intro gg
        have hown1 := owns_keep hown gg.ok
        refine wpList_plain rfl fun K1 hK1 => ?_
        go_simp
        refine hK1 _ _ ?_
        (obtain ⟨i0, hi, hz0, hz1, hz2⟩ := info_parts infoPut2; refine wpList_append_own _ rfl _ _ 34 rfl w.heap.size 85 i0 (.agg #[.int .i64 0, .int .i64 0]) 2 16 Try.underlying34 hi hz0 hz1 hz2 rfl (by decide) _ _ _ rfl (hown1.alloc _) ⟨_, 0, none⟩ 1 1 [.int .i64 y.pos, .int .i64 y.wt] rfl rfl (cell_two_at rfl _ _ _) (by intro x hx; simp only [List.mem_cons, List.not_mem_nil, or_false] at hx; rcases hx with rfl | rfl <;> rfl) (by unfold maxLen; omega) (by omega) (by have := gg.ok.size; simp only [World.size_alloc] at this ⊢; omega) ?_; intro v9 w9 hown9 hgrow9 hnil9; clear hi hz0 hz1 hz2)
        have hK9 : Kept w w9 := Kept.grown (Kept.alloc (Kept.drop hkq gg.ok) _) (hown1.alloc _) (Nat.le_refl _) hgrow9
        go_wp2
        refine NoPanic.normal ?_
        go_wp2
        go_roundw
        case rel => exact ⟨k + 1, by omega, by go_num, by rw [HP.out, List.flatMap_append, List.length_append]; exact hown9, hK9⟩
        case measure => simp [intOf]; omega
    · obtain rfl : xs.length = k := by omega
      go_wp2
      obtain ⟨a', c', rfl, hr, h1, h2⟩ := owns_slc (enc := Put.cells) (k := 2) (fun _ => rfl) (chosenTo_len xs bs xs.length) hown
      go_ret
      exact ⟨a', c', rfl, hr, h1, h2, by (exact kpt)⟩

end Go.Proofs.Ytlloijkmpmfapaa

/-
  The outright statements of chapter 4: contracts with their results told.
-/
namespace Go.Proofs.Ytlloijkmpmfapaa
open Go.RowKit Bal Bal.Trim
set_option linter.unusedVariables false
set_option linter.unusedSimpArgs false
set_option maxHeartbeats 4000000
set_option maxRecDepth 10000

theorem o_breach (a : Option Addr) (cap : Nat) (xs : List Load) (w : World) (hx : Row Load.cells 4 w.heap.size w a xs) (hc : xs.length ≤ cap) (hM : cap ≤ maxLen) (b : Option Addr) (cb : Nat) (ms : List Limit) (hy : Row Limit.cells 3 w.heap.size w b ms) (hd : ms.length ≤ cb) (hN : cb ≤ maxLen) (n : Nat) (N E : Int) (P : List Put) (h1 : breachN xs ms = N) (h2 : breachE xs ms = E) (h3 : breachP xs ms = P) (h4 : P.length = n) :
    Calls Try.prog 25 #[.slice a xs.length cap, .slice b ms.length cb] w fun e w' => ∃ aB cB, e = .returned (.tuple #[.agg #[.int .i64 N, .slice aB n cB], .int .i64 E]) ∧ Row Put.cells 2 w'.heap.size w' aB P ∧ n ≤ cB ∧ cB ≤ maxLen ∧ Kept w w' := by
  subst h1 h2 h3 h4
  refine (f_Breach a cap xs b cb ms w hx hc hM hy hd hN).mono ?_
  rintro e w' ⟨v, rfl, ho, hk⟩
  obtain ⟨a', c', rfl, hr, k1, k2⟩ := owns_row (enc := Put.cells) (k := 2) (fun _ => rfl) ho
  exact ⟨a', c', rfl, hr, k1, k2, hk⟩
theorem o_checkBreach (a : Option Addr) (cap : Nat) (xs : List Load) (w : World) (hx : Row Load.cells 4 w.heap.size w a xs) (hc : xs.length ≤ cap) (hM : cap ≤ maxLen) (b : Option Addr) (cb : Nat) (ms : List Limit) (hy : Row Limit.cells 3 w.heap.size w b ms) (hd : ms.length ≤ cb) (hN : cb ≤ maxLen) (N E : Int) (ab : Option Addr) (n cp : Nat) (ps : List Put) (hn : ps.length = n) (hp : Row Put.cells 2 w.heap.size w ab ps) (hpc : n ≤ cp) (hpM : cp ≤ maxLen) (h1 : proofE xs ms N ps = E) :
    Calls Try.prog 28 #[.slice a xs.length cap, .slice b ms.length cb, .agg #[.int .i64 N, .slice ab n cp]] w fun e w' => e = .returned (.int .i64 E) ∧ Kept w w' := by
  subst hn h1
  exact f_CheckBreach a cap xs b cb ms w hx hc hM hy hd hN N ab cp ps hp hpc hpM
theorem o_worst (m : Limit) (a : Option Addr) (cap : Nat) (xs : List Load) (w : World) (hx : Row Load.cells 4 w.heap.size w a xs) (hc : xs.length ≤ cap) (hM : cap ≤ maxLen) (n : Nat) (V E : Int) (P : List Put) (h1 : ifOk (worstE m xs) (worstV m xs) = V) (h2 : worstE m xs = E) (h3 : worstP m xs = P) (h4 : P.length = n) :
    Calls Try.prog 33 #[.slice a xs.length cap, .agg #[.int .i64 m.a, .int .i64 m.b, .int .i64 m.c]] w fun e w' => ∃ aB cB, e = .returned (.tuple #[.int .i64 V, .slice aB n cB, .int .i64 E]) ∧ Row Put.cells 2 w'.heap.size w' aB P ∧ n ≤ cB ∧ cB ≤ maxLen ∧ Kept w w' := by
  subst h1 h2 h3 h4
  refine (f_Worst m a cap xs w hx hc hM).mono ?_
  rintro e w' ⟨v, rfl, ho, hk⟩
  obtain ⟨a', c', rfl, hr, k1, k2⟩ := owns_row (enc := Put.cells) (k := 2) (fun _ => rfl) ho
  exact ⟨a', c', rfl, hr, k1, k2, hk⟩
theorem o_strained (a : Option Addr) (cap : Nat) (xs : List Load) (w : World) (hx : Row Load.cells 4 w.heap.size w a xs) (hc : xs.length ≤ cap) (hM : cap ≤ maxLen) (b : Option Addr) (cb : Nat) (fs : List Frm) (hy : Row Frm.cells 3 w.heap.size w b fs) (hd : fs.length ≤ cb) (hN : cb ≤ maxLen) (n : Nat) (E : Int) (P : List Int) (h2 : strE xs fs = E) (h3 : strP xs fs = P) (h4 : P.length = n) :
    Calls Try.prog 39 #[.slice a xs.length cap, .slice b fs.length cb] w fun e w' => ∃ aB cB, e = .returned (.tuple #[.slice aB n cB, .int .i64 E]) ∧ Row icell 1 w'.heap.size w' aB P ∧ n ≤ cB ∧ cB ≤ maxLen ∧ Kept w w' := by
  subst h2 h3 h4
  refine (f_Strained a cap xs w hx hc hM b cb fs hy hd hN).mono ?_
  rintro e w' ⟨v, rfl, ho, hk⟩
  obtain ⟨a', c', rfl, hr, k1, k2⟩ := owns_row (enc := icell) (k := 1) (fun _ => rfl) ho
  exact ⟨a', c', rfl, hr, k1, k2, hk⟩
theorem o_balance (a : Option Addr) (cap : Nat) (xs : List Load) (w : World) (hx : Row Load.cells 4 w.heap.size w a xs) (hc : xs.length ≤ cap) (hM : cap ≤ maxLen) (h : checkLoads xs = 0) (l1 l2 m1 m2 : Int) (e1 : sumBy wLo xs = l1) (e2 : sumBy wHi xs = l2) (e3 : sumBy mLo xs = m1) (e4 : sumBy mHi xs = m2) :
    Calls Try.prog 31 #[.slice a xs.length cap] w fun e w' => e = .returned (.tuple #[.agg #[.int .i64 l1, .int .i64 l2], .agg #[.int .i64 m1, .int .i64 m2], .int .i64 0]) ∧ Kept w w' := by
  have := f_Balance a cap xs w hx hc hM
  rw [h] at this
  subst e1 e2 e3 e4
  exact this
theorem o_shear (n : Int) (a : Option Addr) (cap : Nat) (xs : List Load) (w : World) (hx : Row Load.cells 4 w.heap.size w a xs) (hc : xs.length ≤ cap) (hM : cap ≤ maxLen) (l1 l2 E : Int) (h : strainE xs n = E) (e1 : ifOk E (sumBy (sLo n) xs) = l1) (e2 : ifOk E (sumBy (sHi n) xs) = l2) :
    Calls Try.prog 35 #[.slice a xs.length cap, .int .i64 n] w fun e w' => e = .returned (.tuple #[.agg #[.int .i64 l1, .int .i64 l2], .int .i64 E]) ∧ Kept w w' := by
  have := f_Shear n a cap xs w hx hc hM
  rw [h] at this
  subst e1 e2
  exact this
theorem o_bend (n : Int) (a : Option Addr) (cap : Nat) (xs : List Load) (w : World) (hx : Row Load.cells 4 w.heap.size w a xs) (hc : xs.length ≤ cap) (hM : cap ≤ maxLen) (l1 l2 E : Int) (h : strainE xs n = E) (e1 : ifOk E (sumBy (bLo n) xs) = l1) (e2 : ifOk E (sumBy (bHi n) xs) = l2) :
    Calls Try.prog 37 #[.slice a xs.length cap, .int .i64 n] w fun e w' => e = .returned (.tuple #[.agg #[.int .i64 l1, .int .i64 l2], .int .i64 E]) ∧ Kept w w' := by
  have := f_Bend n a cap xs w hx hc hM
  rw [h] at this
  subst e1 e2
  exact this
theorem o_sumsN (a : Option Addr) (n cap : Nat) (ps : List Put) (w : World) (hl : ps.length = n) (hx : Row Put.cells 2 w.heap.size w a ps) (hn : n ≤ 40) (hp : ∀ p ∈ ps, putB p) (H M : Int) (h1 : wtS ps = H) (h2 : moS ps = M) :
    Calls Try.prog 53 #[.slice a n cap] w fun e w' => e = .returned (.tuple #[.int .i64 H, .int .i64 M]) ∧ Kept w w' := by
  subst hl h1 h2
  exact o_sums a cap ps w hx hn hp
theorem o_validN (a : Option Addr) (cap : Nat) (xs : List Load) (w : World) (hx : Row Load.cells 4 w.heap.size w a xs) (hc : xs.length ≤ cap) (hM : cap ≤ maxLen) (b : Option Addr) (cb : Nat) (ms : List Limit) (hy : Row Limit.cells 3 w.heap.size w b ms) (hd : ms.length ≤ cb) (hN : cb ≤ maxLen) (V : Bool) (h : validB xs ms = V) :
    Calls Try.prog 49 #[.slice a xs.length cap, .slice b ms.length cb] w fun e w' => e = .returned (.bool V) ∧ Kept w w' := by
  subst h
  exact o_valid a cap xs b cb ms w hx hc hM hy hd hN
theorem o_validZ (a : Option Addr) (cap : Nat) (xs : List Load) (w : World) (hx : Row Load.cells 4 w.heap.size w a xs) (hc : xs.length ≤ cap) (hM : cap ≤ maxLen) (V : Bool) (h : validB xs [] = V) :
    Calls Try.prog 49 #[.slice a xs.length cap, .slice none 0 0] w fun e w' => e = .returned (.bool V) ∧ Kept w w' :=
  o_validN a cap xs w hx hc hM none 0 [] Row.nil (Nat.le_refl _) (Nat.zero_le _) V h
theorem chk_err {α : Type} {valid : α → Bool} {most : Nat} {err : Int} {xs : List α} : checkList valid most err xs = 0 ∨ checkList valid most err xs = 4 ∨ checkList valid most err xs = err := by
  unfold checkList
  split
  · exact .inr (.inl rfl)
  · split
    · exact .inl rfl
    · exact .inr (.inr rfl)
theorem both_err {xs : List Load} {ms : List Limit} (h : both xs ms ≠ 0) : both xs ms = 4 ∨ both xs ms = 40 ∨ both xs ms = 41 := by
  have h1 : checkLoads xs = 0 ∨ checkLoads xs = 4 ∨ checkLoads xs = 40 := chk_err
  have h2 : checkLimits ms = 0 ∨ checkLimits ms = 4 ∨ checkLimits ms = 41 := chk_err
  unfold both at *
  split at h <;> rename_i h3
  · rw [if_pos h3]; omega
  · rw [if_neg h3]; omega
theorem valid_not {xs : List Load} {ms : List Limit} (h : validB xs ms = false) (hg : great xs.length ms.length 0 0 = false) : both xs ms ≠ 0 := by
  intro hb
  obtain ⟨h1, h2⟩ := both_ok hb
  unfold validB at h
  rw [hg, h1, h2] at h
  cases h

end Go.Proofs.Ytlloijkmpmfapaa

/-
  TrimDrops: the bags to drop are the same in the program and in the reference: for every input.
-/
namespace Go.Proofs.Ytlloijkmpmfapaa
open Go.RowKit Bal Bal.Trim
set_option linter.unusedVariables false
set_option linter.unusedSimpArgs false
set_option maxHeartbeats 4000000
set_option maxRecDepth 10000

theorem owns_none {w : World} {base k n m c : Nat} {e : TypeId} {a : Option Addr} {xs : List Value} (h : w.ownsRow base e k (.slice a n c) m xs) : a = none → c = 0 := by
  rintro rfl
  obtain ⟨_, ⟨hv, _⟩ | ⟨g, cap, cur, hv, _⟩⟩ := h
  · cases hv; rfl
  · cases hv
theorem wpList_copyZ {α : Type} {enc : α → List Value} {P : Program} {w0 w : World} {ops : Array Oper} {rest : List Oper} {o : Oper} {a : Act} {Q : Exit → Act → World → Prop} (hgd : o.guard = none) (s x : Operand) (t : TypeId)
    (ho : o.op = .call { callee := .builtin .append, args := #[s, x], argTypes := #[t, t] })
    (base : Nat) (e : TypeId) (z : Value) (size bytes : Nat) (ht : P.underlying t = some (.slice e)) (hinfo : (P.info? e).map (fun i => (i.zero, i.size, i.bytes)) = some (some z, size, bytes))
    (hzs : z.cells.size = size) (hsz : 0 < size) (he : ∀ x : α, (enc x).length = size) (h1 : ∀ (x : α), ∀ u ∈ enc x, u.oneCell' = true)
    (n : Nat) (hn : n = w.heap.size) (hs : a.eval s = .slice (some ⟨n, 0, none⟩) 0 0)
    (ad : Option Addr) (c : Nat) (ys : List α) (hx : a.eval x = .slice ad ys.length c) (hc : ad = none → c = 0) (hrow : Row enc size w0.heap.size w0 ad ys) (hk : Kept w0 w) (hbase : base = w0.heap.size)
    (h63 : ys.length ≤ 1000000) (hbytes : bytes ≤ 100000)
    (h : ∀ ad' cp w', Row enc size w'.heap.size w' ad' ys → ys.length ≤ cp → cp ≤ maxLen → Kept w0 w' → Kept w w' → (ad' = none → cp = 0) → wpList P ops Q rest (a.put o.dst (.slice ad' ys.length cp)) w') :
    wpList P ops Q (o :: rest) a (w.alloc (.cells #[] e)) := by
  subst hbase
  obtain ⟨i, hi, hz, hsize, hby⟩ := info_parts hinfo
  have hsz0 := hk.size
  have hown0 : (w.alloc (.cells #[] e)).ownsRow w0.heap.size e size (.slice (some ⟨n, 0, none⟩) 0 0) ([] : List α).length (([] : List α).flatMap enc) := owns_made hn hsz0
  have hm : ys.length * bytes ≤ 1000000 * 100000 := Nat.mul_le_mul h63 hbytes
  refine wpList_append_list hgd s x t ho w0.heap.size e i z size bytes ht hi hz hsize hby hzs hsz he h1 _ [] hs hown0 ad c ys hx hc (hrow.keep (Kept.alloc hk _) (Nat.le_refl _)) (by simp [maxLen]; omega) (by simp; omega) (by show w0.heap.size ≤ (w.heap.push _).size; simp; omega) ?_
  intro v' w' hown hgrow
  have hk' : Kept w0 w' := Kept.grown (Kept.alloc hk _) hown0 (Nat.le_refl _) hgrow
  have hk2 : Kept w w' := by
    have hown1 : (w.alloc (.cells #[] e)).ownsRow w.heap.size e size (.slice (some ⟨n, 0, none⟩) 0 0) ([] : List α).length (([] : List α).flatMap enc) := owns_made hn (Nat.le_refl _)
    exact Kept.grown (Kept.alloc (Below.refl _ _) _) hown1 (Nat.le_refl _) hgrow
  rw [List.nil_append] at hown
  obtain ⟨ad', cp', rfl, hrow', h5, h6⟩ := Row.of_owns he hown
  exact h ad' cp' w' hrow' h5 h6 hk' hk2 (owns_none hown)
theorem infoPut : (Try.prog.info? 85).map (fun i => (i.zero, i.size, i.bytes)) = some (some (.agg #[.int .i64 0, .int .i64 0]), 2, 16) := by kernel_rfl

end Go.Proofs.Ytlloijkmpmfapaa

/-
  An argument that is a struct of numbers, opened. No program in sight.
-/
namespace Bal
open Go Go.RowKit Go.WideShapes
section
variable {H : Type} {enc : TypeId × Value → H} {P : Program} {w : World} {base : Nat} {spare : Nat → Bool} {held : Bool}
theorem open_agg {α : Type} {enc' : α → List Value} {wf : α → Prop} {ls : List Leaf} (hdec : ∀ cs, LeavesOk ls cs → ∃ x : α, cs = enc' x ∧ wf x) {t : TypeId} {fs : Array Field} {n : Nat} {v : Value} {d : DataW H} {ps : List MemPlace} {r : Reach} {b0 : Nat}
    (ht : P.underlying t = some (.struct fs)) (hls : leaves P n t = some ls) (hval : Value.okWide P w r b0 t v) (hd : DataW.Trod enc P w base spare held t v d ps) :
    ∃ x : α, v = .agg (enc' x).toArray ∧ wf x := by
  obtain ⟨cs, rfl, _⟩ := okWide_struct ht hval
  obtain ⟨fuel, hf⟩ := hd
  obtain ⟨x, e, hw⟩ := hdec _ (leaves_ok n _ _ _ _ _ hls hf)
  refine ⟨x, ?_, hw⟩
  rw [← e]
  simp [Value.cells]
end
end Bal

/-
  The words of a string that is known sign by sign: for the facts on how a program was made. No program in sight.
-/
namespace Bal
open Go
theorem words_cons : ∀ (w r : List Char), w.all (fun c => c != Char.ofNat 32) = true → wordsSigns (w ++ Char.ofNat 32 :: r) = w :: wordsSigns r
  | [], r, _ => by simp [wordsSigns]
  | c :: w, r, h => by
    simp only [List.all_cons, Bool.and_eq_true, bne_iff_ne, ne_eq] at h
    obtain ⟨h1, h2⟩ := h
    have ih := words_cons w r h2
    rw [List.cons_append]
    simp [wordsSigns, ih]
theorem words_last : ∀ (w : List Char), w.all (fun c => c != Char.ofNat 32) = true → wordsSigns w = [w]
  | [], _ => by simp [wordsSigns]
  | c :: w, h => by
    simp only [List.all_cons, Bool.and_eq_true, bne_iff_ne, ne_eq] at h
    obtain ⟨h1, h2⟩ := h
    simp [wordsSigns, words_last w h2]
/-! A program that was cut, behind a harness. (With the program a variable the kernel never unfolds it.) -/
section
variable {P : Program} {w0 w1 : List Char} {r : List (List Char)}
theorem behind_cut (h : wordsSigns P.initOrder.toList = w0 :: w1 :: [Char.ofNat 99, Char.ofNat 117, Char.ofNat 116] :: r) (h0 : w0 = "harness".toList) (h1 : isSumSigns w1 = true) : behindMainWord (wordsSigns P.initOrder.toList) = [Char.ofNat 99, Char.ofNat 117, Char.ofNat 116] :: r := by
  rw [h]
  have e : (w0 == "harness".toList) = true := by rw [h0]; simp
  simp only [behindMainWord, e, h1, Bool.true_or, Bool.and_self, if_true]
theorem make_cut (h : wordsSigns P.initOrder.toList = w0 :: w1 :: [Char.ofNat 99, Char.ofNat 117, Char.ofNat 116] :: r) (h0 : w0 = "harness".toList) (h1 : isSumSigns w1 = true) : P.make = some .cut := by
  unfold Program.make
  rw [behind_cut h h0 h1]
  rfl
theorem lifts_cut (h : wordsSigns P.initOrder.toList = w0 :: w1 :: [Char.ofNat 99, Char.ofNat 117, Char.ofNat 116] :: r) (h0 : w0 = "harness".toList) (h1 : isSumSigns w1 = true) : P.liftsFinal = false := by
  unfold Program.liftsFinal Program.headLifts
  rw [behind_cut h h0 h1]
  rfl
theorem enter_cut (h : wordsSigns P.initOrder.toList = w0 :: w1 :: [Char.ofNat 99, Char.ofNat 117, Char.ofNat 116] :: r) (h0 : w0 = "harness".toList) (h1 : isSumSigns w1 = true) (l : P.laysLater = false) (b : P.bearsReflect = false) (d : P.doorFits [] = true) : P.mayEnter = true := by
  unfold Program.mayEnter
  rw [behind_cut h h0 h1]
  have e : stripLifts liftWords ([Char.ofNat 99, Char.ofNat 117, Char.ofNat 116] :: r) = ([], [Char.ofNat 99, Char.ofNat 117, Char.ofNat 116] :: r) := rfl
  simp only [e, l, b, d]
  rfl
end
end Bal

/-
  How the program was made: its words, and what follows for every row of the seat.
-/
namespace Go.Proofs.Ytlloijkmpmfapaa
open Bal
set_option maxRecDepth 100000
def initW0 : List Char := List.map Char.ofNat [104, 97, 114, 110, 101, 115, 115]
def initW1 : List Char := List.map Char.ofNat [100, 102, 50, 53, 55, 101, 50, 53, 100, 49, 51, 49, 56, 54, 52, 102, 55, 100, 57, 54, 55, 52, 57, 57, 54, 57, 100, 102, 57, 55, 97, 98, 57, 51, 54, 53, 102, 53, 56, 98, 101, 54, 55, 101, 100, 48, 51, 53, 50, 101, 48, 49, 101, 54, 54, 97, 99, 102, 98, 50, 52, 56, 49, 53]
def initW2 : List Char := List.map Char.ofNat [99, 117, 116]
def initW3 : List Char := List.map Char.ofNat [97, 116]
def initW4 : List Char := List.map Char.ofNat [98, 97, 108, 108, 111, 110, 101, 116, 47, 98, 97, 108, 108, 111, 110, 101, 116, 108, 97, 119, 48, 52, 46, 84, 114, 105, 109, 67, 104, 101, 99, 107, 115]
def initW5 : List Char := List.map Char.ofNat [98, 97, 108, 108, 111, 110, 101, 116, 47, 98, 97, 108, 108, 111, 110, 101, 116, 108, 97, 119, 48, 52, 46, 84, 114, 105, 109, 66, 114, 101, 97, 99, 104, 101, 115]
def initW6 : List Char := List.map Char.ofNat [98, 97, 108, 108, 111, 110, 101, 116, 47, 98, 97, 108, 108, 111, 110, 101, 116, 108, 97, 119, 48, 52, 46, 84, 114, 105, 109, 66, 97, 108, 97, 110, 99, 101, 115]
def initW7 : List Char := List.map Char.ofNat [98, 97, 108, 108, 111, 110, 101, 116, 47, 98, 97, 108, 108, 111, 110, 101, 116, 108, 97, 119, 48, 52, 46, 84, 114, 105, 109, 83, 116, 114, 97, 105, 110, 115]
def initW8 : List Char := List.map Char.ofNat [98, 97, 108, 108, 111, 110, 101, 116, 47, 98, 97, 108, 108, 111, 110, 101, 116, 108, 97, 119, 48, 52, 46, 84, 114, 105, 109, 68, 114, 111, 112, 115]
def initW9 : List Char := List.map Char.ofNat [98, 97, 108, 108, 111, 110, 101, 116, 47, 98, 97, 108, 108, 111, 110, 101, 116, 108, 97, 119, 48, 52, 46, 84, 114, 105, 109, 83, 116, 111, 119, 115]
def initW10 : List Char := List.map Char.ofNat [98, 97, 108, 108, 111, 110, 101, 116, 47, 98, 97, 108, 108, 111, 110, 101, 116, 108, 97, 119, 48, 52, 46, 84, 114, 105, 109, 68, 114, 111, 112, 112, 101, 100]
def initW11 : List Char := List.map Char.ofNat [98, 97, 108, 108, 111, 110, 101, 116, 47, 98, 97, 108, 108, 111, 110, 101, 116, 108, 97, 119, 48, 52, 46, 84, 114, 105, 109, 69, 110, 100, 115]
def initW12 : List Char := List.map Char.ofNat [98, 97, 108, 108, 111, 110, 101, 116, 47, 98, 97, 108, 108, 111, 110, 101, 116, 108, 97, 119, 48, 52, 46, 84, 114, 105, 109, 82, 101, 97, 99, 104, 101, 100]
def initW13 : List Char := List.map Char.ofNat [98, 97, 108, 108, 111, 110, 101, 116, 47, 98, 97, 108, 108, 111, 110, 101, 116, 108, 97, 119, 48, 52, 46, 84, 114, 105, 109, 87, 111, 114, 115, 116]
def initW14 : List Char := List.map Char.ofNat [98, 97, 108, 108, 111, 110, 101, 116, 47, 98, 97, 108, 108, 111, 110, 101, 116, 108, 97, 119, 48, 52, 46, 84, 114, 105, 109, 75, 101, 112, 116]
def initW15 : List Char := List.map Char.ofNat [98, 97, 108, 108, 111, 110, 101, 116, 47, 98, 97, 108, 108, 111, 110, 101, 116, 108, 97, 119, 48, 52, 46, 84, 114, 105, 109, 66, 101, 116, 116, 101, 114]
def initW16 : List Char := List.map Char.ofNat [98, 97, 108, 108, 111, 110, 101, 116, 47, 98, 97, 108, 108, 111, 110, 101, 116, 108, 97, 119, 48, 52, 46, 84, 114, 105, 109, 70, 97, 114]
def initW17 : List Char := List.map Char.ofNat [98, 97, 108, 108, 111, 110, 101, 116, 47, 98, 97, 108, 108, 111, 110, 101, 116, 108, 97, 119, 48, 52, 46, 84, 114, 105, 109, 83, 116, 111, 119, 101, 100]
def initW18 : List Char := List.map Char.ofNat [98, 97, 108, 108, 111, 110, 101, 116, 47, 98, 97, 108, 108, 111, 110, 101, 116, 108, 97, 119, 48, 52, 46, 84, 114, 105, 109, 69, 120, 97, 109, 112, 108, 101, 115]
def initL : List Char := initW0 ++ Char.ofNat 32 :: (initW1 ++ Char.ofNat 32 :: (initW2 ++ Char.ofNat 32 :: (initW3 ++ Char.ofNat 32 :: (initW4 ++ Char.ofNat 32 :: (initW5 ++ Char.ofNat 32 :: (initW6 ++ Char.ofNat 32 :: (initW7 ++ Char.ofNat 32 :: (initW8 ++ Char.ofNat 32 :: (initW9 ++ Char.ofNat 32 :: (initW10 ++ Char.ofNat 32 :: (initW11 ++ Char.ofNat 32 :: (initW12 ++ Char.ofNat 32 :: (initW13 ++ Char.ofNat 32 :: (initW14 ++ Char.ofNat 32 :: (initW15 ++ Char.ofNat 32 :: (initW16 ++ Char.ofNat 32 :: (initW17 ++ Char.ofNat 32 :: initW18)))))))))))))))))
theorem init_is : Try.prog.initOrder = String.ofList initL := by kernel_rfl
theorem init_words : wordsSigns Try.prog.initOrder.toList = [initW0, initW1, initW2, initW3, initW4, initW5, initW6, initW7, initW8, initW9, initW10, initW11, initW12, initW13, initW14, initW15, initW16, initW17, initW18] := by
  rw [init_is, String.toList_ofList]
  unfold initL
  rw [words_cons _ _ (by decide), words_cons _ _ (by decide), words_cons _ _ (by decide), words_cons _ _ (by decide), words_cons _ _ (by decide), words_cons _ _ (by decide), words_cons _ _ (by decide), words_cons _ _ (by decide), words_cons _ _ (by decide), words_cons _ _ (by decide), words_cons _ _ (by decide), words_cons _ _ (by decide), words_cons _ _ (by decide), words_cons _ _ (by decide), words_cons _ _ (by decide), words_cons _ _ (by decide), words_cons _ _ (by decide), words_cons _ _ (by decide), words_last _ (by decide)]
theorem init_cut : wordsSigns Try.prog.initOrder.toList = initW0 :: initW1 :: [Char.ofNat 99, Char.ofNat 117, Char.ofNat 116] :: [initW3, initW4, initW5, initW6, initW7, initW8, initW9, initW10, initW11, initW12, initW13, initW14, initW15, initW16, initW17, initW18] := init_words
theorem init_sum : isSumSigns initW1 = true := by decide
theorem make_is : Try.prog.make = some .cut := make_cut init_cut rfl init_sum
theorem liftsFinal_is : Try.prog.liftsFinal = false := lifts_cut init_cut rfl init_sum
theorem mayEnter_is : Try.prog.mayEnter = true := enter_cut init_cut rfl init_sum (by kernel_rfl) (by kernel_rfl) (by kernel_rfl)
end Go.Proofs.Ytlloijkmpmfapaa

/-
  The contracts of chapter 4 that the outright statements lean on:
  o_alive o_one o_loads o_holds o_parcels o_inside o_chosen o_sums o_sumsN o_valid o_validN o_validZ o_breach o_checkBreach o_worst o_strained o_balance o_shear o_bend a_balance a_breach a_shear a_drop a_stow a_stow1 a_puts2 a_ints1 a_ints3
  f_Stow f_CheckStow f_Drop f_Strained f_Worst f_Breach f_CheckBreach f_Balance f_Shear f_Bend f_CheckLoads f_CheckLimits f_CheckFrames r_CheckLoads r_CheckLimits r_CheckFrames r_great r_SamePuts r_SameInts f_exact
  mayEnter_is liftsFinal_is make_is open_typed open_agg of_leaves int_of_leaves u16_of_leaves wf_u16 wf_u8 wf_i64 Load Limit Frm Put Hold Parcel Rule row Row owns_row owns_slc owns_cap owns_slice owns_none wpList_copyZ wpList_copy
  infoLoad infoPut infoPut2 infoI infoI2 cell_one_at cell_two_at cells_four ucell_row int_row later_mix held_walk fork_walk tail region at_world at_worldQ blk blkc kpt own thru later take sub block one
  both_is both_err validB_ok valid_not chk_err choice_picks chosen_picks picks_B picks_value kept_law ends_law breach_proof brk_one broken_some broken_none broken_before broken_never t_le prod_t lin_t best_v no_worse pick_at chosenTo_succ
  stow_search search_eq lex_mem good_nil frE_ok argS_ok argS_nat puts_both order_sorted mem_order first_is_best drop_found drop_none strainedTo_succ str_snoc str_same strain worst_bd strainE wtS_all moS_all mo_bd row_ints ncells_at ncells_set run_makeI
-/
namespace Go.Proofs.Ytlloijkmpmfapaa
open Go.RowKit Bal Bal.Trim
end Go.Proofs.Ytlloijkmpmfapaa
