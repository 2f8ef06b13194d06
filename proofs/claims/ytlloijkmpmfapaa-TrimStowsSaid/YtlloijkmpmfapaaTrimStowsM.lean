/-
  TrimStows, the statement: for every input the call returns true and leaves the input alone.
-/
import Derived.Laws.EntriesVeiled
import Derived.Deep.DeepCutAuto
import Derived.JoinedOf
import Derived.Test.YtlloijkmpmfapaaProg
import Derived.Test.YtlloijkmpmfapaaRows
import Derived.WalkKit
import Derived.WalkSpells
import Derived.WalkLawsBesides
import Derived.Lib.Hide
import Derived.ProofKit
import Derived.OpenShut
import Derived.ChangeOld
import Derived.Below
import Derived.Deep.Slices
import Derived.Deep.Fields
import Derived.Deep.Quiet
import Derived.Laws.AppendOwn
import Derived.Laws.AppendOwnNone
import Derived.Deep.QuietTactic
import Derived.BigQuiet
import Derived.StillTail
import Derived.WalkSmall
import Derived.OwnWalk
import Derived.Deep.RegionHeld3
import Derived.RangeFuncNested
import Derived.RangeFuncCalls
import Derived.RangeFuncLeaves
import Derived.RangeFuncBound
import Derived.Shelf.Abstract
import Derived.Shelf.RegionOpen
import Derived.OwnWalkIn
import Derived.TacticsInMore
import Derived.LoopNIn
import Derived.LoopIn
import Derived.Sort.QuietTacIn
import Derived.Scope
import Derived.ControlIn
import Derived.Laws.CopyOwn
import Derived.OrdersHeld
import Derived.Test.YtlloijkmpmfapaaTrimStowsMA
import Derived.Test.YtlloijkmpmfapaaTrimStowsMB
set_option linter.unusedVariables false
set_option linter.unusedSimpArgs false
/-
  Stowages: the search, and Stow, in the program.
-/
namespace Go.Proofs.Ytlloijkmpmfapaa
open Go.RowKit Bal Bal.Trim
set_option linter.unusedVariables false
set_option linter.unusedSimpArgs false
set_option maxHeartbeats 4000000
set_option maxRecDepth 10000

theorem owns_cap {w : World} {base k n m c : Nat} {e : TypeId} {a : Option Addr} {xs : List Value} (h : w.ownsRow base e k (.slice a n c) m xs) : a = none → c = 0 := by
  rintro rfl
  obtain ⟨_, ⟨hv, _⟩ | ⟨g, cap, cur, hv, _⟩⟩ := h
  · cases hv; rfl
  · cases hv
theorem owns_slice {w : World} {base k m : Nat} {e : TypeId} {v : Value} {xs : List Value} (h : w.ownsRow base e k v m xs) : ∃ ad cp, v = .slice ad m cp ∧ w.ownsRow base e k (.slice ad m cp) m xs := by
  obtain ⟨h0, ⟨rfl, rfl⟩ | ⟨g, cap, cur, rfl, hr⟩⟩ := h
  · exact ⟨none, 0, rfl, h0, .inl ⟨rfl, rfl⟩⟩
  · exact ⟨_, _, rfl, h0, .inr ⟨g, cap, cur, rfl, hr⟩⟩
theorem cell_blk {w : World} {g : Nat} {v : Value} {t : TypeId} (h : Blk w g #[v] t) : ∀ j u, [v][j]? = some u → w.cell? ((⟨g, 0, none⟩ : Addr).add j) = some u := by
  intro j u hj
  have hj0 : j = 0 := by
    have := (List.getElem?_eq_some_iff.1 hj).1
    simp at this; omega
  subst hj0
  simp at hj
  subst hj
  have := h.cell 0
  simpa [Addr.add] using this
theorem ints_snoc (x : List Nat) (k : Nat) : ints (x ++ [k]) = ints x ++ [(k : Int)] := by simp [ints]

theorem f_search (F : Fr) (s : FSpot) (ho : FrOk F) (n2 n3 n4 n5 : Nat) : ∀ (m : Nat) (x : List Nat) (w : World), FrAt F s w → Blk w n2 #[.slice s.ap F.ps.length s.cp] 74 → Blk w n3 #[.slice s.ax F.xs.length s.cx, .slice s.ah F.hs.length s.ch, .slice s.ap F.ps.length s.cp, .slice s.ar F.rs.length s.cr, .slice s.am F.ms.length s.cm] 149 → Blk w n4 #[.slice s.ah F.hs.length s.ch] 73 → Blk w n5 #[.func (.func 100) #[] #[.pointer (some ⟨n2, 0, none⟩), .pointer (some ⟨n3, 0, none⟩), .pointer (some ⟨n4, 0, none⟩), .pointer (some ⟨n5, 0, none⟩)]] 151 →
    ∀ (a : Option Addr) (cap : Nat), Row icell 1 w.heap.size w a (ints x) → x.length ≤ cap → cap ≤ maxLen → (a = none → cap = 0) → x.length + m = F.ps.length → (∀ k ∈ x, k < F.hs.length) →
    Calls Try.prog 100 #[.slice a x.length cap, .agg #[.int .i64 (leftIn F x 0), .int .i64 (leftIn F x 1), .int .i64 (leftIn F x 2), .int .i64 (leftIn F x 3), .int .i64 (leftIn F x 4)], .pointer (some ⟨n2, 0, none⟩), .pointer (some ⟨n3, 0, none⟩), .pointer (some ⟨n4, 0, none⟩), .pointer (some ⟨n5, 0, none⟩)] w fun e w' => (∃ (a' : Option Addr) (n' c' : Nat), e = .returned (.tuple #[.slice a' n' c', .bool (search F m x).isSome]) ∧ ∀ y, search F m x = some y → n' = y.length ∧ Row icell 1 w'.heap.size w' a' (ints y) ∧ y.length ≤ c' ∧ c' ≤ maxLen) ∧ Kept w w' := by
  intro m
  induction m with
  | zero =>
    intro x w hh h2 h3 h4 h5 a cap hx hc hM hz hl hs
    have HL := Lib.hid (show x.length = F.ps.length by omega)
    have hpn := ho.pn
    have hxl : x.length ≤ 6 := by omega
    have l1 : ((x.length : Int) == (F.ps.length : Int)) = true := by simp; omega
    have l3 : ((x.length : Int) = (F.ps.length : Int)) = True := by simp; omega
    obtain ⟨OB, hOB⟩ : ∃ OB, OB = offB F x := ⟨_, rfl⟩
    have HOB := Lib.hid hOB
    have HSE := Lib.hid (show search F 0 x = if OB then none else some x by rw [hOB]; exact search_done)
    clear hOB hl
    go_enter Try.func100, Try.ntmps100
    go_upto_region 1 with fail
    refine at_world (S := fun W => Kept w W) (by (exact kpt)) ?_
    intro W hW
    have c2 := (h2.keep hW).cell 0; have c2f := (h2.keep hW).free 0; have c2l := (h2.keep hW).lt
    have c4 := (h4.keep hW).cell 0; have c4f := (h4.keep hW).free 0; have c4l := (h4.keep hW).lt
    have c5 := (h5.keep hW).cell 0; have c5f := (h5.keep hW).free 0; have c5l := (h5.keep hW).lt
    have c30 := (h3.keep hW).cell 0; have c3f0 := (h3.keep hW).free 0; have c31 := (h3.keep hW).cell 1; have c3f1 := (h3.keep hW).free 1; have c32 := (h3.keep hW).cell 2; have c3f2 := (h3.keep hW).free 2; have c33 := (h3.keep hW).cell 3; have c3f3 := (h3.keep hW).free 3; have c34 := (h3.keep hW).cell 4; have c3f4 := (h3.keep hW).free 4; have c3l := (h3.keep hW).lt
    simp at c2 c4 c5 c30 c31 c32 c33 c34
    refine wp_scope_straight ?_
    go_wp2_with (go_at_call 101; (with_reducible refine (f_off F s _ (hh.later (by (exact kpt))) ho a cap x (hx.later (by (exact kpt)) (Nat.le_refl _)) hc hM (by have := HL.out; omega) hs).mono ?_); rw [← HOB.out]; rintro e w6 ⟨rfl, hb6⟩)
    simp only [Exit.noGoto]
    refine bodyPost_ret (v := .tuple #[.slice a x.length cap, .bool (!OB)]) (by simp [results, Try.results100, go_sem]) rfl ⟨⟨a, x.length, cap, ?_, ?_⟩, by (exact kpt)⟩
    · rw [HSE.out]
      cases OB <;> rfl
    · intro y hy
      rw [HSE.out] at hy
      cases OB with
      | true => cases hy
      | false =>
        cases hy
        exact ⟨rfl, hx.later (by (exact kpt)) (Nat.le_refl _), hc, hM⟩
  | succ m ih =>
    intro x w hh h2 h3 h4 h5 a cap hx hc hM hz hl hs
    have hpn := ho.pn
    have hhn := ho.hn
    have hrn := ho.rn
    have hhM := hh.hM
    have hhc := hh.hc
    have hpM := hh.pM
    have hpc := hh.pc
    have hM' := hM
    unfold maxLen at hM' hhM hpM
    have hps := hh.ps
    have hpx : x.length < F.ps.length := by omega
    have hxl : x.length ≤ 6 := by omega
    have HL := Lib.hid hl
    have HS := Lib.hid hs
    have l1 : ((x.length : Int) == (F.ps.length : Int)) = false := by simp; omega
    have l3 : ((x.length : Int) = (F.ps.length : Int)) = False := by simp; omega
    obtain ⟨bp, op, hap, hbp, p0, _⟩ := Parcel.row hps x.length hpx
    rw [← psAt_eq hpx] at p0
    have hb2 := parcel_bd (ho.pB _ (List.getElem_mem hpx))
    rw [← psAt_eq hpx] at hb2
    obtain ⟨P, hP⟩ : ∃ P, P = (psAt F x.length).wt := ⟨_, rfl⟩
    have HP := Lib.hid hP
    rw [← hP] at p0 hb2
    clear hP hl hs
    obtain ⟨O, hO⟩ : ∃ O, O = search F (m + 1) x := ⟨_, rfl⟩
    have HO := Lib.hid hO
    rw [← hO]
    clear hO
    have HAP := Lib.hid hap
    clear hap
    go_enter Try.func100, Try.ntmps100
    go_upto_region 1 with fail
    refine at_world (S := fun W => Blk W w.heap.size #[.int .i64 (leftIn F x 0), .int .i64 (leftIn F x 1), .int .i64 (leftIn F x 2), .int .i64 (leftIn F x 3), .int .i64 (leftIn F x 4)] 152 ∧ Kept w W) ⟨by (exact blk), by (exact kpt)⟩ ?_
    rintro W ⟨r7, hW⟩
    have c2 := (h2.keep hW).cell 0; have c2f := (h2.keep hW).free 0; have c2l := (h2.keep hW).lt
    have c4 := (h4.keep hW).cell 0; have c4f := (h4.keep hW).free 0; have c4l := (h4.keep hW).lt
    have c5 := (h5.keep hW).cell 0; have c5f := (h5.keep hW).free 0; have c5l := (h5.keep hW).lt
    have c30 := (h3.keep hW).cell 0; have c3f0 := (h3.keep hW).free 0; have c31 := (h3.keep hW).cell 1; have c3f1 := (h3.keep hW).free 1; have c32 := (h3.keep hW).cell 2; have c3f2 := (h3.keep hW).free 2; have c33 := (h3.keep hW).cell 3; have c3f3 := (h3.keep hW).free 3; have c34 := (h3.keep hW).cell 4; have c3f4 := (h3.keep hW).free 4; have c3l := (h3.keep hW).lt
    simp at c2 c4 c5 c30 c31 c32 c33 c34
    refine wp_scope_straight ?_
    go_wp2
    refine wp_label ?_
    go_wp2
    go_loopw [30] (fun i wr => ∃ k : Nat, k ≤ F.hs.length ∧ i = .int .i64 k ∧ (∀ j, j < k → stepS F m x j = none) ∧ Blk wr w.heap.size #[.int .i64 (leftIn F x 0), .int .i64 (leftIn F x 1), .int .i64 (leftIn F x 2), .int .i64 (leftIn F x 3), .int .i64 (leftIn F x 4)] 152 ∧ Kept w wr) (fun i _ => F.hs.length - (intOf i).toNat)
    case atStart => exact ⟨0, Nat.zero_le _, rfl, by intro j h; omega, r7, hW⟩
    case round =>
      clear r7 hW c2 c2f c2l c4 c4f c4l c5 c5f c5l c30 c3f0 c31 c3f1 c32 c3f2 c33 c3f3 c34 c3f4 c3l
      obtain ⟨k, hk, rfl, hno', r7, hkk⟩ := hrel
      have HNO := Lib.hid hno'
      clear hno'
      have c2 := (h2.keep hkk).cell 0; have c2f := (h2.keep hkk).free 0; have c2l := (h2.keep hkk).lt
      have c4 := (h4.keep hkk).cell 0; have c4f := (h4.keep hkk).free 0; have c4l := (h4.keep hkk).lt
      have c5 := (h5.keep hkk).cell 0; have c5f := (h5.keep hkk).free 0; have c5l := (h5.keep hkk).lt
      have c30 := (h3.keep hkk).cell 0; have c3f0 := (h3.keep hkk).free 0; have c31 := (h3.keep hkk).cell 1; have c3f1 := (h3.keep hkk).free 1; have c32 := (h3.keep hkk).cell 2; have c3f2 := (h3.keep hkk).free 2; have c33 := (h3.keep hkk).cell 3; have c3f3 := (h3.keep hkk).free 3; have c34 := (h3.keep hkk).cell 4; have c3f4 := (h3.keep hkk).free 4; have c3l := (h3.keep hkk).lt
      simp at c2 c4 c5 c30 c31 c32 c33 c34
      by_cases hlt : k < F.hs.length
      · have hsl := left_same k hpx
        rw [← HP.out] at hsl
        have hset := rv_set (F := F) (s := x) (k := k) (by omega) hpx
        have g7 := rv_cell (F := F) (s := x) (k := k) (by omega)
        rw [← HP.out] at hset
        have hb1 := left_bd ho x k
        obtain ⟨L, hL⟩ : ∃ L, L = leftIn F x k := ⟨_, rfl⟩
        rw [← hL] at hsl hset g7 hb1
        have HSET := Lib.hid hset
        have HSL := Lib.hid hsl
        have HG7 := Lib.hid g7
        have u1 : IntKind.i64.wrap (L - P) = L - P := by rw [IntKind.wrap_i64]; omega
        have u2 : wrap64 (L - P) = L - P := by unfold wrap64; omega
        clear hset hL hsl g7
        have j0 : (0 : Int) ≤ (x.length : Int) := by omega
        have j1 : (x.length : Int) < (F.ps.length : Int) := by omega
        have j2 : (0 : Int) ≤ (k : Int) := by omega
        have j3 : (k : Int) < 5 := by omega
        have r7c0 := r7.cell 0
        have r7f0 := r7.free 0
        have r7c1 := r7.cell 1
        have r7f1 := r7.free 1
        have r7c2 := r7.cell 2
        have r7f2 := r7.free 2
        have r7c3 := r7.cell 3
        have r7f3 := r7.free 3
        have r7c4 := r7.cell 4
        have r7f4 := r7.free 4
        have r7l := r7.lt
        simp at r7c0 r7c1 r7c2 r7c3 r7c4
        go_upto_region 8 with fail
        refine at_world (S := fun V => Blk V wr.heap.size #[.int .i64 (leftIn F x 0), .int .i64 (leftIn F x 1), .int .i64 (leftIn F x 2), .int .i64 (leftIn F x 3), .int .i64 (leftIn F x 4)] 152 ∧ Blk V w.heap.size #[.int .i64 (leftIn F x 0), .int .i64 (leftIn F x 1), .int .i64 (leftIn F x 2), .int .i64 (leftIn F x 3), .int .i64 (leftIn F x 4)] 152 ∧ Kept w V ∧ w.heap.size < wr.heap.size) ⟨by (exact blk), by (exact blk), by (exact kpt), r7.lt⟩ ?_
        rintro V ⟨r8, q7, hV, hnL⟩
        obtain ⟨nL, hnL0⟩ : ∃ nL, nL = wr.heap.size := ⟨_, rfl⟩
        rw [← hnL0] at r8 hnL ⊢
        clear hnL0 r7 r7c0 r7f0 r7c1 r7f1 r7c2 r7f2 r7c3 r7f3 r7c4 r7f4 r7l hkk c2 c2f c2l c4 c4f c4l c5 c5f c5l c30 c3f0 c31 c3f1 c32 c3f2 c33 c3f3 c34 c3f4 c3l
        have g8 := (r8.cell k).trans HG7.out
        have g8f := r8.free k
        have r8l := r8.lt
        have HK8 := Lib.hid (fun v => r8.set k v)
        have c2 := (h2.keep hV).cell 0; have c2f := (h2.keep hV).free 0; have c2l := (h2.keep hV).lt
        have c4 := (h4.keep hV).cell 0; have c4f := (h4.keep hV).free 0; have c4l := (h4.keep hV).lt
        have c5 := (h5.keep hV).cell 0; have c5f := (h5.keep hV).free 0; have c5l := (h5.keep hV).lt
        have c30 := (h3.keep hV).cell 0; have c3f0 := (h3.keep hV).free 0; have c31 := (h3.keep hV).cell 1; have c3f1 := (h3.keep hV).free 1; have c32 := (h3.keep hV).cell 2; have c3f2 := (h3.keep hV).free 2; have c33 := (h3.keep hV).cell 3; have c3f3 := (h3.keep hV).free 3; have c34 := (h3.keep hV).cell 4; have c3f4 := (h3.keep hV).free 4; have c3l := (h3.keep hV).lt
        simp at c2 c4 c5 c30 c31 c32 c33 c34
        have px0 := (hV.cell (p := ⟨bp, op + x.length * 2, none⟩) hbp).trans p0
        have hap := HAP.out
        by_cases hneg : L - P < 0
        · have HNO2 := Lib.hid (show ∀ j, j < k + 1 → stepS F m x j = none from fun j hj => by
            rcases Nat.lt_or_ge j k with h | h
            · exact HNO.out j h
            · obtain rfl : j = k := by omega
              exact step_room (by rw [HSL.out]; exact hneg))
          go_region
          all_goals go_wp2
          all_goals go_roundw
          case rel => exact ⟨k + 1, by omega, by go_num, HNO2.out, by (exact blk), by (exact kpt)⟩
          case measure => simp [intOf]; omega
        · go_region
          all_goals go_wp2
          rw [← hap]
          clear hap px0 c2 c2f c2l c4 c4f c4l c5 c5f c5l c30 c3f0 c31 c3f1 c32 c3f2 c33 c3f3 c34 c3f4 c3l g8 g8f
          refine at_world (S := fun V => Blk V nL #[.int .i64 (leftIn F (x ++ [k]) 0), .int .i64 (leftIn F (x ++ [k]) 1), .int .i64 (leftIn F (x ++ [k]) 2), .int .i64 (leftIn F (x ++ [k]) 3), .int .i64 (leftIn F (x ++ [k]) 4)] 152 ∧ Blk V w.heap.size #[.int .i64 (leftIn F x 0), .int .i64 (leftIn F x 1), .int .i64 (leftIn F x 2), .int .i64 (leftIn F x 3), .int .i64 (leftIn F x 4)] 152 ∧ Kept w V) ⟨by rw [← HSET.out]; exact (HK8.out _).drew, by (exact blk), by (exact kpt)⟩ ?_
          clear r8 q7 hV r8l HK8
          rintro V2 ⟨r8, q7, hV⟩
          go_loopw [50] (fun i2 wq => ∃ i : Nat, i ≤ x.length ∧ i2 = .int .i64 i ∧ (∀ i', i' < i → nearAt F x x.length k i' = false) ∧ Blk wq nL #[.int .i64 (leftIn F (x ++ [k]) 0), .int .i64 (leftIn F (x ++ [k]) 1), .int .i64 (leftIn F (x ++ [k]) 2), .int .i64 (leftIn F (x ++ [k]) 3), .int .i64 (leftIn F (x ++ [k]) 4)] 152 ∧ Blk wq w.heap.size #[.int .i64 (leftIn F x 0), .int .i64 (leftIn F x 1), .int .i64 (leftIn F x 2), .int .i64 (leftIn F x 3), .int .i64 (leftIn F x 4)] 152 ∧ Kept w wq) (fun i2 _ => x.length - (intOf i2).toNat)
          case atStart => exact ⟨0, Nat.zero_le _, rfl, by intro j h; omega, r8, q7, hV⟩
          case round =>
            clear r8 q7 hV
            obtain ⟨i, hi, rfl, hni', r8, q7, hkk⟩ := hrel
            have HNI := Lib.hid hni'
            clear hni'
            by_cases hlt2 : i < x.length
            · obtain ⟨bs, os, hae, hbs, gi⟩ := int_row (hx.later hkk (Nat.le_refl _)) i (by rw [ints_len]; exact hlt2)
              have hki : x[i] < F.hs.length := HS.out _ (List.getElem_mem hlt2)
              have e1 : x.getD i 0 = x[i] := by simp [List.getD_eq_getElem?_getD, hlt2]
              have gi2 : wr.cell? ⟨bs, os + i, none⟩ = some (.int .i64 (x[i] : Int)) := by simpa [ints] using gi
              obtain ⟨V, hV⟩ : ∃ V, V = nearAt F x x.length k i := ⟨_, rfl⟩
              have hV1 : V = nearB F.rs (psAt F i).cls (psAt F x.length).cls (gap (x[i] : Nat) k) := by rw [hV, ← e1]; rfl
              obtain ⟨ti, hti⟩ : ∃ t, t = x[i] := ⟨_, rfl⟩
              rw [← hti] at gi2 hki hV1
              have HN := Lib.hid (fun (W : World) (hW : Kept w W) => (by
                have := f_near F s W (hh.later hW) i x.length ti k (by omega) hpx (by omega) (by omega) (by omega) (by omega) (by omega)
                rwa [← hV1] at this : Calls Try.prog 102 #[.agg #[.slice s.ax F.xs.length s.cx, .slice s.ah F.hs.length s.ch, .slice s.ap F.ps.length s.cp, .slice s.ar F.rs.length s.cr, .slice s.am F.ms.length s.cm], .int .i64 i, .int .i64 x.length, .int .i64 ti, .int .i64 k] W fun e w' => e = .returned (.bool V) ∧ Kept W w'))
              have HNT := Lib.hid (show V = true → ∀ j, j < k + 1 → stepS F m x j = none from fun hv j hj => by
                rcases Nat.lt_or_ge j k with h | h
                · exact HNO.out j h
                · obtain rfl : j = k := by omega
                  exact step_near hlt2 (hV ▸ hv))
              have HNF := Lib.hid (show V = false → ∀ i', i' < i + 1 → nearAt F x x.length k i' = false from fun hv i' hi' => by
                rcases Nat.lt_or_ge i' i with h | h
                · exact HNI.out i' h
                · obtain rfl : i' = i := by omega
                  exact hV ▸ hv)
              clear hti gi hV1 e1 hV
              subst hae
              have j4 : (0 : Int) ≤ (i : Int) := by omega
              have j5 : (i : Int) < (x.length : Int) := by omega
              have c2 := (h2.keep hkk).cell 0; have c2f := (h2.keep hkk).free 0; have c2l := (h2.keep hkk).lt
              have c4 := (h4.keep hkk).cell 0; have c4f := (h4.keep hkk).free 0; have c4l := (h4.keep hkk).lt
              have c5 := (h5.keep hkk).cell 0; have c5f := (h5.keep hkk).free 0; have c5l := (h5.keep hkk).lt
              have c30 := (h3.keep hkk).cell 0; have c3f0 := (h3.keep hkk).free 0; have c31 := (h3.keep hkk).cell 1; have c3f1 := (h3.keep hkk).free 1; have c32 := (h3.keep hkk).cell 2; have c3f2 := (h3.keep hkk).free 2; have c33 := (h3.keep hkk).cell 3; have c3f3 := (h3.keep hkk).free 3; have c34 := (h3.keep hkk).cell 4; have c3f4 := (h3.keep hkk).free 4; have c3l := (h3.keep hkk).lt
              simp at c2 c4 c5 c30 c31 c32 c33 c34
              cases V with
              | true =>
                have HF := Lib.hid (HNT.out rfl)
                go_wp2_with (go_at_call 102; (with_reducible refine (HN.out _ (by (exact kpt))).mono ?_); rintro e w5 ⟨rfl, hb5⟩)
                go_roundw
                case rel => exact ⟨k + 1, by omega, by go_num, HF.out, by (exact blk), by (exact kpt)⟩
                case measure => simp [intOf]; omega
              | false =>
                have HF := Lib.hid (HNF.out rfl)
                go_wp2_with (go_at_call 102; (with_reducible refine (HN.out _ (by (exact kpt))).mono ?_); rintro e w5 ⟨rfl, hb5⟩)
                go_roundw
                case rel => exact ⟨i + 1, by omega, by go_num, HF.out, by (exact blk), by (exact blk), by (exact kpt)⟩
                case measure => simp [intOf]; omega
            · obtain rfl : x.length = i := by omega
              have HFIT := Lib.hid (show stepS F m x k = search F m (x ++ [k]) from step_fit (by rw [HSL.out]; omega) HNI.out)
              obtain ⟨OS, hOS⟩ : ∃ OS, OS = search F m (x ++ [k]) := ⟨_, rfl⟩
              rw [← hOS] at HFIT
              have HIH := Lib.hid (fun (W : World) (ad : Option Addr) (cp : Nat) (hW : Kept w W) (hr : Row icell 1 W.heap.size W ad (ints (x ++ [k]))) (h1 : x.length + 1 ≤ cp) (h6 : cp ≤ maxLen) (h7 : ad = none → cp = 0) => (by
                have := ih (x ++ [k]) W (hh.later hW) (h2.keep hW) (h3.keep hW) (h4.keep hW) (h5.keep hW) ad cp hr (by simpa using h1) h6 h7 (by have := HL.out; simp; omega) (fun j hj => by
                  rcases List.mem_append.1 hj with hj | hj
                  · exact HS.out j hj
                  · simp at hj; omega)
                rw [← hOS, List.length_append, List.length_singleton] at this
                exact this : Calls Try.prog 100 #[.slice ad (x.length + 1) cp, .agg #[.int .i64 (leftIn F (x ++ [k]) 0), .int .i64 (leftIn F (x ++ [k]) 1), .int .i64 (leftIn F (x ++ [k]) 2), .int .i64 (leftIn F (x ++ [k]) 3), .int .i64 (leftIn F (x ++ [k]) 4)], .pointer (some ⟨n2, 0, none⟩), .pointer (some ⟨n3, 0, none⟩), .pointer (some ⟨n4, 0, none⟩), .pointer (some ⟨n5, 0, none⟩)] W fun e w' => (∃ (a' : Option Addr) (n' c' : Nat), e = .returned (.tuple #[.slice a' n' c', .bool (OS).isSome]) ∧ ∀ y, OS = some y → n' = y.length ∧ Row icell 1 w'.heap.size w' a' (ints y) ∧ y.length ≤ c' ∧ c' ≤ maxLen) ∧ Kept W w'))
              have HCLO := Lib.hid (fun (W : World) (hW : Kept w W) => (by
                have := s_CloneI a cap (ints x) W (hx.later hW (Nat.le_refl _)) (by rw [ints_len]; omega) hz
                rwa [ints_len] at this : Calls Try.prog 94 #[.slice a x.length cap] W fun e w' => ∃ v, e = .returned v ∧ w'.ownsRow W.heap.size 3 1 v x.length ((ints x).flatMap icell) ∧ Kept W w'))
              clear hOS
              go_upto_region 15 with fail
              refine fork_walk (fun w' => Kept wr w') (fun u v V => ∃ ad cp g, u = .slice ad x.length cp ∧ v = .slice (some ⟨g, 0, none⟩) 1 1 ∧ V.ownsRow wr.heap.size 3 1 u x.length ((ints x).flatMap icell) ∧ Blk V g #[.int .i64 k] 3) [0, 1, 3, 6] 2 4 [(false, 5), (false, 7), (true, 8), (true, 9), (true, 10), (true, 11), (true, 12)] (by kernel_rfl) (by kernel_rfl) (fun c a d v w h => by cases d <;> exact h) (Below.drew (Below.refl _ _)) ?_
              simp only [List.filterMap_cons, List.filterMap_nil, List.getElem?_cons_zero, List.getElem?_cons_succ, Option.map_some]
              refine taken_take ?_ ?_ (fun w' hS => ?_) ?_; rotate_left 1; (focus rfl); (focus (have hS2 := Kept.drop hkk hS; have y5 := (h5.keep hS2).cell 0; have y8 := r8.keep hS; have y80 := y8.cell 0; have y81 := y8.cell 1; have y82 := y8.cell 2; have y83 := y8.cell 3; have y84 := y8.cell 4; simp at y5 y80 y81 y82 y83 y84; first | (go_simp; done) | (go_simp; with_reducible rfl))); simp only [Act.put, List.setIfInBounds_toArray, List.set_cons_zero, List.set_cons_succ]
              refine taken_take ?_ ?_ (fun w' hS => ?_) ?_; rotate_left 1; (focus rfl); (focus (have hS2 := Kept.drop hkk hS; have y5 := (h5.keep hS2).cell 0; have y8 := r8.keep hS; have y80 := y8.cell 0; have y81 := y8.cell 1; have y82 := y8.cell 2; have y83 := y8.cell 3; have y84 := y8.cell 4; simp at y5 y80 y81 y82 y83 y84; first | (go_simp; done) | (go_simp; with_reducible rfl))); simp only [Act.put, List.setIfInBounds_toArray, List.set_cons_zero, List.set_cons_succ]
              refine taken_take ?_ ?_ (fun w' hS => ?_) ?_; rotate_left 1; (focus rfl); (focus (have hS2 := Kept.drop hkk hS; have y5 := (h5.keep hS2).cell 0; have y8 := r8.keep hS; have y80 := y8.cell 0; have y81 := y8.cell 1; have y82 := y8.cell 2; have y83 := y8.cell 3; have y84 := y8.cell 4; simp at y5 y80 y81 y82 y83 y84; first | (go_simp; done) | (go_simp; with_reducible rfl))); simp only [Act.put, List.setIfInBounds_toArray, List.set_cons_zero, List.set_cons_succ]
              refine taken_take ?_ ?_ (fun w' hS => ?_) ?_; rotate_left 1; (focus rfl); (focus (have hS2 := Kept.drop hkk hS; have y5 := (h5.keep hS2).cell 0; have y8 := r8.keep hS; have y80 := y8.cell 0; have y81 := y8.cell 1; have y82 := y8.cell 2; have y83 := y8.cell 3; have y84 := y8.cell 4; simp at y5 y80 y81 y82 y83 y84; first | (go_simp; done) | (go_simp; with_reducible rfl))); simp only [Act.put, List.setIfInBounds_toArray, List.set_cons_zero, List.set_cons_succ]
              refine taken_nil ?_
              intro oi oj hoi hoj
              simp only [Option.some.injEq] at hoi hoj
              subst hoi hoj
              refine ⟨?_, ?_, ?_⟩
              · refine wpList_plain rfl fun K1 hK1 => ?_
                go_wp2_with (go_at_call 94; (with_reducible refine (HCLO.out _ (by (exact kpt))).mono ?_); rintro e w1 ⟨v1, rfl, ho1, hb1⟩)
                obtain ⟨ad1, cp1, rfl, hown1⟩ : ∃ ad cp, v1 = .slice ad x.length cp ∧ _ := owns_slice ho1
                refine fork_first (by (exact kpt)) ?_
                refine wpList_plain rfl fun K2 hK2 => ?_
                go_wp2
                refine fork_first (by (exact kpt)) ?_
                exact ⟨_, _, rfl, ad1, cp1, _, rfl, rfl, owns_keep (owns_base hown1 (Nat.le_refl _)) (by (exact kpt)), by (exact blk)⟩
              · refine wpList_plain rfl fun K1 hK1 => ?_
                go_wp2
                refine fork_first (by (exact kpt)) ?_
                refine wpList_plain rfl fun K2 hK2 => ?_
                go_wp2_with (go_at_call 94; (with_reducible refine (HCLO.out _ (by (exact kpt))).mono ?_); rintro e w1 ⟨v1, rfl, ho1, hb1⟩)
                obtain ⟨ad1, cp1, rfl, hown1⟩ : ∃ ad cp, v1 = .slice ad x.length cp ∧ _ := owns_slice ho1
                refine fork_first (by (exact kpt)) ?_
                first | exact ⟨_, _, rfl, ad1, cp1, _, rfl, rfl, owns_base hown1 (by simp), by (exact blk)⟩ | exact ⟨_, _, rfl, ⟨ad1, cp1, rfl⟩, _, rfl, owns_base hown1 (by simp), by (exact blk)⟩
              intro u v w2 hS2 hR
              obtain ⟨ad9, cp9, g9, rfl, rfl, ho9, hb9⟩ := hR
              simp only [Act.put, List.setIfInBounds_toArray, List.set_cons_zero, List.set_cons_succ]
              have HNEW := Lib.hid (show ∀ j u, ([.int .i64 (k : Int)] : List Value)[j]? = some u → w2.cell? ((⟨g9, 0, none⟩ : Addr).add j) = some u from cell_blk hb9)
              have hz9 : wr.heap.size ≤ w2.heap.size := hS2.size
              refine held_one ?_
              (obtain ⟨i0, hi, hz0, hz1, hz2⟩ := info_parts infoI2; refine wpList_append_own _ rfl _ _ 63 rfl wr.heap.size 3 i0 (.int .i64 0) 1 8 Try.underlying63 hi hz0 hz1 hz2 rfl (by decide) _ _ _ rfl ho9 ⟨g9, 0, none⟩ 1 1 [.int .i64 k] rfl rfl HNEW.out (fun x hx => by simp at hx; subst hx; rfl) (by unfold maxLen; omega) (by omega) hz9 ?_; intro v8 w8 hown8 hgrow8 hnil8; clear hi hz0 hz1 hz2)
              have hk8 : Kept wr w8 := Kept.grown hS2 ho9 (Nat.le_refl _) hgrow8
              obtain ⟨ad8, cp8, rfl, hrow8, hc8, hm8⟩ := owns_row (enc := icell) (k := 1) (xs := ints (x ++ [k])) (fun _ => rfl) (by rw [ints_snoc, List.flatMap_append, List.length_append, ints_len]; exact hown8)
              have hz8 := owns_cap hown8
              rw [ints_len, List.length_append, List.length_singleton] at hc8 ⊢
              have hk98 : Kept w w8 := Kept.drop hkk hk8
              refine held_on hk8 ?_
              simp only [Act.put, List.setIfInBounds_toArray, List.set_cons_zero, List.set_cons_succ]
              refine held_one ?_
              refine wpList_plain rfl fun K1 hK1 => ?_
              go_wp2_with (go_at_call 100; (with_reducible refine (HIH.out _ ad8 cp8 hk98 hrow8 hc8 hm8 hz8).mono ?_); rintro e w7 ⟨⟨a7, n7, c7, rfl, hres7⟩, hb7⟩)
              refine held_on (by (exact kpt)) ?_
              refine held_take ?_ ?_ (fun w' hS => ?_) ?_; rotate_left 1; (focus rfl); (focus (skip; first | (go_simp; done) | (go_simp; with_reducible rfl))); simp only [Act.put, List.setIfInBounds_toArray, List.set_cons_zero, List.set_cons_succ]
              refine held_take ?_ ?_ (fun w' hS => ?_) ?_; rotate_left 1; (focus rfl); (focus (skip; first | (go_simp; done) | (go_simp; with_reducible rfl))); simp only [Act.put, List.setIfInBounds_toArray, List.set_cons_zero, List.set_cons_succ]
              refine held_take ?_ ?_ (fun w' hS => ?_) ?_; rotate_left 1; (focus rfl); (focus (skip; first | (go_simp; done) | (go_simp; with_reducible rfl))); simp only [Act.put, List.setIfInBounds_toArray, List.set_cons_zero, List.set_cons_succ]
              refine held_take ?_ ?_ (fun w' hS => ?_) ?_; rotate_left 1; (focus rfl); (focus (skip; first | (go_simp; done) | (go_simp; with_reducible rfl))); simp only [Act.put, List.setIfInBounds_toArray, List.set_cons_zero, List.set_cons_succ]
              refine held_take ?_ ?_ (fun w' hS => ?_) ?_; rotate_left 1; (focus rfl); (focus (skip; first | (go_simp; done) | (go_simp; with_reducible rfl))); simp only [Act.put, List.setIfInBounds_toArray, List.set_cons_zero, List.set_cons_succ]
              refine held_nil ?_
              cases OS with
              | none =>
                have HF := Lib.hid (show ∀ j, j < k + 1 → stepS F m x j = none from fun j hj => by
                  rcases Nat.lt_or_ge j k with h | h
                  · exact HNO.out j h
                  · obtain rfl : j = k := by omega
                    exact HFIT.out)
                go_wp2
                go_roundw
                case rel => exact ⟨k + 1, by omega, by go_num, HF.out, (q7.keep hk8).keep hb7, Kept.drop hk98 hb7⟩
                case measure => simp [intOf]; omega
              | some y =>
                have HF := Lib.hid (show O = some y by rw [HO.out]; exact search_found hlt HNO.out HFIT.out)
                go_wp2
                simp only [Exit.noGoto]
                refine bodyPost_ret (v := .tuple #[.slice a7 n7 c7, .bool true]) (by simp [results, Try.results100, go_sem]) rfl ⟨⟨a7, n7, c7, ?_, ?_⟩, Kept.drop hk98 hb7⟩
                · rw [HF.out]; rfl
                · intro z hz
                  rw [HF.out] at hz
                  cases hz
                  exact hres7 y rfl
      · obtain rfl : F.hs.length = k := by omega
        have HN := Lib.hid (show O = none by rw [HO.out]; exact search_none HNO.out)
        have r7c0 := r7.cell 0
        have r7f0 := r7.free 0
        have r7c1 := r7.cell 1
        have r7f1 := r7.free 1
        have r7c2 := r7.cell 2
        have r7f2 := r7.free 2
        have r7c3 := r7.cell 3
        have r7f3 := r7.free 3
        have r7c4 := r7.cell 4
        have r7f4 := r7.free 4
        have r7l := r7.lt
        simp at r7c0 r7c1 r7c2 r7c3 r7c4
        go_wp2
        simp only [Exit.noGoto]
        refine bodyPost_ret (v := .tuple #[.slice none 0 0, .bool false]) (by simp [results, Try.results100, go_sem]) rfl ⟨⟨none, 0, 0, ?_, ?_⟩, by (exact kpt)⟩
        · rw [HN.out]; rfl
        · intro y hy
          rw [HN.out] at hy
          cases hy

def stE (o : Option (List Nat)) : Int := match o with | some _ => 0 | none => 6
def stL (o : Option (List Nat)) : List Int := match o with | some s => s.map Int.ofNat | none => []
theorem f_Stow (F : Fr) (s : FSpot) (w : World) (hh : FrAt F s w) :
    Calls Try.prog 44 #[.slice s.ax F.xs.length s.cx, .slice s.ah F.hs.length s.ch, .slice s.ap F.ps.length s.cp, .slice s.ar F.rs.length s.cr, .slice s.am F.ms.length s.cm] w fun e w' => ∃ (a' : Option Addr) (c' : Nat), e = .returned (.tuple #[.slice a' (stowL F).length c', .int .i64 (stowE F)]) ∧ Row icell 1 w'.heap.size w' a' (stowL F) ∧ (stowL F).length ≤ c' ∧ c' ≤ maxLen ∧ Kept w w' := by
  by_cases he : frE F = 0
  · have ho := frE_ok he
    have HO := Lib.hid ho
    have HE := Lib.hid he
    have hSS := stow_search (F := F) (wt_ok ho) (room_ok ho)
    obtain ⟨OS, hOS⟩ : ∃ OS, OS = search F F.ps.length [] := ⟨_, rfl⟩
    have hE : stowE F = stE OS := by unfold stowE; rw [if_pos he, hSS, hOS]; rfl
    have hL : stowL F = stL OS := by unfold stowL; rw [if_pos he, hSS, hOS]; rfl
    have hlen : ∀ y, OS = some y → y.length = (stowL F).length := fun y hy => by rw [hL, hy]; unfold stL; rw [List.length_map]
    have HSE := Lib.hid hE
    have HSL := Lib.hid hL
    have HSN := Lib.hid hlen
    obtain ⟨EE, hEE⟩ : ∃ EE, EE = stowE F := ⟨_, rfl⟩
    rw [← hEE] at HSE ⊢
    obtain ⟨LL, hLL⟩ : ∃ LL, LL = stowL F := ⟨_, rfl⟩
    rw [← hLL] at HSL HSN ⊢
    clear hE hL hEE hLL he hSS hlen
    go_enter Try.func44, Try.ntmps44
    go_upto_region 7 with (go_at_call 99; (with_reducible refine (f_frcheck F s _ (hh.later (by (exact kpt)))).mono ?_); rw [HE.out]; rintro e w1 ⟨rfl, hb1⟩; refine Blk.thru (b := w.heap.size) (arr := ?_) (t := ?_) ?_ hb1 ?_; rotate_left 2; (focus (exact blk)); intro q4; have q4c0 := q4.cell 0; have q4f0 := q4.free 0; have q4l := q4.lt; simp at q4c0; refine Blk.thru (b := w.heap.size + 1) (arr := ?_) (t := ?_) ?_ hb1 ?_; rotate_left 2; (focus (exact blk)); intro q2; have q2c0 := q2.cell 0; have q2f0 := q2.free 0; have q2l := q2.lt; simp at q2c0; refine Blk.thru (b := w.heap.size + 1 + 1) (arr := ?_) (t := ?_) ?_ hb1 ?_; rotate_left 2; (focus (exact blk)); intro q3; have q3c0 := q3.cell 0; have q3f0 := q3.free 0; have q3c1 := q3.cell 1; have q3f1 := q3.free 1; have q3c2 := q3.cell 2; have q3f2 := q3.free 2; have q3c3 := q3.cell 3; have q3f3 := q3.free 3; have q3c4 := q3.cell 4; have q3f4 := q3.free 4; have q3l := q3.lt; simp at q3c0 q3c1 q3c2 q3c3 q3c4)
    refine at_world (S := fun W => Blk W w.heap.size #[.slice s.ah F.hs.length s.ch] 73 ∧ Blk W (w.heap.size + 1) #[.slice s.ap F.ps.length s.cp] 74 ∧ Blk W (w.heap.size + 1 + 1) #[.slice s.ax F.xs.length s.cx, .slice s.ah F.hs.length s.ch, .slice s.ap F.ps.length s.cp, .slice s.ar F.rs.length s.cr, .slice s.am F.ms.length s.cm] 149 ∧ Blk W w1.heap.size #[.func (.func 100) #[] #[.pointer (some ⟨w.heap.size + 1, 0, none⟩), .pointer (some ⟨w.heap.size + 1 + 1, 0, none⟩), .pointer (some ⟨w.heap.size, 0, none⟩), .pointer (some ⟨w1.heap.size, 0, none⟩)]] 151 ∧ Kept w W) ⟨by (exact blk), by (exact blk), by (exact blk), by (exact blkc), by (exact kpt)⟩ ?_
    rintro W ⟨r4, r2, r3, r5, hW⟩
    clear q4 q4c0 q4f0 q4l q2 q2c0 q2f0 q2l q3 q3c0 q3f0 q3c1 q3f1 q3c2 q3f2 q3c3 q3f3 q3c4 q3f4 q3l
    obtain ⟨n5, hn5⟩ : ∃ n5, n5 = w1.heap.size := ⟨_, rfl⟩
    rw [← hn5] at r5 ⊢
    clear hn5
    have HSR := Lib.hid (fun (V : World) (hV : Kept W V) => (by
      have hk := Kept.drop hW hV
      have := f_search F s ho (w.heap.size + 1) (w.heap.size + 1 + 1) w.heap.size n5 F.ps.length [] V (hh.later hk) (r2.keep hV) (r3.keep hV) (r4.keep hV) (r5.keep hV) none 0 Row.nil (Nat.le_refl _) (by simp [maxLen]) (fun _ => rfl) (by simp) (by simp)
      rw [← hOS] at this
      exact this : Calls Try.prog 100 #[.slice none 0 0, .agg #[.int .i64 (leftIn F [] 0), .int .i64 (leftIn F [] 1), .int .i64 (leftIn F [] 2), .int .i64 (leftIn F [] 3), .int .i64 (leftIn F [] 4)], .pointer (some ⟨w.heap.size + 1, 0, none⟩), .pointer (some ⟨w.heap.size + 1 + 1, 0, none⟩), .pointer (some ⟨w.heap.size, 0, none⟩), .pointer (some ⟨n5, 0, none⟩)] V fun e w' => (∃ (a' : Option Addr) (n' c' : Nat), e = .returned (.tuple #[.slice a' n' c', .bool (OS).isSome]) ∧ ∀ y, OS = some y → n' = y.length ∧ Row icell 1 w'.heap.size w' a' (ints y) ∧ y.length ≤ c' ∧ c' ≤ maxLen) ∧ Kept V w'))
    clear hOS ho
    refine held_walk (fun w' => Kept W w') [(true, 0), (true, 1), (false, 2), (false, 3), (true, 4), (true, 5), (true, 6), (true, 7), (true, 8)] 9 (by kernel_rfl) (by kernel_rfl) (fun c a d v w h => by cases d <;> exact h) (Below.drew (Below.refl _ _)) ?_
    simp only [List.filterMap_cons, List.filterMap_nil, List.getElem?_cons_zero, List.getElem?_cons_succ, Option.map_some]
    refine held_take ?_ ?_ (fun w' hS => ?_) ?_; rotate_left 1; (focus rfl); (focus (have y5 := (r5.keep hS).cell 0; have b3 := r3.keep hS; have y0 := b3.cell 0; have y1 := b3.cell 1; have y2 := b3.cell 2; have y3 := b3.cell 3; have y4 := b3.cell 4; simp at y0 y1 y2 y3 y4; simp at y5; first | (go_simp; done) | (go_simp; with_reducible rfl))); simp only [Act.put, List.setIfInBounds_toArray, List.set_cons_zero, List.set_cons_succ]
    refine held_take ?_ ?_ (fun w' hS => ?_) ?_; rotate_left 1; (focus rfl); (focus (have y5 := (r5.keep hS).cell 0; have b3 := r3.keep hS; have y0 := b3.cell 0; have y1 := b3.cell 1; have y2 := b3.cell 2; have y3 := b3.cell 3; have y4 := b3.cell 4; simp at y0 y1 y2 y3 y4; simp at y5; first | (go_simp; done) | (go_simp; with_reducible rfl))); simp only [Act.put, List.setIfInBounds_toArray, List.set_cons_zero, List.set_cons_succ]
    refine held_one ?_
    refine wpList_plain rfl fun K1 hK1 => ?_
    go_wp2_with (go_at_call 103; (with_reducible refine (f_rooms F s _ (hh.later (by (exact kpt))) HO.out.hn).mono ?_); rintro e w3 ⟨rfl, hb3⟩)
    refine held_on (by (exact kpt)) ?_
    try simp only [Act.put, List.setIfInBounds_toArray, List.set_cons_zero, List.set_cons_succ]
    refine held_one ?_
    refine wpList_plain rfl fun K1 hK1 => ?_
    go_wp2_with (go_at_call 100; (with_reducible refine (HSR.out _ (by (exact kpt))).mono ?_); rintro e w7 ⟨⟨a7, n7, c7, rfl, hres7⟩, hb7⟩)
    refine held_on (by (exact kpt)) ?_
    refine held_take ?_ ?_ (fun w' hS => ?_) ?_; rotate_left 1; (focus rfl); (focus (skip; first | (go_simp; done) | (go_simp; with_reducible rfl))); simp only [Act.put, List.setIfInBounds_toArray, List.set_cons_zero, List.set_cons_succ]
    refine held_take ?_ ?_ (fun w' hS => ?_) ?_; rotate_left 1; (focus rfl); (focus (skip; first | (go_simp; done) | (go_simp; with_reducible rfl))); simp only [Act.put, List.setIfInBounds_toArray, List.set_cons_zero, List.set_cons_succ]
    refine held_take ?_ ?_ (fun w' hS => ?_) ?_; rotate_left 1; (focus rfl); (focus (skip; first | (go_simp; done) | (go_simp; with_reducible rfl))); simp only [Act.put, List.setIfInBounds_toArray, List.set_cons_zero, List.set_cons_succ]
    refine held_take ?_ ?_ (fun w' hS => ?_) ?_; rotate_left 1; (focus rfl); (focus (skip; first | (go_simp; done) | (go_simp; with_reducible rfl))); simp only [Act.put, List.setIfInBounds_toArray, List.set_cons_zero, List.set_cons_succ]
    refine held_take ?_ ?_ (fun w' hS => ?_) ?_; rotate_left 1; (focus rfl); (focus (skip; first | (go_simp; done) | (go_simp; with_reducible rfl))); simp only [Act.put, List.setIfInBounds_toArray, List.set_cons_zero, List.set_cons_succ]
    refine held_nil ?_
    cases OS with
    | none =>
      have H1 := Lib.hid (show EE = 6 from HSE.out)
      have H2 := Lib.hid (show LL = [] from HSL.out)
      go_wp2
      refine bodyPost_ret (v := .tuple #[.slice none 0 0, .int .i64 6]) (by simp [results, Try.results44, go_sem]) rfl ⟨none, 0, ?_, ?_, ?_, ?_, by (exact kpt)⟩
      · rw [H1.out, H2.out]; rfl
      · rw [H2.out]; exact Row.nil
      · rw [H2.out]; simp
      · simp [maxLen]
    | some y =>
      have H1 := Lib.hid (show EE = 0 from HSE.out)
      have H2 := Lib.hid (show LL = ints y from HSL.out)
      obtain ⟨rfl, hr7, hc7, hm7⟩ := hres7 y rfl
      have HY := Lib.hid (show y.length = LL.length from HSN.out y rfl)
      go_wp2
      refine bodyPost_ret (v := .tuple #[.slice a7 y.length c7, .int .i64 0]) (by simp [results, Try.results44, go_sem]) rfl ⟨a7, c7, ?_, ?_, ?_, hm7, by (exact kpt)⟩
      · rw [H1.out, ← HY.out]
      · rw [H2.out]; exact hr7
      · rw [← HY.out]; exact hc7
  · have hE : stowE F = frE F := by unfold stowE; rw [if_neg he]
    have hL : stowL F = [] := by unfold stowL; rw [if_neg he]
    rw [hE, hL]
    obtain ⟨E, hE2⟩ : ∃ E, E = frE F := ⟨_, rfl⟩
    have HE := Lib.hid hE2.symm
    rw [← hE2] at he ⊢
    have e1 : (E != 0) = true := by simp [he]
    clear hE2 hE hL
    go_enter Try.func44, Try.ntmps44
    go_wp2_with (go_at_call 99; (with_reducible refine (f_frcheck F s _ (hh.later (by (exact kpt)))).mono ?_); rw [HE.out]; rintro e w1 ⟨rfl, hb1⟩; refine Blk.thru (b := w.heap.size) (arr := ?_) (t := ?_) ?_ hb1 ?_; rotate_left 2; (focus (exact blk)); intro q4; have q4c0 := q4.cell 0; have q4f0 := q4.free 0; have q4l := q4.lt; simp at q4c0; refine Blk.thru (b := w.heap.size + 1) (arr := ?_) (t := ?_) ?_ hb1 ?_; rotate_left 2; (focus (exact blk)); intro q2; have q2c0 := q2.cell 0; have q2f0 := q2.free 0; have q2l := q2.lt; simp at q2c0; refine Blk.thru (b := w.heap.size + 1 + 1) (arr := ?_) (t := ?_) ?_ hb1 ?_; rotate_left 2; (focus (exact blk)); intro q3; have q3c0 := q3.cell 0; have q3f0 := q3.free 0; have q3c1 := q3.cell 1; have q3f1 := q3.free 1; have q3c2 := q3.cell 2; have q3f2 := q3.free 2; have q3c3 := q3.cell 3; have q3f3 := q3.free 3; have q3c4 := q3.cell 4; have q3f4 := q3.free 4; have q3l := q3.lt; simp at q3c0 q3c1 q3c2 q3c3 q3c4)
    exact bodyPost_ret (v := .tuple #[.slice none 0 0, .int .i64 E]) (by simp [results, Try.results44, go_sem]) rfl ⟨none, 0, rfl, Row.nil, by simp, by simp [maxLen], by (exact kpt)⟩

end Go.Proofs.Ytlloijkmpmfapaa

/-
  The worst choice in the reference.
-/
namespace Go.Proofs.Ytlloijkmpmfapaa
open Go.RowKit Bal Bal.Trim
set_option linter.unusedVariables false
set_option linter.unusedSimpArgs false
set_option maxHeartbeats 800000

set_option maxRecDepth 10000

theorem r_ValueL (m : Limit) (p : Put) (t : TypeId) (W w2 : World) (n : Nat) (hB : Blk W n #[.int .i64 p.pos, .int .i64 p.wt] t) (hb : Kept W w2) (hm : limitB m = true) (hp : putB p) :
    Calls Try.prog 77 #[.slice (some ⟨n, 0, none⟩) 1 1, .agg #[.int .i64 m.a, .int .i64 m.b, .int .i64 m.c]] w2 fun e w' => e = .returned (.int .i64 (vOf m p)) ∧ Kept w2 w' :=
  r_Value1 m _ 1 p _ (Row.later (Row.one (x := p) hB rfl) hb (Nat.le_refl _)) hm hp

/-- one corner as a row of its own -/
theorem corn_row {w : World} {b : Nat} {x : Load} (h : Blk w b #[.int .i64 x.alo, .int .i64 x.wlo, .int .i64 x.ahi, .int .i64 x.wlo, .int .i64 x.alo, .int .i64 x.whi, .int .i64 x.ahi, .int .i64 x.whi] 85) (j : Nat) (hj : j < 4) : Row Put.cells 2 w.heap.size w (some ⟨b, 2 * j, none⟩) [(corners x)[j]'(by simpa [corners] using hj)] := by
  have h1 := Row.sub (Row.block (enc := Put.cells) (k := 2) (xs := corners x) (fun _ => rfl) h (by simp [corners, Put.cells])) j (by simpa [corners] using hj)
  rwa [show 0 + j * 2 = 2 * j by omega] at h1
def RWorst (w : World) (m : Limit) (xs : List Load) (cv i : Value) (wr : World) : Prop :=
  ∃ k : Nat, k ≤ xs.length ∧ i = .int .i64 k ∧ Blk wr w.heap.size #[.int .i64 m.a, .int .i64 m.b, .int .i64 m.c] 47 ∧ wr.ownsRow w.heap.size 85 2 cv k ((choice m (xs.take k)).flatMap Put.cells) ∧ Kept w wr
def RWorstIn (w : World) (m : Limit) (x : Load) (bc bB k : Nat) (cs : List Value) (cv i : Value) (wq : World) : Prop :=
  ∃ (j : Nat) (B : Put), j ≤ 3 ∧ i = .int .i64 (1 + j) ∧ B = bestK m x j ∧ Blk wq w.heap.size #[.int .i64 m.a, .int .i64 m.b, .int .i64 m.c] 47 ∧ Blk wq bB #[.int .i64 B.pos, .int .i64 B.wt] 85 ∧
    Blk wq bc #[.int .i64 x.alo, .int .i64 x.wlo, .int .i64 x.ahi, .int .i64 x.wlo, .int .i64 x.alo, .int .i64 x.whi, .int .i64 x.ahi, .int .i64 x.whi] 85 ∧ wq.ownsRow w.heap.size 85 2 cv k cs ∧ Kept w wq

theorem r_worst (m : Limit) (a : Option Addr) (cap : Nat) (xs : List Load) (w : World) (hx : Row Load.cells 4 w.heap.size w a xs) (hc : xs.length ≤ cap) (hM : cap ≤ maxLen) (hn : xs.length ≤ 40) (hm : limitB m = true) (hv : ∀ x ∈ xs, loadB x = true) :
    Calls Try.prog 75 #[.slice a xs.length cap, .agg #[.int .i64 m.a, .int .i64 m.b, .int .i64 m.c]] w fun e w' =>
      ∃ v, e = .returned v ∧ w'.ownsRow w.heap.size 85 2 v (choice m xs).length ((choice m xs).flatMap Put.cells) ∧ Kept w w' := by
  unfold maxLen at hM
  have HM := Lib.hid hm
  have HV := Lib.hid hv
  clear hm hv
  go_enter Try.func75, Try.ntmps75
  go_wp2
  go_loopw [5, 6] (fun cv i wr => RWorst w m xs cv i wr) (fun _ i _ => xs.length - (intOf i).toNat)
  case atStart => exact ⟨0, Nat.zero_le _, rfl, by (exact blk), owns_nil (α := Put) (enc := Put.cells), by (exact kpt)⟩
  case round =>
    obtain ⟨k, hk, rfl, q0, hown, hkk⟩ := hrel
    by_cases hlt : k < xs.length
    · obtain ⟨b, off, rfl, hb, h0, h1, h2, h3⟩ := Load.row (hx.later hkk (Nat.le_refl _)) k hlt
      have HX := Lib.hid (HV.out xs[k] (List.getElem_mem hlt))
      have HSN := Lib.hid (choice_snoc m xs k hlt)
      obtain ⟨x, hx0⟩ : ∃ x, x = xs[k] := ⟨_, rfl⟩
      rw [← hx0] at HX HSN h0 h1 h2 h3
      clear hx0
      have hks := hkk.size
      go_wp2_with (go_at_call 82; (with_reducible refine (r_corners x _).mono ?_); rintro e w1 ⟨rfl, q7, hb1⟩; obtain ⟨hc1, hf1, hl1⟩ := bcell3 hb1; have hs1 := hb1.size; have q7c0 := q7.cell 0; have q7c1 := q7.cell 1; have q7l := q7.lt; simp at q7c0 q7c1)
      have HOB := Lib.hid (show Value.ownBlock _ ≠ some w1.heap.size from fun h => by have := owns_lt hown h; omega)
      have hown1 := owns_keep hown hb1
      have HNE1 := Lib.hid (show w1.heap.size ≠ w.heap.size from by have := q0.lt; omega)
      have HNE2 := Lib.hid (show w1.heap.size ≠ wr.heap.size + 1 from by omega)
      go_loopw [9] (fun i wq => RWorstIn w m x (wr.heap.size + 1) w1.heap.size k ((choice m (xs.take k)).flatMap Put.cells) _ i wq) (fun i _ => 4 - (intOf i).toNat)
      case atStart => exact ⟨0, ⟨x.alo, x.wlo⟩, by omega, rfl, rfl, by (exact blk), by (exact blkc), by (exact blk), hown1.alloc _, by (exact kpt)⟩
      case round =>
        clear hc1 hf1 hl1 q0 hown hown1 q7 q7c0 q7c1 q7l
        obtain ⟨j, B, hj, hi, hBj, q0, qB, q7, hown2, hkq⟩ := hrel
        by_cases hj3 : j < 3
        · have HS := Lib.hid (bestK_succ m x j hj3)
          have HB := Lib.hid (show putB B from hBj ▸ bestK_B (m := m) HX.out j)
          have HN := Lib.hid (nextC_B HX.out j)
          rw [← hBj] at HS
          clear hBj
          rcases (show j = 0 ∨ j = 1 ∨ j = 2 by omega) with rfl | rfl | rfl
          · simp only [nextC] at HN HS
            replace hi : _ = Value.int .i64 1 := hi
            subst hi
            have HW : IntKind.i64.wrap (2 : Int) = 2 := by decide
            have HR := Lib.hid (fun (w' : World) (h : Kept wr w') => (corn_row (q7.keep h) 1 (by decide) : Row Put.cells 2 w'.heap.size w' (some ⟨_, 2, none⟩) [⟨x.ahi, x.wlo⟩]))
            go_upto_region 10 with fail
            go_cut [39] (fun s39 wx => s39 = .bool (decide (vOf m B < vOf m ⟨x.ahi, x.wlo⟩)) ∧ Kept wr wx)
            case first =>
              have m0 : ∀ w', Kept wr w' → w'.cell? ⟨w.heap.size, 0, none⟩ = _ := fun w' h => (q0.keep h).cell 0
              have m1 : ∀ w', Kept wr w' → w'.cell? ⟨w.heap.size, 1, none⟩ = _ := fun w' h => (q0.keep h).cell 1
              have m2 : ∀ w', Kept wr w' → w'.cell? ⟨w.heap.size, 2, none⟩ = _ := fun w' h => (q0.keep h).cell 2
              have e0 : ∀ w', Kept wr w' → w'.cell? ⟨w1.heap.size, 0, none⟩ = _ := fun w' h => (qB.keep h).cell 0
              have e1 : ∀ w', Kept wr w' → w'.cell? ⟨w1.heap.size, 1, none⟩ = _ := fun w' h => (qB.keep h).cell 1
              simp at m0 m1 m2 e0 e1
              go_region_held3 (fun w' => Kept wr w') (exact kpt) (first | (go_at_call 77; (with_reducible refine (r_Value1 m _ _ ⟨x.ahi, x.wlo⟩ _ (HR.out _ (by (exact kpt))) HM.out HN.out).mono ?_); rintro e w2 ⟨rfl, hb2⟩; obtain ⟨hc2, hf2, hl2⟩ := bcell3 hb2) | (go_at_call 77; (with_reducible refine (r_ValueN m B _ _ _ (by simp) HM.out HB.out).mono ?_); rintro e w3 ⟨rfl, hb3⟩; obtain ⟨hc3, hf3, hl3⟩ := bcell3 hb3) | (go_at_call 77; (with_reducible refine (r_ValueL m B 85 _ _ _ ?_ hb2 HM.out HB.out).mono ?_); (focus (first | exact Blk.drew (Blk.new' (by simp)) | exact Blk.new' (by simp))); rintro e w3 ⟨rfl, hb3⟩; obtain ⟨hc3, hf3, hl3⟩ := bcell3 hb3) | fail)
              all_goals (go_wp2_with fail; go_meet)
              all_goals exact ⟨by first | rfl | (simp; done) | (simp; omega), by (exact kpt)⟩
            case rest =>
              obtain ⟨rfl, hkx⟩ := hcut
              have p0 := q0.keep hkx
              have p7 := q7.keep hkx
              have pB := qB.keep hkx
              have ho := owns_keep hown2 hkx
              clear hown2
              have p7c0 := p7.cell 0
              have p7f0 := p7.free 0
              have p7c1 := p7.cell 1
              have p7f1 := p7.free 1
              have p7c2 := p7.cell 2
              have p7f2 := p7.free 2
              have p7c3 := p7.cell 3
              have p7f3 := p7.free 3
              have p7c4 := p7.cell 4
              have p7f4 := p7.free 4
              have p7c5 := p7.cell 5
              have p7f5 := p7.free 5
              have p7c6 := p7.cell 6
              have p7f6 := p7.free 6
              have p7c7 := p7.cell 7
              have p7f7 := p7.free 7
              have p7l := p7.lt
              simp at p7c0 p7c1 p7c2 p7c3 p7c4 p7c5 p7c6 p7c7
              have pBc0 := pB.cell 0
              have pBf0 := pB.free 0
              have pBc1 := pB.cell 1
              have pBf1 := pB.free 1
              have pBl := pB.lt
              simp at pBc0 pBc1
              by_cases hc : vOf m B < vOf m ⟨x.ahi, x.wlo⟩
              · have HC1 := Lib.hid (better_lt hc)
                have hd : decide (vOf m B < vOf m ⟨x.ahi, x.wlo⟩) = true := decide_eq_true hc
                go_wp2
                go_round
                case rel => exact ⟨1, ⟨x.ahi, x.wlo⟩, by omega, by go_num, by rw [HS.out, HC1.out], (p0.other HNE1.out _).other HNE1.out _, by (exact blkc), (p7.other HNE2.out _).other HNE2.out _, owns_setB (owns_setB ho HOB.out) HOB.out, by (exact kpt)⟩
                case measure => simp [intOf]
              · have HC1 := Lib.hid (better_ge hc)
                have hd : decide (vOf m B < vOf m ⟨x.ahi, x.wlo⟩) = false := decide_eq_false hc
                go_wp2
                go_round
                case rel => exact ⟨1, B, by omega, by go_num, by rw [HS.out, HC1.out], by (exact blk), by (exact blk), by (exact blk), ho, by (exact kpt)⟩
                case measure => simp [intOf]
          · simp only [nextC] at HN HS
            replace hi : _ = Value.int .i64 2 := hi
            subst hi
            have HW : IntKind.i64.wrap (3 : Int) = 3 := by decide
            have HR := Lib.hid (fun (w' : World) (h : Kept wr w') => (corn_row (q7.keep h) 2 (by decide) : Row Put.cells 2 w'.heap.size w' (some ⟨_, 4, none⟩) [⟨x.alo, x.whi⟩]))
            go_upto_region 10 with fail
            go_cut [39] (fun s39 wx => s39 = .bool (decide (vOf m B < vOf m ⟨x.alo, x.whi⟩)) ∧ Kept wr wx)
            case first =>
              have m0 : ∀ w', Kept wr w' → w'.cell? ⟨w.heap.size, 0, none⟩ = _ := fun w' h => (q0.keep h).cell 0
              have m1 : ∀ w', Kept wr w' → w'.cell? ⟨w.heap.size, 1, none⟩ = _ := fun w' h => (q0.keep h).cell 1
              have m2 : ∀ w', Kept wr w' → w'.cell? ⟨w.heap.size, 2, none⟩ = _ := fun w' h => (q0.keep h).cell 2
              have e0 : ∀ w', Kept wr w' → w'.cell? ⟨w1.heap.size, 0, none⟩ = _ := fun w' h => (qB.keep h).cell 0
              have e1 : ∀ w', Kept wr w' → w'.cell? ⟨w1.heap.size, 1, none⟩ = _ := fun w' h => (qB.keep h).cell 1
              simp at m0 m1 m2 e0 e1
              go_region_held3 (fun w' => Kept wr w') (exact kpt) (first | (go_at_call 77; (with_reducible refine (r_Value1 m _ _ ⟨x.alo, x.whi⟩ _ (HR.out _ (by (exact kpt))) HM.out HN.out).mono ?_); rintro e w2 ⟨rfl, hb2⟩; obtain ⟨hc2, hf2, hl2⟩ := bcell3 hb2) | (go_at_call 77; (with_reducible refine (r_ValueN m B _ _ _ (by simp) HM.out HB.out).mono ?_); rintro e w3 ⟨rfl, hb3⟩; obtain ⟨hc3, hf3, hl3⟩ := bcell3 hb3) | (go_at_call 77; (with_reducible refine (r_ValueL m B 85 _ _ _ ?_ hb2 HM.out HB.out).mono ?_); (focus (first | exact Blk.drew (Blk.new' (by simp)) | exact Blk.new' (by simp))); rintro e w3 ⟨rfl, hb3⟩; obtain ⟨hc3, hf3, hl3⟩ := bcell3 hb3) | fail)
              all_goals (go_wp2_with fail; go_meet)
              all_goals exact ⟨by first | rfl | (simp; done) | (simp; omega), by (exact kpt)⟩
            case rest =>
              obtain ⟨rfl, hkx⟩ := hcut
              have p0 := q0.keep hkx
              have p7 := q7.keep hkx
              have pB := qB.keep hkx
              have ho := owns_keep hown2 hkx
              clear hown2
              have p7c0 := p7.cell 0
              have p7f0 := p7.free 0
              have p7c1 := p7.cell 1
              have p7f1 := p7.free 1
              have p7c2 := p7.cell 2
              have p7f2 := p7.free 2
              have p7c3 := p7.cell 3
              have p7f3 := p7.free 3
              have p7c4 := p7.cell 4
              have p7f4 := p7.free 4
              have p7c5 := p7.cell 5
              have p7f5 := p7.free 5
              have p7c6 := p7.cell 6
              have p7f6 := p7.free 6
              have p7c7 := p7.cell 7
              have p7f7 := p7.free 7
              have p7l := p7.lt
              simp at p7c0 p7c1 p7c2 p7c3 p7c4 p7c5 p7c6 p7c7
              have pBc0 := pB.cell 0
              have pBf0 := pB.free 0
              have pBc1 := pB.cell 1
              have pBf1 := pB.free 1
              have pBl := pB.lt
              simp at pBc0 pBc1
              by_cases hc : vOf m B < vOf m ⟨x.alo, x.whi⟩
              · have HC1 := Lib.hid (better_lt hc)
                have hd : decide (vOf m B < vOf m ⟨x.alo, x.whi⟩) = true := decide_eq_true hc
                go_wp2
                go_round
                case rel => exact ⟨2, ⟨x.alo, x.whi⟩, by omega, by go_num, by rw [HS.out, HC1.out], (p0.other HNE1.out _).other HNE1.out _, by (exact blkc), (p7.other HNE2.out _).other HNE2.out _, owns_setB (owns_setB ho HOB.out) HOB.out, by (exact kpt)⟩
                case measure => simp [intOf]
              · have HC1 := Lib.hid (better_ge hc)
                have hd : decide (vOf m B < vOf m ⟨x.alo, x.whi⟩) = false := decide_eq_false hc
                go_wp2
                go_round
                case rel => exact ⟨2, B, by omega, by go_num, by rw [HS.out, HC1.out], by (exact blk), by (exact blk), by (exact blk), ho, by (exact kpt)⟩
                case measure => simp [intOf]
          · simp only [nextC] at HN HS
            replace hi : _ = Value.int .i64 3 := hi
            subst hi
            have HW : IntKind.i64.wrap (4 : Int) = 4 := by decide
            have HR := Lib.hid (fun (w' : World) (h : Kept wr w') => (corn_row (q7.keep h) 3 (by decide) : Row Put.cells 2 w'.heap.size w' (some ⟨_, 6, none⟩) [⟨x.ahi, x.whi⟩]))
            go_upto_region 10 with fail
            go_cut [39] (fun s39 wx => s39 = .bool (decide (vOf m B < vOf m ⟨x.ahi, x.whi⟩)) ∧ Kept wr wx)
            case first =>
              have m0 : ∀ w', Kept wr w' → w'.cell? ⟨w.heap.size, 0, none⟩ = _ := fun w' h => (q0.keep h).cell 0
              have m1 : ∀ w', Kept wr w' → w'.cell? ⟨w.heap.size, 1, none⟩ = _ := fun w' h => (q0.keep h).cell 1
              have m2 : ∀ w', Kept wr w' → w'.cell? ⟨w.heap.size, 2, none⟩ = _ := fun w' h => (q0.keep h).cell 2
              have e0 : ∀ w', Kept wr w' → w'.cell? ⟨w1.heap.size, 0, none⟩ = _ := fun w' h => (qB.keep h).cell 0
              have e1 : ∀ w', Kept wr w' → w'.cell? ⟨w1.heap.size, 1, none⟩ = _ := fun w' h => (qB.keep h).cell 1
              simp at m0 m1 m2 e0 e1
              go_region_held3 (fun w' => Kept wr w') (exact kpt) (first | (go_at_call 77; (with_reducible refine (r_Value1 m _ _ ⟨x.ahi, x.whi⟩ _ (HR.out _ (by (exact kpt))) HM.out HN.out).mono ?_); rintro e w2 ⟨rfl, hb2⟩; obtain ⟨hc2, hf2, hl2⟩ := bcell3 hb2) | (go_at_call 77; (with_reducible refine (r_ValueN m B _ _ _ (by simp) HM.out HB.out).mono ?_); rintro e w3 ⟨rfl, hb3⟩; obtain ⟨hc3, hf3, hl3⟩ := bcell3 hb3) | (go_at_call 77; (with_reducible refine (r_ValueL m B 85 _ _ _ ?_ hb2 HM.out HB.out).mono ?_); (focus (first | exact Blk.drew (Blk.new' (by simp)) | exact Blk.new' (by simp))); rintro e w3 ⟨rfl, hb3⟩; obtain ⟨hc3, hf3, hl3⟩ := bcell3 hb3) | fail)
              all_goals (go_wp2_with fail; go_meet)
              all_goals exact ⟨by first | rfl | (simp; done) | (simp; omega), by (exact kpt)⟩
            case rest =>
              obtain ⟨rfl, hkx⟩ := hcut
              have p0 := q0.keep hkx
              have p7 := q7.keep hkx
              have pB := qB.keep hkx
              have ho := owns_keep hown2 hkx
              clear hown2
              have p7c0 := p7.cell 0
              have p7f0 := p7.free 0
              have p7c1 := p7.cell 1
              have p7f1 := p7.free 1
              have p7c2 := p7.cell 2
              have p7f2 := p7.free 2
              have p7c3 := p7.cell 3
              have p7f3 := p7.free 3
              have p7c4 := p7.cell 4
              have p7f4 := p7.free 4
              have p7c5 := p7.cell 5
              have p7f5 := p7.free 5
              have p7c6 := p7.cell 6
              have p7f6 := p7.free 6
              have p7c7 := p7.cell 7
              have p7f7 := p7.free 7
              have p7l := p7.lt
              simp at p7c0 p7c1 p7c2 p7c3 p7c4 p7c5 p7c6 p7c7
              have pBc0 := pB.cell 0
              have pBf0 := pB.free 0
              have pBc1 := pB.cell 1
              have pBf1 := pB.free 1
              have pBl := pB.lt
              simp at pBc0 pBc1
              by_cases hc : vOf m B < vOf m ⟨x.ahi, x.whi⟩
              · have HC1 := Lib.hid (better_lt hc)
                have hd : decide (vOf m B < vOf m ⟨x.ahi, x.whi⟩) = true := decide_eq_true hc
                go_wp2
                go_round
                case rel => exact ⟨3, ⟨x.ahi, x.whi⟩, by omega, by go_num, by rw [HS.out, HC1.out], (p0.other HNE1.out _).other HNE1.out _, by (exact blkc), (p7.other HNE2.out _).other HNE2.out _, owns_setB (owns_setB ho HOB.out) HOB.out, by (exact kpt)⟩
                case measure => simp [intOf]
              · have HC1 := Lib.hid (better_ge hc)
                have hd : decide (vOf m B < vOf m ⟨x.ahi, x.whi⟩) = false := decide_eq_false hc
                go_wp2
                go_round
                case rel => exact ⟨3, B, by omega, by go_num, by rw [HS.out, HC1.out], by (exact blk), by (exact blk), by (exact blk), ho, by (exact kpt)⟩
                case measure => simp [intOf]
        · obtain rfl : j = 3 := by omega
          obtain rfl : B = best m x := hBj
          replace hi : _ = Value.int .i64 4 := hi
          subst hi
          have qBc0 := qB.cell 0
          have qBf0 := qB.free 0
          have qBc1 := qB.cell 1
          have qBf1 := qB.free 1
          have qBl := qB.lt
          simp at qBc0 qBc1
          go_wp2_with (at_builtin; obtain ⟨i0, hi, hz0, hz1, hz2⟩ := info_parts infoP; refine wpList_append_own _ rfl _ _ 34 rfl w.heap.size 85 i0 (.agg #[.int .i64 0, .int .i64 0]) 2 16 Try.underlying34 hi hz0 hz1 hz2 rfl (by decide) _ _ _ rfl (hown2.alloc _) ⟨wr.heap.size, 0, none⟩ 1 1 [.int .i64 (best m x).pos, .int .i64 (best m x).wt] rfl rfl (cell_two_at rfl _ _ _) (fun x hx => by simp at hx; rcases hx with rfl | rfl <;> rfl) (by unfold maxLen; omega) (by omega) (by simp; omega) ?_; intro v' w3 hown' hgrow hnil; clear hi hz0 hz1 hz2)
          have hk3 : Kept w w3 := Kept.grown (Kept.alloc hkq _) (hown2.alloc _) (Nat.le_refl _) hgrow
          have q03 := Blk.grown (q0.alloc _) (hown2.alloc _) (by decide) hgrow
          go_roundw
          case rel =>
            have hown4 : w3.ownsRow w.heap.size 85 2 v' (k + 1) ((choice m (xs.take (k + 1))).flatMap Put.cells) := by rw [HSN.out]; exact hown'
            first
            | exact ⟨k + 1, by omega, by go_num, q03, hown4, hk3⟩
            | (apply Exists.intro; repeat (apply Exists.intro); refine ⟨?_, rfl⟩; exact ⟨k + 1, by omega, by go_num, q03, hown4, hk3⟩)
          case measure => simp [intOf]; omega
    · obtain rfl : k = xs.length := by omega
      rw [List.take_length] at hown
      have hown2 := hown
      rw [show xs.length = (choice m xs).length from (choice_len m xs).symm] at hown2
      obtain ⟨ad, cp, rfl, _⟩ := owns_row (enc := Put.cells) (k := 2) (fun _ => rfl) hown2
      go_wp2
      exact bodyPost_ret (v := .slice ad (choice m xs).length cp) (by simp [results, Try.results75, go_sem, choice_len]) rfl ⟨_, rfl, hown2, hkk⟩

end Go.Proofs.Ytlloijkmpmfapaa

/-
  Breaches, in the reference.
-/
namespace Go.Proofs.Ytlloijkmpmfapaa
open Go.RowKit Bal Bal.Trim
set_option linter.unusedVariables false
set_option linter.unusedSimpArgs false
set_option maxHeartbeats 800000

set_option maxRecDepth 10000

theorem r_asked (a : Option Addr) (cap : Nat) (xs : List Load) (b : Option Addr) (cb : Nat) (ms : List Limit) (w : World) (hx : Row Load.cells 4 w.heap.size w a xs) (hc : xs.length ≤ cap) (hM : cap ≤ maxLen) (hy : Row Limit.cells 3 w.heap.size w b ms) (hd : ms.length ≤ cb) (hN : cb ≤ maxLen) :
    Calls Try.prog 73 #[.slice a xs.length cap, .slice b ms.length cb] w fun e w' => e = .returned (.int .i64 (both xs ms)) ∧ Kept w w' := by
  unfold both
  by_cases he : checkLoads xs = 0
  · rw [if_pos he]
    have HE := Lib.hid he
    clear he
    go_enter Try.func73, Try.ntmps73
    go_wp2_with (first | (go_at_call 20; (with_reducible refine (r_CheckLoads _ _ _ _ (hx.later (by (exact kpt)) (Nat.le_refl _)) hc hM).mono ?_); rw [HE.out]; rintro e w1 ⟨rfl, hb1⟩; obtain ⟨hc1, hf1, hl1⟩ := bcell3 hb1) | (go_at_call 22; (with_reducible refine (r_CheckLimits _ _ _ _ (hy.later (by (exact kpt)) (Nat.le_refl _)) hd hN).mono ?_); rintro e w2 ⟨rfl, hb2⟩; obtain ⟨hc2, hf2, hl2⟩ := bcell3 hb2))
    go_ret
    exact ⟨rfl, by (exact kpt)⟩
  · rw [if_neg he]
    have hb : (checkLoads xs != 0) = true := by simp [he]
    obtain ⟨E, hEE⟩ : ∃ E, E = checkLoads xs := ⟨_, rfl⟩
    have HE := Lib.hid hEE.symm
    rw [← hEE] at he hb ⊢
    clear hEE
    go_enter Try.func73, Try.ntmps73
    go_wp2_with (go_at_call 20; (with_reducible refine (r_CheckLoads _ _ _ _ (hx.later (by (exact kpt)) (Nat.le_refl _)) hc hM).mono ?_); rw [HE.out]; rintro e w1 ⟨rfl, hb1⟩; obtain ⟨hc1, hf1, hl1⟩ := bcell3 hb1)
    go_ret
    exact ⟨rfl, by (exact kpt)⟩

theorem choice_put {m : Limit} {xs : List Load} (hn : xs.length ≤ 40) (hv : ∀ x ∈ xs, loadB x = true) : (choice m xs).length ≤ 60 ∧ ∀ p ∈ choice m xs, putB p := by
  refine ⟨by rw [choice_len]; omega, fun p hp => ?_⟩
  obtain ⟨x, hx, rfl⟩ := List.mem_map.1 hp
  exact corner_B (hv x hx) (best_mem m x)
def RBrokenRel (w : World) (xs : List Load) (ms : List Limit) (i : Value) (wr : World) : Prop :=
  ∃ k : Nat, k ≤ ms.length ∧ i = .int .i64 k ∧ (∀ j, j < k → brk xs ms j = false) ∧ Kept w wr
theorem r_broken (a : Option Addr) (cap : Nat) (xs : List Load) (b : Option Addr) (cb : Nat) (ms : List Limit) (w : World) (hx : Row Load.cells 4 w.heap.size w a xs) (hc : xs.length ≤ cap) (hM : cap ≤ maxLen) (hy : Row Limit.cells 3 w.heap.size w b ms) (hd : ms.length ≤ cb) (hN : cb ≤ maxLen) (he : both xs ms = 0) :
    Calls Try.prog 74 #[.slice a xs.length cap, .slice b ms.length cb] w fun e w' => e = .returned (.int .i64 (optM (broken xs ms))) ∧ Kept w w' := by
  obtain ⟨he1, he2⟩ := both_ok he
  obtain ⟨hn, hv⟩ := checkLoads_ok he1
  obtain ⟨hn2, hv2⟩ := checkLimits_ok he2
  obtain ⟨Ob, hOb⟩ : ∃ O, O = broken xs ms := ⟨_, rfl⟩
  have HSOME := Lib.hid (fun (k : Nat) (hk : k < ms.length) hb hh => @broken_some xs ms k hk hb hh)
  have HNONE := Lib.hid (fun hb => @broken_none xs ms hb)
  rw [← hOb] at HSOME HNONE ⊢
  clear hOb
  have HN := Lib.hid hn
  have HV := Lib.hid hv
  have HV2 := Lib.hid hv2
  have hNN := hN
  unfold maxLen at hNN
  clear he he1 he2 hv hv2
  go_enter Try.func74, Try.ntmps74
  go_wp2
  go_loopw [5] (fun i wr => RBrokenRel w xs ms i wr) (fun i _ => ms.length - (intOf i).toNat)
  case atStart => exact ⟨0, Nat.zero_le _, rfl, fun j hj => by omega, by (exact kpt)⟩
  case round =>
    obtain ⟨k, hk, rfl, hno, hkk⟩ := hrel
    have HNO := Lib.hid hno
    clear hno
    by_cases hlt : k < ms.length
    · obtain ⟨bm, om, rfl, hbm, l0, l1, l2⟩ := Limit.row (hy.later hkk (Nat.le_refl _)) k hlt
      have HM := Lib.hid (HV2.out ms[k] (List.getElem_mem hlt))
      have HSK := Lib.hid (HSOME.out k hlt HNO.out)
      have HBF := Lib.hid (fun h => @brk_false xs ms k hlt h)
      obtain ⟨m, hm0⟩ : ∃ m, m = ms[k] := ⟨_, rfl⟩
      rw [← hm0] at HM HSK HBF l0 l1 l2
      clear hm0
      obtain ⟨hcl, hcp⟩ := choice_put (m := m) HN.out HV.out
      have HCL := Lib.hid hcl
      have HCP := Lib.hid hcp
      clear hcl hcp
      go_upto_region 4 with fail
      have m0 : ∀ w', Kept wr w' → w'.cell? ⟨bm, om + k * 3, none⟩ = _ := fun w' h => (h.cell (p := ⟨bm, om + k * 3, none⟩) hbm).trans l0
      have m1 : ∀ w', Kept wr w' → w'.cell? ⟨bm, om + k * 3 + 1, none⟩ = _ := fun w' h => (h.cell (p := ⟨bm, om + k * 3 + 1, none⟩) hbm).trans l1
      have m2 : ∀ w', Kept wr w' → w'.cell? ⟨bm, om + k * 3 + 2, none⟩ = _ := fun w' h => (h.cell (p := ⟨bm, om + k * 3 + 2, none⟩) hbm).trans l2
      go_cut [28] (fun s28 wx => s28 = .bool (decide (m.c < worstV m xs)) ∧ Kept wr wx)
      case first =>
        go_region_held3 (fun w' => Kept wr w') (exact kpt) (first | (go_at_call 75; (with_reducible refine (r_worst m _ _ xs _ (hx.later (by (exact kpt)) (Nat.le_refl _)) hc hM HN.out HM.out HV.out).mono ?_); rintro e w2 ⟨v, rfl, ho, hb2⟩; obtain ⟨ad, cp, rfl, hrow, hcp, hcm⟩ := owns_row (enc := Put.cells) (k := 2) (fun _ => rfl) ho) | (go_at_call 77; (with_reducible refine (r_Value m _ _ _ (choice m xs) _ rfl (hrow.later (by (exact kpt)) (Nat.le_refl _)) HCL.out HM.out HCP.out).mono ?_); rintro e w3 ⟨rfl, hb3⟩) | fail)
        all_goals (go_wp2_with fail; go_meet)
        all_goals exact ⟨by first | rfl | (simp [worstV]; done) | trace_state, by (exact kpt)⟩
      case rest =>
        clear m0 m1 m2
        obtain ⟨rfl, hkx⟩ := hcut
        by_cases hgt : m.c < worstV m xs
        · have HS := Lib.hid (HSK.out hgt)
          have hd : decide (m.c < worstV m xs) = true := decide_eq_true hgt
          go_wp2
          go_ret
          exact ⟨ret_int (by rw [HS.out]; rfl), by (exact kpt)⟩
        · have HF := Lib.hid (HBF.out hgt)
          have hd : decide (m.c < worstV m xs) = false := decide_eq_false hgt
          go_wp2
          go_round
          case rel =>
            refine ⟨k + 1, by omega, by go_num, ?_, by (exact kpt)⟩
            intro j hj
            by_cases hjk : j < k
            · exact HNO.out j hjk
            · obtain rfl : j = k := by omega
              exact HF.out
          case measure => simp [intOf]; omega
    · obtain rfl : k = ms.length := by omega
      have HS := Lib.hid (HNONE.out HNO.out)
      go_wp2
      go_ret
      exact ⟨ret_int (by rw [HS.out]; rfl), by (exact kpt)⟩

end Go.Proofs.Ytlloijkmpmfapaa

/-
  Stowages, in the reference: near, and what is asked of a freight.
-/
namespace Go.Proofs.Ytlloijkmpmfapaa
open Go.RowKit Bal Bal.Trim
set_option linter.unusedVariables false
set_option linter.unusedSimpArgs false
set_option maxHeartbeats 4000000
set_option maxRecDepth 10000

theorem r_near (p q : Parcel) (d : Int) (a : Option Addr) (cap : Nat) (rs : List Rule) (w : World) (hx : Row Rule.cells 3 w.heap.size w a rs) (hn : rs.length ≤ 1000) :
    Calls Try.prog 125 #[.agg #[.int .i64 p.wt, .int .i64 p.cls], .agg #[.int .i64 q.wt, .int .i64 q.cls], .int .i64 d, .slice a rs.length cap] w fun e w' => e = .returned (.bool (nearB rs p.cls q.cls d)) ∧ Kept w w' := by
  obtain ⟨R, hR⟩ : ∃ R, R = nearB rs p.cls q.cls d := ⟨_, rfl⟩
  have HRR := Lib.hid hR
  rw [← hR]
  clear hR
  go_enter Try.func125, Try.ntmps125
  go_wp2
  go_loopw [9] (fun i wr => ∃ k : Nat, k ≤ rs.length ∧ i = .int .i64 k ∧ (rs.take k).any (ruleHit p.cls q.cls d) = false ∧ Blk wr w.heap.size #[.int .i64 p.wt, .int .i64 p.cls] 154 ∧ Blk wr (w.heap.size + 1) #[.int .i64 q.wt, .int .i64 q.cls] 154 ∧ Kept w wr) (fun i _ => rs.length - (intOf i).toNat)
  case atStart => exact ⟨0, Nat.zero_le _, rfl, by simp, by (exact blk), by (exact blk), by (exact kpt)⟩
  case round =>
    obtain ⟨k, hk, rfl, ha', r0, r1, hkk⟩ := hrel
    have ha := Lib.hid ha'
    clear ha'
    by_cases hlt : k < rs.length
    · obtain ⟨bb, off, rfl, hbl, g0, g1, g2⟩ := Rule.row (hx.later hkk (Nat.le_refl _)) k hlt
      have HBAD := Lib.hid (show ruleHit p.cls q.cls d rs[k] = true → R = true from fun h => by rw [HRR.out]; exact List.any_eq_true.2 ⟨_, List.getElem_mem hlt, h⟩)
      have HGOOD := Lib.hid (show ruleHit p.cls q.cls d rs[k] = false → (rs.take (k + 1)).any (ruleHit p.cls q.cls d) = false from fun h => by rw [List.take_succ_eq_append_getElem hlt, List.any_append, ha.out]; simp [h])
      obtain ⟨x, hx0⟩ : ∃ x, x = rs[k] := ⟨_, rfl⟩
      rw [← hx0] at HBAD HGOOD g0 g1 g2
      clear hx0
      have hR2 : ruleHit p.cls q.cls d x = (decide (d < x.apart) && (((x.a == p.cls) && (x.b == q.cls)) || ((x.a == q.cls) && (x.b == p.cls)))) := rfl
      obtain ⟨B1, h1⟩ : ∃ B, decide (d < x.apart) = B := ⟨_, rfl⟩
      obtain ⟨B2, h2⟩ : ∃ B, (x.a == p.cls) = B := ⟨_, rfl⟩
      obtain ⟨B3, h3⟩ : ∃ B, (x.b == q.cls) = B := ⟨_, rfl⟩
      obtain ⟨B4, h4⟩ : ∃ B, (x.a == q.cls) = B := ⟨_, rfl⟩
      obtain ⟨B5, h5⟩ : ∃ B, (x.b == p.cls) = B := ⟨_, rfl⟩
      rw [h1, h2, h3, h4, h5] at hR2
      have HR := Lib.hid hR2
      clear hR2
      have j0 : (0 : Int) ≤ (k : Int) := by omega
      have j1 : (k : Int) < (rs.length : Int) := by omega
      have r0c0 := r0.cell 0
      have r0f0 := r0.free 0
      have r0c1 := r0.cell 1
      have r0f1 := r0.free 1
      have r0l := r0.lt
      simp at r0c0 r0c1
      have r1c0 := r1.cell 0
      have r1f0 := r1.free 0
      have r1c1 := r1.cell 1
      have r1f1 := r1.free 1
      have r1l := r1.lt
      simp at r1c0 r1c1
      go_upto_region 5 with fail
      refine at_world (S := fun V => Blk V wr.heap.size #[.int .i64 x.a, .int .i64 x.b, .int .i64 x.apart] 110 ∧ Blk V w.heap.size #[.int .i64 p.wt, .int .i64 p.cls] 154 ∧ Blk V (w.heap.size + 1) #[.int .i64 q.wt, .int .i64 q.cls] 154 ∧ Kept w V) ⟨by (exact blk), by (exact blk), by (exact blk), by (exact kpt)⟩ ?_
      obtain ⟨nx, hnx⟩ : ∃ n, n = wr.heap.size := ⟨_, rfl⟩
      rw [← hnx]
      clear hnx r0 r1 hkk g0 g1 g2 r0c0 r0f0 r0c1 r0f1 r1c0 r1f0 r1c1 r1f1 r0l r1l
      rintro V ⟨rx, r0, r1, hkk⟩
      have r0c0 := r0.cell 0
      have r0f0 := r0.free 0
      have r0c1 := r0.cell 1
      have r0f1 := r0.free 1
      have r0l := r0.lt
      simp at r0c0 r0c1
      have r1c0 := r1.cell 0
      have r1f0 := r1.free 0
      have r1c1 := r1.cell 1
      have r1f1 := r1.free 1
      have r1l := r1.lt
      simp at r1c0 r1c1
      have rxc0 := rx.cell 0
      have rxf0 := rx.free 0
      have rxc1 := rx.cell 1
      have rxf1 := rx.free 1
      have rxc2 := rx.cell 2
      have rxf2 := rx.free 2
      have rxl := rx.lt
      simp at rxc0 rxc1 rxc2
      cases B2
      · skip
        cases B4
        · skip
          have HF := Lib.hid (HGOOD.out (by rw [HR.out]; simp))
          clear HR HBAD HGOOD
          go_wp2
          go_roundw
          case rel => exact ⟨k + 1, by omega, by go_num, HF.out, by (exact blk), by (exact blk), by (exact kpt)⟩
          case measure => simp [intOf]; omega
        · skip
          cases B5
          · skip
            have HF := Lib.hid (HGOOD.out (by rw [HR.out]; simp))
            clear HR HBAD HGOOD
            go_wp2
            go_roundw
            case rel => exact ⟨k + 1, by omega, by go_num, HF.out, by (exact blk), by (exact blk), by (exact kpt)⟩
            case measure => simp [intOf]; omega
          · skip
            cases B1
            · skip
              have HF := Lib.hid (HGOOD.out (by rw [HR.out]; simp))
              clear HR HBAD HGOOD
              go_wp2
              go_roundw
              case rel => exact ⟨k + 1, by omega, by go_num, HF.out, by (exact blk), by (exact blk), by (exact kpt)⟩
              case measure => simp [intOf]; omega
            · skip
              have HF := Lib.hid (HBAD.out (by rw [HR.out]; rfl))
              clear HR HBAD HGOOD
              go_wp2
              go_ret
              exact ⟨ret_bool HF.out.symm, by (exact kpt)⟩
      · skip
        cases B3
        · skip
          cases B4
          · skip
            have HF := Lib.hid (HGOOD.out (by rw [HR.out]; simp))
            clear HR HBAD HGOOD
            go_wp2
            go_roundw
            case rel => exact ⟨k + 1, by omega, by go_num, HF.out, by (exact blk), by (exact blk), by (exact kpt)⟩
            case measure => simp [intOf]; omega
          · skip
            cases B5
            · skip
              have HF := Lib.hid (HGOOD.out (by rw [HR.out]; simp))
              clear HR HBAD HGOOD
              go_wp2
              go_roundw
              case rel => exact ⟨k + 1, by omega, by go_num, HF.out, by (exact blk), by (exact blk), by (exact kpt)⟩
              case measure => simp [intOf]; omega
            · skip
              cases B1
              · skip
                have HF := Lib.hid (HGOOD.out (by rw [HR.out]; rfl))
                clear HR HBAD HGOOD
                go_wp2
                go_roundw
                case rel => exact ⟨k + 1, by omega, by go_num, HF.out, by (exact blk), by (exact blk), by (exact kpt)⟩
                case measure => simp [intOf]; omega
              · skip
                have HF := Lib.hid (HBAD.out (by rw [HR.out]; rfl))
                clear HR HBAD HGOOD
                go_wp2
                go_ret
                exact ⟨ret_bool HF.out.symm, by (exact kpt)⟩
        · skip
          cases B1
          · skip
            have HF := Lib.hid (HGOOD.out (by rw [HR.out]; simp))
            clear HR HBAD HGOOD
            go_wp2
            go_roundw
            case rel => exact ⟨k + 1, by omega, by go_num, HF.out, by (exact blk), by (exact blk), by (exact kpt)⟩
            case measure => simp [intOf]; omega
          · skip
            have HF := Lib.hid (HBAD.out (by rw [HR.out]; rfl))
            clear HR HBAD HGOOD
            go_wp2
            go_ret
            exact ⟨ret_bool HF.out.symm, by (exact kpt)⟩
    · obtain rfl : rs.length = k := by omega
      have HF := Lib.hid (show R = false by rw [HRR.out]; have := ha.out; rwa [List.take_length] at this)
      go_wp2
      go_ret
      exact ⟨ret_bool HF.out.symm, by (exact kpt)⟩

theorem r_stowed (F : Fr) (s : FSpot) (w : World) (hh : FrAt F s w) :
    Calls Try.prog 104 #[.slice s.ax F.xs.length s.cx, .slice s.ah F.hs.length s.ch, .slice s.ap F.ps.length s.cp, .slice s.ar F.rs.length s.cr, .slice s.am F.ms.length s.cm] w fun e w' => e = .returned (.int .i64 (frE F)) ∧ Kept w w' := by
  obtain ⟨E, hE⟩ : ∃ E, E = frE F := ⟨_, rfl⟩
  rw [← hE]
  have hxM := hh.xM
  have hhM := hh.hM
  have hpM := hh.pM
  have hrM := hh.rM
  have hxc := hh.xc
  have hhc := hh.hc
  have hpc := hh.pc
  have hrc := hh.rc
  unfold maxLen at hxM hhM hpM hrM
  by_cases he : both F.xs F.ms = 0
  · have hxn : F.xs.length ≤ 40 := (checkLoads_ok (both_ok he).1).1
    have HE := Lib.hid he
    cases hm : frMany F
    · have HBAD := Lib.hid (show frB F = false → E = 43 from fun h => by rw [hE]; unfold frE; rw [if_pos he, hm, h]; rfl)
      have HOK := Lib.hid (show frB F = true → E = 0 from fun h => by rw [hE]; unfold frE; rw [if_pos he, hm, h]; rfl)
      simp only [frMany, Bool.or_eq_false_iff, decide_eq_false_iff_not] at hm
      obtain ⟨⟨⟨m1, m2⟩, m3⟩, m4⟩ := hm
      clear he hE
      go_enter Try.func104, Try.ntmps104
      go_wp2_with (go_at_call 73; (with_reducible refine (r_asked _ _ _ _ _ _ _ (hh.xs.later (by (exact kpt)) (Nat.le_refl _)) hh.xc hh.xM (hh.ms.later (by (exact kpt)) (Nat.le_refl _)) hh.mc hh.mM).mono ?_); rw [HE.out]; rintro e w1 ⟨rfl, hb1⟩)
      go_loopw [12] (fun i wr => ∃ k : Nat, k ≤ F.hs.length ∧ i = .int .i64 k ∧ (F.hs.take k).all holdB = true ∧ Kept w wr) (fun i _ => F.hs.length - (intOf i).toNat)
      case atStart => exact ⟨0, Nat.zero_le _, rfl, by simp, by (exact kpt)⟩
      case round =>
        obtain ⟨k, hk, rfl, ha', hkk⟩ := hrel
        have ha := Lib.hid ha'
        clear ha'
        by_cases hlt : k < F.hs.length
        · obtain ⟨bb, off, hae, hbl, g0, g1⟩ := Hold.row (hh.hs.later hkk (Nat.le_refl _)) k hlt
          have HT := Lib.hid (fun h => take_all (valid := holdB) hlt ha.out h)
          have HQ := Lib.hid (show holdB F.hs[k] = false → E = 43 from fun h => by rw [HBAD.out (by unfold frB; rw [show F.hs.all holdB = false from List.all_eq_false.2 ⟨_, List.getElem_mem hlt, by rw [h]; simp⟩]; simp)])
          obtain ⟨x, hx0⟩ : ∃ x, x = F.hs[k] := ⟨_, rfl⟩
          rw [← hx0] at HT HQ g0 g1
          clear hx0
          have j0 : (0 : Int) ≤ (k : Int) := by omega
          have j1 : (k : Int) < (F.hs.length : Int) := by omega
          cases c1 : inB x.pos (-20000) 20000
          · have HF := Lib.hid (HQ.out (by unfold holdB; rw [c1]; simp))
            have HB1 := Lib.hid c1
            clear c1 HT HQ
            go_wp2_with (first | (go_at_call 69; (with_reducible refine (r_place _ _).mono ?_); rw [HB1.out]; rintro e w2 ⟨rfl, rfl⟩))
            go_ret; exact ⟨ret_int HF.out.symm, by (exact kpt)⟩
          · skip
            cases c2 : inB x.room 0 1073741824
            · have HF := Lib.hid (HQ.out (by unfold holdB; rw [c1, c2]; simp))
              have HB1 := Lib.hid c1
              have HB2 := Lib.hid c2
              clear c1 c2 HT HQ
              go_wp2_with (first | (go_at_call 69; (with_reducible refine (r_place _ _).mono ?_); rw [HB1.out]; rintro e w2 ⟨rfl, rfl⟩) | (go_at_call 70; (with_reducible refine (r_within _ _ _ _).mono ?_); rw [HB2.out]; rintro e w2 ⟨rfl, rfl⟩))
              go_ret; exact ⟨ret_int HF.out.symm, by (exact kpt)⟩
            · skip
              have HF := Lib.hid (HT.out (by unfold holdB; rw [c1, c2]; rfl))
              have HB1 := Lib.hid c1
              have HB2 := Lib.hid c2
              clear c1 c2 HT HQ
              go_wp2_with (first | (go_at_call 69; (with_reducible refine (r_place _ _).mono ?_); rw [HB1.out]; rintro e w2 ⟨rfl, rfl⟩) | (go_at_call 70; (with_reducible refine (r_within _ _ _ _).mono ?_); rw [HB2.out]; rintro e w2 ⟨rfl, rfl⟩))
              try rw [← hae]
              clear hae
              go_roundw
              case rel => exact ⟨k + 1, by omega, by go_num, HF.out, by (exact kpt)⟩
              case measure => simp [intOf]; omega
        · obtain rfl : F.hs.length = k := by omega
          have VH := Lib.hid (show F.hs.all holdB = true by have := ha.out; rwa [List.take_length] at this)
          clear ha hk hlt
          go_wp2
          go_loopw [13] (fun i wr => ∃ k : Nat, k ≤ F.ps.length ∧ i = .int .i64 k ∧ (F.ps.take k).all parcelB = true ∧ Kept w wr) (fun i _ => F.ps.length - (intOf i).toNat)
          case atStart => exact ⟨0, Nat.zero_le _, rfl, by simp, by (exact kpt)⟩
          case round =>
            obtain ⟨k, hk, rfl, ha', hkk⟩ := hrel
            have ha := Lib.hid ha'
            clear ha'
            by_cases hlt : k < F.ps.length
            · obtain ⟨bb, off, hae, hbl, g0, g1⟩ := Parcel.row (hh.ps.later hkk (Nat.le_refl _)) k hlt
              have HT := Lib.hid (fun h => take_all (valid := parcelB) hlt ha.out h)
              have HQ := Lib.hid (show parcelB F.ps[k] = false → E = 43 from fun h => by rw [HBAD.out (by unfold frB; rw [show F.ps.all parcelB = false from List.all_eq_false.2 ⟨_, List.getElem_mem hlt, by rw [h]; simp⟩]; simp)])
              obtain ⟨x, hx0⟩ : ∃ x, x = F.ps[k] := ⟨_, rfl⟩
              rw [← hx0] at HT HQ g0 g1
              clear hx0
              have j0 : (0 : Int) ≤ (k : Int) := by omega
              have j1 : (k : Int) < (F.ps.length : Int) := by omega
              cases c1 : inB x.wt 1 1000000
              · have HF := Lib.hid (HQ.out (by unfold parcelB; rw [c1]; simp))
                have HB1 := Lib.hid c1
                clear c1 HT HQ
                go_wp2_with (first | (go_at_call 70; (with_reducible refine (r_within _ _ _ _).mono ?_); rw [HB1.out]; rintro e w2 ⟨rfl, rfl⟩))
                go_ret; exact ⟨ret_int HF.out.symm, by (exact kpt)⟩
              · skip
                cases c2 : inB x.cls 0 9
                · have HF := Lib.hid (HQ.out (by unfold parcelB; rw [c1, c2]; simp))
                  have HB1 := Lib.hid c1
                  have HB2 := Lib.hid c2
                  clear c1 c2 HT HQ
                  go_wp2_with (first | (go_at_call 70; (with_reducible refine (r_within _ _ _ _).mono ?_); rw [HB1.out]; rintro e w2 ⟨rfl, rfl⟩) | (go_at_call 70; (with_reducible refine (r_within _ _ _ _).mono ?_); rw [HB2.out]; rintro e w2 ⟨rfl, rfl⟩))
                  go_ret; exact ⟨ret_int HF.out.symm, by (exact kpt)⟩
                · skip
                  have HF := Lib.hid (HT.out (by unfold parcelB; rw [c1, c2]; rfl))
                  have HB1 := Lib.hid c1
                  have HB2 := Lib.hid c2
                  clear c1 c2 HT HQ
                  go_wp2_with (first | (go_at_call 70; (with_reducible refine (r_within _ _ _ _).mono ?_); rw [HB1.out]; rintro e w2 ⟨rfl, rfl⟩) | (go_at_call 70; (with_reducible refine (r_within _ _ _ _).mono ?_); rw [HB2.out]; rintro e w2 ⟨rfl, rfl⟩))
                  try rw [← hae]
                  clear hae
                  go_roundw
                  case rel => exact ⟨k + 1, by omega, by go_num, HF.out, by (exact kpt)⟩
                  case measure => simp [intOf]; omega
            · obtain rfl : F.ps.length = k := by omega
              have VP := Lib.hid (show F.ps.all parcelB = true by have := ha.out; rwa [List.take_length] at this)
              clear ha hk hlt
              go_wp2
              go_loopw [14] (fun i wr => ∃ k : Nat, k ≤ F.rs.length ∧ i = .int .i64 k ∧ (F.rs.take k).all ruleB = true ∧ Kept w wr) (fun i _ => F.rs.length - (intOf i).toNat)
              case atStart => exact ⟨0, Nat.zero_le _, rfl, by simp, by (exact kpt)⟩
              case round =>
                obtain ⟨k, hk, rfl, ha', hkk⟩ := hrel
                have ha := Lib.hid ha'
                clear ha'
                by_cases hlt : k < F.rs.length
                · obtain ⟨bb, off, hae, hbl, g0, g1, g2⟩ := Rule.row (hh.rs.later hkk (Nat.le_refl _)) k hlt
                  have HT := Lib.hid (fun h => take_all (valid := ruleB) hlt ha.out h)
                  have HQ := Lib.hid (show ruleB F.rs[k] = false → E = 43 from fun h => by rw [HBAD.out (by unfold frB; rw [show F.rs.all ruleB = false from List.all_eq_false.2 ⟨_, List.getElem_mem hlt, by rw [h]; simp⟩]; simp)])
                  obtain ⟨x, hx0⟩ : ∃ x, x = F.rs[k] := ⟨_, rfl⟩
                  rw [← hx0] at HT HQ g0 g1 g2
                  clear hx0
                  have j0 : (0 : Int) ≤ (k : Int) := by omega
                  have j1 : (k : Int) < (F.rs.length : Int) := by omega
                  cases c1 : inB x.a 0 9
                  · have HF := Lib.hid (HQ.out (by unfold ruleB; rw [c1]; simp))
                    have HB1 := Lib.hid c1
                    clear c1 HT HQ
                    go_wp2_with (first | (go_at_call 70; (with_reducible refine (r_within _ _ _ _).mono ?_); rw [HB1.out]; rintro e w2 ⟨rfl, rfl⟩))
                    go_ret; exact ⟨ret_int HF.out.symm, by (exact kpt)⟩
                  · skip
                    cases c2 : inB x.b 0 9
                    · have HF := Lib.hid (HQ.out (by unfold ruleB; rw [c1, c2]; simp))
                      have HB1 := Lib.hid c1
                      have HB2 := Lib.hid c2
                      clear c1 c2 HT HQ
                      go_wp2_with (first | (go_at_call 70; (with_reducible refine (r_within _ _ _ _).mono ?_); rw [HB1.out]; rintro e w2 ⟨rfl, rfl⟩) | (go_at_call 70; (with_reducible refine (r_within _ _ _ _).mono ?_); rw [HB2.out]; rintro e w2 ⟨rfl, rfl⟩))
                      go_ret; exact ⟨ret_int HF.out.symm, by (exact kpt)⟩
                    · skip
                      cases c3 : inB x.apart 1 5
                      · have HF := Lib.hid (HQ.out (by unfold ruleB; rw [c1, c2, c3]; simp))
                        have HB1 := Lib.hid c1
                        have HB2 := Lib.hid c2
                        have HB3 := Lib.hid c3
                        clear c1 c2 c3 HT HQ
                        go_wp2_with (first | (go_at_call 70; (with_reducible refine (r_within _ _ _ _).mono ?_); rw [HB1.out]; rintro e w2 ⟨rfl, rfl⟩) | (go_at_call 70; (with_reducible refine (r_within _ _ _ _).mono ?_); rw [HB2.out]; rintro e w2 ⟨rfl, rfl⟩) | (go_at_call 70; (with_reducible refine (r_within _ _ _ _).mono ?_); rw [HB3.out]; rintro e w2 ⟨rfl, rfl⟩))
                        go_ret; exact ⟨ret_int HF.out.symm, by (exact kpt)⟩
                      · skip
                        have HF := Lib.hid (HT.out (by unfold ruleB; rw [c1, c2, c3]; rfl))
                        have HB1 := Lib.hid c1
                        have HB2 := Lib.hid c2
                        have HB3 := Lib.hid c3
                        clear c1 c2 c3 HT HQ
                        go_wp2_with (first | (go_at_call 70; (with_reducible refine (r_within _ _ _ _).mono ?_); rw [HB1.out]; rintro e w2 ⟨rfl, rfl⟩) | (go_at_call 70; (with_reducible refine (r_within _ _ _ _).mono ?_); rw [HB2.out]; rintro e w2 ⟨rfl, rfl⟩) | (go_at_call 70; (with_reducible refine (r_within _ _ _ _).mono ?_); rw [HB3.out]; rintro e w2 ⟨rfl, rfl⟩))
                        try rw [← hae]
                        clear hae
                        go_roundw
                        case rel => exact ⟨k + 1, by omega, by go_num, HF.out, by (exact kpt)⟩
                        case measure => simp [intOf]; omega
                · obtain rfl : F.rs.length = k := by omega
                  have VR := Lib.hid (show F.rs.all ruleB = true by have := ha.out; rwa [List.take_length] at this)
                  clear ha hk hlt
                  have HF := Lib.hid (show E = 0 from HOK.out (by unfold frB; rw [VH.out, VP.out, VR.out]; rfl))
                  go_wp2
                  go_ret; exact ⟨ret_int HF.out.symm, by (exact kpt)⟩
    · have HF := Lib.hid (show E = 4 by rw [hE]; unfold frE; rw [if_pos he, hm]; rfl)
      simp only [frMany, Bool.or_eq_true, decide_eq_true_eq] at hm
      clear he hE
      by_cases m1 : 5 < F.hs.length
      · clear hm
        go_enter Try.func104, Try.ntmps104; go_wp2_with (go_at_call 73; (with_reducible refine (r_asked _ _ _ _ _ _ _ (hh.xs.later (by (exact kpt)) (Nat.le_refl _)) hh.xc hh.xM (hh.ms.later (by (exact kpt)) (Nat.le_refl _)) hh.mc hh.mM).mono ?_); rw [HE.out]; rintro e w1 ⟨rfl, hb1⟩); go_ret; exact ⟨ret_int HF.out.symm, by (exact kpt)⟩
      by_cases m2 : 6 < F.ps.length
      · clear hm
        go_enter Try.func104, Try.ntmps104; go_wp2_with (go_at_call 73; (with_reducible refine (r_asked _ _ _ _ _ _ _ (hh.xs.later (by (exact kpt)) (Nat.le_refl _)) hh.xc hh.xM (hh.ms.later (by (exact kpt)) (Nat.le_refl _)) hh.mc hh.mM).mono ?_); rw [HE.out]; rintro e w1 ⟨rfl, hb1⟩); go_ret; exact ⟨ret_int HF.out.symm, by (exact kpt)⟩
      by_cases m3 : 20 < F.rs.length
      · clear hm
        go_enter Try.func104, Try.ntmps104; go_wp2_with (go_at_call 73; (with_reducible refine (r_asked _ _ _ _ _ _ _ (hh.xs.later (by (exact kpt)) (Nat.le_refl _)) hh.xc hh.xM (hh.ms.later (by (exact kpt)) (Nat.le_refl _)) hh.mc hh.mM).mono ?_); rw [HE.out]; rintro e w1 ⟨rfl, hb1⟩); go_ret; exact ⟨ret_int HF.out.symm, by (exact kpt)⟩
      have m4 : 40 < F.xs.length + F.ps.length := by omega
      clear hm
      go_enter Try.func104, Try.ntmps104; go_wp2_with (go_at_call 73; (with_reducible refine (r_asked _ _ _ _ _ _ _ (hh.xs.later (by (exact kpt)) (Nat.le_refl _)) hh.xc hh.xM (hh.ms.later (by (exact kpt)) (Nat.le_refl _)) hh.mc hh.mM).mono ?_); rw [HE.out]; rintro e w1 ⟨rfl, hb1⟩); go_ret; exact ⟨ret_int HF.out.symm, by (exact kpt)⟩
  · have HE0 := Lib.hid (show both F.xs F.ms = E by rw [hE]; unfold frE; rw [if_neg he])
    have HE := HE0
    have hb : (E != 0) = true := by rw [← HE0.out]; simp [he]
    have hb2 : ¬ (E = 0) := by rw [← HE0.out]; exact he
    clear he hE
    go_enter Try.func104, Try.ntmps104; go_wp2_with (go_at_call 73; (with_reducible refine (r_asked _ _ _ _ _ _ _ (hh.xs.later (by (exact kpt)) (Nat.le_refl _)) hh.xc hh.xM (hh.ms.later (by (exact kpt)) (Nat.le_refl _)) hh.mc hh.mM).mono ?_); rw [HE.out]; rintro e w1 ⟨rfl, hb1⟩); go_ret; exact ⟨rfl, by (exact kpt)⟩

end Go.Proofs.Ytlloijkmpmfapaa

/-
  Stowages, in the reference: what may be one, CheckStow.
-/
namespace Go.Proofs.Ytlloijkmpmfapaa
open Go.RowKit Bal Bal.Trim
set_option linter.unusedVariables false
set_option linter.unusedSimpArgs false
set_option maxHeartbeats 4000000
set_option maxRecDepth 10000

theorem r_fault_len (F : Fr) (s : FSpot) (w : World) (hh : FrAt F s w) (a : Option Addr) (cap : Nat) (t : List Int) (ht : Row icell 1 w.heap.size w a t) (hc : t.length ≤ cap) (hM : cap ≤ maxLen) (hl : t.length ≠ F.ps.length) :
    Calls Try.prog 105 #[.slice s.ax F.xs.length s.cx, .slice s.ah F.hs.length s.ch, .slice s.ap F.ps.length s.cp, .slice s.ar F.rs.length s.cr, .slice s.am F.ms.length s.cm, .slice a t.length cap] w fun e w' => e = .returned (.int .i64 2) ∧ Kept w w' := by
  have l1 : ((t.length : Int) != (F.ps.length : Int)) = true := by simp; omega
  have l3 : ((t.length : Int) = (F.ps.length : Int)) = False := by simp; omega
  go_enter Try.func105, Try.ntmps105
  go_wp2
  go_ret
  exact ⟨rfl, by (exact kpt)⟩
theorem r_fault_arg (F : Fr) (s : FSpot) (w : World) (hh : FrAt F s w) (ho : FrOk F) (a : Option Addr) (cap : Nat) (t : List Int) (ht : Row icell 1 w.heap.size w a t) (hc : t.length ≤ cap) (hM : cap ≤ maxLen) (hl : t.length = F.ps.length) (hv : t.any (outB F.hs.length) = true) :
    Calls Try.prog 105 #[.slice s.ax F.xs.length s.cx, .slice s.ah F.hs.length s.ch, .slice s.ap F.ps.length s.cp, .slice s.ar F.rs.length s.cr, .slice s.am F.ms.length s.cm, .slice a t.length cap] w fun e w' => e = .returned (.int .i64 2) ∧ Kept w w' := by
  have l1 : ((t.length : Int) != (F.ps.length : Int)) = false := by simp [hl]
  have l3 : ((t.length : Int) = (F.ps.length : Int)) = True := by simp [hl]
  have hn := ho.hn
  have HV := Lib.hid hv
  have hpn := ho.pn
  have htl : t.length ≤ 6 := by omega
  clear hl hv
  have u1 : wrap64 ((F.hs.length : Int) - 1) = (F.hs.length : Int) - 1 := by unfold wrap64; omega
  have u2 : IntKind.i64.wrap ((F.hs.length : Int) - 1) = (F.hs.length : Int) - 1 := by rw [IntKind.wrap_i64]; omega
  go_enter Try.func105, Try.ntmps105
  go_wp2
  go_loopw [13] (fun i wr => ∃ k : Nat, k ≤ t.length ∧ i = .int .i64 k ∧ (t.take k).any (outB F.hs.length) = false ∧ Kept w wr) (fun i _ => t.length - (intOf i).toNat)
  case atStart => exact ⟨0, Nat.zero_le _, rfl, by simp, by (exact kpt)⟩
  case round =>
    obtain ⟨k, hk, rfl, ha', hkk⟩ := hrel
    have ha := Lib.hid ha'
    clear ha'
    by_cases hlt : k < t.length
    · obtain ⟨bs, os, rfl, _, gs⟩ := int_row (ht.later hkk (Nat.le_refl _)) k hlt
      have HGOOD := Lib.hid (show outB F.hs.length t[k] = false → (t.take (k + 1)).any (outB F.hs.length) = false from fun h => by rw [List.take_succ_eq_append_getElem hlt, List.any_append, ha.out]; simp [h])
      obtain ⟨x, hx0⟩ : ∃ x, x = t[k] := ⟨_, rfl⟩
      rw [← hx0] at HGOOD gs
      clear hx0
      have j0 : (0 : Int) ≤ (k : Int) := by omega
      have j1 : (k : Int) < (t.length : Int) := by omega
      cases c1 : inB x 0 ((F.hs.length : Int) - 1)
      · have HB1 := Lib.hid c1
        clear c1 HGOOD
        go_wp2_with (go_at_call 70; (with_reducible refine (r_within _ _ _ _).mono ?_); rw [HB1.out]; rintro e w2 ⟨rfl, rfl⟩)
        go_ret
        exact ⟨rfl, by (exact kpt)⟩
      · have HF := Lib.hid (HGOOD.out (by unfold outB; rw [c1]; rfl))
        have HB1 := Lib.hid c1
        clear c1 HGOOD
        go_wp2_with (go_at_call 70; (with_reducible refine (r_within _ _ _ _).mono ?_); rw [HB1.out]; rintro e w2 ⟨rfl, rfl⟩)
        go_roundw
        case rel => exact ⟨k + 1, by omega, by go_num, HF.out, by (exact kpt)⟩
        case measure => simp [intOf]; omega
    · exfalso
      have h1 := ha.out
      rw [List.take_of_length_le (by omega), HV.out] at h1
      cases h1

theorem r_fault_main (F : Fr) (s : FSpot) (w : World) (hh : FrAt F s w) (ho : FrOk F) (a : Option Addr) (cap : Nat) (x : List Nat) (ht : Row icell 1 w.heap.size w a (ints x)) (hc : x.length ≤ cap) (hM : cap ≤ maxLen) (hl : x.length = F.ps.length) (hs : ∀ k ∈ x, k < F.hs.length) :
    Calls Try.prog 105 #[.slice s.ax F.xs.length s.cx, .slice s.ah F.hs.length s.ch, .slice s.ap F.ps.length s.cp, .slice s.ar F.rs.length s.cr, .slice s.am F.ms.length s.cm, .slice a x.length cap] w fun e w' => e = .returned (.int .i64 (faultS F x)) ∧ Kept w w' := by
  have l1 : ((x.length : Int) != (F.ps.length : Int)) = false := by simp [hl]
  have l3 : ((x.length : Int) = (F.ps.length : Int)) = True := by simp [hl]
  have HO := Lib.hid ho
  have HS := Lib.hid hs
  have hn := ho.hn
  have hpn := ho.pn
  have hrn := ho.rn
  have hln := ho.ln
  have hxl : x.length ≤ 6 := by omega
  have HL := Lib.hid hl
  obtain ⟨R, hR⟩ : ∃ R, R = faultS F x := ⟨_, rfl⟩
  have HR := Lib.hid hR
  rw [← hR]
  clear hl hs ho hR
  have u1 : wrap64 ((F.hs.length : Int) - 1) = (F.hs.length : Int) - 1 := by unfold wrap64; omega
  have u2 : IntKind.i64.wrap ((F.hs.length : Int) - 1) = (F.hs.length : Int) - 1 := by rw [IntKind.wrap_i64]; omega
  obtain ⟨ax, ah, ap, ar, am, cx, ch, cp, cr, cm⟩ := s
  have hxs := hh.xs
  have hhs := hh.hs
  have hps := hh.ps
  have hrs := hh.rs
  have hms := hh.ms
  have hmc := hh.mc
  have hmM := hh.mM
  have hxz := hh.xz
  have hxc := hh.xc
  have hxM := hh.xM
  have hhM := hh.hM
  have hhc := hh.hc
  have hpM := hh.pM
  have hpc := hh.pc
  dsimp only at hxs hhs hps hrs hms hmc hmM hxz hxc hxM hhM hhc hpM hpc
  clear hh
  unfold maxLen at hxM hhM hpM
  go_enter Try.func105, Try.ntmps105
  go_wp2
  go_loopw [13] (fun i wr => ∃ k : Nat, k ≤ x.length ∧ i = .int .i64 k ∧ Kept w wr) (fun i _ => x.length - (intOf i).toNat)
  case atStart => exact ⟨0, Nat.zero_le _, rfl, by (exact kpt)⟩
  case round =>
    obtain ⟨k, hk, rfl, hkk⟩ := hrel
    by_cases hlt : k < x.length
    · obtain ⟨bs, os, rfl, _, gs⟩ := int_row (ht.later hkk (Nat.le_refl _)) k (by rw [ints_len]; exact hlt)
      have gs2 : wr.cell? ⟨bs, os + k, none⟩ = some (.int .i64 (x[k] : Int)) := by simpa [ints] using gs
      have hkh := HS.out _ (List.getElem_mem hlt)
      have HB1 := Lib.hid (show inB (x[k] : Int) 0 ((F.hs.length : Int) - 1) = true by simp [inB]; omega)
      obtain ⟨y, hy0⟩ : ∃ y, y = x[k] := ⟨_, rfl⟩
      rw [← hy0] at HB1 gs2
      clear hy0 gs hkh
      have j0 : (0 : Int) ≤ (k : Int) := by omega
      have j1 : (k : Int) < (x.length : Int) := by omega
      go_wp2_with (go_at_call 70; (with_reducible refine (r_within _ _ _ _).mono ?_); rw [HB1.out]; rintro e w2 ⟨rfl, rfl⟩)
      go_roundw
      case rel => exact ⟨k + 1, by omega, by go_num, by (exact kpt)⟩
      case measure => simp [intOf]; omega
    · obtain rfl : x.length = k := by omega
      go_wp2
      clear hk hlt
      go_loopw [14] (fun i wr => ∃ k : Nat, k ≤ F.hs.length ∧ i = .int .i64 k ∧ (∀ j, j < k → 0 ≤ leftIn F x j) ∧ Kept w wr) (fun i _ => F.hs.length - (intOf i).toNat)
      case atStart => exact ⟨0, Nat.zero_le _, rfl, by intro j h; omega, hkk⟩
      case round =>
        clear hkk
        obtain ⟨k, hk, rfl, hno', hkk⟩ := hrel
        have HNO := Lib.hid hno'
        clear hno'
        by_cases hlt : k < F.hs.length
        · go_wp2
          go_loopw [15, 16] (fun sv i wr => ∃ j : Nat, j ≤ x.length ∧ i = .int .i64 j ∧ sv = .int .i64 (wtIn F.ps (x.take j) k) ∧ Kept w wr) (fun _ i _ => x.length - (intOf i).toNat)
          case atStart => exact ⟨0, Nat.zero_le _, rfl, by simp [wtIn], hkk⟩
          case round =>
            clear hkk
            obtain ⟨j, hj, rfl, rfl, hkk⟩ := hrel
            by_cases hlt2 : j < x.length
            · have hjp : j < F.ps.length := by have := HL.out; omega
              have hwt := wtIn_take (ps := F.ps) k hlt2 (by have := HL.out; omega)
              have hsb := wtIn_bd (ps := F.ps) (fun p hp => by have := parcel_bd (HO.out.pB p hp); omega) (x.take j) k
              have hpb := parcel_bd (HO.out.pB _ (List.getElem_mem hjp))
              obtain ⟨bs, os, rfl, _, gs⟩ := int_row (ht.later hkk (Nat.le_refl _)) j (by rw [ints_len]; exact hlt2)
              obtain ⟨bp, op, rfl, hbp, p0, _⟩ := Parcel.row (hps.later hkk (Nat.le_refl _)) j hjp
              have gs2 : wr.cell? ⟨bs, os + j, none⟩ = some (.int .i64 (x[j] : Int)) := by simpa [ints] using gs
              obtain ⟨Sv, hSv⟩ : ∃ S, S = wtIn F.ps (x.take j) k := ⟨_, rfl⟩
              obtain ⟨P, hP⟩ : ∃ P, P = F.ps[j].wt := ⟨_, rfl⟩
              obtain ⟨y, hy0⟩ : ∃ y, y = x[j] := ⟨_, rfl⟩
              rw [← hSv, ← hP, ← hy0] at hwt
              rw [← hSv] at hsb ⊢
              rw [← hP] at hpb p0
              rw [← hy0] at gs2
              clear gs hy0 hP hSv
              have v1 : wrap64 (Sv + P) = Sv + P := by unfold wrap64; omega
              have v2 : IntKind.i64.wrap (Sv + P) = Sv + P := by rw [IntKind.wrap_i64]; omega
              have j0 : (0 : Int) ≤ (j : Int) := by omega
              have j1 : (j : Int) < (x.length : Int) := by omega
              have j2 : (j : Int) < (F.ps.length : Int) := by omega
              by_cases hyk : y = k
              · subst hyk
                rw [if_pos rfl] at hwt
                have HW := Lib.hid hwt
                clear hwt
                go_wp2
                go_roundw
                case rel => exact ⟨j + 1, by omega, by go_num, by rw [HW.out], by (exact kpt)⟩
                case measure => simp [intOf]; omega
              · rw [if_neg hyk, Int.add_zero] at hwt
                have HW := Lib.hid hwt
                have hyk2 : ¬ ((y : Int) = (k : Int)) := by omega
                clear hwt
                go_wp2
                go_roundw
                case rel => exact ⟨j + 1, by omega, by go_num, by rw [HW.out], by (exact kpt)⟩
                case measure => simp [intOf]; omega
            · obtain rfl : x.length = j := by omega
              rw [List.take_length]
              have hlf : leftIn F x k = F.hs[k].room - wtIn F.ps x k := by unfold leftIn; rw [hsAt_eq hlt]
              obtain ⟨bh, oh, rfl, hbh, _, g1⟩ := Hold.row (hhs.later hkk (Nat.le_refl _)) k hlt
              obtain ⟨Sv, hSv⟩ : ∃ S, S = wtIn F.ps x k := ⟨_, rfl⟩
              obtain ⟨r, hr⟩ : ∃ r, r = F.hs[k].room := ⟨_, rfl⟩
              rw [← hSv, ← hr] at hlf
              rw [← hSv]
              rw [← hr] at g1
              clear hr hSv
              have j0 : (0 : Int) ≤ (k : Int) := by omega
              have j1 : (k : Int) < (F.hs.length : Int) := by omega
              by_cases hgt : r < Sv
              · have HF := Lib.hid (show R = 44 by rw [HR.out]; exact rooms_bad hlt (by omega))
                clear hlf
                go_wp2
                go_ret
                exact ⟨ret_int HF.out.symm, by (exact kpt)⟩
              · have HF := Lib.hid (show ∀ j, j < k + 1 → 0 ≤ leftIn F x j from fun j hj => by
                  rcases Nat.lt_or_ge j k with h | h
                  · exact HNO.out j h
                  · obtain rfl : j = k := by omega
                    omega)
                clear hlf
                go_wp2
                go_roundw
                case rel => exact ⟨k + 1, by omega, by go_num, HF.out, by (exact kpt)⟩
                case measure => simp [intOf]; omega
        · obtain rfl : F.hs.length = k := by omega
          have HRO := Lib.hid (rooms_good (F := F) (s := x) HNO.out)
          clear hk hlt HNO
          go_wp2
          go_loopw [17] (fun i wr => ∃ j : Nat, j ≤ x.length ∧ i = .int .i64 j ∧ (∀ i', i' < j → ∀ j', j' < i' → nearAt F x i' (x.getD i' 0 : Nat) j' = false) ∧ Kept w wr) (fun i _ => x.length - (intOf i).toNat)
          case atStart => exact ⟨0, Nat.zero_le _, rfl, by intro i' h; omega, hkk⟩
          case round =>
            clear hkk
            obtain ⟨i, hi, rfl, hno', hkk⟩ := hrel
            have HNO := Lib.hid hno'
            clear hno'
            by_cases hlt : i < x.length
            · go_wp2
              go_loopw [18] (fun i2 wr => ∃ j : Nat, j ≤ i ∧ i2 = .int .i64 j ∧ (∀ j', j' < j → nearAt F x i (x.getD i 0 : Nat) j' = false) ∧ Kept w wr) (fun i2 _ => i - (intOf i2).toNat)
              case atStart => exact ⟨0, Nat.zero_le _, rfl, by intro j' h; omega, hkk⟩
              case round =>
                clear hkk
                obtain ⟨j, hj, rfl, hno', hkk⟩ := hrel
                have HNJ := Lib.hid hno'
                clear hno'
                by_cases hlt2 : j < i
                · have hjx : j < x.length := by omega
                  have hip : i < F.ps.length := by have := HL.out; omega
                  have hjp : j < F.ps.length := by omega
                  obtain ⟨bs, os, hae, hbs, gi⟩ := int_row ht i (by rw [ints_len]; exact hlt)
                  obtain ⟨bs', os', hae', _, gj⟩ := int_row ht j (by rw [ints_len]; exact hjx)
                  obtain ⟨rfl, rfl⟩ : bs = bs' ∧ os = os' := by rw [hae] at hae'; simpa using hae'
                  obtain ⟨bp, op, hpe, hbp, pi0, pi1⟩ := Parcel.row hps i hip
                  obtain ⟨bp', op', hpe', _, pj0, pj1⟩ := Parcel.row hps j hjp
                  obtain ⟨rfl, rfl⟩ : bp = bp' ∧ op = op' := by rw [hpe] at hpe'; simpa using hpe'
                  rw [← psAt_eq hip] at pi0 pi1
                  rw [← psAt_eq hjp] at pj0 pj1
                  have hki : x[i] < F.hs.length := HS.out _ (List.getElem_mem hlt)
                  have hkj : x[j] < F.hs.length := HS.out _ (List.getElem_mem hjx)
                  have e1 : x.getD i 0 = x[i] := by simp [List.getD_eq_getElem?_getD, hlt]
                  have e2 : x.getD j 0 = x[j] := by simp [List.getD_eq_getElem?_getD, hjx]
                  have hne := near_eq (F := F) (s := x) (i := i) (j := j)
                  have HS0 := (show nearAt F x i (x.getD i 0 : Nat) j = false → ∀ j', j' < j + 1 → nearAt F x i (x.getD i 0 : Nat) j' = false from fun h j' hj' => by
                    rcases Nat.lt_or_ge j' j with h' | h'
                    · exact HNJ.out j' h'
                    · obtain rfl : j' = j := by omega
                      exact h)
                  have HBD := Lib.hid (show nearAt F x i (x.getD i 0 : Nat) j = true → R = 45 from fun h => by rw [HR.out]; exact near_bad HRO.out hlt hlt2 h)
                  rw [e1, e2] at hne
                  have gi2 : w.cell? ⟨bs, os + i, none⟩ = some (.int .i64 (x[i] : Int)) := by simpa [ints] using gi
                  have gj2 : w.cell? ⟨bs, os + j, none⟩ = some (.int .i64 (x[j] : Int)) := by simpa [ints] using gj
                  obtain ⟨ti, hti⟩ : ∃ t, t = x[i] := ⟨_, rfl⟩
                  obtain ⟨tj, htj⟩ : ∃ t, t = x[j] := ⟨_, rfl⟩
                  rw [← hti, ← htj] at hne
                  rw [← hti] at gi2 hki
                  rw [← htj] at gj2 hkj
                  obtain ⟨p, hp0⟩ : ∃ p, p = psAt F i := ⟨_, rfl⟩
                  obtain ⟨q, hq0⟩ : ∃ q, q = psAt F j := ⟨_, rfl⟩
                  rw [← hp0, ← hq0] at hne
                  rw [← hp0] at pi0 pi1
                  rw [← hq0] at pj0 pj1
                  obtain ⟨V, hV⟩ : ∃ V, V = nearB F.rs p.cls q.cls (gap ti tj) := ⟨_, rfl⟩
                  rw [← hV, hti, ← e1] at hne
                  rw [hne] at HBD HS0
                  have HST := Lib.hid HS0
                  clear HS0
                  have HN := Lib.hid (fun (W : World) (hW : Kept w W) => (by
                    have := r_near p q (gap ti tj) ar cr F.rs W (hrs.later hW (Nat.le_refl _)) (by omega)
                    rwa [← hV] at this : Calls Try.prog 125 #[.agg #[.int .i64 p.wt, .int .i64 p.cls], .agg #[.int .i64 q.wt, .int .i64 q.cls], .int .i64 (max ((ti : Int) - tj) ((tj : Int) - ti)), .slice ar F.rs.length cr] W fun e w' => e = .returned (.bool V) ∧ Kept W w'))
                  have y0 : ∀ W, Kept wr W → W.cell? ⟨bs, os + i, none⟩ = _ := fun W g => ((Kept.drop hkk g).cell (p := ⟨bs, os + i, none⟩) hbs).trans gi2
                  have y1 : ∀ W, Kept wr W → W.cell? ⟨bs, os + j, none⟩ = _ := fun W g => ((Kept.drop hkk g).cell (p := ⟨bs, os + j, none⟩) hbs).trans gj2
                  have z0 : ∀ W, Kept wr W → W.cell? ⟨bp, op + i * 2, none⟩ = _ := fun W g => ((Kept.drop hkk g).cell (p := ⟨bp, op + i * 2, none⟩) hbp).trans pi0
                  have z1 : ∀ W, Kept wr W → W.cell? ⟨bp, op + i * 2 + 1, none⟩ = _ := fun W g => ((Kept.drop hkk g).cell (p := ⟨bp, op + i * 2 + 1, none⟩) hbp).trans pi1
                  have z2 : ∀ W, Kept wr W → W.cell? ⟨bp, op + j * 2, none⟩ = _ := fun W g => ((Kept.drop hkk g).cell (p := ⟨bp, op + j * 2, none⟩) hbp).trans pj0
                  have z3 : ∀ W, Kept wr W → W.cell? ⟨bp, op + j * 2 + 1, none⟩ = _ := fun W g => ((Kept.drop hkk g).cell (p := ⟨bp, op + j * 2 + 1, none⟩) hbp).trans pj1
                  clear hne e1 e2 gi gj gi2 gj2 pi0 pi1 pj0 pj1 hti htj hV hae' hpe' hp0 hq0
                  subst hae
                  subst hpe
                  have j0 : (0 : Int) ≤ (j : Int) := by omega
                  have j1 : (j : Int) < (x.length : Int) := by omega
                  have j2 : (0 : Int) ≤ (i : Int) := by omega
                  have j3 : (i : Int) < (x.length : Int) := by omega
                  have j4 : (j : Int) < (F.ps.length : Int) := by omega
                  have j5 : (i : Int) < (F.ps.length : Int) := by omega
                  have v1 : IntKind.i64.wrap ((ti : Int) - tj) = (ti : Int) - tj := by rw [IntKind.wrap_i64]; omega
                  have v2 : IntKind.i64.wrap ((tj : Int) - ti) = (tj : Int) - ti := by rw [IntKind.wrap_i64]; omega
                  go_upto_region 25 with fail
                  refine held_walk (fun w' => Kept wr w') [(true, 0), (true, 1), (true, 2), (true, 3), (true, 4), (true, 5), (true, 6), (true, 7), (true, 8), (true, 9), (true, 10), (true, 11), (true, 12), (true, 13), (true, 14), (true, 15), (true, 16), (true, 17), (true, 18), (true, 19), (true, 20), (true, 21), (true, 22), (true, 23), (true, 24), (true, 25), (true, 26), (true, 27), (false, 28)] 28 (by kernel_rfl) (by kernel_rfl) (fun c a d v w h => by cases d <;> exact h) (Below.drew (Below.refl _ _)) ?_
                  simp only [List.filterMap_cons, List.filterMap_nil, List.getElem?_cons_zero, List.getElem?_cons_succ, Option.map_some]
                  iterate 26 (refine held_take ?_ ?_ (fun w' hS => ?_) ?_; rotate_left 1; (focus rfl); (focus (have vy0 := y0 _ hS; have vy1 := y1 _ hS; have vz0 := z0 _ hS; have vz1 := z1 _ hS; have vz2 := z2 _ hS; have vz3 := z3 _ hS; first | (go_simp; done) | (go_simp; with_reducible rfl))); simp only [Act.put, List.setIfInBounds_toArray, List.set_cons_zero, List.set_cons_succ])
                  refine held_take (.int .i64 (max ((ti : Int) - tj) ((tj : Int) - ti))) rfl (fun w' hS => ?_) ?_; (focus (first | (go_simp; done) | (go_simp; simp only [ite_max]; done) | (go_simp; split <;> (congr 3; omega)) | (go_simp; simp; split <;> omega))); simp only [Act.put, List.setIfInBounds_toArray, List.set_cons_zero, List.set_cons_succ]
                  refine held_take ?_ ?_ (fun w' hS => ?_) ?_; rotate_left 1; (focus rfl); (focus (have vy0 := y0 _ hS; have vy1 := y1 _ hS; have vz0 := z0 _ hS; have vz1 := z1 _ hS; have vz2 := z2 _ hS; have vz3 := z3 _ hS; first | (go_simp; done) | (go_simp; with_reducible rfl))); simp only [Act.put, List.setIfInBounds_toArray, List.set_cons_zero, List.set_cons_succ]
                  refine held_one ?_
                  refine wpList_plain rfl fun K1 hK1 => ?_
                  go_wp2_with (go_at_call 125; (with_reducible refine (HN.out _ (by (exact kpt))).mono ?_); rintro e w5 ⟨rfl, hb5⟩)
                  (first | refine held_end ?_ | (refine onward_on ?_; first | refine held_nil ?_ | refine ⟨.inl trivial, held_nil ?_⟩ | refine ⟨.inl rfl, held_nil ?_⟩))
                  clear y0 y1 z0 z1 z2 z3
                  cases V with
                  | true =>
                    have HB := Lib.hid (HBD.out rfl)
                    go_wp2
                    go_ret
                    exact ⟨ret_int HB.out.symm, by (exact kpt)⟩
                  | false =>
                    have HB := Lib.hid (HST.out rfl)
                    go_wp2
                    go_roundw
                    case rel => exact ⟨j + 1, by omega, by go_num, HB.out, by (exact kpt)⟩
                    case measure => simp [intOf]; omega
                · obtain rfl : i = j := by omega
                  have HB := Lib.hid (show ∀ i', i' < i + 1 → ∀ j', j' < i' → nearAt F x i' (x.getD i' 0 : Nat) j' = false from fun i' hi' => by
                    rcases Nat.lt_or_ge i' i with h' | h'
                    · exact HNO.out i' h'
                    · obtain rfl : i' = i := by omega
                      exact HNJ.out)
                  go_wp2
                  go_roundw
                  case rel => exact ⟨i + 1, by omega, by go_num, HB.out, hkk⟩
                  case measure => simp [intOf]; omega
            · obtain rfl : x.length = i := by omega
              have HNA := Lib.hid (near_good (F := F) (s := x) HNO.out)
              have HRF := Lib.hid (show R = if offB F x then 46 else 0 by rw [HR.out]; exact fault_last HRO.out HNA.out)
              clear hi hlt
              go_upto_region 27 with fail
              refine at_world (S := fun W => Kept w W) (by (exact kpt)) ?_
              clear hkk
              rintro WB hkB
              have hzB := hkB.size
              have HOM := Lib.hid (owns_made (α := Load) (enc := Load.cells) (base := WB.heap.size) (k := 4) (n := WB.heap.size) (e := 88) (w := WB) rfl (Nat.le_refl _))
              go_wp2_with (at_builtin; obtain ⟨i0, hi, hz0, hz1, hz2⟩ := info_parts infoLoad; refine wpList_append_list (enc := Load.cells) rfl _ _ 22 rfl WB.heap.size 88 i0 (.agg #[.int .i64 0, .int .i64 0, .int .i64 0, .int .i64 0]) 4 32 Try.underlying22 hi hz0 hz1 hz2 rfl (by decide) (fun _ => rfl) (fun x u hu => by simp [Load.cells] at hu; rcases hu with rfl | rfl | rfl | rfl <;> rfl) _ [] rfl HOM.out ax cx F.xs rfl hxz (B := w.heap.size) (hxs.keep (by (exact kpt)) (Nat.le_refl _)) (by simp [maxLen]; omega) (by simp; omega) (by simp) ?_; intro v9 w9 hown9 hgrow9; clear hi hz0 hz1 hz2)
              have hk9 : Kept WB w9 := Kept.grown (Kept.alloc (Below.refl _ _) _) HOM.out (Nat.le_refl _) hgrow9
              rw [List.nil_append] at hown9
              clear hgrow9
              go_loopw [19, 20] (fun s5 i wq => ∃ j : Nat, j ≤ x.length ∧ i = .int .i64 j ∧ wq.ownsRow WB.heap.size 88 4 s5 (F.xs ++ (puts F x).take j).length ((F.xs ++ (puts F x).take j).flatMap Load.cells) ∧ Kept WB wq) (fun _ i _ => x.length - (intOf i).toNat)
              case atStart => exact ⟨0, Nat.zero_le _, rfl, by simpa using hown9, hk9⟩
              case round =>
                clear hown9 hk9
                obtain ⟨j, hj, rfl, hown, hkq⟩ := hrel
                have hkw := Kept.drop hkB hkq
                have hzq := hkq.size
                have hlen : (F.xs ++ (puts F x).take j).length ≤ 40 := by rw [List.length_append, List.length_take, puts_len (by have := HL.out; omega)]; have := HL.out; omega
                by_cases hlt : j < x.length
                · obtain ⟨bs, os, rfl, _, gs⟩ := int_row (ht.later hkw (Nat.le_refl _)) j (by rw [ints_len]; exact hlt)
                  have hkj : x[j] < F.hs.length := HS.out _ (List.getElem_mem hlt)
                  have hpj : j < F.ps.length := by have := HL.out; omega
                  obtain ⟨bh, oh, rfl, hbh, g0, _⟩ := Hold.row (hhs.later hkw (Nat.le_refl _)) x[j] hkj
                  obtain ⟨bp, op, rfl, hbp, q0, _⟩ := Parcel.row (hps.later hkw (Nat.le_refl _)) j hpj
                  have HP := Lib.hid (puts_take (F := F) hlt (by have := HL.out; omega))
                  have gs2 : wr.cell? ⟨bs, os + j, none⟩ = some (.int .i64 (x[j] : Int)) := by simpa [ints] using gs
                  rw [← hsAt_eq hkj] at g0
                  rw [← psAt_eq hpj] at q0
                  obtain ⟨y, hy⟩ : ∃ y : Put, y = ⟨(hsAt F x[j]).pos, (psAt F j).wt⟩ := ⟨_, rfl⟩
                  rw [← hy] at HP
                  rw [show (hsAt F x[j]).pos = y.pos by rw [hy]] at g0
                  rw [show (psAt F j).wt = y.wt by rw [hy]] at q0
                  obtain ⟨k, hk0⟩ : ∃ k, k = x[j] := ⟨_, rfl⟩
                  rw [← hk0] at gs2 g0 hkj
                  clear hk0 hy gs
                  have x0 := fun g : Later wr => g.some g0
                  have x1 := fun g : Later wr => g.some q0
                  have x2 := fun g : Later wr => g.some gs2
                  have j0 : (0 : Int) ≤ (j : Int) := by omega
                  have j1 : (j : Int) < (F.ps.length : Int) := by omega
                  have j2 : (0 : Int) ≤ (k : Int) := by omega
                  have j3 : (k : Int) < (F.hs.length : Int) := by omega
                  have j4 : (j : Int) < (x.length : Int) := by omega
                  go_upto_region 31 with fail
                  refine later_mix [(true, 0), (false, 1), (false, 2), (false, 3), (false, 4), (false, 5), (false, 6), (false, 7), (false, 8), (false, 9), (false, 10), (false, 11), (false, 12), (false, 13), (false, 14)] 15 [16, 17] (by kernel_rfl) (by kernel_rfl) ?_
                  simp only [List.filterMap_cons, List.filterMap_nil, List.getElem?_cons_zero, List.getElem?_cons_succ, Option.map_some]
                  refine wpSteps_any _ rfl (fun w => rfl) ?_
                  simp only [Act.put, List.setIfInBounds_toArray, List.set_cons_zero, List.set_cons_succ]
                  repeat (refine wpSteps_quiet ?_; (first | go_big_quiet_skip | (go_big_quiet_want; go_big_quiet_op; first | go_big_quiet_on | (apply Exists.intro; refine ⟨fun g => ?_, ?_⟩; (focus (first | (go_at_call 98; with_reducible exact Later.call (r_exactly y _)))); go_big_quiet_on))); refine wpQuiet_nil ?_)
                  refine wpSteps_nil ?_
                  intro gg
                  have hown1 := owns_keep hown gg.ok
                  refine wpList_plain rfl fun K1 hK1 => ?_
                  go_simp
                  refine hK1 _ _ ?_
                  (obtain ⟨i0, hi, hz0, hz1, hz2⟩ := info_parts infoLoad; refine wpList_append_own _ rfl _ _ 22 rfl WB.heap.size 88 i0 (.agg #[.int .i64 0, .int .i64 0, .int .i64 0, .int .i64 0]) 4 32 Try.underlying22 hi hz0 hz1 hz2 rfl (by decide) _ _ _ rfl (hown1.alloc _) ⟨_, 0, none⟩ 1 1 [.int .i64 y.pos, .int .i64 y.pos, .int .i64 y.wt, .int .i64 y.wt] rfl rfl (cells_four _ _ _ _ _ _) (by intro x hx; simp only [List.mem_cons, List.not_mem_nil, or_false] at hx; rcases hx with rfl | rfl | rfl | rfl <;> rfl) (by unfold maxLen; omega) (by omega) (by have := gg.ok.size; simp only [World.size_alloc] at this ⊢; omega) ?_; intro v9 w9 hown9 hgrow9 hnil9; clear hi hz0 hz1 hz2)
                  have hK9 : Kept WB w9 := Kept.grown (Kept.alloc (Kept.drop hkq gg.ok) _) (hown1.alloc _) (Nat.le_refl _) hgrow9
                  go_wp2
                  refine NoPanic.normal ?_
                  go_wp2
                  go_roundw
                  case rel => exact ⟨j + 1, by omega, by go_num, by rw [HP.out, ← List.append_assoc, List.flatMap_append, List.length_append]; exact hown9, hK9⟩
                  case measure => simp [intOf]; omega
                · obtain rfl : x.length = j := by omega
                  have hT : (puts F x).take x.length = puts F x := List.take_of_length_le (by rw [puts_len (by have := HL.out; omega)]; omega)
                  rw [hT] at hown
                  obtain ⟨L, hL⟩ : ∃ L, L = F.xs ++ puts F x := ⟨_, rfl⟩
                  rw [← hL] at hown
                  obtain ⟨ad, cpp, rfl, hrow, hcp, hcm⟩ := owns_row (enc := Load.cells) (k := 4) (fun _ => rfl) hown
                  have HBr := r_broken ad cpp L am cm F.ms wr hrow hcp hcm (hms.later hkw (Nat.le_refl _)) hmc hmM (by rw [hL]; exact puts_both HO.out HS.out (by have := HL.out; omega))
                  have hO : offB F x = (broken L F.ms).isSome := by rw [hL]; rfl
                  cases hOb : broken L F.ms with
                  | none =>
                    rw [hOb] at HBr hO
                    simp only [optM] at HBr
                    have HF := Lib.hid (show R = 0 by rw [HRF.out, hO]; rfl)
                    clear hO hOb hL hown hrow
                    go_wp2_with (go_at_call 74; (with_reducible refine HBr.mono ?_); rintro e w7 ⟨rfl, hb7⟩)
                    go_ret
                    exact ⟨ret_int HF.out.symm, by (exact kpt)⟩
                  | some b0 =>
                    rw [hOb] at HBr hO
                    simp only [optM] at HBr
                    have HF := Lib.hid (show R = 46 by rw [HRF.out, hO]; rfl)
                    clear hO hOb hL hown hrow
                    go_wp2_with (go_at_call 74; (with_reducible refine HBr.mono ?_); rintro e w7 ⟨rfl, hb7⟩)
                    go_ret
                    exact ⟨ret_int HF.out.symm, by (exact kpt)⟩

end Go.Proofs.Ytlloijkmpmfapaa

/-
  Stowages, in the reference: CheckStow, Stow.
-/
namespace Go.Proofs.Ytlloijkmpmfapaa
open Go.RowKit Bal Bal.Trim
set_option linter.unusedVariables false
set_option linter.unusedSimpArgs false
set_option maxHeartbeats 4000000
set_option maxRecDepth 10000

theorem r_fault (F : Fr) (s : FSpot) (w : World) (hh : FrAt F s w) (ho : FrOk F) (a : Option Addr) (cap : Nat) (t : List Int) (ht : Row icell 1 w.heap.size w a t) (hc : t.length ≤ cap) (hM : cap ≤ maxLen) :
    Calls Try.prog 105 #[.slice s.ax F.xs.length s.cx, .slice s.ah F.hs.length s.ch, .slice s.ap F.ps.length s.cp, .slice s.ar F.rs.length s.cr, .slice s.am F.ms.length s.cm, .slice a t.length cap] w fun e w' => e = .returned (.int .i64 (if argS F t then faultS F (t.map Int.toNat) else 2)) ∧ Kept w w' := by
  cases ha : argS F t
  · rw [if_neg (by simp)]
    by_cases hl : t.length = F.ps.length
    · refine r_fault_arg F s w hh ho a cap t ht hc hM hl ?_
      rw [List.any_eq_true]
      unfold argS at ha
      rw [decide_eq_true hl, Bool.true_and, List.all_eq_false] at ha
      obtain ⟨k, hk, hv⟩ := ha
      exact ⟨k, hk, by unfold outB; simpa using hv⟩
    · exact r_fault_len F s w hh a cap t ht hc hM hl
  · rw [if_pos rfl]
    obtain ⟨h1, x, rfl, h2, h3⟩ := argS_ok ha
    rw [h2]
    have := r_fault_main F s w hh ho a cap x ht (by simpa using hc) hM (by simpa using h1) h3
    rwa [← List.length_map (f := Int.ofNat)] at this
theorem r_CheckStow (F : Fr) (s : FSpot) (w : World) (hh : FrAt F s w) (a : Option Addr) (cap : Nat) (t : List Int) (ht : Row icell 1 w.heap.size w a t) (hc : t.length ≤ cap) (hM : cap ≤ maxLen) :
    Calls Try.prog 47 #[.slice s.ax F.xs.length s.cx, .slice s.ah F.hs.length s.ch, .slice s.ap F.ps.length s.cp, .slice s.ar F.rs.length s.cr, .slice s.am F.ms.length s.cm, .slice a t.length cap] w fun e w' => e = .returned (.int .i64 (checkStowE F t)) ∧ Kept w w' := by
  unfold checkStowE
  by_cases he : frE F = 0
  · rw [if_pos he]
    have ho := frE_ok he
    have HE := Lib.hid he
    have HFL := Lib.hid (fun (W : World) (hW : Kept w W) => r_fault F s W (hh.later hW) ho a cap t (ht.later hW (Nat.le_refl _)) hc hM)
    obtain ⟨R, hR⟩ : ∃ R, R = (if argS F t then faultS F (t.map Int.toNat) else 2) := ⟨_, rfl⟩
    rw [← hR] at HFL ⊢
    clear hR he ho
    go_enter Try.func47, Try.ntmps47
    go_wp2_with (first | (go_at_call 104; (with_reducible refine (r_stowed F s _ (hh.later (by (exact kpt)))).mono ?_); rw [HE.out]; rintro e w1 ⟨rfl, hb1⟩) | (go_at_call 105; (with_reducible refine (HFL.out _ (by (exact kpt))).mono ?_); rintro e w2 ⟨rfl, hb2⟩))
    go_ret
    exact ⟨rfl, by (exact kpt)⟩
  · rw [if_neg he]
    obtain ⟨E, hE⟩ : ∃ E, E = frE F := ⟨_, rfl⟩
    have HE := Lib.hid hE.symm
    rw [← hE] at he ⊢
    have e1 : (E != 0) = true := by simp [he]
    clear hE
    go_enter Try.func47, Try.ntmps47
    go_wp2_with (go_at_call 104; (with_reducible refine (r_stowed F s _ (hh.later (by (exact kpt)))).mono ?_); rw [HE.out]; rintro e w1 ⟨rfl, hb1⟩)
    go_ret
    exact ⟨rfl, by (exact kpt)⟩
/-! ### The digits, one by one from the last -/
theorem digs_get (H : Nat) : ∀ (m n k : Nat), k < m → (digs H m n)[m - 1 - k]? = some (n / H ^ k % H)
  | 0, n, k, h => by omega
  | m + 1, n, 0, _ => by
    rw [digs, List.getElem?_append_right (by rw [digs_len]; omega), digs_len]
    simp
  | m + 1, n, k + 1, h => by
    rw [digs, List.getElem?_append_left (by rw [digs_len]; omega), show m + 1 - 1 - (k + 1) = m - 1 - k by omega, digs_get H m (n / H) k (by omega), Nat.div_div_eq_div_mul, Nat.pow_succ, Nat.mul_comm H]
/-- the last digits as far as they were laid: the first c are not yet -/
def digTo (T : List Nat) (c : Nat) : List Nat := List.replicate c 0 ++ T.drop c
theorem digTo_len {T : List Nat} {c : Nat} (h : c ≤ T.length) : (digTo T c).length = T.length := by simp [digTo]; omega
theorem digTo_set {T : List Nat} {i : Nat} (h : i < T.length) : (digTo T (i + 1)).set i T[i] = digTo T i := by
  unfold digTo
  rw [List.drop_eq_getElem_cons h, List.replicate_succ', List.append_assoc, List.set_append, if_neg (by simp), List.length_replicate, Nat.sub_self]
  simp
theorem digTo_zero (T : List Nat) : digTo T 0 = T := by simp [digTo]
theorem digTo_all (T : List Nat) : digTo T T.length = List.replicate T.length 0 := by simp [digTo]
theorem pow_bd {H P : Nat} (hH : H ≤ 5) (hP : P ≤ 6) (i : Nat) (hi : i ≤ P) : H ^ i ≤ 15625 :=
  Nat.le_trans (Nat.pow_le_pow_left hH i) (Nat.le_trans (Nat.pow_le_pow_right (by omega) (show i ≤ 6 by omega)) (by decide))
def oE (o : Option (List Nat)) : Int := match o with | some _ => 0 | none => 6
def oX (o : Option (List Nat)) : List Nat := match o with | some x => x | none => []
theorem r_Stow_bad (F : Fr) (s : FSpot) (w : World) (hh : FrAt F s w) (he : frE F ≠ 0) :
    Calls Try.prog 45 #[.slice s.ax F.xs.length s.cx, .slice s.ah F.hs.length s.ch, .slice s.ap F.ps.length s.cp, .slice s.ar F.rs.length s.cr, .slice s.am F.ms.length s.cm] w fun e w' => e = .returned (.tuple #[.slice none 0 0, .int .i64 (frE F)]) ∧ Kept w w' := by
  obtain ⟨E, hE⟩ : ∃ E, E = frE F := ⟨_, rfl⟩
  have HE := Lib.hid hE.symm
  rw [← hE] at he ⊢
  have e1 : (E != 0) = true := by simp [he]
  clear hE
  go_enter Try.func45, Try.ntmps45
  go_wp2_with (go_at_call 104; (with_reducible refine (r_stowed F s _ (hh.later (by (exact kpt)))).mono ?_); rw [HE.out]; rintro e w1 ⟨rfl, hb1⟩)
  exact bodyPost_ret (v := .tuple #[.slice none 0 0, .int .i64 E]) (by simp [results, Try.results45, go_sem]) rfl ⟨rfl, by (exact kpt)⟩
theorem r_Stow_main (F : Fr) (s : FSpot) (w : World) (hh : FrAt F s w) (he : frE F = 0) :
    Calls Try.prog 45 #[.slice s.ax F.xs.length s.cx, .slice s.ah F.hs.length s.ch, .slice s.ap F.ps.length s.cp, .slice s.ar F.rs.length s.cr, .slice s.am F.ms.length s.cm] w fun e w' => ∃ (a' : Option Addr) (n' c' : Nat), e = .returned (.tuple #[.slice a' n' c', .int .i64 (oE (stowS F))]) ∧ n' = (oX (stowS F)).length ∧ Row icell 1 w'.heap.size w' a' (ints (oX (stowS F))) ∧ n' ≤ c' ∧ c' ≤ maxLen ∧ Kept w w' := by
  have ho := frE_ok he
  have HO := Lib.hid ho
  have HE := Lib.hid he
  have hn := ho.hn
  have hpn := ho.pn
  have hpc := hh.pc
  have hhc := hh.hc
  obtain ⟨H, hH⟩ : ∃ H, H = F.hs.length := ⟨_, rfl⟩
  obtain ⟨P, hP⟩ : ∃ P, P = F.ps.length := ⟨_, rfl⟩
  have hfound := fun n hn hno h => stow_found (F := F) (n := n) hn hno h
  have hnone := fun hno => stow_none (F := F) hno
  have HFT := Lib.hid (fun (W : World) (x : List Nat) (g : Nat) (hW : Kept w W) (hx : x.length = F.ps.length) (hs : ∀ k ∈ x, k < F.hs.length) (hb : Blk W g (ncells x) 3) => (by
    have := r_fault_main F s W (hh.later hW) ho (some ⟨g, 0, none⟩) x.length x (row_ints hb) (Nat.le_refl _) (by unfold maxLen; omega) hx hs
    rwa [hx] at this : Calls Try.prog 105 #[.slice s.ax F.xs.length s.cx, .slice s.ah F.hs.length s.ch, .slice s.ap F.ps.length s.cp, .slice s.ar F.rs.length s.cr, .slice s.am F.ms.length s.cm, .slice (some ⟨g, 0, none⟩) F.ps.length F.ps.length] W fun e w' => e = .returned (.int .i64 (faultS F x)) ∧ Kept W w'))
  have hmk := run_makeI F.ps.length (by omega)
  have HST := Lib.hid (fun (W : World) (hW : Kept w W) => (by
    have := r_stowed F s W (hh.later hW)
    rwa [he] at this : Calls Try.prog 104 #[.slice s.ax F.xs.length s.cx, .slice s.ah F.hs.length s.ch, .slice s.ap F.ps.length s.cp, .slice s.ar F.rs.length s.cr, .slice s.am F.ms.length s.cm] W fun e w' => e = .returned (.int .i64 0) ∧ Kept W w'))
  simp only [← hH, ← hP] at hfound hnone HFT HST hmk hhc hpc hn hpn
  rw [← hH, ← hP]
  obtain ⟨o, ho2⟩ : ∃ o, o = stowS F := ⟨_, rfl⟩
  rw [← ho2] at hfound hnone ⊢
  have HFD := Lib.hid hfound
  have HNN := Lib.hid hnone
  clear hfound hnone ho he ho2 hH hP
  go_enter Try.func45, Try.ntmps45
  go_wp2_with (go_at_call 104; (with_reducible refine (HST.out _ (by (exact kpt))).mono ?_); rintro e w1 ⟨rfl, hb1⟩)
  go_loopw [13, 14] (fun s13 i wr => ∃ k : Nat, k ≤ P ∧ i = .int .i64 k ∧ s13 = .int .i64 ((H ^ k : Nat) : Int) ∧ Kept w wr) (fun _ i _ => P - (intOf i).toNat)
  case atStart => exact ⟨0, Nat.zero_le _, rfl, by simp, by (exact kpt)⟩
  case round =>
    obtain ⟨k, hk, rfl, rfl, hkk⟩ := hrel
    have hq := pow_bd hn hpn k hk
    by_cases hlt : k < P
    · have hq2 := pow_bd hn hpn (k + 1) hlt
      have hps := Nat.pow_succ H k
      have HC := Lib.hid (show ((H ^ k : Nat) : Int) * (H : Int) = ((H ^ (k + 1) : Nat) : Int) by rw [hps, Int.natCast_mul])
      obtain ⟨q, hq0⟩ : ∃ q, q = H ^ k := ⟨_, rfl⟩
      obtain ⟨q', hq0'⟩ : ∃ q, q = H ^ (k + 1) := ⟨_, rfl⟩
      rw [← hq0, ← hq0'] at HC
      rw [← hq0] at hq ⊢
      rw [← hq0'] at hq2
      have HQ := Lib.hid hq0'
      have u0 : (q : Int) * (H : Int) = (q' : Int) := HC.out
      clear hq0 hq0' hps
      have u1 : wrap64 (q' : Int) = (q' : Int) := by clear u0; unfold wrap64; omega
      have u2 : IntKind.i64.wrap (q' : Int) = (q' : Int) := by clear u0; rw [IntKind.wrap_i64]; omega
      go_wp2
      go_roundw
      case rel => exact ⟨k + 1, by omega, by go_num, by rw [HQ.out], by (exact kpt)⟩
      case measure => simp [intOf]; omega
    · obtain rfl : P = k := by omega
      obtain ⟨N, hN⟩ : ∃ N, N = H ^ P := ⟨_, rfl⟩
      have HPOS := Lib.hid (show 0 < N → 0 < P → 0 < H from fun h1 h2 => by
        rcases Nat.eq_zero_or_pos H with h | h
        · subst h; rw [hN, Nat.zero_pow h2] at h1; exact h1
        · exact h)
      have HHP := Lib.hid (show 0 < N → ∀ (n : Nat), ∀ k ∈ digs H P n, k < H from fun h1 n k hk => by
        rcases Nat.eq_zero_or_pos P with h | h
        · subst h; simp [digs] at hk
        · refine digs_lt ?_ P n k hk
          rcases Nat.eq_zero_or_pos H with h0 | h0
          · subst h0; rw [hN, Nat.zero_pow h] at h1; omega
          · exact h0)
      rw [← hN] at HFD HNN hq ⊢
      clear hN hk hlt
      go_wp2
      go_loopw [15] (fun s15 wr => ∃ n : Nat, n ≤ N ∧ s15 = .int .i64 n ∧ (∀ j, j < n → okS F (digs H P j) = false) ∧ Kept w wr) (fun s15 _ => N - (intOf s15).toNat)
      case atStart => exact ⟨0, Nat.zero_le _, rfl, by intro j h; omega, hkk⟩
      case round =>
        clear hkk
        obtain ⟨n, hnN, rfl, hno', hkk⟩ := hrel
        have HNO := Lib.hid hno'
        clear hno'
        by_cases hlt : n < N
        · have HGOOD := Lib.hid (show okS F (digs H P n) = true → o = some (digs H P n) from fun h => HFD.out n hlt HNO.out h)
          have HNEXT := Lib.hid (show okS F (digs H P n) = false → ∀ j, j < n + 1 → okS F (digs H P j) = false from fun h j hj => by
            rcases Nat.lt_or_ge j n with h' | h'
            · exact HNO.out j h'
            · obtain rfl : j = n := by omega
              exact h)
          have HLT := Lib.hid (HHP.out (by omega) n)
          have HGET := Lib.hid (fun k hk => digs_get H P n k hk)
          obtain ⟨T, hT⟩ : ∃ T, T = digs H P n := ⟨_, rfl⟩
          have hTl : T.length = P := by rw [hT]; exact digs_len H P n
          rw [← hT] at HGOOD HNEXT HLT HGET
          have hall := digTo_all T
          rw [hTl] at hall
          have HALL := Lib.hid hall
          have HTL := Lib.hid hTl
          have hHpos : 0 < P → 0 < H := HPOS.out (by omega)
          clear hT hall hTl
          go_upto_region 13 with fail
          refine at_world (S := fun V => Blk V wr.heap.size (ncells (digTo T P)) 3 ∧ Kept w V ∧ w.heap.size ≤ wr.heap.size) ⟨by rw [HALL.out]; (exact blk), by (exact kpt), hkk.size⟩ ?_
          obtain ⟨g, hg⟩ : ∃ g, g = wr.heap.size := ⟨_, rfl⟩
          rw [← hg]
          clear hg hkk
          rintro V ⟨r0, hkk, hgs⟩
          go_wp2
          go_loopw [17, 18] (fun s17 s18 wr => ∃ (c : Nat) (z : Int), c ≤ P ∧ z = (c : Int) - 1 ∧ s18 = .int .i64 z ∧ s17 = .int .i64 ((n / H ^ (P - c) : Nat) : Int) ∧ Blk wr g (ncells (digTo T c)) 3 ∧ Kept w wr) (fun _ s18 _ => (intOf s18 + 1).toNat)
          case atStart => exact ⟨P, (P : Int) - 1, Nat.le_refl _, rfl, by go_num, by simp, r0, hkk⟩
          case round =>
            clear r0 hkk
            obtain ⟨c, z, hc, hz, rfl, rfl, r0, hkk⟩ := hrel
            have HTL2 := HTL.out
            rcases Nat.eq_zero_or_pos c with h0 | h0
            · subst h0
              obtain rfl : z = -1 := by omega
              rw [digTo_zero] at r0
              clear hz hc
              obtain ⟨E, hE⟩ : ∃ E, E = faultS F T := ⟨_, rfl⟩
              have hok : okS F T = decide (E = 0) := by rw [hE]; rfl
              have HFL := Lib.hid (fun (W : World) (hW : Kept w W) (hb : Blk W g (ncells T) 3) => (by
                have := HFT.out W T g hW HTL.out HLT.out hb
                rwa [← hE] at this : Calls Try.prog 105 #[.slice s.ax F.xs.length s.cx, .slice s.ah H s.ch, .slice s.ap P s.cp, .slice s.ar F.rs.length s.cr, .slice s.am F.ms.length s.cm, .slice (some ⟨g, 0, none⟩) P P] W fun e w' => e = .returned (.int .i64 E) ∧ Kept W w'))
              by_cases h00 : E = 0
              · subst h00
                have HF := Lib.hid (HGOOD.out (by rw [hok]; rfl))
                have HTLh := Lib.hid HTL2
                clear hE hok HTL2
                go_wp2_with (go_at_call 105; (with_reducible refine (HFL.out _ (by (exact kpt)) ?_).mono ?_); (focus (exact blk)); rintro e w2 ⟨rfl, hb2⟩)
                refine bodyPost_ret (v := .tuple #[.slice (some ⟨g, 0, none⟩) P P, .int .i64 0]) (by simp [results, Try.results45, go_sem]) rfl ⟨some ⟨g, 0, none⟩, P, P, ?_, ?_, ?_, Nat.le_refl _, by unfold maxLen; omega, by (exact kpt)⟩
                · rw [HF.out]; rfl
                · rw [HF.out]; exact HTLh.out.symm
                · rw [HF.out]; exact row_ints (r0.keep hb2)
              · have HF := Lib.hid (HNEXT.out (by rw [hok]; exact decide_eq_false h00))
                have e0 : (E == 0) = false := by simp [h00]
                clear hE hok HTL2
                go_wp2_with (go_at_call 105; (with_reducible refine (HFL.out _ (by (exact kpt)) ?_).mono ?_); (focus (exact blk)); rintro e w2 ⟨rfl, hb2⟩)
                go_roundw
                case rel => exact ⟨n + 1, by omega, by go_num, HF.out, by (exact kpt)⟩
                case measure => simp [intOf]; omega
            · obtain ⟨i, rfl⟩ : ∃ i, c = i + 1 := ⟨c - 1, by omega⟩
              obtain rfl : z = (i : Int) := by omega
              have hiT : i < T.length := by omega
              have hgt := HGET.out (P - (i + 1)) (by omega)
              rw [show P - 1 - (P - (i + 1)) = i by omega, List.getElem?_eq_getElem hiT] at hgt
              have hset := digTo_set hiT
              simp only [Option.some.injEq] at hgt
              rw [hgt] at hset
              have hpw : n / H ^ (P - i) = n / H ^ (P - (i + 1)) / H := by rw [Nat.div_div_eq_div_mul, show P - i = (P - (i + 1)) + 1 by omega, Nat.pow_succ]
              have hRb : n / H ^ (P - (i + 1)) ≤ n := Nat.div_le_self _ _
              obtain ⟨R, hR⟩ : ∃ R, R = n / H ^ (P - (i + 1)) := ⟨_, rfl⟩
              rw [← hR] at hset hpw hRb ⊢
              have hHp := hHpos (by omega)
              have hHz : ¬ ((H : Int) = 0) := by omega
              have d1 : (R : Int).tmod (H : Int) = ((R % H : Nat) : Int) := by rw [Int.tmod_eq_emod_of_nonneg (by omega)]; simp
              have d2 : (R : Int).tdiv (H : Int) = ((R / H : Nat) : Int) := by rw [Int.tdiv_eq_ediv_of_nonneg (by omega)]; simp
              have d3 : (R : Int) % (H : Int) = ((R % H : Nat) : Int) := by simp
              have d4 : (R : Int) / (H : Int) = ((R / H : Nat) : Int) := by simp
              have hd := Nat.mod_lt R hHp
              have hd2 := Nat.div_le_self R H
              obtain ⟨D, hD⟩ : ∃ D, D = R % H := ⟨_, rfl⟩
              obtain ⟨Q, hQ⟩ : ∃ Q, Q = R / H := ⟨_, rfl⟩
              rw [← hD] at d1 d3 hd hset
              rw [← hQ] at d2 d4 hd2 hpw
              have g0 := r0.cell i
              have hlen := digTo_len (T := T) (c := i + 1) (by omega)
              rw [ncells_at (by rw [hlen]; exact hiT)] at g0
              have g1 := r0.free i
              have gl := r0.lt
              have HR0 := Lib.hid (show ∀ W, Blk W g ((ncells (digTo T (i + 1))).setIfInBounds i (.int .i64 (D : Int))) 3 → Blk W g (ncells (digTo T i)) 3 from fun W h => by rw [ncells_set, hset] at h; exact h)
              have HS0 := Lib.hid (r0.set i (.int .i64 (D : Int)))
              have HPW := Lib.hid hpw
              clear hgt hset hR hD hQ hz hpw r0
              have j0 : (0 : Int) ≤ (i : Int) := by omega
              have j1 : (i : Int) < (P : Int) := by omega
              go_wp2
              go_roundw
              case rel => exact ⟨i, (i : Int) - 1, by omega, rfl, by go_num, by rw [HPW.out], HR0.out _ HS0.out, by (exact kpt)⟩
              case measure => first | (simp [intOf]; done) | (simp [intOf]; omega)
        · obtain rfl : N = n := by omega
          have HF := Lib.hid (HNN.out HNO.out)
          go_wp2
          refine bodyPost_ret (v := .tuple #[.slice none 0 0, .int .i64 6]) (by simp [results, Try.results45, go_sem]) rfl ⟨none, 0, 0, ?_, ?_, ?_, Nat.le_refl _, by simp [maxLen], by (exact kpt)⟩
          · rw [HF.out]; rfl
          · rw [HF.out]; rfl
          · rw [HF.out]; exact Row.nil
theorem r_Stow (F : Fr) (s : FSpot) (w : World) (hh : FrAt F s w) :
    Calls Try.prog 45 #[.slice s.ax F.xs.length s.cx, .slice s.ah F.hs.length s.ch, .slice s.ap F.ps.length s.cp, .slice s.ar F.rs.length s.cr, .slice s.am F.ms.length s.cm] w fun e w' => ∃ (a' : Option Addr) (c' : Nat), e = .returned (.tuple #[.slice a' (stowL F).length c', .int .i64 (stowE F)]) ∧ Row icell 1 w'.heap.size w' a' (stowL F) ∧ (stowL F).length ≤ c' ∧ c' ≤ maxLen ∧ Kept w w' := by
  by_cases he : frE F = 0
  · refine (r_Stow_main F s w hh he).mono ?_
    rintro e w' ⟨a', n', c', rfl, hn, hr, hc, hm, hk⟩
    have hE : stowE F = (oE (stowS F)) := by unfold stowE; rw [if_pos he]; rfl
    have hL : stowL F = ints (oX (stowS F)) := by
      unfold stowL
      rw [if_pos he]
      cases stowS F <;> rfl
    have hl : (stowL F).length = n' := by rw [hL, ints_len]; exact hn.symm
    refine ⟨a', c', ?_, ?_, ?_, hm, hk⟩
    · rw [hE, hl]
    · rw [hL]; exact hr
    · rw [hl]; exact hc
  · have hE : stowE F = frE F := by unfold stowE; rw [if_neg he]
    have hL : stowL F = [] := by unfold stowL; rw [if_neg he]
    rw [hE, hL]
    refine (r_Stow_bad F s w hh he).mono ?_
    rintro e w' ⟨rfl, hk⟩
    exact ⟨none, 0, rfl, Row.nil, by simp, by simp [maxLen], hk⟩

end Go.Proofs.Ytlloijkmpmfapaa

/-
  Shear, bending and strained frames, in the reference.
-/
namespace Go.Proofs.Ytlloijkmpmfapaa
open Go.RowKit Bal Bal.Trim
set_option linter.unusedVariables false
set_option linter.unusedSimpArgs false
set_option maxHeartbeats 2000000

set_option maxRecDepth 10000

theorem r_SameInts (a b : Option Addr) (c d : Nat) (xs : List Int) (w : World) (hx : Row icell 1 w.heap.size w a xs) (hy : Row icell 1 w.heap.size w b xs) (hc : xs.length ≤ c) (hd : xs.length ≤ d) (hM : c ≤ maxLen) (hN : d ≤ maxLen) :
    Calls Try.prog 41 #[.slice a xs.length c, .slice b xs.length d] w fun e w' => e = .returned (.bool true) ∧ Kept w w' := by
  unfold maxLen at hM hN
  go_enter Try.func41, Try.ntmps41
  go_wp2
  go_loopw [5] (fun i wr => ∃ k : Nat, k ≤ xs.length ∧ i = .int .i64 k ∧ Kept w wr) (fun i _ => xs.length - (intOf i).toNat)
  case atStart => exact ⟨0, Nat.zero_le _, rfl, Below.refl _ _⟩
  case round =>
    obtain ⟨k, hk, rfl, hkk⟩ := hrel
    by_cases hlt : k < xs.length
    · obtain ⟨b1, o1, rfl, hb1, h0⟩ := int_row (hx.later hkk (Nat.le_refl _)) k hlt
      obtain ⟨b2, o2, rfl, hb2, j0⟩ := int_row (hy.later hkk (Nat.le_refl _)) k hlt
      have x0 := fun g : Later wr => g.some h0
      have y0 := fun g : Later wr => g.some j0
      go_upto_region 6 with fail
      refine Later.region (by kernel_rfl) (by kernel_rfl) ?_
      repeat (first | go_big_quiet_skip | (go_big_quiet_want; go_big_quiet_op; first | go_big_quiet_on | (apply Exists.intro; refine ⟨fun g => ?_, ?_⟩; (focus (first | fail)); go_big_quiet_on)))
      refine wpQuiet_nil ?_
      intro gg
      have hkgg := Kept.drop hkk gg.ok
      go_wp2
      go_round
      case rel => exact ⟨k + 1, by omega, by go_num, by (exact kpt)⟩
      case measure => simp [intOf]; omega
    · obtain rfl : k = xs.length := by omega
      go_wp2
      go_ret
      exact ⟨rfl, hkk⟩

end Go.Proofs.Ytlloijkmpmfapaa

/-
  TrimDrops: the bags to drop are the same in the program and in the reference: for every input.
-/
namespace Go.Proofs.Ytlloijkmpmfapaa
open Go.RowKit Bal Bal.Trim
set_option linter.unusedVariables false
set_option linter.unusedSimpArgs false
set_option maxHeartbeats 4000000
set_option maxRecDepth 10000

theorem owns_none {w : World} {base k n m c : Nat} {e : TypeId} {a : Option Addr} {xs : List Value} (h : w.ownsRow base e k (.slice a n c) m xs) : a = none → c = 0 := by
  rintro rfl
  obtain ⟨_, ⟨hv, _⟩ | ⟨g, cap, cur, hv, _⟩⟩ := h
  · cases hv; rfl
  · cases hv
theorem wpList_copyZ {α : Type} {enc : α → List Value} {P : Program} {w0 w : World} {ops : Array Oper} {rest : List Oper} {o : Oper} {a : Act} {Q : Exit → Act → World → Prop} (hgd : o.guard = none) (s x : Operand) (t : TypeId)
    (ho : o.op = .call { callee := .builtin .append, args := #[s, x], argTypes := #[t, t] })
    (base : Nat) (e : TypeId) (z : Value) (size bytes : Nat) (ht : P.underlying t = some (.slice e)) (hinfo : (P.info? e).map (fun i => (i.zero, i.size, i.bytes)) = some (some z, size, bytes))
    (hzs : z.cells.size = size) (hsz : 0 < size) (he : ∀ x : α, (enc x).length = size) (h1 : ∀ (x : α), ∀ u ∈ enc x, u.oneCell' = true)
    (n : Nat) (hn : n = w.heap.size) (hs : a.eval s = .slice (some ⟨n, 0, none⟩) 0 0)
    (ad : Option Addr) (c : Nat) (ys : List α) (hx : a.eval x = .slice ad ys.length c) (hc : ad = none → c = 0) (hrow : Row enc size w0.heap.size w0 ad ys) (hk : Kept w0 w) (hbase : base = w0.heap.size)
    (h63 : ys.length ≤ 1000000) (hbytes : bytes ≤ 100000)
    (h : ∀ ad' cp w', Row enc size w'.heap.size w' ad' ys → ys.length ≤ cp → cp ≤ maxLen → Kept w0 w' → Kept w w' → (ad' = none → cp = 0) → wpList P ops Q rest (a.put o.dst (.slice ad' ys.length cp)) w') :
    wpList P ops Q (o :: rest) a (w.alloc (.cells #[] e)) := by
  subst hbase
  obtain ⟨i, hi, hz, hsize, hby⟩ := info_parts hinfo
  have hsz0 := hk.size
  have hown0 : (w.alloc (.cells #[] e)).ownsRow w0.heap.size e size (.slice (some ⟨n, 0, none⟩) 0 0) ([] : List α).length (([] : List α).flatMap enc) := owns_made hn hsz0
  have hm : ys.length * bytes ≤ 1000000 * 100000 := Nat.mul_le_mul h63 hbytes
  refine wpList_append_list hgd s x t ho w0.heap.size e i z size bytes ht hi hz hsize hby hzs hsz he h1 _ [] hs hown0 ad c ys hx hc (hrow.keep (Kept.alloc hk _) (Nat.le_refl _)) (by simp [maxLen]; omega) (by simp; omega) (by show w0.heap.size ≤ (w.heap.push _).size; simp; omega) ?_
  intro v' w' hown hgrow
  have hk' : Kept w0 w' := Kept.grown (Kept.alloc hk _) hown0 (Nat.le_refl _) hgrow
  have hk2 : Kept w w' := by
    have hown1 : (w.alloc (.cells #[] e)).ownsRow w.heap.size e size (.slice (some ⟨n, 0, none⟩) 0 0) ([] : List α).length (([] : List α).flatMap enc) := owns_made hn (Nat.le_refl _)
    exact Kept.grown (Kept.alloc (Below.refl _ _) _) hown1 (Nat.le_refl _) hgrow
  rw [List.nil_append] at hown
  obtain ⟨ad', cp', rfl, hrow', h5, h6⟩ := Row.of_owns he hown
  exact h ad' cp' w' hrow' h5 h6 hk' hk2 (owns_none hown)
end Go.Proofs.Ytlloijkmpmfapaa

/-
  TrimStows: stowages are the same in the program and in the reference: for every input.
-/
namespace Go.Proofs.Ytlloijkmpmfapaa
open Go.RowKit Bal Bal.Trim
set_option linter.unusedVariables false
set_option linter.unusedSimpArgs false
set_option maxHeartbeats 4000000
set_option maxRecDepth 10000

theorem law_TrimStows (a0 : Option Addr) (c0 : Nat) (xs : List Load) (a1 : Option Addr) (c1 : Nat) (hs : List Hold) (a2 : Option Addr) (c2 : Nat) (ps : List Parcel) (a3 : Option Addr) (c3 : Nat) (rs : List Rule) (a4 : Option Addr) (c4 : Nat) (ms : List Limit) (a5 : Option Addr) (c5 : Nat) (t : List Int) (w : World)
    (h0 : Row Load.cells 4 w.heap.size w a0 xs) (hl0 : xs.length ≤ c0) (hm0 : c0 ≤ maxLen) (h1 : Row Hold.cells 2 w.heap.size w a1 hs) (hl1 : hs.length ≤ c1) (hm1 : c1 ≤ maxLen) (h2 : Row Parcel.cells 2 w.heap.size w a2 ps) (hl2 : ps.length ≤ c2) (hm2 : c2 ≤ maxLen) (h3 : Row Rule.cells 3 w.heap.size w a3 rs) (hl3 : rs.length ≤ c3) (hm3 : c3 ≤ maxLen) (h4 : Row Limit.cells 3 w.heap.size w a4 ms) (hl4 : ms.length ≤ c4) (hm4 : c4 ≤ maxLen) (h5 : Row icell 1 w.heap.size w a5 t) (hl5 : t.length ≤ c5) (hm5 : c5 ≤ maxLen) (hz : a0 = none → c0 = 0) :
    Calls Try.prog 8 #[.slice a0 xs.length c0, .slice a1 hs.length c1, .slice a2 ps.length c2, .slice a3 rs.length c3, .slice a4 ms.length c4, .slice a5 t.length c5] w fun e w' => e = .returned (.bool true) ∧ Kept w w' := by
  cases hg : great xs.length ms.length hs.length ps.length
  · have HG := Lib.hid hg
    have hn : xs.length ≤ 50 := by simp [great] at hg; omega
    clear hg
    cases hg2 : great rs.length t.length 0 0
    · have HG2 := Lib.hid hg2
      clear hg2
      obtain ⟨E, hE⟩ : ∃ E, E = stowE (⟨xs, hs, ps, rs, ms⟩ : Fr) := ⟨_, rfl⟩
      have HE := Lib.hid hE
      go_enter Try.func8, Try.ntmps8
      go_upto_region 6 with (first | (go_at_call 18; (with_reducible refine (r_great _ _ _ _ _).mono ?_); rw [HG.out]; rintro e w1 ⟨rfl, rfl⟩) | (go_at_call 18; (with_reducible refine (r_great _ _ _ _ _).mono ?_); rw [HG2.out]; rintro e w1 ⟨rfl, rfl⟩) | (at_builtin; refine wpList_copyZ (enc := Load.cells) rfl _ _ 22 rfl w.heap.size 88 (.agg #[.int .i64 0, .int .i64 0, .int .i64 0, .int .i64 0]) 4 32 Try.underlying22 infoLoad rfl (by decide) (fun _ => rfl) (fun x u hu => by simp [Load.cells] at hu; rcases hu with rfl | rfl | rfl | rfl <;> rfl) _ (by simp) rfl a0 c0 xs rfl hz h0 (by (exact kpt)) rfl (by omega) (by decide) ?_; intro adL cpL wcL hcpL hclL hcmL hkcL hkdL hczL; skip) | (go_at_call 44; (with_reducible refine (f_Stow (⟨xs, hs, ps, rs, ms⟩ : Fr) ⟨adL, a1, a2, a3, a4, cpL, c1, c2, c3, c4⟩ _ ⟨(hcpL.later (by (exact kpt)) (Nat.le_refl _)), (h1.later (by (exact kpt)) (Nat.le_refl _)), (h2.later (by (exact kpt)) (Nat.le_refl _)), (h3.later (by (exact kpt)) (Nat.le_refl _)), (h4.later (by (exact kpt)) (Nat.le_refl _)), hclL, hl1, hl2, hl3, hl4, hcmL, hm1, hm2, hm3, hm4, hczL⟩).mono ?_); rintro e wF ⟨adF, cpF, rfl, hrF, hpF, hqF, hbF⟩) | (go_at_call 45; (with_reducible refine (r_Stow (⟨xs, hs, ps, rs, ms⟩ : Fr) ⟨a0, a1, a2, a3, a4, c0, c1, c2, c3, c4⟩ _ ⟨(h0.later (by (exact kpt)) (Nat.le_refl _)), (h1.later (by (exact kpt)) (Nat.le_refl _)), (h2.later (by (exact kpt)) (Nat.le_refl _)), (h3.later (by (exact kpt)) (Nat.le_refl _)), (h4.later (by (exact kpt)) (Nat.le_refl _)), hl0, hl1, hl2, hl3, hl4, hm0, hm1, hm2, hm3, hm4, hz⟩).mono ?_); rintro e wR ⟨adR, cpR, rfl, hrR, hpR, hqR, hbR⟩))
      refine at_world (S := fun W => Row icell 1 W.heap.size W adF (stowL (⟨xs, hs, ps, rs, ms⟩ : Fr)) ∧ Row icell 1 W.heap.size W adR (stowL (⟨xs, hs, ps, rs, ms⟩ : Fr)) ∧ Row Load.cells 4 W.heap.size W adL xs ∧ Row Load.cells 4 W.heap.size W a0 xs ∧ Row Hold.cells 2 W.heap.size W a1 hs ∧ Row Parcel.cells 2 W.heap.size W a2 ps ∧ Row Rule.cells 3 W.heap.size W a3 rs ∧ Row Limit.cells 3 W.heap.size W a4 ms ∧ Row icell 1 W.heap.size W a5 t ∧ Kept w W) ⟨hrF.later (by (exact kpt)) (Nat.le_refl _), hrR.later (by (exact kpt)) (Nat.le_refl _), hcpL.later (by (exact kpt)) (Nat.le_refl _), h0.later (by (exact kpt)) (Nat.le_refl _), h1.later (by (exact kpt)) (Nat.le_refl _), h2.later (by (exact kpt)) (Nat.le_refl _), h3.later (by (exact kpt)) (Nat.le_refl _), h4.later (by (exact kpt)) (Nat.le_refl _), h5.later (by (exact kpt)) (Nat.le_refl _), by (exact kpt)⟩ ?_
      rintro W ⟨p1, p2, p3, p4, p5, p6, p7, p8, p9, hk⟩
      go_wp2_with (first | (go_at_call 41; (with_reducible refine (r_SameInts _ _ _ _ (stowL (⟨xs, hs, ps, rs, ms⟩ : Fr)) _ (p1.later (by (exact kpt)) (Nat.le_refl _)) (p2.later (by (exact kpt)) (Nat.le_refl _)) hpF hpR hqF hqR).mono ?_); rintro e wS ⟨rfl, hbS⟩) | (go_at_call 46; (with_reducible refine (f_CheckStow (⟨xs, hs, ps, rs, ms⟩ : Fr) ⟨adL, a1, a2, a3, a4, cpL, c1, c2, c3, c4⟩ _ ⟨(p3.later (by (exact kpt)) (Nat.le_refl _)), (p5.later (by (exact kpt)) (Nat.le_refl _)), (p6.later (by (exact kpt)) (Nat.le_refl _)), (p7.later (by (exact kpt)) (Nat.le_refl _)), (p8.later (by (exact kpt)) (Nat.le_refl _)), hclL, hl1, hl2, hl3, hl4, hcmL, hm1, hm2, hm3, hm4, hczL⟩ a5 c5 t (p9.later (by (exact kpt)) (Nat.le_refl _)) hl5 hm5).mono ?_); rintro e wC ⟨rfl, hbC⟩) | (go_at_call 47; (with_reducible refine (r_CheckStow (⟨xs, hs, ps, rs, ms⟩ : Fr) ⟨a0, a1, a2, a3, a4, c0, c1, c2, c3, c4⟩ _ ⟨(p4.later (by (exact kpt)) (Nat.le_refl _)), (p5.later (by (exact kpt)) (Nat.le_refl _)), (p6.later (by (exact kpt)) (Nat.le_refl _)), (p7.later (by (exact kpt)) (Nat.le_refl _)), (p8.later (by (exact kpt)) (Nat.le_refl _)), hl0, hl1, hl2, hl3, hl4, hm0, hm1, hm2, hm3, hm4, hz⟩ a5 c5 t (p9.later (by (exact kpt)) (Nat.le_refl _)) hl5 hm5).mono ?_); rintro e wD ⟨rfl, hbD⟩) | (go_at_call 30; (with_reducible refine (f_kept _ _ _ _ xs _ (p3.later (by (exact kpt)) (Nat.le_refl _)) (p4.later (by (exact kpt)) (Nat.le_refl _)) hclL hl0 hcmL hm0).mono ?_); rintro e wK ⟨rfl, hbK⟩))
      go_ret
      exact ⟨rfl, by (exact kpt)⟩
    · have HG2 := Lib.hid hg2
      clear hg2
      go_enter Try.func8, Try.ntmps8
      go_wp2_with (first | (go_at_call 18; (with_reducible refine (r_great _ _ _ _ _).mono ?_); rw [HG.out]; rintro e w1 ⟨rfl, rfl⟩) | (go_at_call 18; (with_reducible refine (r_great _ _ _ _ _).mono ?_); rw [HG2.out]; rintro e w1 ⟨rfl, rfl⟩))
      go_ret
      exact ⟨rfl, by (exact kpt)⟩
  · have HG := Lib.hid hg
    go_enter Try.func8, Try.ntmps8
    go_wp2_with (go_at_call 18; (with_reducible refine (r_great _ _ _ _ _).mono ?_); rw [HG.out]; rintro e w1 ⟨rfl, rfl⟩)
    go_ret
    exact ⟨rfl, by (exact kpt)⟩
end Go.Proofs.Ytlloijkmpmfapaa

/-
  Slices of numbers that come in. No program in sight.
-/
namespace Bal.Trim
open Go Go.RowKit Go.ChangeShapes Go.WideShapes
set_option linter.unusedVariables false
theorem int_of_leaves {cs : List Value} (h : LeavesOk [.int .i64] cs) : ∃ x : Int, cs = icell x ∧ (Lit.int .i64 x).wf = true := by
  obtain ⟨hl, h⟩ := h
  match cs, hl with
  | [v0], _ =>
    obtain ⟨_, e0, n0, rfl, w0⟩ := h 0 (.int .i64) rfl; simp at e0; subst e0
    exact ⟨n0, rfl, w0⟩
end Bal.Trim

/-
  The words of a string that is known sign by sign: for the facts on how a program was made. No program in sight.
-/
namespace Bal
open Go
theorem words_cons : ∀ (w r : List Char), w.all (fun c => c != Char.ofNat 32) = true → wordsSigns (w ++ Char.ofNat 32 :: r) = w :: wordsSigns r
  | [], r, _ => by simp [wordsSigns]
  | c :: w, r, h => by
    simp only [List.all_cons, Bool.and_eq_true, bne_iff_ne, ne_eq] at h
    obtain ⟨h1, h2⟩ := h
    have ih := words_cons w r h2
    rw [List.cons_append]
    simp [wordsSigns, ih]
theorem words_last : ∀ (w : List Char), w.all (fun c => c != Char.ofNat 32) = true → wordsSigns w = [w]
  | [], _ => by simp [wordsSigns]
  | c :: w, h => by
    simp only [List.all_cons, Bool.and_eq_true, bne_iff_ne, ne_eq] at h
    obtain ⟨h1, h2⟩ := h
    simp [wordsSigns, words_last w h2]
/-! A program that was cut, behind a harness. (With the program a variable the kernel never unfolds it.) -/
section
variable {P : Program} {w0 w1 : List Char} {r : List (List Char)}
theorem behind_cut (h : wordsSigns P.initOrder.toList = w0 :: w1 :: [Char.ofNat 99, Char.ofNat 117, Char.ofNat 116] :: r) (h0 : w0 = "harness".toList) (h1 : isSumSigns w1 = true) : behindMainWord (wordsSigns P.initOrder.toList) = [Char.ofNat 99, Char.ofNat 117, Char.ofNat 116] :: r := by
  rw [h]
  have e : (w0 == "harness".toList) = true := by rw [h0]; simp
  simp only [behindMainWord, e, h1, Bool.true_or, Bool.and_self, if_true]
theorem make_cut (h : wordsSigns P.initOrder.toList = w0 :: w1 :: [Char.ofNat 99, Char.ofNat 117, Char.ofNat 116] :: r) (h0 : w0 = "harness".toList) (h1 : isSumSigns w1 = true) : P.make = some .cut := by
  unfold Program.make
  rw [behind_cut h h0 h1]
  rfl
theorem lifts_cut (h : wordsSigns P.initOrder.toList = w0 :: w1 :: [Char.ofNat 99, Char.ofNat 117, Char.ofNat 116] :: r) (h0 : w0 = "harness".toList) (h1 : isSumSigns w1 = true) : P.liftsFinal = false := by
  unfold Program.liftsFinal Program.headLifts
  rw [behind_cut h h0 h1]
  rfl
theorem enter_cut (h : wordsSigns P.initOrder.toList = w0 :: w1 :: [Char.ofNat 99, Char.ofNat 117, Char.ofNat 116] :: r) (h0 : w0 = "harness".toList) (h1 : isSumSigns w1 = true) (l : P.laysLater = false) (b : P.bearsReflect = false) (d : P.doorFits [] = true) : P.mayEnter = true := by
  unfold Program.mayEnter
  rw [behind_cut h h0 h1]
  have e : stripLifts liftWords ([Char.ofNat 99, Char.ofNat 117, Char.ofNat 116] :: r) = ([], [Char.ofNat 99, Char.ofNat 117, Char.ofNat 116] :: r) := rfl
  simp only [e, l, b, d]
  rfl
end
end Bal

/-
  How the program was made: its words, and what follows for every row of the seat.
-/
namespace Go.Proofs.Ytlloijkmpmfapaa
open Bal
set_option maxRecDepth 100000
def initW0 : List Char := List.map Char.ofNat [104, 97, 114, 110, 101, 115, 115]
def initW1 : List Char := List.map Char.ofNat [100, 102, 50, 53, 55, 101, 50, 53, 100, 49, 51, 49, 56, 54, 52, 102, 55, 100, 57, 54, 55, 52, 57, 57, 54, 57, 100, 102, 57, 55, 97, 98, 57, 51, 54, 53, 102, 53, 56, 98, 101, 54, 55, 101, 100, 48, 51, 53, 50, 101, 48, 49, 101, 54, 54, 97, 99, 102, 98, 50, 52, 56, 49, 53]
def initW2 : List Char := List.map Char.ofNat [99, 117, 116]
def initW3 : List Char := List.map Char.ofNat [97, 116]
def initW4 : List Char := List.map Char.ofNat [98, 97, 108, 108, 111, 110, 101, 116, 47, 98, 97, 108, 108, 111, 110, 101, 116, 108, 97, 119, 48, 52, 46, 84, 114, 105, 109, 67, 104, 101, 99, 107, 115]
def initW5 : List Char := List.map Char.ofNat [98, 97, 108, 108, 111, 110, 101, 116, 47, 98, 97, 108, 108, 111, 110, 101, 116, 108, 97, 119, 48, 52, 46, 84, 114, 105, 109, 66, 114, 101, 97, 99, 104, 101, 115]
def initW6 : List Char := List.map Char.ofNat [98, 97, 108, 108, 111, 110, 101, 116, 47, 98, 97, 108, 108, 111, 110, 101, 116, 108, 97, 119, 48, 52, 46, 84, 114, 105, 109, 66, 97, 108, 97, 110, 99, 101, 115]
def initW7 : List Char := List.map Char.ofNat [98, 97, 108, 108, 111, 110, 101, 116, 47, 98, 97, 108, 108, 111, 110, 101, 116, 108, 97, 119, 48, 52, 46, 84, 114, 105, 109, 83, 116, 114, 97, 105, 110, 115]
def initW8 : List Char := List.map Char.ofNat [98, 97, 108, 108, 111, 110, 101, 116, 47, 98, 97, 108, 108, 111, 110, 101, 116, 108, 97, 119, 48, 52, 46, 84, 114, 105, 109, 68, 114, 111, 112, 115]
def initW9 : List Char := List.map Char.ofNat [98, 97, 108, 108, 111, 110, 101, 116, 47, 98, 97, 108, 108, 111, 110, 101, 116, 108, 97, 119, 48, 52, 46, 84, 114, 105, 109, 83, 116, 111, 119, 115]
def initW10 : List Char := List.map Char.ofNat [98, 97, 108, 108, 111, 110, 101, 116, 47, 98, 97, 108, 108, 111, 110, 101, 116, 108, 97, 119, 48, 52, 46, 84, 114, 105, 109, 68, 114, 111, 112, 112, 101, 100]
def initW11 : List Char := List.map Char.ofNat [98, 97, 108, 108, 111, 110, 101, 116, 47, 98, 97, 108, 108, 111, 110, 101, 116, 108, 97, 119, 48, 52, 46, 84, 114, 105, 109, 69, 110, 100, 115]
def initW12 : List Char := List.map Char.ofNat [98, 97, 108, 108, 111, 110, 101, 116, 47, 98, 97, 108, 108, 111, 110, 101, 116, 108, 97, 119, 48, 52, 46, 84, 114, 105, 109, 82, 101, 97, 99, 104, 101, 100]
def initW13 : List Char := List.map Char.ofNat [98, 97, 108, 108, 111, 110, 101, 116, 47, 98, 97, 108, 108, 111, 110, 101, 116, 108, 97, 119, 48, 52, 46, 84, 114, 105, 109, 87, 111, 114, 115, 116]
def initW14 : List Char := List.map Char.ofNat [98, 97, 108, 108, 111, 110, 101, 116, 47, 98, 97, 108, 108, 111, 110, 101, 116, 108, 97, 119, 48, 52, 46, 84, 114, 105, 109, 75, 101, 112, 116]
def initW15 : List Char := List.map Char.ofNat [98, 97, 108, 108, 111, 110, 101, 116, 47, 98, 97, 108, 108, 111, 110, 101, 116, 108, 97, 119, 48, 52, 46, 84, 114, 105, 109, 66, 101, 116, 116, 101, 114]
def initW16 : List Char := List.map Char.ofNat [98, 97, 108, 108, 111, 110, 101, 116, 47, 98, 97, 108, 108, 111, 110, 101, 116, 108, 97, 119, 48, 52, 46, 84, 114, 105, 109, 70, 97, 114]
def initW17 : List Char := List.map Char.ofNat [98, 97, 108, 108, 111, 110, 101, 116, 47, 98, 97, 108, 108, 111, 110, 101, 116, 108, 97, 119, 48, 52, 46, 84, 114, 105, 109, 83, 116, 111, 119, 101, 100]
def initW18 : List Char := List.map Char.ofNat [98, 97, 108, 108, 111, 110, 101, 116, 47, 98, 97, 108, 108, 111, 110, 101, 116, 108, 97, 119, 48, 52, 46, 84, 114, 105, 109, 69, 120, 97, 109, 112, 108, 101, 115]
def initL : List Char := initW0 ++ Char.ofNat 32 :: (initW1 ++ Char.ofNat 32 :: (initW2 ++ Char.ofNat 32 :: (initW3 ++ Char.ofNat 32 :: (initW4 ++ Char.ofNat 32 :: (initW5 ++ Char.ofNat 32 :: (initW6 ++ Char.ofNat 32 :: (initW7 ++ Char.ofNat 32 :: (initW8 ++ Char.ofNat 32 :: (initW9 ++ Char.ofNat 32 :: (initW10 ++ Char.ofNat 32 :: (initW11 ++ Char.ofNat 32 :: (initW12 ++ Char.ofNat 32 :: (initW13 ++ Char.ofNat 32 :: (initW14 ++ Char.ofNat 32 :: (initW15 ++ Char.ofNat 32 :: (initW16 ++ Char.ofNat 32 :: (initW17 ++ Char.ofNat 32 :: initW18)))))))))))))))))
theorem init_is : Try.prog.initOrder = String.ofList initL := by kernel_rfl
theorem init_words : wordsSigns Try.prog.initOrder.toList = [initW0, initW1, initW2, initW3, initW4, initW5, initW6, initW7, initW8, initW9, initW10, initW11, initW12, initW13, initW14, initW15, initW16, initW17, initW18] := by
  rw [init_is, String.toList_ofList]
  unfold initL
  rw [words_cons _ _ (by decide), words_cons _ _ (by decide), words_cons _ _ (by decide), words_cons _ _ (by decide), words_cons _ _ (by decide), words_cons _ _ (by decide), words_cons _ _ (by decide), words_cons _ _ (by decide), words_cons _ _ (by decide), words_cons _ _ (by decide), words_cons _ _ (by decide), words_cons _ _ (by decide), words_cons _ _ (by decide), words_cons _ _ (by decide), words_cons _ _ (by decide), words_cons _ _ (by decide), words_cons _ _ (by decide), words_cons _ _ (by decide), words_last _ (by decide)]
theorem init_cut : wordsSigns Try.prog.initOrder.toList = initW0 :: initW1 :: [Char.ofNat 99, Char.ofNat 117, Char.ofNat 116] :: [initW3, initW4, initW5, initW6, initW7, initW8, initW9, initW10, initW11, initW12, initW13, initW14, initW15, initW16, initW17, initW18] := init_words
theorem init_sum : isSumSigns initW1 = true := by decide
theorem make_is : Try.prog.make = some .cut := make_cut init_cut rfl init_sum
theorem liftsFinal_is : Try.prog.liftsFinal = false := lifts_cut init_cut rfl init_sum
theorem mayEnter_is : Try.prog.mayEnter = true := enter_cut init_cut rfl init_sum (by kernel_rfl) (by kernel_rfl) (by kernel_rfl)
end Go.Proofs.Ytlloijkmpmfapaa

/-
  TrimStows, the statement: for every input the call returns true and leaves the input alone.
-/
namespace Go.Proofs.Ytlloijkmpmfapaa.trimStows
open Go.ChangeShapes Go.WideShapes Go.ChangeAt Go.RowKit Bal Bal.Trim
open Go.ChangeMaps (open_string shut_string)
set_option linter.unusedVariables false

theorem own : ownKnob Try.prog.godebug = none := by kernel_rfl
theorem laidOut : laidOutB Try.prog = true := by kernel_rfl

set_option maxRecDepth 100000 in
theorem lifted (os : Os) (started : os.Started) (H : Type) (enc : TypeId × Value → H) :
    ReturnsInHanded {} Try.checked os 8 .any (Rows.trimStowsSpec.pre6 enc Try.prog Try.f8 Rows.trimStowsRow.domain false) (Rows.trimStowsSpec.post enc Try.prog Try.f8 false true false false) := by
  refine returnsInHanded_of_change (C := Try.checked) own started (by kernel_rfl) Try.func8
    (ChangeSpec.witness6 (enc := enc) (C := Try.checked) false ⟨#[], #[.slice none 0 0, .slice none 0 0, .slice none 0 0, .slice none 0 0, .slice none 0 0, .slice none 0 0], []⟩ 8 (by kernel_rfl) (by kernel_rfl) (by kernel_rfl) (by kernel_rfl)) ?_
  intro W base args ds gs before hval0 hW hcnd _
  have hval : ∀ (j : Nat) t v, Try.f8.params[j]? = some t → args[j]? = some v → Value.okWide Try.prog W .any base t v := hval0
  have hW' := hW
  obtain ⟨p, q, hA0, hV, rfl, hfz, hnd⟩ := hW
  have hA : DataW.TrodAll enc Try.prog W 0 (fun _ => true) true Try.f8.params.toList args.toList ds p := hA0
  rw [Try.params8] at hA hval
  obtain ⟨v0, vs0, d0, ds0, p0, q0, hargs, rfl, rfl, h0, r0⟩ := trodAll_cons hA
  obtain ⟨v1, vs1, d1, ds1, p1, q1, rfl, rfl, rfl, h1, r1⟩ := trodAll_cons r0
  obtain ⟨v2, vs2, d2, ds2, p2, q2, rfl, rfl, rfl, h2, r2⟩ := trodAll_cons r1
  obtain ⟨v3, vs3, d3, ds3, p3, q3, rfl, rfl, rfl, h3, r3⟩ := trodAll_cons r2
  obtain ⟨v4, vs4, d4, ds4, p4, q4, rfl, rfl, rfl, h4, r4⟩ := trodAll_cons r3
  obtain ⟨v5, vs5, d5, ds5, p5, q5, rfl, rfl, rfl, h5, r5⟩ := trodAll_cons r4
  obtain ⟨rfl, rfl, rfl⟩ := trodAll_nil r5
  obtain rfl : args = #[v0, v1, v2, v3, v4, v5] := by cases args; simp_all
  obtain ⟨rfl, rfl⟩ := trodVars_none hV
  have k0 := h0
  have lt0 : ∀ x ∈ p0, x.block < W.heap.size := by obtain ⟨m, hm⟩ := k0; exact DataW.trod_lt m _ _ _ hm
  obtain ⟨a0, len0, cap0, rfl⟩ := okWide_slice Try.underlying22 (hval 0 22 v0 rfl rfl)
  obtain ⟨fuel0, hf0⟩ := h0
  obtain ⟨b0, c0, xs0, e0, hl0, hm0, row0, wf0, z0⟩ := open_typed (n := 4) (fun _ h => Load.of_leaves h) Try.underlying22 (by kernel_rfl) (by kernel_rfl) (by decide) hf0
  simp [Value.cells] at e0
  obtain ⟨rfl, rfl, rfl⟩ := e0
  have k1 := h1
  have lt1 : ∀ x ∈ p1, x.block < W.heap.size := by obtain ⟨m, hm⟩ := k1; exact DataW.trod_lt m _ _ _ hm
  obtain ⟨a1, len1, cap1, rfl⟩ := okWide_slice Try.underlying73 (hval 1 73 v1 rfl rfl)
  obtain ⟨fuel1, hf1⟩ := h1
  obtain ⟨b1, c1, xs1, e1, hl1, hm1, row1, wf1, z1⟩ := open_typed (n := 4) (fun _ h => Hold.of_leaves h) Try.underlying73 (by kernel_rfl) (by kernel_rfl) (by decide) hf1
  simp [Value.cells] at e1
  obtain ⟨rfl, rfl, rfl⟩ := e1
  have k2 := h2
  have lt2 : ∀ x ∈ p2, x.block < W.heap.size := by obtain ⟨m, hm⟩ := k2; exact DataW.trod_lt m _ _ _ hm
  obtain ⟨a2, len2, cap2, rfl⟩ := okWide_slice Try.underlying74 (hval 2 74 v2 rfl rfl)
  obtain ⟨fuel2, hf2⟩ := h2
  obtain ⟨b2, c2, xs2, e2, hl2, hm2, row2, wf2, z2⟩ := open_typed (n := 4) (fun _ h => Parcel.of_leaves h) Try.underlying74 (by kernel_rfl) (by kernel_rfl) (by decide) hf2
  simp [Value.cells] at e2
  obtain ⟨rfl, rfl, rfl⟩ := e2
  have k3 := h3
  have lt3 : ∀ x ∈ p3, x.block < W.heap.size := by obtain ⟨m, hm⟩ := k3; exact DataW.trod_lt m _ _ _ hm
  obtain ⟨a3, len3, cap3, rfl⟩ := okWide_slice Try.underlying75 (hval 3 75 v3 rfl rfl)
  obtain ⟨fuel3, hf3⟩ := h3
  obtain ⟨b3, c3, xs3, e3, hl3, hm3, row3, wf3, z3⟩ := open_typed (n := 4) (fun _ h => Rule.of_leaves h) Try.underlying75 (by kernel_rfl) (by kernel_rfl) (by decide) hf3
  simp [Value.cells] at e3
  obtain ⟨rfl, rfl, rfl⟩ := e3
  have k4 := h4
  have lt4 : ∀ x ∈ p4, x.block < W.heap.size := by obtain ⟨m, hm⟩ := k4; exact DataW.trod_lt m _ _ _ hm
  obtain ⟨a4, len4, cap4, rfl⟩ := okWide_slice Try.underlying23 (hval 4 23 v4 rfl rfl)
  obtain ⟨fuel4, hf4⟩ := h4
  obtain ⟨b4, c4, xs4, e4, hl4, hm4, row4, wf4, z4⟩ := open_typed (n := 4) (fun _ h => Limit.of_leaves h) Try.underlying23 (by kernel_rfl) (by kernel_rfl) (by decide) hf4
  simp [Value.cells] at e4
  obtain ⟨rfl, rfl, rfl⟩ := e4
  have k5 := h5
  have lt5 : ∀ x ∈ p5, x.block < W.heap.size := by obtain ⟨m, hm⟩ := k5; exact DataW.trod_lt m _ _ _ hm
  obtain ⟨a5, len5, cap5, rfl⟩ := okWide_slice Try.underlying63 (hval 5 63 v5 rfl rfl)
  obtain ⟨fuel5, hf5⟩ := h5
  obtain ⟨b5, c5, xs5, e5, hl5, hm5, row5, wf5, z5⟩ := open_typed (n := 4) (fun _ h => int_of_leaves h) Try.underlying63 (by kernel_rfl) (by kernel_rfl) (by decide) hf5
  simp [Value.cells] at e5
  obtain ⟨rfl, rfl, rfl⟩ := e5
  clear hA0 hval0
  refine (law_TrimStows _ _ xs0 _ _ xs1 _ _ xs2 _ _ xs3 _ _ xs4 _ _ xs5 W row0 hl0 hm0 row1 hl1 hm1 row2 hl2 hm2 row3 hl3 hm3 row4 hl4 hm4 row5 hl5 hm5 z0).mono fun e W' ⟨he, bel⟩ => ?_
  subst he
  exact ⟨_, rfl, _, _, _, [], _, [], hW', trodAll_mk1 (shut_bool Try.underlying4 _), (trodAll_cons_mk (Below.trod laidOut (by kernel_rfl) (of_decide_eq_true (by kernel_rfl)) k0 bel lt0) (trodAll_cons_mk (Below.trod laidOut (by kernel_rfl) (of_decide_eq_true (by kernel_rfl)) k1 bel lt1) (trodAll_cons_mk (Below.trod laidOut (by kernel_rfl) (of_decide_eq_true (by kernel_rfl)) k2 bel lt2) (trodAll_cons_mk (Below.trod laidOut (by kernel_rfl) (of_decide_eq_true (by kernel_rfl)) k3 bel lt3) (trodAll_cons_mk (Below.trod laidOut (by kernel_rfl) (of_decide_eq_true (by kernel_rfl)) k4 bel lt4) (trodAll_cons_mk (Below.trod laidOut (by kernel_rfl) (of_decide_eq_true (by kernel_rfl)) k5 bel lt5) trodAll_mk0)))))), rfl, bel.frame _, fun h => by cases h⟩

theorem joined : joinedFacts Try.prog 8 Try.f8 Rows.trimStowsSpec Rows.trimStowsRow = true := by
  unfold joinedFacts
  rw [mayEnter_is, liftsFinal_is, make_is]
  kernel_rfl
theorem over : Rows.trimStowsRow.holds Try.pinned (OpenSpec.ofChange Rows.trimStowsSpec) :=
  OpenClaim.holds_of_wide 8 Try.f8 rfl rfl rfl rfl rfl rfl rfl ⟨rfl, rfl, rfl, rfl, rfl⟩ rfl rfl rfl rfl rfl (by kernel_rfl) Try.func8 joined
    (of_decide_eq_true (by kernel_rfl)) (by unfold Func.isWrapper; first | (rw [if_pos (by decide +kernel)]; kernel_rfl) | (rw [if_neg (by decide +kernel)]; exact ⟨rfl, rfl⟩))
    (fun os started H enc _ => lifted os started H enc)
end Go.Proofs.Ytlloijkmpmfapaa.trimStows

namespace Go.Proofs.Ytlloijkmpmfapaa
theorem trimStows_holds : Rows.TrimStowsSaid := trimStows.over
#print axioms trimStows_holds
end Go.Proofs.Ytlloijkmpmfapaa
