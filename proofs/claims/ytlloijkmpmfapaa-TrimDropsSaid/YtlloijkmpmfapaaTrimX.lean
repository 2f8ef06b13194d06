/-
  Strained frames, in the program.
-/
import Derived.Test.YtlloijkmpmfapaaTrimT
namespace Go.Proofs.Ytlloijkmpmfapaa
open Go.RowKit Bal Bal.Trim
set_option linter.unusedVariables false
set_option linter.unusedSimpArgs false
set_option maxHeartbeats 2000000

set_option maxRecDepth 10000

/-- the strained frames so far -/
def StrRel (w : World) (xs : List Load) (fs : List Frm) (cv i : Value) (wr : World) : Prop :=
  ∃ k : Nat, k ≤ fs.length ∧ i = .int .i64 k ∧ (∃ n : Nat, n ≤ k ∧ wr.ownsRow w.heap.size 3 1 cv n ((strainedTo xs fs k).flatMap icell) ∧ (strainedTo xs fs k).length = n) ∧ Kept w wr
theorem infoI : (Try.prog.info? 3).map (fun i => (i.zero, i.size, i.bytes)) = some (some (.int .i64 0), 1, 8) := by kernel_rfl
def strE (xs : List Load) (fs : List Frm) : Int := if checkLoads xs = 0 then checkFrames fs else checkLoads xs
def strP (xs : List Load) (fs : List Frm) : List Int := if strE xs fs = 0 then strainedTo xs fs fs.length else []
def StrPost (w : World) (xs : List Load) (fs : List Frm) (e : Ending) (w' : World) : Prop :=
  ∃ v, e = .returned (.tuple #[v, .int .i64 (strE xs fs)]) ∧ w'.ownsRow w.heap.size 3 1 v (strP xs fs).length ((strP xs fs).flatMap icell) ∧ Kept w w'
theorem frameB_bd {f : Frm} (h : frameB f = true) : (-20000 ≤ f.pos ∧ f.pos ≤ 20000) ∧ (0 ≤ f.shear ∧ f.shear ≤ 1000000000000) ∧ 0 ≤ f.bend ∧ f.bend ≤ 10000000000000000 := by
  simp [frameB, inB] at h; omega
theorem str_snoc {xs : List Load} {fs : List Frm} {k : Nat} (hk : k < fs.length) (h : strain xs fs[k] = true) : (strainedTo xs fs (k + 1)).flatMap icell = (strainedTo xs fs k).flatMap icell ++ [.int .i64 k] ∧ (strainedTo xs fs (k + 1)).length = (strainedTo xs fs k).length + 1 := by
  rw [strainedTo_succ hk, if_pos h]
  simp [icell]
theorem str_same {xs : List Load} {fs : List Frm} {k : Nat} (hk : k < fs.length) (h : strain xs fs[k] = false) : strainedTo xs fs (k + 1) = strainedTo xs fs k := by
  rw [strainedTo_succ hk, h]; simp

theorem f_Strained (a : Option Addr) (cap : Nat) (xs : List Load) (w : World) (hx : Row Load.cells 4 w.heap.size w a xs) (hc : xs.length ≤ cap) (hM : cap ≤ maxLen) (bf : Option Addr) (cf : Nat) (fs : List Frm) (hf : Row Frm.cells 3 w.heap.size w bf fs) (hfc : fs.length ≤ cf) (hfM : cf ≤ maxLen) :
    Calls Try.prog 39 #[.slice a xs.length cap, .slice bf fs.length cf] w fun e w' => StrPost w xs fs e w' := by
  unfold StrPost strP strE
  by_cases he : checkLoads xs = 0
  · rw [if_pos he]
    obtain ⟨hn, hv⟩ := checkLoads_ok he
    have HE := Lib.hid he
    clear he
    by_cases he2 : checkFrames fs = 0
    · rw [if_pos he2, he2]
      obtain ⟨hn2, hv2⟩ := checkFrames_ok he2
      have HF := Lib.hid he2
      have HN := Lib.hid hn
      have HV := Lib.hid hv
      have HV2 := Lib.hid hv2
      have hMM := hfM
      unfold maxLen at hMM
      clear he2 hv hv2
      go_enter Try.func39, Try.ntmps39
      go_wp2_with (first | (go_at_call 19; (with_reducible refine (f_CheckLoads _ _ _ _ (hx.later (by (repeat (first | with_reducible exact Below.refl _ _ | with_reducible assumption | with_reducible refine Kept.drop ?_ (by with_reducible assumption) | with_reducible refine Kept.alloc ?_ _ | ((with_reducible refine Below.setCell ?_ ?_ _); rotate_left 1; (focus (first | exact Nat.le_refl _ | (simp; done) | (simp; omega) | exact Below.size (by with_reducible assumption) | (refine Kept.size ?_; (repeat (first | with_reducible exact Below.refl _ _ | with_reducible assumption | with_reducible refine Kept.drop ?_ (by with_reducible assumption) | with_reducible refine Kept.alloc ?_ _ | with_reducible refine Below.drew ?_)))))) | with_reducible refine Below.drew ?_))) (Nat.le_refl _)) hc hM).mono ?_); rw [HE.out]; rintro e w1 ⟨rfl, hb1⟩) | (go_at_call 23; (with_reducible refine (f_CheckFrames _ _ _ _ (hf.later (by (repeat (first | with_reducible exact Below.refl _ _ | with_reducible assumption | with_reducible refine Kept.drop ?_ (by with_reducible assumption) | with_reducible refine Kept.alloc ?_ _ | ((with_reducible refine Below.setCell ?_ ?_ _); rotate_left 1; (focus (first | exact Nat.le_refl _ | (simp; done) | (simp; omega) | exact Below.size (by with_reducible assumption) | (refine Kept.size ?_; (repeat (first | with_reducible exact Below.refl _ _ | with_reducible assumption | with_reducible refine Kept.drop ?_ (by with_reducible assumption) | with_reducible refine Kept.alloc ?_ _ | with_reducible refine Below.drew ?_)))))) | with_reducible refine Below.drew ?_))) (Nat.le_refl _)) hfc hfM).mono ?_); rw [HF.out]; rintro e w2 ⟨rfl, hb2⟩))
      go_loopw [8, 23] (fun cv i wr => StrRel w xs fs cv i wr) (fun _ i _ => fs.length - (intOf i).toNat)
      case atStart => exact ⟨0, Nat.zero_le _, rfl, ⟨0, Nat.le_refl _, owns_nil (α := Int) (enc := icell), rfl⟩, by (repeat (first | with_reducible exact Below.refl _ _ | with_reducible assumption | with_reducible refine Kept.drop ?_ (by with_reducible assumption) | with_reducible refine Kept.alloc ?_ _ | ((with_reducible refine Below.setCell ?_ ?_ _); rotate_left 1; (focus (first | exact Nat.le_refl _ | (simp; done) | (simp; omega) | exact Below.size (by with_reducible assumption) | (refine Kept.size ?_; (repeat (first | with_reducible exact Below.refl _ _ | with_reducible assumption | with_reducible refine Kept.drop ?_ (by with_reducible assumption) | with_reducible refine Kept.alloc ?_ _ | with_reducible refine Below.drew ?_)))))) | with_reducible refine Below.drew ?_))⟩
      case round =>
        obtain ⟨k, hk, rfl, ⟨n, hnk, hown, hlen⟩, hkk⟩ := hrel
        by_cases hlt : k < fs.length
        · obtain ⟨bx, ox, rfl, hbx, l0, l1, l2⟩ := Frm.row (hf.later hkk (Nat.le_refl _)) k hlt
          have HB := Lib.hid (frameB_bd (HV2.out fs[k] (List.getElem_mem hlt)))
          have HSN := Lib.hid (fun h => @str_snoc xs fs k hlt h)
          have HSS := Lib.hid (fun h => @str_same xs fs k hlt h)
          obtain ⟨fr, hfr⟩ : ∃ f, f = fs[k] := ⟨_, rfl⟩
          rw [← hfr] at HB HSN HSS l0 l1 l2
          clear hfr
          obtain ⟨⟨o1, o2⟩, ⟨o3, o4⟩, o5, o6⟩ := HB.out
          have hks := hkk.size
          cases h1 : spanB (sumBy (sLo fr.pos) xs) (sumBy (sHi fr.pos) xs) fr.shear
          ·
            have Q1 := Lib.hid (fun w => (by have := f_span (sumBy (sLo fr.pos) xs) (sumBy (sHi fr.pos) xs) fr.shear w (by omega) (by omega); rwa [h1] at this : Calls Try.prog 60 #[.agg #[.int .i64 (sumBy (sLo fr.pos) xs), .int .i64 (sumBy (sHi fr.pos) xs)], .int .i64 fr.shear] w fun e w' => e = .returned (.bool false) ∧ Kept w w'))
            have HSN2 := Lib.hid (HSN.out (show strain xs fr = true by simp [strain, h1]))
            clear h1
            go_upto_region 11 with fail
            refine at_world (S := fun W => Blk W wr.heap.size #[.int .i64 fr.pos, .int .i64 fr.shear, .int .i64 fr.bend] 104 ∧ W.ownsRow w.heap.size 3 1 _ n ((strainedTo xs fs k).flatMap icell) ∧ Kept w W) ⟨by (repeat (first | with_reducible assumption | ((with_reducible refine Blk.new' ?_); first | with_reducible rfl | (simp; done) | (simp [World.drew]; done)) | with_reducible refine Blk.alloc ?_ _ | ((with_reducible refine Blk.set (arr := ?_) ?_ _ _); rotate_left 1) | ((with_reducible refine Blk.other ?_ ?_ _); rotate_left 1; (focus (first | (simp; done) | (simp; omega) | (refine Nat.ne_of_gt (Blk.lt (arr := ?_) (t := ?_) ?_); rotate_left 2; focus (repeat (first | with_reducible assumption | ((with_reducible refine Blk.new' ?_); first | with_reducible rfl | (simp; done) | (simp [World.drew]; done)) | with_reducible refine Blk.alloc ?_ _ | with_reducible refine Blk.keep ?_ (by with_reducible assumption) | with_reducible refine Blk.drew ?_))) | (refine Nat.ne_of_lt (Blk.lt (arr := ?_) (t := ?_) ?_); rotate_left 2; focus (repeat (first | with_reducible assumption | ((with_reducible refine Blk.new' ?_); first | with_reducible rfl | (simp; done) | (simp [World.drew]; done)) | with_reducible refine Blk.alloc ?_ _ | with_reducible refine Blk.keep ?_ (by with_reducible assumption) | with_reducible refine Blk.drew ?_)))))) | with_reducible refine Blk.keep ?_ (by with_reducible assumption) | with_reducible refine Blk.drew ?_)), hown.alloc _, by (repeat (first | with_reducible exact Below.refl _ _ | with_reducible assumption | with_reducible refine Kept.drop ?_ (by with_reducible assumption) | with_reducible refine Kept.alloc ?_ _ | ((with_reducible refine Below.setCell ?_ ?_ _); rotate_left 1; (focus (first | exact Nat.le_refl _ | (simp; done) | (simp; omega) | exact Below.size (by with_reducible assumption) | (refine Kept.size ?_; (repeat (first | with_reducible exact Below.refl _ _ | with_reducible assumption | with_reducible refine Kept.drop ?_ (by with_reducible assumption) | with_reducible refine Kept.alloc ?_ _ | with_reducible refine Below.drew ?_)))))) | with_reducible refine Below.drew ?_))⟩ ?_
            rintro V ⟨qf, hown, hkV⟩
            have qfc0 := fun g : Later V => (qf.later g).cell 0
            have qff0 := fun g : Later V => (qf.later g).free 0
            have qfc1 := fun g : Later V => (qf.later g).cell 1
            have qff1 := fun g : Later V => (qf.later g).free 1
            have qfc2 := fun g : Later V => (qf.later g).cell 2
            have qff2 := fun g : Later V => (qf.later g).free 2
            have qfl := fun g : Later V => (qf.later g).lt
            simp at qfc0 qfc1 qfc2
            refine Later.region (by kernel_rfl) (by kernel_rfl) ?_
            repeat (first | go_big_quiet_skip | (go_big_quiet_want; go_big_quiet_op; first | go_big_quiet_on | (apply Exists.intro; refine ⟨fun g => ?_, ?_⟩; (focus (first | (go_at_call 86; exact Later.call (f_shear fr.pos _ _ xs _ (hx.later (Kept.drop hkV g.ok) (Nat.le_refl _)) hc hM HN.out HV.out ⟨o1, o2⟩)) | (go_at_call 60; with_reducible exact Later.call (Q1.out _)))); go_big_quiet_on)))
            refine wpQuiet_nil ?_
            intro gg
            have hkgg := Kept.drop hkV gg.ok
            have hownT := owns_keep hown gg.ok
            have hkT : Kept w gg.val := hkgg
            have hkTs := hkT.size
            go_wp2_with (at_builtin; obtain ⟨i0, hi, hz0, hz1, hz2⟩ := info_parts infoI; refine wpList_append_own _ rfl _ _ 63 rfl w.heap.size 3 i0 (.int .i64 0) 1 8 Try.underlying63 hi hz0 hz1 hz2 rfl (by decide) _ _ _ rfl (hownT.alloc _) ⟨gg.val.heap.size, 0, none⟩ 1 1 [.int .i64 k] rfl rfl (cell_one_at (by simp) _ _) (fun x hx => by simp at hx; subst hx; rfl) (by unfold maxLen; omega) (by omega) (by simp; omega) ?_; intro v' w9 hown' hgrow hnil; clear hi hz0 hz1 hz2)
            have hk9 : Kept w w9 := Kept.grown (Kept.alloc hkT _) (hownT.alloc _) (Nat.le_refl _) hgrow
            go_roundw
            case rel =>
              obtain ⟨g1, g2⟩ := HSN2.out
              have hown9 : w9.ownsRow w.heap.size 3 1 v' (n + 1) ((strainedTo xs fs (k + 1)).flatMap icell) := by rw [g1]; exact hown'
              first
              | exact ⟨k + 1, by omega, by go_num, ⟨n + 1, by omega, hown9, by omega⟩, hk9⟩
              | (apply Exists.intro; repeat (apply Exists.intro); refine ⟨?_, rfl⟩; exact ⟨k + 1, by omega, by go_num, ⟨n + 1, by omega, hown9, by omega⟩, hk9⟩)
            case measure => simp [intOf]; omega
          · cases h2 : spanB (sumBy (bLo fr.pos) xs) (sumBy (bHi fr.pos) xs) fr.bend
            ·
              have Q1 := Lib.hid (fun w => (by have := f_span (sumBy (sLo fr.pos) xs) (sumBy (sHi fr.pos) xs) fr.shear w (by omega) (by omega); rwa [h1] at this : Calls Try.prog 60 #[.agg #[.int .i64 (sumBy (sLo fr.pos) xs), .int .i64 (sumBy (sHi fr.pos) xs)], .int .i64 fr.shear] w fun e w' => e = .returned (.bool true) ∧ Kept w w'))
              have Q2 := Lib.hid (fun w => (by have := f_span (sumBy (bLo fr.pos) xs) (sumBy (bHi fr.pos) xs) fr.bend w (by omega) (by omega); rwa [h2] at this : Calls Try.prog 60 #[.agg #[.int .i64 (sumBy (bLo fr.pos) xs), .int .i64 (sumBy (bHi fr.pos) xs)], .int .i64 fr.bend] w fun e w' => e = .returned (.bool false) ∧ Kept w w'))
              have HSN2 := Lib.hid (HSN.out (show strain xs fr = true by simp [strain, h1, h2]))
              clear h1 h2
              go_upto_region 11 with fail
              refine at_world (S := fun W => Blk W wr.heap.size #[.int .i64 fr.pos, .int .i64 fr.shear, .int .i64 fr.bend] 104 ∧ W.ownsRow w.heap.size 3 1 _ n ((strainedTo xs fs k).flatMap icell) ∧ Kept w W) ⟨by (repeat (first | with_reducible assumption | ((with_reducible refine Blk.new' ?_); first | with_reducible rfl | (simp; done) | (simp [World.drew]; done)) | with_reducible refine Blk.alloc ?_ _ | ((with_reducible refine Blk.set (arr := ?_) ?_ _ _); rotate_left 1) | ((with_reducible refine Blk.other ?_ ?_ _); rotate_left 1; (focus (first | (simp; done) | (simp; omega) | (refine Nat.ne_of_gt (Blk.lt (arr := ?_) (t := ?_) ?_); rotate_left 2; focus (repeat (first | with_reducible assumption | ((with_reducible refine Blk.new' ?_); first | with_reducible rfl | (simp; done) | (simp [World.drew]; done)) | with_reducible refine Blk.alloc ?_ _ | with_reducible refine Blk.keep ?_ (by with_reducible assumption) | with_reducible refine Blk.drew ?_))) | (refine Nat.ne_of_lt (Blk.lt (arr := ?_) (t := ?_) ?_); rotate_left 2; focus (repeat (first | with_reducible assumption | ((with_reducible refine Blk.new' ?_); first | with_reducible rfl | (simp; done) | (simp [World.drew]; done)) | with_reducible refine Blk.alloc ?_ _ | with_reducible refine Blk.keep ?_ (by with_reducible assumption) | with_reducible refine Blk.drew ?_)))))) | with_reducible refine Blk.keep ?_ (by with_reducible assumption) | with_reducible refine Blk.drew ?_)), hown.alloc _, by (repeat (first | with_reducible exact Below.refl _ _ | with_reducible assumption | with_reducible refine Kept.drop ?_ (by with_reducible assumption) | with_reducible refine Kept.alloc ?_ _ | ((with_reducible refine Below.setCell ?_ ?_ _); rotate_left 1; (focus (first | exact Nat.le_refl _ | (simp; done) | (simp; omega) | exact Below.size (by with_reducible assumption) | (refine Kept.size ?_; (repeat (first | with_reducible exact Below.refl _ _ | with_reducible assumption | with_reducible refine Kept.drop ?_ (by with_reducible assumption) | with_reducible refine Kept.alloc ?_ _ | with_reducible refine Below.drew ?_)))))) | with_reducible refine Below.drew ?_))⟩ ?_
              rintro V ⟨qf, hown, hkV⟩
              have qfc0 := fun g : Later V => (qf.later g).cell 0
              have qff0 := fun g : Later V => (qf.later g).free 0
              have qfc1 := fun g : Later V => (qf.later g).cell 1
              have qff1 := fun g : Later V => (qf.later g).free 1
              have qfc2 := fun g : Later V => (qf.later g).cell 2
              have qff2 := fun g : Later V => (qf.later g).free 2
              have qfl := fun g : Later V => (qf.later g).lt
              simp at qfc0 qfc1 qfc2
              refine Later.region (by kernel_rfl) (by kernel_rfl) ?_
              repeat (first | go_big_quiet_skip | (go_big_quiet_want; go_big_quiet_op; first | go_big_quiet_on | (apply Exists.intro; refine ⟨fun g => ?_, ?_⟩; (focus (first | (go_at_call 86; exact Later.call (f_shear fr.pos _ _ xs _ (hx.later (Kept.drop hkV g.ok) (Nat.le_refl _)) hc hM HN.out HV.out ⟨o1, o2⟩)) | (go_at_call 60; with_reducible exact Later.call (Q1.out _)) | (go_at_call 88; exact Later.call (f_bend fr.pos _ _ xs _ (hx.later (Kept.drop hkV g.ok) (Nat.le_refl _)) hc hM HN.out HV.out ⟨o1, o2⟩)) | (go_at_call 60; with_reducible exact Later.call (Q2.out _)))); go_big_quiet_on)))
              refine wpQuiet_nil ?_
              intro gg
              have hkgg := Kept.drop hkV gg.ok
              have hownT := owns_keep hown gg.ok
              have hkT : Kept w gg.val := hkgg
              have hkTs := hkT.size
              go_wp2_with (at_builtin; obtain ⟨i0, hi, hz0, hz1, hz2⟩ := info_parts infoI; refine wpList_append_own _ rfl _ _ 63 rfl w.heap.size 3 i0 (.int .i64 0) 1 8 Try.underlying63 hi hz0 hz1 hz2 rfl (by decide) _ _ _ rfl (hownT.alloc _) ⟨gg.val.heap.size, 0, none⟩ 1 1 [.int .i64 k] rfl rfl (cell_one_at (by simp) _ _) (fun x hx => by simp at hx; subst hx; rfl) (by unfold maxLen; omega) (by omega) (by simp; omega) ?_; intro v' w9 hown' hgrow hnil; clear hi hz0 hz1 hz2)
              have hk9 : Kept w w9 := Kept.grown (Kept.alloc hkT _) (hownT.alloc _) (Nat.le_refl _) hgrow
              go_roundw
              case rel =>
                obtain ⟨g1, g2⟩ := HSN2.out
                have hown9 : w9.ownsRow w.heap.size 3 1 v' (n + 1) ((strainedTo xs fs (k + 1)).flatMap icell) := by rw [g1]; exact hown'
                first
                | exact ⟨k + 1, by omega, by go_num, ⟨n + 1, by omega, hown9, by omega⟩, hk9⟩
                | (apply Exists.intro; repeat (apply Exists.intro); refine ⟨?_, rfl⟩; exact ⟨k + 1, by omega, by go_num, ⟨n + 1, by omega, hown9, by omega⟩, hk9⟩)
              case measure => simp [intOf]; omega
            ·
              have Q1 := Lib.hid (fun w => (by have := f_span (sumBy (sLo fr.pos) xs) (sumBy (sHi fr.pos) xs) fr.shear w (by omega) (by omega); rwa [h1] at this : Calls Try.prog 60 #[.agg #[.int .i64 (sumBy (sLo fr.pos) xs), .int .i64 (sumBy (sHi fr.pos) xs)], .int .i64 fr.shear] w fun e w' => e = .returned (.bool true) ∧ Kept w w'))
              have Q2 := Lib.hid (fun w => (by have := f_span (sumBy (bLo fr.pos) xs) (sumBy (bHi fr.pos) xs) fr.bend w (by omega) (by omega); rwa [h2] at this : Calls Try.prog 60 #[.agg #[.int .i64 (sumBy (bLo fr.pos) xs), .int .i64 (sumBy (bHi fr.pos) xs)], .int .i64 fr.bend] w fun e w' => e = .returned (.bool true) ∧ Kept w w'))
              have HSS2 := Lib.hid (HSS.out (show strain xs fr = false by simp [strain, h1, h2]))
              clear h1 h2
              go_upto_region 11 with fail
              refine at_world (S := fun W => Blk W wr.heap.size #[.int .i64 fr.pos, .int .i64 fr.shear, .int .i64 fr.bend] 104 ∧ W.ownsRow w.heap.size 3 1 _ n ((strainedTo xs fs k).flatMap icell) ∧ Kept w W) ⟨by (repeat (first | with_reducible assumption | ((with_reducible refine Blk.new' ?_); first | with_reducible rfl | (simp; done) | (simp [World.drew]; done)) | with_reducible refine Blk.alloc ?_ _ | ((with_reducible refine Blk.set (arr := ?_) ?_ _ _); rotate_left 1) | ((with_reducible refine Blk.other ?_ ?_ _); rotate_left 1; (focus (first | (simp; done) | (simp; omega) | (refine Nat.ne_of_gt (Blk.lt (arr := ?_) (t := ?_) ?_); rotate_left 2; focus (repeat (first | with_reducible assumption | ((with_reducible refine Blk.new' ?_); first | with_reducible rfl | (simp; done) | (simp [World.drew]; done)) | with_reducible refine Blk.alloc ?_ _ | with_reducible refine Blk.keep ?_ (by with_reducible assumption) | with_reducible refine Blk.drew ?_))) | (refine Nat.ne_of_lt (Blk.lt (arr := ?_) (t := ?_) ?_); rotate_left 2; focus (repeat (first | with_reducible assumption | ((with_reducible refine Blk.new' ?_); first | with_reducible rfl | (simp; done) | (simp [World.drew]; done)) | with_reducible refine Blk.alloc ?_ _ | with_reducible refine Blk.keep ?_ (by with_reducible assumption) | with_reducible refine Blk.drew ?_)))))) | with_reducible refine Blk.keep ?_ (by with_reducible assumption) | with_reducible refine Blk.drew ?_)), hown.alloc _, by (repeat (first | with_reducible exact Below.refl _ _ | with_reducible assumption | with_reducible refine Kept.drop ?_ (by with_reducible assumption) | with_reducible refine Kept.alloc ?_ _ | ((with_reducible refine Below.setCell ?_ ?_ _); rotate_left 1; (focus (first | exact Nat.le_refl _ | (simp; done) | (simp; omega) | exact Below.size (by with_reducible assumption) | (refine Kept.size ?_; (repeat (first | with_reducible exact Below.refl _ _ | with_reducible assumption | with_reducible refine Kept.drop ?_ (by with_reducible assumption) | with_reducible refine Kept.alloc ?_ _ | with_reducible refine Below.drew ?_)))))) | with_reducible refine Below.drew ?_))⟩ ?_
              rintro V ⟨qf, hown, hkV⟩
              have qfc0 := fun g : Later V => (qf.later g).cell 0
              have qff0 := fun g : Later V => (qf.later g).free 0
              have qfc1 := fun g : Later V => (qf.later g).cell 1
              have qff1 := fun g : Later V => (qf.later g).free 1
              have qfc2 := fun g : Later V => (qf.later g).cell 2
              have qff2 := fun g : Later V => (qf.later g).free 2
              have qfl := fun g : Later V => (qf.later g).lt
              simp at qfc0 qfc1 qfc2
              refine Later.region (by kernel_rfl) (by kernel_rfl) ?_
              repeat (first | go_big_quiet_skip | (go_big_quiet_want; go_big_quiet_op; first | go_big_quiet_on | (apply Exists.intro; refine ⟨fun g => ?_, ?_⟩; (focus (first | (go_at_call 86; exact Later.call (f_shear fr.pos _ _ xs _ (hx.later (Kept.drop hkV g.ok) (Nat.le_refl _)) hc hM HN.out HV.out ⟨o1, o2⟩)) | (go_at_call 60; with_reducible exact Later.call (Q1.out _)) | (go_at_call 88; exact Later.call (f_bend fr.pos _ _ xs _ (hx.later (Kept.drop hkV g.ok) (Nat.le_refl _)) hc hM HN.out HV.out ⟨o1, o2⟩)) | (go_at_call 60; with_reducible exact Later.call (Q2.out _)))); go_big_quiet_on)))
              refine wpQuiet_nil ?_
              intro gg
              have hkgg := Kept.drop hkV gg.ok
              have hownT := owns_keep hown gg.ok
              have hkT : Kept w gg.val := hkgg
              have hkTs := hkT.size
              go_wp2
              go_roundw
              case rel =>
                have hown9 := hownT
                rw [← HSS2.out] at hown9 hlen
                first
                | exact ⟨k + 1, by omega, by go_num, ⟨n, by omega, hown9, hlen⟩, hkT⟩
                | (apply Exists.intro; repeat (apply Exists.intro); refine ⟨?_, rfl⟩; exact ⟨k + 1, by omega, by go_num, ⟨n, by omega, hown9, hlen⟩, hkT⟩)
              case measure => simp [intOf]; omega
        · obtain rfl : k = fs.length := by omega
          subst hlen
          obtain ⟨ad, cp, rfl, _⟩ := owns_row (enc := icell) (k := 1) (fun _ => rfl) hown
          go_wp2
          exact bodyPost_ret (v := .tuple #[.slice ad (strainedTo xs fs fs.length).length cp, .int .i64 0]) (by simp [results, Try.results39, go_sem]) rfl ⟨_, rfl, hown, by (repeat (first | with_reducible exact Below.refl _ _ | with_reducible assumption | with_reducible refine Kept.drop ?_ (by with_reducible assumption) | with_reducible refine Kept.alloc ?_ _ | ((with_reducible refine Below.setCell ?_ ?_ _); rotate_left 1; (focus (first | exact Nat.le_refl _ | (simp; done) | (simp; omega) | exact Below.size (by with_reducible assumption) | (refine Kept.size ?_; (repeat (first | with_reducible exact Below.refl _ _ | with_reducible assumption | with_reducible refine Kept.drop ?_ (by with_reducible assumption) | with_reducible refine Kept.alloc ?_ _ | with_reducible refine Below.drew ?_)))))) | with_reducible refine Below.drew ?_))⟩
    · rw [if_neg he2]
      have hb : (checkFrames fs != 0) = true := by simp [he2]
      obtain ⟨E, hEE⟩ : ∃ E, E = checkFrames fs := ⟨_, rfl⟩
      have HF := Lib.hid hEE.symm
      rw [← hEE] at he2 hb ⊢
      clear hEE hv
      go_enter Try.func39, Try.ntmps39
      go_wp2_with (first | (go_at_call 19; (with_reducible refine (f_CheckLoads _ _ _ _ (hx.later (by (repeat (first | with_reducible exact Below.refl _ _ | with_reducible assumption | with_reducible refine Kept.drop ?_ (by with_reducible assumption) | with_reducible refine Kept.alloc ?_ _ | ((with_reducible refine Below.setCell ?_ ?_ _); rotate_left 1; (focus (first | exact Nat.le_refl _ | (simp; done) | (simp; omega) | exact Below.size (by with_reducible assumption) | (refine Kept.size ?_; (repeat (first | with_reducible exact Below.refl _ _ | with_reducible assumption | with_reducible refine Kept.drop ?_ (by with_reducible assumption) | with_reducible refine Kept.alloc ?_ _ | with_reducible refine Below.drew ?_)))))) | with_reducible refine Below.drew ?_))) (Nat.le_refl _)) hc hM).mono ?_); rw [HE.out]; rintro e w1 ⟨rfl, hb1⟩) | (go_at_call 23; (with_reducible refine (f_CheckFrames _ _ _ _ (hf.later (by (repeat (first | with_reducible exact Below.refl _ _ | with_reducible assumption | with_reducible refine Kept.drop ?_ (by with_reducible assumption) | with_reducible refine Kept.alloc ?_ _ | ((with_reducible refine Below.setCell ?_ ?_ _); rotate_left 1; (focus (first | exact Nat.le_refl _ | (simp; done) | (simp; omega) | exact Below.size (by with_reducible assumption) | (refine Kept.size ?_; (repeat (first | with_reducible exact Below.refl _ _ | with_reducible assumption | with_reducible refine Kept.drop ?_ (by with_reducible assumption) | with_reducible refine Kept.alloc ?_ _ | with_reducible refine Below.drew ?_)))))) | with_reducible refine Below.drew ?_))) (Nat.le_refl _)) hfc hfM).mono ?_); rw [HF.out]; rintro e w2 ⟨rfl, hb2⟩))
      exact bodyPost_ret (v := .tuple #[.slice none 0 0, .int .i64 E]) (by simp [results, Try.results39, go_sem]) rfl ⟨_, rfl, owns_nil (α := Int) (enc := icell), by (repeat (first | with_reducible exact Below.refl _ _ | with_reducible assumption | with_reducible refine Kept.drop ?_ (by with_reducible assumption) | with_reducible refine Kept.alloc ?_ _ | ((with_reducible refine Below.setCell ?_ ?_ _); rotate_left 1; (focus (first | exact Nat.le_refl _ | (simp; done) | (simp; omega) | exact Below.size (by with_reducible assumption) | (refine Kept.size ?_; (repeat (first | with_reducible exact Below.refl _ _ | with_reducible assumption | with_reducible refine Kept.drop ?_ (by with_reducible assumption) | with_reducible refine Kept.alloc ?_ _ | with_reducible refine Below.drew ?_)))))) | with_reducible refine Below.drew ?_))⟩
  · rw [if_neg he, if_neg he]
    have hb : (checkLoads xs != 0) = true := by simp [he]
    obtain ⟨E, hEE⟩ : ∃ E, E = checkLoads xs := ⟨_, rfl⟩
    have HE := Lib.hid hEE.symm
    rw [← hEE] at he hb ⊢
    clear hEE
    go_enter Try.func39, Try.ntmps39
    go_wp2_with (go_at_call 19; (with_reducible refine (f_CheckLoads _ _ _ _ (hx.later (by (repeat (first | with_reducible exact Below.refl _ _ | with_reducible assumption | with_reducible refine Kept.drop ?_ (by with_reducible assumption) | with_reducible refine Kept.alloc ?_ _ | ((with_reducible refine Below.setCell ?_ ?_ _); rotate_left 1; (focus (first | exact Nat.le_refl _ | (simp; done) | (simp; omega) | exact Below.size (by with_reducible assumption) | (refine Kept.size ?_; (repeat (first | with_reducible exact Below.refl _ _ | with_reducible assumption | with_reducible refine Kept.drop ?_ (by with_reducible assumption) | with_reducible refine Kept.alloc ?_ _ | with_reducible refine Below.drew ?_)))))) | with_reducible refine Below.drew ?_))) (Nat.le_refl _)) hc hM).mono ?_); rw [HE.out]; rintro e w1 ⟨rfl, hb1⟩)
    exact bodyPost_ret (v := .tuple #[.slice none 0 0, .int .i64 E]) (by simp [results, Try.results39, go_sem]) rfl ⟨_, rfl, owns_nil (α := Int) (enc := icell), by (repeat (first | with_reducible exact Below.refl _ _ | with_reducible assumption | with_reducible refine Kept.drop ?_ (by with_reducible assumption) | with_reducible refine Kept.alloc ?_ _ | ((with_reducible refine Below.setCell ?_ ?_ _); rotate_left 1; (focus (first | exact Nat.le_refl _ | (simp; done) | (simp; omega) | exact Below.size (by with_reducible assumption) | (refine Kept.size ?_; (repeat (first | with_reducible exact Below.refl _ _ | with_reducible assumption | with_reducible refine Kept.drop ?_ (by with_reducible assumption) | with_reducible refine Kept.alloc ?_ _ | with_reducible refine Below.drew ?_)))))) | with_reducible refine Below.drew ?_))⟩

end Go.Proofs.Ytlloijkmpmfapaa
