/-
  The contracts of chapters 3 and 4 that the statement on load sheets leans on:
  f_Do r_Check r_CheckAir r_Twin f_Lift_ok f_CheckLoads f_CheckLimits f_Balance f_Breach t_one t_still open_plant open_typed open_agg wf_u16 wf_u8o wf_i64 wf_u8 mayEnter_is liftsFinal_is make_is
  Row Own owns_put owns_row owns_block owns_cur owns_base owns_lt wpAny_rel wpAny_dp0 tailIn regionIn copyO copy wpList_copy wpList_copyO owns_made owns_nil owns_keep owns_grownT owns_shape grownLt grown grownN grownB bcell bcell3
  int_of_leaves Deed Cell Air Sp of_leaves row Mine plantCells later_mix tail region at_world at_worldR at_worldQ blk blkc blkd blk0 kpt kpt0 blkx kptx own thru wpSteps_want wpSteps_any later_dies held_walk held_take held_pass held_one held_on held_end held_nil
  sheetOf valve_sum heavy_cold heavy_le rowsTo_ok sheet_len sheet_ascii sheetOf_lines split_lines fields_body itoa_atoi words_atoi linesOf_get linesOf_len linesOf_no words_told words_table extract_str str_list str_size wide_next wide_ge wide_21 laid_len line_len rowsTo_succ rowsTo_len table_len sheetT tot_bd
  plantB_iff cellB_iff airB_iff lift_bd resA_len kept_cell kept_books doE_cases later row of_owns block wpList_append_where Apart Moved owns_shapeW info_partsW checkLoads_ok breachE breachN
-/
import Derived.Deep.DeepCutAuto
import Derived.Deep.RegionHeld3
import Derived.Lib.Split
import Derived.Lib.CountLaws
import Derived.Lib.CutLaws
import Derived.Lib.Fields
import Derived.Lib.Repeat
import Derived.Lib.ItoaNum
import Derived.Lib.Atoi
import Derived.Lib.Strings
import Derived.Lib.ItoaLen
import Derived.Laws.AppendOwn
import Derived.WalkKit
import Derived.WalkSpells
import Derived.WalkLawsBesides
import Derived.Lib.Hide
import Derived.ProofKit
import Derived.OpenShut
import Derived.ChangeOld
import Derived.Below
import Derived.Deep.Slices
import Derived.Deep.Fields
import Derived.Deep.Quiet
import Derived.Laws.AppendOwnNone
import Derived.StillTail
import Derived.Test.YtamnnjdfjffhlaaGreatDoorProg
import Derived.Deep.QuietTactic
import Derived.BigQuiet
import Derived.WalkSmall
import Derived.OwnWalk
import Derived.Deep.RegionWith
import Derived.Deep.DrawnRows
import Derived.OrdersHeld
import Derived.Recover
import Derived.Laws.EntriesVeiled
import Derived.WideShapes
import Derived.JoinedOf
import Derived.Test.YtamnnjdfjffhlaaGreatDoorTopSBaseMA
import Derived.Test.YtamnnjdfjffhlaaGreatDoorTopSBaseMB
import Derived.Test.YtamnnjdfjffhlaaGreatDoorTopSBaseMC
set_option linter.unusedVariables false
set_option linter.unusedSimpArgs false
/-
  Breaches, in the program.
-/
namespace Go.Proofs.YtamnnjdfjffhlaaGreatDoor.Trim04
open Go.RowKit Bal Bal.Trim
set_option linter.unusedVariables false
set_option linter.unusedSimpArgs false
set_option maxHeartbeats 800000

set_option maxRecDepth 10000

theorem inB_iff {n lo hi : Int} : inB n lo hi = true ↔ lo ≤ n ∧ n ≤ hi := by simp [inB]

theorem f_both (a : Option Addr) (cap : Nat) (xs : List Load) (b : Option Addr) (cb : Nat) (ms : List Limit) (w : World) (hx : Row Load.cells 4 w.heap.size w a xs) (hc : xs.length ≤ cap) (hM : cap ≤ maxLen) (hy : Row Limit.cells 3 w.heap.size w b ms) (hd : ms.length ≤ cb) (hN : cb ≤ maxLen) :
    Calls Tryz.prog 67 #[.slice a xs.length cap, .slice b ms.length cb] w fun e w' => e = .returned (.int .i64 (both xs ms)) ∧ Kept w w' := by
  unfold both
  by_cases he : checkLoads xs = 0
  · rw [if_pos he]
    have HE := Lib.hid he
    clear he
    go_enter Tryz.func67, Tryz.ntmps67
    go_wp2_with (first | (go_at_call 48; (with_reducible refine (f_CheckLoads _ _ _ _ (hx.later (by (exact kpt)) (Nat.le_refl _)) hc hM).mono ?_); rw [HE.out]; rintro e w1 ⟨rfl, hb1⟩; obtain ⟨hc1, hf1, hl1⟩ := bcell3 hb1) | (go_at_call 33; (with_reducible refine (f_CheckLimits _ _ _ _ (hy.later (by (exact kpt)) (Nat.le_refl _)) hd hN).mono ?_); rintro e w2 ⟨rfl, hb2⟩; obtain ⟨hc2, hf2, hl2⟩ := bcell3 hb2))
    go_ret
    exact ⟨rfl, by (exact kpt)⟩
  · rw [if_neg he]
    have hb : (checkLoads xs != 0) = true := by simp [he]
    obtain ⟨E, hEE⟩ : ∃ E, E = checkLoads xs := ⟨_, rfl⟩
    have HE := Lib.hid hEE.symm
    rw [← hEE] at he hb ⊢
    clear hEE
    go_enter Tryz.func67, Tryz.ntmps67
    go_wp2_with (go_at_call 48; (with_reducible refine (f_CheckLoads _ _ _ _ (hx.later (by (exact kpt)) (Nat.le_refl _)) hc hM).mono ?_); rw [HE.out]; rintro e w1 ⟨rfl, hb1⟩; obtain ⟨hc1, hf1, hl1⟩ := bcell3 hb1)
    go_ret
    exact ⟨rfl, by (exact kpt)⟩

def BrokenRel (w : World) (xs : List Load) (ms : List Limit) (i : Value) (wr : World) : Prop :=
  ∃ k : Nat, k ≤ ms.length ∧ i = .int .i64 k ∧ (∀ j, j < k → brk xs ms j = false) ∧ Blk wr w.heap.size #[.int .i64 0, .slice none 0 0] 98 ∧ Kept w wr
theorem f_broken (a : Option Addr) (cap : Nat) (xs : List Load) (b : Option Addr) (cb : Nat) (ms : List Limit) (w : World) (hx : Row Load.cells 4 w.heap.size w a xs) (hc : xs.length ≤ cap) (hM : cap ≤ maxLen) (hy : Row Limit.cells 3 w.heap.size w b ms) (hd : ms.length ≤ cb) (hN : cb ≤ maxLen) (he : both xs ms = 0) :
    Calls Tryz.prog 68 #[.slice a xs.length cap, .slice b ms.length cb] w fun e w' => ∃ v, e = .returned (.tuple #[.agg #[.int .i64 (optN (broken xs ms)), v], .bool (broken xs ms).isSome]) ∧
      w'.ownsRow w.heap.size 177 2 v (brP xs ms (broken xs ms)).length ((brP xs ms (broken xs ms)).flatMap Put.cells) ∧ Kept w w' := by
  obtain ⟨he1, he2⟩ := both_ok he
  obtain ⟨hn, hv⟩ := checkLoads_ok he1
  obtain ⟨hn2, hv2⟩ := checkLimits_ok he2
  obtain ⟨Ob, hOb⟩ : ∃ O, O = broken xs ms := ⟨_, rfl⟩
  have HSOME := Lib.hid (fun (k : Nat) (hk : k < ms.length) hb hh => @broken_some xs ms k hk hb hh)
  have HNONE := Lib.hid (fun hb => @broken_none xs ms hb)
  rw [← hOb] at HSOME HNONE ⊢
  clear hOb
  have HN := Lib.hid hn
  have HV := Lib.hid hv
  have HV2 := Lib.hid hv2
  have hNN := hN
  unfold maxLen at hNN
  clear he he1 he2 hv hv2
  go_enter Tryz.func68, Tryz.ntmps68
  go_wp2
  go_loopw [12] (fun i wr => BrokenRel w xs ms i wr) (fun i _ => ms.length - (intOf i).toNat)
  case atStart => exact ⟨0, Nat.zero_le _, rfl, fun j hj => by omega, by (exact blk), by (exact kpt)⟩
  case round =>
    obtain ⟨k, hk, rfl, hno, q0, hkk⟩ := hrel
    have HNO := Lib.hid hno
    clear hno
    by_cases hlt : k < ms.length
    · obtain ⟨bm, om, rfl, hbm, l0, l1, l2⟩ := Limit.row (hy.later hkk (Nat.le_refl _)) k hlt
      have HM := Lib.hid (HV2.out ms[k] (List.getElem_mem hlt))
      have HSK := Lib.hid (HSOME.out k hlt HNO.out)
      have HBF := Lib.hid (fun h => @brk_false xs ms k hlt h)
      have HBP := Lib.hid (brP_at (xs := xs) hlt)
      obtain ⟨m, hm0⟩ : ∃ m, m = ms[k] := ⟨_, rfl⟩
      rw [← hm0] at HM HSK HBF HBP l0 l1 l2
      clear hm0
      have q0lt := q0.lt
      by_cases hgt : m.c < worstV m xs
      · have HS := Lib.hid (HSK.out hgt)
        go_wp2_with (go_at_call 92; (with_reducible refine (f_worst m _ _ xs _ (hx.later (by (exact kpt)) (Nat.le_refl _)) hc hM HN.out HM.out HV.out).mono ?_); rintro e w2 ⟨v, rfl, ho, hb2⟩; obtain ⟨ad, cp, rfl, hrow, hcp, hcm⟩ := owns_row (enc := Put.cells) (k := 2) (fun _ => rfl) ho; refine Blk.thru (b := w.heap.size) (arr := ?_) (t := ?_) ?_ hb2 ?_; rotate_left 2; (focus (exact blk)); intro z0; have z0c0 := z0.cell 0; have z0f0 := z0.free 0; have z0c1 := z0.cell 1; have z0f1 := z0.free 1; have z0l := z0.lt; simp at z0c0 z0c1; refine Blk.thru (b := wr.heap.size) (arr := ?_) (t := ?_) ?_ hb2 ?_; rotate_left 2; (focus (exact blk)); intro qm; have qmc0 := qm.cell 0; have qmf0 := qm.free 0; have qmc1 := qm.cell 1; have qmf1 := qm.free 1; have qmc2 := qm.cell 2; have qmf2 := qm.free 2; have qml := qm.lt; simp at qmc0 qmc1 qmc2)
        have HP := HBP.out
        rw [← HS.out] at HP
        exact bodyPost_ret (v := .tuple #[.agg #[.int .i64 k, .slice ad (choice m xs).length cp], .bool true]) (by simp [results, Tryz.results68, go_sem, z0l, z0c0, z0c1, z0f0, z0f1]) rfl ⟨_, by rw [HS.out]; rfl, by rw [HP]; exact owns_base (owns_set (z0.set 0 _) (owns_set z0 ho (by decide)) (by decide)) (by have := hkk.size; simp; omega), by (exact kpt)⟩
      · have HF := Lib.hid (HBF.out hgt)
        go_wp2_with (go_at_call 92; (with_reducible refine (f_worst m _ _ xs _ (hx.later (by (exact kpt)) (Nat.le_refl _)) hc hM HN.out HM.out HV.out).mono ?_); rintro e w2 ⟨v, rfl, ho, hb2⟩; obtain ⟨ad, cp, rfl, hrow, hcp, hcm⟩ := owns_row (enc := Put.cells) (k := 2) (fun _ => rfl) ho; refine Blk.thru (b := w.heap.size) (arr := ?_) (t := ?_) ?_ hb2 ?_; rotate_left 2; (focus (exact blk)); intro z0; have z0c0 := z0.cell 0; have z0f0 := z0.free 0; have z0c1 := z0.cell 1; have z0f1 := z0.free 1; have z0l := z0.lt; simp at z0c0 z0c1; refine Blk.thru (b := wr.heap.size) (arr := ?_) (t := ?_) ?_ hb2 ?_; rotate_left 2; (focus (exact blk)); intro qm; have qmc0 := qm.cell 0; have qmf0 := qm.free 0; have qmc1 := qm.cell 1; have qmf1 := qm.free 1; have qmc2 := qm.cell 2; have qmf2 := qm.free 2; have qml := qm.lt; simp at qmc0 qmc1 qmc2)
        go_round
        case rel =>
          refine ⟨k + 1, by omega, by go_num, ?_, by (exact blk), by (exact kpt)⟩
          intro j hj
          by_cases hjk : j < k
          · exact HNO.out j hjk
          · obtain rfl : j = k := by omega
            exact HF.out
        case measure => simp [intOf]; omega
    · obtain rfl : k = ms.length := by omega
      have HS := Lib.hid (HNONE.out HNO.out)
      have q0c0 := q0.cell 0
      have q0f0 := q0.free 0
      have q0c1 := q0.cell 1
      have q0f1 := q0.free 1
      have q0l := q0.lt
      simp at q0c0 q0c1
      go_wp2
      obtain rfl := HS.out
      exact bodyPost_ret (v := .tuple #[.agg #[.int .i64 0, .slice none 0 0], .bool false]) (by simp [results, Tryz.results68, go_sem, q0c0, q0c1, q0f0, q0f1]) rfl ⟨_, rfl, owns_nil (α := Put) (enc := Put.cells), by (exact kpt)⟩

def BreachPost (w : World) (xs : List Load) (ms : List Limit) (e : Ending) (w' : World) : Prop :=
  ∃ v, e = .returned (.tuple #[.agg #[.int .i64 (breachN xs ms), v], .int .i64 (breachE xs ms)]) ∧ w'.ownsRow w.heap.size 177 2 v (breachP xs ms).length ((breachP xs ms).flatMap Put.cells) ∧ Kept w w'
theorem f_Breach (a : Option Addr) (cap : Nat) (xs : List Load) (b : Option Addr) (cb : Nat) (ms : List Limit) (w : World) (hx : Row Load.cells 4 w.heap.size w a xs) (hc : xs.length ≤ cap) (hM : cap ≤ maxLen) (hy : Row Limit.cells 3 w.heap.size w b ms) (hd : ms.length ≤ cb) (hN : cb ≤ maxLen) :
    Calls Tryz.prog 36 #[.slice a xs.length cap, .slice b ms.length cb] w fun e w' => BreachPost w xs ms e w' := by
  unfold BreachPost breachN breachE breachP
  by_cases he : both xs ms = 0
  · rw [if_pos he, if_pos he, if_pos he]
    have HE := Lib.hid he
    clear he
    cases hb : broken xs ms with
    | none =>
      have HB := Lib.hid hb
      clear hb
      go_enter Tryz.func36, Tryz.ntmps36
      go_wp2_with (first | (go_at_call 67; (with_reducible refine (f_both a cap xs b cb ms _ (hx.later (by (exact kpt)) (Nat.le_refl _)) hc hM (hy.later (by (exact kpt)) (Nat.le_refl _)) hd hN).mono ?_); rw [HE.out]; rintro e w1 ⟨rfl, hb1⟩; refine Blk.thru (b := w.heap.size) (arr := ?_) (t := ?_) ?_ hb1 ?_; rotate_left 2; (focus (exact blk)); intro z0; have z0c0 := z0.cell 0; have z0f0 := z0.free 0; have z0c1 := z0.cell 1; have z0f1 := z0.free 1; have z0l := z0.lt; simp at z0c0 z0c1) | (go_at_call 68; (with_reducible refine (f_broken a cap xs b cb ms _ (hx.later (by (exact kpt)) (Nat.le_refl _)) hc hM (hy.later (by (exact kpt)) (Nat.le_refl _)) hd hN HE.out).mono ?_); simp only [HB.out, optN, Option.isSome]; rintro e w2 ⟨v, rfl, ho, hb2⟩; obtain ⟨ad, cp, rfl, hrow, hcp, hcm⟩ := owns_row (enc := Put.cells) (k := 2) (fun _ => rfl) ho; refine Blk.thru (b := w.heap.size) (arr := ?_) (t := ?_) ?_ hb2 ?_; rotate_left 2; (focus (exact blk)); intro z0; have z0c0 := z0.cell 0; have z0f0 := z0.free 0; have z0c1 := z0.cell 1; have z0f1 := z0.free 1; have z0l := z0.lt; simp at z0c0 z0c1))
      exact bodyPost_ret (v := .tuple #[.agg #[.int .i64 0, .slice none 0 0], .int .i64 6]) (by simp [results, Tryz.results36, go_sem, z0c0, z0c1, z0f0, z0f1, z0l]) rfl ⟨_, rfl, owns_nil (α := Put) (enc := Put.cells), by (exact kpt)⟩
    | some k =>
      have HB := Lib.hid hb
      clear hb
      go_enter Tryz.func36, Tryz.ntmps36
      go_wp2_with (first | (go_at_call 67; (with_reducible refine (f_both a cap xs b cb ms _ (hx.later (by (exact kpt)) (Nat.le_refl _)) hc hM (hy.later (by (exact kpt)) (Nat.le_refl _)) hd hN).mono ?_); rw [HE.out]; rintro e w1 ⟨rfl, hb1⟩; refine Blk.thru (b := w.heap.size) (arr := ?_) (t := ?_) ?_ hb1 ?_; rotate_left 2; (focus (exact blk)); intro z0; have z0c0 := z0.cell 0; have z0f0 := z0.free 0; have z0c1 := z0.cell 1; have z0f1 := z0.free 1; have z0l := z0.lt; simp at z0c0 z0c1) | (go_at_call 68; (with_reducible refine (f_broken a cap xs b cb ms _ (hx.later (by (exact kpt)) (Nat.le_refl _)) hc hM (hy.later (by (exact kpt)) (Nat.le_refl _)) hd hN HE.out).mono ?_); simp only [HB.out, optN, Option.isSome]; rintro e w2 ⟨v, rfl, ho, hb2⟩; obtain ⟨ad, cp, rfl, hrow, hcp, hcm⟩ := owns_row (enc := Put.cells) (k := 2) (fun _ => rfl) ho; refine Blk.thru (b := w.heap.size) (arr := ?_) (t := ?_) ?_ hb2 ?_; rotate_left 2; (focus (exact blk)); intro z0; have z0c0 := z0.cell 0; have z0f0 := z0.free 0; have z0c1 := z0.cell 1; have z0f1 := z0.free 1; have z0l := z0.lt; simp at z0c0 z0c1))
      exact bodyPost_ret (v := .tuple #[.agg #[.int .i64 k, .slice ad (brP xs ms (some k)).length cp], .int .i64 0]) (by simp [results, Tryz.results36, go_sem, z0c0, z0c1, z0f0, z0f1, z0l]) rfl ⟨_, rfl, owns_base ((owns_set (z0.set 0 _) (owns_set z0 ho (by decide)) (by decide)).alloc _) (by have := hb1.size; simp at this; omega), by (exact kpt)⟩
  · rw [if_neg he, if_neg he, if_neg he]
    have hb : (both xs ms != 0) = true := by simp [he]
    obtain ⟨E, hEE⟩ : ∃ E, E = both xs ms := ⟨_, rfl⟩
    have HE := Lib.hid hEE.symm
    rw [← hEE] at he hb ⊢
    clear hEE
    go_enter Tryz.func36, Tryz.ntmps36
    go_wp2_with (go_at_call 67; (with_reducible refine (f_both a cap xs b cb ms _ (hx.later (by (exact kpt)) (Nat.le_refl _)) hc hM (hy.later (by (exact kpt)) (Nat.le_refl _)) hd hN).mono ?_); rw [HE.out]; rintro e w1 ⟨rfl, hb1⟩; refine Blk.thru (b := w.heap.size) (arr := ?_) (t := ?_) ?_ hb1 ?_; rotate_left 2; (focus (exact blk)); intro z0; have z0c0 := z0.cell 0; have z0f0 := z0.free 0; have z0c1 := z0.cell 1; have z0f1 := z0.free 1; have z0l := z0.lt; simp at z0c0 z0c1)
    exact bodyPost_ret (v := .tuple #[.agg #[.int .i64 0, .slice none 0 0], .int .i64 E]) (by simp [results, Tryz.results36, go_sem, z0c0, z0c1, z0f0, z0f1, z0l]) rfl ⟨_, rfl, owns_nil (α := Put) (enc := Put.cells), by (exact kpt)⟩

end Go.Proofs.YtamnnjdfjffhlaaGreatDoor.Trim04

/-
  In trim whatever the air: small functions, the examples.
-/
namespace Go.Proofs.YtamnnjdfjffhlaaGreatDoor
open Go.RowKit Bal Bal.Trim Bal.Gas Bal.Top
set_option linter.unusedVariables false
set_option linter.unusedSimpArgs false
set_option maxHeartbeats 4000000
set_option maxRecDepth 100000

theorem t_one (x : Int) (w : World) : Calls Tryz.prog 10 #[.int .i64 x] w fun e w' => e = .returned (.agg #[.int .i64 (x), .int .i64 (x)]) ∧ Kept w w' := by
  go_enter Tryz.func10, Tryz.ntmps10
  go_wp2
  exact bodyPost_ret (v := .agg #[.int .i64 (x), .int .i64 (x)]) (by simp [results, Tryz.results10, go_sem]) rfl ⟨rfl, by (exact kpt)⟩

theorem t_still (w : World) : Calls Tryz.prog 12 #[] w fun e w' => e = .returned (.agg #[.int .i64 10000, .int .i64 10000, .int .i64 2900, .int .i64 2900]) ∧ Kept w w' := by
  go_enter Tryz.func12, Tryz.ntmps12
  go_wp2_with (go_at_call 10; (with_reducible refine (t_one _ _).mono ?_); rintro e w1 ⟨rfl, hb1⟩; refine Blk.thru (b := w.heap.size) (arr := ?_) (t := ?_) ?_ hb1 ?_; rotate_left 2; (focus (exact blk)); intro qr; have qrc0 := qr.cell 0; have qrf0 := qr.free 0; have qrc1 := qr.cell 1; have qrf1 := qr.free 1; have qrc2 := qr.cell 2; have qrf2 := qr.free 2; have qrc3 := qr.cell 3; have qrf3 := qr.free 3; have qrl := qr.lt; simp at qrc0 qrc1 qrc2 qrc3)
  exact bodyPost_ret (v := .agg #[.int .i64 10000, .int .i64 10000, .int .i64 2900, .int .i64 2900]) (by simp [results, Tryz.results12, go_sem, qrc0, qrf0, qrc1, qrf1, qrc2, qrf2, qrc3, qrf3]) rfl ⟨rfl, by (exact kpt)⟩

end Go.Proofs.YtamnnjdfjffhlaaGreatDoor

/-
  The text of a load sheet: numerals, words and gaps, lines, tables. No program in sight.
-/
namespace Bal.Sheet
open Go
abbrev Bs := List UInt8
def str (l : Bs) : ByteArray := ⟨l.toArray⟩
theorem str_list (l : Bs) : (str l).data.toList = l := by simp [str]
theorem str_size (l : Bs) : (str l).size = l.length := by simp [str, ByteArray.size]
/-! ### numerals -/
theorem digit_val {d : Nat} (h : d < 10) : Lib.digitVal (UInt8.ofNat (48 + d)) = some d := by
  have : ∀ d : Fin 10, Lib.digitVal (UInt8.ofNat (48 + d.val)) = some d.val := by decide
  exact this ⟨d, h⟩
theorem decFrom_append (r s : Bs) : ∀ acc, Lib.decFrom acc (r ++ s) = (Lib.decFrom acc r).bind fun n => Lib.decFrom n s := by
  induction r with
  | nil => intro acc; rfl
  | cons b r ih =>
    intro acc
    simp only [List.cons_append, Lib.decFrom]
    cases Lib.digitVal b with
    | none => rfl
    | some d => exact ih _
theorem decDigits_ne (u : Nat) : Lib.decDigits u ≠ [] := by
  rw [Lib.decDigits]; split <;> simp
theorem decFrom_digits (u : Nat) : Lib.decFrom 0 (Lib.decDigits u) = some u := by
  induction u using Nat.strongRecOn with
  | _ u ih =>
    rw [Lib.decDigits]
    split
    · rename_i h; simp only [Lib.decFrom]; rw [digit_val h]; simp
    · rename_i h
      rw [decFrom_append, ih (u / 10) (by omega)]
      simp only [Option.bind_some, Lib.decFrom]
      rw [digit_val (Nat.mod_lt _ (by decide))]
      simp only [Option.some.injEq]
      omega
theorem decNat_digits (u : Nat) : Lib.decNat (Lib.decDigits u) = some u := by
  unfold Lib.decNat
  rw [if_neg (by simp [decDigits_ne]), decFrom_digits]
/-- a digit -/
def dig (b : UInt8) : Bool := 48 ≤ b.toNat && b.toNat ≤ 57
theorem dig_of {d : Nat} (h : d < 10) : dig (UInt8.ofNat (48 + d)) = true := by
  have : ∀ d : Fin 10, dig (UInt8.ofNat (48 + d.val)) = true := by decide
  exact this ⟨d, h⟩
theorem decDigits_dig (u : Nat) : ∀ b ∈ Lib.decDigits u, dig b = true := by
  induction u using Nat.strongRecOn with
  | _ u ih =>
    rw [Lib.decDigits]
    split
    · rename_i h; intro b hb; rw [List.mem_singleton] at hb; subst hb; exact dig_of h
    · rename_i h
      intro b hb
      rcases List.mem_append.1 hb with hb | hb
      · exact ih (u / 10) (by omega) b hb
      · rw [List.mem_singleton] at hb; subst hb; exact dig_of (Nat.mod_lt u (by decide))
theorem decDigits_len (u : Nat) : ∀ k, u < 10 ^ (k + 1) → (Lib.decDigits u).length ≤ k + 1 := by
  induction u using Nat.strongRecOn with
  | _ u ih =>
    intro k hk
    rw [Lib.decDigits]
    split
    · simp
    · rename_i h
      cases k with
      | zero => simp at hk; omega
      | succ k =>
        have := ih (u / 10) (by omega) k (by rw [Nat.pow_succ] at hk; omega)
        simp; omega
theorem itoa_atoi (n : Int) : Lib.atoi (Lib.itoa n) = some n := by
  unfold Lib.itoa
  split
  · rename_i h
    unfold Lib.atoi
    simp only [beq_self_eq_true, if_true, decNat_digits, Option.map_some, Option.some.injEq]
    omega
  · rename_i h
    have hne := decDigits_ne n.toNat
    have hd := decDigits_dig n.toNat
    have hn := decNat_digits n.toNat
    generalize Lib.decDigits n.toNat = l at *
    match l, hne with
    | b :: r, _ =>
      have hb := hd b (by simp)
      unfold Lib.atoi
      have h1 : (b == 45) = false := by
        rw [beq_eq_false_iff_ne]; rintro rfl; revert hb; decide
      have h2 : (b == 43) = false := by
        rw [beq_eq_false_iff_ne]; rintro rfl; revert hb; decide
      simp only [h1, h2, hn, Option.map_some, Option.some.injEq, Bool.false_eq_true, if_false]
      omega
theorem itoa_len {n : Int} (h : -1000000000000000 ≤ n ∧ n ≤ 1000000000000000) : (Lib.itoa n).length ≤ 17 := by
  unfold Lib.itoa
  split
  · have := decDigits_len n.natAbs 15 (by omega)
    simp; omega
  · have := decDigits_len n.toNat 15 (by omega)
    omega
theorem itoa_ne (n : Int) : Lib.itoa n ≠ [] := by
  unfold Lib.itoa; split <;> simp [decDigits_ne]
/-- a byte that a word may have: no white space, below 128 -/
def wb (b : UInt8) : Bool := 33 ≤ b.toNat && b.toNat ≤ 126
theorem itoa_wb (n : Int) : ∀ b ∈ Lib.itoa n, wb b = true := by
  have hd : ∀ b, dig b = true → wb b = true := by
    intro b hb; simp only [dig, wb, Bool.and_eq_true, decide_eq_true_eq] at *; omega
  unfold Lib.itoa
  split
  · intro b hb
    rcases List.mem_cons.1 hb with rfl | hb
    · decide
    · exact hd _ (decDigits_dig _ b hb)
  · exact fun b hb => hd _ (decDigits_dig _ b hb)
/-! ### words and gaps -/
def sp (n : Nat) : Bs := Lib.repeatL [32] n
theorem sp_len (n : Nat) : (sp n).length = n := by simp [sp, Lib.repeatL_length]
theorem wb_isSp {b : UInt8} (h : wb b = true) : Lib.isSp b = false := by
  have : ∀ i : Fin 256, wb (UInt8.ofNat i.val) = true → Lib.isSp (UInt8.ofNat i.val) = false := by decide +kernel
  have h1 := this ⟨b.toNat, b.toNat_lt⟩
  simp only [UInt8.ofNat_toNat] at h1
  exact h1 h
theorem go_word (w l : Bs) (hw : ∀ b ∈ w, wb b = true) : ∀ cur, Lib.fieldsGo cur (w ++ l) = Lib.fieldsGo (cur ++ w) l := by
  induction w with
  | nil => intro cur; simp
  | cons b w ih =>
    intro cur
    rw [List.cons_append, Lib.fieldsGo, wb_isSp (hw b (by simp)), if_neg (by simp), ih (fun x hx => hw x (by simp [hx]))]
    simp
theorem go_gap (n : Nat) (l : Bs) : Lib.fieldsGo [] (sp n ++ l) = Lib.fieldsGo [] l := by
  induction n with
  | zero => rfl
  | succ n ih =>
    show Lib.fieldsGo [] (32 :: (sp n ++ l)) = _
    rw [Lib.fieldsGo]
    simpa [show Lib.isSp 32 = true by decide] using ih
theorem go_gap1 (n : Nat) (cur l : Bs) (hc : cur ≠ []) : Lib.fieldsGo cur (sp (n + 1) ++ l) = cur :: Lib.fieldsGo [] l := by
  show Lib.fieldsGo cur (32 :: (sp n ++ l)) = _
  rw [Lib.fieldsGo]
  simp only [show Lib.isSp 32 = true by decide, if_true]
  rw [if_neg (by simp [hc]), go_gap]
/-- a word with gaps and words behind it -/
def gaps : List (Nat × Bs) → Bs
  | [] => []
  | (n, w) :: r => sp (n + 1) ++ (w ++ gaps r)
theorem go_gaps : ∀ (l : List (Nat × Bs)) (cur : Bs), cur ≠ [] → (∀ x ∈ l, x.2 ≠ [] ∧ ∀ b ∈ x.2, wb b = true) → Lib.fieldsGo cur (gaps l) = cur :: l.map (·.2)
  | [], cur, hc, _ => by rw [gaps, Lib.fieldsGo, if_neg (by simp [hc])]; rfl
  | (n, w) :: r, cur, hc, hl => by
    have h1 := hl (n, w) (by simp)
    rw [gaps, go_gap1 _ _ _ hc, go_word _ _ h1.2, List.nil_append, go_gaps r w h1.1 (fun x hx => hl x (by simp [hx]))]
    rfl
theorem fields_gaps (w : Bs) (l : List (Nat × Bs)) (h0 : w ≠ []) (hw : ∀ b ∈ w, wb b = true) (hl : ∀ x ∈ l, x.2 ≠ [] ∧ ∀ b ∈ x.2, wb b = true) : Lib.fields (w ++ gaps l) = w :: l.map (·.2) := by
  unfold Lib.fields
  rw [go_word _ _ hw, List.nil_append, go_gaps l w h0 hl]
/-! ### lines -/
theorem index_in (p r : Bs) (h : (10 : UInt8) ∉ p) : Lib.index (p ++ 10 :: r) [10] = (p.length : Int) := by
  induction p with
  | nil => simp [Lib.index, List.isPrefixOf]
  | cons b p ih =>
    have hb : ((10 : UInt8) == b) = false := by rw [beq_eq_false_iff_ne]; rintro rfl; simp at h
    have hi := ih (fun hp => h (by simp [hp]))
    rw [List.cons_append, Lib.index, hi]
    simp only [List.isPrefixOf, hb, Bool.false_and, Bool.false_eq_true, if_false, List.length_cons]
    rw [if_neg (by simp; try omega)]
    omega
theorem index_out (p : Bs) (h : (10 : UInt8) ∉ p) : Lib.index p [10] = -1 := by
  induction p with
  | nil => simp [Lib.index]
  | cons b p ih =>
    have hb : ((10 : UInt8) == b) = false := by rw [beq_eq_false_iff_ne]; rintro rfl; simp at h
    rw [Lib.index, ih (fun hp => h (by simp [hp]))]
    simp [List.isPrefixOf, hb]
def joined (ps : List Bs) (last : Bs) : Bs := ps.flatMap (· ++ [10]) ++ last
theorem joined_cons (p : Bs) (ps : List Bs) (last : Bs) : joined (p :: ps) last = p ++ 10 :: joined ps last := by simp [joined]
theorem extract_str (l : Bs) (a b : Nat) : (str l).extract a b = str ((l.drop a).take (b - a)) := by
  apply ByteArray.ext
  have e := congrArg List.toArray (Lib.extract_data (str l) a b)
  rw [str_list] at e
  simp [str] at e ⊢
  try exact e
theorem split_lines : ∀ (ps : List Bs) (last : Bs), (∀ p ∈ ps, (10 : UInt8) ∉ p) → (10 : UInt8) ∉ last →
    Lib.countB (str (joined ps last)) (str [10]) = ps.length ∧ Lib.splitB (str [10]) 0 ps.length (str (joined ps last)) = (ps ++ [last]).map str
  | [], last, _, hl => by
    have hi : Lib.indexB (str (joined [] last)) (str [10]) = -1 := by
      show Lib.index (str (joined [] last)).data.toList (str [10]).data.toList = -1
      rw [str_list, str_list]; exact index_out _ (by simpa [joined] using hl)
    exact ⟨Lib.countB_miss _ _ hi, by rw [List.length_nil, Lib.splitB_zero]; simp [joined]⟩
  | p :: ps, last, hp, hl => by
    obtain ⟨ih1, ih2⟩ := split_lines ps last (fun q hq => hp q (by simp [hq])) hl
    have hi : Lib.indexB (str (joined (p :: ps) last)) (str [10]) = (p.length : Int) := by
      show Lib.index (str (joined (p :: ps) last)).data.toList (str [10]).data.toList = _
      rw [str_list, str_list, joined_cons]; exact index_in _ _ (hp p (by simp))
    have hx : (str (joined (p :: ps) last)).extract (p.length + (str [10]).size) (str (joined (p :: ps) last)).size = str (joined ps last) := by
      rw [extract_str, str_size, str_size, joined_cons]
      congr 1
      rw [show p ++ 10 :: joined ps last = (p ++ [10]) ++ joined ps last by simp, List.drop_left' (by simp), List.take_of_length_le (by simp; omega)]
    have hy : (str (joined (p :: ps) last)).extract 0 (p.length + 0) = str p := by
      rw [extract_str, joined_cons]
      congr 1
      simp
    refine ⟨?_, ?_⟩
    · rw [Lib.countB_hit _ _ p.length (by rw [str_size]; decide) hi, hx, ih1, List.length_cons]; omega
    · rw [List.length_cons, Lib.splitB_hit _ _ _ _ _ hi, hx, hy, ih2]; rfl
/-! ### tables -/
def wide (l : List (List Bs)) (k : Nat) : Nat := l.foldl (fun m r => max m (r.getD k []).length) 0
theorem wide_next (l : List (List Bs)) (r : List Bs) (k : Nat) : wide (l ++ [r]) k = max (wide l k) (r.getD k []).length := by simp [wide]
theorem foldl_ge (l : List (List Bs)) (k : Nat) : ∀ m, m ≤ l.foldl (fun m r => max m (r.getD k []).length) m ∧ ∀ r ∈ l, (r.getD k []).length ≤ l.foldl (fun m r => max m (r.getD k []).length) m := by
  induction l with
  | nil => intro m; simp
  | cons a l ih =>
    intro m
    obtain ⟨h1, h2⟩ := ih (max m (a.getD k []).length)
    rw [List.foldl_cons]
    refine ⟨by omega, fun r hr => ?_⟩
    rcases List.mem_cons.1 hr with rfl | hr
    · omega
    · exact h2 r hr
theorem wide_ge {l : List (List Bs)} {r : List Bs} (h : r ∈ l) (k : Nat) : (r.getD k []).length ≤ wide l k := (foldl_ge l k 0).2 r h
theorem foldl_le (l : List (List Bs)) (k M : Nat) (h : ∀ r ∈ l, (r.getD k []).length ≤ M) : ∀ m, m ≤ M → l.foldl (fun m r => max m (r.getD k []).length) m ≤ M := by
  induction l with
  | nil => intro m hm; simpa using hm
  | cons a l ih =>
    intro m hm
    rw [List.foldl_cons]
    exact ih (fun r hr => h r (by simp [hr])) _ (by have := h a (by simp); omega)
theorem wide_le {l : List (List Bs)} {k M : Nat} (h : ∀ r ∈ l, (r.getD k []).length ≤ M) : wide l k ≤ M := foldl_le l k M h 0 (Nat.zero_le _)
/-- a row's k-th number behind its gap -/
def cell (w : Nat → Nat) (r : List Bs) (k : Nat) : Bs := [32, 32] ++ sp (w (k + 1) - (r.getD (k + 1) []).length) ++ r.getD (k + 1) []
def name0 (w : Nat → Nat) (r : List Bs) : Bs := r.getD 0 [] ++ sp (w 0 - (r.getD 0 []).length)
def body (w : Nat → Nat) (r : List Bs) : Bs := name0 w r ++ (List.range 4).flatMap (cell w r)
def line (w : Nat → Nat) (r : List Bs) : Bs := body w r ++ [10]
def laid (l : List (List Bs)) : Bs := l.flatMap (line (wide l))
theorem sp_add (a b : Nat) : sp a ++ sp b = sp (a + b) := by simp [sp, Lib.repeatL_add]
theorem body_gaps (w : Nat → Nat) (a b c d e : Bs) : ∃ n1 n2 n3 n4, body w [a, b, c, d, e] = a ++ gaps [(n1, b), (n2, c), (n3, d), (n4, e)] := by
  refine ⟨w 0 - a.length + 1 + (w 1 - b.length), 1 + (w 2 - c.length), 1 + (w 3 - d.length), 1 + (w 4 - e.length), ?_⟩
  have h2 : ([32, 32] : Bs) = sp 2 := rfl
  have e1 : ∀ n, sp 2 ++ sp n = sp (1 + n + 1) := fun n => by rw [sp_add]; congr 1; omega
  have e0 : sp (w 0 - a.length + 1 + (w 1 - b.length) + 1) = sp (w 0 - a.length) ++ (sp 2 ++ sp (w 1 - b.length)) := by rw [e1, sp_add]; congr 1; omega
  simp only [body, name0, cell, gaps, List.range, List.range.loop, List.flatMap_cons, List.flatMap_nil, List.getD_cons_zero, List.getD_cons_succ, h2, List.append_nil, e0, ← e1, List.append_assoc]
/-- five words -/
def Words (r : List Bs) : Prop := r.length = 5 ∧ ∀ w ∈ r, w ≠ [] ∧ ∀ b ∈ w, wb b = true
theorem fields_body {w : Nat → Nat} {r : List Bs} (h : Words r) : Lib.fields (body w r) = r := by
  obtain ⟨hl, hw⟩ := h
  match r, hl with
  | [a, b, c, d, e], _ =>
    obtain ⟨n1, n2, n3, n4, hb⟩ := body_gaps w a b c d e
    rw [hb, fields_gaps _ _ (hw a (by simp)).1 (hw a (by simp)).2]
    · rfl
    · intro x hx
      simp only [List.mem_cons, List.not_mem_nil, or_false] at hx
      rcases hx with rfl | rfl | rfl | rfl
      · exact hw b (by simp)
      · exact hw c (by simp)
      · exact hw d (by simp)
      · exact hw e (by simp)
theorem sp_no (n : Nat) {b : UInt8} (h : b ∈ sp n) : b = 32 := by
  induction n with
  | zero => simp [sp, Lib.repeatL] at h
  | succ n ih =>
    have : b ∈ (32 : UInt8) :: sp n := h
    rcases List.mem_cons.1 this with h | h
    · exact h
    · exact ih h
/-- a byte of a line -/
def lb (b : UInt8) : Bool := 32 ≤ b.toNat && b.toNat ≤ 126
theorem lb_of {b : UInt8} (h : wb b = true) : lb b = true := by simp only [wb, lb, Bool.and_eq_true, decide_eq_true_eq] at *; omega
theorem body_lb {w : Nat → Nat} {r : List Bs} (h : Words r) : ∀ b ∈ body w r, lb b = true := by
  have hw : ∀ k, ∀ b ∈ r.getD k [], lb b = true := by
    intro k b hb
    by_cases hk : k < r.length
    · rw [List.getD_eq_getElem?_getD, List.getElem?_eq_getElem hk] at hb
      exact lb_of ((h.2 _ (List.getElem_mem hk)).2 b hb)
    · rw [List.getD_eq_getElem?_getD, List.getElem?_eq_none (by omega)] at hb
      simp at hb
  have hs : ∀ n, ∀ b ∈ sp n, lb b = true := fun n b hb => by rw [sp_no n hb]; decide
  intro b hb
  simp only [body, name0, cell, List.mem_append, List.mem_flatMap, List.mem_cons, List.not_mem_nil, or_false] at hb
  rcases hb with (hb | hb) | ⟨k, _, ((hb | hb) | hb) | hb⟩
  · exact hw 0 b hb
  · exact hs _ b hb
  · rw [hb]; decide
  · rw [hb]; decide
  · exact hs _ b hb
  · exact hw _ b hb
theorem lb_no {l : Bs} (h : ∀ b ∈ l, lb b = true) : (10 : UInt8) ∉ l := fun hm => by have := h 10 hm; revert this; decide
/-- the text of a sheet -/
def sheetT (ship : Bs) (l : List (List Bs)) (last : Bs) : Bs := ([83, 72, 69, 69, 84, 32] ++ ship ++ [10]) ++ laid l ++ last ++ [10]
theorem sheet_lines (ship : Bs) (l : List (List Bs)) (last : Bs) : sheetT ship l last = joined (([83, 72, 69, 69, 84, 32] ++ ship) :: (l.map (body (wide l)) ++ [last])) [] := by
  have : ∀ (w : Nat → Nat) (m : List (List Bs)), m.flatMap (line w) = (m.map (body w)).flatMap (· ++ [10]) := by
    intro w m
    induction m with
    | nil => rfl
    | cons a m ih => simp [line, ih]
  simp [sheetT, joined, laid, this]
end Bal.Sheet

/-
  The load sheet of a plant: the plain side. No program in sight.
-/
namespace Bal.Sheet
open Go Bal.Trim Bal.Gas Bal.Top
/-- a row of a sheet -/
structure SRow where
  name : Bs
  ld : Load
  deriving Inhabited
def toldR (r : SRow) : List Bs := [r.name, Lib.itoa r.ld.alo, Lib.itoa r.ld.ahi, Lib.itoa r.ld.wlo, Lib.itoa r.ld.whi]
def totalW : Bs := [84, 79, 84, 65, 76]
def totalR (l : List Load) : List Bs := [totalW, Lib.itoa (sumBy Load.wlo l), Lib.itoa (sumBy Load.whi l), Lib.itoa (sumBy mLo l), Lib.itoa (sumBy mHi l)]
def tableOf (rs : List SRow) : List (List Bs) := rs.map toldR ++ [totalR (rs.map SRow.ld)]
def keptW : Bs := [75, 69, 80, 84]
def lzW : Bs := [76, 90]
/-- the text of the sheet of LZ without limits -/
def sheetOf (rs : List SRow) : Bs := sheetT lzW (tableOf rs) keptW
/-- a byte of a row's name -/
def nb (b : UInt8) : Bool := (65 ≤ b.toNat && b.toNat ≤ 90) || (97 ≤ b.toNat && b.toNat ≤ 122) || (48 ≤ b.toNat && b.toNat ≤ 57) || b.toNat == 45
def nameB (s : Bs) : Bool := s.all nb && (decide (1 ≤ s.length) && decide (s.length ≤ 12))
theorem nb_wb {b : UInt8} (h : nb b = true) : wb b = true := by
  simp only [nb, wb, Bool.or_eq_true, Bool.and_eq_true, decide_eq_true_eq, beq_iff_eq] at *
  omega
/-- the rows are those of a sheet of a plant -/
structure RowsOk (rs : List SRow) : Prop where
  few : rs.length ≤ 12
  name : ∀ r ∈ rs, nameB r.name = true
  load : ∀ r ∈ rs, (0 ≤ r.ld.alo ∧ r.ld.alo ≤ r.ld.ahi ∧ r.ld.ahi ≤ 2000) ∧ -400000000 ≤ r.ld.wlo ∧ r.ld.wlo ≤ r.ld.whi ∧ r.ld.whi ≤ 400000000
theorem words_told {r : SRow} (h : nameB r.name = true) : Words (toldR r) := by
  refine ⟨rfl, ?_⟩
  simp only [nameB, Bool.and_eq_true, decide_eq_true_eq, List.all_eq_true] at h
  intro w hw
  simp only [toldR, List.mem_cons, List.not_mem_nil, or_false] at hw
  rcases hw with rfl | rfl | rfl | rfl | rfl
  · exact ⟨fun e => by rw [e] at h; simp at h, fun b hb => nb_wb (h.1 b hb)⟩
  all_goals exact ⟨itoa_ne _, itoa_wb _⟩
theorem words_total (l : List Load) : Words (totalR l) := by
  refine ⟨rfl, fun w hw => ?_⟩
  simp only [totalR, List.mem_cons, List.not_mem_nil, or_false] at hw
  rcases hw with rfl | rfl | rfl | rfl | rfl
  · exact ⟨by simp [totalW], by decide⟩
  all_goals exact ⟨itoa_ne _, itoa_wb _⟩
theorem words_table {rs : List SRow} (h : ∀ r ∈ rs, nameB r.name = true) : ∀ r ∈ tableOf rs, Words r := by
  intro r hr
  simp only [tableOf, List.mem_append, List.mem_map, List.mem_cons, List.not_mem_nil, or_false] at hr
  rcases hr with ⟨x, hx, rfl⟩ | rfl
  · exact words_told (h x hx)
  · exact words_total _
theorem load_ok {x : Load} (h : (0 ≤ x.alo ∧ x.alo ≤ x.ahi ∧ x.ahi ≤ 2000) ∧ -400000000 ≤ x.wlo ∧ x.wlo ≤ x.whi ∧ x.whi ≤ 400000000) : loadB x = true := by
  simp [loadB, spanB]; omega
theorem RowsOk.loads {rs : List SRow} (h : RowsOk rs) : checkLoads (rs.map SRow.ld) = 0 := by
  unfold checkLoads
  refine checkList_ok (by rw [List.length_map]; have := h.few; omega) ?_
  rw [List.all_eq_true]
  intro x hx
  obtain ⟨r, hr, rfl⟩ := List.mem_map.1 hx
  exact load_ok (h.load r hr)
theorem words_atoi {r : SRow} (h : (0 ≤ r.ld.alo ∧ r.ld.alo ≤ r.ld.ahi ∧ r.ld.ahi ≤ 2000) ∧ -400000000 ≤ r.ld.wlo ∧ r.ld.wlo ≤ r.ld.whi ∧ r.ld.whi ≤ 400000000) :
    (Lib.itoa r.ld.alo).length ≤ 17 ∧ (Lib.itoa r.ld.ahi).length ≤ 17 ∧ (Lib.itoa r.ld.wlo).length ≤ 17 ∧ (Lib.itoa r.ld.whi).length ≤ 17 :=
  ⟨itoa_len (by omega), itoa_len (by omega), itoa_len (by omega), itoa_len (by omega)⟩
/-- the lines of the sheet -/
def linesOf (rs : List SRow) : List Bs := ([83, 72, 69, 69, 84, 32] ++ lzW) :: ((tableOf rs).map (body (wide (tableOf rs))) ++ [keptW])
theorem sheetOf_lines (rs : List SRow) : sheetOf rs = joined (linesOf rs) [] := sheet_lines _ _ _
theorem linesOf_no {rs : List SRow} (h : ∀ r ∈ rs, nameB r.name = true) : ∀ p ∈ linesOf rs, (10 : UInt8) ∉ p := by
  intro p hp
  simp only [linesOf, List.mem_cons, List.mem_append, List.mem_map, List.not_mem_nil, or_false] at hp
  rcases hp with rfl | ⟨r, hr, rfl⟩ | rfl
  · simp only [lzW]; decide
  · exact lb_no (body_lb (words_table h r hr))
  · simp only [keptW]; decide
theorem linesOf_len (rs : List SRow) : (linesOf rs).length = rs.length + 3 := by simp [linesOf, tableOf]
theorem linesOf_get (rs : List SRow) {i : Nat} (h : i < rs.length) : (linesOf rs)[i + 1]? = some (body (wide (tableOf rs)) (toldR rs[i])) := by
  have h2 : i < (tableOf rs).length := by simp [tableOf]; omega
  have h3 : (tableOf rs)[i] = toldR rs[i] := by simp only [tableOf]; rw [List.getElem_append_left (by simpa using h)]; simp
  simp only [linesOf, List.getElem?_cons_succ]
  rw [List.getElem?_append_left (by simpa using h2), List.getElem?_map, List.getElem?_eq_getElem h2, h3]
  rfl
/-! ### how long a text is -/
theorem cell_len (w : Nat → Nat) (r : List Bs) (k : Nat) (M : Nat) (h1 : w (k + 1) ≤ M) (h2 : (r.getD (k + 1) []).length ≤ M) : (cell w r k).length ≤ M + 2 := by
  simp only [cell, List.length_append, sp_len, List.length_cons, List.length_nil]; omega
theorem body_len (w : Nat → Nat) (r : List Bs) (M : Nat) (h1 : ∀ k, w k ≤ M) (h2 : ∀ k, (r.getD k []).length ≤ M) : (body w r).length ≤ 5 * M + 8 := by
  have e : (List.range 4) = [0, 1, 2, 3] := rfl
  have c0 := cell_len w r 0 M (h1 _) (h2 _)
  have c1 := cell_len w r 1 M (h1 _) (h2 _)
  have c2 := cell_len w r 2 M (h1 _) (h2 _)
  have c3 := cell_len w r 3 M (h1 _) (h2 _)
  have n0 : (name0 w r).length ≤ M := by
    have := h1 0; have := h2 0
    simp only [name0, List.length_append, sp_len]; omega
  simp only [body, e, List.flatMap_cons, List.flatMap_nil, List.length_append, List.length_nil]
  omega
theorem getD_len {r : List Bs} {M : Nat} (h : ∀ w ∈ r, w.length ≤ M) (k : Nat) : (r.getD k []).length ≤ M := by
  by_cases hk : k < r.length
  · rw [List.getD_eq_getElem?_getD, List.getElem?_eq_getElem hk]; exact h _ (List.getElem_mem hk)
  · rw [List.getD_eq_getElem?_getD, List.getElem?_eq_none (by omega)]; simp
theorem m_bd {x : Load} (h : loadB x = true) : (-30000000000000 ≤ mLo x ∧ mLo x ≤ 30000000000000) ∧ -30000000000000 ≤ mHi x ∧ mHi x ≤ 30000000000000 := by
  obtain ⟨⟨a0, a1, a2, a3⟩, ⟨b0, b1, b2, b3⟩, _⟩ := loadB_bd h
  have p : ∀ u v : Int, -20000 ≤ u → u ≤ 20000 → -1073741824 ≤ v → v ≤ 1073741824 → -30000000000000 ≤ u * v ∧ u * v ≤ 30000000000000 := by
    intro u v h1 h2 h3 h4
    have hp : (u * v).natAbs ≤ 20000 * 1073741824 := by
      rw [Int.natAbs_mul]
      exact Nat.mul_le_mul (by omega) (by omega)
    omega
  have q1 := p x.alo x.wlo a0 a1 b0 b1
  have q2 := p x.alo x.whi a0 a1 b2 b3
  have q3 := p x.ahi x.wlo a2 a3 b0 b1
  have q4 := p x.ahi x.whi a2 a3 b2 b3
  unfold mLo mHi tLo tHi
  omega
theorem tot_bd {l : List Load} (hn : l.length ≤ 40) (h : ∀ x ∈ l, loadB x = true) : (-9223372036854775808 ≤ sumBy Load.wlo l ∧ sumBy Load.wlo l ≤ 9223372036854775807) ∧ (-9223372036854775808 ≤ sumBy Load.whi l ∧ sumBy Load.whi l ≤ 9223372036854775807) ∧ (-9223372036854775808 ≤ sumBy mLo l ∧ sumBy mLo l ≤ 9223372036854775807) ∧ (-9223372036854775808 ≤ sumBy mHi l ∧ sumBy mHi l ≤ 9223372036854775807) := by
  have s1 := sumBy_bd Load.wlo 1073741824 l fun x hx => by have := loadB_bd (h x hx); omega
  have s2 := sumBy_bd Load.whi 1073741824 l fun x hx => by have := loadB_bd (h x hx); omega
  have s3 := sumBy_bd mLo 30000000000000 l fun x hx => (m_bd (h x hx)).1
  have s4 := sumBy_bd mHi 30000000000000 l fun x hx => (m_bd (h x hx)).2
  omega
theorem table_len {rs : List SRow} (h : RowsOk rs) : ∀ r ∈ tableOf rs, ∀ w ∈ r, w.length ≤ 21 := by
  have hl : ∀ x ∈ rs.map SRow.ld, loadB x = true := fun x hx => by
    obtain ⟨r, hr, rfl⟩ := List.mem_map.1 hx
    exact load_ok (h.load r hr)
  have ht := tot_bd (by rw [List.length_map]; have := h.few; omega) hl
  intro r hr w hw
  simp only [tableOf, List.mem_append, List.mem_map, List.mem_cons, List.not_mem_nil, or_false] at hr
  rcases hr with ⟨x, hx, rfl⟩ | rfl
  · have hnm := h.name x hx
    have hx2 := words_atoi (h.load x hx)
    simp only [nameB, Bool.and_eq_true, decide_eq_true_eq] at hnm
    simp only [toldR, List.mem_cons, List.not_mem_nil, or_false] at hw
    rcases hw with rfl | rfl | rfl | rfl | rfl <;> omega
  · simp only [totalR, List.mem_cons, List.not_mem_nil, or_false] at hw
    rcases hw with rfl | rfl | rfl | rfl | rfl
    · decide
    · exact Lib.itoa_length_le _ ht.1.1 ht.1.2
    · exact Lib.itoa_length_le _ ht.2.1.1 ht.2.1.2
    · exact Lib.itoa_length_le _ ht.2.2.1.1 ht.2.2.1.2
    · exact Lib.itoa_length_le _ ht.2.2.2.1 ht.2.2.2.2
theorem wide_21 {rs : List SRow} (h : RowsOk rs) (k : Nat) : wide (tableOf rs) k ≤ 21 := wide_le fun r hr => getD_len (table_len h r hr) k
theorem flat_len {w : Nat → Nat} (M : Nat) : ∀ l : List (List Bs), (∀ r ∈ l, (line w r).length ≤ M) → (l.flatMap (line w)).length ≤ M * l.length
  | [], _ => by simp
  | r :: l, h => by
    have h1 := h r (by simp)
    have h2 := flat_len M l fun x hx => h x (by simp [hx])
    rw [List.flatMap_cons, List.length_append, List.length_cons, Nat.mul_succ]
    omega
theorem line_len {rs : List SRow} (h : RowsOk rs) : ∀ r ∈ tableOf rs, (line (wide (tableOf rs)) r).length ≤ 114 := by
  intro r hr
  have := body_len (wide (tableOf rs)) r 21 (wide_21 h) (getD_len (table_len h r hr))
  simp [line]; omega
theorem laid_len {rs : List SRow} (h : RowsOk rs) : (laid (tableOf rs)).length ≤ 1482 := by
  have h1 := flat_len 114 (tableOf rs) (line_len h)
  have h2 : (tableOf rs).length ≤ 13 := by simp [tableOf]; exact h.few
  unfold laid
  omega
theorem sheet_len {rs : List SRow} (h : RowsOk rs) : (sheetOf rs).length ≤ 2000 := by
  have := laid_len h
  simp [sheetOf, sheetT, lzW, keptW]; omega
theorem sheet_ascii {rs : List SRow} (h : ∀ r ∈ rs, nameB r.name = true) : ∀ b ∈ sheetOf rs, b = 10 ∨ lb b = true := by
  intro b hb
  rw [sheetOf_lines] at hb
  simp only [joined, List.append_nil, List.mem_flatMap, List.mem_append, List.mem_cons, List.not_mem_nil, or_false] at hb
  obtain ⟨p, hp, hb | hb⟩ := hb
  · right
    simp only [linesOf, List.mem_cons, List.mem_append, List.mem_map, List.not_mem_nil, or_false] at hp
    rcases hp with rfl | ⟨r, hr, rfl⟩ | rfl
    · revert b; simp only [lzW]; decide
    · exact body_lb (words_table h r hr) b hb
    · revert b; simp only [keptW]; decide
  · exact .inl hb
/-! ### the plant -/
/-- "Gas-" and a letter -/
def nameC (i : Nat) : Bs := [71, 97, 115, 45, UInt8.ofNat (65 + i)]
def rowC (a : Air) (i : Nat) (c : Cell) : SRow := ⟨nameC i, cellLoad a c (10 * i)⟩
def rowsTo (a : Air) (cs : List Cell) (k : Nat) : List SRow := (List.range k).map fun i => rowC a i (cs.getD i default)
theorem rowsTo_succ (a : Air) (cs : List Cell) (k : Nat) : rowsTo a cs (k + 1) = rowsTo a cs k ++ [rowC a k (cs.getD k default)] := by simp [rowsTo, List.range_succ]
theorem rowsTo_len (a : Air) (cs : List Cell) (k : Nat) : (rowsTo a cs k).length = k := by simp [rowsTo]
theorem nameC_ok {i : Nat} (h : i < 12) : nameB (nameC i) = true := by
  have : ∀ i : Fin 12, nameB (nameC i.val) = true := by decide
  exact this ⟨i, h⟩
theorem rowsTo_ok {a : Air} {cs : List Cell} (ha : airB a = true) (hn : cs.length ≤ 12) (hc : ∀ i, i < cs.length → cellB (cs.getD i default) = true) {k : Nat} (hk : k ≤ cs.length) : RowsOk (rowsTo a cs k) := by
  refine ⟨by rw [rowsTo_len]; omega, fun r hr => ?_, fun r hr => ?_⟩
  all_goals (simp only [rowsTo, List.mem_map, List.mem_range] at hr; obtain ⟨i, hi, rfl⟩ := hr)
  · exact nameC_ok (by omega)
  · have := lift_bd (hc i (by omega)) ha
    simp only [rowC, cellLoad]
    omega
/-- what the cells lift, all told: the heaviness is that of the loads -/
def heavyLo (a : Air) (cs : List Cell) : Int := sumBy Load.wlo ((rowsTo a cs cs.length).map SRow.ld)
def heavyHi (a : Air) (cs : List Cell) : Int := sumBy Load.whi ((rowsTo a cs cs.length).map SRow.ld)
theorem sum_le {l : List Load} (h : ∀ x ∈ l, x.wlo ≤ x.whi) : sumBy Load.wlo l ≤ sumBy Load.whi l := by
  induction l with
  | nil => simp
  | cons x l ih =>
    have h1 := h x (by simp)
    have h2 := ih fun y hy => h y (by simp [hy])
    rw [sumBy_cons, sumBy_cons]; omega
theorem heavy_le {a : Air} {cs : List Cell} (ha : airB a = true) (hn : cs.length ≤ 12) (hc : ∀ i, i < cs.length → cellB (cs.getD i default) = true) : heavyLo a cs ≤ heavyHi a cs := by
  refine sum_le fun x hx => ?_
  obtain ⟨r, hr, rfl⟩ := List.mem_map.1 hx
  have := (rowsTo_ok ha hn hc (Nat.le_refl _)).load r hr
  omega
/-- without superheat -/
def Cold (cs : List Cell) : Prop := ∀ i, i < cs.length → (cs.getD i default).wlo = 0 ∧ (cs.getD i default).whi = 0
theorem lift_cold {c : Cell} (h : c.wlo = 0 ∧ c.whi = 0) (a : Air) : liftLo c a = 25 * c.helium ∧ liftHi c a = 25 * c.helium := by
  have e1 : pull c c.wlo = 0 := by unfold pull; rw [h.1]; simp
  have e2 : pull c c.whi = 0 := by unfold pull; rw [h.2]; simp
  unfold liftLo liftHi
  rw [e1, e2]
  simp
theorem heavy_to {a : Air} {cs : List Cell} (h : Cold cs) : ∀ k, k ≤ cs.length → sumBy Load.wlo ((rowsTo a cs k).map SRow.ld) = -25 * sumBy Cell.helium (cs.take k) ∧ sumBy Load.whi ((rowsTo a cs k).map SRow.ld) = -25 * sumBy Cell.helium (cs.take k)
  | 0, _ => by simp [rowsTo]
  | k + 1, hk => by
    obtain ⟨h1, h2⟩ := heavy_to (a := a) h k (by omega)
    have hl := lift_cold (h k (by omega)) a
    have hd : cs.getD k default = cs[k] := by simp [List.getD_eq_getElem?_getD, List.getElem?_eq_getElem (show k < cs.length by omega)]
    rw [rowsTo_succ, List.map_append, sumBy_append, sumBy_append, h1, h2, List.take_succ_eq_append_getElem (show k < cs.length by omega), sumBy_append]
    rw [hd] at hl ⊢
    simp only [List.map_cons, List.map_nil, sumBy_cons, sumBy_nil, rowC, cellLoad, hl.1, hl.2]
    omega
theorem heavy_cold {a : Air} {cs : List Cell} (h : Cold cs) : heavyLo a cs = -25 * sumH cs ∧ heavyHi a cs = -25 * sumH cs := by
  have := heavy_to (a := a) h cs.length (Nat.le_refl _)
  rw [List.take_length] at this
  exact this
end Bal.Sheet

/-
  A plant without superheat, before a valving and after it: the plain side. No program in sight.
-/
namespace Bal.Sheet
open Go Bal.Trim Bal.Gas Bal.Top
theorem valve_sum {p : Plant} {k : Nat} {v : Int} (hp : plantB p = true) (he : doE p ⟨3, k, 0, v⟩ = 0) : (doQ p ⟨3, k, 0, v⟩).cells.length = p.cells.length ∧ plantB (doQ p ⟨3, k, 0, v⟩) = true ∧ (Cold p.cells → Cold (doQ p ⟨3, k, 0, v⟩).cells) ∧
    sumH (doQ p ⟨3, k, 0, v⟩).cells = sumH p.cells - ((doQ p ⟨3, k, 0, v⟩).vH - p.vH) := by
  obtain ⟨h1, h2, h3, h4⟩ := (doE_cases (d := ⟨3, k, 0, v⟩) hp).resolve_right fun h => by omega
  rw [h4]
  have hl : (resA p ⟨3, k, 0, v⟩).cells.length = p.cells.length := resA_len _ _
  obtain ⟨_, k2, _, _, k5, k6⟩ := kept_books h2
  have hi := k2 (by simp)
  have hL := k5 (by simp)
  have hP := k6 (by simp)
  have hb : (resA p ⟨3, k, 0, v⟩).bottles = p.bottles := by simp [resA, valveP, lessP]
  have b1 := plantB_iff.1 hp
  have b2 := plantB_iff.1 h3
  have a1 := b1.2.2.2.2.2.2.2.1
  have a2 := b2.2.2.2.2.2.2.2.1
  refine ⟨hl, h3, fun hc i hil => ?_, ?_⟩
  · have hil2 : i < p.cells.length := by rw [← hl]; exact hil
    have s := (kept_cell (i := i) hil2 h2).1
    have c := hc i hil2
    exact ⟨s.2.1.trans c.1, s.2.2.1.trans c.2⟩
  · unfold allH at a1 a2
    omega
end Bal.Sheet

/-
  Appending to a row of the call's own: where the row lies behind it. No program in sight.
-/
namespace Bal
open Go
set_option linter.unusedVariables false
/-- a row lies where it lay, or in a new block -/
def Moved (w : World) (v v' : Value) : Prop := v'.ownBlock = v.ownBlock ∨ ∀ k, v'.ownBlock = some k → w.heap.size ≤ k
/-- two rows lie in blocks of their own -/
def Apart (v u : Value) : Prop := ∀ k, v.ownBlock = some k → u.ownBlock ≠ some k
theorem Apart.symm {v u : Value} (h : Apart v u) : Apart u v := fun k hk he => h k he hk
theorem Apart.none {v u : Value} (h : v.ownBlock = none) : Apart v u := fun k hk => by rw [h] at hk; cases hk
theorem Apart.keep {w w' : World} {v u : Value} (h : Apart v u) {base k n : Nat} {e : TypeId} {xs : List Value} (hu : w.ownsRow base e k u n xs) (hg : w.grownBy w' v.ownBlock) : w'.ownsRow base e k u n xs := by
  refine hu.kept hg ?_
  cases hv : u.ownBlock with
  | none => exact .inl rfl
  | some b => exact .inr fun he => h b he.symm hv
section
variable {P : Program} (w : World)
theorem run_append_where (base : Nat) (t ty e : TypeId) (i : TypeInfo) (z : Value) (size bytes : Nat) (ht : P.underlying t = some (.slice e)) (hi : P.info? e = some i) (hz : i.zero = some z)
    (hsize : i.size = size) (hby : i.bytes = bytes) (hzs : z.cells.size = size) (hsz : 0 < size)
    (v : Value) (n : Nat) (xs : List Value) (hown : w.ownsRow base e size v n xs)
    (a : Addr) (m c : Nat) (hm : 0 < m) (news : List Value) (hl : news.length = m * size) (hnews : ∀ j u, news[j]? = some u → w.cell? (a.add j) = some u) (h1 : ∀ u ∈ news, u.oneCell' = true)
    (h63 : n + m ≤ maxLen) (hbytes : (n + m) * bytes ≤ 140737488355328) (hbase : base ≤ w.heap.size) :
    ∃ v' w', (Builtin.append_ #[t, t] ty #[v, .slice (some a) m c]).run P w = .ok v' w' ∧ w'.ownsRow base e size v' (n + m) (xs ++ news) ∧ w.grownBy w' v.ownBlock ∧ Moved w v v' := by
  obtain ⟨v', w', hr, h2, h3, _⟩ := run_append_own (P := P) w base t ty e i z size bytes ht hi hz hsize hby hzs hsz v n xs hown a m c news hl hnews h1 h63 hbytes hbase
  refine ⟨v', w', hr, h2, h3, ?_⟩
  subst hsize
  subst hby
  have hsmall : n + m ≤ 9223372036854775807 := by simp only [maxLen] at h63; omega
  rcases hown.2 with ⟨rfl, rfl⟩ | ⟨g, cap, cur, rfl, hbg, hg, hnc, hcm, hcs, htake⟩
  · have hr2 := run_append_nil (P := P) w t ty e i z ht hi hz a m c news hl hnews (by omega) (by omega) (by have hb := hbytes; simp only [Nat.zero_add] at hb; omega)
    rw [hr2] at hr
    injection hr with e1 e2
    subst e1
    refine .inr fun k hk => ?_
    simp [Value.ownBlock] at hk
    omega
  · by_cases hroom : n + m ≤ cap
    · have hfit : n * i.size + news.length ≤ cur.size := by rw [hl, hcs, ← Nat.add_mul]; exact Nat.mul_le_mul_right _ hroom
      have hr2 := run_append_room (P := P) w t ty e i ht hi g n cap cur hg a m c news hl hnews h1 hroom hfit
      rw [hr2] at hr
      injection hr with e1 e2
      subst e1
      exact .inl rfl
    · have holds : ∀ j u, xs[j]? = some u → w.cell? ((⟨g, 0, none⟩ : Addr).add j) = some u := hown.cells (g := g) rfl
      have hr2 := run_append_grow (P := P) w t ty e i z ht hi hz ⟨g, 0, none⟩ n cap xs hown.1 holds a m c news hl hnews (by omega) (by omega) (growslice_fits (by omega) hbytes)
      rw [hr2] at hr
      injection hr with e1 e2
      subst e1
      refine .inr fun k hk => ?_
      simp [Value.ownBlock] at hk
      omega
theorem wpList_append_where {ops : Array Oper} {rest : List Oper} {o : Oper} {a : Act} {Q : Exit → Act → World → Prop} (hgd : o.guard = none) (s x : Operand) (t : TypeId)
    (ho : o.op = .call { callee := .builtin .append, args := #[s, x], argTypes := #[t, t] })
    (base : Nat) (e : TypeId) (i : TypeInfo) (z : Value) (size bytes : Nat) (ht : P.underlying t = some (.slice e)) (hi : P.info? e = some i) (hz : i.zero = some z)
    (hsize : i.size = size) (hby : i.bytes = bytes) (hzs : z.cells.size = size) (hsz : 0 < size)
    (v : Value) (n : Nat) (xs : List Value) (hs : a.eval s = v) (hown : w.ownsRow base e size v n xs)
    (ad : Addr) (m c : Nat) (hm : 0 < m) (news : List Value) (hx : a.eval x = .slice (some ad) m c) (hl : news.length = m * size) (hnews : ∀ j u, news[j]? = some u → w.cell? (ad.add j) = some u) (h1 : ∀ u ∈ news, u.oneCell' = true)
    (h63 : n + m ≤ maxLen) (hbytes : (n + m) * bytes ≤ 140737488355328) (hbase : base ≤ w.heap.size)
    (h : ∀ v' w', w'.ownsRow base e size v' (n + m) (xs ++ news) → w.grownBy w' v.ownBlock → Moved w v v' → wpList P ops Q rest (a.put o.dst v') w') : wpList P ops Q (o :: rest) a w := by
  refine wpList_plain hgd fun K hK => ?_
  obtain ⟨v', w', hr, h2, h3, h4⟩ := run_append_where (P := P) w base t o.type e i z size bytes ht hi hz hsize hby hzs hsz v n xs hown ad m c hm news hl hnews h1 h63 hbytes hbase
  unfold Oper.wp execOp
  simp only [ho, resolve, invoke, builtin, Sem.run_bind, Sem.run_pure, Result.andThen_ok, List.map_toArray, List.map_cons, List.map_nil, hs, hx, hr]
  exact hK _ _ (h v' w' h2 h3 h4)
end
end Bal

/-
  The contracts of chapters 3 and 4 that the statement on load sheets leans on:
  f_Do r_Check r_CheckAir r_Twin f_Lift_ok f_CheckLoads f_CheckLimits f_Balance f_Breach t_one t_still open_plant open_typed open_agg wf_u16 wf_u8o wf_i64 wf_u8 mayEnter_is liftsFinal_is make_is
  Row Own owns_put owns_row owns_block owns_cur owns_base owns_lt wpAny_rel wpAny_dp0 tailIn regionIn copyO copy wpList_copy wpList_copyO owns_made owns_nil owns_keep owns_grownT owns_shape grownLt grown grownN grownB bcell bcell3
  int_of_leaves Deed Cell Air Sp of_leaves row Mine plantCells later_mix tail region at_world at_worldR at_worldQ blk blkc blkd blk0 kpt kpt0 blkx kptx own thru wpSteps_want wpSteps_any later_dies held_walk held_take held_pass held_one held_on held_end held_nil
  sheetOf valve_sum heavy_cold heavy_le rowsTo_ok sheet_len sheet_ascii sheetOf_lines split_lines fields_body itoa_atoi words_atoi linesOf_get linesOf_len linesOf_no words_told words_table extract_str str_list str_size wide_next wide_ge wide_21 laid_len line_len rowsTo_succ rowsTo_len table_len sheetT tot_bd
  plantB_iff cellB_iff airB_iff lift_bd resA_len kept_cell kept_books doE_cases later row of_owns block wpList_append_where Apart Moved owns_shapeW info_partsW checkLoads_ok breachE breachN
-/
namespace Go.Proofs.YtamnnjdfjffhlaaGreatDoor
open Go.RowKit Bal Bal.Trim Bal.Gas
end Go.Proofs.YtamnnjdfjffhlaaGreatDoor
