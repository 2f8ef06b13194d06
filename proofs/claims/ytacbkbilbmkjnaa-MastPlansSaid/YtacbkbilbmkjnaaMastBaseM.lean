/-
  The contracts of chapter 7 that its later statements lean on:
  f_Do r_Do f_CheckBerth r_CheckBerth f_CheckPort r_CheckPort r_Port r_Berth f_need r_Need f_try f_deeds r_rules r_done Table deedV Blk.lower lower f_CheckWind r_CheckWind f_CheckAxis r_CheckAxis f_Cross f_Calm f_Turn f_Man r_Great r_SameInts r_within r_withinK r_Wind f_rangedB
  open_port open_agg of_leaves u8_bd mayEnter_is liftsFinal_is make_is own row Row owns_row owns_nil owns_keep infoI cell_one info_parts later_mix held_walk tail region at_world blk blkc kpt thru later sub take block one keyedU8 litF putG zeroDeed field0 field1
  berth_parts ship_parts portB_bd portB_parts needP_bd turnable_parts linesB_parts inB_iff done_same doErr_ok firstNot_zero firstNot_pos firstNot_all firstNot_at doneR tryR dockOf dockCells deed_form beq_dec bne_dec rule_quiet act_ship f_tryN f_tryS InMap InSet wpList_look_map wpList_look_ok wpList_put_set wpList_look_set run turned made below keep lt put
  manE manL turnE turnN turnI crossE crossLo crossHi calmE calmB calmS rng_one far_sq near_far turnS_half turn_short needs_len needs_bd total_bd after_bd after_len pick_bd man_ok man_few man_all
-/
import Derived.WideShapes
import Derived.Test.YtacbkbilbmkjnaaProg
import Derived.JoinedOf
import Derived.WalkKit
import Derived.WalkSpells
import Derived.WalkLawsBesides
import Derived.Lib.Hide
import Derived.ProofKit
import Derived.OpenShut
import Derived.ChangeOld
import Derived.Below
import Derived.Deep.Slices
import Derived.Deep.Fields
import Derived.Deep.Quiet
import Derived.Laws.AppendOwn
import Derived.Laws.AppendOwnNone
import Derived.StillTail
import Derived.Deep.QuietTactic
import Derived.BigQuiet
import Derived.Deep.RegionHeld3
import Derived.Deep.DeepCutAuto
import Derived.WalkSmall
import Derived.OrdersHeld
import Derived.Maps.OwnSet
import Derived.Laws.EntriesVeiled
import Derived.Scope
import Derived.Deep.RegionLaw
import Derived.Test.YtacbkbilbmkjnaaMastBaseMA
import Derived.Test.YtacbkbilbmkjnaaMastBaseMB
import Derived.Test.YtacbkbilbmkjnaaMastBaseMC
set_option linter.unusedVariables false
set_option linter.unusedSimpArgs false
/-
  An argument that is a struct of numbers, opened. No program in sight.
-/
namespace Bal
open Go Go.RowKit Go.WideShapes
section
variable {H : Type} {enc : TypeId × Value → H} {P : Program} {w : World} {base : Nat} {spare : Nat → Bool} {held : Bool}
theorem open_agg {α : Type} {enc' : α → List Value} {wf : α → Prop} {ls : List Leaf} (hdec : ∀ cs, LeavesOk ls cs → ∃ x : α, cs = enc' x ∧ wf x) {t : TypeId} {fs : Array Field} {n : Nat} {v : Value} {d : DataW H} {ps : List MemPlace} {r : Reach} {b0 : Nat}
    (ht : P.underlying t = some (.struct fs)) (hls : leaves P n t = some ls) (hval : Value.okWide P w r b0 t v) (hd : DataW.Trod enc P w base spare held t v d ps) :
    ∃ x : α, v = .agg (enc' x).toArray ∧ wf x := by
  obtain ⟨cs, rfl, _⟩ := okWide_struct ht hval
  obtain ⟨fuel, hf⟩ := hd
  obtain ⟨x, e, hw⟩ := hdec _ (leaves_ok n _ _ _ _ _ hls hf)
  refine ⟨x, ?_, hw⟩
  rw [← e]
  simp [Value.cells]
end
end Bal

/-
  A port that came in, opened: its axes, its pulls, its numbers.
-/
namespace Go.Proofs.Ytacbkbilbmkjnaa
open Go.RowKit Go.ChangeShapes Go.WideShapes Go.ChangeAt Bal Bal.Trim Bal.Mast
set_option linter.unusedVariables false
set_option maxRecDepth 100000
theorem trod_field {H : Type} {enc : TypeId × Value → H} {P : Program} {w : World} {base fuel : Nat} {spare : Nat → Bool} {held : Bool} {fs : Array Field} {cs : List Value} {xs : List (DataW H × List MemPlace)} (hxl : xs.length = fs.size)
    (hg : ∀ (i : Nat) (f : Field), fs[i]? = some f → DataW.trod enc P w base spare held fuel f.type ((cs.drop f.offset).take (P.cellsOf f.type)) = xs[i]?) (i : Nat) (f : Field) (hi : fs[i]? = some f) :
    ∃ x, DataW.trod enc P w base spare held fuel f.type ((cs.drop f.offset).take (P.cellsOf f.type)) = some x := by
  have hlt : i < fs.size := (Array.getElem?_eq_some_iff.1 hi).1
  refine ⟨xs[i]'(by omega), ?_⟩
  rw [hg i f hi]
  exact List.getElem?_eq_getElem (by omega)
theorem open_port {H : Type} {enc : TypeId × Value → H} {w : World} {base : Nat} {spare : Nat → Bool} {held : Bool} {v : Value} {d : DataW H} {ps : List MemPlace} {r : Reach} {b0 : Nat}
    (hval : Value.okWide Try.prog w r b0 45 v) (hd : DataW.Trod enc Try.prog w base spare held 45 v d ps) :
    ∃ (a : Option Addr) (c : Nat) (xs : List Axis) (pe mo : Int) (b : Option Addr) (e : Nat) (ys : List Span) (cr : Int), v = .agg #[.slice a xs.length c, .int .i64 pe, .int .i64 mo, .slice b ys.length e, .int .i64 cr] ∧
      Row Axis.cells 2 w.heap.size w a xs ∧ xs.length ≤ c ∧ c ≤ maxLen ∧ (a = none → c = 0) ∧ Row Span.cells 2 w.heap.size w b ys ∧ ys.length ≤ e ∧ e ≤ maxLen ∧ (b = none → e = 0) := by
  obtain ⟨cs, rfl, hsz⟩ := okWide_struct Try.underlying45 hval
  obtain ⟨fuel, hf⟩ := hd
  obtain ⟨zs, n, _, _, hcl, hxl, hg⟩ := DataW.trod_struct Try.underlying45 hf
  have hc5 : Try.prog.cellsOf 45 = 5 := by kernel_rfl
  have k1 : Try.prog.cellsOf 3 = 1 := by kernel_rfl
  have k2 : Try.prog.cellsOf 42 = 1 := by kernel_rfl
  have k3 : Try.prog.cellsOf 43 = 1 := by kernel_rfl
  obtain ⟨x0, h0⟩ := trod_field hxl hg 0 _ rfl
  obtain ⟨x1, h1⟩ := trod_field hxl hg 1 _ rfl
  obtain ⟨x2, h2⟩ := trod_field hxl hg 2 _ rfl
  obtain ⟨x3, h3⟩ := trod_field hxl hg 3 _ rfl
  obtain ⟨x4, h4⟩ := trod_field hxl hg 4 _ rfl
  have g0 : DataW.trod enc Try.prog w base spare held n 42 (((Value.agg cs).cells.toList.drop 0).take (Try.prog.cellsOf 42)) = some x0 := h0
  have g1 : DataW.trod enc Try.prog w base spare held n 3 (((Value.agg cs).cells.toList.drop 1).take (Try.prog.cellsOf 3)) = some x1 := h1
  have g2 : DataW.trod enc Try.prog w base spare held n 3 (((Value.agg cs).cells.toList.drop 2).take (Try.prog.cellsOf 3)) = some x2 := h2
  have g3 : DataW.trod enc Try.prog w base spare held n 43 (((Value.agg cs).cells.toList.drop 3).take (Try.prog.cellsOf 43)) = some x3 := h3
  have g4 : DataW.trod enc Try.prog w base spare held n 3 (((Value.agg cs).cells.toList.drop 4).take (Try.prog.cellsOf 3)) = some x4 := h4
  clear h0 h1 h2 h3 h4
  rw [k2] at g0
  rw [k1] at g1 g2 g4
  rw [k3] at g3
  obtain ⟨a, c, xs, e0, hl0, hm0, row0, _, z0⟩ := open_typed (n := 4) (fun _ h => Axis.of_leaves h) Try.underlying42 (by kernel_rfl) (by kernel_rfl) (by decide) g0
  obtain ⟨b, e, ys, e3, hl3, hm3, row3, _, z3⟩ := open_typed (n := 4) (fun _ h => Span.of_leaves h) Try.underlying43 (by kernel_rfl) (by kernel_rfl) (by decide) g3
  obtain ⟨q1, e1, _, _⟩ := DataW.trod_int Try.underlying3 g1
  obtain ⟨q2, e2, _, _⟩ := DataW.trod_int Try.underlying3 g2
  obtain ⟨q4, e4, _, _⟩ := DataW.trod_int Try.underlying3 g4
  refine ⟨a, c, xs, q1, q2, b, e, ys, q4, ?_, row0, hl0, hm0, z0, row3, hl3, hm3, z3⟩
  obtain ⟨l⟩ := cs
  rw [hc5] at hsz
  match l, hsz with
  | [c0, c1, c2, c3, c4], _ =>
    simp [Value.cells] at e0 e1 e2 e3 e4
    simp [e0, e1, e2, e3, e4]
end Go.Proofs.Ytacbkbilbmkjnaa

/-
  The words of a string that is known sign by sign: for the facts on how a program was made. No program in sight.
-/
namespace Bal
open Go
theorem words_cons : ∀ (w r : List Char), w.all (fun c => c != Char.ofNat 32) = true → wordsSigns (w ++ Char.ofNat 32 :: r) = w :: wordsSigns r
  | [], r, _ => by simp [wordsSigns]
  | c :: w, r, h => by
    simp only [List.all_cons, Bool.and_eq_true, bne_iff_ne, ne_eq] at h
    obtain ⟨h1, h2⟩ := h
    have ih := words_cons w r h2
    rw [List.cons_append]
    simp [wordsSigns, ih]
theorem words_last : ∀ (w : List Char), w.all (fun c => c != Char.ofNat 32) = true → wordsSigns w = [w]
  | [], _ => by simp [wordsSigns]
  | c :: w, h => by
    simp only [List.all_cons, Bool.and_eq_true, bne_iff_ne, ne_eq] at h
    obtain ⟨h1, h2⟩ := h
    simp [wordsSigns, words_last w h2]
/-! A program that was cut, behind a harness. (With the program a variable the kernel never unfolds it.) -/
section
variable {P : Program} {w0 w1 : List Char} {r : List (List Char)}
theorem behind_cut (h : wordsSigns P.initOrder.toList = w0 :: w1 :: [Char.ofNat 99, Char.ofNat 117, Char.ofNat 116] :: r) (h0 : w0 = "harness".toList) (h1 : isSumSigns w1 = true) : behindMainWord (wordsSigns P.initOrder.toList) = [Char.ofNat 99, Char.ofNat 117, Char.ofNat 116] :: r := by
  rw [h]
  have e : (w0 == "harness".toList) = true := by rw [h0]; simp
  simp only [behindMainWord, e, h1, Bool.true_or, Bool.and_self, if_true]
theorem make_cut (h : wordsSigns P.initOrder.toList = w0 :: w1 :: [Char.ofNat 99, Char.ofNat 117, Char.ofNat 116] :: r) (h0 : w0 = "harness".toList) (h1 : isSumSigns w1 = true) : P.make = some .cut := by
  unfold Program.make
  rw [behind_cut h h0 h1]
  rfl
theorem lifts_cut (h : wordsSigns P.initOrder.toList = w0 :: w1 :: [Char.ofNat 99, Char.ofNat 117, Char.ofNat 116] :: r) (h0 : w0 = "harness".toList) (h1 : isSumSigns w1 = true) : P.liftsFinal = false := by
  unfold Program.liftsFinal Program.headLifts
  rw [behind_cut h h0 h1]
  rfl
theorem enter_cut (h : wordsSigns P.initOrder.toList = w0 :: w1 :: [Char.ofNat 99, Char.ofNat 117, Char.ofNat 116] :: r) (h0 : w0 = "harness".toList) (h1 : isSumSigns w1 = true) (l : P.laysLater = false) (b : P.bearsReflect = false) (d : P.doorFits [] = true) : P.mayEnter = true := by
  unfold Program.mayEnter
  rw [behind_cut h h0 h1]
  have e : stripLifts liftWords ([Char.ofNat 99, Char.ofNat 117, Char.ofNat 116] :: r) = ([], [Char.ofNat 99, Char.ofNat 117, Char.ofNat 116] :: r) := rfl
  simp only [e, l, b, d]
  rfl
end
end Bal

/-
  How the program was made: its words, and what follows for every row of the seat.
-/
namespace Go.Proofs.Ytacbkbilbmkjnaa
open Bal
set_option maxRecDepth 100000
def initW0 : List Char := List.map Char.ofNat [104, 97, 114, 110, 101, 115, 115]
def initW1 : List Char := List.map Char.ofNat [97, 57, 52, 56, 99, 100, 51, 100, 54, 98, 49, 54, 48, 50, 102, 49, 50, 51, 56, 97, 53, 52, 102, 57, 51, 48, 53, 54, 51, 51, 55, 100, 56, 49, 52, 53, 56, 53, 56, 101, 97, 50, 53, 57, 100, 101, 53, 98, 99, 57, 100, 100, 49, 49, 52, 52, 98, 50, 51, 99, 100, 54, 51, 54]
def initW2 : List Char := List.map Char.ofNat [99, 117, 116]
def initW3 : List Char := List.map Char.ofNat [97, 116]
def initW4 : List Char := List.map Char.ofNat [98, 97, 108, 108, 111, 110, 101, 116, 47, 98, 97, 108, 108, 111, 110, 101, 116, 108, 97, 119, 48, 55, 46, 77, 97, 115, 116, 87, 105, 110, 100, 115]
def initW5 : List Char := List.map Char.ofNat [98, 97, 108, 108, 111, 110, 101, 116, 47, 98, 97, 108, 108, 111, 110, 101, 116, 108, 97, 119, 48, 55, 46, 77, 97, 115, 116, 84, 117, 114, 110, 115]
def initW6 : List Char := List.map Char.ofNat [98, 97, 108, 108, 111, 110, 101, 116, 47, 98, 97, 108, 108, 111, 110, 101, 116, 108, 97, 119, 48, 55, 46, 77, 97, 115, 116, 68, 111, 101, 115]
def initW7 : List Char := List.map Char.ofNat [98, 97, 108, 108, 111, 110, 101, 116, 47, 98, 97, 108, 108, 111, 110, 101, 116, 108, 97, 119, 48, 55, 46, 77, 97, 115, 116, 80, 108, 97, 121, 115]
def initW8 : List Char := List.map Char.ofNat [98, 97, 108, 108, 111, 110, 101, 116, 47, 98, 97, 108, 108, 111, 110, 101, 116, 108, 97, 119, 48, 55, 46, 77, 97, 115, 116, 80, 108, 97, 110, 115]
def initW9 : List Char := List.map Char.ofNat [98, 97, 108, 108, 111, 110, 101, 116, 47, 98, 97, 108, 108, 111, 110, 101, 116, 108, 97, 119, 48, 55, 46, 77, 97, 115, 116, 68, 101, 99, 105, 100, 101, 115]
def initL : List Char := initW0 ++ Char.ofNat 32 :: (initW1 ++ Char.ofNat 32 :: (initW2 ++ Char.ofNat 32 :: (initW3 ++ Char.ofNat 32 :: (initW4 ++ Char.ofNat 32 :: (initW5 ++ Char.ofNat 32 :: (initW6 ++ Char.ofNat 32 :: (initW7 ++ Char.ofNat 32 :: (initW8 ++ Char.ofNat 32 :: initW9))))))))
theorem init_is : Try.prog.initOrder = String.ofList initL := by kernel_rfl
theorem init_words : wordsSigns Try.prog.initOrder.toList = [initW0, initW1, initW2, initW3, initW4, initW5, initW6, initW7, initW8, initW9] := by
  rw [init_is, String.toList_ofList]
  unfold initL
  rw [words_cons _ _ (by decide), words_cons _ _ (by decide), words_cons _ _ (by decide), words_cons _ _ (by decide), words_cons _ _ (by decide), words_cons _ _ (by decide), words_cons _ _ (by decide), words_cons _ _ (by decide), words_cons _ _ (by decide), words_last _ (by decide)]
theorem init_cut : wordsSigns Try.prog.initOrder.toList = initW0 :: initW1 :: [Char.ofNat 99, Char.ofNat 117, Char.ofNat 116] :: [initW3, initW4, initW5, initW6, initW7, initW8, initW9] := init_words
theorem init_sum : isSumSigns initW1 = true := by decide
theorem make_is : Try.prog.make = some .cut := make_cut init_cut rfl init_sum
theorem liftsFinal_is : Try.prog.liftsFinal = false := lifts_cut init_cut rfl init_sum
theorem mayEnter_is : Try.prog.mayEnter = true := enter_cut init_cut rfl init_sum (by kernel_rfl) (by kernel_rfl) (by kernel_rfl)
end Go.Proofs.Ytacbkbilbmkjnaa

/-
  The contracts of chapter 7 that its later statements lean on:
  f_Do r_Do f_CheckBerth r_CheckBerth f_CheckPort r_CheckPort r_Port r_Berth f_need r_Need f_try f_deeds r_rules r_done Table deedV Blk.lower lower f_CheckWind r_CheckWind f_CheckAxis r_CheckAxis f_Cross f_Calm f_Turn f_Man r_Great r_SameInts r_within r_withinK r_Wind f_rangedB
  open_port open_agg of_leaves u8_bd mayEnter_is liftsFinal_is make_is own row Row owns_row owns_nil owns_keep infoI cell_one info_parts later_mix held_walk tail region at_world blk blkc kpt thru later sub take block one keyedU8 litF putG zeroDeed field0 field1
  berth_parts ship_parts portB_bd portB_parts needP_bd turnable_parts linesB_parts inB_iff done_same doErr_ok firstNot_zero firstNot_pos firstNot_all firstNot_at doneR tryR dockOf dockCells deed_form beq_dec bne_dec rule_quiet act_ship f_tryN f_tryS InMap InSet wpList_look_map wpList_look_ok wpList_put_set wpList_look_set run turned made below keep lt put
  manE manL turnE turnN turnI crossE crossLo crossHi calmE calmB calmS rng_one far_sq near_far turnS_half turn_short needs_len needs_bd total_bd after_bd after_len pick_bd man_ok man_few man_all
-/
namespace Go.Proofs.Ytacbkbilbmkjnaa
open Go.RowKit Bal Bal.Mast
end Go.Proofs.Ytacbkbilbmkjnaa
