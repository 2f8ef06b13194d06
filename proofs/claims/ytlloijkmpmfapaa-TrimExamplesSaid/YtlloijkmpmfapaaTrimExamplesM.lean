/-
  TrimExamples, the statement: the call returns true and leaves the input alone.
-/
import Derived.Test.YtlloijkmpmfapaaTrimBaseM
import Derived.Deep.DeepCutAuto
import Derived.Test.YtlloijkmpmfapaaRows
set_option linter.unusedVariables false
set_option linter.unusedSimpArgs false
/-
  TrimExamples: the examples of the chapter, its limits and numbers of errors.
-/
namespace Go.Proofs.Ytlloijkmpmfapaa
open Go.RowKit Bal Bal.Trim
set_option linter.unusedVariables false
set_option linter.unusedSimpArgs false
set_option maxHeartbeats 8000000
set_option maxRecDepth 100000

def WK : List Load := [⟨-100, 50, 8, 8⟩]

theorem x_balW (n : Nat) (w : World) (hb : Blk w n #[.int .i64 (-100), .int .i64 50, .int .i64 8, .int .i64 8] 88) :
    Calls Try.prog 31 #[.slice (some ⟨n, 0, none⟩) 1 1] w fun e w' => e = .returned (.tuple #[.agg #[.int .i64 (8), .int .i64 (8)], .agg #[.int .i64 (-800), .int .i64 (400)], .int .i64 0]) ∧ Kept w w' := by
  exact o_balance _ 1 WK w (Row.block (enc := Load.cells) (xs := WK) (fun _ => rfl) hb rfl) (Nat.le_refl _) (by simp [maxLen]) (by decide) 8 8 (-800) 400 (by decide) (by decide) (by decide) (by decide)

theorem x_shW (n : Nat) (w : World) (hb : Blk w n #[.int .i64 (-100), .int .i64 50, .int .i64 8, .int .i64 8] 88) :
    Calls Try.prog 35 #[.slice (some ⟨n, 0, none⟩) 1 1, .int .i64 0] w fun e w' => e = .returned (.tuple #[.agg #[.int .i64 (0), .int .i64 (8)], .int .i64 0]) ∧ Kept w w' := by
  exact o_shear 0 _ 1 WK w (Row.block (enc := Load.cells) (xs := WK) (fun _ => rfl) hb rfl) (Nat.le_refl _) (by simp [maxLen]) 0 8 0 (by decide) (by decide) (by decide)

theorem x_beW (n : Nat) (w : World) (hb : Blk w n #[.int .i64 (-100), .int .i64 50, .int .i64 8, .int .i64 8] 88) :
    Calls Try.prog 37 #[.slice (some ⟨n, 0, none⟩) 1 1, .int .i64 0] w fun e w' => e = .returned (.tuple #[.agg #[.int .i64 (0), .int .i64 (800)], .int .i64 0]) ∧ Kept w w' := by
  exact o_bend 0 _ 1 WK w (Row.block (enc := Load.cells) (xs := WK) (fun _ => rfl) hb rfl) (Nat.le_refl _) (by simp [maxLen]) 0 800 0 (by decide) (by decide) (by decide)

theorem x_wo (a : Option Addr) (w : World) (h : Row Load.cells 4 w.heap.size w a LS) :
    Calls Try.prog 33 #[.slice a 2 2, .agg #[.int .i64 0, .int .i64 (-1), .int .i64 0]] w fun e w' => ∃ a' c', e = .returned (.tuple #[.int .i64 2200, .slice a' 2 c', .int .i64 0]) ∧ Row Put.cells 2 w'.heap.size w' a' (choice ⟨0, -1, 0⟩ LS) ∧ 2 ≤ c' ∧ c' ≤ maxLen ∧ Kept w w' := by
  exact o_worst ⟨0, -1, 0⟩ a 2 LS w h (by decide) (by decide) 2 2200 0 (choice ⟨0, -1, 0⟩ LS) (by decide) (by decide) (by decide) (by decide)

theorem x_be10 (a : Option Addr) (w : World) (h : Row Load.cells 4 w.heap.size w a LS) :
    Calls Try.prog 37 #[.slice a 2 2, .int .i64 10] w fun e w' => e = .returned (.tuple #[.agg #[.int .i64 (2000), .int .i64 (2000)], .int .i64 0]) ∧ Kept w w' := by
  exact o_bend 10 a 2 LS w h (by decide) (by decide) 2000 2000 0 (by decide) (by decide) (by decide)

theorem x_sh2 (a : Option Addr) (w : World) (h : Row Load.cells 4 w.heap.size w a LS) :
    Calls Try.prog 35 #[.slice a 2 2, .int .i64 20001] w fun e w' => e = .returned (.tuple #[.agg #[.int .i64 (0), .int .i64 (0)], .int .i64 2]) ∧ Kept w w' := by
  exact o_shear 20001 a 2 LS w h (by decide) (by decide) 0 0 2 (by decide) (by decide) (by decide)

theorem x_str (a : Option Addr) (n : Nat) (w : World) (h : Row Load.cells 4 w.heap.size w a LS) (hb : Blk w n #[.int .i64 11, .int .i64 20, .int .i64 2200, .int .i64 11, .int .i64 19, .int .i64 3000, .int .i64 10, .int .i64 100, .int .i64 1999] 104) :
    Calls Try.prog 39 #[.slice a 2 2, .slice (some ⟨n, 0, none⟩) 3 3] w fun e w' => ∃ a' c', e = .returned (.tuple #[.slice a' 2 c', .int .i64 0]) ∧ Row icell 1 w'.heap.size w' a' [1, 2] ∧ 2 ≤ c' ∧ c' ≤ maxLen ∧ Kept w w' := by
  exact o_strained a 2 LS w h (by decide) (by decide) (some ⟨n, 0, none⟩) 3 [⟨11, 20, 2200⟩, ⟨11, 19, 3000⟩, ⟨10, 100, 1999⟩] (Row.block (fun _ => rfl) hb rfl) (Nat.le_refl _) (by simp [maxLen]) 2 0 [1, 2] (by decide) (by decide) rfl

theorem x_stow2 (ah ap : Option Addr) (w : World) (hh : Row Hold.cells 2 w.heap.size w ah HS) (hp : Row Parcel.cells 2 w.heap.size w ap PS) :
    Calls Try.prog 44 #[.slice none 0 0, .slice ah 2 2, .slice ap 3 3, .slice none 0 0, .slice none 0 0] w fun e w' => ∃ a' c', e = .returned (.tuple #[.slice a' 3 c', .int .i64 0]) ∧ Row icell 1 w'.heap.size w' a' [0, 1, 0] ∧ 3 ≤ c' ∧ c' ≤ maxLen ∧ Kept w w' := by
  exact a_stow [] 0 rfl [0, 1, 0] 3 rfl 0 (by decide +kernel) (by decide +kernel) (by decide) ah ap none 0 (Nat.le_refl _) (by simp [maxLen]) w hh hp Row.nil

theorem x_stow3 (ah ap : Option Addr) (n : Nat) (w : World) (hh : Row Hold.cells 2 w.heap.size w ah HS) (hp : Row Parcel.cells 2 w.heap.size w ap PS) (hr : Blk w n #[.int .i64 1, .int .i64 1, .int .i64 1, .int .i64 1, .int .i64 2, .int .i64 1] 110) :
    Calls Try.prog 44 #[.slice none 0 0, .slice ah 2 2, .slice ap 3 3, .slice (some ⟨n, 0, none⟩) 2 2, .slice none 0 0] w fun e w' => ∃ a' c', e = .returned (.tuple #[.slice a' 0 c', .int .i64 6]) ∧ Row icell 1 w'.heap.size w' a' [] ∧ 0 ≤ c' ∧ c' ≤ maxLen ∧ Kept w w' := by
  exact a_stow [⟨1, 1, 1⟩, ⟨1, 2, 1⟩] 2 rfl [] 0 rfl 6 (by decide +kernel) (by decide +kernel) (by decide) ah ap _ 2 (Nat.le_refl _) (by simp [maxLen]) w hh hp (Row.block (fun _ => rfl) hr rfl)

theorem x_br0 (a : Option Addr) (w : World) (h : Row Load.cells 4 w.heap.size w a LS) :
    Calls Try.prog 25 #[.slice a 2 2, .slice none 0 0] w fun e w' => ∃ a' c', e = .returned (.tuple #[.agg #[.int .i64 0, .slice a' 0 c'], .int .i64 6]) ∧ Row Put.cells 2 w'.heap.size w' a' [] ∧ 0 ≤ c' ∧ c' ≤ maxLen ∧ Kept w w' := by
  exact o_breach a 2 LS w h (by decide) (by decide) none 0 [] Row.nil (Nat.le_refl _) (by simp [maxLen]) 0 0 6 [] (by decide) (by decide) (by decide) rfl

theorem x_dr (g n : Nat) (w : World) (h : Row Load.cells 4 w.heap.size w (some ⟨g, 0, none⟩) LS) (hb : Blk w n #[.int .i64 1, .int .i64 0, .int .i64 5] 47) :
    Calls Try.prog 42 #[.slice (some ⟨g, 0, none⟩) 2 2, .slice none 0 0, .slice (some ⟨n, 0, none⟩) 1 1] w fun e w' => ∃ a' c', e = .returned (.tuple #[.slice a' 0 c', .int .i64 6]) ∧ Row icell 1 w'.heap.size w' a' [] ∧ 0 ≤ c' ∧ c' ≤ maxLen ∧ Kept w w' := by
  refine (f_Drop _ 2 LS none 0 [] (some ⟨n, 0, none⟩) 1 [⟨1, 0, 5⟩] w h (by decide) (by decide) Row.nil (Nat.le_refl _) (by simp [maxLen]) (Row.block (fun _ => rfl) hb rfl) (by decide) (by decide) (fun e => by cases e)).mono ?_
  rintro e w' ⟨v, rfl, ho, hk⟩
  rw [show dropL LS [] [⟨1, 0, 5⟩] = [] by decide +kernel] at ho
  obtain ⟨a', c', rfl, hr, h1, h2⟩ := owns_row (enc := icell) (k := 1) (fun _ => rfl) ho
  rw [show dropE LS [] [⟨1, 0, 5⟩] = 6 by decide +kernel]
  exact ⟨a', c', rfl, hr, h1, h2, hk⟩

theorem x_ck (rs : List Rule) (nr : Nat) (ms : List Limit) (nm : Nat) (t : List Int) (nt : Nat) (h1 : rs.length = nr) (h2 : ms.length = nm) (h3 : t.length = nt) (E : Int) (h4 : checkStowE ⟨[], HS, PS, rs, ms⟩ t = E) (h5 : nr ≤ 20 ∧ nm ≤ 20 ∧ nt ≤ 20) (ah ap ar am at_ : Option Addr) (w : World)
    (hh : Row Hold.cells 2 w.heap.size w ah HS) (hp : Row Parcel.cells 2 w.heap.size w ap PS) (hr : Row Rule.cells 3 w.heap.size w ar rs) (hm : Row Limit.cells 3 w.heap.size w am ms) (ht : Row icell 1 w.heap.size w at_ t) :
    Calls Try.prog 46 #[.slice none 0 0, .slice ah 2 2, .slice ap 3 3, .slice ar nr nr, .slice am nm nm, .slice at_ nt nt] w fun e w' => e = .returned (.int .i64 E) ∧ Kept w w' := by
  subst h1 h2 h3 h4
  exact f_CheckStow ⟨[], HS, PS, rs, ms⟩ ⟨none, ah, ap, ar, am, 0, 2, 3, rs.length, ms.length⟩ w ⟨Row.nil, hh, hp, hr, hm, Nat.le_refl _, Nat.le_refl _, Nat.le_refl _, Nat.le_refl _, Nat.le_refl _, by simp [maxLen], by simp [maxLen], by simp [maxLen], by simp [maxLen]; omega, by simp [maxLen]; omega, fun _ => rfl⟩ at_ t.length t ht (Nat.le_refl _) (by simp [maxLen]; omega)

theorem x_ck1 (ah ap : Option Addr) (t n : Nat) (w : World) (hh : Row Hold.cells 2 w.heap.size w ah HS) (hp : Row Parcel.cells 2 w.heap.size w ap PS)  (ht : Blk w t #[.int .i64 0, .int .i64 0, .int .i64 1] 3) :
    Calls Try.prog 46 #[.slice none 0 0, .slice ah 2 2, .slice ap 3 3, .slice none 0 0, .slice none 0 0, .slice (some ⟨t, 0, none⟩) 3 3] w fun e w' => e = .returned (.int .i64 44) ∧ Kept w w' := by
  exact x_ck [] 0 [] 0 [0, 0, 1] 3 rfl rfl rfl 44 (by decide +kernel) (by decide) ah ap _ _ _ w hh hp Row.nil Row.nil (Row.block (fun _ => rfl) ht rfl)

theorem x_ck2 (ah ap : Option Addr) (t n : Nat) (w : World) (hh : Row Hold.cells 2 w.heap.size w ah HS) (hp : Row Parcel.cells 2 w.heap.size w ap PS) (hr : Blk w n #[.int .i64 2, .int .i64 1, .int .i64 1] 110) (ht : Blk w t #[.int .i64 0, .int .i64 1, .int .i64 1] 3) :
    Calls Try.prog 46 #[.slice none 0 0, .slice ah 2 2, .slice ap 3 3, .slice (some ⟨n, 0, none⟩) 1 1, .slice none 0 0, .slice (some ⟨t, 0, none⟩) 3 3] w fun e w' => e = .returned (.int .i64 45) ∧ Kept w w' := by
  exact x_ck [⟨2, 1, 1⟩] 1 [] 0 [0, 1, 1] 3 rfl rfl rfl 45 (by decide +kernel) (by decide) ah ap _ _ _ w hh hp (Row.block (fun _ => rfl) hr rfl) Row.nil (Row.block (fun _ => rfl) ht rfl)

theorem x_ck3 (ah ap : Option Addr) (t n : Nat) (w : World) (hh : Row Hold.cells 2 w.heap.size w ah HS) (hp : Row Parcel.cells 2 w.heap.size w ap PS) (hm : Blk w n #[.int .i64 1, .int .i64 0, .int .i64 14] 47) (ht : Blk w t #[.int .i64 0, .int .i64 1, .int .i64 0] 3) :
    Calls Try.prog 46 #[.slice none 0 0, .slice ah 2 2, .slice ap 3 3, .slice none 0 0, .slice (some ⟨n, 0, none⟩) 1 1, .slice (some ⟨t, 0, none⟩) 3 3] w fun e w' => e = .returned (.int .i64 46) ∧ Kept w w' := by
  exact x_ck [] 0 [⟨1, 0, 14⟩] 1 [0, 1, 0] 3 rfl rfl rfl 46 (by decide +kernel) (by decide) ah ap _ _ _ w hh hp Row.nil (Row.block (fun _ => rfl) hm rfl) (Row.block (fun _ => rfl) ht rfl)

theorem x_ck4 (ah ap : Option Addr) (t n : Nat) (w : World) (hh : Row Hold.cells 2 w.heap.size w ah HS) (hp : Row Parcel.cells 2 w.heap.size w ap PS)  (ht : Blk w t #[.int .i64 0, .int .i64 1] 3) :
    Calls Try.prog 46 #[.slice none 0 0, .slice ah 2 2, .slice ap 3 3, .slice none 0 0, .slice none 0 0, .slice (some ⟨t, 0, none⟩) 2 2] w fun e w' => e = .returned (.int .i64 2) ∧ Kept w w' := by
  exact x_ck [] 0 [] 0 [0, 1] 2 rfl rfl rfl 2 (by decide +kernel) (by decide) ah ap _ _ _ w hh hp Row.nil Row.nil (Row.block (fun _ => rfl) ht rfl)

theorem x_cb (a : Option Addr) (n : Nat) (w : World) (h : Row Load.cells 4 w.heap.size w a LS) (hb : Blk w n #[.int .i64 1, .int .i64 0, .int .i64 14] 47) :
    Calls Try.prog 28 #[.slice a 2 2, .slice (some ⟨n, 0, none⟩) 1 1, .agg #[.int .i64 0, .slice none 0 0]] w fun e w' => e = .returned (.int .i64 47) ∧ Kept w w' := by
  exact o_checkBreach a 2 LS w h (by decide) (by decide) _ 1 [⟨1, 0, 14⟩] (Row.block (fun _ => rfl) hb rfl) (by decide) (by decide) 0 47 none 0 0 [] rfl Row.nil (Nat.le_refl _) (by simp [maxLen]) (by decide)

theorem x_cl (n : Nat) (w : World) (hb : Blk w n #[.int .i64 (20001), .int .i64 (20001), .int .i64 (0), .int .i64 (0)] 88) :
    Calls Try.prog 19 #[.slice (some ⟨n, 0, none⟩) 1 1] w fun e w' => e = .returned (.int .i64 40) ∧ Kept w w' := by
  have := f_CheckLoads (some ⟨n, 0, none⟩) 1 [⟨20001, 20001, 0, 0⟩] w (Row.block (fun _ => rfl) hb rfl) (Nat.le_refl _) (by simp [maxLen])
  rwa [show checkLoads [⟨20001, 20001, 0, 0⟩] = 40 by decide] at this

theorem x_cm (n : Nat) (w : World) (hb : Blk w n #[.int .i64 (1001), .int .i64 (0), .int .i64 (0)] 47) :
    Calls Try.prog 21 #[.slice (some ⟨n, 0, none⟩) 1 1] w fun e w' => e = .returned (.int .i64 41) ∧ Kept w w' := by
  have := f_CheckLimits (some ⟨n, 0, none⟩) 1 [⟨1001, 0, 0⟩] w (Row.block (fun _ => rfl) hb rfl) (Nat.le_refl _) (by simp [maxLen])
  rwa [show checkLimits [⟨1001, 0, 0⟩] = 41 by decide] at this

theorem x_cf (n : Nat) (w : World) (hb : Blk w n #[.int .i64 (0), .int .i64 (-1), .int .i64 (0)] 104) :
    Calls Try.prog 23 #[.slice (some ⟨n, 0, none⟩) 1 1] w fun e w' => e = .returned (.int .i64 42) ∧ Kept w w' := by
  have := f_CheckFrames (some ⟨n, 0, none⟩) 1 [⟨0, -1, 0⟩] w (Row.block (fun _ => rfl) hb rfl) (Nat.le_refl _) (by simp [maxLen])
  rwa [show checkFrames [⟨0, -1, 0⟩] = 42 by decide] at this

theorem x_cm13 (n : Nat) (w : World) (hb : Blk w n (Array.replicate 39 (.int .i64 0)) 47) :
    Calls Try.prog 21 #[.slice (some ⟨n, 0, none⟩) 13 13] w fun e w' => e = .returned (.int .i64 4) ∧ Kept w w' := by
  have := f_CheckLimits (some ⟨n, 0, none⟩) 13 (List.replicate 13 ⟨0, 0, 0⟩) w (Row.block (enc := Limit.cells) (xs := List.replicate 13 ⟨0, 0, 0⟩) (fun _ => rfl) hb (by rfl)) (by decide) (by simp [maxLen])
  rwa [show checkLimits (List.replicate 13 ⟨0, 0, 0⟩) = 4 by decide] at this
theorem x_ints2 (a : Option Addr) (b c : Nat) (p q : Int) (w : World) (hx : Row icell 1 w.heap.size w a [p, q]) (hc : 2 ≤ c) (hM : c ≤ maxLen) (hy : Blk w b #[.int .i64 p, .int .i64 q] 3) :
    Calls Try.prog 41 #[.slice a 2 c, .slice (some ⟨b, 0, none⟩) 2 2] w fun e w' => e = .returned (.bool true) ∧ Kept w w' := r_SameInts a _ c 2 [p, q] w hx (Row.block (fun _ => rfl) hy rfl) hc (Nat.le_refl _) hM (by simp [maxLen])
theorem infoLim : (Try.prog.info? 47).map (fun i => (i.zero, i.size, i.bytes)) = some (some (.agg #[.int .i64 0, .int .i64 0, .int .i64 0]), 3, 24) := by kernel_rfl
theorem made13 : madeCells (Value.cells (.agg #[.int .i64 0, .int .i64 0, .int .i64 0])) ((13 : Int).toNat * 3) = Array.replicate 39 (.int .i64 0) := by kernel_rfl
theorem run_make13 (w : World) : (Instr.makeSlice 23 (.int .i64 13) (.int .i64 13)).run Try.prog w = .ok (.slice (some ⟨w.heap.size, 0, none⟩) 13 13) (w.alloc (.cells (Array.replicate 39 (.int .i64 0)) 47)) := by
  obtain ⟨i0, hi, hz0, hz1, hz2⟩ := info_parts infoLim
  have := run_make (P := Try.prog) w 23 47 i0 (.agg #[.int .i64 0, .int .i64 0, .int .i64 0]) Try.underlying23 hi hz0 .i64 .i64 13 13 (by omega) (Int.le_refl _) (by rw [hz2]; omega) (by omega)
  rw [this]
  have hm : madeCells (Value.cells (.agg #[.int .i64 0, .int .i64 0, .int .i64 0])) ((13 : Int).toNat * i0.size) = Array.replicate 39 (.int .i64 0) := by
    rw [hz1]
    exact made13
  rw [hm]
  simp

theorem wpSteps_want {P : Program} {ops : Array Oper} {C : World → Prop} {K : Act → Prop} {a : Act} {o : Oper} {r : List (Bool × Oper)} (v : Value) (hw : Region.wanted o (yielded ops a.tmps) = true) (hy : ∀ w, (execOp a.eval o).run P w = .ok (.value v) w) (h : wpSteps P ops C K r (a.put o.dst v)) : wpSteps P ops C K ((true, o) :: r) a :=
  ⟨v, .inl ⟨hw, hy⟩, h⟩

theorem law_TrimExamples (w : World) : Calls Try.prog 17 #[] w fun e w' => e = .returned (.bool true) ∧ Kept w w' := by
  have hmk := run_make13
  go_enter Try.func17, Try.ntmps17
  go_upto_region 2 with (go_at_call 51; (with_reducible refine (o_one _ _).mono ?_); rintro e wo ⟨rfl, hbo⟩)
  refine at_world (S := fun W1 => Blk W1 wo.heap.size #[.int .i64 (-100), .int .i64 50, .int .i64 8, .int .i64 8] 88 ∧ Kept w W1) ⟨by (exact blkc), by (exact kpt)⟩ ?_
  obtain ⟨nw, hnw⟩ : ∃ n, n = wo.heap.size := ⟨_, rfl⟩
  rw [← hnw]
  clear hnw
  rintro W1 ⟨bw, hk⟩
  go_upto_region 3 with (go_at_call 31; (with_reducible refine (x_balW _ _ ?_).mono ?_); (focus (exact blk)); rintro e wa ⟨rfl, hbwa⟩)
  refine at_world (S := fun W2 => Blk W2 nw #[.int .i64 (-100), .int .i64 50, .int .i64 8, .int .i64 8] 88 ∧ Blk W2 wa.heap.size #[.int .i64 (8), .int .i64 (8)] 49 ∧ Blk W2 (wa.heap.size + 1) #[.int .i64 (-800), .int .i64 (400)] 49 ∧ Kept w W2) ⟨by (exact blk), by (exact blkc), by (exact blkc), by (exact kpt)⟩ ?_
  obtain ⟨n1, hn1⟩ : ∃ n, n = wa.heap.size := ⟨_, rfl⟩
  rw [← hn1]
  clear bw hk hn1
  rintro W2 ⟨bw, q1, q2, hk⟩
  go_upto_region 4 with (go_at_call 35; (with_reducible refine (x_shW _ _ ?_).mono ?_); (focus (exact blk)); rintro e wb ⟨rfl, hbwb⟩)
  refine at_world (S := fun W3 => Blk W3 nw #[.int .i64 (-100), .int .i64 50, .int .i64 8, .int .i64 8] 88 ∧ Blk W3 n1 #[.int .i64 (8), .int .i64 (8)] 49 ∧ Blk W3 (n1 + 1) #[.int .i64 (-800), .int .i64 (400)] 49 ∧ Blk W3 wb.heap.size #[.int .i64 (0), .int .i64 (8)] 49 ∧ Kept w W3) ⟨by (exact blk), by (exact blk), by (exact blk), by (exact blkc), by (exact kpt)⟩ ?_
  obtain ⟨n2, hn2⟩ : ∃ n, n = wb.heap.size := ⟨_, rfl⟩
  rw [← hn2]
  clear bw q1 q2 hk hn2
  rintro W3 ⟨bw, q1, q2, q3, hk⟩
  go_upto_region 5 with (go_at_call 37; (with_reducible refine (x_beW _ _ ?_).mono ?_); (focus (exact blk)); rintro e wc ⟨rfl, hbwc⟩)
  refine at_world (S := fun W4 => Blk W4 nw #[.int .i64 (-100), .int .i64 50, .int .i64 8, .int .i64 8] 88 ∧ Blk W4 n1 #[.int .i64 (8), .int .i64 (8)] 49 ∧ Blk W4 (n1 + 1) #[.int .i64 (-800), .int .i64 (400)] 49 ∧ Blk W4 n2 #[.int .i64 (0), .int .i64 (8)] 49 ∧ Blk W4 wc.heap.size #[.int .i64 (0), .int .i64 (800)] 49 ∧ Kept w W4) ⟨by (exact blk), by (exact blk), by (exact blk), by (exact blk), by (exact blkc), by (exact kpt)⟩ ?_
  obtain ⟨n3, hn3⟩ : ∃ n, n = wc.heap.size := ⟨_, rfl⟩
  rw [← hn3]
  clear bw q1 q2 q3 hk hn3
  rintro W4 ⟨bw, q1, q2, q3, q4, hk⟩
  go_upto_region 6 with (first | (go_at_call 55; (with_reducible refine (o_loads _).mono ?_); rintro e wL ⟨gL, rfl, hL, hbL⟩) | (go_at_call 33; (with_reducible refine (x_wo _ _ (hL.later (by (exact kpt)) (Nat.le_refl _))).mono ?_); rintro e wd ⟨aO, cO, rfl, hO, hO1, hO2, hbwd⟩))
  refine at_world (S := fun W5 => Blk W5 nw #[.int .i64 (-100), .int .i64 50, .int .i64 8, .int .i64 8] 88 ∧ Blk W5 n1 #[.int .i64 (8), .int .i64 (8)] 49 ∧ Blk W5 (n1 + 1) #[.int .i64 (-800), .int .i64 (400)] 49 ∧ Blk W5 n2 #[.int .i64 (0), .int .i64 (8)] 49 ∧ Blk W5 n3 #[.int .i64 (0), .int .i64 (800)] 49 ∧ Kept w W5) ⟨by (exact blk), by (exact blk), by (exact blk), by (exact blk), by (exact blk), by (exact kpt)⟩ ?_
  clear bw q1 q2 q3 q4 hk
  rintro W5 ⟨bw, q1, q2, q3, q4, hk⟩
  go_upto_region 7 with (first | (go_at_call 55; (with_reducible refine (o_loads _).mono ?_); rintro e wL ⟨gL, rfl, hL, hbL⟩) | (go_at_call 37; (with_reducible refine (x_be10 _ _ (hL.later (by (exact kpt)) (Nat.le_refl _))).mono ?_); rintro e we ⟨rfl, hbwe⟩))
  refine at_world (S := fun W6 => Blk W6 nw #[.int .i64 (-100), .int .i64 50, .int .i64 8, .int .i64 8] 88 ∧ Blk W6 n1 #[.int .i64 (8), .int .i64 (8)] 49 ∧ Blk W6 (n1 + 1) #[.int .i64 (-800), .int .i64 (400)] 49 ∧ Blk W6 n2 #[.int .i64 (0), .int .i64 (8)] 49 ∧ Blk W6 n3 #[.int .i64 (0), .int .i64 (800)] 49 ∧ Blk W6 we.heap.size #[.int .i64 (2000), .int .i64 (2000)] 49 ∧ Kept w W6) ⟨by (exact blk), by (exact blk), by (exact blk), by (exact blk), by (exact blk), by (exact blkc), by (exact kpt)⟩ ?_
  obtain ⟨n4, hn4⟩ : ∃ n, n = we.heap.size := ⟨_, rfl⟩
  rw [← hn4]
  clear bw q1 q2 q3 q4 hk hn4
  rintro W6 ⟨bw, q1, q2, q3, q4, q5, hk⟩
  go_upto_region 8 with (first | (go_at_call 55; (with_reducible refine (o_loads _).mono ?_); rintro e wL ⟨gL, rfl, hL, hbL⟩) | (go_at_call 39; (with_reducible refine (x_str _ _ _ (hL.later (by (exact kpt)) (Nat.le_refl _)) ?_).mono ?_); (focus (exact blk)); rintro e wf ⟨aT, cT, rfl, hT, hT1, hT2, hbwf⟩))
  refine at_world (S := fun W7 => Blk W7 nw #[.int .i64 (-100), .int .i64 50, .int .i64 8, .int .i64 8] 88 ∧ Blk W7 n1 #[.int .i64 (8), .int .i64 (8)] 49 ∧ Blk W7 (n1 + 1) #[.int .i64 (-800), .int .i64 (400)] 49 ∧ Blk W7 n2 #[.int .i64 (0), .int .i64 (8)] 49 ∧ Blk W7 n3 #[.int .i64 (0), .int .i64 (800)] 49 ∧ Blk W7 n4 #[.int .i64 (2000), .int .i64 (2000)] 49 ∧ Row icell 1 W7.heap.size W7 aT [1, 2] ∧ Kept w W7) ⟨by (exact blk), by (exact blk), by (exact blk), by (exact blk), by (exact blk), by (exact blk), (hT.later (by (exact kpt)) (Nat.le_refl _)), by (exact kpt)⟩ ?_
  clear bw q1 q2 q3 q4 q5 hk
  rintro W7 ⟨bw, q1, q2, q3, q4, q5, rT, hk⟩
  have q2c0 := fun g : Later W7 => (q2.later g).cell 0
  have q2f0 := fun g : Later W7 => (q2.later g).free 0
  have q2c1 := fun g : Later W7 => (q2.later g).cell 1
  have q2f1 := fun g : Later W7 => (q2.later g).free 1
  have q2l := fun g : Later W7 => (q2.later g).lt
  simp at q2c0 q2c1
  have q3c0 := fun g : Later W7 => (q3.later g).cell 0
  have q3f0 := fun g : Later W7 => (q3.later g).free 0
  have q3c1 := fun g : Later W7 => (q3.later g).cell 1
  have q3f1 := fun g : Later W7 => (q3.later g).free 1
  have q3l := fun g : Later W7 => (q3.later g).lt
  simp at q3c0 q3c1
  have q4c0 := fun g : Later W7 => (q4.later g).cell 0
  have q4f0 := fun g : Later W7 => (q4.later g).free 0
  have q4c1 := fun g : Later W7 => (q4.later g).cell 1
  have q4f1 := fun g : Later W7 => (q4.later g).free 1
  have q4l := fun g : Later W7 => (q4.later g).lt
  simp at q4c0 q4c1
  have q5c0 := fun g : Later W7 => (q5.later g).cell 0
  have q5f0 := fun g : Later W7 => (q5.later g).free 0
  have q5c1 := fun g : Later W7 => (q5.later g).cell 1
  have q5f1 := fun g : Later W7 => (q5.later g).free 1
  have q5l := fun g : Later W7 => (q5.later g).lt
  simp at q5c0 q5c1
  have KS : ∀ V n, Kept W7 V → Blk V n #[.int .i64 1, .int .i64 2] 3 → Calls Try.prog 41 #[.slice aT 2 cT, .slice (some ⟨n, 0, none⟩) 2 2] V fun e w' => e = .returned (.bool true) ∧ Kept V w' := fun V n hV hB =>
    x_ints2 aT n cT 1 2 V (rT.later hV (Nat.le_refl _)) hT1 hT2 hB
  refine later_mix [(false, 0), (false, 1), (false, 2), (false, 3), (false, 4), (false, 5), (false, 6), (false, 7), (false, 8), (false, 9), (false, 10), (false, 11), (false, 12), (false, 13), (false, 14), (false, 15), (false, 16), (false, 17), (false, 18), (false, 19), (false, 20), (false, 21), (false, 22), (false, 23), (false, 24), (false, 25), (false, 26), (false, 27), (false, 28), (false, 29), (false, 30), (false, 31), (false, 32), (false, 33), (false, 34), (false, 35), (false, 36), (false, 37), (false, 38), (false, 39), (false, 40), (false, 41), (false, 42), (false, 43), (false, 44), (false, 45), (false, 46), (false, 47), (false, 48), (false, 49), (false, 50), (false, 51), (false, 52), (true, 53)] 54 [55, 56, 57] (by kernel_rfl) (by kernel_rfl) ?_
  simp only [List.filterMap_cons, List.filterMap_nil, List.getElem?_cons_zero, List.getElem?_cons_succ, Option.map_some]
  repeat (refine wpSteps_quiet ?_; (first | go_big_quiet_skip | (go_big_quiet_want; go_big_quiet_op; first | go_big_quiet_on | (apply Exists.intro; refine ⟨fun g_ => ?_, ?_⟩; (focus (first | (go_at_call 51; exact Later.call (o_one _ _)) | (go_at_call 48; exact Later.call (o_alive _)))); go_big_quiet_on))); refine wpQuiet_nil ?_)
  refine wpSteps_want (.slice aT 2 cT) (by first | rfl | (simp [Region.wanted, yielded]; done)) (fun w => rfl) ?_
  simp only [Act.put, List.setIfInBounds_toArray, List.set_cons_zero, List.set_cons_succ]
  repeat (refine wpSteps_quiet ?_; (first | go_big_quiet_skip | (go_big_quiet_want; go_big_quiet_op; first | go_big_quiet_on | (apply Exists.intro; refine ⟨fun g_ => ?_, ?_⟩; (focus (first | (go_at_call 51; exact Later.call (o_one _ _)) | (go_at_call 48; exact Later.call (o_alive _)))); go_big_quiet_on))); refine wpQuiet_nil ?_)
  refine wpSteps_nil ?_
  intro gg
  have hkg := Kept.drop hk gg.ok
  have hgk := gg.ok
  go_upto_region 9 with (go_at_call 41; (with_reducible refine (KS _ _ (by (exact kpt)) (by (exact blk))).mono ?_); rintro e w9 ⟨rfl, hb9⟩)
  refine NoPanic.normal ?_
  go_upto_region 11 with (first | (go_at_call 56; (with_reducible refine (o_holds _).mono ?_); rintro e wH ⟨gH, rfl, hH, hbH⟩) | (go_at_call 57; (with_reducible refine (o_parcels _).mono ?_); rintro e wP ⟨gP, rfl, hP, hbP⟩) | (go_at_call 44; (with_reducible refine (x_stow2 _ _ _ (hH.later (by (exact kpt)) (Nat.le_refl _)) (hP.later (by (exact kpt)) (Nat.le_refl _))).mono ?_); rintro e wg ⟨aX, cX, rfl, hX, hX1, hX2, hbwg⟩))
  refine at_world (S := fun W21 => Row icell 1 W21.heap.size W21 aX [0, 1, 0] ∧ Kept w W21) ⟨(hX.later (by (exact kpt)) (Nat.le_refl _)), by (exact kpt)⟩ ?_
  clear hk
  rintro W21 ⟨rX, hk⟩
  go_upto_region 12 with (first | (go_at_call 56; (with_reducible refine (o_holds _).mono ?_); rintro e wH ⟨gH, rfl, hH, hbH⟩) | (go_at_call 57; (with_reducible refine (o_parcels _).mono ?_); rintro e wP ⟨gP, rfl, hP, hbP⟩) | (go_at_call 44; (with_reducible refine (x_stow3 _ _ _ _ (hH.later (by (exact kpt)) (Nat.le_refl _)) (hP.later (by (exact kpt)) (Nat.le_refl _)) ?_).mono ?_); (focus (exact blk)); rintro e wh ⟨aY, cY, rfl, hY, hY1, hY2, hbwh⟩))
  refine at_world (S := fun W22 => Row icell 1 W22.heap.size W22 aX [0, 1, 0] ∧ Kept w W22) ⟨(rX.later (by (exact kpt)) (Nat.le_refl _)), by (exact kpt)⟩ ?_
  clear rX hk
  rintro W22 ⟨rX, hk⟩
  go_upto_region 13 with (first | (go_at_call 55; (with_reducible refine (o_loads _).mono ?_); rintro e wL ⟨gL, rfl, hL, hbL⟩) | (go_at_call 25; (with_reducible refine (x_br0 _ _ (hL.later (by (exact kpt)) (Nat.le_refl _))).mono ?_); rintro e wi ⟨aZ, cZ, rfl, hZ, hZ1, hZ2, hbwi⟩))
  refine at_world (S := fun W23 => Row icell 1 W23.heap.size W23 aX [0, 1, 0] ∧ Kept w W23) ⟨(rX.later (by (exact kpt)) (Nat.le_refl _)), by (exact kpt)⟩ ?_
  clear rX hk
  rintro W23 ⟨rX, hk⟩
  go_upto_region 14 with (first | (go_at_call 55; (with_reducible refine (o_loads _).mono ?_); rintro e wL ⟨gL, rfl, hL, hbL⟩) | (go_at_call 42; (with_reducible refine (x_dr _ _ _ (hL.later (by (exact kpt)) (Nat.le_refl _)) ?_).mono ?_); (focus (exact blk)); rintro e wj ⟨aV, cV, rfl, hV, hV1, hV2, hbwj⟩))
  refine at_world (S := fun W24 => Row icell 1 W24.heap.size W24 aX [0, 1, 0] ∧ Kept w W24) ⟨(rX.later (by (exact kpt)) (Nat.le_refl _)), by (exact kpt)⟩ ?_
  clear rX hk
  rintro W24 ⟨rX, hk⟩
  go_upto_region 15 with (first | (go_at_call 55; (with_reducible refine (o_loads _).mono ?_); rintro e wL ⟨gL, rfl, hL, hbL⟩) | (go_at_call 35; (with_reducible refine (x_sh2 _ _ (hL.later (by (exact kpt)) (Nat.le_refl _))).mono ?_); rintro e wk ⟨rfl, hbwk⟩))
  refine at_world (S := fun W25 => Row icell 1 W25.heap.size W25 aX [0, 1, 0] ∧ Kept w W25) ⟨(rX.later (by (exact kpt)) (Nat.le_refl _)), by (exact kpt)⟩ ?_
  clear rX hk
  rintro W25 ⟨rX, hk⟩
  go_upto_region 16 with fail
  refine at_world (S := fun W26 => Row icell 1 W26.heap.size W26 aX [0, 1, 0] ∧ Blk W26 W25.heap.size #[.int .i64 1, .int .i64 0, .int .i64 14] 47 ∧ Kept w W26) ⟨(rX.later (by (exact kpt)) (Nat.le_refl _)), by (exact blkc), by (exact kpt)⟩ ?_
  obtain ⟨n5, hn5⟩ : ∃ n, n = W25.heap.size := ⟨_, rfl⟩
  rw [← hn5]
  clear rX hk hn5
  rintro W26 ⟨rX, bt, hk⟩
  have KS3 : ∀ V n, Kept W26 V → Blk V n #[.int .i64 0, .int .i64 1, .int .i64 0] 3 → Calls Try.prog 41 #[.slice aX 3 cX, .slice (some ⟨n, 0, none⟩) 3 3] V fun e w' => e = .returned (.bool true) ∧ Kept V w' := fun V n hV hB =>
    r_SameInts aX _ cX 3 [0, 1, 0] V (rX.later hV (Nat.le_refl _)) (Row.block (fun _ => rfl) hB rfl) hX1 (Nat.le_refl _) hX2 (by simp [maxLen])
  go_wp2_with (first | (go_at_call 56; (with_reducible refine (o_holds _).mono ?_); rintro e wH ⟨gH, rfl, hH, hbH⟩) | (go_at_call 57; (with_reducible refine (o_parcels _).mono ?_); rintro e wP ⟨gP, rfl, hP, hbP⟩) | (go_at_call 55; (with_reducible refine (o_loads _).mono ?_); rintro e wL ⟨gL, rfl, hL, hbL⟩) | (go_at_call 41; (with_reducible refine (KS3 _ _ (by (exact kpt)) ?_).mono ?_); (focus (exact blk)); rintro e w9 ⟨rfl, hb9⟩) | (go_at_call 46; (with_reducible refine (x_ck1 _ _ _ 0 _ (hH.later (by (exact kpt)) (Nat.le_refl _)) (hP.later (by (exact kpt)) (Nat.le_refl _)) ?_).mono ?_); (focus (exact blk)); rintro e wz ⟨rfl, hbwz⟩) | (go_at_call 46; (with_reducible refine (x_ck2 _ _ _ _ _ (hH.later (by (exact kpt)) (Nat.le_refl _)) (hP.later (by (exact kpt)) (Nat.le_refl _)) ?_ ?_).mono ?_); (focus (exact blk)); (focus (exact blk)); rintro e wz ⟨rfl, hbwz⟩) | (go_at_call 46; (with_reducible refine (x_ck3 _ _ _ _ _ (hH.later (by (exact kpt)) (Nat.le_refl _)) (hP.later (by (exact kpt)) (Nat.le_refl _)) ?_ ?_).mono ?_); (focus (exact blk)); (focus (exact blk)); rintro e wz ⟨rfl, hbwz⟩) | (go_at_call 46; (with_reducible refine (x_ck4 _ _ _ 0 _ (hH.later (by (exact kpt)) (Nat.le_refl _)) (hP.later (by (exact kpt)) (Nat.le_refl _)) ?_).mono ?_); (focus (exact blk)); rintro e wz ⟨rfl, hbwz⟩) | (go_at_call 28; (with_reducible refine (x_cb _ _ _ (hL.later (by (exact kpt)) (Nat.le_refl _)) ?_).mono ?_); (focus (exact blk)); rintro e wy ⟨rfl, hbwy⟩) | (go_at_call 51; (with_reducible refine (o_one _ _).mono ?_); rintro e wo ⟨rfl, hbo⟩) | (go_at_call 19; (with_reducible refine (x_cl _ _ ?_).mono ?_); (focus (exact blk)); rintro e wx ⟨rfl, hbwx⟩) | (go_at_call 21; (with_reducible refine (x_cm13 _ _ ?_).mono ?_); (focus (exact blk)); rintro e wv ⟨rfl, hbwv⟩) | (go_at_call 21; (with_reducible refine (x_cm _ _ ?_).mono ?_); (focus (exact blk)); rintro e wu ⟨rfl, hbwu⟩) | (go_at_call 23; (with_reducible refine (x_cf _ _ ?_).mono ?_); (focus (exact blk)); rintro e wt ⟨rfl, hbwt⟩))
  go_ret; exact ⟨rfl, by (exact kpt)⟩
end Go.Proofs.Ytlloijkmpmfapaa

/-
  TrimExamples, the statement: the call returns true and leaves the input alone.
-/
namespace Go.Proofs.Ytlloijkmpmfapaa.trimExamples
open Go.ChangeShapes Go.WideShapes Go.ChangeAt Go.RowKit Bal Bal.Trim
open Go.ChangeMaps (open_string shut_string)
set_option linter.unusedVariables false

theorem own : ownKnob Try.prog.godebug = none := by kernel_rfl
theorem laidOut : laidOutB Try.prog = true := by kernel_rfl

set_option maxRecDepth 100000 in
theorem lifted (os : Os) (started : os.Started) (H : Type) (enc : TypeId × Value → H) :
    ReturnsInHanded {} Try.checked os 17 .any (Rows.trimExamplesSpec.pre6 enc Try.prog Try.f17 Rows.trimExamplesRow.domain false) (Rows.trimExamplesSpec.post enc Try.prog Try.f17 false true false false) := by
  refine returnsInHanded_of_change (C := Try.checked) own started (by kernel_rfl) Try.func17
    (ChangeSpec.witness6 (enc := enc) (C := Try.checked) false ⟨#[], #[], []⟩ 8 (by kernel_rfl) (by kernel_rfl) (by kernel_rfl) (by kernel_rfl)) ?_
  intro W base args ds gs before hval0 hW hcnd _
  have hval : ∀ (j : Nat) t v, Try.f17.params[j]? = some t → args[j]? = some v → Value.okWide Try.prog W .any base t v := hval0
  have hW' := hW
  obtain ⟨p, q, hA0, hV, rfl, hfz, hnd⟩ := hW
  have hA : DataW.TrodAll enc Try.prog W 0 (fun _ => true) true Try.f17.params.toList args.toList ds p := hA0
  rw [Try.params17] at hA hval
  obtain ⟨hargs, rfl, rfl⟩ := trodAll_nil hA
  obtain rfl : args = #[] := by cases args; simp_all
  obtain ⟨rfl, rfl⟩ := trodVars_none hV
  clear hA0 hval0
  refine (law_TrimExamples W).mono fun e W' ⟨he, bel⟩ => ?_
  subst he
  exact ⟨_, rfl, _, _, _, [], _, [], hW', trodAll_mk1 (shut_bool Try.underlying4 _), trodAll_mk0, rfl, bel.frame _, fun h => by cases h⟩

theorem joined : joinedFacts Try.prog 17 Try.f17 Rows.trimExamplesSpec Rows.trimExamplesRow = true := by
  unfold joinedFacts
  rw [mayEnter_is, liftsFinal_is, make_is]
  kernel_rfl
theorem over : Rows.trimExamplesRow.holds Try.pinned (OpenSpec.ofChange Rows.trimExamplesSpec) :=
  OpenClaim.holds_of_wide 17 Try.f17 rfl rfl rfl rfl rfl rfl rfl ⟨rfl, rfl, rfl, rfl, rfl⟩ rfl rfl rfl rfl rfl (by kernel_rfl) Try.func17 joined
    (of_decide_eq_true (by kernel_rfl)) (by unfold Func.isWrapper; first | (rw [if_pos (by decide +kernel)]; kernel_rfl) | (rw [if_neg (by decide +kernel)]; exact ⟨rfl, rfl⟩))
    (fun os started H enc _ => lifted os started H enc)
end Go.Proofs.Ytlloijkmpmfapaa.trimExamples

namespace Go.Proofs.Ytlloijkmpmfapaa
theorem trimExamples_holds : Rows.TrimExamplesSaid := trimExamples.over
#print axioms trimExamples_holds
end Go.Proofs.Ytlloijkmpmfapaa
