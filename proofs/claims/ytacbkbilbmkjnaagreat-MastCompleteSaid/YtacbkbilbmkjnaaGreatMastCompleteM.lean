/-
  MastComplete, the statement: for every input the call returns true and leaves the input alone.
-/
import Derived.Test.YtacbkbilbmkjnaaGreatMastBaseZM
import Derived.Deep.RegionHeld3
import Derived.Test.YtacbkbilbmkjnaaGreatRows
set_option linter.unusedVariables false
set_option linter.unusedSimpArgs false
namespace Bal
open Go Go.RowKit

section
variable {P : Program} {ops : Array Oper} {md : Region.Mode} {C : World → Prop}

/-! ### The same, with operations that need no world among the others -/

theorem wpSteps_nil {K : Act → Prop} {a : Act} (h : K a) : wpSteps P ops C K [] a := h
theorem wpSteps_any {K : Act → Prop} {a : Act} {o : Oper} {r : List (Bool × Oper)} (v : Value) (hg : o.guard = none) (hy : ∀ w, (execOp a.eval o).run P w = .ok (.value v) w) (h : wpSteps P ops C K r (a.put o.dst v)) : wpSteps P ops C K ((true, o) :: r) a :=
  ⟨v, .inl ⟨by simp [Region.wanted, hg], hy⟩, h⟩
theorem wpSteps_quiet {K : Act → Prop} {a : Act} {o : Oper} {r : List (Bool × Oper)} (h : wpQuiet P ops C (fun a' => wpSteps P ops C K r a') [o] a) : wpSteps P ops C K ((false, o) :: r) a := h

end
end Bal

namespace Bal.Mast
open Bal.Trim
set_option linter.unusedVariables false
theorem getD_at {α : Type} {l : List α} {i : Nat} {d : α} (h : i < l.length) : l.getD i d = l[i] := by
  rw [List.getD_eq_getElem?_getD, List.getElem?_eq_getElem h]; rfl
/-! ### Winds -/
theorem inside_in {lo hi n : Int} (h : lo ≤ hi) : lo ≤ insideP lo hi n ∧ insideP lo hi n ≤ hi := by
  unfold insideP
  have h1 := Int.emod_nonneg n (show hi - lo + 1 ≠ 0 by omega)
  have h2 := Int.emod_lt_of_pos n (show 0 < hi - lo + 1 by omega)
  omega
/-! ### Turned sheds -/
/-! ### Manned lines -/
end Bal.Mast

namespace Bal.Trim
open Go Go.RowKit Go.ChangeShapes Go.WideShapes
set_option linter.unusedVariables false
def ucell (n : Int) : List Value := [.int .u16 n]
theorem u16_of_leaves {cs : List Value} (h : LeavesOk [.int .u16] cs) : ∃ x : Int, cs = ucell x ∧ (Lit.int .u16 x).wf = true := by
  obtain ⟨hl, h⟩ := h
  match cs, hl with
  | [v0], _ =>
    obtain ⟨_, e0, n0, rfl, w0⟩ := h 0 (.int .u16) rfl; simp at e0; subst e0
    exact ⟨n0, rfl, w0⟩
theorem wf_u16 {n : Int} (h : (Lit.int .u16 n).wf = true) : 0 ≤ n ∧ n ≤ 65535 := by
  simp only [Lit.wf, Bool.and_eq_true, decide_eq_true_eq] at h
  have e1 : IntKind.min .u16 = 0 := by decide
  have e2 : IntKind.max .u16 = 65535 := by decide
  rw [e1, e2] at h
  exact h
end Bal.Trim

/-
  Decision tables: each state has one decision: the plain side. No program in sight.
-/
namespace Bal.Mast
open Bal.Trim
set_option linter.unusedVariables false
/-- how many rows match -/
def cntR (rows : List Rw) (st : List Int) : Nat := (rows.filter fun r => hits r.conds st).length
theorem cntR_take {d : Tb} {st : List Int} : ∀ k, k ≤ d.rows.length → cntR (d.rows.take k) st = (matchTo d st k).length
  | 0, _ => by simp [cntR, matchTo]
  | k + 1, h => by
    have hk : k < d.rows.length := by omega
    rw [matchTo_succ, List.length_append, ← cntR_take k (by omega), List.take_succ_eq_append_getElem hk]
    unfold cntR
    rw [List.filter_append, List.length_append]
    have : matchP d st k = hits d.rows[k].conds st := by unfold matchP; rw [List.getElem?_eq_getElem hk]
    rw [this]
    cases hq : hits d.rows[k].conds st <;> simp [hq]
theorem cntR_all {d : Tb} {st : List Int} : cntR d.rows st = (matchL d st).length := by
  have := cntR_take (d := d) (st := st) d.rows.length (Nat.le_refl _)
  rwa [List.take_length] at this
theorem match_one {d : Tb} {st : List Int} {i : Nat} (h : matchL d st = [i]) : ∃ hi : i < d.rows.length, hits d.rows[i].conds st = true := mem_match.1 (by rw [h]; simp)
theorem match_two {d : Tb} {st : List Int} {i k : Nat} {l : List Nat} (h : matchL d st = i :: k :: l) : i < k ∧ (∃ hi : i < d.rows.length, hits d.rows[i].conds st = true) ∧ (∃ hk : k < d.rows.length, hits d.rows[k].conds st = true) ∧ cntR (d.rows.take k) st = 1 := by
  obtain ⟨hi, pi⟩ := mem_match.1 (show i ∈ matchL d st by rw [h]; simp)
  obtain ⟨hk, pk⟩ := mem_match.1 (show k ∈ matchL d st by rw [h]; simp)
  have hs : (matchL d st).Pairwise (· < ·) := List.Pairwise.filter _ List.pairwise_lt_range
  rw [h] at hs
  have hik : i < k := (List.pairwise_cons.1 hs).1 k (by simp)
  refine ⟨hik, ⟨hi, pi⟩, ⟨hk, pk⟩, ?_⟩
  rw [cntR_take k (by omega)]
  have e : matchL d st = matchTo d st k ++ (List.range' k (d.rows.length - k)).filter (matchP d st) := by
    unfold matchL matchTo
    rw [← List.filter_append]
    congr 1
    rw [List.range_eq_range', List.range_eq_range', show d.rows.length = k + (d.rows.length - k) by omega, ← List.range'_append_1, Nat.zero_add, show k + (d.rows.length - k) - k = d.rows.length - k by omega]
  have hp : matchP d st k = true := by unfold matchP; rw [List.getElem?_eq_getElem hk]; exact pk
  have e2 : (List.range' k (d.rows.length - k)).filter (matchP d st) = k :: (List.range' (k + 1) (d.rows.length - k - 1)).filter (matchP d st) := by
    rw [show d.rows.length - k = (d.rows.length - k - 1) + 1 by omega, List.range'_succ, List.filter_cons, if_pos hp]
    rw [show d.rows.length - k - 1 + 1 - 1 = d.rows.length - k - 1 by omega]
  have hb : ∀ x ∈ matchTo d st k, x < k := fun x hx => by unfold matchTo at hx; exact List.mem_range.1 (List.mem_filter.1 hx).1
  rw [h, e2] at e
  generalize matchTo d st k = m at *
  match m, e, hb with
  | [], e, _ => simp at e; omega
  | [x], _, _ => rfl
  | x :: y :: m, e, hb =>
    simp only [List.cons_append, List.cons.injEq] at e
    have := hb y (by simp)
    omega
/-- THE LAW OF DECISIONS -/
theorem complete_law {d : Tb} {st : List Int} (hb : Box d st) {g t : Option (List Int)} (hg : FirstExt d (fun l => decide (l.length = 0)) [] g) (ht : FirstExt d (fun l => decide (1 < l.length)) [] t) :
    ((matchL d st).length = 0 → ∃ s, g = some s ∧ s.length = st.length ∧ ¬ before st s) ∧ (1 < (matchL d st).length → ∃ s, t = some s ∧ s.length = st.length ∧ ¬ before st s) ∧
    (∀ s, g = some s → Box d s ∧ matchL d s = []) ∧ ∀ s, t = some s → Box d s ∧ ∃ i k l, matchL d s = i :: k :: l := by
  have hu : ∃ u, st = [] ++ u := ⟨st, rfl⟩
  refine ⟨fun h => ?_, fun h => ?_, fun s e => ?_, fun s e => ?_⟩
  · cases g with
    | none => have := hg st hb hu; simp [h] at this
    | some s => exact ⟨s, rfl, by rw [hg.1.1, hb.1], hg.2.2.2 st hb hu (by simp [h])⟩
  · cases t with
    | none => have := ht st hb hu; simp at this; omega
    | some s => exact ⟨s, rfl, by rw [ht.1.1, hb.1], ht.2.2.2 st hb hu (by simp [h])⟩
  · subst e
    refine ⟨hg.1, ?_⟩
    have := of_decide_eq_true hg.2.2.1
    exact List.eq_nil_of_length_eq_zero this
  · subst e
    refine ⟨ht.1, ?_⟩
    have := of_decide_eq_true ht.2.2.1
    match h : matchL d s, this with
    | i :: k :: l, _ => exact ⟨i, k, l, rfl⟩
    | [_], h1 => rw [h] at this; simp at this
    | [], h1 => rw [h] at this; simp at this
/-- the state that numbers choose -/
def chosenS (vs : List Span) (by' : List Int) : List Int := (vs.zip by').map fun q => insideQ q.1 q.2
where insideQ (v : Span) (n : Int) : Int := v.lo + n % (v.hi - v.lo + 1)
/-- whether a state is before another one, as the statement asks it -/
def beforeB : List Int → List Int → Bool
  | x :: xs, y :: ys => if x = y then beforeB xs ys else decide (x < y)
  | _, _ => false
theorem beforeB_iff : ∀ {a b : List Int}, beforeB a b = true ↔ before a b
  | [], _ => by simp [beforeB, before]
  | _ :: _, [] => by simp [beforeB, before]
  | x :: a, y :: b => by
    have ih := beforeB_iff (a := a) (b := b)
    simp only [beforeB, before]
    split
    · rename_i e
      rw [ih]
      constructor
      · exact fun h => .inr ⟨e, h⟩
      · rintro (h | ⟨_, h⟩)
        · omega
        · exact h
    · rename_i e
      simp only [decide_eq_true_eq]
      constructor
      · exact fun h => .inl h
      · rintro (h | ⟨h, _⟩)
        · exact h
        · exact absurd h e
end Bal.Mast

/-
  States one before the other; rows that match, as the outright statement counts them.
-/
namespace Go.Proofs.YtacbkbilbmkjnaaGreat
open Go.RowKit Bal Bal.Trim Bal.Mast
set_option linter.unusedVariables false
set_option linter.unusedSimpArgs false
set_option maxHeartbeats 4000000
set_option maxRecDepth 100000

theorem at_worldQ {Q : Exit → Act → World → Prop} {e : Exit} {a : Act} {S : World → Prop} {W : World} (h : S W) (k : ∀ W, S W → Q e a W) : Q e a W := k W h
theorem beforeB_drop {xs ys : List Int} {k : Nat} (h : k < xs.length) (h' : k < ys.length) : beforeB (xs.drop k) (ys.drop k) = if xs[k] = ys[k] then beforeB (xs.drop (k + 1)) (ys.drop (k + 1)) else decide (xs[k] < ys[k]) := by
  rw [List.drop_eq_getElem_cons h, List.drop_eq_getElem_cons h']
  rfl
theorem o_before (aa ba : Option Addr) (ac bc : Nat) (xs ys : List Int) (n : Nat) (hnx : xs.length = n) (hny : ys.length = n) (w : World) (hx : Row icell 1 w.heap.size w aa xs) (hy : Row icell 1 w.heap.size w ba ys) (hxc : n ≤ ac) (hyc : n ≤ bc) (hxm : ac ≤ maxLen) (hym : bc ≤ maxLen) :
    Calls Tryz.prog 31 #[.slice aa n ac, .slice ba n bc] w fun z w' => z = .returned (.bool (beforeB xs ys)) ∧ Kept w w' := by
  unfold maxLen at hxm hym
  obtain ⟨R, hR⟩ : ∃ x, beforeB xs ys = x := ⟨_, rfl⟩
  rw [hR]
  have HR0 := Lib.hid (show beforeB (xs.drop 0) (ys.drop 0) = R from hR)
  have HNX := Lib.hid hnx
  have HNY := Lib.hid hny
  clear hR hnx hny
  go_enter Tryz.func31, Tryz.ntmps31
  go_wp2
  go_loopw [8] (fun i wr => ∃ k : Nat, k ≤ n ∧ i = .int .i64 k ∧ beforeB (xs.drop k) (ys.drop k) = R ∧ Kept w wr) (fun i _ => n - (intOf i).toNat)
  case atStart => exact ⟨0, Nat.zero_le _, rfl, HR0.out, by (exact kpt)⟩
  case round =>
    obtain ⟨k, hkl, rfl, hrel, hk⟩ := hrel
    have HREL := Lib.hid hrel
    clear hrel HR0
    by_cases hlt : k < n
    · have hnx := HNX.out
      have hny := HNY.out
      obtain ⟨b1, o1, rfl, hb1, g0⟩ := int_row (hx.later hk (Nat.le_refl _)) k (by omega)
      obtain ⟨b2, o2, rfl, hb2, g1⟩ := int_row (hy.later hk (Nat.le_refl _)) k (by omega)
      have HST := Lib.hid ((beforeB_drop (xs := xs) (ys := ys) (k := k) (by omega) (by omega)).symm.trans HREL.out)
      obtain ⟨x, hx0⟩ : ∃ x, x = xs[k]'(by omega) := ⟨_, rfl⟩
      obtain ⟨y, hy0⟩ : ∃ y, y = ys[k]'(by omega) := ⟨_, rfl⟩
      rw [← hx0] at g0 HST
      rw [← hy0] at g1 HST
      clear hx0 hy0 hnx hny
      have k0 : (0 : Int) ≤ (k : Int) := by omega
      have k1 : (k : Int) < (n : Int) := by omega
      go_upto_region 4 with fail
      have x0 := fun g : Later wr => g.some g0
      have x1 := fun g : Later wr => g.some g1
      refine Later.region (by kernel_rfl) (by kernel_rfl) ?_
      repeat (first | go_big_quiet_skip | (go_big_quiet_want; go_big_quiet_op; first | go_big_quiet_on | (apply Exists.intro; refine ⟨fun g_ => ?_, ?_⟩; (focus (first | fail)); go_big_quiet_on)))
      refine wpQuiet_nil ?_
      intro gg
      have hkg := Kept.drop hk gg.ok
      by_cases he : x = y
      · have HS2 := Lib.hid (show beforeB (xs.drop (k + 1)) (ys.drop (k + 1)) = R by have h := HST.out; rw [if_pos he] at h; exact h)
        subst he
        clear HST
        go_wp2
        go_roundw
        case rel => exact ⟨k + 1, by omega, by go_num, HS2.out, hkg⟩
        case measure => simp [intOf]; omega
      · have hR : R = decide (x < y) := by have h := HST.out; rw [if_neg he] at h; exact h.symm
        have heb : (x != y) = true := by simp [he]
        clear HST
        refine at_worldQ (S := fun V => V.cell? ⟨b1, o1 + k, none⟩ = some (.int .i64 x) ∧ V.cell? ⟨b2, o2 + k, none⟩ = some (.int .i64 y) ∧ Kept w V) ⟨gg.some g0, gg.some g1, hkg⟩ ?_
        clear x0 x1 g0 g1 hkg hk
        rintro V ⟨g0, g1, hk⟩
        go_upto_region 5 with fail
        have x0 := fun g : Later V => g.some g0
        have x1 := fun g : Later V => g.some g1
        refine Later.region (by kernel_rfl) (by kernel_rfl) ?_
        repeat (first | go_big_quiet_skip | (go_big_quiet_want; go_big_quiet_op; first | go_big_quiet_on | (apply Exists.intro; refine ⟨fun g_ => ?_, ?_⟩; (focus (first | fail)); go_big_quiet_on)))
        refine wpQuiet_nil ?_
        intro g2
        have hkg := Kept.drop hk g2.ok
        go_wp2
        exact bodyPost_ret (v := .bool (decide (x < y))) (by simp [results, Tryz.results31, go_sem]) rfl ⟨by first | rfl | rw [hR], hkg⟩
    · obtain rfl : n = k := by omega
      have hR : R = false := by
        have h := HREL.out
        rw [List.drop_of_length_le (by have := HNX.out; omega)] at h
        exact h.symm
      have k1 : ¬ (n : Int) < (n : Int) := by omega
      go_wp2
      exact bodyPost_ret (v := .bool false) (by simp [results, Tryz.results31, go_sem]) rfl ⟨by first | rfl | rw [hR], by (exact kpt)⟩

theorem cntR_succ {rs : List RowM} {i : Nat} (h : i < rs.length) (st : List Int) : cntR ((rs.take (i + 1)).map RowM.r) st = cntR ((rs.take i).map RowM.r) st + if hits rs[i].r.conds st then 1 else 0 := by
  unfold cntR
  rw [List.take_succ_eq_append_getElem h, List.map_append, List.filter_append, List.length_append]
  congr 1
  simp only [List.map_cons, List.map_nil]
  cases hq : hits rs[i].r.conds st <;> simp [hq]
theorem cntR_le (rs : List RowM) (i : Nat) (st : List Int) : cntR ((rs.take i).map RowM.r) st ≤ i := by
  unfold cntR
  have h1 := List.length_filter_le (fun r : Rw => hits r.conds st) ((rs.take i).map RowM.r)
  rw [List.length_map, List.length_take] at h1
  omega
theorem o_matching (va : Option Addr) (vn vc : Nat) (rs : List RowM) (ra : Option Addr) (rc : Nat) (w : World) (hrows : Row RowM.cells 2 w.heap.size w ra rs) (hconds : ∀ x ∈ rs, Row Span.cells 2 w.heap.size w x.ad x.r.conds) (hrl : rs.length ≤ rc) (hrm : rc ≤ maxLen) (hcl : ∀ x ∈ rs, x.r.conds.length ≤ x.cap ∧ x.cap ≤ maxLen)
    (sa : Option Addr) (sc : Nat) (st : List Int) (hs : Row icell 1 w.heap.size w sa st) (hsl : st.length ≤ sc) (hsm : sc ≤ maxLen) (hr : rs.length ≤ 1000) (hE : ∀ x ∈ rs, st.length ≤ x.r.conds.length) :
    Calls Tryz.prog 27 #[.agg #[.slice va vn vc, .slice ra rs.length rc], .slice sa st.length sc] w fun z w' => z = .returned (.int .i64 (cntR (rs.map RowM.r) st : Nat)) ∧ Kept w w' := by
  have hsm' := hsm
  unfold maxLen at hrm hsm'
  have HE := Lib.hid hE
  have HCO := Lib.hid hconds
  have HCL := Lib.hid hcl
  clear hE hconds hcl
  go_enter Tryz.func27, Tryz.ntmps27
  go_wp2
  go_loopw [5, 14] (fun s5 i wr => ∃ i' : Nat, i' ≤ rs.length ∧ i = .int .i64 i' ∧ s5 = .int .i64 (cntR ((rs.take i').map RowM.r) st : Nat) ∧ Blk wr w.heap.size #[.slice va vn vc, .slice ra rs.length rc] 68 ∧ Kept w wr) (fun _ i _ => rs.length - (intOf i).toNat)
  case atStart => exact ⟨0, Nat.zero_le _, rfl, rfl, by (exact blkc), by (exact kpt)⟩
  case round =>
    obtain ⟨i, hil, rfl, rfl, r0, hk⟩ := hrel
    by_cases hlt : i < rs.length
    · obtain ⟨rb, ro, hra, hrb, g0, g1⟩ := RowM.row (hrows.later hk (Nat.le_refl _)) i hlt
      have hcd := HCO.out _ (List.getElem_mem hlt)
      have hcl2 := HCL.out _ (List.getElem_mem hlt)
      have hel := HE.out _ (List.getElem_mem hlt)
      have HSU := Lib.hid (cntR_succ hlt st)
      have hle := cntR_le rs i st
      obtain ⟨X, hX⟩ : ∃ X, X = rs[i] := ⟨_, rfl⟩
      rw [← hX] at g0 g1 hcd hcl2 hel HSU
      clear hX
      obtain ⟨⟨cs, ac⟩, ca, cc⟩ := X
      simp only at g0 g1 hcd hcl2 hel HSU
      have hcm := hcl2.2
      unfold maxLen at hcm
      obtain ⟨C, hC⟩ : ∃ x, x = cntR ((rs.take i).map RowM.r) st := ⟨_, rfl⟩
      rw [← hC] at HSU hle ⊢
      clear hC
      have k0 : (0 : Int) ≤ (i : Int) := by omega
      have k1 : (i : Int) < (rs.length : Int) := by omega
      have r0c0 := r0.cell 0
      have r0c1 := r0.cell 1
      have r0f0 := r0.free 0
      have r0f1 := r0.free 1
      have r0l := r0.lt
      simp at r0c0 r0c1
      go_wp2
      clear hra
      have hszr := hk.size
      go_loopw [8, 20] (fun s8 j wq => ∃ k : Nat, k ≤ st.length ∧ j = .int .i64 k ∧ s8 = .bool (hits cs (st.take k)) ∧ Blk wq wr.heap.size #[.slice ca cs.length cc, .int .i64 ac] 80 ∧ Blk wq w.heap.size #[.slice va vn vc, .slice ra rs.length rc] 68 ∧ Kept w wq) (fun _ j _ => st.length - (intOf j).toNat)
      case atStart => exact ⟨0, Nat.zero_le _, rfl, by simp [hits], by (exact blkc), by (exact blk), by (exact kpt)⟩
      case round =>
        rename World => wz
        clear r0 hk r0c0 r0c1 r0f0 r0f1 r0l
        obtain ⟨k, hkl, rfl, rfl, q0, r0, hk⟩ := hrel
        obtain ⟨nq, hnq⟩ : ∃ n, n = wr.heap.size := ⟨_, rfl⟩
        rw [← hnq] at q0 ⊢
        clear hnq
        by_cases hkt : k < st.length
        · obtain ⟨sb, so, rfl, hsb, c0⟩ := int_row (hs.later hk (Nat.le_refl _)) k hkt
          obtain ⟨cb, co, rfl, hcb, d0, d1⟩ := Span.row (hcd.later hk (Nat.le_refl _)) k (by omega)
          have HTK := Lib.hid (show hits cs (st.take (k + 1)) = (hits cs (st.take k) && inB st[k] (cs[k]'(by omega)).lo (cs[k]'(by omega)).hi) by
            rw [List.take_succ_eq_append_getElem hkt, hits_snoc (by rw [List.length_take]; omega)]
            simp only [List.length_take, Nat.min_eq_left (Nat.le_of_lt hkt)])
          obtain ⟨bv, hbv⟩ : ∃ x, x = hits cs (st.take k) := ⟨_, rfl⟩
          obtain ⟨y, hy⟩ : ∃ x, x = st[k] := ⟨_, rfl⟩
          obtain ⟨c, hc⟩ : ∃ x, x = cs[k]'(by omega) := ⟨_, rfl⟩
          rw [← hbv, ← hy, ← hc] at HTK
          rw [← hy] at c0
          rw [← hc] at d0 d1
          rw [← hbv]
          clear hbv hy hc
          have m0 : (0 : Int) ≤ (k : Int) := by omega
          have m1 : (k : Int) < (st.length : Int) := by omega
          have m2 : (k : Int) < (cs.length : Int) := by omega
          have q0c0 := q0.cell 0
          have q0c1 := q0.cell 1
          have q0f0 := q0.free 0
          have q0f1 := q0.free 1
          have q0l := q0.lt
          simp at q0c0 q0c1
          have r0c0 := r0.cell 0
          have r0c1 := r0.cell 1
          have r0f0 := r0.free 0
          have r0f1 := r0.free 1
          have r0l := r0.lt
          simp at r0c0 r0c1
          cases bv
          · go_wp2
            go_roundw
            case rel => exact ⟨k + 1, by omega, by go_num, by rw [HTK.out]; rfl, by (exact blk), by (exact blk), by (exact kpt)⟩
            case measure => simp [intOf]; omega
          · by_cases h1 : c.lo ≤ y
            · by_cases h2 : y ≤ c.hi
              · have HB := Lib.hid (show inB y c.lo c.hi = true from inB_iff.2 ⟨h1, h2⟩)
                go_wp2
                go_roundw
                case rel => exact ⟨k + 1, by omega, by go_num, by rw [HTK.out, HB.out]; rfl, by (exact blk), by (exact blk), by (exact kpt)⟩
                case measure => simp [intOf]; omega
              · have HB := Lib.hid (show inB y c.lo c.hi = false by cases hb : inB y c.lo c.hi with | false => rfl | true => exact absurd (inB_iff.1 hb).2 h2)
                go_wp2
                go_roundw
                case rel => exact ⟨k + 1, by omega, by go_num, by rw [HTK.out, HB.out]; rfl, by (exact blk), by (exact blk), by (exact kpt)⟩
                case measure => simp [intOf]; omega
            · have HB := Lib.hid (show inB y c.lo c.hi = false by cases hb : inB y c.lo c.hi with | false => rfl | true => exact absurd (inB_iff.1 hb).1 h1)
              go_wp2
              go_roundw
              case rel => exact ⟨k + 1, by omega, by go_num, by rw [HTK.out, HB.out]; rfl, by (exact blk), by (exact blk), by (exact kpt)⟩
              case measure => simp [intOf]; omega
        · obtain rfl : st.length = k := by omega
          rw [List.take_length]
          have m1 : ¬ (st.length : Int) < (st.length : Int) := by omega
          have hw1 := i64_in (n := (C : Int) + 1) (by omega)
          obtain ⟨hv, hhv⟩ : ∃ x, x = hits cs st := ⟨_, rfl⟩
          rw [← hhv] at HSU ⊢
          clear hhv
          have q0c0 := q0.cell 0
          have q0c1 := q0.cell 1
          have q0f0 := q0.free 0
          have q0f1 := q0.free 1
          have q0l := q0.lt
          simp at q0c0 q0c1
          have r0c0 := r0.cell 0
          have r0c1 := r0.cell 1
          have r0f0 := r0.free 0
          have r0f1 := r0.free 1
          have r0l := r0.lt
          simp at r0c0 r0c1
          cases hv
          · go_wp2
            go_roundw
            case rel => exact ⟨i + 1, by omega, by go_num, by rw [HSU.out]; rfl, by (exact blk), by (exact kpt)⟩
            case measure => simp [intOf]; omega
          · go_wp2
            go_roundw
            case rel => exact ⟨i + 1, by omega, by go_num, by rw [HSU.out]; first | rfl | (refine congrArg (Value.int .i64) ?_; simp), by (exact blk), by (exact kpt)⟩
            case measure => simp [intOf]; omega
    · obtain rfl : rs.length = i := by omega
      rw [List.take_length]
      have k1 : ¬ (rs.length : Int) < (rs.length : Int) := by omega
      go_wp2
      exact bodyPost_ret (v := .int .i64 (cntR (rs.map RowM.r) st : Nat)) (by simp [results, Tryz.results27, go_sem]) rfl ⟨rfl, by (exact kpt)⟩
end Go.Proofs.YtacbkbilbmkjnaaGreat

/-
  MastComplete: each state has one decision: the walk.
-/
namespace Go.Proofs.YtacbkbilbmkjnaaGreat
open Go.RowKit Bal Bal.Trim Bal.Mast
set_option linter.unusedVariables false
set_option linter.unusedSimpArgs false
set_option maxHeartbeats 4000000
set_option maxRecDepth 100000

/-- the state that numbers choose, as far as k -/
def stT (vs : List Span) (us : List Int) : Nat → List Int
  | 0 => []
  | k + 1 => stT vs us k ++ [insideP (vs.getD k default).lo (vs.getD k default).hi (us.getD k 0)]
theorem stT_len (vs : List Span) (us : List Int) : ∀ k, (stT vs us k).length = k
  | 0 => rfl
  | k + 1 => by rw [stT, List.length_append, stT_len vs us k]; rfl
theorem stT_hits {vs : List Span} {us : List Int} (h : ∀ v ∈ vs, v.lo ≤ v.hi) : ∀ k, k ≤ vs.length → hits vs (stT vs us k) = true
  | 0, _ => by cases vs <;> rfl
  | k + 1, hk => by
    have hkl : k < vs.length := by omega
    have hin := inside_in (n := us.getD k 0) (h _ (List.getElem_mem hkl))
    rw [stT, hits_snoc (by rw [stT_len]; exact hkl), stT_hits h k (by omega), getD_at hkl]
    simp only [stT_len, Bool.true_and]
    exact inB_iff.2 hin
theorem ucell_row {B : Nat} {w : World} {a : Option Addr} {xs : List Int} (h : Row ucell 1 B w a xs) (i : Nat) (hi : i < xs.length) :
    ∃ b off, a = some ⟨b, off, none⟩ ∧ b < B ∧ w.cell? ⟨b, off + i, none⟩ = some (.int .u16 xs[i]) := by
  obtain ⟨b, off, ha, hb, hc⟩ := h i xs[i] (by simp [hi])
  have := hc 0 _ rfl
  simp only [Nat.mul_one, Nat.add_zero] at this
  exact ⟨b, off, ha, hb, this⟩
theorem owns_slcM {base n : Nat} {w : World} {v : Value} {xs : List Int} (hn : xs.length = n) (h : w.ownsRow base 3 1 v xs.length (xs.flatMap icell)) :
    ∃ a cap, v = .slice a n cap ∧ Row icell 1 w.heap.size w a xs ∧ n ≤ cap ∧ cap ≤ maxLen := by subst hn; exact owns_row (fun _ => rfl) h
theorem row_take {α : Type} {enc : α → List Value} {k B : Nat} {w : World} {a : Option Addr} {xs : List α} (h : Row enc k B w a xs) (m : Nat) : Row enc k B w a (xs.take m) := by
  intro i x hi
  refine h i x ?_
  rw [List.getElem?_take] at hi
  split at hi
  · exact hi
  · cases hi
theorem row_one {w : World} {B : Nat} {ra : Option Addr} {rs : List RowM} {i : Nat} (hi : i < rs.length) (h : Row RowM.cells 2 B w ra rs) : Row RowM.cells 2 B w (Option.map (fun x => x.add (i * 2)) ra) [rs[i]] := by
  obtain ⟨b, off, e, hb, hc⟩ := h i rs[i] (by simp [hi])
  subst e
  have hadd : (⟨b, off, none⟩ : Addr).add (i * 2) = ⟨b, off + i * 2, none⟩ := by
    unfold Addr.add
    split
    · rename_i h0
      simp [h0]
    · rfl
  intro j x hx
  match j, hx with
  | 0, hx =>
    simp only [List.getElem?_cons_zero, Option.some.injEq] at hx
    subst hx
    refine ⟨b, off + i * 2, by simp only [Option.map_some, hadd], hb, fun q v hq => ?_⟩
    have := hc q v hq
    simpa using this
  | j + 1, hx => simp at hx
theorem o_matchingN (n m : Nat) (va : Option Addr) (vn vc : Nat) (rs : List RowM) (hrn : rs.length = m) (ra : Option Addr) (rc : Nat) (w : World) (hrows : Row RowM.cells 2 w.heap.size w ra rs) (hconds : ∀ x ∈ rs, Row Span.cells 2 w.heap.size w x.ad x.r.conds) (hrl : m ≤ rc) (hrm : rc ≤ maxLen) (hcl : ∀ x ∈ rs, x.r.conds.length ≤ x.cap ∧ x.cap ≤ maxLen)
    (sa : Option Addr) (sc : Nat) (st : List Int) (hn : st.length = n) (hs : Row icell 1 w.heap.size w sa st) (hsl : n ≤ sc) (hsm : sc ≤ maxLen) (hr : m ≤ 1000) (hE : ∀ x ∈ rs, n ≤ x.r.conds.length) (C : Nat) (hC : cntR (rs.map RowM.r) st = C) :
    Calls Tryz.prog 27 #[.agg #[.slice va vn vc, .slice ra m rc], .slice sa n sc] w fun z w' => z = .returned (.int .i64 (C : Nat)) ∧ Kept w w' := by
  subst hrn hn hC
  exact o_matching va vn vc rs ra rc w hrows hconds hrl hrm hcl sa sc st hs hsl hsm hr hE
theorem o_matchingZ (n m : Nat) (va : Option Addr) (vn vc : Nat) (rs : List RowM) (hrn : rs.length = m) (ra : Option Addr) (rc : Nat) (w : World) (hrows : Row RowM.cells 2 w.heap.size w ra rs) (hconds : ∀ x ∈ rs, Row Span.cells 2 w.heap.size w x.ad x.r.conds) (hrl : m ≤ rc) (hrm : rc ≤ maxLen) (hcl : ∀ x ∈ rs, x.r.conds.length ≤ x.cap ∧ x.cap ≤ maxLen)
    (sa : Option Addr) (sc : Nat) (st : List Int) (hn : st.length = n) (hs : Row icell 1 w.heap.size w sa st) (hsl : n ≤ sc) (hsm : sc ≤ maxLen) (hr : m ≤ 1000) (hE : ∀ x ∈ rs, n ≤ x.r.conds.length) (C : Int) (hC : (cntR (rs.map RowM.r) st : Nat) = C) :
    Calls Tryz.prog 27 #[.agg #[.slice va vn vc, .slice ra m rc], .slice sa n sc] w fun z w' => z = .returned (.int .i64 C) ∧ Kept w w' := by
  subst hrn hn hC
  exact o_matching va vn vc rs ra rc w hrows hconds hrl hrm hcl sa sc st hs hsl hsm hr hE
theorem f_DecideN (n : Nat) (vs : List Span) (va : Option Addr) (vc : Nat) (rs : List RowM) (ra : Option Addr) (rc : Nat) (w : World) (ht : TabAt ⟨vs, va, vc, rs, ra, rc⟩ w) (hvl5 : vs.length ≤ 1000000) (hrl5 : rs.length ≤ 1000000) (hcl5 : ∀ x ∈ rs, x.r.conds.length ≤ 1000000) (sa : Option Addr) (sc : Nat) (st : List Int) (hn : st.length = n) (hs : Row icell 1 w.heap.size w sa st) (hsl : n ≤ sc) (hsm : sc ≤ maxLen) (h3 : n ≤ 1000) (R E : Int) (hd : decR (tbOf vs rs) st = (R, E)) :
    Calls Tryz.prog 28 #[.agg #[.slice va vs.length vc, .slice ra rs.length rc], .slice sa n sc] w fun z w' => z = .returned (.tuple #[.int .i64 R, .int .i64 E]) ∧ Kept w w' := by
  subst hn
  have := f_Decide vs va vc rs ra rc w ht sa sc st hs hsl hsm hvl5 hrl5 hcl5 h3
  rw [hd] at this
  exact this

theorem law_MastComplete_great (vs : List Span) (va : Option Addr) (vc : Nat) (rs : List RowM) (ra : Option Addr) (rc : Nat) (w : World) (ht : TabAt ⟨vs, va, vc, rs, ra, rc⟩ w) (ba : Option Addr) (bc : Nat) (us : List Int) (hu : Row ucell 1 w.heap.size w ba us) (hul : us.length ≤ bc) (hum : bc ≤ maxLen) (hub : ∀ x ∈ us, 0 ≤ x ∧ x ≤ 65535) (hg : greatR (tbOf vs rs) = true) : Calls Tryz.prog 7 #[.agg #[.slice va vs.length vc, .slice ra rs.length rc], .slice ba us.length bc] w fun z w' => z = .returned (.bool true) ∧ Kept w w' := by
  have HG := Lib.hid hg
  clear hg
  go_enter Tryz.func7, Tryz.ntmps7
  go_wp2_with (first | (go_at_call 11; (with_reducible refine (o_alive _).mono ?_); rintro z wA ⟨rfl, hbA⟩; refine Blk.thru (b := w.heap.size) (arr := ?_) (t := ?_) ?_ hbA ?_; rotate_left 2; (focus (exact blk)); intro r0; have r0c0 := r0.cell 0; have r0f0 := r0.free 0; have r0c1 := r0.cell 1; have r0f1 := r0.free 1; have r0l := r0.lt; simp at r0c0 r0c1) | (go_at_call 25; (with_reducible refine (r_GreatRows vs va vc rs ra rc _ (ht.later (by (exact kpt)))).mono ?_); rw [HG.out]; rintro z w1 ⟨rfl, hb1⟩; refine Blk.thru (b := w.heap.size) (arr := ?_) (t := ?_) ?_ hb1 ?_; rotate_left 2; (focus (exact blk)); intro r0; have r0c0 := r0.cell 0; have r0f0 := r0.free 0; have r0c1 := r0.cell 1; have r0f1 := r0.free 1; have r0l := r0.lt; simp at r0c0 r0c1))
  go_ret
  exact ⟨rfl, by (exact kpt)⟩
theorem law_MastComplete_bad (vs : List Span) (va : Option Addr) (vc : Nat) (rs : List RowM) (ra : Option Addr) (rc : Nat) (w : World) (ht : TabAt ⟨vs, va, vc, rs, ra, rc⟩ w) (ba : Option Addr) (bc : Nat) (us : List Int) (hu : Row ucell 1 w.heap.size w ba us) (hul : us.length ≤ bc) (hum : bc ≤ maxLen) (hub : ∀ x ∈ us, 0 ≤ x ∧ x ≤ 65535) (hg : greatR (tbOf vs rs) = false) (hv : validB (tbOf vs rs) = false) : Calls Tryz.prog 7 #[.agg #[.slice va vs.length vc, .slice ra rs.length rc], .slice ba us.length bc] w fun z w' => z = .returned (.bool true) ∧ Kept w w' := by
  have hgr := hg
  unfold greatR at hgr
  simp only [Bool.or_eq_false_iff, Bool.and_eq_false_iff, decide_eq_false_iff_not, List.any_eq_false, decide_eq_true_eq] at hgr
  rw [rows_len, show (tbOf vs rs).vars = vs from rfl] at hgr
  have hvl5 : vs.length ≤ 1000000 := by omega
  have hrl5 : rs.length ≤ 1000000 := by omega
  have hcl5 : ∀ x ∈ rs, x.r.conds.length ≤ 1000000 := fun x hx => by have := hgr.2.1 x.r (mem_rowsT hx); omega
  clear hgr
  have HG := Lib.hid hg
  have HCK := Lib.hid (bad_check hv)
  clear hg hv
  go_enter Tryz.func7, Tryz.ntmps7
  go_wp2_with (first | (go_at_call 11; (with_reducible refine (o_alive _).mono ?_); rintro z wA ⟨rfl, hbA⟩; refine Blk.thru (b := w.heap.size) (arr := ?_) (t := ?_) ?_ hbA ?_; rotate_left 2; (focus (exact blk)); intro r0; have r0c0 := r0.cell 0; have r0f0 := r0.free 0; have r0c1 := r0.cell 1; have r0f1 := r0.free 1; have r0l := r0.lt; simp at r0c0 r0c1) | (go_at_call 25; (with_reducible refine (r_GreatRows vs va vc rs ra rc _ (ht.later (by (exact kpt)))).mono ?_); rw [HG.out]; rintro z w1 ⟨rfl, hb1⟩; refine Blk.thru (b := w.heap.size) (arr := ?_) (t := ?_) ?_ hb1 ?_; rotate_left 2; (focus (exact blk)); intro r0; have r0c0 := r0.cell 0; have r0f0 := r0.free 0; have r0c1 := r0.cell 1; have r0f1 := r0.free 1; have r0l := r0.lt; simp at r0c0 r0c1) | (go_at_call 26; (with_reducible refine (f_CheckRows vs va vc rs ra rc _ (ht.later (by (exact kpt))) hvl5 hrl5 hcl5).mono ?_); rw [HCK.out]; rintro z w2 ⟨rfl, hb2⟩; refine Blk.thru (b := w.heap.size) (arr := ?_) (t := ?_) ?_ hb2 ?_; rotate_left 2; (focus (exact blk)); intro r0; have r0c0 := r0.cell 0; have r0f0 := r0.free 0; have r0c1 := r0.cell 1; have r0f1 := r0.free 1; have r0l := r0.lt; simp at r0c0 r0c1))
  go_ret
  exact ⟨rfl, by (exact kpt)⟩
theorem law_MastComplete_short (vs : List Span) (va : Option Addr) (vc : Nat) (rs : List RowM) (ra : Option Addr) (rc : Nat) (w : World) (ht : TabAt ⟨vs, va, vc, rs, ra, rc⟩ w) (ba : Option Addr) (bc : Nat) (us : List Int) (hu : Row ucell 1 w.heap.size w ba us) (hul : us.length ≤ bc) (hum : bc ≤ maxLen) (hub : ∀ x ∈ us, 0 ≤ x ∧ x ≤ 65535) (hg : greatR (tbOf vs rs) = false) (hv : validB (tbOf vs rs) = true) (hs : us.length < vs.length) : Calls Tryz.prog 7 #[.agg #[.slice va vs.length vc, .slice ra rs.length rc], .slice ba us.length bc] w fun z w' => z = .returned (.bool true) ∧ Kept w w' := by
  have hgr := hg
  unfold greatR at hgr
  simp only [Bool.or_eq_false_iff, Bool.and_eq_false_iff, decide_eq_false_iff_not, List.any_eq_false, decide_eq_true_eq] at hgr
  rw [rows_len, show (tbOf vs rs).vars = vs from rfl] at hgr
  have hvl5 : vs.length ≤ 1000000 := by omega
  have hrl5 : rs.length ≤ 1000000 := by omega
  have hcl5 : ∀ x ∈ rs, x.r.conds.length ≤ 1000000 := fun x hx => by have := hgr.2.1 x.r (mem_rowsT hx); omega
  clear hgr
  have HG := Lib.hid hg
  have HCK := Lib.hid (good_check hv)
  have hs1 : (us.length : Int) < (vs.length : Int) := by omega
  clear hg hv
  go_enter Tryz.func7, Tryz.ntmps7
  go_wp2_with (first | (go_at_call 11; (with_reducible refine (o_alive _).mono ?_); rintro z wA ⟨rfl, hbA⟩; refine Blk.thru (b := w.heap.size) (arr := ?_) (t := ?_) ?_ hbA ?_; rotate_left 2; (focus (exact blk)); intro r0; have r0c0 := r0.cell 0; have r0f0 := r0.free 0; have r0c1 := r0.cell 1; have r0f1 := r0.free 1; have r0l := r0.lt; simp at r0c0 r0c1) | (go_at_call 25; (with_reducible refine (r_GreatRows vs va vc rs ra rc _ (ht.later (by (exact kpt)))).mono ?_); rw [HG.out]; rintro z w1 ⟨rfl, hb1⟩; refine Blk.thru (b := w.heap.size) (arr := ?_) (t := ?_) ?_ hb1 ?_; rotate_left 2; (focus (exact blk)); intro r0; have r0c0 := r0.cell 0; have r0f0 := r0.free 0; have r0c1 := r0.cell 1; have r0f1 := r0.free 1; have r0l := r0.lt; simp at r0c0 r0c1) | (go_at_call 26; (with_reducible refine (f_CheckRows vs va vc rs ra rc _ (ht.later (by (exact kpt))) hvl5 hrl5 hcl5).mono ?_); rw [HCK.out]; rintro z w2 ⟨rfl, hb2⟩; refine Blk.thru (b := w.heap.size) (arr := ?_) (t := ?_) ?_ hb2 ?_; rotate_left 2; (focus (exact blk)); intro r0; have r0c0 := r0.cell 0; have r0f0 := r0.free 0; have r0c1 := r0.cell 1; have r0f1 := r0.free 1; have r0l := r0.lt; simp at r0c0 r0c1))
  go_ret
  exact ⟨rfl, by (exact kpt)⟩

end Go.Proofs.YtacbkbilbmkjnaaGreat

/-
  MastComplete: each state has one decision: no rows fit
-/
namespace Go.Proofs.YtacbkbilbmkjnaaGreat
open Go.RowKit Bal Bal.Trim Bal.Mast
set_option linter.unusedVariables false
set_option linter.unusedSimpArgs false
set_option maxHeartbeats 4000000
set_option maxRecDepth 100000

theorem law_MastComplete_ok0 (vs : List Span) (va : Option Addr) (vc : Nat) (rs : List RowM) (ra : Option Addr) (rc : Nat) (w : World) (ht : TabAt ⟨vs, va, vc, rs, ra, rc⟩ w) (ba : Option Addr) (bc : Nat) (us : List Int) (hu : Row ucell 1 w.heap.size w ba us) (hul : us.length ≤ bc) (hum : bc ≤ maxLen) (hub : ∀ x ∈ us, 0 ≤ x ∧ x ≤ 65535) (hg : greatR (tbOf vs rs) = false) (hv : validB (tbOf vs rs) = true) (hs : ¬ us.length < vs.length) (hm : (matchL (tbOf vs rs) (stT vs us vs.length)).length = 0) : Calls Tryz.prog 7 #[.agg #[.slice va vs.length vc, .slice ra rs.length rc], .slice ba us.length bc] w fun z w' => z = .returned (.bool true) ∧ Kept w w' := by
  have HM0 := Lib.hid hm
  clear hm
  have hgr := hg
  unfold greatR at hgr
  simp only [Bool.or_eq_false_iff, Bool.and_eq_false_iff, decide_eq_false_iff_not, List.any_eq_false, decide_eq_true_eq] at hgr
  rw [rows_len, show (tbOf vs rs).vars = vs from rfl] at hgr
  have hvl5 : vs.length ≤ 1000000 := by omega
  have hrl5 : rs.length ≤ 1000000 := by omega
  have hcl5 : ∀ x ∈ rs, x.r.conds.length ≤ 1000000 := fun x hx => by have := hgr.2.1 x.r (mem_rowsT hx); omega
  clear hgr
  have HG := Lib.hid hg
  have HCK := Lib.hid (good_check hv)
  have hs1 : ¬ (us.length : Int) < (vs.length : Int) := by omega
  obtain ⟨q1, q2, q3, q4⟩ := valid_parts.1 hv
  have hn3 := inB_iff.1 q1
  rw [show (tbOf vs rs).vars = vs from rfl] at hn3 q3 q4
  rw [rows_len] at q2
  have htv : Row Span.cells 2 w.heap.size w va vs := ht.vars
  have htr : Row RowM.cells 2 w.heap.size w ra rs := ht.rows
  have HCO := Lib.hid (ht.conds)
  have HCL := Lib.hid (ht.cl)
  have hrl : rs.length ≤ rc := ht.rl
  have hrm : rc ≤ maxLen := ht.rm
  have hvm : vc ≤ maxLen := ht.vm
  have hrm' := hrm
  have hum' := hum
  have hvm' := hvm
  unfold maxLen at hrm' hum' hvm'
  have HE := Lib.hid (fun (x : RowM) (hx : x ∈ rs) => (show vs.length ≤ x.r.conds.length by rw [(q4 x.r (mem_rowsT hx)).1]; exact Nat.le_refl _))
  have HSP := Lib.hid (fun (v : Span) (hv : v ∈ vs) => spanOk_le (q3 v hv))
  have HU := Lib.hid hub
  have hbox : Box (tbOf vs rs) (stT vs us vs.length) := ⟨stT_len _ _ _, stT_hits (fun v hv => (spanOk_le (q3 v hv)).2.2) _ (Nat.le_refl _)⟩
  have HBOX := Lib.hid hbox
  have HVAL := Lib.hid hv
  have hz3 : ((vs.length : Int) == 0) = false := beq_eq_false_iff_ne.2 (by omega)
  have hz4 : ¬ (vs.length : Int) = 0 := by omega
  clear hg hv q1 q3 q4 hub hbox
  go_enter Tryz.func7, Tryz.ntmps7
  go_upto_region 7 with (first | (go_at_call 11; (with_reducible refine (o_alive _).mono ?_); rintro z wA ⟨rfl, hbA⟩; refine Blk.thru (b := w.heap.size) (arr := ?_) (t := ?_) ?_ hbA ?_; rotate_left 2; (focus (exact blk)); intro r0; have r0c0 := r0.cell 0; have r0f0 := r0.free 0; have r0c1 := r0.cell 1; have r0f1 := r0.free 1; have r0l := r0.lt; simp at r0c0 r0c1) | (go_at_call 25; (with_reducible refine (r_GreatRows vs va vc rs ra rc _ (ht.later (by (exact kpt)))).mono ?_); rw [HG.out]; rintro z w1 ⟨rfl, hb1⟩; refine Blk.thru (b := w.heap.size) (arr := ?_) (t := ?_) ?_ hb1 ?_; rotate_left 2; (focus (exact blk)); intro r0; have r0c0 := r0.cell 0; have r0f0 := r0.free 0; have r0c1 := r0.cell 1; have r0f1 := r0.free 1; have r0l := r0.lt; simp at r0c0 r0c1) | (go_at_call 26; (with_reducible refine (f_CheckRows vs va vc rs ra rc _ (ht.later (by (exact kpt))) hvl5 hrl5 hcl5).mono ?_); rw [HCK.out]; rintro z w2 ⟨rfl, hb2⟩; refine Blk.thru (b := w.heap.size) (arr := ?_) (t := ?_) ?_ hb2 ?_; rotate_left 2; (focus (exact blk)); intro r0; have r0c0 := r0.cell 0; have r0f0 := r0.free 0; have r0c1 := r0.cell 1; have r0f1 := r0.free 1; have r0l := r0.lt; simp at r0c0 r0c1))
  refine at_world (S := fun V => Blk V w.heap.size #[.slice va vs.length vc, .slice ra rs.length rc] 68 ∧ Kept w V) ⟨by (exact blk), by (exact kpt)⟩ ?_
  clear r0c0 r0c1 r0f0 r0f1 r0l
  clear r0
  rintro V ⟨r0, hk⟩
  have r0c0 := r0.cell 0
  have r0f0 := r0.free 0
  have r0c1 := r0.cell 1
  have r0f1 := r0.free 1
  have r0l := r0.lt
  simp at r0c0 r0c1
  go_wp2
  go_loopw [6, 50] (fun s6 i wr => ∃ k : Nat, k ≤ vs.length ∧ i = .int .i64 k ∧ wr.ownsRow w.heap.size 3 1 s6 (stT vs us k).length ((stT vs us k).flatMap icell) ∧ Blk wr w.heap.size #[.slice va vs.length vc, .slice ra rs.length rc] 68 ∧ Kept w wr) (fun _ i _ => vs.length - (intOf i).toNat)
  case atStart => exact ⟨0, Nat.zero_le _, rfl, owns_nil (α := Int) (enc := icell), r0, hk⟩
  case round =>
    clear r0c0 r0c1 r0f0 r0f1 r0l
    clear r0 hk
    obtain ⟨k, hkl, rfl, hown, r0, hkk⟩ := hrel
    by_cases hlt : k < vs.length
    · have hku : k < us.length := by omega
      obtain ⟨bb, off, hva, hbb, g0, g1⟩ := Span.row (htv.later hkk (Nat.le_refl _)) k hlt
      obtain ⟨bu, ou, rfl, hbu, c0⟩ := ucell_row (hu.later hkk (Nat.le_refl _)) k hku
      have hsp := HSP.out _ (List.getElem_mem hlt)
      have hub1 := HU.out _ (List.getElem_mem hku)
      have HST := Lib.hid (show stT vs us (k + 1) = stT vs us k ++ [insideP vs[k].lo vs[k].hi us[k]] by rw [stT, getD_at hlt, getD_at hku])
      have hlen : (stT vs us k).length ≤ 3 := by rw [stT_len]; omega
      obtain ⟨x, hx0⟩ : ∃ x, x = vs[k] := ⟨_, rfl⟩
      obtain ⟨u, hu0⟩ : ∃ x, x = us[k] := ⟨_, rfl⟩
      rw [← hx0] at g0 g1 hsp HST
      rw [← hu0] at c0 hub1 HST
      clear hx0 hu0
      have HI := Lib.hid (fun W => o_inside x.lo x.hi u W (by omega) hsp.2.2 (by omega) hub1)
      obtain ⟨q, hq⟩ : ∃ q, q = insideP x.lo x.hi u := ⟨_, rfl⟩
      rw [← hq] at HI HST
      clear hq
      have j0 : (0 : Int) ≤ (k : Int) := by omega
      have j1 : (k : Int) < (vs.length : Int) := by omega
      have j2 : (k : Int) < (us.length : Int) := by omega
      go_upto_region 10 with fail
      refine at_world (S := fun V => Blk V wr.heap.size #[.int .i64 x.lo, .int .i64 x.hi] 34 ∧ V.ownsRow w.heap.size 3 1 u6 (stT vs us k).length ((stT vs us k).flatMap icell) ∧ V.cell? ⟨bu, ou + k, none⟩ = some (.int .u16 u) ∧ Blk V w.heap.size #[.slice va vs.length vc, .slice ra rs.length rc] 68 ∧ Kept w V) ⟨by (exact blk), owns_keep hown (by (exact kpt)), (by (refine ((?_ : Kept wr _).cell (p := ⟨bu, ou + k, none⟩) hbu).trans c0; (exact kpt))), by (exact blk), by (exact kpt)⟩ ?_
      obtain ⟨nx, hnx⟩ : ∃ n, n = wr.heap.size := ⟨_, rfl⟩
      rw [← hnx]
      clear hva hnx hown hkk g0 g1 c0 r0
      rintro W2 ⟨r8, hown, c0, r0, hkq⟩
      have hzq := hkq.size
      have r8c0 := fun g : Later W2 => (r8.later g).cell 0
      have r8f0 := fun g : Later W2 => (r8.later g).free 0
      have r8c1 := fun g : Later W2 => (r8.later g).cell 1
      have r8f1 := fun g : Later W2 => (r8.later g).free 1
      have r8l := fun g : Later W2 => (r8.later g).lt
      simp at r8c0 r8c1
      have x0 := fun g : Later W2 => g.some c0
      refine later_mix [(true, 0), (false, 1), (false, 2), (false, 3), (false, 4), (false, 5), (false, 6)] 7 [8, 9] (by kernel_rfl) (by kernel_rfl) ?_
      simp only [List.filterMap_cons, List.filterMap_nil, List.getElem?_cons_zero, List.getElem?_cons_succ, Option.map_some]
      refine wpSteps_any _ rfl (fun w => rfl) ?_
      simp only [Act.put, List.setIfInBounds_toArray, List.set_cons_zero, List.set_cons_succ]
      repeat (refine wpSteps_quiet ?_; (first | go_big_quiet_skip | (go_big_quiet_want; go_big_quiet_op; first | go_big_quiet_on | (apply Exists.intro; refine ⟨fun g => ?_, ?_⟩; (focus (first | (go_at_call 21; with_reducible exact Later.call (HI.out _)))); go_big_quiet_on))); refine wpQuiet_nil ?_)
      refine wpSteps_nil ?_
      intro gg
      have hown1 := owns_keep hown gg.ok
      refine wpList_plain rfl fun K1 hK1 => ?_
      go_simp
      refine hK1 _ _ ?_
      (obtain ⟨i0, hi, hz0, hz1, hz2⟩ := info_parts infoI; refine wpList_append_own _ rfl _ _ 29 rfl w.heap.size 3 i0 (.int .i64 0) 1 8 Tryz.underlying29 hi hz0 hz1 hz2 rfl (by decide) _ _ _ rfl (hown1.alloc _) ⟨_, 0, none⟩ 1 1 [.int .i64 q] rfl rfl (cell_one rfl _ _) (fun x hx => by simp at hx; subst hx; rfl) (by unfold maxLen; omega) (by omega) (by have := gg.ok.size; simp only [World.size_alloc] at this ⊢; omega) ?_; intro v9 w9 hown9 hgrow9 hnil9; clear hi hz0 hz1 hz2)
      have hK9 : Kept w w9 := Kept.grown (Kept.alloc (Kept.drop hkq gg.ok) _) (hown1.alloc _) (Nat.le_refl _) hgrow9
      have hr9 := Blk.grown (Blk.alloc (r0.later gg) _) (hown1.alloc _) (by decide) hgrow9
      go_wp2
      refine NoPanic.normal ?_
      go_wp2
      go_roundw
      case rel => exact ⟨k + 1, by omega, by go_num, by rw [HST.out, List.flatMap_append, List.length_append]; exact hown9, hr9, hK9⟩
      case measure => simp [intOf]; omega
    · obtain rfl : vs.length = k := by omega
      have hlt' : ¬ (vs.length : Int) < (vs.length : Int) := by omega
      obtain ⟨a6, c6, rfl, hr6, h61, h62⟩ := owns_slcM (stT_len vs us vs.length) hown
      obtain ⟨st, hst0⟩ : ∃ s, s = stT vs us vs.length := ⟨_, rfl⟩
      have hst : st.length = vs.length := by rw [hst0]; exact stT_len _ _ _
      have hbox := HBOX.out
      rw [← hst0] at hr6 hbox
      have hh : hits vs st = true := hbox.2
      have h62' := h62
      unfold maxLen at h62'
      obtain ⟨N, hN⟩ : ∃ n, cntR (rs.map RowM.r) st = n := ⟨_, rfl⟩
      have hNm : N = (matchL (tbOf vs rs) st).length := by rw [← hN]; exact cntR_all (d := tbOf vs rs)
      have HN := Lib.hid hN
      obtain ⟨DR, hDR⟩ : ∃ x, (decR (tbOf vs rs) st).1 = x := ⟨_, rfl⟩
      obtain ⟨DE, hDE⟩ : ∃ x, (decR (tbOf vs rs) st).2 = x := ⟨_, rfl⟩
      have hD : decR (tbOf vs rs) st = (DR, DE) := by rw [← hDR, ← hDE]
      have HD := Lib.hid hD
      have HDV := Lib.hid (fun (s : List Int) (hs : s.length = vs.length) (hh : hits vs s = true) => (show decR (tbOf vs rs) s = (match matchL (tbOf vs rs) s with | [] => (0, 6) | [i] => ((i : Int), 0) | _ => (0, 77)) by
        unfold decR
        first | (rw [if_pos HVAL.out, if_pos (show s.length = (tbOf vs rs).vars.length from hs), if_pos (show hits (tbOf vs rs).vars s = true from hh)]; done) | (rw [if_pos HVAL.out, if_pos (show s.length = (tbOf vs rs).vars.length from hs), if_pos (show hits (tbOf vs rs).vars s = true from hh)]; rfl)))
      have hmm := HM0.out
      rw [← hst0] at hmm
      have HMM := Lib.hid hmm
      clear hmm HM0
      clear hst0 hown hbox hN hDR hDE hD HBOX
      have HNM := Lib.hid hNm
      have hND := HDV.out st hst hh
      rw [HD.out] at hND
      have HND := Lib.hid hND
      have HHH := Lib.hid hh
      clear hNm hND hh
      have r0c0 := r0.cell 0
      have r0f0 := r0.free 0
      have r0c1 := r0.cell 1
      have r0f1 := r0.free 1
      have r0l := r0.lt
      simp at r0c0 r0c1
      go_upto_region 16 with (first | (go_at_call 27; (with_reducible refine (o_matchingN _ _ va vs.length vc rs rfl ra rc _ (htr.later (by (exact kpt)) (Nat.le_refl _)) (fun x hx => (HCO.out x hx).later (by (exact kpt)) (Nat.le_refl _)) hrl hrm HCL.out a6 c6 st hst (hr6.later (by (exact kpt)) (Nat.le_refl _)) h61 h62 (by omega) HE.out N HN.out).mono ?_); rintro z w3 ⟨rfl, hb3⟩; refine Blk.thru (b := w.heap.size) (arr := ?_) (t := ?_) ?_ hb3 ?_; rotate_left 2; (focus (exact blk)); intro r0; have r0c0 := r0.cell 0; have r0f0 := r0.free 0; have r0c1 := r0.cell 1; have r0f1 := r0.free 1; have r0l := r0.lt; simp at r0c0 r0c1) | (go_at_call 28; (with_reducible refine (f_DecideN _ vs va vc rs ra rc _ (ht.later (by (exact kpt))) hvl5 hrl5 hcl5 a6 c6 st hst (hr6.later (by (exact kpt)) (Nat.le_refl _)) h61 h62 (by omega) DR DE HD.out).mono ?_); rintro z w4 ⟨rfl, hb4⟩; refine Blk.thru (b := w.heap.size) (arr := ?_) (t := ?_) ?_ hb4 ?_; rotate_left 2; (focus (exact blk)); intro r0; have r0c0 := r0.cell 0; have r0f0 := r0.free 0; have r0c1 := r0.cell 1; have r0f1 := r0.free 1; have r0l := r0.lt; simp at r0c0 r0c1) | (go_at_call 29; (with_reducible refine (f_Gap vs va vc rs ra rc _ (ht.later (by (exact kpt))) hvl5 hrl5 hcl5).mono ?_); rintro z w5 ⟨ag, cg, sg, Eg, hG, rfl, hrg, hcg, hmg, hb5⟩; refine Blk.thru (b := w.heap.size) (arr := ?_) (t := ?_) ?_ hb5 ?_; rotate_left 2; (focus (exact blk)); intro r0; have r0c0 := r0.cell 0; have r0f0 := r0.free 0; have r0c1 := r0.cell 1; have r0f1 := r0.free 1; have r0l := r0.lt; simp at r0c0 r0c1) | (go_at_call 30; (with_reducible refine (f_Twice vs va vc rs ra rc _ (ht.later (by (exact kpt))) hvl5 hrl5 hcl5).mono ?_); rintro z w6 ⟨at_, ct, s6, E6, i6, k6, hT, rfl, hrt, hct, hmt, hb6⟩; refine Blk.thru (b := w.heap.size) (arr := ?_) (t := ?_) ?_ hb6 ?_; rotate_left 2; (focus (exact blk)); intro r0; have r0c0 := r0.cell 0; have r0f0 := r0.free 0; have r0c1 := r0.cell 1; have r0f1 := r0.free 1; have r0l := r0.lt; simp at r0c0 r0c1))
      refine at_world (S := fun V => Blk V w.heap.size #[.slice va vs.length vc, .slice ra rs.length rc] 68 ∧ Row icell 1 V.heap.size V a6 st ∧ Row icell 1 V.heap.size V ag sg ∧ Row icell 1 V.heap.size V at_ s6 ∧ Kept w V) ⟨by (exact blk), hr6.later (by (exact kpt)) (Nat.le_refl _), hrg.later (by (exact kpt)) (Nat.le_refl _), hrt.later (by (exact kpt)) (Nat.le_refl _), by (exact kpt)⟩ ?_
      clear r0c0 r0c1 r0f0 r0f1 r0l
      clear r0 hr6 hrg hrt hb3 hb4 hb5 hb6 hkk
      rintro V ⟨r0, hr6, hrg, hrt, hk⟩
      have hmg' := hmg
      have hmt' := hmt
      unfold maxLen at hmg' hmt'
      rcases hG with ⟨h, _⟩ | ⟨_, rg, hfg, hEg, hsg⟩
      · rw [HVAL.out] at h; cases h
      rcases hT with ⟨h, _⟩ | ⟨_, rt, hft, hEt, hst6, hi6, hk6⟩
      · rw [HVAL.out] at h; cases h
      obtain ⟨L1, L2, L3, L4⟩ := complete_law (d := tbOf vs rs) (st := st) ⟨hst, HHH.out⟩ hfg hft
      clear hfg hft
      have r0c0 := r0.cell 0
      have r0f0 := r0.free 0
      have r0c1 := r0.cell 1
      have r0f1 := r0.free 1
      have r0l := r0.lt
      simp at r0c0 r0c1
      have HCNT := Lib.hid (fun (i : Nat) (h : i < rs.length) (s : List Int) (hh : hits rs[i].r.conds s = true) => (show cntR ([rs[i]].map RowM.r) s = 1 by simp [cntR, hh]))
      have hND := HND.out
      have hNM := HNM.out
      cases hml : matchL (tbOf vs rs) st with
      | nil =>
        rw [hml] at hND hNM
        obtain ⟨rfl, rfl⟩ : DR = 0 ∧ DE = 6 := by simpa using hND
        obtain rfl : N = 0 := hNM
        have h0 : (matchL (tbOf vs rs) st).length = 0 := by rw [hml]; rfl
        clear hND hml
        cases rg with
        | none =>
          exact absurd (L1 h0) (by simp)
        | some g =>
          cases rt with
          | none =>
            obtain rfl : Eg = 0 := hEg
            obtain rfl : sg = g := hsg
            obtain ⟨bg, mg⟩ := L3 _ rfl
            obtain ⟨g, hg9⟩ : ∃ g, g = sg := ⟨_, rfl⟩
            rw [← hg9] at bg mg hrg
            have hgl : g.length = vs.length := bg.1
            have hgl2 : sg.length = vs.length := by rw [← hg9]; exact hgl
            have HDG := Lib.hid (show decR (tbOf vs rs) g = (0, 6) by rw [HDV.out g hgl bg.2, mg])
            obtain rfl : E6 = 6 := hEt
            obtain rfl : s6 = [] := hst6
            obtain rfl : i6 = 0 := hi6
            obtain rfl : k6 = 0 := hk6
            obtain ⟨sx, e, _, hbef⟩ := L1 h0
            obtain rfl : sg = sx := Option.some.inj e
            have HBg := Lib.hid (show beforeB st g = false by cases hb : beforeB st g with | false => rfl | true => exact absurd (beforeB_iff.1 hb) (by rw [hg9]; exact hbef))
            clear L1 L2 L3 L4 hbef
            rw [hgl2] at hcg ⊢
            clear hgl2 hg9 mg bg
            go_wp2_with (first | (go_at_call 31; (with_reducible refine (o_before a6 ag c6 cg st g _ hst hgl _ (hr6.later (by (exact kpt)) (Nat.le_refl _)) (hrg.later (by (exact kpt)) (Nat.le_refl _)) h61 hcg h62 hmg).mono ?_); rw [HBg.out]; rintro z wg ⟨rfl, hbg⟩; refine Blk.thru (b := w.heap.size) (arr := ?_) (t := ?_) ?_ hbg ?_; rotate_left 2; (focus (exact blk)); intro r0; have r0c0 := r0.cell 0; have r0f0 := r0.free 0; have r0c1 := r0.cell 1; have r0f1 := r0.free 1; have r0l := r0.lt; simp at r0c0 r0c1) | (go_at_call 28; (with_reducible refine (f_DecideN _ vs va vc rs ra rc _ (ht.later (by (exact kpt))) hvl5 hrl5 hcl5 ag cg g hgl (hrg.later (by (exact kpt)) (Nat.le_refl _)) hcg hmg (by omega) 0 6 HDG.out).mono ?_); rintro z w7 ⟨rfl, hb7⟩; refine Blk.thru (b := w.heap.size) (arr := ?_) (t := ?_) ?_ hb7 ?_; rotate_left 2; (focus (exact blk)); intro r0; have r0c0 := r0.cell 0; have r0f0 := r0.free 0; have r0c1 := r0.cell 1; have r0f1 := r0.free 1; have r0l := r0.lt; simp at r0c0 r0c1))
            go_ret
            exact ⟨rfl, by (exact kpt)⟩
          | some t =>
            obtain rfl : Eg = 0 := hEg
            obtain rfl : sg = g := hsg
            obtain ⟨bg, mg⟩ := L3 _ rfl
            obtain ⟨g, hg9⟩ : ∃ g, g = sg := ⟨_, rfl⟩
            rw [← hg9] at bg mg hrg
            have hgl : g.length = vs.length := bg.1
            have hgl2 : sg.length = vs.length := by rw [← hg9]; exact hgl
            have HDG := Lib.hid (show decR (tbOf vs rs) g = (0, 6) by rw [HDV.out g hgl bg.2, mg])
            obtain rfl : E6 = 0 := hEt
            obtain rfl : s6 = t := hst6
            obtain ⟨bt, im, km, lm, mt⟩ := L4 _ rfl
            obtain ⟨t, ht9⟩ : ∃ t, t = s6 := ⟨_, rfl⟩
            rw [← ht9] at bt mt hrt hi6 hk6
            have htl : t.length = vs.length := bt.1
            have htl2 : s6.length = vs.length := by rw [← ht9]; exact htl
            have HDT := Lib.hid (show decR (tbOf vs rs) t = (0, 77) by rw [HDV.out t htl bt.2, mt])
            obtain ⟨w1, ⟨w2, w3⟩, ⟨w4, w5⟩, w6⟩ := match_two mt
            have e1 : i6 = (im : Int) := by rw [hi6]; simp [mt, natsI]
            have e2 : k6 = (km : Int) := by rw [hk6]; simp [mt, natsI]
            clear hi6 hk6
            subst e1 e2
            have hkr : km < rs.length := by rw [rows_len] at w4; exact w4
            have hir : im < rs.length := by omega
            have t1 : (0 : Int) ≤ (im : Int) := by omega
            have t2 : ¬ (km : Int) ≤ (im : Int) := by omega
            have t3 : (km : Int) < (rs.length : Int) := by omega
            have t4 : ¬ (rs.length : Int) ≤ (km : Int) := by omega
            have t5 : (im : Int) < (rs.length : Int) := by omega
            have t6 : (0 : Int) ≤ (km : Int) := by omega
            have t7 : ¬ (im : Int) < 0 := by omega
            have t8 : km ≤ rc := by omega
            obtain ⟨sx, e, _, hbef⟩ := L1 h0
            obtain rfl : sg = sx := Option.some.inj e
            have HBg := Lib.hid (show beforeB st g = false by cases hb : beforeB st g with | false => rfl | true => exact absurd (beforeB_iff.1 hb) (by rw [hg9]; exact hbef))
            clear L1 L2 L3 L4 hbef
            rw [hgl2] at hcg ⊢
            clear hgl2 hg9 mg bg
            rw [htl2] at hct ⊢
            clear htl2 ht9
            go_upto_region 36 with (first | (go_at_call 31; (with_reducible refine (o_before a6 ag c6 cg st g _ hst hgl _ (hr6.later (by (exact kpt)) (Nat.le_refl _)) (hrg.later (by (exact kpt)) (Nat.le_refl _)) h61 hcg h62 hmg).mono ?_); rw [HBg.out]; rintro z wg ⟨rfl, hbg⟩; refine Blk.thru (b := w.heap.size) (arr := ?_) (t := ?_) ?_ hbg ?_; rotate_left 2; (focus (exact blk)); intro r0; have r0c0 := r0.cell 0; have r0f0 := r0.free 0; have r0c1 := r0.cell 1; have r0f1 := r0.free 1; have r0l := r0.lt; simp at r0c0 r0c1) | (go_at_call 28; (with_reducible refine (f_DecideN _ vs va vc rs ra rc _ (ht.later (by (exact kpt))) hvl5 hrl5 hcl5 ag cg g hgl (hrg.later (by (exact kpt)) (Nat.le_refl _)) hcg hmg (by omega) 0 6 HDG.out).mono ?_); rintro z w7 ⟨rfl, hb7⟩; refine Blk.thru (b := w.heap.size) (arr := ?_) (t := ?_) ?_ hb7 ?_; rotate_left 2; (focus (exact blk)); intro r0; have r0c0 := r0.cell 0; have r0f0 := r0.free 0; have r0c1 := r0.cell 1; have r0f1 := r0.free 1; have r0l := r0.lt; simp at r0c0 r0c1) | (go_at_call 28; (with_reducible refine (f_DecideN _ vs va vc rs ra rc _ (ht.later (by (exact kpt))) hvl5 hrl5 hcl5 at_ ct t htl (hrt.later (by (exact kpt)) (Nat.le_refl _)) hct hmt (by omega) 0 77 HDT.out).mono ?_); rintro z w8 ⟨rfl, hb8⟩; refine Blk.thru (b := w.heap.size) (arr := ?_) (t := ?_) ?_ hb8 ?_; rotate_left 2; (focus (exact blk)); intro r0; have r0c0 := r0.cell 0; have r0f0 := r0.free 0; have r0c1 := r0.cell 1; have r0f1 := r0.free 1; have r0l := r0.lt; simp at r0c0 r0c1))
            obtain ⟨rb, ro, hra, hrb0, gi0, gi1⟩ := RowM.row htr im hir
            obtain ⟨rb2, ro2, hra2, _, gk0, gk1⟩ := RowM.row htr km hkr
            rw [hra] at hra2
            simp only [Option.some.injEq, Addr.mk.injEq, and_true] at hra2
            obtain ⟨rfl, rfl⟩ := hra2
            subst hra
            have HM2 := Lib.hid (show cntR ([rs[im], rs[km]].map RowM.r) t = 2 by
              have h1 := w3
              have h2 := w5
              simp only [tbOf, List.getElem_map] at h1 h2
              simp [cntR, h1, h2])
            have HM3 := Lib.hid (show cntR ((rs.take km).map RowM.r) t = 1 by
              have h := w6
              simp only [tbOf] at h
              rw [List.map_take]; exact h)
            have HCOX := Lib.hid (fun (x : RowM) (hx : x ∈ [rs[im], rs[km]]) => (show Row Span.cells 2 w.heap.size w x.ad x.r.conds by
              simp only [List.mem_cons, List.not_mem_nil, or_false] at hx
              rcases hx with rfl | rfl
              · exact HCO.out _ (List.getElem_mem hir)
              · exact HCO.out _ (List.getElem_mem hkr)))
            have HCLX := Lib.hid (fun (x : RowM) (hx : x ∈ [rs[im], rs[km]]) => (show x.r.conds.length ≤ x.cap ∧ x.cap ≤ maxLen by
              simp only [List.mem_cons, List.not_mem_nil, or_false] at hx
              rcases hx with rfl | rfl
              · exact HCL.out _ (List.getElem_mem hir)
              · exact HCL.out _ (List.getElem_mem hkr)))
            have HEX := Lib.hid (fun (x : RowM) (hx : x ∈ [rs[im], rs[km]]) => (show vs.length ≤ x.r.conds.length by
              simp only [List.mem_cons, List.not_mem_nil, or_false] at hx
              rcases hx with rfl | rfl
              · exact HE.out _ (List.getElem_mem hir)
              · exact HE.out _ (List.getElem_mem hkr)))
            have hkl : (rs.take km).length = km := by rw [List.length_take]; omega
            obtain ⟨Xi, hXi⟩ : ∃ x, x = rs[im] := ⟨_, rfl⟩
            obtain ⟨Xk, hXk⟩ : ∃ x, x = rs[km] := ⟨_, rfl⟩
            rw [← hXi] at gi0 gi1
            rw [← hXk] at gk0 gk1
            rw [← hXi, ← hXk] at HM2 HCOX HCLX HEX
            clear hXi hXk w1 w2 w3 w4 w5 w6 mt bt
            have HZ2 := Lib.hid (show ((cntR ([Xi, Xk].map RowM.r) t : Nat) : Int) = 2 by rw [HM2.out]; rfl)
            have HZ3 := Lib.hid (show ((cntR ((rs.take km).map RowM.r) t : Nat) : Int) = 1 by rw [HM3.out]; rfl)
            clear HM2 HM3
            refine at_world (S := fun V => Blk V w.heap.size #[.slice va vs.length vc, .slice (some ⟨rb, ro, none⟩) rs.length rc] 68 ∧ V.cell? ⟨rb, ro + im * 2, none⟩ = some (.slice Xi.ad Xi.r.conds.length Xi.cap) ∧ V.cell? ⟨rb, ro + im * 2 + 1, none⟩ = some (.int .i64 Xi.r.action) ∧ V.cell? ⟨rb, ro + km * 2, none⟩ = some (.slice Xk.ad Xk.r.conds.length Xk.cap) ∧ V.cell? ⟨rb, ro + km * 2 + 1, none⟩ = some (.int .i64 Xk.r.action) ∧ rb < V.heap.size ∧ Row icell 1 V.heap.size V at_ t ∧ Kept w V) ⟨by (exact blk), ?_, ?_, ?_, ?_, ?_, hrt.later (by (exact kpt)) (Nat.le_refl _), by (exact kpt)⟩ ?_
            · (refine ((?_ : Kept w _).cell (p := ⟨rb, ro + im * 2, none⟩) hrb0).trans gi0; (exact kpt))
            · (refine ((?_ : Kept w _).cell (p := ⟨rb, ro + im * 2 + 1, none⟩) hrb0).trans gi1; (exact kpt))
            · (refine ((?_ : Kept w _).cell (p := ⟨rb, ro + km * 2, none⟩) hrb0).trans gk0; (exact kpt))
            · (refine ((?_ : Kept w _).cell (p := ⟨rb, ro + km * 2 + 1, none⟩) hrb0).trans gk1; (exact kpt))
            · (refine Nat.lt_of_lt_of_le hrb0 (Kept.size ?_); (exact kpt))
            clear r0c0 r0c1 r0f0 r0f1 r0l
            clear r0 hrt gi0 gi1 gk0 gk1 hk hr6
            rintro X ⟨r0, gi0, gi1, gk0, gk1, hrb, hrt, hkX⟩
            refine held_walk (fun w' => Blk w' w.heap.size #[.slice va vs.length vc, .slice (some ⟨rb, ro, none⟩) rs.length rc] 68 ∧ Kept X w') [(true, 0), (true, 1), (true, 2), (true, 3), (true, 4), (true, 5), (true, 6), (true, 7), (true, 8), (true, 9), (true, 10), (true, 11), (true, 14), (false, 12), (true, 13), (false, 15), (true, 16), (true, 17), (true, 18), (true, 19), (true, 20), (true, 21), (true, 22), (true, 23), (true, 24), (false, 25), (true, 26), (true, 27), (false, 28)] 28 (by kernel_rfl) (by kernel_rfl) (fun c a d v w h => by cases d <;> exact h) ⟨r0.drew, (Below.refl _ _).drew⟩ ?_
            simp only [List.filterMap_cons, List.filterMap_nil, List.getElem?_cons_zero, List.getElem?_cons_succ, Option.map_some]
            iterate 13 ((first | (refine held_take ?_ ?_ (fun w' hS => ?_) ?_; rotate_left 1; (focus rfl); (focus (first | (go_simp; done) | (go_simp; with_reducible rfl) | (obtain ⟨S1, S2⟩ := hS; have q0 := S1.cell 0; have q1 := S1.cell 1; simp at q0 q1; have gi0' := (S2.cell (p := ⟨rb, ro + im * 2, none⟩) hrb).trans gi0; have gi1' := (S2.cell (p := ⟨rb, ro + im * 2 + 1, none⟩) hrb).trans gi1; have gk0' := (S2.cell (p := ⟨rb, ro + km * 2, none⟩) hrb).trans gk0; have gk1' := (S2.cell (p := ⟨rb, ro + km * 2 + 1, none⟩) hrb).trans gk1; first | (go_simp; done) | (go_simp; with_reducible rfl))))) | (refine held_pass ?_ ?_; (focus rfl))); simp only [Act.put, List.setIfInBounds_toArray, List.set_cons_zero, List.set_cons_succ])
            refine held_one ?_
            go_wp2
            refine held_on ⟨by (exact blk), by (exact kpt)⟩ ?_
            iterate 1 ((first | (refine held_take ?_ ?_ (fun w' hS => ?_) ?_; rotate_left 1; (focus rfl); (focus (first | (go_simp; done) | (go_simp; with_reducible rfl) | (obtain ⟨S1, S2⟩ := hS; have q0 := S1.cell 0; have q1 := S1.cell 1; simp at q0 q1; have gi0' := (S2.cell (p := ⟨rb, ro + im * 2, none⟩) hrb).trans gi0; have gi1' := (S2.cell (p := ⟨rb, ro + im * 2 + 1, none⟩) hrb).trans gi1; have gk0' := (S2.cell (p := ⟨rb, ro + km * 2, none⟩) hrb).trans gk0; have gk1' := (S2.cell (p := ⟨rb, ro + km * 2 + 1, none⟩) hrb).trans gk1; first | (go_simp; done) | (go_simp; with_reducible rfl))))) | (refine held_pass ?_ ?_; (focus rfl))); simp only [Act.put, List.setIfInBounds_toArray, List.set_cons_zero, List.set_cons_succ])
            refine held_one ?_
            go_wp2_with (go_at_call 27; (with_reducible refine (o_matchingZ _ 2 none 0 0 [Xi, Xk] rfl _ 2 _ (Row.block (arr := #[.slice Xi.ad Xi.r.conds.length Xi.cap, .int .i64 Xi.r.action, .slice Xk.ad Xk.r.conds.length Xk.cap, .int .i64 Xk.r.action]) (t := 80) (fun _ => rfl) ?_ rfl) (fun x hx => (HCOX.out x hx).later (by (exact kpt)) (Nat.le_refl _)) (Nat.le_refl _) (by simp [maxLen]) HCLX.out at_ ct t htl (hrt.later (by (exact kpt)) (Nat.le_refl _)) hct hmt (by omega) HEX.out 2 HZ2.out).mono ?_); (focus (exact blk)); rintro z wa ⟨rfl, hba⟩)
            refine held_on ⟨by (exact blk), by (exact kpt)⟩ ?_
            iterate 9 ((first | (refine held_take ?_ ?_ (fun w' hS => ?_) ?_; rotate_left 1; (focus rfl); (focus (first | (go_simp; done) | (go_simp; with_reducible rfl) | (obtain ⟨S1, S2⟩ := hS; have q0 := S1.cell 0; have q1 := S1.cell 1; simp at q0 q1; have gi0' := (S2.cell (p := ⟨rb, ro + im * 2, none⟩) hrb).trans gi0; have gi1' := (S2.cell (p := ⟨rb, ro + im * 2 + 1, none⟩) hrb).trans gi1; have gk0' := (S2.cell (p := ⟨rb, ro + km * 2, none⟩) hrb).trans gk0; have gk1' := (S2.cell (p := ⟨rb, ro + km * 2 + 1, none⟩) hrb).trans gk1; first | (go_simp; done) | (go_simp; with_reducible rfl))))) | (refine held_pass ?_ ?_; (focus rfl))); simp only [Act.put, List.setIfInBounds_toArray, List.set_cons_zero, List.set_cons_succ])
            refine held_one ?_
            go_wp2_with (go_at_call 27; (with_reducible refine (o_matchingZ _ km none 0 0 (rs.take km) hkl _ _ _ (row_take (htr.later (by (exact kpt)) (Nat.le_refl _)) km) (fun x hx => (HCO.out x (List.mem_of_mem_take hx)).later (by (exact kpt)) (Nat.le_refl _)) (by omega) hrm (fun x hx => HCL.out x (List.mem_of_mem_take hx)) at_ ct t htl (hrt.later (by (exact kpt)) (Nat.le_refl _)) hct hmt (by omega) (fun x hx => HE.out x (List.mem_of_mem_take hx)) 1 HZ3.out).mono ?_); rintro z wb ⟨rfl, hbb⟩)
            refine held_on ⟨by (exact blk), by (exact kpt)⟩ ?_
            iterate 2 ((first | (refine held_take ?_ ?_ (fun w' hS => ?_) ?_; rotate_left 1; (focus rfl); (focus (first | (go_simp; done) | (go_simp; with_reducible rfl) | (obtain ⟨S1, S2⟩ := hS; have q0 := S1.cell 0; have q1 := S1.cell 1; simp at q0 q1; have gi0' := (S2.cell (p := ⟨rb, ro + im * 2, none⟩) hrb).trans gi0; have gi1' := (S2.cell (p := ⟨rb, ro + im * 2 + 1, none⟩) hrb).trans gi1; have gk0' := (S2.cell (p := ⟨rb, ro + km * 2, none⟩) hrb).trans gk0; have gk1' := (S2.cell (p := ⟨rb, ro + km * 2 + 1, none⟩) hrb).trans gk1; first | (go_simp; done) | (go_simp; with_reducible rfl))))) | (refine held_pass ?_ ?_; (focus rfl))); simp only [Act.put, List.setIfInBounds_toArray, List.set_cons_zero, List.set_cons_succ])
            refine held_one ?_
            refine wpList_plain rfl fun K1 hK1 => ?_
            go_wp2
            (first | refine held_end ?_ | (refine onward_on ?_; first | refine held_nil ?_ | refine ⟨.inl trivial, held_nil ?_⟩ | refine ⟨.inl rfl, held_nil ?_⟩))
            go_wp2
            go_ret
            exact ⟨rfl, by (exact kpt)⟩
      | cons im0 l =>
        cases l with
        | nil =>
          rw [hml] at hND hNM
          obtain ⟨rfl, rfl⟩ : DR = (im0 : Int) ∧ DE = 0 := by simpa using hND
          obtain rfl : N = 1 := hNM
          obtain ⟨hil0, hih⟩ := match_one hml
          obtain ⟨ii, hii⟩ : ∃ n, n = im0 := ⟨_, rfl⟩
          have hil : ii < rs.length := by rw [rows_len] at hil0; omega
          have HM1 := Lib.hid (HCNT.out ii hil st (by have h := hih; simp only [tbOf, List.getElem_map] at h; subst hii; exact h))
          have u1 : (0 : Int) ≤ (ii : Int) := by omega
          have u2 : (ii : Int) < (rs.length : Int) := by omega
          have u3 : ¬ (rs.length : Int) ≤ (ii : Int) := by omega
          have u4 : ¬ (ii : Int) < 0 := by omega
          have u5 := i64_in (n := (ii : Int) + 1) (by omega)
          have h1 : (matchL (tbOf vs rs) st).length = 1 := by rw [hml]; rfl
          rw [← hii]
          clear hND hml hil0 hih hii
          exact absurd HMM.out (by omega)
        | cons i1 l =>
          rw [hml] at hND hNM
          obtain ⟨rfl, rfl⟩ : DR = 0 ∧ DE = 77 := by simpa using hND
          have h2 : 1 < (matchL (tbOf vs rs) st).length := by rw [hml]; simp
          have n0 : ((N : Int) == 0) = false := beq_eq_false_iff_ne.2 (by simp at hNM; omega)
          have n1 : ((N : Int) == 1) = false := beq_eq_false_iff_ne.2 (by simp at hNM; omega)
          clear hND hml hNM
          exact absurd HMM.out (by omega)

end Go.Proofs.YtacbkbilbmkjnaaGreat

/-
  MastComplete: each state has one decision: one rows fit
-/
namespace Go.Proofs.YtacbkbilbmkjnaaGreat
open Go.RowKit Bal Bal.Trim Bal.Mast
set_option linter.unusedVariables false
set_option linter.unusedSimpArgs false
set_option maxHeartbeats 4000000
set_option maxRecDepth 100000

theorem law_MastComplete_ok1 (vs : List Span) (va : Option Addr) (vc : Nat) (rs : List RowM) (ra : Option Addr) (rc : Nat) (w : World) (ht : TabAt ⟨vs, va, vc, rs, ra, rc⟩ w) (ba : Option Addr) (bc : Nat) (us : List Int) (hu : Row ucell 1 w.heap.size w ba us) (hul : us.length ≤ bc) (hum : bc ≤ maxLen) (hub : ∀ x ∈ us, 0 ≤ x ∧ x ≤ 65535) (hg : greatR (tbOf vs rs) = false) (hv : validB (tbOf vs rs) = true) (hs : ¬ us.length < vs.length) (hm : (matchL (tbOf vs rs) (stT vs us vs.length)).length = 1) : Calls Tryz.prog 7 #[.agg #[.slice va vs.length vc, .slice ra rs.length rc], .slice ba us.length bc] w fun z w' => z = .returned (.bool true) ∧ Kept w w' := by
  have HM0 := Lib.hid hm
  clear hm
  have hgr := hg
  unfold greatR at hgr
  simp only [Bool.or_eq_false_iff, Bool.and_eq_false_iff, decide_eq_false_iff_not, List.any_eq_false, decide_eq_true_eq] at hgr
  rw [rows_len, show (tbOf vs rs).vars = vs from rfl] at hgr
  have hvl5 : vs.length ≤ 1000000 := by omega
  have hrl5 : rs.length ≤ 1000000 := by omega
  have hcl5 : ∀ x ∈ rs, x.r.conds.length ≤ 1000000 := fun x hx => by have := hgr.2.1 x.r (mem_rowsT hx); omega
  clear hgr
  have HG := Lib.hid hg
  have HCK := Lib.hid (good_check hv)
  have hs1 : ¬ (us.length : Int) < (vs.length : Int) := by omega
  obtain ⟨q1, q2, q3, q4⟩ := valid_parts.1 hv
  have hn3 := inB_iff.1 q1
  rw [show (tbOf vs rs).vars = vs from rfl] at hn3 q3 q4
  rw [rows_len] at q2
  have htv : Row Span.cells 2 w.heap.size w va vs := ht.vars
  have htr : Row RowM.cells 2 w.heap.size w ra rs := ht.rows
  have HCO := Lib.hid (ht.conds)
  have HCL := Lib.hid (ht.cl)
  have hrl : rs.length ≤ rc := ht.rl
  have hrm : rc ≤ maxLen := ht.rm
  have hvm : vc ≤ maxLen := ht.vm
  have hrm' := hrm
  have hum' := hum
  have hvm' := hvm
  unfold maxLen at hrm' hum' hvm'
  have HE := Lib.hid (fun (x : RowM) (hx : x ∈ rs) => (show vs.length ≤ x.r.conds.length by rw [(q4 x.r (mem_rowsT hx)).1]; exact Nat.le_refl _))
  have HSP := Lib.hid (fun (v : Span) (hv : v ∈ vs) => spanOk_le (q3 v hv))
  have HU := Lib.hid hub
  have hbox : Box (tbOf vs rs) (stT vs us vs.length) := ⟨stT_len _ _ _, stT_hits (fun v hv => (spanOk_le (q3 v hv)).2.2) _ (Nat.le_refl _)⟩
  have HBOX := Lib.hid hbox
  have HVAL := Lib.hid hv
  have hz3 : ((vs.length : Int) == 0) = false := beq_eq_false_iff_ne.2 (by omega)
  have hz4 : ¬ (vs.length : Int) = 0 := by omega
  clear hg hv q1 q3 q4 hub hbox
  go_enter Tryz.func7, Tryz.ntmps7
  go_upto_region 7 with (first | (go_at_call 11; (with_reducible refine (o_alive _).mono ?_); rintro z wA ⟨rfl, hbA⟩; refine Blk.thru (b := w.heap.size) (arr := ?_) (t := ?_) ?_ hbA ?_; rotate_left 2; (focus (exact blk)); intro r0; have r0c0 := r0.cell 0; have r0f0 := r0.free 0; have r0c1 := r0.cell 1; have r0f1 := r0.free 1; have r0l := r0.lt; simp at r0c0 r0c1) | (go_at_call 25; (with_reducible refine (r_GreatRows vs va vc rs ra rc _ (ht.later (by (exact kpt)))).mono ?_); rw [HG.out]; rintro z w1 ⟨rfl, hb1⟩; refine Blk.thru (b := w.heap.size) (arr := ?_) (t := ?_) ?_ hb1 ?_; rotate_left 2; (focus (exact blk)); intro r0; have r0c0 := r0.cell 0; have r0f0 := r0.free 0; have r0c1 := r0.cell 1; have r0f1 := r0.free 1; have r0l := r0.lt; simp at r0c0 r0c1) | (go_at_call 26; (with_reducible refine (f_CheckRows vs va vc rs ra rc _ (ht.later (by (exact kpt))) hvl5 hrl5 hcl5).mono ?_); rw [HCK.out]; rintro z w2 ⟨rfl, hb2⟩; refine Blk.thru (b := w.heap.size) (arr := ?_) (t := ?_) ?_ hb2 ?_; rotate_left 2; (focus (exact blk)); intro r0; have r0c0 := r0.cell 0; have r0f0 := r0.free 0; have r0c1 := r0.cell 1; have r0f1 := r0.free 1; have r0l := r0.lt; simp at r0c0 r0c1))
  refine at_world (S := fun V => Blk V w.heap.size #[.slice va vs.length vc, .slice ra rs.length rc] 68 ∧ Kept w V) ⟨by (exact blk), by (exact kpt)⟩ ?_
  clear r0c0 r0c1 r0f0 r0f1 r0l
  clear r0
  rintro V ⟨r0, hk⟩
  have r0c0 := r0.cell 0
  have r0f0 := r0.free 0
  have r0c1 := r0.cell 1
  have r0f1 := r0.free 1
  have r0l := r0.lt
  simp at r0c0 r0c1
  go_wp2
  go_loopw [6, 50] (fun s6 i wr => ∃ k : Nat, k ≤ vs.length ∧ i = .int .i64 k ∧ wr.ownsRow w.heap.size 3 1 s6 (stT vs us k).length ((stT vs us k).flatMap icell) ∧ Blk wr w.heap.size #[.slice va vs.length vc, .slice ra rs.length rc] 68 ∧ Kept w wr) (fun _ i _ => vs.length - (intOf i).toNat)
  case atStart => exact ⟨0, Nat.zero_le _, rfl, owns_nil (α := Int) (enc := icell), r0, hk⟩
  case round =>
    clear r0c0 r0c1 r0f0 r0f1 r0l
    clear r0 hk
    obtain ⟨k, hkl, rfl, hown, r0, hkk⟩ := hrel
    by_cases hlt : k < vs.length
    · have hku : k < us.length := by omega
      obtain ⟨bb, off, hva, hbb, g0, g1⟩ := Span.row (htv.later hkk (Nat.le_refl _)) k hlt
      obtain ⟨bu, ou, rfl, hbu, c0⟩ := ucell_row (hu.later hkk (Nat.le_refl _)) k hku
      have hsp := HSP.out _ (List.getElem_mem hlt)
      have hub1 := HU.out _ (List.getElem_mem hku)
      have HST := Lib.hid (show stT vs us (k + 1) = stT vs us k ++ [insideP vs[k].lo vs[k].hi us[k]] by rw [stT, getD_at hlt, getD_at hku])
      have hlen : (stT vs us k).length ≤ 3 := by rw [stT_len]; omega
      obtain ⟨x, hx0⟩ : ∃ x, x = vs[k] := ⟨_, rfl⟩
      obtain ⟨u, hu0⟩ : ∃ x, x = us[k] := ⟨_, rfl⟩
      rw [← hx0] at g0 g1 hsp HST
      rw [← hu0] at c0 hub1 HST
      clear hx0 hu0
      have HI := Lib.hid (fun W => o_inside x.lo x.hi u W (by omega) hsp.2.2 (by omega) hub1)
      obtain ⟨q, hq⟩ : ∃ q, q = insideP x.lo x.hi u := ⟨_, rfl⟩
      rw [← hq] at HI HST
      clear hq
      have j0 : (0 : Int) ≤ (k : Int) := by omega
      have j1 : (k : Int) < (vs.length : Int) := by omega
      have j2 : (k : Int) < (us.length : Int) := by omega
      go_upto_region 10 with fail
      refine at_world (S := fun V => Blk V wr.heap.size #[.int .i64 x.lo, .int .i64 x.hi] 34 ∧ V.ownsRow w.heap.size 3 1 u6 (stT vs us k).length ((stT vs us k).flatMap icell) ∧ V.cell? ⟨bu, ou + k, none⟩ = some (.int .u16 u) ∧ Blk V w.heap.size #[.slice va vs.length vc, .slice ra rs.length rc] 68 ∧ Kept w V) ⟨by (exact blk), owns_keep hown (by (exact kpt)), (by (refine ((?_ : Kept wr _).cell (p := ⟨bu, ou + k, none⟩) hbu).trans c0; (exact kpt))), by (exact blk), by (exact kpt)⟩ ?_
      obtain ⟨nx, hnx⟩ : ∃ n, n = wr.heap.size := ⟨_, rfl⟩
      rw [← hnx]
      clear hva hnx hown hkk g0 g1 c0 r0
      rintro W2 ⟨r8, hown, c0, r0, hkq⟩
      have hzq := hkq.size
      have r8c0 := fun g : Later W2 => (r8.later g).cell 0
      have r8f0 := fun g : Later W2 => (r8.later g).free 0
      have r8c1 := fun g : Later W2 => (r8.later g).cell 1
      have r8f1 := fun g : Later W2 => (r8.later g).free 1
      have r8l := fun g : Later W2 => (r8.later g).lt
      simp at r8c0 r8c1
      have x0 := fun g : Later W2 => g.some c0
      refine later_mix [(true, 0), (false, 1), (false, 2), (false, 3), (false, 4), (false, 5), (false, 6)] 7 [8, 9] (by kernel_rfl) (by kernel_rfl) ?_
      simp only [List.filterMap_cons, List.filterMap_nil, List.getElem?_cons_zero, List.getElem?_cons_succ, Option.map_some]
      refine wpSteps_any _ rfl (fun w => rfl) ?_
      simp only [Act.put, List.setIfInBounds_toArray, List.set_cons_zero, List.set_cons_succ]
      repeat (refine wpSteps_quiet ?_; (first | go_big_quiet_skip | (go_big_quiet_want; go_big_quiet_op; first | go_big_quiet_on | (apply Exists.intro; refine ⟨fun g => ?_, ?_⟩; (focus (first | (go_at_call 21; with_reducible exact Later.call (HI.out _)))); go_big_quiet_on))); refine wpQuiet_nil ?_)
      refine wpSteps_nil ?_
      intro gg
      have hown1 := owns_keep hown gg.ok
      refine wpList_plain rfl fun K1 hK1 => ?_
      go_simp
      refine hK1 _ _ ?_
      (obtain ⟨i0, hi, hz0, hz1, hz2⟩ := info_parts infoI; refine wpList_append_own _ rfl _ _ 29 rfl w.heap.size 3 i0 (.int .i64 0) 1 8 Tryz.underlying29 hi hz0 hz1 hz2 rfl (by decide) _ _ _ rfl (hown1.alloc _) ⟨_, 0, none⟩ 1 1 [.int .i64 q] rfl rfl (cell_one rfl _ _) (fun x hx => by simp at hx; subst hx; rfl) (by unfold maxLen; omega) (by omega) (by have := gg.ok.size; simp only [World.size_alloc] at this ⊢; omega) ?_; intro v9 w9 hown9 hgrow9 hnil9; clear hi hz0 hz1 hz2)
      have hK9 : Kept w w9 := Kept.grown (Kept.alloc (Kept.drop hkq gg.ok) _) (hown1.alloc _) (Nat.le_refl _) hgrow9
      have hr9 := Blk.grown (Blk.alloc (r0.later gg) _) (hown1.alloc _) (by decide) hgrow9
      go_wp2
      refine NoPanic.normal ?_
      go_wp2
      go_roundw
      case rel => exact ⟨k + 1, by omega, by go_num, by rw [HST.out, List.flatMap_append, List.length_append]; exact hown9, hr9, hK9⟩
      case measure => simp [intOf]; omega
    · obtain rfl : vs.length = k := by omega
      have hlt' : ¬ (vs.length : Int) < (vs.length : Int) := by omega
      obtain ⟨a6, c6, rfl, hr6, h61, h62⟩ := owns_slcM (stT_len vs us vs.length) hown
      obtain ⟨st, hst0⟩ : ∃ s, s = stT vs us vs.length := ⟨_, rfl⟩
      have hst : st.length = vs.length := by rw [hst0]; exact stT_len _ _ _
      have hbox := HBOX.out
      rw [← hst0] at hr6 hbox
      have hh : hits vs st = true := hbox.2
      have h62' := h62
      unfold maxLen at h62'
      obtain ⟨N, hN⟩ : ∃ n, cntR (rs.map RowM.r) st = n := ⟨_, rfl⟩
      have hNm : N = (matchL (tbOf vs rs) st).length := by rw [← hN]; exact cntR_all (d := tbOf vs rs)
      have HN := Lib.hid hN
      obtain ⟨DR, hDR⟩ : ∃ x, (decR (tbOf vs rs) st).1 = x := ⟨_, rfl⟩
      obtain ⟨DE, hDE⟩ : ∃ x, (decR (tbOf vs rs) st).2 = x := ⟨_, rfl⟩
      have hD : decR (tbOf vs rs) st = (DR, DE) := by rw [← hDR, ← hDE]
      have HD := Lib.hid hD
      have HDV := Lib.hid (fun (s : List Int) (hs : s.length = vs.length) (hh : hits vs s = true) => (show decR (tbOf vs rs) s = (match matchL (tbOf vs rs) s with | [] => (0, 6) | [i] => ((i : Int), 0) | _ => (0, 77)) by
        unfold decR
        first | (rw [if_pos HVAL.out, if_pos (show s.length = (tbOf vs rs).vars.length from hs), if_pos (show hits (tbOf vs rs).vars s = true from hh)]; done) | (rw [if_pos HVAL.out, if_pos (show s.length = (tbOf vs rs).vars.length from hs), if_pos (show hits (tbOf vs rs).vars s = true from hh)]; rfl)))
      have hmm := HM0.out
      rw [← hst0] at hmm
      have HMM := Lib.hid hmm
      clear hmm HM0
      clear hst0 hown hbox hN hDR hDE hD HBOX
      have HNM := Lib.hid hNm
      have hND := HDV.out st hst hh
      rw [HD.out] at hND
      have HND := Lib.hid hND
      have HHH := Lib.hid hh
      clear hNm hND hh
      have r0c0 := r0.cell 0
      have r0f0 := r0.free 0
      have r0c1 := r0.cell 1
      have r0f1 := r0.free 1
      have r0l := r0.lt
      simp at r0c0 r0c1
      go_upto_region 16 with (first | (go_at_call 27; (with_reducible refine (o_matchingN _ _ va vs.length vc rs rfl ra rc _ (htr.later (by (exact kpt)) (Nat.le_refl _)) (fun x hx => (HCO.out x hx).later (by (exact kpt)) (Nat.le_refl _)) hrl hrm HCL.out a6 c6 st hst (hr6.later (by (exact kpt)) (Nat.le_refl _)) h61 h62 (by omega) HE.out N HN.out).mono ?_); rintro z w3 ⟨rfl, hb3⟩; refine Blk.thru (b := w.heap.size) (arr := ?_) (t := ?_) ?_ hb3 ?_; rotate_left 2; (focus (exact blk)); intro r0; have r0c0 := r0.cell 0; have r0f0 := r0.free 0; have r0c1 := r0.cell 1; have r0f1 := r0.free 1; have r0l := r0.lt; simp at r0c0 r0c1) | (go_at_call 28; (with_reducible refine (f_DecideN _ vs va vc rs ra rc _ (ht.later (by (exact kpt))) hvl5 hrl5 hcl5 a6 c6 st hst (hr6.later (by (exact kpt)) (Nat.le_refl _)) h61 h62 (by omega) DR DE HD.out).mono ?_); rintro z w4 ⟨rfl, hb4⟩; refine Blk.thru (b := w.heap.size) (arr := ?_) (t := ?_) ?_ hb4 ?_; rotate_left 2; (focus (exact blk)); intro r0; have r0c0 := r0.cell 0; have r0f0 := r0.free 0; have r0c1 := r0.cell 1; have r0f1 := r0.free 1; have r0l := r0.lt; simp at r0c0 r0c1) | (go_at_call 29; (with_reducible refine (f_Gap vs va vc rs ra rc _ (ht.later (by (exact kpt))) hvl5 hrl5 hcl5).mono ?_); rintro z w5 ⟨ag, cg, sg, Eg, hG, rfl, hrg, hcg, hmg, hb5⟩; refine Blk.thru (b := w.heap.size) (arr := ?_) (t := ?_) ?_ hb5 ?_; rotate_left 2; (focus (exact blk)); intro r0; have r0c0 := r0.cell 0; have r0f0 := r0.free 0; have r0c1 := r0.cell 1; have r0f1 := r0.free 1; have r0l := r0.lt; simp at r0c0 r0c1) | (go_at_call 30; (with_reducible refine (f_Twice vs va vc rs ra rc _ (ht.later (by (exact kpt))) hvl5 hrl5 hcl5).mono ?_); rintro z w6 ⟨at_, ct, s6, E6, i6, k6, hT, rfl, hrt, hct, hmt, hb6⟩; refine Blk.thru (b := w.heap.size) (arr := ?_) (t := ?_) ?_ hb6 ?_; rotate_left 2; (focus (exact blk)); intro r0; have r0c0 := r0.cell 0; have r0f0 := r0.free 0; have r0c1 := r0.cell 1; have r0f1 := r0.free 1; have r0l := r0.lt; simp at r0c0 r0c1))
      refine at_world (S := fun V => Blk V w.heap.size #[.slice va vs.length vc, .slice ra rs.length rc] 68 ∧ Row icell 1 V.heap.size V a6 st ∧ Row icell 1 V.heap.size V ag sg ∧ Row icell 1 V.heap.size V at_ s6 ∧ Kept w V) ⟨by (exact blk), hr6.later (by (exact kpt)) (Nat.le_refl _), hrg.later (by (exact kpt)) (Nat.le_refl _), hrt.later (by (exact kpt)) (Nat.le_refl _), by (exact kpt)⟩ ?_
      clear r0c0 r0c1 r0f0 r0f1 r0l
      clear r0 hr6 hrg hrt hb3 hb4 hb5 hb6 hkk
      rintro V ⟨r0, hr6, hrg, hrt, hk⟩
      have hmg' := hmg
      have hmt' := hmt
      unfold maxLen at hmg' hmt'
      rcases hG with ⟨h, _⟩ | ⟨_, rg, hfg, hEg, hsg⟩
      · rw [HVAL.out] at h; cases h
      rcases hT with ⟨h, _⟩ | ⟨_, rt, hft, hEt, hst6, hi6, hk6⟩
      · rw [HVAL.out] at h; cases h
      obtain ⟨L1, L2, L3, L4⟩ := complete_law (d := tbOf vs rs) (st := st) ⟨hst, HHH.out⟩ hfg hft
      clear hfg hft
      have r0c0 := r0.cell 0
      have r0f0 := r0.free 0
      have r0c1 := r0.cell 1
      have r0f1 := r0.free 1
      have r0l := r0.lt
      simp at r0c0 r0c1
      have HCNT := Lib.hid (fun (i : Nat) (h : i < rs.length) (s : List Int) (hh : hits rs[i].r.conds s = true) => (show cntR ([rs[i]].map RowM.r) s = 1 by simp [cntR, hh]))
      have hND := HND.out
      have hNM := HNM.out
      cases hml : matchL (tbOf vs rs) st with
      | nil =>
        rw [hml] at hND hNM
        obtain ⟨rfl, rfl⟩ : DR = 0 ∧ DE = 6 := by simpa using hND
        obtain rfl : N = 0 := hNM
        have h0 : (matchL (tbOf vs rs) st).length = 0 := by rw [hml]; rfl
        clear hND hml
        exact absurd HMM.out (by omega)
      | cons im0 l =>
        cases l with
        | nil =>
          rw [hml] at hND hNM
          obtain ⟨rfl, rfl⟩ : DR = (im0 : Int) ∧ DE = 0 := by simpa using hND
          obtain rfl : N = 1 := hNM
          obtain ⟨hil0, hih⟩ := match_one hml
          obtain ⟨ii, hii⟩ : ∃ n, n = im0 := ⟨_, rfl⟩
          have hil : ii < rs.length := by rw [rows_len] at hil0; omega
          have HM1 := Lib.hid (HCNT.out ii hil st (by have h := hih; simp only [tbOf, List.getElem_map] at h; subst hii; exact h))
          have u1 : (0 : Int) ≤ (ii : Int) := by omega
          have u2 : (ii : Int) < (rs.length : Int) := by omega
          have u3 : ¬ (rs.length : Int) ≤ (ii : Int) := by omega
          have u4 : ¬ (ii : Int) < 0 := by omega
          have u5 := i64_in (n := (ii : Int) + 1) (by omega)
          have h1 : (matchL (tbOf vs rs) st).length = 1 := by rw [hml]; rfl
          rw [← hii]
          clear hND hml hil0 hih hii
          cases rg with
          | none =>
            cases rt with
            | none =>
              obtain rfl : Eg = 6 := hEg
              obtain rfl : sg = [] := hsg
              obtain rfl : E6 = 6 := hEt
              obtain rfl : s6 = [] := hst6
              obtain rfl : i6 = 0 := hi6
              obtain rfl : k6 = 0 := hk6
              clear L1 L2 L3 L4
              go_wp2_with (first | (go_at_call 27; (with_reducible refine (o_matchingN vs.length 1 none 0 0 [rs[ii]] rfl _ (rc - ii) _ ((row_one hil htr).later (by (exact kpt)) (Nat.le_refl _)) (fun x hx => (HCO.out x (by simp only [List.mem_singleton] at hx; subst hx; exact List.getElem_mem hil)).later (by (exact kpt)) (Nat.le_refl _)) (by omega) (by unfold maxLen; omega) (fun x hx => HCL.out x (by simp only [List.mem_singleton] at hx; subst hx; exact List.getElem_mem hil)) a6 c6 st hst (hr6.later (by (exact kpt)) (Nat.le_refl _)) h61 h62 (by omega) (fun x hx => HE.out x (by simp only [List.mem_singleton] at hx; subst hx; exact List.getElem_mem hil)) 1 HM1.out).mono ?_); rintro z w9 ⟨rfl, hb9⟩; refine Blk.thru (b := w.heap.size) (arr := ?_) (t := ?_) ?_ hb9 ?_; rotate_left 2; (focus (exact blk)); intro r0; have r0c0 := r0.cell 0; have r0f0 := r0.free 0; have r0c1 := r0.cell 1; have r0f1 := r0.free 1; have r0l := r0.lt; simp at r0c0 r0c1))
              go_ret
              exact ⟨rfl, by (exact kpt)⟩
            | some t =>
              obtain rfl : Eg = 6 := hEg
              obtain rfl : sg = [] := hsg
              obtain rfl : E6 = 0 := hEt
              obtain rfl : s6 = t := hst6
              obtain ⟨bt, im, km, lm, mt⟩ := L4 _ rfl
              obtain ⟨t, ht9⟩ : ∃ t, t = s6 := ⟨_, rfl⟩
              rw [← ht9] at bt mt hrt hi6 hk6
              have htl : t.length = vs.length := bt.1
              have htl2 : s6.length = vs.length := by rw [← ht9]; exact htl
              have HDT := Lib.hid (show decR (tbOf vs rs) t = (0, 77) by rw [HDV.out t htl bt.2, mt])
              obtain ⟨w1, ⟨w2, w3⟩, ⟨w4, w5⟩, w6⟩ := match_two mt
              have e1 : i6 = (im : Int) := by rw [hi6]; simp [mt, natsI]
              have e2 : k6 = (km : Int) := by rw [hk6]; simp [mt, natsI]
              clear hi6 hk6
              subst e1 e2
              have hkr : km < rs.length := by rw [rows_len] at w4; exact w4
              have hir : im < rs.length := by omega
              have t1 : (0 : Int) ≤ (im : Int) := by omega
              have t2 : ¬ (km : Int) ≤ (im : Int) := by omega
              have t3 : (km : Int) < (rs.length : Int) := by omega
              have t4 : ¬ (rs.length : Int) ≤ (km : Int) := by omega
              have t5 : (im : Int) < (rs.length : Int) := by omega
              have t6 : (0 : Int) ≤ (km : Int) := by omega
              have t7 : ¬ (im : Int) < 0 := by omega
              have t8 : km ≤ rc := by omega
              clear L1 L2 L3 L4
              rw [htl2] at hct ⊢
              clear htl2 ht9
              go_upto_region 36 with (first | (go_at_call 27; (with_reducible refine (o_matchingN vs.length 1 none 0 0 [rs[ii]] rfl _ (rc - ii) _ ((row_one hil htr).later (by (exact kpt)) (Nat.le_refl _)) (fun x hx => (HCO.out x (by simp only [List.mem_singleton] at hx; subst hx; exact List.getElem_mem hil)).later (by (exact kpt)) (Nat.le_refl _)) (by omega) (by unfold maxLen; omega) (fun x hx => HCL.out x (by simp only [List.mem_singleton] at hx; subst hx; exact List.getElem_mem hil)) a6 c6 st hst (hr6.later (by (exact kpt)) (Nat.le_refl _)) h61 h62 (by omega) (fun x hx => HE.out x (by simp only [List.mem_singleton] at hx; subst hx; exact List.getElem_mem hil)) 1 HM1.out).mono ?_); rintro z w9 ⟨rfl, hb9⟩; refine Blk.thru (b := w.heap.size) (arr := ?_) (t := ?_) ?_ hb9 ?_; rotate_left 2; (focus (exact blk)); intro r0; have r0c0 := r0.cell 0; have r0f0 := r0.free 0; have r0c1 := r0.cell 1; have r0f1 := r0.free 1; have r0l := r0.lt; simp at r0c0 r0c1) | (go_at_call 28; (with_reducible refine (f_DecideN _ vs va vc rs ra rc _ (ht.later (by (exact kpt))) hvl5 hrl5 hcl5 at_ ct t htl (hrt.later (by (exact kpt)) (Nat.le_refl _)) hct hmt (by omega) 0 77 HDT.out).mono ?_); rintro z w8 ⟨rfl, hb8⟩; refine Blk.thru (b := w.heap.size) (arr := ?_) (t := ?_) ?_ hb8 ?_; rotate_left 2; (focus (exact blk)); intro r0; have r0c0 := r0.cell 0; have r0f0 := r0.free 0; have r0c1 := r0.cell 1; have r0f1 := r0.free 1; have r0l := r0.lt; simp at r0c0 r0c1))
              obtain ⟨rb, ro, hra, hrb0, gi0, gi1⟩ := RowM.row htr im hir
              obtain ⟨rb2, ro2, hra2, _, gk0, gk1⟩ := RowM.row htr km hkr
              rw [hra] at hra2
              simp only [Option.some.injEq, Addr.mk.injEq, and_true] at hra2
              obtain ⟨rfl, rfl⟩ := hra2
              subst hra
              have HM2 := Lib.hid (show cntR ([rs[im], rs[km]].map RowM.r) t = 2 by
                have h1 := w3
                have h2 := w5
                simp only [tbOf, List.getElem_map] at h1 h2
                simp [cntR, h1, h2])
              have HM3 := Lib.hid (show cntR ((rs.take km).map RowM.r) t = 1 by
                have h := w6
                simp only [tbOf] at h
                rw [List.map_take]; exact h)
              have HCOX := Lib.hid (fun (x : RowM) (hx : x ∈ [rs[im], rs[km]]) => (show Row Span.cells 2 w.heap.size w x.ad x.r.conds by
                simp only [List.mem_cons, List.not_mem_nil, or_false] at hx
                rcases hx with rfl | rfl
                · exact HCO.out _ (List.getElem_mem hir)
                · exact HCO.out _ (List.getElem_mem hkr)))
              have HCLX := Lib.hid (fun (x : RowM) (hx : x ∈ [rs[im], rs[km]]) => (show x.r.conds.length ≤ x.cap ∧ x.cap ≤ maxLen by
                simp only [List.mem_cons, List.not_mem_nil, or_false] at hx
                rcases hx with rfl | rfl
                · exact HCL.out _ (List.getElem_mem hir)
                · exact HCL.out _ (List.getElem_mem hkr)))
              have HEX := Lib.hid (fun (x : RowM) (hx : x ∈ [rs[im], rs[km]]) => (show vs.length ≤ x.r.conds.length by
                simp only [List.mem_cons, List.not_mem_nil, or_false] at hx
                rcases hx with rfl | rfl
                · exact HE.out _ (List.getElem_mem hir)
                · exact HE.out _ (List.getElem_mem hkr)))
              have hkl : (rs.take km).length = km := by rw [List.length_take]; omega
              obtain ⟨Xi, hXi⟩ : ∃ x, x = rs[im] := ⟨_, rfl⟩
              obtain ⟨Xk, hXk⟩ : ∃ x, x = rs[km] := ⟨_, rfl⟩
              rw [← hXi] at gi0 gi1
              rw [← hXk] at gk0 gk1
              rw [← hXi, ← hXk] at HM2 HCOX HCLX HEX
              clear hXi hXk w1 w2 w3 w4 w5 w6 mt bt
              have HZ2 := Lib.hid (show ((cntR ([Xi, Xk].map RowM.r) t : Nat) : Int) = 2 by rw [HM2.out]; rfl)
              have HZ3 := Lib.hid (show ((cntR ((rs.take km).map RowM.r) t : Nat) : Int) = 1 by rw [HM3.out]; rfl)
              clear HM2 HM3
              refine at_world (S := fun V => Blk V w.heap.size #[.slice va vs.length vc, .slice (some ⟨rb, ro, none⟩) rs.length rc] 68 ∧ V.cell? ⟨rb, ro + im * 2, none⟩ = some (.slice Xi.ad Xi.r.conds.length Xi.cap) ∧ V.cell? ⟨rb, ro + im * 2 + 1, none⟩ = some (.int .i64 Xi.r.action) ∧ V.cell? ⟨rb, ro + km * 2, none⟩ = some (.slice Xk.ad Xk.r.conds.length Xk.cap) ∧ V.cell? ⟨rb, ro + km * 2 + 1, none⟩ = some (.int .i64 Xk.r.action) ∧ rb < V.heap.size ∧ Row icell 1 V.heap.size V at_ t ∧ Kept w V) ⟨by (exact blk), ?_, ?_, ?_, ?_, ?_, hrt.later (by (exact kpt)) (Nat.le_refl _), by (exact kpt)⟩ ?_
              · (refine ((?_ : Kept w _).cell (p := ⟨rb, ro + im * 2, none⟩) hrb0).trans gi0; (exact kpt))
              · (refine ((?_ : Kept w _).cell (p := ⟨rb, ro + im * 2 + 1, none⟩) hrb0).trans gi1; (exact kpt))
              · (refine ((?_ : Kept w _).cell (p := ⟨rb, ro + km * 2, none⟩) hrb0).trans gk0; (exact kpt))
              · (refine ((?_ : Kept w _).cell (p := ⟨rb, ro + km * 2 + 1, none⟩) hrb0).trans gk1; (exact kpt))
              · (refine Nat.lt_of_lt_of_le hrb0 (Kept.size ?_); (exact kpt))
              clear r0c0 r0c1 r0f0 r0f1 r0l
              clear r0 hrt gi0 gi1 gk0 gk1 hk hr6
              rintro X ⟨r0, gi0, gi1, gk0, gk1, hrb, hrt, hkX⟩
              refine held_walk (fun w' => Blk w' w.heap.size #[.slice va vs.length vc, .slice (some ⟨rb, ro, none⟩) rs.length rc] 68 ∧ Kept X w') [(true, 0), (true, 1), (true, 2), (true, 3), (true, 4), (true, 5), (true, 6), (true, 7), (true, 8), (true, 9), (true, 10), (true, 11), (true, 14), (false, 12), (true, 13), (false, 15), (true, 16), (true, 17), (true, 18), (true, 19), (true, 20), (true, 21), (true, 22), (true, 23), (true, 24), (false, 25), (true, 26), (true, 27), (false, 28)] 28 (by kernel_rfl) (by kernel_rfl) (fun c a d v w h => by cases d <;> exact h) ⟨r0.drew, (Below.refl _ _).drew⟩ ?_
              simp only [List.filterMap_cons, List.filterMap_nil, List.getElem?_cons_zero, List.getElem?_cons_succ, Option.map_some]
              iterate 13 ((first | (refine held_take ?_ ?_ (fun w' hS => ?_) ?_; rotate_left 1; (focus rfl); (focus (first | (go_simp; done) | (go_simp; with_reducible rfl) | (obtain ⟨S1, S2⟩ := hS; have q0 := S1.cell 0; have q1 := S1.cell 1; simp at q0 q1; have gi0' := (S2.cell (p := ⟨rb, ro + im * 2, none⟩) hrb).trans gi0; have gi1' := (S2.cell (p := ⟨rb, ro + im * 2 + 1, none⟩) hrb).trans gi1; have gk0' := (S2.cell (p := ⟨rb, ro + km * 2, none⟩) hrb).trans gk0; have gk1' := (S2.cell (p := ⟨rb, ro + km * 2 + 1, none⟩) hrb).trans gk1; first | (go_simp; done) | (go_simp; with_reducible rfl))))) | (refine held_pass ?_ ?_; (focus rfl))); simp only [Act.put, List.setIfInBounds_toArray, List.set_cons_zero, List.set_cons_succ])
              refine held_one ?_
              go_wp2
              refine held_on ⟨by (exact blk), by (exact kpt)⟩ ?_
              iterate 1 ((first | (refine held_take ?_ ?_ (fun w' hS => ?_) ?_; rotate_left 1; (focus rfl); (focus (first | (go_simp; done) | (go_simp; with_reducible rfl) | (obtain ⟨S1, S2⟩ := hS; have q0 := S1.cell 0; have q1 := S1.cell 1; simp at q0 q1; have gi0' := (S2.cell (p := ⟨rb, ro + im * 2, none⟩) hrb).trans gi0; have gi1' := (S2.cell (p := ⟨rb, ro + im * 2 + 1, none⟩) hrb).trans gi1; have gk0' := (S2.cell (p := ⟨rb, ro + km * 2, none⟩) hrb).trans gk0; have gk1' := (S2.cell (p := ⟨rb, ro + km * 2 + 1, none⟩) hrb).trans gk1; first | (go_simp; done) | (go_simp; with_reducible rfl))))) | (refine held_pass ?_ ?_; (focus rfl))); simp only [Act.put, List.setIfInBounds_toArray, List.set_cons_zero, List.set_cons_succ])
              refine held_one ?_
              go_wp2_with (go_at_call 27; (with_reducible refine (o_matchingZ _ 2 none 0 0 [Xi, Xk] rfl _ 2 _ (Row.block (arr := #[.slice Xi.ad Xi.r.conds.length Xi.cap, .int .i64 Xi.r.action, .slice Xk.ad Xk.r.conds.length Xk.cap, .int .i64 Xk.r.action]) (t := 80) (fun _ => rfl) ?_ rfl) (fun x hx => (HCOX.out x hx).later (by (exact kpt)) (Nat.le_refl _)) (Nat.le_refl _) (by simp [maxLen]) HCLX.out at_ ct t htl (hrt.later (by (exact kpt)) (Nat.le_refl _)) hct hmt (by omega) HEX.out 2 HZ2.out).mono ?_); (focus (exact blk)); rintro z wa ⟨rfl, hba⟩)
              refine held_on ⟨by (exact blk), by (exact kpt)⟩ ?_
              iterate 9 ((first | (refine held_take ?_ ?_ (fun w' hS => ?_) ?_; rotate_left 1; (focus rfl); (focus (first | (go_simp; done) | (go_simp; with_reducible rfl) | (obtain ⟨S1, S2⟩ := hS; have q0 := S1.cell 0; have q1 := S1.cell 1; simp at q0 q1; have gi0' := (S2.cell (p := ⟨rb, ro + im * 2, none⟩) hrb).trans gi0; have gi1' := (S2.cell (p := ⟨rb, ro + im * 2 + 1, none⟩) hrb).trans gi1; have gk0' := (S2.cell (p := ⟨rb, ro + km * 2, none⟩) hrb).trans gk0; have gk1' := (S2.cell (p := ⟨rb, ro + km * 2 + 1, none⟩) hrb).trans gk1; first | (go_simp; done) | (go_simp; with_reducible rfl))))) | (refine held_pass ?_ ?_; (focus rfl))); simp only [Act.put, List.setIfInBounds_toArray, List.set_cons_zero, List.set_cons_succ])
              refine held_one ?_
              go_wp2_with (go_at_call 27; (with_reducible refine (o_matchingZ _ km none 0 0 (rs.take km) hkl _ _ _ (row_take (htr.later (by (exact kpt)) (Nat.le_refl _)) km) (fun x hx => (HCO.out x (List.mem_of_mem_take hx)).later (by (exact kpt)) (Nat.le_refl _)) (by omega) hrm (fun x hx => HCL.out x (List.mem_of_mem_take hx)) at_ ct t htl (hrt.later (by (exact kpt)) (Nat.le_refl _)) hct hmt (by omega) (fun x hx => HE.out x (List.mem_of_mem_take hx)) 1 HZ3.out).mono ?_); rintro z wb ⟨rfl, hbb⟩)
              refine held_on ⟨by (exact blk), by (exact kpt)⟩ ?_
              iterate 2 ((first | (refine held_take ?_ ?_ (fun w' hS => ?_) ?_; rotate_left 1; (focus rfl); (focus (first | (go_simp; done) | (go_simp; with_reducible rfl) | (obtain ⟨S1, S2⟩ := hS; have q0 := S1.cell 0; have q1 := S1.cell 1; simp at q0 q1; have gi0' := (S2.cell (p := ⟨rb, ro + im * 2, none⟩) hrb).trans gi0; have gi1' := (S2.cell (p := ⟨rb, ro + im * 2 + 1, none⟩) hrb).trans gi1; have gk0' := (S2.cell (p := ⟨rb, ro + km * 2, none⟩) hrb).trans gk0; have gk1' := (S2.cell (p := ⟨rb, ro + km * 2 + 1, none⟩) hrb).trans gk1; first | (go_simp; done) | (go_simp; with_reducible rfl))))) | (refine held_pass ?_ ?_; (focus rfl))); simp only [Act.put, List.setIfInBounds_toArray, List.set_cons_zero, List.set_cons_succ])
              refine held_one ?_
              refine wpList_plain rfl fun K1 hK1 => ?_
              go_wp2
              (first | refine held_end ?_ | (refine onward_on ?_; first | refine held_nil ?_ | refine ⟨.inl trivial, held_nil ?_⟩ | refine ⟨.inl rfl, held_nil ?_⟩))
              go_wp2
              go_ret
              exact ⟨rfl, by (exact kpt)⟩
          | some g =>
            cases rt with
            | none =>
              obtain rfl : Eg = 0 := hEg
              obtain rfl : sg = g := hsg
              obtain ⟨bg, mg⟩ := L3 _ rfl
              obtain ⟨g, hg9⟩ : ∃ g, g = sg := ⟨_, rfl⟩
              rw [← hg9] at bg mg hrg
              have hgl : g.length = vs.length := bg.1
              have hgl2 : sg.length = vs.length := by rw [← hg9]; exact hgl
              have HDG := Lib.hid (show decR (tbOf vs rs) g = (0, 6) by rw [HDV.out g hgl bg.2, mg])
              obtain rfl : E6 = 6 := hEt
              obtain rfl : s6 = [] := hst6
              obtain rfl : i6 = 0 := hi6
              obtain rfl : k6 = 0 := hk6
              clear L1 L2 L3 L4
              rw [hgl2] at hcg ⊢
              clear hgl2 hg9 mg bg
              go_wp2_with (first | (go_at_call 27; (with_reducible refine (o_matchingN vs.length 1 none 0 0 [rs[ii]] rfl _ (rc - ii) _ ((row_one hil htr).later (by (exact kpt)) (Nat.le_refl _)) (fun x hx => (HCO.out x (by simp only [List.mem_singleton] at hx; subst hx; exact List.getElem_mem hil)).later (by (exact kpt)) (Nat.le_refl _)) (by omega) (by unfold maxLen; omega) (fun x hx => HCL.out x (by simp only [List.mem_singleton] at hx; subst hx; exact List.getElem_mem hil)) a6 c6 st hst (hr6.later (by (exact kpt)) (Nat.le_refl _)) h61 h62 (by omega) (fun x hx => HE.out x (by simp only [List.mem_singleton] at hx; subst hx; exact List.getElem_mem hil)) 1 HM1.out).mono ?_); rintro z w9 ⟨rfl, hb9⟩; refine Blk.thru (b := w.heap.size) (arr := ?_) (t := ?_) ?_ hb9 ?_; rotate_left 2; (focus (exact blk)); intro r0; have r0c0 := r0.cell 0; have r0f0 := r0.free 0; have r0c1 := r0.cell 1; have r0f1 := r0.free 1; have r0l := r0.lt; simp at r0c0 r0c1) | (go_at_call 28; (with_reducible refine (f_DecideN _ vs va vc rs ra rc _ (ht.later (by (exact kpt))) hvl5 hrl5 hcl5 ag cg g hgl (hrg.later (by (exact kpt)) (Nat.le_refl _)) hcg hmg (by omega) 0 6 HDG.out).mono ?_); rintro z w7 ⟨rfl, hb7⟩; refine Blk.thru (b := w.heap.size) (arr := ?_) (t := ?_) ?_ hb7 ?_; rotate_left 2; (focus (exact blk)); intro r0; have r0c0 := r0.cell 0; have r0f0 := r0.free 0; have r0c1 := r0.cell 1; have r0f1 := r0.free 1; have r0l := r0.lt; simp at r0c0 r0c1))
              go_ret
              exact ⟨rfl, by (exact kpt)⟩
            | some t =>
              obtain rfl : Eg = 0 := hEg
              obtain rfl : sg = g := hsg
              obtain ⟨bg, mg⟩ := L3 _ rfl
              obtain ⟨g, hg9⟩ : ∃ g, g = sg := ⟨_, rfl⟩
              rw [← hg9] at bg mg hrg
              have hgl : g.length = vs.length := bg.1
              have hgl2 : sg.length = vs.length := by rw [← hg9]; exact hgl
              have HDG := Lib.hid (show decR (tbOf vs rs) g = (0, 6) by rw [HDV.out g hgl bg.2, mg])
              obtain rfl : E6 = 0 := hEt
              obtain rfl : s6 = t := hst6
              obtain ⟨bt, im, km, lm, mt⟩ := L4 _ rfl
              obtain ⟨t, ht9⟩ : ∃ t, t = s6 := ⟨_, rfl⟩
              rw [← ht9] at bt mt hrt hi6 hk6
              have htl : t.length = vs.length := bt.1
              have htl2 : s6.length = vs.length := by rw [← ht9]; exact htl
              have HDT := Lib.hid (show decR (tbOf vs rs) t = (0, 77) by rw [HDV.out t htl bt.2, mt])
              obtain ⟨w1, ⟨w2, w3⟩, ⟨w4, w5⟩, w6⟩ := match_two mt
              have e1 : i6 = (im : Int) := by rw [hi6]; simp [mt, natsI]
              have e2 : k6 = (km : Int) := by rw [hk6]; simp [mt, natsI]
              clear hi6 hk6
              subst e1 e2
              have hkr : km < rs.length := by rw [rows_len] at w4; exact w4
              have hir : im < rs.length := by omega
              have t1 : (0 : Int) ≤ (im : Int) := by omega
              have t2 : ¬ (km : Int) ≤ (im : Int) := by omega
              have t3 : (km : Int) < (rs.length : Int) := by omega
              have t4 : ¬ (rs.length : Int) ≤ (km : Int) := by omega
              have t5 : (im : Int) < (rs.length : Int) := by omega
              have t6 : (0 : Int) ≤ (km : Int) := by omega
              have t7 : ¬ (im : Int) < 0 := by omega
              have t8 : km ≤ rc := by omega
              clear L1 L2 L3 L4
              rw [hgl2] at hcg ⊢
              clear hgl2 hg9 mg bg
              rw [htl2] at hct ⊢
              clear htl2 ht9
              go_upto_region 36 with (first | (go_at_call 27; (with_reducible refine (o_matchingN vs.length 1 none 0 0 [rs[ii]] rfl _ (rc - ii) _ ((row_one hil htr).later (by (exact kpt)) (Nat.le_refl _)) (fun x hx => (HCO.out x (by simp only [List.mem_singleton] at hx; subst hx; exact List.getElem_mem hil)).later (by (exact kpt)) (Nat.le_refl _)) (by omega) (by unfold maxLen; omega) (fun x hx => HCL.out x (by simp only [List.mem_singleton] at hx; subst hx; exact List.getElem_mem hil)) a6 c6 st hst (hr6.later (by (exact kpt)) (Nat.le_refl _)) h61 h62 (by omega) (fun x hx => HE.out x (by simp only [List.mem_singleton] at hx; subst hx; exact List.getElem_mem hil)) 1 HM1.out).mono ?_); rintro z w9 ⟨rfl, hb9⟩; refine Blk.thru (b := w.heap.size) (arr := ?_) (t := ?_) ?_ hb9 ?_; rotate_left 2; (focus (exact blk)); intro r0; have r0c0 := r0.cell 0; have r0f0 := r0.free 0; have r0c1 := r0.cell 1; have r0f1 := r0.free 1; have r0l := r0.lt; simp at r0c0 r0c1) | (go_at_call 28; (with_reducible refine (f_DecideN _ vs va vc rs ra rc _ (ht.later (by (exact kpt))) hvl5 hrl5 hcl5 ag cg g hgl (hrg.later (by (exact kpt)) (Nat.le_refl _)) hcg hmg (by omega) 0 6 HDG.out).mono ?_); rintro z w7 ⟨rfl, hb7⟩; refine Blk.thru (b := w.heap.size) (arr := ?_) (t := ?_) ?_ hb7 ?_; rotate_left 2; (focus (exact blk)); intro r0; have r0c0 := r0.cell 0; have r0f0 := r0.free 0; have r0c1 := r0.cell 1; have r0f1 := r0.free 1; have r0l := r0.lt; simp at r0c0 r0c1) | (go_at_call 28; (with_reducible refine (f_DecideN _ vs va vc rs ra rc _ (ht.later (by (exact kpt))) hvl5 hrl5 hcl5 at_ ct t htl (hrt.later (by (exact kpt)) (Nat.le_refl _)) hct hmt (by omega) 0 77 HDT.out).mono ?_); rintro z w8 ⟨rfl, hb8⟩; refine Blk.thru (b := w.heap.size) (arr := ?_) (t := ?_) ?_ hb8 ?_; rotate_left 2; (focus (exact blk)); intro r0; have r0c0 := r0.cell 0; have r0f0 := r0.free 0; have r0c1 := r0.cell 1; have r0f1 := r0.free 1; have r0l := r0.lt; simp at r0c0 r0c1))
              obtain ⟨rb, ro, hra, hrb0, gi0, gi1⟩ := RowM.row htr im hir
              obtain ⟨rb2, ro2, hra2, _, gk0, gk1⟩ := RowM.row htr km hkr
              rw [hra] at hra2
              simp only [Option.some.injEq, Addr.mk.injEq, and_true] at hra2
              obtain ⟨rfl, rfl⟩ := hra2
              subst hra
              have HM2 := Lib.hid (show cntR ([rs[im], rs[km]].map RowM.r) t = 2 by
                have h1 := w3
                have h2 := w5
                simp only [tbOf, List.getElem_map] at h1 h2
                simp [cntR, h1, h2])
              have HM3 := Lib.hid (show cntR ((rs.take km).map RowM.r) t = 1 by
                have h := w6
                simp only [tbOf] at h
                rw [List.map_take]; exact h)
              have HCOX := Lib.hid (fun (x : RowM) (hx : x ∈ [rs[im], rs[km]]) => (show Row Span.cells 2 w.heap.size w x.ad x.r.conds by
                simp only [List.mem_cons, List.not_mem_nil, or_false] at hx
                rcases hx with rfl | rfl
                · exact HCO.out _ (List.getElem_mem hir)
                · exact HCO.out _ (List.getElem_mem hkr)))
              have HCLX := Lib.hid (fun (x : RowM) (hx : x ∈ [rs[im], rs[km]]) => (show x.r.conds.length ≤ x.cap ∧ x.cap ≤ maxLen by
                simp only [List.mem_cons, List.not_mem_nil, or_false] at hx
                rcases hx with rfl | rfl
                · exact HCL.out _ (List.getElem_mem hir)
                · exact HCL.out _ (List.getElem_mem hkr)))
              have HEX := Lib.hid (fun (x : RowM) (hx : x ∈ [rs[im], rs[km]]) => (show vs.length ≤ x.r.conds.length by
                simp only [List.mem_cons, List.not_mem_nil, or_false] at hx
                rcases hx with rfl | rfl
                · exact HE.out _ (List.getElem_mem hir)
                · exact HE.out _ (List.getElem_mem hkr)))
              have hkl : (rs.take km).length = km := by rw [List.length_take]; omega
              obtain ⟨Xi, hXi⟩ : ∃ x, x = rs[im] := ⟨_, rfl⟩
              obtain ⟨Xk, hXk⟩ : ∃ x, x = rs[km] := ⟨_, rfl⟩
              rw [← hXi] at gi0 gi1
              rw [← hXk] at gk0 gk1
              rw [← hXi, ← hXk] at HM2 HCOX HCLX HEX
              clear hXi hXk w1 w2 w3 w4 w5 w6 mt bt
              have HZ2 := Lib.hid (show ((cntR ([Xi, Xk].map RowM.r) t : Nat) : Int) = 2 by rw [HM2.out]; rfl)
              have HZ3 := Lib.hid (show ((cntR ((rs.take km).map RowM.r) t : Nat) : Int) = 1 by rw [HM3.out]; rfl)
              clear HM2 HM3
              refine at_world (S := fun V => Blk V w.heap.size #[.slice va vs.length vc, .slice (some ⟨rb, ro, none⟩) rs.length rc] 68 ∧ V.cell? ⟨rb, ro + im * 2, none⟩ = some (.slice Xi.ad Xi.r.conds.length Xi.cap) ∧ V.cell? ⟨rb, ro + im * 2 + 1, none⟩ = some (.int .i64 Xi.r.action) ∧ V.cell? ⟨rb, ro + km * 2, none⟩ = some (.slice Xk.ad Xk.r.conds.length Xk.cap) ∧ V.cell? ⟨rb, ro + km * 2 + 1, none⟩ = some (.int .i64 Xk.r.action) ∧ rb < V.heap.size ∧ Row icell 1 V.heap.size V at_ t ∧ Kept w V) ⟨by (exact blk), ?_, ?_, ?_, ?_, ?_, hrt.later (by (exact kpt)) (Nat.le_refl _), by (exact kpt)⟩ ?_
              · (refine ((?_ : Kept w _).cell (p := ⟨rb, ro + im * 2, none⟩) hrb0).trans gi0; (exact kpt))
              · (refine ((?_ : Kept w _).cell (p := ⟨rb, ro + im * 2 + 1, none⟩) hrb0).trans gi1; (exact kpt))
              · (refine ((?_ : Kept w _).cell (p := ⟨rb, ro + km * 2, none⟩) hrb0).trans gk0; (exact kpt))
              · (refine ((?_ : Kept w _).cell (p := ⟨rb, ro + km * 2 + 1, none⟩) hrb0).trans gk1; (exact kpt))
              · (refine Nat.lt_of_lt_of_le hrb0 (Kept.size ?_); (exact kpt))
              clear r0c0 r0c1 r0f0 r0f1 r0l
              clear r0 hrt gi0 gi1 gk0 gk1 hk hr6
              rintro X ⟨r0, gi0, gi1, gk0, gk1, hrb, hrt, hkX⟩
              refine held_walk (fun w' => Blk w' w.heap.size #[.slice va vs.length vc, .slice (some ⟨rb, ro, none⟩) rs.length rc] 68 ∧ Kept X w') [(true, 0), (true, 1), (true, 2), (true, 3), (true, 4), (true, 5), (true, 6), (true, 7), (true, 8), (true, 9), (true, 10), (true, 11), (true, 14), (false, 12), (true, 13), (false, 15), (true, 16), (true, 17), (true, 18), (true, 19), (true, 20), (true, 21), (true, 22), (true, 23), (true, 24), (false, 25), (true, 26), (true, 27), (false, 28)] 28 (by kernel_rfl) (by kernel_rfl) (fun c a d v w h => by cases d <;> exact h) ⟨r0.drew, (Below.refl _ _).drew⟩ ?_
              simp only [List.filterMap_cons, List.filterMap_nil, List.getElem?_cons_zero, List.getElem?_cons_succ, Option.map_some]
              iterate 13 ((first | (refine held_take ?_ ?_ (fun w' hS => ?_) ?_; rotate_left 1; (focus rfl); (focus (first | (go_simp; done) | (go_simp; with_reducible rfl) | (obtain ⟨S1, S2⟩ := hS; have q0 := S1.cell 0; have q1 := S1.cell 1; simp at q0 q1; have gi0' := (S2.cell (p := ⟨rb, ro + im * 2, none⟩) hrb).trans gi0; have gi1' := (S2.cell (p := ⟨rb, ro + im * 2 + 1, none⟩) hrb).trans gi1; have gk0' := (S2.cell (p := ⟨rb, ro + km * 2, none⟩) hrb).trans gk0; have gk1' := (S2.cell (p := ⟨rb, ro + km * 2 + 1, none⟩) hrb).trans gk1; first | (go_simp; done) | (go_simp; with_reducible rfl))))) | (refine held_pass ?_ ?_; (focus rfl))); simp only [Act.put, List.setIfInBounds_toArray, List.set_cons_zero, List.set_cons_succ])
              refine held_one ?_
              go_wp2
              refine held_on ⟨by (exact blk), by (exact kpt)⟩ ?_
              iterate 1 ((first | (refine held_take ?_ ?_ (fun w' hS => ?_) ?_; rotate_left 1; (focus rfl); (focus (first | (go_simp; done) | (go_simp; with_reducible rfl) | (obtain ⟨S1, S2⟩ := hS; have q0 := S1.cell 0; have q1 := S1.cell 1; simp at q0 q1; have gi0' := (S2.cell (p := ⟨rb, ro + im * 2, none⟩) hrb).trans gi0; have gi1' := (S2.cell (p := ⟨rb, ro + im * 2 + 1, none⟩) hrb).trans gi1; have gk0' := (S2.cell (p := ⟨rb, ro + km * 2, none⟩) hrb).trans gk0; have gk1' := (S2.cell (p := ⟨rb, ro + km * 2 + 1, none⟩) hrb).trans gk1; first | (go_simp; done) | (go_simp; with_reducible rfl))))) | (refine held_pass ?_ ?_; (focus rfl))); simp only [Act.put, List.setIfInBounds_toArray, List.set_cons_zero, List.set_cons_succ])
              refine held_one ?_
              go_wp2_with (go_at_call 27; (with_reducible refine (o_matchingZ _ 2 none 0 0 [Xi, Xk] rfl _ 2 _ (Row.block (arr := #[.slice Xi.ad Xi.r.conds.length Xi.cap, .int .i64 Xi.r.action, .slice Xk.ad Xk.r.conds.length Xk.cap, .int .i64 Xk.r.action]) (t := 80) (fun _ => rfl) ?_ rfl) (fun x hx => (HCOX.out x hx).later (by (exact kpt)) (Nat.le_refl _)) (Nat.le_refl _) (by simp [maxLen]) HCLX.out at_ ct t htl (hrt.later (by (exact kpt)) (Nat.le_refl _)) hct hmt (by omega) HEX.out 2 HZ2.out).mono ?_); (focus (exact blk)); rintro z wa ⟨rfl, hba⟩)
              refine held_on ⟨by (exact blk), by (exact kpt)⟩ ?_
              iterate 9 ((first | (refine held_take ?_ ?_ (fun w' hS => ?_) ?_; rotate_left 1; (focus rfl); (focus (first | (go_simp; done) | (go_simp; with_reducible rfl) | (obtain ⟨S1, S2⟩ := hS; have q0 := S1.cell 0; have q1 := S1.cell 1; simp at q0 q1; have gi0' := (S2.cell (p := ⟨rb, ro + im * 2, none⟩) hrb).trans gi0; have gi1' := (S2.cell (p := ⟨rb, ro + im * 2 + 1, none⟩) hrb).trans gi1; have gk0' := (S2.cell (p := ⟨rb, ro + km * 2, none⟩) hrb).trans gk0; have gk1' := (S2.cell (p := ⟨rb, ro + km * 2 + 1, none⟩) hrb).trans gk1; first | (go_simp; done) | (go_simp; with_reducible rfl))))) | (refine held_pass ?_ ?_; (focus rfl))); simp only [Act.put, List.setIfInBounds_toArray, List.set_cons_zero, List.set_cons_succ])
              refine held_one ?_
              go_wp2_with (go_at_call 27; (with_reducible refine (o_matchingZ _ km none 0 0 (rs.take km) hkl _ _ _ (row_take (htr.later (by (exact kpt)) (Nat.le_refl _)) km) (fun x hx => (HCO.out x (List.mem_of_mem_take hx)).later (by (exact kpt)) (Nat.le_refl _)) (by omega) hrm (fun x hx => HCL.out x (List.mem_of_mem_take hx)) at_ ct t htl (hrt.later (by (exact kpt)) (Nat.le_refl _)) hct hmt (by omega) (fun x hx => HE.out x (List.mem_of_mem_take hx)) 1 HZ3.out).mono ?_); rintro z wb ⟨rfl, hbb⟩)
              refine held_on ⟨by (exact blk), by (exact kpt)⟩ ?_
              iterate 2 ((first | (refine held_take ?_ ?_ (fun w' hS => ?_) ?_; rotate_left 1; (focus rfl); (focus (first | (go_simp; done) | (go_simp; with_reducible rfl) | (obtain ⟨S1, S2⟩ := hS; have q0 := S1.cell 0; have q1 := S1.cell 1; simp at q0 q1; have gi0' := (S2.cell (p := ⟨rb, ro + im * 2, none⟩) hrb).trans gi0; have gi1' := (S2.cell (p := ⟨rb, ro + im * 2 + 1, none⟩) hrb).trans gi1; have gk0' := (S2.cell (p := ⟨rb, ro + km * 2, none⟩) hrb).trans gk0; have gk1' := (S2.cell (p := ⟨rb, ro + km * 2 + 1, none⟩) hrb).trans gk1; first | (go_simp; done) | (go_simp; with_reducible rfl))))) | (refine held_pass ?_ ?_; (focus rfl))); simp only [Act.put, List.setIfInBounds_toArray, List.set_cons_zero, List.set_cons_succ])
              refine held_one ?_
              refine wpList_plain rfl fun K1 hK1 => ?_
              go_wp2
              (first | refine held_end ?_ | (refine onward_on ?_; first | refine held_nil ?_ | refine ⟨.inl trivial, held_nil ?_⟩ | refine ⟨.inl rfl, held_nil ?_⟩))
              go_wp2
              go_ret
              exact ⟨rfl, by (exact kpt)⟩
        | cons i1 l =>
          rw [hml] at hND hNM
          obtain ⟨rfl, rfl⟩ : DR = 0 ∧ DE = 77 := by simpa using hND
          have h2 : 1 < (matchL (tbOf vs rs) st).length := by rw [hml]; simp
          have n0 : ((N : Int) == 0) = false := beq_eq_false_iff_ne.2 (by simp at hNM; omega)
          have n1 : ((N : Int) == 1) = false := beq_eq_false_iff_ne.2 (by simp at hNM; omega)
          clear hND hml hNM
          exact absurd HMM.out (by omega)

end Go.Proofs.YtacbkbilbmkjnaaGreat

/-
  MastComplete: each state has one decision: two rows fit
-/
namespace Go.Proofs.YtacbkbilbmkjnaaGreat
open Go.RowKit Bal Bal.Trim Bal.Mast
set_option linter.unusedVariables false
set_option linter.unusedSimpArgs false
set_option maxHeartbeats 4000000
set_option maxRecDepth 100000

theorem law_MastComplete_ok2 (vs : List Span) (va : Option Addr) (vc : Nat) (rs : List RowM) (ra : Option Addr) (rc : Nat) (w : World) (ht : TabAt ⟨vs, va, vc, rs, ra, rc⟩ w) (ba : Option Addr) (bc : Nat) (us : List Int) (hu : Row ucell 1 w.heap.size w ba us) (hul : us.length ≤ bc) (hum : bc ≤ maxLen) (hub : ∀ x ∈ us, 0 ≤ x ∧ x ≤ 65535) (hg : greatR (tbOf vs rs) = false) (hv : validB (tbOf vs rs) = true) (hs : ¬ us.length < vs.length) (hm : 1 < (matchL (tbOf vs rs) (stT vs us vs.length)).length) : Calls Tryz.prog 7 #[.agg #[.slice va vs.length vc, .slice ra rs.length rc], .slice ba us.length bc] w fun z w' => z = .returned (.bool true) ∧ Kept w w' := by
  have HM0 := Lib.hid hm
  clear hm
  have hgr := hg
  unfold greatR at hgr
  simp only [Bool.or_eq_false_iff, Bool.and_eq_false_iff, decide_eq_false_iff_not, List.any_eq_false, decide_eq_true_eq] at hgr
  rw [rows_len, show (tbOf vs rs).vars = vs from rfl] at hgr
  have hvl5 : vs.length ≤ 1000000 := by omega
  have hrl5 : rs.length ≤ 1000000 := by omega
  have hcl5 : ∀ x ∈ rs, x.r.conds.length ≤ 1000000 := fun x hx => by have := hgr.2.1 x.r (mem_rowsT hx); omega
  clear hgr
  have HG := Lib.hid hg
  have HCK := Lib.hid (good_check hv)
  have hs1 : ¬ (us.length : Int) < (vs.length : Int) := by omega
  obtain ⟨q1, q2, q3, q4⟩ := valid_parts.1 hv
  have hn3 := inB_iff.1 q1
  rw [show (tbOf vs rs).vars = vs from rfl] at hn3 q3 q4
  rw [rows_len] at q2
  have htv : Row Span.cells 2 w.heap.size w va vs := ht.vars
  have htr : Row RowM.cells 2 w.heap.size w ra rs := ht.rows
  have HCO := Lib.hid (ht.conds)
  have HCL := Lib.hid (ht.cl)
  have hrl : rs.length ≤ rc := ht.rl
  have hrm : rc ≤ maxLen := ht.rm
  have hvm : vc ≤ maxLen := ht.vm
  have hrm' := hrm
  have hum' := hum
  have hvm' := hvm
  unfold maxLen at hrm' hum' hvm'
  have HE := Lib.hid (fun (x : RowM) (hx : x ∈ rs) => (show vs.length ≤ x.r.conds.length by rw [(q4 x.r (mem_rowsT hx)).1]; exact Nat.le_refl _))
  have HSP := Lib.hid (fun (v : Span) (hv : v ∈ vs) => spanOk_le (q3 v hv))
  have HU := Lib.hid hub
  have hbox : Box (tbOf vs rs) (stT vs us vs.length) := ⟨stT_len _ _ _, stT_hits (fun v hv => (spanOk_le (q3 v hv)).2.2) _ (Nat.le_refl _)⟩
  have HBOX := Lib.hid hbox
  have HVAL := Lib.hid hv
  have hz3 : ((vs.length : Int) == 0) = false := beq_eq_false_iff_ne.2 (by omega)
  have hz4 : ¬ (vs.length : Int) = 0 := by omega
  clear hg hv q1 q3 q4 hub hbox
  go_enter Tryz.func7, Tryz.ntmps7
  go_upto_region 7 with (first | (go_at_call 11; (with_reducible refine (o_alive _).mono ?_); rintro z wA ⟨rfl, hbA⟩; refine Blk.thru (b := w.heap.size) (arr := ?_) (t := ?_) ?_ hbA ?_; rotate_left 2; (focus (exact blk)); intro r0; have r0c0 := r0.cell 0; have r0f0 := r0.free 0; have r0c1 := r0.cell 1; have r0f1 := r0.free 1; have r0l := r0.lt; simp at r0c0 r0c1) | (go_at_call 25; (with_reducible refine (r_GreatRows vs va vc rs ra rc _ (ht.later (by (exact kpt)))).mono ?_); rw [HG.out]; rintro z w1 ⟨rfl, hb1⟩; refine Blk.thru (b := w.heap.size) (arr := ?_) (t := ?_) ?_ hb1 ?_; rotate_left 2; (focus (exact blk)); intro r0; have r0c0 := r0.cell 0; have r0f0 := r0.free 0; have r0c1 := r0.cell 1; have r0f1 := r0.free 1; have r0l := r0.lt; simp at r0c0 r0c1) | (go_at_call 26; (with_reducible refine (f_CheckRows vs va vc rs ra rc _ (ht.later (by (exact kpt))) hvl5 hrl5 hcl5).mono ?_); rw [HCK.out]; rintro z w2 ⟨rfl, hb2⟩; refine Blk.thru (b := w.heap.size) (arr := ?_) (t := ?_) ?_ hb2 ?_; rotate_left 2; (focus (exact blk)); intro r0; have r0c0 := r0.cell 0; have r0f0 := r0.free 0; have r0c1 := r0.cell 1; have r0f1 := r0.free 1; have r0l := r0.lt; simp at r0c0 r0c1))
  refine at_world (S := fun V => Blk V w.heap.size #[.slice va vs.length vc, .slice ra rs.length rc] 68 ∧ Kept w V) ⟨by (exact blk), by (exact kpt)⟩ ?_
  clear r0c0 r0c1 r0f0 r0f1 r0l
  clear r0
  rintro V ⟨r0, hk⟩
  have r0c0 := r0.cell 0
  have r0f0 := r0.free 0
  have r0c1 := r0.cell 1
  have r0f1 := r0.free 1
  have r0l := r0.lt
  simp at r0c0 r0c1
  go_wp2
  go_loopw [6, 50] (fun s6 i wr => ∃ k : Nat, k ≤ vs.length ∧ i = .int .i64 k ∧ wr.ownsRow w.heap.size 3 1 s6 (stT vs us k).length ((stT vs us k).flatMap icell) ∧ Blk wr w.heap.size #[.slice va vs.length vc, .slice ra rs.length rc] 68 ∧ Kept w wr) (fun _ i _ => vs.length - (intOf i).toNat)
  case atStart => exact ⟨0, Nat.zero_le _, rfl, owns_nil (α := Int) (enc := icell), r0, hk⟩
  case round =>
    clear r0c0 r0c1 r0f0 r0f1 r0l
    clear r0 hk
    obtain ⟨k, hkl, rfl, hown, r0, hkk⟩ := hrel
    by_cases hlt : k < vs.length
    · have hku : k < us.length := by omega
      obtain ⟨bb, off, hva, hbb, g0, g1⟩ := Span.row (htv.later hkk (Nat.le_refl _)) k hlt
      obtain ⟨bu, ou, rfl, hbu, c0⟩ := ucell_row (hu.later hkk (Nat.le_refl _)) k hku
      have hsp := HSP.out _ (List.getElem_mem hlt)
      have hub1 := HU.out _ (List.getElem_mem hku)
      have HST := Lib.hid (show stT vs us (k + 1) = stT vs us k ++ [insideP vs[k].lo vs[k].hi us[k]] by rw [stT, getD_at hlt, getD_at hku])
      have hlen : (stT vs us k).length ≤ 3 := by rw [stT_len]; omega
      obtain ⟨x, hx0⟩ : ∃ x, x = vs[k] := ⟨_, rfl⟩
      obtain ⟨u, hu0⟩ : ∃ x, x = us[k] := ⟨_, rfl⟩
      rw [← hx0] at g0 g1 hsp HST
      rw [← hu0] at c0 hub1 HST
      clear hx0 hu0
      have HI := Lib.hid (fun W => o_inside x.lo x.hi u W (by omega) hsp.2.2 (by omega) hub1)
      obtain ⟨q, hq⟩ : ∃ q, q = insideP x.lo x.hi u := ⟨_, rfl⟩
      rw [← hq] at HI HST
      clear hq
      have j0 : (0 : Int) ≤ (k : Int) := by omega
      have j1 : (k : Int) < (vs.length : Int) := by omega
      have j2 : (k : Int) < (us.length : Int) := by omega
      go_upto_region 10 with fail
      refine at_world (S := fun V => Blk V wr.heap.size #[.int .i64 x.lo, .int .i64 x.hi] 34 ∧ V.ownsRow w.heap.size 3 1 u6 (stT vs us k).length ((stT vs us k).flatMap icell) ∧ V.cell? ⟨bu, ou + k, none⟩ = some (.int .u16 u) ∧ Blk V w.heap.size #[.slice va vs.length vc, .slice ra rs.length rc] 68 ∧ Kept w V) ⟨by (exact blk), owns_keep hown (by (exact kpt)), (by (refine ((?_ : Kept wr _).cell (p := ⟨bu, ou + k, none⟩) hbu).trans c0; (exact kpt))), by (exact blk), by (exact kpt)⟩ ?_
      obtain ⟨nx, hnx⟩ : ∃ n, n = wr.heap.size := ⟨_, rfl⟩
      rw [← hnx]
      clear hva hnx hown hkk g0 g1 c0 r0
      rintro W2 ⟨r8, hown, c0, r0, hkq⟩
      have hzq := hkq.size
      have r8c0 := fun g : Later W2 => (r8.later g).cell 0
      have r8f0 := fun g : Later W2 => (r8.later g).free 0
      have r8c1 := fun g : Later W2 => (r8.later g).cell 1
      have r8f1 := fun g : Later W2 => (r8.later g).free 1
      have r8l := fun g : Later W2 => (r8.later g).lt
      simp at r8c0 r8c1
      have x0 := fun g : Later W2 => g.some c0
      refine later_mix [(true, 0), (false, 1), (false, 2), (false, 3), (false, 4), (false, 5), (false, 6)] 7 [8, 9] (by kernel_rfl) (by kernel_rfl) ?_
      simp only [List.filterMap_cons, List.filterMap_nil, List.getElem?_cons_zero, List.getElem?_cons_succ, Option.map_some]
      refine wpSteps_any _ rfl (fun w => rfl) ?_
      simp only [Act.put, List.setIfInBounds_toArray, List.set_cons_zero, List.set_cons_succ]
      repeat (refine wpSteps_quiet ?_; (first | go_big_quiet_skip | (go_big_quiet_want; go_big_quiet_op; first | go_big_quiet_on | (apply Exists.intro; refine ⟨fun g => ?_, ?_⟩; (focus (first | (go_at_call 21; with_reducible exact Later.call (HI.out _)))); go_big_quiet_on))); refine wpQuiet_nil ?_)
      refine wpSteps_nil ?_
      intro gg
      have hown1 := owns_keep hown gg.ok
      refine wpList_plain rfl fun K1 hK1 => ?_
      go_simp
      refine hK1 _ _ ?_
      (obtain ⟨i0, hi, hz0, hz1, hz2⟩ := info_parts infoI; refine wpList_append_own _ rfl _ _ 29 rfl w.heap.size 3 i0 (.int .i64 0) 1 8 Tryz.underlying29 hi hz0 hz1 hz2 rfl (by decide) _ _ _ rfl (hown1.alloc _) ⟨_, 0, none⟩ 1 1 [.int .i64 q] rfl rfl (cell_one rfl _ _) (fun x hx => by simp at hx; subst hx; rfl) (by unfold maxLen; omega) (by omega) (by have := gg.ok.size; simp only [World.size_alloc] at this ⊢; omega) ?_; intro v9 w9 hown9 hgrow9 hnil9; clear hi hz0 hz1 hz2)
      have hK9 : Kept w w9 := Kept.grown (Kept.alloc (Kept.drop hkq gg.ok) _) (hown1.alloc _) (Nat.le_refl _) hgrow9
      have hr9 := Blk.grown (Blk.alloc (r0.later gg) _) (hown1.alloc _) (by decide) hgrow9
      go_wp2
      refine NoPanic.normal ?_
      go_wp2
      go_roundw
      case rel => exact ⟨k + 1, by omega, by go_num, by rw [HST.out, List.flatMap_append, List.length_append]; exact hown9, hr9, hK9⟩
      case measure => simp [intOf]; omega
    · obtain rfl : vs.length = k := by omega
      have hlt' : ¬ (vs.length : Int) < (vs.length : Int) := by omega
      obtain ⟨a6, c6, rfl, hr6, h61, h62⟩ := owns_slcM (stT_len vs us vs.length) hown
      obtain ⟨st, hst0⟩ : ∃ s, s = stT vs us vs.length := ⟨_, rfl⟩
      have hst : st.length = vs.length := by rw [hst0]; exact stT_len _ _ _
      have hbox := HBOX.out
      rw [← hst0] at hr6 hbox
      have hh : hits vs st = true := hbox.2
      have h62' := h62
      unfold maxLen at h62'
      obtain ⟨N, hN⟩ : ∃ n, cntR (rs.map RowM.r) st = n := ⟨_, rfl⟩
      have hNm : N = (matchL (tbOf vs rs) st).length := by rw [← hN]; exact cntR_all (d := tbOf vs rs)
      have HN := Lib.hid hN
      obtain ⟨DR, hDR⟩ : ∃ x, (decR (tbOf vs rs) st).1 = x := ⟨_, rfl⟩
      obtain ⟨DE, hDE⟩ : ∃ x, (decR (tbOf vs rs) st).2 = x := ⟨_, rfl⟩
      have hD : decR (tbOf vs rs) st = (DR, DE) := by rw [← hDR, ← hDE]
      have HD := Lib.hid hD
      have HDV := Lib.hid (fun (s : List Int) (hs : s.length = vs.length) (hh : hits vs s = true) => (show decR (tbOf vs rs) s = (match matchL (tbOf vs rs) s with | [] => (0, 6) | [i] => ((i : Int), 0) | _ => (0, 77)) by
        unfold decR
        first | (rw [if_pos HVAL.out, if_pos (show s.length = (tbOf vs rs).vars.length from hs), if_pos (show hits (tbOf vs rs).vars s = true from hh)]; done) | (rw [if_pos HVAL.out, if_pos (show s.length = (tbOf vs rs).vars.length from hs), if_pos (show hits (tbOf vs rs).vars s = true from hh)]; rfl)))
      have hmm := HM0.out
      rw [← hst0] at hmm
      have HMM := Lib.hid hmm
      clear hmm HM0
      clear hst0 hown hbox hN hDR hDE hD HBOX
      have HNM := Lib.hid hNm
      have hND := HDV.out st hst hh
      rw [HD.out] at hND
      have HND := Lib.hid hND
      have HHH := Lib.hid hh
      clear hNm hND hh
      have r0c0 := r0.cell 0
      have r0f0 := r0.free 0
      have r0c1 := r0.cell 1
      have r0f1 := r0.free 1
      have r0l := r0.lt
      simp at r0c0 r0c1
      go_upto_region 16 with (first | (go_at_call 27; (with_reducible refine (o_matchingN _ _ va vs.length vc rs rfl ra rc _ (htr.later (by (exact kpt)) (Nat.le_refl _)) (fun x hx => (HCO.out x hx).later (by (exact kpt)) (Nat.le_refl _)) hrl hrm HCL.out a6 c6 st hst (hr6.later (by (exact kpt)) (Nat.le_refl _)) h61 h62 (by omega) HE.out N HN.out).mono ?_); rintro z w3 ⟨rfl, hb3⟩; refine Blk.thru (b := w.heap.size) (arr := ?_) (t := ?_) ?_ hb3 ?_; rotate_left 2; (focus (exact blk)); intro r0; have r0c0 := r0.cell 0; have r0f0 := r0.free 0; have r0c1 := r0.cell 1; have r0f1 := r0.free 1; have r0l := r0.lt; simp at r0c0 r0c1) | (go_at_call 28; (with_reducible refine (f_DecideN _ vs va vc rs ra rc _ (ht.later (by (exact kpt))) hvl5 hrl5 hcl5 a6 c6 st hst (hr6.later (by (exact kpt)) (Nat.le_refl _)) h61 h62 (by omega) DR DE HD.out).mono ?_); rintro z w4 ⟨rfl, hb4⟩; refine Blk.thru (b := w.heap.size) (arr := ?_) (t := ?_) ?_ hb4 ?_; rotate_left 2; (focus (exact blk)); intro r0; have r0c0 := r0.cell 0; have r0f0 := r0.free 0; have r0c1 := r0.cell 1; have r0f1 := r0.free 1; have r0l := r0.lt; simp at r0c0 r0c1) | (go_at_call 29; (with_reducible refine (f_Gap vs va vc rs ra rc _ (ht.later (by (exact kpt))) hvl5 hrl5 hcl5).mono ?_); rintro z w5 ⟨ag, cg, sg, Eg, hG, rfl, hrg, hcg, hmg, hb5⟩; refine Blk.thru (b := w.heap.size) (arr := ?_) (t := ?_) ?_ hb5 ?_; rotate_left 2; (focus (exact blk)); intro r0; have r0c0 := r0.cell 0; have r0f0 := r0.free 0; have r0c1 := r0.cell 1; have r0f1 := r0.free 1; have r0l := r0.lt; simp at r0c0 r0c1) | (go_at_call 30; (with_reducible refine (f_Twice vs va vc rs ra rc _ (ht.later (by (exact kpt))) hvl5 hrl5 hcl5).mono ?_); rintro z w6 ⟨at_, ct, s6, E6, i6, k6, hT, rfl, hrt, hct, hmt, hb6⟩; refine Blk.thru (b := w.heap.size) (arr := ?_) (t := ?_) ?_ hb6 ?_; rotate_left 2; (focus (exact blk)); intro r0; have r0c0 := r0.cell 0; have r0f0 := r0.free 0; have r0c1 := r0.cell 1; have r0f1 := r0.free 1; have r0l := r0.lt; simp at r0c0 r0c1))
      refine at_world (S := fun V => Blk V w.heap.size #[.slice va vs.length vc, .slice ra rs.length rc] 68 ∧ Row icell 1 V.heap.size V a6 st ∧ Row icell 1 V.heap.size V ag sg ∧ Row icell 1 V.heap.size V at_ s6 ∧ Kept w V) ⟨by (exact blk), hr6.later (by (exact kpt)) (Nat.le_refl _), hrg.later (by (exact kpt)) (Nat.le_refl _), hrt.later (by (exact kpt)) (Nat.le_refl _), by (exact kpt)⟩ ?_
      clear r0c0 r0c1 r0f0 r0f1 r0l
      clear r0 hr6 hrg hrt hb3 hb4 hb5 hb6 hkk
      rintro V ⟨r0, hr6, hrg, hrt, hk⟩
      have hmg' := hmg
      have hmt' := hmt
      unfold maxLen at hmg' hmt'
      rcases hG with ⟨h, _⟩ | ⟨_, rg, hfg, hEg, hsg⟩
      · rw [HVAL.out] at h; cases h
      rcases hT with ⟨h, _⟩ | ⟨_, rt, hft, hEt, hst6, hi6, hk6⟩
      · rw [HVAL.out] at h; cases h
      obtain ⟨L1, L2, L3, L4⟩ := complete_law (d := tbOf vs rs) (st := st) ⟨hst, HHH.out⟩ hfg hft
      clear hfg hft
      have r0c0 := r0.cell 0
      have r0f0 := r0.free 0
      have r0c1 := r0.cell 1
      have r0f1 := r0.free 1
      have r0l := r0.lt
      simp at r0c0 r0c1
      have HCNT := Lib.hid (fun (i : Nat) (h : i < rs.length) (s : List Int) (hh : hits rs[i].r.conds s = true) => (show cntR ([rs[i]].map RowM.r) s = 1 by simp [cntR, hh]))
      have hND := HND.out
      have hNM := HNM.out
      cases hml : matchL (tbOf vs rs) st with
      | nil =>
        rw [hml] at hND hNM
        obtain ⟨rfl, rfl⟩ : DR = 0 ∧ DE = 6 := by simpa using hND
        obtain rfl : N = 0 := hNM
        have h0 : (matchL (tbOf vs rs) st).length = 0 := by rw [hml]; rfl
        clear hND hml
        exact absurd HMM.out (by omega)
      | cons im0 l =>
        cases l with
        | nil =>
          rw [hml] at hND hNM
          obtain ⟨rfl, rfl⟩ : DR = (im0 : Int) ∧ DE = 0 := by simpa using hND
          obtain rfl : N = 1 := hNM
          obtain ⟨hil0, hih⟩ := match_one hml
          obtain ⟨ii, hii⟩ : ∃ n, n = im0 := ⟨_, rfl⟩
          have hil : ii < rs.length := by rw [rows_len] at hil0; omega
          have HM1 := Lib.hid (HCNT.out ii hil st (by have h := hih; simp only [tbOf, List.getElem_map] at h; subst hii; exact h))
          have u1 : (0 : Int) ≤ (ii : Int) := by omega
          have u2 : (ii : Int) < (rs.length : Int) := by omega
          have u3 : ¬ (rs.length : Int) ≤ (ii : Int) := by omega
          have u4 : ¬ (ii : Int) < 0 := by omega
          have u5 := i64_in (n := (ii : Int) + 1) (by omega)
          have h1 : (matchL (tbOf vs rs) st).length = 1 := by rw [hml]; rfl
          rw [← hii]
          clear hND hml hil0 hih hii
          exact absurd HMM.out (by omega)
        | cons i1 l =>
          rw [hml] at hND hNM
          obtain ⟨rfl, rfl⟩ : DR = 0 ∧ DE = 77 := by simpa using hND
          have h2 : 1 < (matchL (tbOf vs rs) st).length := by rw [hml]; simp
          have n0 : ((N : Int) == 0) = false := beq_eq_false_iff_ne.2 (by simp at hNM; omega)
          have n1 : ((N : Int) == 1) = false := beq_eq_false_iff_ne.2 (by simp at hNM; omega)
          clear hND hml hNM
          cases rg with
          | none =>
            cases rt with
            | none =>
              exact absurd (L2 h2) (by simp)
            | some t =>
              obtain rfl : Eg = 6 := hEg
              obtain rfl : sg = [] := hsg
              obtain rfl : E6 = 0 := hEt
              obtain rfl : s6 = t := hst6
              obtain ⟨bt, im, km, lm, mt⟩ := L4 _ rfl
              obtain ⟨t, ht9⟩ : ∃ t, t = s6 := ⟨_, rfl⟩
              rw [← ht9] at bt mt hrt hi6 hk6
              have htl : t.length = vs.length := bt.1
              have htl2 : s6.length = vs.length := by rw [← ht9]; exact htl
              have HDT := Lib.hid (show decR (tbOf vs rs) t = (0, 77) by rw [HDV.out t htl bt.2, mt])
              obtain ⟨w1, ⟨w2, w3⟩, ⟨w4, w5⟩, w6⟩ := match_two mt
              have e1 : i6 = (im : Int) := by rw [hi6]; simp [mt, natsI]
              have e2 : k6 = (km : Int) := by rw [hk6]; simp [mt, natsI]
              clear hi6 hk6
              subst e1 e2
              have hkr : km < rs.length := by rw [rows_len] at w4; exact w4
              have hir : im < rs.length := by omega
              have t1 : (0 : Int) ≤ (im : Int) := by omega
              have t2 : ¬ (km : Int) ≤ (im : Int) := by omega
              have t3 : (km : Int) < (rs.length : Int) := by omega
              have t4 : ¬ (rs.length : Int) ≤ (km : Int) := by omega
              have t5 : (im : Int) < (rs.length : Int) := by omega
              have t6 : (0 : Int) ≤ (km : Int) := by omega
              have t7 : ¬ (im : Int) < 0 := by omega
              have t8 : km ≤ rc := by omega
              obtain ⟨sx, e, _, hbef⟩ := L2 h2
              obtain rfl : s6 = sx := Option.some.inj e
              have HBt := Lib.hid (show beforeB st t = false by cases hb : beforeB st t with | false => rfl | true => exact absurd (beforeB_iff.1 hb) (by rw [ht9]; exact hbef))
              clear L1 L2 L3 L4 hbef
              rw [htl2] at hct ⊢
              clear htl2 ht9
              go_upto_region 36 with (first | (go_at_call 31; (with_reducible refine (o_before a6 at_ c6 ct st t _ hst htl _ (hr6.later (by (exact kpt)) (Nat.le_refl _)) (hrt.later (by (exact kpt)) (Nat.le_refl _)) h61 hct h62 hmt).mono ?_); rw [HBt.out]; rintro z wt ⟨rfl, hbt⟩; refine Blk.thru (b := w.heap.size) (arr := ?_) (t := ?_) ?_ hbt ?_; rotate_left 2; (focus (exact blk)); intro r0; have r0c0 := r0.cell 0; have r0f0 := r0.free 0; have r0c1 := r0.cell 1; have r0f1 := r0.free 1; have r0l := r0.lt; simp at r0c0 r0c1) | (go_at_call 28; (with_reducible refine (f_DecideN _ vs va vc rs ra rc _ (ht.later (by (exact kpt))) hvl5 hrl5 hcl5 at_ ct t htl (hrt.later (by (exact kpt)) (Nat.le_refl _)) hct hmt (by omega) 0 77 HDT.out).mono ?_); rintro z w8 ⟨rfl, hb8⟩; refine Blk.thru (b := w.heap.size) (arr := ?_) (t := ?_) ?_ hb8 ?_; rotate_left 2; (focus (exact blk)); intro r0; have r0c0 := r0.cell 0; have r0f0 := r0.free 0; have r0c1 := r0.cell 1; have r0f1 := r0.free 1; have r0l := r0.lt; simp at r0c0 r0c1))
              obtain ⟨rb, ro, hra, hrb0, gi0, gi1⟩ := RowM.row htr im hir
              obtain ⟨rb2, ro2, hra2, _, gk0, gk1⟩ := RowM.row htr km hkr
              rw [hra] at hra2
              simp only [Option.some.injEq, Addr.mk.injEq, and_true] at hra2
              obtain ⟨rfl, rfl⟩ := hra2
              subst hra
              have HM2 := Lib.hid (show cntR ([rs[im], rs[km]].map RowM.r) t = 2 by
                have h1 := w3
                have h2 := w5
                simp only [tbOf, List.getElem_map] at h1 h2
                simp [cntR, h1, h2])
              have HM3 := Lib.hid (show cntR ((rs.take km).map RowM.r) t = 1 by
                have h := w6
                simp only [tbOf] at h
                rw [List.map_take]; exact h)
              have HCOX := Lib.hid (fun (x : RowM) (hx : x ∈ [rs[im], rs[km]]) => (show Row Span.cells 2 w.heap.size w x.ad x.r.conds by
                simp only [List.mem_cons, List.not_mem_nil, or_false] at hx
                rcases hx with rfl | rfl
                · exact HCO.out _ (List.getElem_mem hir)
                · exact HCO.out _ (List.getElem_mem hkr)))
              have HCLX := Lib.hid (fun (x : RowM) (hx : x ∈ [rs[im], rs[km]]) => (show x.r.conds.length ≤ x.cap ∧ x.cap ≤ maxLen by
                simp only [List.mem_cons, List.not_mem_nil, or_false] at hx
                rcases hx with rfl | rfl
                · exact HCL.out _ (List.getElem_mem hir)
                · exact HCL.out _ (List.getElem_mem hkr)))
              have HEX := Lib.hid (fun (x : RowM) (hx : x ∈ [rs[im], rs[km]]) => (show vs.length ≤ x.r.conds.length by
                simp only [List.mem_cons, List.not_mem_nil, or_false] at hx
                rcases hx with rfl | rfl
                · exact HE.out _ (List.getElem_mem hir)
                · exact HE.out _ (List.getElem_mem hkr)))
              have hkl : (rs.take km).length = km := by rw [List.length_take]; omega
              obtain ⟨Xi, hXi⟩ : ∃ x, x = rs[im] := ⟨_, rfl⟩
              obtain ⟨Xk, hXk⟩ : ∃ x, x = rs[km] := ⟨_, rfl⟩
              rw [← hXi] at gi0 gi1
              rw [← hXk] at gk0 gk1
              rw [← hXi, ← hXk] at HM2 HCOX HCLX HEX
              clear hXi hXk w1 w2 w3 w4 w5 w6 mt bt
              have HZ2 := Lib.hid (show ((cntR ([Xi, Xk].map RowM.r) t : Nat) : Int) = 2 by rw [HM2.out]; rfl)
              have HZ3 := Lib.hid (show ((cntR ((rs.take km).map RowM.r) t : Nat) : Int) = 1 by rw [HM3.out]; rfl)
              clear HM2 HM3
              refine at_world (S := fun V => Blk V w.heap.size #[.slice va vs.length vc, .slice (some ⟨rb, ro, none⟩) rs.length rc] 68 ∧ V.cell? ⟨rb, ro + im * 2, none⟩ = some (.slice Xi.ad Xi.r.conds.length Xi.cap) ∧ V.cell? ⟨rb, ro + im * 2 + 1, none⟩ = some (.int .i64 Xi.r.action) ∧ V.cell? ⟨rb, ro + km * 2, none⟩ = some (.slice Xk.ad Xk.r.conds.length Xk.cap) ∧ V.cell? ⟨rb, ro + km * 2 + 1, none⟩ = some (.int .i64 Xk.r.action) ∧ rb < V.heap.size ∧ Row icell 1 V.heap.size V at_ t ∧ Kept w V) ⟨by (exact blk), ?_, ?_, ?_, ?_, ?_, hrt.later (by (exact kpt)) (Nat.le_refl _), by (exact kpt)⟩ ?_
              · (refine ((?_ : Kept w _).cell (p := ⟨rb, ro + im * 2, none⟩) hrb0).trans gi0; (exact kpt))
              · (refine ((?_ : Kept w _).cell (p := ⟨rb, ro + im * 2 + 1, none⟩) hrb0).trans gi1; (exact kpt))
              · (refine ((?_ : Kept w _).cell (p := ⟨rb, ro + km * 2, none⟩) hrb0).trans gk0; (exact kpt))
              · (refine ((?_ : Kept w _).cell (p := ⟨rb, ro + km * 2 + 1, none⟩) hrb0).trans gk1; (exact kpt))
              · (refine Nat.lt_of_lt_of_le hrb0 (Kept.size ?_); (exact kpt))
              clear r0c0 r0c1 r0f0 r0f1 r0l
              clear r0 hrt gi0 gi1 gk0 gk1 hk hr6
              rintro X ⟨r0, gi0, gi1, gk0, gk1, hrb, hrt, hkX⟩
              refine held_walk (fun w' => Blk w' w.heap.size #[.slice va vs.length vc, .slice (some ⟨rb, ro, none⟩) rs.length rc] 68 ∧ Kept X w') [(true, 0), (true, 1), (true, 2), (true, 3), (true, 4), (true, 5), (true, 6), (true, 7), (true, 8), (true, 9), (true, 10), (true, 11), (true, 14), (false, 12), (true, 13), (false, 15), (true, 16), (true, 17), (true, 18), (true, 19), (true, 20), (true, 21), (true, 22), (true, 23), (true, 24), (false, 25), (true, 26), (true, 27), (false, 28)] 28 (by kernel_rfl) (by kernel_rfl) (fun c a d v w h => by cases d <;> exact h) ⟨r0.drew, (Below.refl _ _).drew⟩ ?_
              simp only [List.filterMap_cons, List.filterMap_nil, List.getElem?_cons_zero, List.getElem?_cons_succ, Option.map_some]
              iterate 13 ((first | (refine held_take ?_ ?_ (fun w' hS => ?_) ?_; rotate_left 1; (focus rfl); (focus (first | (go_simp; done) | (go_simp; with_reducible rfl) | (obtain ⟨S1, S2⟩ := hS; have q0 := S1.cell 0; have q1 := S1.cell 1; simp at q0 q1; have gi0' := (S2.cell (p := ⟨rb, ro + im * 2, none⟩) hrb).trans gi0; have gi1' := (S2.cell (p := ⟨rb, ro + im * 2 + 1, none⟩) hrb).trans gi1; have gk0' := (S2.cell (p := ⟨rb, ro + km * 2, none⟩) hrb).trans gk0; have gk1' := (S2.cell (p := ⟨rb, ro + km * 2 + 1, none⟩) hrb).trans gk1; first | (go_simp; done) | (go_simp; with_reducible rfl))))) | (refine held_pass ?_ ?_; (focus rfl))); simp only [Act.put, List.setIfInBounds_toArray, List.set_cons_zero, List.set_cons_succ])
              refine held_one ?_
              go_wp2
              refine held_on ⟨by (exact blk), by (exact kpt)⟩ ?_
              iterate 1 ((first | (refine held_take ?_ ?_ (fun w' hS => ?_) ?_; rotate_left 1; (focus rfl); (focus (first | (go_simp; done) | (go_simp; with_reducible rfl) | (obtain ⟨S1, S2⟩ := hS; have q0 := S1.cell 0; have q1 := S1.cell 1; simp at q0 q1; have gi0' := (S2.cell (p := ⟨rb, ro + im * 2, none⟩) hrb).trans gi0; have gi1' := (S2.cell (p := ⟨rb, ro + im * 2 + 1, none⟩) hrb).trans gi1; have gk0' := (S2.cell (p := ⟨rb, ro + km * 2, none⟩) hrb).trans gk0; have gk1' := (S2.cell (p := ⟨rb, ro + km * 2 + 1, none⟩) hrb).trans gk1; first | (go_simp; done) | (go_simp; with_reducible rfl))))) | (refine held_pass ?_ ?_; (focus rfl))); simp only [Act.put, List.setIfInBounds_toArray, List.set_cons_zero, List.set_cons_succ])
              refine held_one ?_
              go_wp2_with (go_at_call 27; (with_reducible refine (o_matchingZ _ 2 none 0 0 [Xi, Xk] rfl _ 2 _ (Row.block (arr := #[.slice Xi.ad Xi.r.conds.length Xi.cap, .int .i64 Xi.r.action, .slice Xk.ad Xk.r.conds.length Xk.cap, .int .i64 Xk.r.action]) (t := 80) (fun _ => rfl) ?_ rfl) (fun x hx => (HCOX.out x hx).later (by (exact kpt)) (Nat.le_refl _)) (Nat.le_refl _) (by simp [maxLen]) HCLX.out at_ ct t htl (hrt.later (by (exact kpt)) (Nat.le_refl _)) hct hmt (by omega) HEX.out 2 HZ2.out).mono ?_); (focus (exact blk)); rintro z wa ⟨rfl, hba⟩)
              refine held_on ⟨by (exact blk), by (exact kpt)⟩ ?_
              iterate 9 ((first | (refine held_take ?_ ?_ (fun w' hS => ?_) ?_; rotate_left 1; (focus rfl); (focus (first | (go_simp; done) | (go_simp; with_reducible rfl) | (obtain ⟨S1, S2⟩ := hS; have q0 := S1.cell 0; have q1 := S1.cell 1; simp at q0 q1; have gi0' := (S2.cell (p := ⟨rb, ro + im * 2, none⟩) hrb).trans gi0; have gi1' := (S2.cell (p := ⟨rb, ro + im * 2 + 1, none⟩) hrb).trans gi1; have gk0' := (S2.cell (p := ⟨rb, ro + km * 2, none⟩) hrb).trans gk0; have gk1' := (S2.cell (p := ⟨rb, ro + km * 2 + 1, none⟩) hrb).trans gk1; first | (go_simp; done) | (go_simp; with_reducible rfl))))) | (refine held_pass ?_ ?_; (focus rfl))); simp only [Act.put, List.setIfInBounds_toArray, List.set_cons_zero, List.set_cons_succ])
              refine held_one ?_
              go_wp2_with (go_at_call 27; (with_reducible refine (o_matchingZ _ km none 0 0 (rs.take km) hkl _ _ _ (row_take (htr.later (by (exact kpt)) (Nat.le_refl _)) km) (fun x hx => (HCO.out x (List.mem_of_mem_take hx)).later (by (exact kpt)) (Nat.le_refl _)) (by omega) hrm (fun x hx => HCL.out x (List.mem_of_mem_take hx)) at_ ct t htl (hrt.later (by (exact kpt)) (Nat.le_refl _)) hct hmt (by omega) (fun x hx => HE.out x (List.mem_of_mem_take hx)) 1 HZ3.out).mono ?_); rintro z wb ⟨rfl, hbb⟩)
              refine held_on ⟨by (exact blk), by (exact kpt)⟩ ?_
              iterate 2 ((first | (refine held_take ?_ ?_ (fun w' hS => ?_) ?_; rotate_left 1; (focus rfl); (focus (first | (go_simp; done) | (go_simp; with_reducible rfl) | (obtain ⟨S1, S2⟩ := hS; have q0 := S1.cell 0; have q1 := S1.cell 1; simp at q0 q1; have gi0' := (S2.cell (p := ⟨rb, ro + im * 2, none⟩) hrb).trans gi0; have gi1' := (S2.cell (p := ⟨rb, ro + im * 2 + 1, none⟩) hrb).trans gi1; have gk0' := (S2.cell (p := ⟨rb, ro + km * 2, none⟩) hrb).trans gk0; have gk1' := (S2.cell (p := ⟨rb, ro + km * 2 + 1, none⟩) hrb).trans gk1; first | (go_simp; done) | (go_simp; with_reducible rfl))))) | (refine held_pass ?_ ?_; (focus rfl))); simp only [Act.put, List.setIfInBounds_toArray, List.set_cons_zero, List.set_cons_succ])
              refine held_one ?_
              refine wpList_plain rfl fun K1 hK1 => ?_
              go_wp2
              (first | refine held_end ?_ | (refine onward_on ?_; first | refine held_nil ?_ | refine ⟨.inl trivial, held_nil ?_⟩ | refine ⟨.inl rfl, held_nil ?_⟩))
              go_wp2
              go_ret
              exact ⟨rfl, by (exact kpt)⟩
          | some g =>
            cases rt with
            | none =>
              exact absurd (L2 h2) (by simp)
            | some t =>
              obtain rfl : Eg = 0 := hEg
              obtain rfl : sg = g := hsg
              obtain ⟨bg, mg⟩ := L3 _ rfl
              obtain ⟨g, hg9⟩ : ∃ g, g = sg := ⟨_, rfl⟩
              rw [← hg9] at bg mg hrg
              have hgl : g.length = vs.length := bg.1
              have hgl2 : sg.length = vs.length := by rw [← hg9]; exact hgl
              have HDG := Lib.hid (show decR (tbOf vs rs) g = (0, 6) by rw [HDV.out g hgl bg.2, mg])
              obtain rfl : E6 = 0 := hEt
              obtain rfl : s6 = t := hst6
              obtain ⟨bt, im, km, lm, mt⟩ := L4 _ rfl
              obtain ⟨t, ht9⟩ : ∃ t, t = s6 := ⟨_, rfl⟩
              rw [← ht9] at bt mt hrt hi6 hk6
              have htl : t.length = vs.length := bt.1
              have htl2 : s6.length = vs.length := by rw [← ht9]; exact htl
              have HDT := Lib.hid (show decR (tbOf vs rs) t = (0, 77) by rw [HDV.out t htl bt.2, mt])
              obtain ⟨w1, ⟨w2, w3⟩, ⟨w4, w5⟩, w6⟩ := match_two mt
              have e1 : i6 = (im : Int) := by rw [hi6]; simp [mt, natsI]
              have e2 : k6 = (km : Int) := by rw [hk6]; simp [mt, natsI]
              clear hi6 hk6
              subst e1 e2
              have hkr : km < rs.length := by rw [rows_len] at w4; exact w4
              have hir : im < rs.length := by omega
              have t1 : (0 : Int) ≤ (im : Int) := by omega
              have t2 : ¬ (km : Int) ≤ (im : Int) := by omega
              have t3 : (km : Int) < (rs.length : Int) := by omega
              have t4 : ¬ (rs.length : Int) ≤ (km : Int) := by omega
              have t5 : (im : Int) < (rs.length : Int) := by omega
              have t6 : (0 : Int) ≤ (km : Int) := by omega
              have t7 : ¬ (im : Int) < 0 := by omega
              have t8 : km ≤ rc := by omega
              obtain ⟨sx, e, _, hbef⟩ := L2 h2
              obtain rfl : s6 = sx := Option.some.inj e
              have HBt := Lib.hid (show beforeB st t = false by cases hb : beforeB st t with | false => rfl | true => exact absurd (beforeB_iff.1 hb) (by rw [ht9]; exact hbef))
              clear L1 L2 L3 L4 hbef
              rw [hgl2] at hcg ⊢
              clear hgl2 hg9 mg bg
              rw [htl2] at hct ⊢
              clear htl2 ht9
              go_upto_region 36 with (first | (go_at_call 31; (with_reducible refine (o_before a6 at_ c6 ct st t _ hst htl _ (hr6.later (by (exact kpt)) (Nat.le_refl _)) (hrt.later (by (exact kpt)) (Nat.le_refl _)) h61 hct h62 hmt).mono ?_); rw [HBt.out]; rintro z wt ⟨rfl, hbt⟩; refine Blk.thru (b := w.heap.size) (arr := ?_) (t := ?_) ?_ hbt ?_; rotate_left 2; (focus (exact blk)); intro r0; have r0c0 := r0.cell 0; have r0f0 := r0.free 0; have r0c1 := r0.cell 1; have r0f1 := r0.free 1; have r0l := r0.lt; simp at r0c0 r0c1) | (go_at_call 28; (with_reducible refine (f_DecideN _ vs va vc rs ra rc _ (ht.later (by (exact kpt))) hvl5 hrl5 hcl5 ag cg g hgl (hrg.later (by (exact kpt)) (Nat.le_refl _)) hcg hmg (by omega) 0 6 HDG.out).mono ?_); rintro z w7 ⟨rfl, hb7⟩; refine Blk.thru (b := w.heap.size) (arr := ?_) (t := ?_) ?_ hb7 ?_; rotate_left 2; (focus (exact blk)); intro r0; have r0c0 := r0.cell 0; have r0f0 := r0.free 0; have r0c1 := r0.cell 1; have r0f1 := r0.free 1; have r0l := r0.lt; simp at r0c0 r0c1) | (go_at_call 28; (with_reducible refine (f_DecideN _ vs va vc rs ra rc _ (ht.later (by (exact kpt))) hvl5 hrl5 hcl5 at_ ct t htl (hrt.later (by (exact kpt)) (Nat.le_refl _)) hct hmt (by omega) 0 77 HDT.out).mono ?_); rintro z w8 ⟨rfl, hb8⟩; refine Blk.thru (b := w.heap.size) (arr := ?_) (t := ?_) ?_ hb8 ?_; rotate_left 2; (focus (exact blk)); intro r0; have r0c0 := r0.cell 0; have r0f0 := r0.free 0; have r0c1 := r0.cell 1; have r0f1 := r0.free 1; have r0l := r0.lt; simp at r0c0 r0c1))
              obtain ⟨rb, ro, hra, hrb0, gi0, gi1⟩ := RowM.row htr im hir
              obtain ⟨rb2, ro2, hra2, _, gk0, gk1⟩ := RowM.row htr km hkr
              rw [hra] at hra2
              simp only [Option.some.injEq, Addr.mk.injEq, and_true] at hra2
              obtain ⟨rfl, rfl⟩ := hra2
              subst hra
              have HM2 := Lib.hid (show cntR ([rs[im], rs[km]].map RowM.r) t = 2 by
                have h1 := w3
                have h2 := w5
                simp only [tbOf, List.getElem_map] at h1 h2
                simp [cntR, h1, h2])
              have HM3 := Lib.hid (show cntR ((rs.take km).map RowM.r) t = 1 by
                have h := w6
                simp only [tbOf] at h
                rw [List.map_take]; exact h)
              have HCOX := Lib.hid (fun (x : RowM) (hx : x ∈ [rs[im], rs[km]]) => (show Row Span.cells 2 w.heap.size w x.ad x.r.conds by
                simp only [List.mem_cons, List.not_mem_nil, or_false] at hx
                rcases hx with rfl | rfl
                · exact HCO.out _ (List.getElem_mem hir)
                · exact HCO.out _ (List.getElem_mem hkr)))
              have HCLX := Lib.hid (fun (x : RowM) (hx : x ∈ [rs[im], rs[km]]) => (show x.r.conds.length ≤ x.cap ∧ x.cap ≤ maxLen by
                simp only [List.mem_cons, List.not_mem_nil, or_false] at hx
                rcases hx with rfl | rfl
                · exact HCL.out _ (List.getElem_mem hir)
                · exact HCL.out _ (List.getElem_mem hkr)))
              have HEX := Lib.hid (fun (x : RowM) (hx : x ∈ [rs[im], rs[km]]) => (show vs.length ≤ x.r.conds.length by
                simp only [List.mem_cons, List.not_mem_nil, or_false] at hx
                rcases hx with rfl | rfl
                · exact HE.out _ (List.getElem_mem hir)
                · exact HE.out _ (List.getElem_mem hkr)))
              have hkl : (rs.take km).length = km := by rw [List.length_take]; omega
              obtain ⟨Xi, hXi⟩ : ∃ x, x = rs[im] := ⟨_, rfl⟩
              obtain ⟨Xk, hXk⟩ : ∃ x, x = rs[km] := ⟨_, rfl⟩
              rw [← hXi] at gi0 gi1
              rw [← hXk] at gk0 gk1
              rw [← hXi, ← hXk] at HM2 HCOX HCLX HEX
              clear hXi hXk w1 w2 w3 w4 w5 w6 mt bt
              have HZ2 := Lib.hid (show ((cntR ([Xi, Xk].map RowM.r) t : Nat) : Int) = 2 by rw [HM2.out]; rfl)
              have HZ3 := Lib.hid (show ((cntR ((rs.take km).map RowM.r) t : Nat) : Int) = 1 by rw [HM3.out]; rfl)
              clear HM2 HM3
              refine at_world (S := fun V => Blk V w.heap.size #[.slice va vs.length vc, .slice (some ⟨rb, ro, none⟩) rs.length rc] 68 ∧ V.cell? ⟨rb, ro + im * 2, none⟩ = some (.slice Xi.ad Xi.r.conds.length Xi.cap) ∧ V.cell? ⟨rb, ro + im * 2 + 1, none⟩ = some (.int .i64 Xi.r.action) ∧ V.cell? ⟨rb, ro + km * 2, none⟩ = some (.slice Xk.ad Xk.r.conds.length Xk.cap) ∧ V.cell? ⟨rb, ro + km * 2 + 1, none⟩ = some (.int .i64 Xk.r.action) ∧ rb < V.heap.size ∧ Row icell 1 V.heap.size V at_ t ∧ Kept w V) ⟨by (exact blk), ?_, ?_, ?_, ?_, ?_, hrt.later (by (exact kpt)) (Nat.le_refl _), by (exact kpt)⟩ ?_
              · (refine ((?_ : Kept w _).cell (p := ⟨rb, ro + im * 2, none⟩) hrb0).trans gi0; (exact kpt))
              · (refine ((?_ : Kept w _).cell (p := ⟨rb, ro + im * 2 + 1, none⟩) hrb0).trans gi1; (exact kpt))
              · (refine ((?_ : Kept w _).cell (p := ⟨rb, ro + km * 2, none⟩) hrb0).trans gk0; (exact kpt))
              · (refine ((?_ : Kept w _).cell (p := ⟨rb, ro + km * 2 + 1, none⟩) hrb0).trans gk1; (exact kpt))
              · (refine Nat.lt_of_lt_of_le hrb0 (Kept.size ?_); (exact kpt))
              clear r0c0 r0c1 r0f0 r0f1 r0l
              clear r0 hrt gi0 gi1 gk0 gk1 hk hr6
              rintro X ⟨r0, gi0, gi1, gk0, gk1, hrb, hrt, hkX⟩
              refine held_walk (fun w' => Blk w' w.heap.size #[.slice va vs.length vc, .slice (some ⟨rb, ro, none⟩) rs.length rc] 68 ∧ Kept X w') [(true, 0), (true, 1), (true, 2), (true, 3), (true, 4), (true, 5), (true, 6), (true, 7), (true, 8), (true, 9), (true, 10), (true, 11), (true, 14), (false, 12), (true, 13), (false, 15), (true, 16), (true, 17), (true, 18), (true, 19), (true, 20), (true, 21), (true, 22), (true, 23), (true, 24), (false, 25), (true, 26), (true, 27), (false, 28)] 28 (by kernel_rfl) (by kernel_rfl) (fun c a d v w h => by cases d <;> exact h) ⟨r0.drew, (Below.refl _ _).drew⟩ ?_
              simp only [List.filterMap_cons, List.filterMap_nil, List.getElem?_cons_zero, List.getElem?_cons_succ, Option.map_some]
              iterate 13 ((first | (refine held_take ?_ ?_ (fun w' hS => ?_) ?_; rotate_left 1; (focus rfl); (focus (first | (go_simp; done) | (go_simp; with_reducible rfl) | (obtain ⟨S1, S2⟩ := hS; have q0 := S1.cell 0; have q1 := S1.cell 1; simp at q0 q1; have gi0' := (S2.cell (p := ⟨rb, ro + im * 2, none⟩) hrb).trans gi0; have gi1' := (S2.cell (p := ⟨rb, ro + im * 2 + 1, none⟩) hrb).trans gi1; have gk0' := (S2.cell (p := ⟨rb, ro + km * 2, none⟩) hrb).trans gk0; have gk1' := (S2.cell (p := ⟨rb, ro + km * 2 + 1, none⟩) hrb).trans gk1; first | (go_simp; done) | (go_simp; with_reducible rfl))))) | (refine held_pass ?_ ?_; (focus rfl))); simp only [Act.put, List.setIfInBounds_toArray, List.set_cons_zero, List.set_cons_succ])
              refine held_one ?_
              go_wp2
              refine held_on ⟨by (exact blk), by (exact kpt)⟩ ?_
              iterate 1 ((first | (refine held_take ?_ ?_ (fun w' hS => ?_) ?_; rotate_left 1; (focus rfl); (focus (first | (go_simp; done) | (go_simp; with_reducible rfl) | (obtain ⟨S1, S2⟩ := hS; have q0 := S1.cell 0; have q1 := S1.cell 1; simp at q0 q1; have gi0' := (S2.cell (p := ⟨rb, ro + im * 2, none⟩) hrb).trans gi0; have gi1' := (S2.cell (p := ⟨rb, ro + im * 2 + 1, none⟩) hrb).trans gi1; have gk0' := (S2.cell (p := ⟨rb, ro + km * 2, none⟩) hrb).trans gk0; have gk1' := (S2.cell (p := ⟨rb, ro + km * 2 + 1, none⟩) hrb).trans gk1; first | (go_simp; done) | (go_simp; with_reducible rfl))))) | (refine held_pass ?_ ?_; (focus rfl))); simp only [Act.put, List.setIfInBounds_toArray, List.set_cons_zero, List.set_cons_succ])
              refine held_one ?_
              go_wp2_with (go_at_call 27; (with_reducible refine (o_matchingZ _ 2 none 0 0 [Xi, Xk] rfl _ 2 _ (Row.block (arr := #[.slice Xi.ad Xi.r.conds.length Xi.cap, .int .i64 Xi.r.action, .slice Xk.ad Xk.r.conds.length Xk.cap, .int .i64 Xk.r.action]) (t := 80) (fun _ => rfl) ?_ rfl) (fun x hx => (HCOX.out x hx).later (by (exact kpt)) (Nat.le_refl _)) (Nat.le_refl _) (by simp [maxLen]) HCLX.out at_ ct t htl (hrt.later (by (exact kpt)) (Nat.le_refl _)) hct hmt (by omega) HEX.out 2 HZ2.out).mono ?_); (focus (exact blk)); rintro z wa ⟨rfl, hba⟩)
              refine held_on ⟨by (exact blk), by (exact kpt)⟩ ?_
              iterate 9 ((first | (refine held_take ?_ ?_ (fun w' hS => ?_) ?_; rotate_left 1; (focus rfl); (focus (first | (go_simp; done) | (go_simp; with_reducible rfl) | (obtain ⟨S1, S2⟩ := hS; have q0 := S1.cell 0; have q1 := S1.cell 1; simp at q0 q1; have gi0' := (S2.cell (p := ⟨rb, ro + im * 2, none⟩) hrb).trans gi0; have gi1' := (S2.cell (p := ⟨rb, ro + im * 2 + 1, none⟩) hrb).trans gi1; have gk0' := (S2.cell (p := ⟨rb, ro + km * 2, none⟩) hrb).trans gk0; have gk1' := (S2.cell (p := ⟨rb, ro + km * 2 + 1, none⟩) hrb).trans gk1; first | (go_simp; done) | (go_simp; with_reducible rfl))))) | (refine held_pass ?_ ?_; (focus rfl))); simp only [Act.put, List.setIfInBounds_toArray, List.set_cons_zero, List.set_cons_succ])
              refine held_one ?_
              go_wp2_with (go_at_call 27; (with_reducible refine (o_matchingZ _ km none 0 0 (rs.take km) hkl _ _ _ (row_take (htr.later (by (exact kpt)) (Nat.le_refl _)) km) (fun x hx => (HCO.out x (List.mem_of_mem_take hx)).later (by (exact kpt)) (Nat.le_refl _)) (by omega) hrm (fun x hx => HCL.out x (List.mem_of_mem_take hx)) at_ ct t htl (hrt.later (by (exact kpt)) (Nat.le_refl _)) hct hmt (by omega) (fun x hx => HE.out x (List.mem_of_mem_take hx)) 1 HZ3.out).mono ?_); rintro z wb ⟨rfl, hbb⟩)
              refine held_on ⟨by (exact blk), by (exact kpt)⟩ ?_
              iterate 2 ((first | (refine held_take ?_ ?_ (fun w' hS => ?_) ?_; rotate_left 1; (focus rfl); (focus (first | (go_simp; done) | (go_simp; with_reducible rfl) | (obtain ⟨S1, S2⟩ := hS; have q0 := S1.cell 0; have q1 := S1.cell 1; simp at q0 q1; have gi0' := (S2.cell (p := ⟨rb, ro + im * 2, none⟩) hrb).trans gi0; have gi1' := (S2.cell (p := ⟨rb, ro + im * 2 + 1, none⟩) hrb).trans gi1; have gk0' := (S2.cell (p := ⟨rb, ro + km * 2, none⟩) hrb).trans gk0; have gk1' := (S2.cell (p := ⟨rb, ro + km * 2 + 1, none⟩) hrb).trans gk1; first | (go_simp; done) | (go_simp; with_reducible rfl))))) | (refine held_pass ?_ ?_; (focus rfl))); simp only [Act.put, List.setIfInBounds_toArray, List.set_cons_zero, List.set_cons_succ])
              refine held_one ?_
              refine wpList_plain rfl fun K1 hK1 => ?_
              go_wp2
              (first | refine held_end ?_ | (refine onward_on ?_; first | refine held_nil ?_ | refine ⟨.inl trivial, held_nil ?_⟩ | refine ⟨.inl rfl, held_nil ?_⟩))
              go_wp2
              go_ret
              exact ⟨rfl, by (exact kpt)⟩

end Go.Proofs.YtacbkbilbmkjnaaGreat

/-
  MastComplete: each state has one decision: joined
-/
namespace Go.Proofs.YtacbkbilbmkjnaaGreat
open Go.RowKit Bal Bal.Trim Bal.Mast
set_option linter.unusedVariables false
set_option linter.unusedSimpArgs false
set_option maxHeartbeats 4000000
set_option maxRecDepth 100000

theorem law_MastComplete (vs : List Span) (va : Option Addr) (vc : Nat) (rs : List RowM) (ra : Option Addr) (rc : Nat) (w : World) (ht : TabAt ⟨vs, va, vc, rs, ra, rc⟩ w) (ba : Option Addr) (bc : Nat) (us : List Int) (hu : Row ucell 1 w.heap.size w ba us) (hul : us.length ≤ bc) (hum : bc ≤ maxLen) (hub : ∀ x ∈ us, 0 ≤ x ∧ x ≤ 65535) : Calls Tryz.prog 7 #[.agg #[.slice va vs.length vc, .slice ra rs.length rc], .slice ba us.length bc] w fun z w' => z = .returned (.bool true) ∧ Kept w w' := by
  cases hg : greatR (tbOf vs rs)
  · cases hv : validB (tbOf vs rs)
    · exact law_MastComplete_bad vs va vc rs ra rc w ht ba bc us hu hul hum hub hg hv
    · by_cases hs : us.length < vs.length
      · exact law_MastComplete_short vs va vc rs ra rc w ht ba bc us hu hul hum hub hg hv hs
      · by_cases h0 : (matchL (tbOf vs rs) (stT vs us vs.length)).length = 0
        · exact law_MastComplete_ok0 vs va vc rs ra rc w ht ba bc us hu hul hum hub hg hv hs h0
        · by_cases h1 : (matchL (tbOf vs rs) (stT vs us vs.length)).length = 1
          · exact law_MastComplete_ok1 vs va vc rs ra rc w ht ba bc us hu hul hum hub hg hv hs h1
          · exact law_MastComplete_ok2 vs va vc rs ra rc w ht ba bc us hu hul hum hub hg hv hs (by omega)
  · exact law_MastComplete_great vs va vc rs ra rc w ht ba bc us hu hul hum hub hg

end Go.Proofs.YtacbkbilbmkjnaaGreat

/-
  MastComplete, the statement: for every input the call returns true and leaves the input alone.
-/
namespace Go.Proofs.YtacbkbilbmkjnaaGreat.mastComplete
open Go.ChangeShapes Go.WideShapes Go.ChangeAt Go.RowKit Bal Bal.Trim Bal.Mast
open Go.ChangeMaps (open_string shut_string)
set_option linter.unusedVariables false

theorem own : ownKnob Tryz.prog.godebug = none := by kernel_rfl
theorem laidOut : laidOutB Tryz.prog = true := by kernel_rfl

set_option maxRecDepth 100000 in
theorem lifted (os : Os) (started : os.Started) (H : Type) (enc : TypeId × Value → H) :
    ReturnsInHanded {} Tryz.checked os 7 .any (Rows.mastCompleteSpec.pre6 enc Tryz.prog Tryz.f7 Rows.mastCompleteRow.domain false) (Rows.mastCompleteSpec.post enc Tryz.prog Tryz.f7 false true false false) := by
  refine returnsInHanded_of_change (C := Tryz.checked) own started (by kernel_rfl) Tryz.func7
    (ChangeSpec.witness6 (enc := enc) (C := Tryz.checked) false ⟨#[], #[.agg #[.slice none 0 0, .slice none 0 0], .slice none 0 0], []⟩ 8 (by kernel_rfl) (by kernel_rfl) (by kernel_rfl) (by kernel_rfl)) ?_
  intro W base args ds gs before hval0 hW hcnd _
  have hval : ∀ (j : Nat) t v, Tryz.f7.params[j]? = some t → args[j]? = some v → Value.okWide Tryz.prog W .any base t v := hval0
  have hW' := hW
  obtain ⟨p, q, hA0, hV, rfl, hfz, hnd⟩ := hW
  have hA : DataW.TrodAll enc Tryz.prog W 0 (fun _ => true) true Tryz.f7.params.toList args.toList ds p := hA0
  rw [Tryz.params7] at hA hval
  obtain ⟨v0, vs0, d0, ds0, p0, q0, hargs, rfl, rfl, h0, r0⟩ := trodAll_cons hA
  obtain ⟨v1, vs1, d1, ds1, p1, q1, rfl, rfl, rfl, h1, r1⟩ := trodAll_cons r0
  obtain ⟨rfl, rfl, rfl⟩ := trodAll_nil r1
  obtain rfl : args = #[v0, v1] := by cases args; simp_all
  obtain ⟨rfl, rfl⟩ := trodVars_none hV
  have k0 := h0
  have lt0 : ∀ x ∈ p0, x.block < W.heap.size := by obtain ⟨m, hm⟩ := k0; exact DataW.trod_lt m _ _ _ hm
  obtain ⟨vs, va, vc, rs, ra, rc, rfl, ht⟩ := open_decisions (hval 0 68 v0 rfl rfl) h0
  have k1 := h1
  have lt1 : ∀ x ∈ p1, x.block < W.heap.size := by obtain ⟨m, hm⟩ := k1; exact DataW.trod_lt m _ _ _ hm
  obtain ⟨a1, len1, cap1, rfl⟩ := okWide_slice Tryz.underlying69 (hval 1 69 v1 rfl rfl)
  obtain ⟨fuel1, hf1⟩ := h1
  obtain ⟨b1, c1, xs1, e1, hl1, hm1, row1, wf1, z1⟩ := open_typed (n := 4) (fun _ h => u16_of_leaves h) Tryz.underlying69 (by kernel_rfl) (by kernel_rfl) (by decide) hf1
  simp [Value.cells] at e1
  obtain ⟨rfl, rfl, rfl⟩ := e1
  clear hA0 hval0
  refine (law_MastComplete vs va vc rs ra rc W ht _ _ xs1 row1 hl1 hm1 (fun n hn => wf_u16 (wf1 n hn))).mono fun e W' ⟨he, bel⟩ => ?_
  subst he
  exact ⟨_, rfl, _, _, _, [], _, [], hW', trodAll_mk1 (shut_bool Tryz.underlying4 _), (trodAll_cons_mk (Below.trod laidOut (by kernel_rfl) (of_decide_eq_true (by kernel_rfl)) k0 bel lt0) (trodAll_cons_mk (Below.trod laidOut (by kernel_rfl) (of_decide_eq_true (by kernel_rfl)) k1 bel lt1) trodAll_mk0)), rfl, bel.frame _, fun h => by cases h⟩

theorem joined : joinedFacts Tryz.prog 7 Tryz.f7 Rows.mastCompleteSpec Rows.mastCompleteRow = true := by
  unfold joinedFacts
  rw [mayEnter_is, liftsFinal_is, make_is]
  kernel_rfl
theorem over : Rows.mastCompleteRow.holds Tryz.pinned (OpenSpec.ofChange Rows.mastCompleteSpec) :=
  OpenClaim.holds_of_wide 7 Tryz.f7 rfl rfl rfl rfl rfl rfl rfl ⟨rfl, rfl, rfl, rfl, rfl⟩ rfl rfl rfl rfl rfl (by kernel_rfl) Tryz.func7 joined
    (of_decide_eq_true (by kernel_rfl)) (by unfold Func.isWrapper; first | (rw [if_pos (by decide +kernel)]; kernel_rfl) | (rw [if_neg (by decide +kernel)]; exact ⟨rfl, rfl⟩))
    (fun os started H enc _ => lifted os started H enc)
end Go.Proofs.YtacbkbilbmkjnaaGreat.mastComplete

namespace Go.Proofs.YtacbkbilbmkjnaaGreat
theorem mastComplete_holds : Rows.MastCompleteSaid := mastComplete.over
#print axioms mastComplete_holds
end Go.Proofs.YtacbkbilbmkjnaaGreat
