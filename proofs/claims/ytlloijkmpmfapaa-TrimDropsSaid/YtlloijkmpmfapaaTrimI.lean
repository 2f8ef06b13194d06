/-
  The bags' sets, in the program: the iterator.
-/
import Derived.RangeFuncNested
import Derived.RangeFuncBound
import Derived.RangeFuncCalls
import Derived.RangeFuncLeaves
import Derived.Shelf.Abstract
import Derived.Shelf.RegionOpen
import Derived.WalkKit
import Derived.OwnWalkIn
import Derived.TacticsInMore
import Derived.LoopNIn
import Derived.LoopIn
import Derived.Sort.QuietTacIn
import Derived.Test.YtlloijkmpmfapaaTrimZ2
import Derived.Test.YtlloijkmpmfapaaRangeP
import Derived.Test.YtlloijkmpmfapaaTrimPlainE
namespace Go.Proofs.Ytlloijkmpmfapaa
open Go.RowKit Go.Shelf Bal Bal.Trim
set_option linter.unusedVariables false
set_option linter.unusedSimpArgs false
set_option maxHeartbeats 1600000
set_option maxRecDepth 10000
attribute [local go_sem] Oper.semAt_some

def ncells (x : List Nat) : Array Value := (x.map (fun i : Nat => Value.int .i64 (i : Int))).toArray
theorem ncells_at {x : List Nat} {k : Nat} (h : k < x.length) : (ncells x)[k]? = some (.int .i64 (x[k] : Int)) := by simp [ncells, h]
theorem ncells_set (x : List Nat) (k v : Nat) : (ncells x).setIfInBounds k (.int .i64 (v : Int)) = ncells (x.set k v) := by
  simp [ncells, List.map_set]
/-- a set as the loop is handed it -/
def Shows (x : List Nat) (v : Value) (W : World) : Prop := ∃ b, v = .slice (some ⟨b, 0, none⟩) x.length x.length ∧ Blk W b (ncells x) 3
theorem shows_own (B : Nat) (x : List Nat) (v : Value) : OwnFrom B (fun (_ : Unit) W => Shows x v W) := by
  rintro _ X Y row ⟨b, hv, hb⟩ hg hr
  refine ⟨b, hv, ?_⟩
  refine (hg.block b (Blk.lt hb) (fun e => ?_)).trans hb
  obtain ⟨_, o, ho, hc⟩ := hr b e.symm
  rw [show X.heap[b]? = some _ from hb] at ho
  cases ho
  cases hc
def natsAt (W : World) (b : Nat) : List Nat := match W.heap[b]? with | some (.cells arr _ _) => arr.toList.map (fun v => (intOf v).toNat) | _ => []
theorem natsAt_of {W : World} {b : Nat} {x : List Nat} {t : TypeId} (h : Blk W b (ncells x) t) : natsAt W b = x := by
  have h' : W.heap[b]? = some (.cells (ncells x) t (0, 0)) := h
  simp only [natsAt, h', ncells, List.toList_toArray, List.map_map]
  conv => rhs; rw [← List.map_id x]
  apply List.map_congr_left
  intro i _
  simp [intOf]
theorem Blk.below {W W' : World} {b B : Nat} {arr : Array Value} {t : TypeId} (h : Blk W b arr t) (hb : Below B W W') (hB : b < B) : Blk W' b arr t := (hb.block b hB).trans h
theorem Blk.spares {W W' : World} {b l : Nat} {arr : Array Value} {t : TypeId} (h : Blk W b arr t) (hb : Spares l W W') (hB : b ≠ l) : Blk W' b arr t := (hb.block b h.lt hB).trans h

theorem belowN {B : Nat} {a w : World} (h : Below B a w) (n : Nat) : Below B a (w.drewN n) := h.trans ⟨rfl, rfl, rfl, Nat.le_refl _, fun _ _ => rfl⟩
theorem Blk.drewN {w : World} {b : Nat} {arr : Array Value} {t : TypeId} (h : Blk w b arr t) (n : Nat) : Blk (w.drewN n) b arr t := h
theorem i64_inI {n : Int} (h : -9223372036854775808 ≤ n ∧ n ≤ 9223372036854775807) : IntKind.i64.wrap n = n := by rw [IntKind.wrap_i64]; first | omega | (unfold wrap64; omega)
theorem run_makeI (s : Nat) (hs : s ≤ 1000) (w : World) : (Instr.makeSlice 63 (.int .i64 s) (.int .i64 s)).run Try.prog w = .ok (.slice (some ⟨w.heap.size, 0, none⟩) s s) (w.alloc (.cells (ncells (List.replicate s 0)) 3)) := by
  obtain ⟨i0, hi, hz0, hz1, hz2⟩ := info_parts infoI2
  have := run_make (P := Try.prog) w 63 3 i0 (.int .i64 0) Try.underlying63 hi hz0 .i64 .i64 s s (by omega) (Int.le_refl _) (by rw [hz2]; omega) (by omega)
  rw [this]
  have hm : madeCells (Value.cells (.int .i64 0)) ((s : Int).toNat * i0.size) = ncells (List.replicate s 0) := by
    rw [hz1]
    apply Array.ext
    · simp [madeCells, ncells]
    · intro i h1 h2
      simp [madeCells, ncells, Value.cells, Nat.mod_one]
  rw [hm]
  simp

theorem f_subsets (n s : Int) (w : World) :
    Calls Try.prog 90 #[.int .i64 n, .int .i64 s] w fun e w' =>
      e = .returned (.func (.func 114) #[] #[.pointer (some ⟨w.heap.size + 1, 0, none⟩), .pointer (some ⟨w.heap.size, 0, none⟩)]) ∧ w' = (w.alloc (.cells #[.int .i64 n] 3)).alloc (.cells #[.int .i64 s] 3) := by
  go_enter Try.func90, Try.ntmps90
  go_wp2
  go_ret
  exact ⟨rfl, rfl⟩

/-- the iterator's list and its captured variables -/
def SubW (W : World) (b s n : Nat) (x : List Nat) (bs bn : Nat) : Prop := Blk W b (ncells x) 3 ∧ Blk W bs #[.int .i64 s] 3 ∧ Blk W bn #[.int .i64 n] 3

theorem f_subsets1 (n s : Nat) (hn : n ≤ 10) (hs : s ≤ n) (w : World) (bs bn : Nat) (hcs : Blk w bs #[.int .i64 s] 3) (hcn : Blk w bn #[.int .i64 n] 3) (m : Nat) (hm : 1 ≤ m) :
    SeqOf Fence.wide m Try.prog 114 #[.pointer (some ⟨bs, 0, none⟩), .pointer (some ⟨bn, 0, none⟩)] Shows (combs n s 0) w := by
  intro l J Jx W hW hJ hwl hlW hY h0
  have hbs := hcs.lt
  have hbn := hcn.lt
  have hB1 := Blk.below hcs hW hbs
  have hB2 := Blk.below hcn hW hbn
  clear hcs hcn
  have hmk := run_makeI s (by omega)
  obtain ⟨L, hL⟩ : ∃ L, L = combs n s 0 := ⟨_, rfl⟩
  have HL := Lib.hid hL
  rw [← hL] at hY ⊢
  clear hL
  have hWw := hW.size
  have hz := Nat.lt_of_lt_of_le hbs hWw
  have hz2 := Nat.lt_of_lt_of_le hbn hWw
  refine callsIn_of_wp Try.func114 rfl trivial ?_ rfl
  simp only [Try.ntmps114, List.size_toArray, List.length_cons, List.length_nil, Nat.reduceAdd, Nat.reduceSub, Array.replicate_succ, Array.replicate_zero, List.push_toArray, List.append_toArray, List.nil_append, List.cons_append]
  have c1 := hB1.cell 0
  have c2 := hB2.cell 0
  have g1 := hB1.free 0
  have g2 := hB2.free 0
  simp at c1 c2
  gi_wp2
  gi_loopw [12] (fun i wr => ∃ k : Nat, k ≤ s ∧ i = .int .i64 k ∧ Blk wr W.heap.size (ncells (List.range k ++ List.replicate (s - k) 0)) 3 ∧ Below W.heap.size W wr) (fun i _ => s - (intOf i).toNat)
  case atStart => exact ⟨0, Nat.zero_le _, rfl, Blk.new, (Below.refl _ _).alloc (Nat.le_refl _) _⟩
  case round =>
    clear c1 c2 g1 g2
    obtain ⟨k, hk, rfl, hq, hb⟩ := hrel
    by_cases hlt : k < s
    · have q1 : wr.cell? ⟨W.heap.size, k, none⟩ = some (.int .i64 0) := by
        rw [hq.cell, ncells_at (by simp; omega)]
        rw [List.getElem_append_right (by simp)]
        simp
      have q2 := hq.free k
      have HQ := Lib.hid hq
      have HB := Lib.hid hb
      clear hq hb
      gi_wp2
      go_roundw
      case rel =>
        refine ⟨k + 1, by omega, by go_num, ?_, HB.out.setCell (p := ⟨W.heap.size, k, none⟩) (Nat.le_refl _) _⟩
        refine (HQ.out.set k _).cast ?_
        rw [ncells_set]
        congr 1
        apply List.ext_getElem
        · simp; omega
        · intro i h1 h2
          rw [List.getElem_set]
          split
          · rename_i e; subst e
            rw [List.getElem_append_left (by simp)]
            simp
          · rename_i hne
            by_cases hi : i < k
            · rw [List.getElem_append_left (by simpa using hi), List.getElem_append_left (by simp; omega)]
              simp
            · rw [List.getElem_append_right (by simp; omega), List.getElem_append_right (by simp; omega)]
              simp
      case measure => simp [intOf]; omega
    · obtain rfl : s = k := by omega
      rw [Nat.sub_self, List.replicate_zero, List.append_nil] at hq
      have hB1 := Blk.below hB1 hb hz
      have hB2 := Blk.below hB2 hb hz2
      have HS : SubW wr W.heap.size s n (List.range s) bs bn := ⟨hq, hB1, hB2⟩
      have HJ0 := Lib.hid (hJ _ _ _ h0 hb)
      clear hq hB1 hB2 h0 hb
      gi_wp2
      gi_loopw [] (fun wq => ∃ pre x rest, L = pre ++ x :: rest ∧ J pre wq ∧ SubW wq W.heap.size s n x bs bn) (fun wq => Bal.Trim.leftOf L (natsAt wq W.heap.size))
      case atStart =>
        obtain ⟨r, hr⟩ := combs_first hs
        exact ⟨[], List.range s, r, HL.out.trans hr, HJ0.out, HS⟩
      case round =>
        clear HS HJ0
        obtain ⟨pre, x, rest, hLe, hJp, hX, hb1, hb2⟩ := hrel
        have hc : combs n s 0 = pre ++ x :: rest := HL.out ▸ hLe
        obtain ⟨hxl, hxi⟩ := comb_mem hc
        obtain ⟨fn, tmps, assign, body, hy, hR⟩ := hY pre x (.slice (some ⟨W.heap.size, 0, none⟩) s s) _ hJp ⟨W.heap.size, by rw [hxl], hX⟩ ⟨rest, by rw [hLe]; simp⟩
        have d1 := hb1.cell 0
        have d2 := hb2.cell 0
        have f1 := hb1.free 0
        have f2 := hb2.free 0
        simp at d1 d2
        have HN0 := Lib.hid (natsAt_of hX)
        have HLe := Lib.hid hLe
        have Hc := Lib.hid hc
        clear hLe hc hY
        gi_wp2
        refine hR.mono ?_
        clear hR hy
        rintro e W3 (⟨rfl, hJ3, hk3⟩ | ⟨rfl, hJx3⟩)
        · have hX3 := Blk.spares hX hk3 (by omega)
          have hb13 := Blk.spares hb1 hk3 (by omega)
          have hb23 := Blk.spares hb2 hk3 (by omega)
          clear hX hb1 hb2 d1 d2 f1 f2 hJp hk3
          have d1 := hb13.cell 0
          simp at d1
          have HS3 : SubW W3 W.heap.size s n x bs bn := ⟨hX3, hb13, hb23⟩
          have HJ3 := Lib.hid hJ3
          clear hJ3 hX3 hb13 hb23
          gi_wp2
          gi_loopw [6] (fun i wq => ∃ j : Nat, j ≤ s ∧ i = .int .i64 ((j : Int) - 1) ∧ (∀ (t : Nat) (h : t < x.length), j ≤ t → x[t] = n - x.length + t) ∧ J (pre ++ [x]) wq ∧ SubW wq W.heap.size s n x bs bn) (fun i _ => (intOf i + 1).toNat)
          case atStart => exact ⟨s, Nat.le_refl _, by simp, fun t h ht => by omega, HJ3.out, HS3⟩
          case round =>
            clear HJ3 HS3 d1
            obtain ⟨j, hj, rfl, hend, hJ4, hX, hb1, hb2⟩ := hrel
            have HEnd := Lib.hid hend
            have HJ4 := Lib.hid hJ4
            clear hend hJ4
            have d1 := hb1.cell 0
            have d2 := hb2.cell 0
            simp at d1 d2
            cases j with
            | zero =>
              gi_wp2
              gi_quiet_th (fail)
              have hd1 := (d1 : wr.cell? ⟨bs, 0, none⟩ = some (.int .i64 s))
              gi_wp2
              have hnn : next n x = none := next_none 0 x hxi (fun t h => HEnd.out t h (Nat.zero_le _))
              have hrest : rest = [] := by
                have := combs_next hs Hc.out
                rw [hnn] at this
                cases rest with
                | nil => rfl
                | cons y r => simp at this
              refine bodyPost_ret (results_none rfl _ _ _) rfl ⟨⟨_, rfl⟩, .inl ?_⟩
              rw [HLe.out, hrest]
              exact hJ _ _ _ HJ4.out (by repeat (first | exact Below.refl _ _ | refine belowN ?_ _ | refine Below.drew ?_))
            | succ p =>
              have hps : p < x.length := by omega
              have e0' : wr.cell? ⟨W.heap.size, p, none⟩ = some (.int .i64 (x[p] : Int)) := by rw [hX.cell, ncells_at hps]
              have hxn := incr_lt 0 x hxi x[p] (List.getElem_mem hps)
              have W1 : IntKind.i64.wrap ((n : Int) - (s : Int)) = (n : Int) - s := i64_inI (by omega)
              have W2 : IntKind.i64.wrap ((n : Int) - (s : Int) + (p : Int)) = (n : Int) - s + p := i64_inI (by omega)
              have ep : ((p + 1 : Nat) : Int) - 1 = (p : Int) := by omega
              rw [ep]
              have p0 : (0 : Int) ≤ (p : Int) := by omega
              have p1 : (p : Int) < (s : Int) := by omega
              by_cases he : x[p] = n - x.length + p
              · have e0 : wr.cell? ⟨W.heap.size, p, none⟩ = some (.int .i64 ((n : Int) - (s : Int) + (p : Int))) := by rw [e0']; congr 2; omega
                have HE := Lib.hid he
                have HX := Lib.hid hX
                have HB1 := Lib.hid hb1
                have HB2 := Lib.hid hb2
                clear e0' he hX hb1 hb2
                gi_wp2
                gi_quiet_th (fail)
                gi_wp2
                go_roundw
                case rel =>
                  refine ⟨p, by omega, rfl, ?_, hJ _ _ _ HJ4.out (belowN (Below.refl _ _) _), Blk.drewN HX.out _, Blk.drewN HB1.out _, Blk.drewN HB2.out _⟩
                  intro t ht hpt
                  rcases Nat.lt_or_ge p t with h | h
                  · exact HEnd.out t ht (by omega)
                  · obtain rfl : t = p := by omega
                    exact HE.out
                case measure => first | (simp [intOf]; done) | (simp [intOf]; omega)
              · obtain ⟨q, hq⟩ : ∃ q, q = x[p] := ⟨_, rfl⟩
                have e0 : wr.cell? ⟨W.heap.size, p, none⟩ = some (.int .i64 (q : Int)) := by rw [e0', ← hq]
                have hdd : ((q : Int) == (n : Int) - (s : Int) + (p : Int)) = false := by rw [hq]; first | (simp; done) | (simp; omega)
                have HE := Lib.hid he
                have HQ := Lib.hid hq
                have HX := Lib.hid hX
                have HB1 := Lib.hid hb1
                have HB2 := Lib.hid hb2
                have hqn : q < n := by omega
                have e1 := hX.free p
                have hXL := hX
                have HXQ := Lib.hid (show x[p] = q from hq.symm)
                clear e0' he hX hb1 hb2 hq hXL
                gi_wp2
                gi_quiet_th (fail)
                gi_wp2
                gi_loopw [7] (fun i wq => ∃ k : Nat, p < k ∧ k ≤ s ∧ i = .int .i64 k ∧ J (pre ++ [x]) wq ∧ SubW wq W.heap.size s n (mid x p q k) bs bn) (fun i _ => s - (intOf i).toNat)
                case atStart =>
                  have h0 : Blk (wr.drewN nq) W.heap.size (ncells x) 3 := HX.out
                  refine ⟨p + 1, by omega, by omega, by go_num, hJ _ _ _ HJ4.out ((belowN (Below.refl _ _) _).setCell (p := ⟨W.heap.size, p, none⟩) (Nat.le_refl _) _), ?_, ?_, ?_⟩
                  · refine (h0.set p _).cast ?_
                    rw [← mid_start (by omega)]
                    exact ncells_set x p (q + 1)
                  · exact Blk.other (show Blk (wr.drewN nq) bs _ _ from HB1.out) (by simp; omega) _
                  · exact Blk.other (show Blk (wr.drewN nq) bn _ _ from HB2.out) (by simp; omega) _
                case round =>
                  clear e0 e1 d1 d2 W1 W2 hdd
                  obtain ⟨k, hpk, hks, rfl, hJ5, hX5, hb5, hc5⟩ := hrel
                  have d1 := hb5.cell 0
                  simp at d1
                  have hml := mid_len (x := x) (p := p) (q := q) (k := k) (by omega) (by omega)
                  by_cases hlt : k < s
                  · have m0 : wr.cell? ⟨W.heap.size, k - 1, none⟩ = some (.int .i64 ((q + (k - p) : Nat) : Int)) := by
                      rw [hX5.cell, ncells_at (by omega), mid_at hpk (by omega)]
                    have m1 := hX5.free k
                    obtain ⟨u, m2⟩ : ∃ u, wr.cell? ⟨W.heap.size, k, none⟩ = some (.int .i64 u) := ⟨_, by rw [hX5.cell, ncells_at (by omega)]⟩
                    have ek : ((k : Int) - 1).toNat = k - 1 := by omega
                    have k0 : (0 : Int) ≤ (k : Int) - 1 := by omega
                    have k1 : (k : Int) - 1 < (s : Int) := by omega
                    have k2 : (k : Int) < (s : Int) := by omega
                    have HX5 := Lib.hid hX5
                    have HB5 := Lib.hid hb5
                    have HC5 := Lib.hid hc5
                    have HJ5 := Lib.hid hJ5
                    obtain ⟨v, hv⟩ : ∃ v, v = q + (k - p) := ⟨_, rfl⟩
                    have hvb : v ≤ 30 := by omega
                    rw [← hv] at m0
                    have HV := Lib.hid hv
                    clear hv hX5 hb5 hc5 hJ5
                    gi_wp2
                    go_roundw
                    case rel =>
                      refine ⟨k + 1, by omega, by omega, by go_num, hJ _ _ _ HJ5.out ((Below.refl _ _).setCell (p := ⟨W.heap.size, k, none⟩) (Nat.le_refl _) _), ?_, Blk.other HB5.out (by simp; omega) _, Blk.other HC5.out (by simp; omega) _⟩
                      refine (HX5.out.set k _).cast ?_
                      rw [← mid_set hpk (by omega), ← HV.out]
                      exact ncells_set _ k (v + 1)
                    case measure => simp [intOf]; omega
                  · obtain rfl : s = k := by omega
                    have hnx : next n x = some (mid x p q s) := by
                      have h1 := next_some 0 x hxi p hps HE.out (fun t ht h => HEnd.out t ht (by omega))
                      have h2 := mid_end (x := x) (p := p) (q := q)
                      rw [hxl] at h2
                      rw [h1, h2, hxl, HXQ.out]
                    obtain ⟨r, hr⟩ : ∃ r, rest = mid x p q s :: r := by
                      have := combs_next hs Hc.out
                      rw [hnx] at this
                      cases rest with
                      | nil => simp at this
                      | cons y r => simp at this; exact ⟨r, by rw [this]⟩
                    have HR := Lib.hid hr
                    have HX5 := Lib.hid hX5
                    have HB5 := Lib.hid hb5
                    have HC5 := Lib.hid hc5
                    have HJ5 := Lib.hid hJ5
                    clear hr hnx hX5 hb5 hc5 hJ5
                    gi_wp2
                    go_roundw
                    case rel => exact ⟨pre ++ [x], mid x p q s, r, by rw [HLe.out, HR.out]; simp, HJ5.out, HX5.out, HB5.out, HC5.out⟩
                    case measure =>
                      rw [natsAt_of HX5.out, HN0.out]
                      have hd := combs_nodup n s
                      rw [HL.out, leftOf_at hd Hc.out, leftOf_at (pre := pre ++ [x]) (rest := r) hd (by rw [Hc.out, HR.out]; simp), HR.out]
                      simp
        · gi_wp2
          refine bodyPost_ret (results_none rfl _ _ _) rfl ⟨⟨_, rfl⟩, .inr ⟨pre ++ [x], ⟨rest, by rw [HLe.out]; simp⟩, hJx3⟩⟩
end Go.Proofs.Ytlloijkmpmfapaa
