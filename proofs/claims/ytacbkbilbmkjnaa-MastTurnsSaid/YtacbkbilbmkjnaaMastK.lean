/-
  Manned lines: the crowd of the reference.
-/
import Derived.Test.YtacbkbilbmkjnaaMastJ
namespace Go.Proofs.Ytacbkbilbmkjnaa
open Go.RowKit Bal Bal.Trim Bal.Mast
set_option linter.unusedVariables false
set_option linter.unusedSimpArgs false
set_option maxHeartbeats 4000000
set_option maxRecDepth 10000

theorem r_Man_main (a : Option Addr) (cap : Nat) (xs : List Span) (p m : Int) (w : World) (hx : Row Span.cells 2 w.heap.size w a xs) (hc : xs.length ≤ cap) (hM : cap ≤ maxLen) (hn : xs.length ≤ 1000000) (h : manOk xs p m = true) :
    Calls Try.prog 21 #[.slice a xs.length cap, .int .i64 p, .int .i64 m] w fun e w' => ∃ v, e = .returned (.tuple #[v, .int .i64 (manE xs p m)]) ∧ w'.ownsRow w.heap.size 3 1 v (manL xs p m).length ((manL xs p m).flatMap icell) ∧ Kept w w' := by
  unfold maxLen at hM
  obtain ⟨hl, hp, hm⟩ := man_ok h
  have hl' := hl
  unfold linesB at hl'
  simp only [Bool.and_eq_true, decide_eq_true_eq, List.all_eq_true] at hl'
  obtain ⟨hn8, hv⟩ := hl'
  have hp' : 0 ≤ p ∧ p ≤ 200 := by simpa [inB] using hp
  have hm' : 1 ≤ m ∧ m ≤ 1000000 := by simpa [inB] using hm
  obtain ⟨hm1, hm2⟩ := hm'
  have hnb := needs_bd hm1 hv
  have htb := total_bd hnb
  have htm := total_mem fun x hx => (hnb x hx).1
  rw [needs_len] at htb
  have HV := Lib.hid (show ∀ s ∈ xs, lineB s = true from hv)
  have HNB := Lib.hid hnb
  obtain ⟨S, hS⟩ : ∃ S, S = total (needs m xs) := ⟨_, rfl⟩
  have hSS : 0 ≤ S ∧ S ≤ 8000000 := by omega
  have HL := Lib.hid hl
  have HP := Lib.hid (show inB p 0 200 = true by exact hp)
  have HMM := Lib.hid (show inB m 1 1000000 = true by exact hm)
  have HNE := fun (W : World) (hk : Kept w W) => r_needs a cap xs m W (hx.later hk (Nat.le_refl _)) hn8 HV.out hm1 hm2
  have HTC := fun ad cp (W : World) (h : Row icell 1 W.heap.size W ad (needs m xs)) => r_total ad cp (needs m xs) W h (by rw [needs_len]; exact hn8) hnb
  rw [← hS, needs_len] at HTC
  by_cases hlt : p < total (needs m xs)
  · obtain ⟨e1, e2⟩ := man_few h hlt
    rw [e1, e2]
    rw [← hS] at hlt
    clear h hl hp hm hv hnb htb htm hS e1 e2
    have hln := needs_len m xs
    go_enter Try.func21, Try.ntmps21
    go_wp2_with (first | (go_at_call 60; (with_reducible refine (r_pulls _ _ _ _ (hx.later (by (repeat (first | with_reducible exact Below.refl _ _ | with_reducible assumption | with_reducible refine Kept.drop ?_ (by with_reducible assumption) | with_reducible refine Kept.alloc ?_ _ | ((with_reducible refine Below.setCell ?_ ?_ _); rotate_left 1; (focus (first | exact Nat.le_refl _ | (simp; done) | (simp; omega) | exact Below.size (by with_reducible assumption) | (refine Kept.size ?_; (repeat (first | with_reducible exact Below.refl _ _ | with_reducible assumption | with_reducible refine Kept.drop ?_ (by with_reducible assumption) | with_reducible refine Kept.alloc ?_ _ | with_reducible refine Below.drew ?_)))))) | with_reducible refine Below.drew ?_))) (Nat.le_refl _)) hn).mono ?_); rw [HL.out]; rintro e w1 ⟨rfl, hb1⟩) | (go_at_call 53; (with_reducible refine (r_within p _ _ _).mono ?_); rw [HP.out]; rintro e w1 ⟨rfl, rfl⟩) | (go_at_call 53; (with_reducible refine (r_within m _ _ _).mono ?_); rw [HMM.out]; rintro e w1 ⟨rfl, rfl⟩) | (go_at_call 61; (with_reducible refine (HNE _ (by (repeat (first | with_reducible exact Below.refl _ _ | with_reducible assumption | with_reducible refine Kept.drop ?_ (by with_reducible assumption) | with_reducible refine Kept.alloc ?_ _ | ((with_reducible refine Below.setCell ?_ ?_ _); rotate_left 1; (focus (first | exact Nat.le_refl _ | (simp; done) | (simp; omega) | exact Below.size (by with_reducible assumption) | (refine Kept.size ?_; (repeat (first | with_reducible exact Below.refl _ _ | with_reducible assumption | with_reducible refine Kept.drop ?_ (by with_reducible assumption) | with_reducible refine Kept.alloc ?_ _ | with_reducible refine Below.drew ?_)))))) | with_reducible refine Below.drew ?_)))).mono ?_); rintro e wN ⟨vN, rfl, hoN, hbN⟩; obtain ⟨ad, cp, rfl, hrN, hcN, hmN⟩ := owns_row (enc := icell) (k := 1) (fun _ => rfl) hoN; have hzN := Below.size hbN; unfold maxLen at hmN) | (go_at_call 62; (with_reducible refine (HTC ad cp _ (hrN.later (by (repeat (first | with_reducible exact Below.refl _ _ | with_reducible assumption | with_reducible refine Kept.drop ?_ (by with_reducible assumption) | with_reducible refine Kept.alloc ?_ _ | ((with_reducible refine Below.setCell ?_ ?_ _); rotate_left 1; (focus (first | exact Nat.le_refl _ | (simp; done) | (simp; omega) | exact Below.size (by with_reducible assumption) | (refine Kept.size ?_; (repeat (first | with_reducible exact Below.refl _ _ | with_reducible assumption | with_reducible refine Kept.drop ?_ (by with_reducible assumption) | with_reducible refine Kept.alloc ?_ _ | with_reducible refine Below.drew ?_)))))) | with_reducible refine Below.drew ?_))) (Nat.le_refl _))).mono ?_); rintro e w8 ⟨rfl, rfl⟩))
    exact bodyPost_ret (v := .tuple #[.slice none 0 0, .int .i64 75]) (by simp [results, Try.results21, go_sem]) rfl ⟨_, rfl, owns_nil (α := Int) (enc := icell), by (repeat (first | with_reducible exact Below.refl _ _ | with_reducible assumption | with_reducible refine Kept.drop ?_ (by with_reducible assumption) | with_reducible refine Kept.alloc ?_ _ | ((with_reducible refine Below.setCell ?_ ?_ _); rotate_left 1; (focus (first | exact Nat.le_refl _ | (simp; done) | (simp; omega) | exact Below.size (by with_reducible assumption) | (refine Kept.size ?_; (repeat (first | with_reducible exact Below.refl _ _ | with_reducible assumption | with_reducible refine Kept.drop ?_ (by with_reducible assumption) | with_reducible refine Kept.alloc ?_ _ | with_reducible refine Below.drew ?_)))))) | with_reducible refine Below.drew ?_))⟩
  · obtain ⟨e1, e2⟩ := man_all h hlt
    rw [e1, e2]
    obtain ⟨J, hJ⟩ : ∃ J, J = (p - total (needs m xs)).toNat := ⟨_, rfl⟩
    rw [← hJ]
    have HB := Lib.hid (fun (j : Nat) (hj : j ≤ 200) (x : Int) (hx : x ∈ after xs (needs m xs) j) => show 0 ≤ x ∧ x ≤ 400 by
      have := after_bd (hs := xs) (ls := needs m xs) (fun x hx => ⟨(hnb x hx).1, by have := htm.2 x hx; omega⟩) j x hx
      omega)
    have hJS : (J : Int) = p - S := by rw [hJ, hS]; omega
    have hJ2 : J ≤ 200 := by omega
    rw [← hS] at hlt
    have hln := needs_len m xs
    have HLEN := Lib.hid (fun j => (after_len xs (needs m xs) j).trans (needs_len m xs))
    obtain ⟨L0, hL0⟩ : ∃ L0, L0 = needs m xs := ⟨_, rfl⟩
    rw [← hL0] at HB HLEN hln HNE HTC ⊢
    clear h hl hp hm hv hnb htb htm hS e1 e2 hJ hL0
    go_enter Try.func21, Try.ntmps21
    go_wp2_with (first | (go_at_call 60; (with_reducible refine (r_pulls _ _ _ _ (hx.later (by (repeat (first | with_reducible exact Below.refl _ _ | with_reducible assumption | with_reducible refine Kept.drop ?_ (by with_reducible assumption) | with_reducible refine Kept.alloc ?_ _ | ((with_reducible refine Below.setCell ?_ ?_ _); rotate_left 1; (focus (first | exact Nat.le_refl _ | (simp; done) | (simp; omega) | exact Below.size (by with_reducible assumption) | (refine Kept.size ?_; (repeat (first | with_reducible exact Below.refl _ _ | with_reducible assumption | with_reducible refine Kept.drop ?_ (by with_reducible assumption) | with_reducible refine Kept.alloc ?_ _ | with_reducible refine Below.drew ?_)))))) | with_reducible refine Below.drew ?_))) (Nat.le_refl _)) hn).mono ?_); rw [HL.out]; rintro e w1 ⟨rfl, hb1⟩) | (go_at_call 53; (with_reducible refine (r_within p _ _ _).mono ?_); rw [HP.out]; rintro e w1 ⟨rfl, rfl⟩) | (go_at_call 53; (with_reducible refine (r_within m _ _ _).mono ?_); rw [HMM.out]; rintro e w1 ⟨rfl, rfl⟩) | (go_at_call 61; (with_reducible refine (HNE _ (by (repeat (first | with_reducible exact Below.refl _ _ | with_reducible assumption | with_reducible refine Kept.drop ?_ (by with_reducible assumption) | with_reducible refine Kept.alloc ?_ _ | ((with_reducible refine Below.setCell ?_ ?_ _); rotate_left 1; (focus (first | exact Nat.le_refl _ | (simp; done) | (simp; omega) | exact Below.size (by with_reducible assumption) | (refine Kept.size ?_; (repeat (first | with_reducible exact Below.refl _ _ | with_reducible assumption | with_reducible refine Kept.drop ?_ (by with_reducible assumption) | with_reducible refine Kept.alloc ?_ _ | with_reducible refine Below.drew ?_)))))) | with_reducible refine Below.drew ?_)))).mono ?_); rintro e wN ⟨vN, rfl, hoN, hbN⟩; obtain ⟨ad, cp, rfl, hrN, hcN, hmN⟩ := owns_row (enc := icell) (k := 1) (fun _ => rfl) hoN; have hzN := Below.size hbN; unfold maxLen at hmN) | (go_at_call 62; (with_reducible refine (HTC ad cp _ (hrN.later (by (repeat (first | with_reducible exact Below.refl _ _ | with_reducible assumption | with_reducible refine Kept.drop ?_ (by with_reducible assumption) | with_reducible refine Kept.alloc ?_ _ | ((with_reducible refine Below.setCell ?_ ?_ _); rotate_left 1; (focus (first | exact Nat.le_refl _ | (simp; done) | (simp; omega) | exact Below.size (by with_reducible assumption) | (refine Kept.size ?_; (repeat (first | with_reducible exact Below.refl _ _ | with_reducible assumption | with_reducible refine Kept.drop ?_ (by with_reducible assumption) | with_reducible refine Kept.alloc ?_ _ | with_reducible refine Below.drew ?_)))))) | with_reducible refine Below.drew ?_))) (Nat.le_refl _))).mono ?_); rintro e w8 ⟨rfl, rfl⟩))
    go_loopw [9] (fun i wr => ∃ j : Nat, j ≤ J ∧ i = .int .i64 ((J : Int) - j) ∧ wr.ownsRow w.heap.size 3 1 (.slice ad L0.length cp) (after xs L0 j).length ((after xs L0 j).flatMap icell) ∧ Kept w wr) (fun i _ => (intOf i).toNat)
    case atStart => exact ⟨0, Nat.zero_le _, by first | rfl | (congr 1; omega) | (simp; omega), owns_base hoN (Kept.size (by (repeat (first | with_reducible exact Below.refl _ _ | with_reducible assumption | with_reducible refine Kept.drop ?_ (by with_reducible assumption) | with_reducible refine Kept.alloc ?_ _ | ((with_reducible refine Below.setCell ?_ ?_ _); rotate_left 1; (focus (first | exact Nat.le_refl _ | (simp; done) | (simp; omega) | exact Below.size (by with_reducible assumption) | (refine Kept.size ?_; (repeat (first | with_reducible exact Below.refl _ _ | with_reducible assumption | with_reducible refine Kept.drop ?_ (by with_reducible assumption) | with_reducible refine Kept.alloc ?_ _ | with_reducible refine Below.drew ?_)))))) | with_reducible refine Below.drew ?_)))), by (repeat (first | with_reducible exact Below.refl _ _ | with_reducible assumption | with_reducible refine Kept.drop ?_ (by with_reducible assumption) | with_reducible refine Kept.alloc ?_ _ | ((with_reducible refine Below.setCell ?_ ?_ _); rotate_left 1; (focus (first | exact Nat.le_refl _ | (simp; done) | (simp; omega) | exact Below.size (by with_reducible assumption) | (refine Kept.size ?_; (repeat (first | with_reducible exact Below.refl _ _ | with_reducible assumption | with_reducible refine Kept.drop ?_ (by with_reducible assumption) | with_reducible refine Kept.alloc ?_ _ | with_reducible refine Below.drew ?_)))))) | with_reducible refine Below.drew ?_))⟩
    case round =>
      obtain ⟨j, hj, rfl, hown, hkk⟩ := hrel
      obtain ⟨ls, hls⟩ : ∃ ls, ls = after xs L0 j := ⟨_, rfl⟩
      have hlen : ls.length = xs.length := by rw [hls]; exact HLEN.out j
      have HBL := Lib.hid (show ∀ x ∈ ls, 0 ≤ x ∧ x ≤ 400 by rw [hls]; exact HB.out j (by omega))
      rw [← hls] at hown
      by_cases hlt2 : j < J
      · have HLS := Lib.hid hls
        clear hls
        go_wp2
        go_loopw [10, 11] (fun b i wq => ∃ k : Nat, k ≤ xs.length ∧ i = .int .i64 k ∧ b = .int .i64 (pick xs ls k) ∧ wq.ownsRow w.heap.size 3 1 (.slice ad L0.length cp) ls.length (ls.flatMap icell) ∧ Kept w wq) (fun _ i _ => xs.length - (intOf i).toNat)
        case atStart => exact ⟨0, Nat.zero_le _, rfl, rfl, hown, hkk⟩
        case round =>
          clear hown hkk
          obtain ⟨k, hk, rfl, rfl, hown, hkk⟩ := hrel
          have hpb := pick_bd xs ls k
          by_cases hlt3 : k < xs.length
          · obtain ⟨hp1, hp2, hp3⟩ := pick_succ hlt3 (show k < ls.length by omega)
            obtain ⟨bb, off, rfl, hbl, h0, h1⟩ := Span.row (hx.later hkk (Nat.le_refl _)) k hlt3
            have hyb := line_bd (HV.out _ (List.getElem_mem hlt3))
            obtain ⟨g, rfl⟩ := own_some hown (by omega)
            obtain ⟨hnl, hrow, hcl, hml⟩ := own_at hown
            unfold maxLen at hml
            have hlb := HBL.out ls[k] (List.getElem_mem (by omega))
            obtain ⟨b2, o2, hb2, _, c0⟩ := int_row hrow k (by omega)
            cases hb2
            simp only [Nat.zero_add] at c0
            obtain ⟨y, hy0⟩ : ∃ y, y = xs[k] := ⟨_, rfl⟩
            obtain ⟨z, hz0⟩ : ∃ z, z = ls[k] := ⟨_, rfl⟩
            rw [← hy0] at hp1 hp2 hp3 hyb h0 h1
            rw [← hz0] at hp3 hlb c0
            clear hy0 hz0
            by_cases hyz : y.hi = 0
            · have HPK := Lib.hid (hp1 hyz)
              clear hp1 hp2 hp3
              go_upto_region 13 with fail
              obtain ⟨W5, hW5⟩ : ∃ W5, W5 = wr := ⟨_, rfl⟩
              subst hW5
              have x1 := fun g : Later W5 => g.some c0
              have x4 := fun g : Later W5 => g.some h1
              have k0 : (0 : Int) ≤ (k : Int) := by omega
              have k1 : (k : Int) < (L0.length : Int) := by omega
              have k2 : (k : Int) < (xs.length : Int) := by omega
              refine Later.region (by kernel_rfl) (by kernel_rfl) ?_
              repeat (first | go_big_quiet_skip | (go_big_quiet_want; go_big_quiet_op; first | go_big_quiet_on | (apply Exists.intro; refine ⟨fun g => ?_, ?_⟩; (focus (first | fail)); go_big_quiet_on)))
              refine wpQuiet_nil ?_
              intro gg
              have hkg := Kept.drop hkk gg.ok
              have hog := owns_keep hown gg.ok
              go_wp2
              go_roundw
              case rel => exact ⟨k + 1, by omega, by go_num, by rw [HPK.out], hog, hkg⟩
              case measure => simp [intOf]; omega
            · have HP2 := Lib.hid (hp2 hyz)
              have HP3 := Lib.hid hp3
              clear hp1 hp2 hp3
              have HYZ := Lib.hid hyz
              have hpos : (0 : Int) < y.hi := by omega
              obtain ⟨P, hP⟩ : ∃ P, P = pick xs ls k := ⟨_, rfl⟩
              rw [← hP] at HP2 HP3 hpb ⊢
              have HPP := Lib.hid hP
              clear hP
              go_upto_region 13 with fail
              obtain ⟨W5, hW5⟩ : ∃ W5, W5 = wr := ⟨_, rfl⟩
              subst hW5
              have x1 := fun g : Later W5 => g.some c0
              have x4 := fun g : Later W5 => g.some h1
              have k0 : (0 : Int) ≤ (k : Int) := by omega
              have k1 : (k : Int) < (L0.length : Int) := by omega
              have k2 : (k : Int) < (xs.length : Int) := by omega
              by_cases hneg : P < 0
              · have HPK := Lib.hid (HP2.out hneg)
                refine Later.region (by kernel_rfl) (by kernel_rfl) ?_
                repeat (first | go_big_quiet_skip | (go_big_quiet_want; go_big_quiet_op; first | go_big_quiet_on | (apply Exists.intro; refine ⟨fun g => ?_, ?_⟩; (focus (first | fail)); go_big_quiet_on)))
                refine wpQuiet_nil ?_
                intro gg
                have hkg := Kept.drop hkk gg.ok
                have hog := owns_keep hown gg.ok
                go_wp2
                go_roundw
                case rel => exact ⟨k + 1, by omega, by go_num, by rw [HPK.out], hog, hkg⟩
                case measure => simp [intOf]; omega
              · obtain ⟨q, rfl⟩ : ∃ q : Nat, P = q := ⟨P.toNat, by omega⟩
                have hq : q < xs.length := by omega
                have HPK := Lib.hid (HP3.out q hq (by omega) rfl HYZ.out)
                obtain ⟨bb2, off2, hab, _, g0, g1⟩ := Span.row (hx.later hkk (Nat.le_refl _)) q hq
                simp only [Option.some.injEq, Addr.mk.injEq, and_true] at hab
                obtain ⟨rfl, rfl⟩ := hab
                obtain ⟨_, hrow5, _, _⟩ := own_at hown
                obtain ⟨b4, o4, hb4, _, d0⟩ := int_row hrow5 q (by omega)
                cases hb4
                simp only [Nat.zero_add] at d0
                have hyb2 := line_bd (HV.out _ (List.getElem_mem hq))
                have hlb2 := HBL.out ls[q] (List.getElem_mem (by omega))
                obtain ⟨y2, hy2⟩ : ∃ y, y = xs[q] := ⟨_, rfl⟩
                obtain ⟨z2, hz2⟩ : ∃ z, z = ls[q] := ⟨_, rfl⟩
                rw [← hy2] at HPK g0 g1 hyb2
                rw [← hz2] at HPK d0 hlb2
                clear hy2 hz2 hrow5
                have m1 := mul_bd (A := 1000000) (B := 400) (x := y.hi) (y := z2) (by omega) (by omega) (by omega) (by omega)
                have m2 := mul_bd (A := 1000000) (B := 400) (x := y2.hi) (y := z) (by omega) (by omega) (by omega) (by omega)
                have V1 := i64_in (n := y.hi * z2) (by omega)
                have V2 := i64_in (n := y2.hi * z) (by omega)
                have x2 := fun g : Later W5 => g.some g1
                have x3 := fun g : Later W5 => g.some d0
                have q0 : (0 : Int) ≤ (q : Int) := by omega
                have q1 : (q : Int) < (xs.length : Int) := by omega
                have q2 : (q : Int) < (L0.length : Int) := by omega
                by_cases hcmp : y2.hi * z < y.hi * z2
                · have HCM := Lib.hid hcmp
                  refine Later.region (by kernel_rfl) (by kernel_rfl) ?_
                  repeat (first | go_big_quiet_skip | (go_big_quiet_want; go_big_quiet_op; first | go_big_quiet_on | (apply Exists.intro; refine ⟨fun g => ?_, ?_⟩; (focus (first | fail)); go_big_quiet_on)))
                  refine wpQuiet_nil ?_
                  intro gg
                  have hkg := Kept.drop hkk gg.ok
                  have hog := owns_keep hown gg.ok
                  go_wp2
                  go_roundw
                  case rel => exact ⟨k + 1, by omega, by go_num, by rw [HPK.out, if_pos HCM.out], hog, hkg⟩
                  case measure => simp [intOf]; omega
                · have HCM := Lib.hid hcmp
                  refine Later.region (by kernel_rfl) (by kernel_rfl) ?_
                  repeat (first | go_big_quiet_skip | (go_big_quiet_want; go_big_quiet_op; first | go_big_quiet_on | (apply Exists.intro; refine ⟨fun g => ?_, ?_⟩; (focus (first | fail)); go_big_quiet_on)))
                  refine wpQuiet_nil ?_
                  intro gg
                  have hkg := Kept.drop hkk gg.ok
                  have hog := owns_keep hown gg.ok
                  go_wp2
                  go_roundw
                  case rel => exact ⟨k + 1, by omega, by go_num, by rw [HPK.out, if_neg HCM.out], hog, hkg⟩
                  case measure => simp [intOf]; omega
          · obtain rfl : xs.length = k := by omega
            obtain ⟨P, hP⟩ : ∃ P, P = pick xs ls xs.length := ⟨_, rfl⟩
            rw [← hP] at hpb ⊢
            by_cases hneg : P < 0
            · have HST := Lib.hid (after_same (xs := xs) (L0 := L0) (j := j) (by rw [← HLS.out, ← hP]; exact hneg))
              clear hP
              go_wp2
              go_roundw
              case rel => exact ⟨j + 1, by omega, by first | go_num | (congr 1; omega), by rw [HST.out, ← HLS.out]; exact hown, hkk⟩
              case measure => simp [intOf]; omega
            · obtain ⟨q, rfl⟩ : ∃ q : Nat, P = q := ⟨P.toNat, by omega⟩
              have hql : q < ls.length := by omega
              have HON := Lib.hid (after_one HLS.out hP.symm hql)
              clear hP
              obtain ⟨g, rfl⟩ := own_some hown (by omega)
              obtain ⟨_, hrow5, hcl5, hml5⟩ := own_at hown
              unfold maxLen at hml5
              obtain ⟨hg5, cur, hcur⟩ := own_blk hown
              obtain ⟨b4, o4, hb4, _, d0⟩ := int_row hrow5 q hql
              cases hb4
              simp only [Nat.zero_add] at d0
              have hlb2 := HBL.out ls[q] (List.getElem_mem hql)
              have hfr := hcur.free q
              have hown6 := own_put (q := q) hown (ls[q] + 1)
              rw [← HON.out] at hown6
              obtain ⟨z2, hz2⟩ : ∃ z, z = ls[q] := ⟨_, rfl⟩
              rw [← hz2] at d0 hlb2 hown6
              clear hz2 hrow5 hcur
              have q0 : (0 : Int) ≤ (q : Int) := by omega
              have q2 : (q : Int) < (L0.length : Int) := by omega
              go_wp2
              go_roundw
              case rel => exact ⟨j + 1, by omega, by first | go_num | (congr 1; omega), hown6, Below.setCell hkk (p := ⟨g, q, none⟩) hg5 _⟩
              case measure => simp [intOf]; omega
      · obtain rfl : J = j := by omega
        go_wp2
        exact bodyPost_ret (v := .tuple #[.slice ad xs.length cp, .int .i64 0]) (by simp [results, Try.results21, go_sem]) rfl ⟨_, rfl, by rw [← hln, ← hls]; exact hown, by (repeat (first | with_reducible exact Below.refl _ _ | with_reducible assumption | with_reducible refine Kept.drop ?_ (by with_reducible assumption) | with_reducible refine Kept.alloc ?_ _ | ((with_reducible refine Below.setCell ?_ ?_ _); rotate_left 1; (focus (first | exact Nat.le_refl _ | (simp; done) | (simp; omega) | exact Below.size (by with_reducible assumption) | (refine Kept.size ?_; (repeat (first | with_reducible exact Below.refl _ _ | with_reducible assumption | with_reducible refine Kept.drop ?_ (by with_reducible assumption) | with_reducible refine Kept.alloc ?_ _ | with_reducible refine Below.drew ?_)))))) | with_reducible refine Below.drew ?_))⟩


theorem f_Man (a : Option Addr) (cap : Nat) (xs : List Span) (p m : Int) (w : World) (hx : Row Span.cells 2 w.heap.size w a xs) (hc : xs.length ≤ cap) (hM : cap ≤ maxLen) (hn : xs.length ≤ 1000000) :
    Calls Try.prog 20 #[.slice a xs.length cap, .int .i64 p, .int .i64 m] w fun e w' => ∃ v, e = .returned (.tuple #[v, .int .i64 (manE xs p m)]) ∧ w'.ownsRow w.heap.size 3 1 v (manL xs p m).length ((manL xs p m).flatMap icell) ∧ Kept w w' := by
  cases h : manOk xs p m
  · have h1 : manE xs p m = 2 := by unfold manE; rw [h]; rfl
    have h2 : manL xs p m = [] := by unfold manL; rw [h1]; rfl
    rw [h1, h2]
    exact (f_Man_bad a cap xs p m w hx hc hM hn h).mono fun e w' q => ⟨.slice none 0 0, q.1, owns_nil (α := Int) (enc := icell), q.2⟩
  · exact f_Man_main a cap xs p m w hx hc hM hn h

theorem r_Man (a : Option Addr) (cap : Nat) (xs : List Span) (p m : Int) (w : World) (hx : Row Span.cells 2 w.heap.size w a xs) (hc : xs.length ≤ cap) (hM : cap ≤ maxLen) (hn : xs.length ≤ 1000000) :
    Calls Try.prog 21 #[.slice a xs.length cap, .int .i64 p, .int .i64 m] w fun e w' => ∃ v, e = .returned (.tuple #[v, .int .i64 (manE xs p m)]) ∧ w'.ownsRow w.heap.size 3 1 v (manL xs p m).length ((manL xs p m).flatMap icell) ∧ Kept w w' := by
  cases h : manOk xs p m
  · have h1 : manE xs p m = 2 := by unfold manE; rw [h]; rfl
    have h2 : manL xs p m = [] := by unfold manL; rw [h1]; rfl
    rw [h1, h2]
    exact (r_Man_bad a cap xs p m w hx hc hM hn h).mono fun e w' q => ⟨.slice none 0 0, q.1, owns_nil (α := Int) (enc := icell), q.2⟩
  · exact r_Man_main a cap xs p m w hx hc hM hn h

end Go.Proofs.Ytacbkbilbmkjnaa
