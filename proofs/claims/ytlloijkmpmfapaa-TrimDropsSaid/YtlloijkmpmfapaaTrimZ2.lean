/-
  The bits of a number, in the reference.
-/
import Derived.Test.YtlloijkmpmfapaaTrimZ
namespace Go.Proofs.Ytlloijkmpmfapaa
open Go.RowKit Bal Bal.Trim
set_option linter.unusedVariables false
set_option linter.unusedSimpArgs false
set_option maxHeartbeats 800000

set_option maxRecDepth 10000

theorem bits_and_one (q : Nat) (hm : q < 1024) : bits BinOp.and IntKind.i64 (q : Int) 1 = ((q % 2 : Nat) : Int) := by
  have : ∀ q : Fin 1024, bits BinOp.and IntKind.i64 ((q.val : Nat) : Int) 1 = ((q.val % 2 : Nat) : Int) := by decide +kernel
  exact this ⟨q, hm⟩
def cnt (m : Nat) : Nat → Nat
  | 0 => 0
  | k + 1 => cnt m k + m / 2 ^ k % 2
theorem cnt_le (m : Nat) : ∀ k, cnt m k ≤ k
  | 0 => Nat.le_refl _
  | k + 1 => by have := cnt_le m k; have := Nat.mod_lt (m / 2 ^ k) (show 0 < 2 by omega); simp only [cnt]; omega

theorem r_size (m : Nat) (w : World) (hm : m < 1024) :
    Calls Try.prog 95 #[.int .i64 m] w fun e w' => e = .returned (.int .i64 (cnt m 10)) ∧ w = w' := by
  go_enter Try.func95, Try.ntmps95
  go_wp2
  go_loop [3, 4] (fun n i => ∃ k : Nat, k ≤ 10 ∧ i = .int .i64 k ∧ n = .int .i64 (cnt m k)) (fun _ i => 10 - (intOf i).toNat)
  case atStart => exact ⟨0, by omega, rfl, rfl⟩
  case round =>
    obtain ⟨k, hk, rfl, rfl⟩ := hrel
    have hc := cnt_le m k
    by_cases hlt : k < 10
    · have hq : m / 2 ^ k < 1024 := Nat.lt_of_le_of_lt (Nat.div_le_self _ _) hm
      have HB : bits BinOp.and IntKind.i64 (((m : Int) / 2 ^ k)) 1 = ((m / 2 ^ k % 2 : Nat) : Int) := by
        have := bits_and_one (m / 2 ^ k) hq
        rw [← this]
        simp
      have hb := Nat.mod_lt (m / 2 ^ k) (show 0 < 2 by omega)
      have HS := Lib.hid (show ((cnt m (k + 1) : Nat) : Int) = cnt m k + ((m / 2 ^ k % 2 : Nat) : Int) by simp [cnt])
      obtain ⟨B, hB⟩ : ∃ B, B = m / 2 ^ k % 2 := ⟨_, rfl⟩
      rw [← hB] at HB hb HS
      clear hB
      go_wp2
      go_round
      case rel => exact ⟨k + 1, by omega, by go_num, by rw [HS.out]⟩
      case measure => simp [intOf]; omega
    · obtain rfl : k = 10 := by omega
      go_wp2
      go_ret
      exact ⟨rfl, rfl⟩

theorem infoI2 : (Try.prog.info? 3).map (fun i => (i.zero, i.size, i.bytes)) = some (some (.int .i64 0), 1, 8) := by kernel_rfl
/-- the numbers of the first k bits that are set -/
def lst (m : Nat) : Nat → List Int
  | 0 => []
  | k + 1 => lst m k ++ (if m / 2 ^ k % 2 = 1 then [(k : Int)] else [])
theorem lst_len (m : Nat) : ∀ k, (lst m k).length ≤ k
  | 0 => Nat.le_refl _
  | k + 1 => by have := lst_len m k; simp only [lst, List.length_append]; split <;> simp <;> omega
theorem r_listed (m : Nat) (w : World) (hm : m < 1024) :
    Calls Try.prog 97 #[.int .i64 m] w fun e w' => ∃ v, e = .returned v ∧ w'.ownsRow w.heap.size 3 1 v (lst m 10).length ((lst m 10).flatMap icell) ∧ Kept w w' := by
  go_enter Try.func97, Try.ntmps97
  go_wp2
  go_loopw [3, 4] (fun cv i wr => ∃ k : Nat, k ≤ 10 ∧ i = .int .i64 k ∧ wr.ownsRow w.heap.size 3 1 cv (lst m k).length ((lst m k).flatMap icell) ∧ Kept w wr) (fun _ i _ => 10 - (intOf i).toNat)
  case atStart => exact ⟨0, by omega, rfl, owns_nil (α := Int) (enc := icell), Below.refl _ _⟩
  case round =>
    obtain ⟨k, hk, rfl, hown, hkk⟩ := hrel
    have hll := lst_len m k
    have hks := hkk.size
    by_cases hlt : k < 10
    · have hq : m / 2 ^ k < 1024 := Nat.lt_of_le_of_lt (Nat.div_le_self _ _) hm
      have HB : bits BinOp.and IntKind.i64 (((m : Int) / 2 ^ k)) 1 = ((m / 2 ^ k % 2 : Nat) : Int) := by
        have := bits_and_one (m / 2 ^ k) hq
        rw [← this]
        simp
      have hb := Nat.mod_lt (m / 2 ^ k) (show 0 < 2 by omega)
      by_cases h1 : m / 2 ^ k % 2 = 1
      · have HS := Lib.hid (show lst m (k + 1) = lst m k ++ [(k : Int)] by simp only [lst]; rw [if_pos h1])
        rw [h1] at HB
        clear h1 hb
        go_wp2_with (at_builtin; obtain ⟨i0, hi, hz0, hz1, hz2⟩ := info_parts infoI2; refine wpList_append_own _ rfl _ _ 63 rfl w.heap.size 3 i0 (.int .i64 0) 1 8 Try.underlying63 hi hz0 hz1 hz2 rfl (by decide) _ _ _ rfl (hown.alloc _) ⟨wr.heap.size, 0, none⟩ 1 1 [.int .i64 k] rfl rfl (cell_one_at rfl _ _) (fun x hx => by simp at hx; subst hx; rfl) (by unfold maxLen; omega) (by omega) (by simp; omega) ?_; intro v' w9 hown' hgrow hnil; clear hi hz0 hz1 hz2)
        have hk9 : Kept w w9 := Kept.grown (Kept.alloc hkk _) (hown.alloc _) (Nat.le_refl _) hgrow
        go_roundw
        case rel =>
          have hown9 : w9.ownsRow w.heap.size 3 1 v' (lst m (k + 1)).length ((lst m (k + 1)).flatMap icell) := by rw [HS.out]; simpa [icell] using hown'
          first
          | exact ⟨k + 1, by omega, by go_num, hown9, hk9⟩
          | (apply Exists.intro; repeat (apply Exists.intro); refine ⟨?_, rfl⟩; exact ⟨k + 1, by omega, by go_num, hown9, hk9⟩)
        case measure => simp [intOf]; omega
      · have h0 : m / 2 ^ k % 2 = 0 := by omega
        have HS := Lib.hid (show lst m (k + 1) = lst m k by simp only [lst]; rw [if_neg h1, List.append_nil])
        rw [h0] at HB
        clear h1 hb h0
        go_wp2
        go_roundw
        case rel =>
          have hown9 := hown
          rw [← HS.out] at hown9
          first
          | exact ⟨k + 1, by omega, by go_num, hown9, hkk⟩
          | (apply Exists.intro; repeat (apply Exists.intro); refine ⟨?_, rfl⟩; exact ⟨k + 1, by omega, by go_num, hown9, hkk⟩)
        case measure => simp [intOf]; omega
    · obtain rfl : k = 10 := by omega
      obtain ⟨ad, cp, rfl, _⟩ := owns_row (enc := icell) (k := 1) (fun _ => rfl) hown
      go_wp2
      exact bodyPost_ret (v := .slice ad (lst m 10).length cp) (by simp [results, Try.results97, go_sem]) rfl ⟨_, rfl, hown, hkk⟩

end Go.Proofs.Ytlloijkmpmfapaa
