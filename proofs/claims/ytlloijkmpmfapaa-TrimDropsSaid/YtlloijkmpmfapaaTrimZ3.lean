/-
  A number's bits as a list: the reference's words and the plain ones.
-/
import Derived.Test.YtlloijkmpmfapaaTrimZ2
import Derived.Test.YtlloijkmpmfapaaTrimPlainE
namespace Go.Proofs.Ytlloijkmpmfapaa
open Go.RowKit Bal Bal.Trim
set_option linter.unusedVariables false
theorem lst_listed (m : Nat) : ∀ k, lst m k = (listed m 0 k).map (fun i : Nat => (i : Int))
  | 0 => rfl
  | k + 1 => by
    rw [lst, listed_succ, List.map_append, lst_listed m k, Nat.zero_add, Nat.testBit_eq_decide_div_mod_eq]
    by_cases h : m / 2 ^ k % 2 = 1 <;> simp [h]
theorem cnt_listed (m : Nat) : ∀ k, cnt m k = (listed m 0 k).length
  | 0 => rfl
  | k + 1 => by
    have := Nat.mod_lt (m / 2 ^ k) (show 0 < 2 by omega)
    rw [cnt, listed_succ, List.length_append, cnt_listed m k, Nat.zero_add, Nat.testBit_eq_decide_div_mod_eq]
    by_cases h : m / 2 ^ k % 2 = 1
    · simp [h]
    · have h0 : m / 2 ^ k % 2 = 0 := by omega
      simp [h0]
theorem earlierI_map : ∀ xs ys : List Nat, earlierI (xs.map (fun i : Nat => (i : Int))) (ys.map (fun i : Nat => (i : Int))) = earlier xs ys
  | [], ys => by cases ys <;> rfl
  | x :: xs, [] => rfl
  | x :: xs, y :: ys => by
    simp only [List.map_cons, earlierI, earlier, earlierI_map xs ys]
    by_cases h : x = y
    · subst h; simp
    · have h' : ¬ (x : Int) = (y : Int) := by omega
      rw [if_neg h, if_neg h']
      exact decide_eq_decide.2 (by omega)
end Go.Proofs.Ytlloijkmpmfapaa
