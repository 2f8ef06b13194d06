/-
  Breaches and what proves one: the plain side.
-/
import Derived.Test.YtlloijkmpmfapaaTrimPlain3
namespace Bal.Trim
def brP (xs : List Load) (ms : List Limit) (o : Option Nat) : List Put := match o with | some i => (match ms[i]? with | some m => choice m xs | none => []) | none => []
def breachE (xs : List Load) (ms : List Limit) : Int := if both xs ms = 0 then (match broken xs ms with | some _ => 0 | none => 6) else both xs ms
def breachN (xs : List Load) (ms : List Limit) : Int := if both xs ms = 0 then optN (broken xs ms) else 0
def breachP (xs : List Load) (ms : List Limit) : List Put := if both xs ms = 0 then brP xs ms (broken xs ms) else []
theorem broken_some {xs : List Load} {ms : List Limit} {k : Nat} (hk : k < ms.length) (hb : ∀ j, j < k → brk xs ms j = false) (h : ms[k].c < worstV ms[k] xs) : broken xs ms = some k :=
  firstOf_some hk hb (by rw [brk_at hk]; exact decide_eq_true h)
theorem broken_none {xs : List Load} {ms : List Limit} (hb : ∀ j, j < ms.length → brk xs ms j = false) : broken xs ms = none := firstOf_none hb
theorem brk_false {xs : List Load} {ms : List Limit} {k : Nat} (hk : k < ms.length) (h : ¬ ms[k].c < worstV ms[k] xs) : brk xs ms k = false := by rw [brk_at hk]; exact decide_eq_false h
theorem brP_at {xs : List Load} {ms : List Limit} {k : Nat} (hk : k < ms.length) : brP xs ms (some k) = choice ms[k] xs := by
  simp only [brP, List.getElem?_eq_getElem hk]
theorem broken_lt {xs : List Load} {ms : List Limit} {k : Nat} (h : broken xs ms = some k) : k < ms.length := (firstOf_get h).1
def putIn (x : Load) (p : Put) : Bool := inB p.pos x.alo x.ahi && inB p.wt x.wlo x.whi
def badAt (xs : List Load) (ps : List Put) (j : Nat) : Bool := match xs[j]?, ps[j]? with | some x, some p => !(putIn x p) | _, _ => false
theorem badAt_at {xs : List Load} {ps : List Put} {j : Nat} (h1 : j < xs.length) (h2 : j < ps.length) : badAt xs ps j = !(putIn xs[j] ps[j]) := by
  unfold badAt; rw [List.getElem?_eq_getElem h1, List.getElem?_eq_getElem h2]
theorem putIn_B {x : Load} {p : Put} (hx : loadB x = true) (h : putIn x p = true) : putB p := by
  have := loadB_bd hx
  simp [putIn, inB] at h
  unfold putB; omega
/-- what a check of a breach answers once the loads and the limits are valid, the number is one, and the puts are as many as the loads -/
def proofIn (xs : List Load) (m : Limit) (ps : List Put) : Int := if (firstOf (badAt xs ps) xs.length).isSome then 47 else if value m ps ≤ m.c then 47 else 0
def proofE (xs : List Load) (ms : List Limit) (n : Int) (ps : List Put) : Int :=
  if both xs ms = 0 then (if (inB n 0 (ms.length - 1) && decide (ps.length = xs.length)) = true then (match ms[n.toNat]? with | some m => proofIn xs m ps | none => 47) else 47) else both xs ms
theorem proof_bad {xs : List Load} {m : Limit} {ps : List Put} {k : Nat} (hk : k < xs.length) (hb : ∀ j, j < k → badAt xs ps j = false) (h : badAt xs ps k = true) : proofIn xs m ps = 47 := by
  unfold proofIn; rw [firstOf_some hk hb h]; rfl
theorem proof_good {xs : List Load} {m : Limit} {ps : List Put} (hb : ∀ j, j < xs.length → badAt xs ps j = false) : proofIn xs m ps = if value m ps ≤ m.c then 47 else 0 := by
  unfold proofIn; rw [firstOf_none hb]; rfl
theorem take_B {xs : List Load} {ps : List Put} {k : Nat} (hl : ps.length = xs.length) (hv : ∀ x ∈ xs, loadB x = true) (hk : k ≤ xs.length) (hb : ∀ j, j < k → badAt xs ps j = false) : ∀ p ∈ ps.take k, putB p := by
  intro p hp
  obtain ⟨j, hj, rfl⟩ := List.mem_iff_getElem.1 hp
  rw [List.length_take] at hj
  rw [List.getElem_take]
  have h1 := hb j (by omega)
  rw [badAt_at (by omega) (by omega)] at h1
  exact putIn_B (hv xs[j] (List.getElem_mem _)) (by simpa using h1)
theorem sum_take_B {m : Limit} {ps : List Put} {k : Nat} (hm : limitB m = true) (hn : ps.length ≤ 40) (h : ∀ p ∈ ps.take k, putB p) : -880000000000000000 ≤ sumBy (vOf m) (ps.take k) ∧ sumBy (vOf m) (ps.take k) ≤ 880000000000000000 := by
  have h1 := sumBy_bd (vOf m) 22000000000000000 (ps.take k) (fun p hp => vOf_bd hm (h p hp))
  have h2 : (ps.take k).length ≤ 40 := by rw [List.length_take]; omega
  omega
end Bal.Trim
