/-
  The bags: the loads that stay, the first good set; runs of lists; a number's bits. Plain Lean.
-/
import Derived.Test.YtlloijkmpmfapaaTrimPlainD
import Derived.Test.YtlloijkmpmfapaaTrimPlain4
namespace Bal.Trim
set_option linter.unusedVariables false
theorem run_at {n : Nat} : ∀ (pre : List (List Nat)) (x : List Nat) (rest : List (List Nat)), Run n (pre ++ x :: rest) none → next n x = rest.head?
  | [], x, [], h => h
  | [], x, y :: r, h => h.1
  | [p], x, rest, h => run_at [] x rest h.2
  | p :: q :: pre, x, rest, h => run_at (q :: pre) x rest h.2
theorem combs_next {n s : Nat} (hs : s ≤ n) {pre rest : List (List Nat)} {x : List Nat} (h : combs n s 0 = pre ++ x :: rest) : next n x = rest.head? := by
  obtain ⟨r, he, hr⟩ := combs_run (n := n) s 0 (by omega)
  rw [← he, h] at hr
  exact run_at pre x rest hr
theorem combs_first {n s : Nat} (hs : s ≤ n) : ∃ r, combs n s 0 = List.range s :: r := by
  obtain ⟨r, he, _⟩ := combs_run (n := n) s 0 (by omega)
  exact ⟨r, by rw [he, List.range_eq_range']⟩
theorem combs_nodup (n s : Nat) : (combs n s 0).Nodup :=
  (combs_sorted (n := n) s 0).imp fun {a b} h e => by subst e; rw [earlier_irr] at h; cases h
def leftOf (L : List (List Nat)) (x : List Nat) : Nat := (L.dropWhile (fun y => decide (y ≠ x))).length
theorem leftOf_at {L pre rest : List (List Nat)} {x : List Nat} (hd : L.Nodup) (h : L = pre ++ x :: rest) : leftOf L x = rest.length + 1 := by
  subst h
  have hx : ∀ y ∈ pre, decide (y ≠ x) = true := fun y hy => by
    rw [decide_eq_true_eq]
    rintro rfl
    exact (List.nodup_append.1 hd).2.2 y hy y (by simp) rfl
  unfold leftOf
  rw [List.dropWhile_append_of_pos hx]
  simp
theorem incr_lt {n : Nat} : ∀ (lo : Nat) (x : List Nat), incr n lo x → ∀ i ∈ x, i < n
  | _, [], _, i, hi => by simp at hi
  | lo, a :: as, ⟨_, h2, h3⟩, i, hi => by
    rcases List.mem_cons.1 hi with rfl | hi
    · exact h2
    · exact incr_lt (a + 1) as h3 i hi
theorem comb_mem {n s : Nat} {pre rest : List (List Nat)} {x : List Nat} (h : combs n s 0 = pre ++ x :: rest) : x.length = s ∧ incr n 0 x := (mem_combs s 0 x).1 (by rw [h]; simp)
/-- the list half turned: from p on q + 1, q + 2 .. up to k -/
def mid (x : List Nat) (p q k : Nat) : List Nat := x.take p ++ List.range' (q + 1) (k - p) ++ x.drop k
theorem mid_len {x : List Nat} {p q k : Nat} (h1 : p ≤ k) (h2 : k ≤ x.length) : (mid x p q k).length = x.length := by
  simp [mid]; omega
theorem mid_at {x : List Nat} {p q k : Nat} (h1 : p < k) (h2 : k ≤ x.length) (h3 : k - 1 < (mid x p q k).length) : (mid x p q k)[k - 1] = q + (k - p) := by
  have h : (mid x p q k)[k - 1]? = some (q + (k - p)) := by
    unfold mid
    rw [List.getElem?_append_left (by simp; omega), List.getElem?_append_right (by simp; omega), List.getElem?_range' (by simp; omega)]
    simp
    omega
  exact (List.getElem?_eq_some_iff.1 h).2
theorem mid_start {x : List Nat} {p q : Nat} (h : p < x.length) : x.set p (q + 1) = mid x p q (p + 1) := by
  unfold mid
  rw [List.set_eq_take_append_cons_drop, if_pos h, show p + 1 - p = 1 by omega]
  simp
theorem mid_set {x : List Nat} {p q k : Nat} (h1 : p < k) (h2 : k < x.length) : (mid x p q k).set k (q + (k - p) + 1) = mid x p q (k + 1) := by
  unfold mid
  have hl : (x.take p ++ List.range' (q + 1) (k - p)).length = k := by simp; omega
  rw [List.set_append, if_neg (by omega), hl, Nat.sub_self, List.drop_eq_getElem_cons h2, List.set_cons_zero, show k + 1 - p = (k - p) + 1 by omega, List.range'_concat]
  simp
  omega
theorem mid_end {x : List Nat} {p q : Nat} : mid x p q x.length = x.take p ++ List.range' (q + 1) (x.length - p) := by simp [mid]
/-! ### A number's bits -/
theorem listed_succ (m : Nat) : ∀ (k lo : Nat), listed m lo (k + 1) = listed m lo k ++ (if m.testBit (lo + k) then [lo + k] else [])
  | 0, lo => by simp [listed]
  | k + 1, lo => by
    rw [listed, listed_succ m k (lo + 1), listed, show lo + 1 + k = lo + (k + 1) by omega]
    split <;> simp
theorem earlier_len : ∀ (k lo m : Nat), (listed m lo k).length ≤ k
  | 0, _, _ => by simp [listed]
  | k + 1, lo, m => by
    have := earlier_len k (lo + 1) m
    simp only [listed]
    split <;> simp <;> omega
/-! ### The loads that stay -/
def exactL (p : Put) : Load := ⟨p.pos, p.pos, p.wt, p.wt⟩
def bagB (p : Put) : Bool := inB p.pos (-20000) 20000 && inB p.wt 1 1000000
def stay (bs : List Put) (f : Nat → Bool) : Nat → List Load
  | 0 => []
  | k + 1 => stay bs f k ++ (if f k then [] else match bs[k]? with | some b => [exactL b] | none => [])
theorem stay_drop {bs : List Put} {f : Nat → Bool} {k : Nat} (h : f k = true) : stay bs f (k + 1) = stay bs f k := by simp [stay, h]
theorem stay_keep {bs : List Put} {f : Nat → Bool} {k : Nat} (hk : k < bs.length) (h : f k = false) : stay bs f (k + 1) = stay bs f k ++ [exactL bs[k]] := by simp [stay, h, hk]
theorem stay_len (bs : List Put) (f : Nat → Bool) : ∀ k, (stay bs f k).length ≤ k
  | 0 => Nat.le_refl _
  | k + 1 => by
    have := stay_len bs f k
    simp only [stay, List.length_append]
    split
    · simp; omega
    · split <;> simp <;> omega
theorem stay_congr {bs : List Put} {f g : Nat → Bool} : ∀ k, (∀ i, i < k → f i = g i) → stay bs f k = stay bs g k
  | 0, _ => rfl
  | k + 1, h => by simp only [stay]; rw [stay_congr k (fun i hi => h i (by omega)), h k (by omega)]
theorem exact_B {p : Put} (h : bagB p = true) : loadB (exactL p) = true := by
  simp only [bagB, inB, Bool.and_eq_true, decide_eq_true_eq] at h
  show (spanB p.pos p.pos 20000 && spanB p.wt p.wt 1073741824) = true
  simp only [spanB, Bool.and_eq_true, decide_eq_true_eq]
  omega
theorem stay_B {bs : List Put} {f : Nat → Bool} (h : ∀ p ∈ bs, bagB p = true) : ∀ k, ∀ x ∈ stay bs f k, loadB x = true
  | 0, x, hx => by simp [stay] at hx
  | k + 1, x, hx => by
    simp only [stay, List.mem_append] at hx
    rcases hx with hx | hx
    · exact stay_B h k x hx
    · split at hx
      · simp at hx
      · split at hx
        · rename_i b hb
          simp at hx; subst hx
          exact exact_B (h b (List.mem_of_getElem? hb))
        · simp at hx
def left (xs : List Load) (bs : List Put) (x : List Nat) : List Load := xs ++ stay bs (fun i => decide (i ∈ x)) bs.length
def okSet (xs : List Load) (bs : List Put) (ms : List Limit) (x : List Nat) : Bool := (broken (left xs bs x) ms).isNone
def many (xs : List Load) (bs : List Put) : Bool := decide (10 < bs.length) || decide (40 < xs.length + bs.length)
def dropS (xs : List Load) (bs : List Put) (ms : List Limit) : Option (List Nat) := (order bs.length).find? (okSet xs bs ms)
theorem find_flat {α : Type} (ok : α → Bool) (f : Nat → List α) : ∀ (k lo n : Nat), (∀ s, lo ≤ s → s < lo + k → ∀ y ∈ f s, ok y = false) → ((List.range' lo (k + n)).flatMap f).find? ok = ((List.range' (lo + k) n).flatMap f).find? ok
  | 0, lo, n, _ => by simp
  | k + 1, lo, n, h => by
    rw [show k + 1 + n = (k + n) + 1 by omega, List.range'_succ, List.flatMap_cons, List.find?_append, List.find?_eq_none.2 (fun y hy => by rw [h lo (by omega) (by omega) y hy]; simp), Option.none_or]
    rw [find_flat ok f k (lo + 1) n (fun s h1 h2 => h s (by omega) (by omega)), show lo + 1 + k = lo + (k + 1) by omega]
theorem drop_none {ok : List Nat → Bool} {n : Nat} (h : ∀ s, s < n + 1 → ∀ y ∈ combs n s 0, ok y = false) : (order n).find? ok = none := by
  rw [List.find?_eq_none]
  intro x hx
  simp only [order, List.mem_flatMap, List.mem_range] at hx
  obtain ⟨s, hs, hx⟩ := hx
  rw [h s hs x hx]
  simp
theorem drop_found {ok : List Nat → Bool} {n k : Nat} {pre rest : List (List Nat)} {x : List Nat} (hk : k < n + 1) (h : ∀ s, s < k → ∀ y ∈ combs n s 0, ok y = false) (hL : combs n k 0 = pre ++ x :: rest) (hp : ∀ y ∈ pre, ok y = false) (hx : ok x = true) : (order n).find? ok = some x := by
  unfold order
  rw [List.range_eq_range', show n + 1 = k + (n + 1 - k) by omega, find_flat ok _ k 0 _ (fun s _ hs => h s (by omega)), show n + 1 - k = (n - k) + 1 by omega, Nat.zero_add, List.range'_succ, List.flatMap_cons, hL]
  rw [List.append_assoc, List.find?_append, List.find?_eq_none.2 (fun y hy => by rw [hp y hy]; simp), Option.none_or]
  simp [hx]
def dropE (xs : List Load) (bs : List Put) (ms : List Limit) : Int :=
  if both xs ms = 0 then (if many xs bs then 4 else if bs.all bagB then (match dropS xs bs ms with | some _ => 0 | none => 6) else 40) else both xs ms
def dropL (xs : List Load) (bs : List Put) (ms : List Limit) : List Int :=
  if dropE xs bs ms = 0 then (match dropS xs bs ms with | some x => x.map Int.ofNat | none => []) else []
end Bal.Trim
