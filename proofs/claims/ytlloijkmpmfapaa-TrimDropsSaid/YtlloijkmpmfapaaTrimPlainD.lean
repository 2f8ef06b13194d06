/-
  The first of the fewest: all sets of numbers below n in order; one pass over all of them in any order keeps the first good one. Plain Lean.
-/
namespace Bal.Trim
/-- whether the indices of one list come before those of another one, of as many -/
def earlier : List Nat → List Nat → Bool
  | a :: as, b :: bs => if a = b then earlier as bs else decide (a < b)
  | _, _ => false
/-- fewer first, then by earlier -/
def before (a b : List Nat) : Bool := decide (a.length < b.length) || (decide (a.length = b.length) && earlier a b)
theorem earlier_trans : ∀ (a b c : List Nat), a.length = b.length → b.length = c.length → earlier a b = true → earlier b c = true → earlier a c = true
  | [], _, _, _, _, h, _ => by simp [earlier] at h
  | a :: as, [], _, hl, _, _, _ => by simp at hl
  | a :: as, b :: bs, [], _, hl, _, _ => by simp at hl
  | a :: as, b :: bs, c :: cs, h1, h2, h3, h4 => by
    simp only [earlier] at h3 h4 ⊢
    simp only [List.length_cons, Nat.add_right_cancel_iff] at h1 h2
    by_cases hab : a = b
    · subst hab
      by_cases hac : a = c
      · subst hac
        simp only [if_true] at h3 h4 ⊢
        exact earlier_trans as bs cs h1 h2 h3 h4
      · simp only [hac, if_false] at h4 ⊢
        exact h4
    · simp only [hab, if_false, decide_eq_true_eq] at h3
      by_cases hbc : b = c
      · subst hbc
        simp only [hab, if_false, decide_eq_true_eq]
        exact h3
      · simp only [hbc, if_false, decide_eq_true_eq] at h4
        have hac : a ≠ c := by omega
        simp only [hac, if_false, decide_eq_true_eq]
        omega
theorem before_trans (a b c : List Nat) (h1 : before a b = true) (h2 : before b c = true) : before a c = true := by
  simp only [before, Bool.or_eq_true, Bool.and_eq_true, decide_eq_true_eq] at h1 h2 ⊢
  rcases h1 with h1 | ⟨h1, h1'⟩
  · rcases h2 with h2 | ⟨h2, _⟩
    · left; omega
    · left; omega
  · rcases h2 with h2 | ⟨h2, h2'⟩
    · left; omega
    · right; exact ⟨by omega, earlier_trans a b c h1 h2 h1' h2'⟩
/-- one pass over all sets, the best so far kept -/
def bestStep (ok : List Nat → Bool) (best : Option (List Nat)) (x : List Nat) : Option (List Nat) :=
  match best with
  | none => if ok x then some x else none
  | some b => if before x b && ok x then some x else some b
def BestOf (ok : List Nat → Bool) (seen : List (List Nat)) : Option (List Nat) → Prop
  | none => ∀ x ∈ seen, ok x = false
  | some b => b ∈ seen ∧ ok b = true ∧ ∀ x ∈ seen, ok x = true → before x b = false
theorem bestStep_ok {ok : List Nat → Bool} {seen : List (List Nat)} {best : Option (List Nat)} (irr : ∀ x, before x x = false) (h : BestOf ok seen best) (x : List Nat) : BestOf ok (seen ++ [x]) (bestStep ok best x) := by
  cases best with
  | none =>
    simp only [bestStep]
    cases hx : ok x
    · simp only [Bool.false_eq_true, if_false]
      intro y hy
      rcases List.mem_append.1 hy with hy | hy
      · exact h y hy
      · simp at hy; subst hy; exact hx
    · simp only [if_true]
      refine ⟨by simp, hx, fun y hy hoy => ?_⟩
      rcases List.mem_append.1 hy with hy | hy
      · rw [h y hy] at hoy; cases hoy
      · simp at hy; subst hy; exact irr y
  | some b =>
    obtain ⟨h1, h2, h3⟩ := h
    simp only [bestStep]
    by_cases hc : (before x b && ok x) = true
    · rw [if_pos hc]
      simp only [Bool.and_eq_true] at hc
      refine ⟨by simp, hc.2, fun y hy hoy => ?_⟩
      rcases List.mem_append.1 hy with hy | hy
      · have := h3 y hy hoy
        cases hyx : before y x with
        | false => rfl
        | true => rw [before_trans y x b hyx hc.1] at this; cases this
      · simp at hy; subst hy; exact irr y
    · rw [if_neg hc]
      refine ⟨by simp [h1], h2, fun y hy hoy => ?_⟩
      rcases List.mem_append.1 hy with hy | hy
      · exact h3 y hy hoy
      · simp at hy; subst hy
        cases hb : before y b with
        | false => rfl
        | true => exact absurd (by rw [hb, hoy]; rfl) hc
theorem earlier_irr : ∀ a : List Nat, earlier a a = false
  | [] => rfl
  | a :: as => by simp only [earlier, if_true]; exact earlier_irr as
theorem before_irr (a : List Nat) : before a a = false := by simp [before, earlier_irr]
/-- THE LAW: where the lists in order hold the same sets, the first good one is the best one. -/
theorem best_is_first {ok : List Nat → Bool} {seen order : List (List Nat)} {best : Option (List Nat)} (hs : order.Pairwise (fun a b => before a b = true)) (hm : ∀ x, x ∈ order ↔ x ∈ seen) (h : BestOf ok seen best) : order.find? ok = best := by
  cases best with
  | none =>
    rw [List.find?_eq_none]
    intro x hx
    rw [h x ((hm x).1 hx)]
    simp
  | some b =>
    obtain ⟨h1, h2, h3⟩ := h
    have hb : b ∈ order := (hm b).2 h1
    cases hf : order.find? ok with
    | none =>
      rw [List.find?_eq_none] at hf
      exact absurd h2 (hf b hb)
    | some y =>
      obtain ⟨hy, as, bs, rfl, hno⟩ := List.find?_eq_some_iff_append.1 hf
      rcases List.mem_append.1 hb with hb | hb
      · have := hno b hb
        rw [h2] at this
        simp at this
      · rcases List.mem_cons.1 hb with rfl | hb
        · rfl
        · have h4 : before y b = true := by
            rw [List.pairwise_append] at hs
            exact (List.pairwise_cons.1 hs.2.1).1 b hb
          rw [h3 y ((hm y).1 (by simp)) hy] at h4
          cases h4
/-! ### The sets in order, and as a number's bits tell them -/
def incr (n : Nat) : Nat → List Nat → Prop
  | _, [] => True
  | lo, a :: as => lo ≤ a ∧ a < n ∧ incr n (a + 1) as
def combs (n : Nat) : Nat → Nat → List (List Nat)
  | 0, _ => [[]]
  | s + 1, lo => (List.range (n - lo)).flatMap fun d => (combs n s (lo + d + 1)).map (fun l => (lo + d) :: l)
theorem mem_combs {n : Nat} : ∀ (s lo : Nat) (x : List Nat), x ∈ combs n s lo ↔ x.length = s ∧ incr n lo x
  | 0, lo, x => by
    cases x with
    | nil => simp [combs, incr]
    | cons a as => simp [combs]
  | s + 1, lo, x => by
    simp only [combs, List.mem_flatMap, List.mem_range, List.mem_map]
    constructor
    · rintro ⟨d, hd, l, hl, rfl⟩
      obtain ⟨h1, h2⟩ := (mem_combs s _ l).1 hl
      exact ⟨by simp [h1], by omega, by omega, h2⟩
    · rintro ⟨h1, h2⟩
      cases x with
      | nil => simp at h1
      | cons a as =>
        obtain ⟨h3, h4, h5⟩ := h2
        refine ⟨a - lo, by omega, as, (mem_combs s _ as).2 ⟨by simpa using h1, ?_⟩, ?_⟩
        · rw [show lo + (a - lo) + 1 = a + 1 by omega]; exact h5
        · rw [show lo + (a - lo) = a by omega]
theorem combs_sorted {n : Nat} : ∀ (s lo : Nat), (combs n s lo).Pairwise (fun a b => earlier a b = true)
  | 0, lo => by simp [combs]
  | s + 1, lo => by
    simp only [combs]
    rw [List.pairwise_flatMap]
    refine ⟨fun d _ => ?_, ?_⟩
    · rw [List.pairwise_map]
      refine (combs_sorted s (lo + d + 1)).imp fun {a b} h => ?_
      simp only [earlier, if_true]
      exact h
    · refine List.Pairwise.imp (R := fun a b => a < b) ?_ List.pairwise_lt_range
      intro a b hab x hx y hy
      obtain ⟨x', _, rfl⟩ := List.mem_map.1 hx
      obtain ⟨y', _, rfl⟩ := List.mem_map.1 hy
      have hne : lo + a ≠ lo + b := by omega
      simp only [earlier, hne, if_false, decide_eq_true_eq]
      omega
/-- all sets of numbers below n: the smaller ones first -/
def order (n : Nat) : List (List Nat) := (List.range (n + 1)).flatMap fun s => combs n s 0
theorem order_sorted (n : Nat) : (order n).Pairwise (fun a b => before a b = true) := by
  unfold order
  rw [List.pairwise_flatMap]
  refine ⟨fun s _ => ?_, ?_⟩
  · refine List.Pairwise.imp_of_mem ?_ (combs_sorted (n := n) s 0)
    intro a b ha hb h
    have h1 := ((mem_combs s 0 a).1 ha).1
    have h2 := ((mem_combs s 0 b).1 hb).1
    simp [before, h, h1, h2]
  · refine List.Pairwise.imp (R := fun a b => a < b) ?_ List.pairwise_lt_range
    intro s t hst x hx y hy
    have h1 := ((mem_combs s 0 x).1 hx).1
    have h2 := ((mem_combs t 0 y).1 hy).1
    have : x.length < y.length := by omega
    simp [before, this]
theorem incr_len {n : Nat} : ∀ (lo : Nat) (x : List Nat), incr n lo x → x.length ≤ n - lo
  | lo, [], _ => by simp
  | lo, a :: as, ⟨h1, h2, h3⟩ => by
    have := incr_len (a + 1) as h3
    simp only [List.length_cons]
    omega
theorem mem_order {n : Nat} (x : List Nat) : x ∈ order n ↔ incr n 0 x := by
  simp only [order, List.mem_flatMap, List.mem_range]
  constructor
  · rintro ⟨s, _, h⟩; exact ((mem_combs s 0 x).1 h).2
  · intro h
    have := incr_len 0 x h
    exact ⟨x.length, by omega, (mem_combs _ 0 x).2 ⟨rfl, h⟩⟩
/-- the numbers of the bits that are set, of the first k -/
def listed (m : Nat) : Nat → Nat → List Nat
  | _, 0 => []
  | lo, k + 1 => if m.testBit lo then lo :: listed m (lo + 1) k else listed m (lo + 1) k
theorem listed_incr {m n : Nat} (hm : m < 2 ^ n) : ∀ (k lo : Nat), incr n lo (listed m lo k)
  | 0, lo => trivial
  | k + 1, lo => by
    have ih := listed_incr hm k (lo + 1)
    have mono : ∀ (l : List Nat) (a b : Nat), a ≤ b → incr n b l → incr n a l := by
      intro l a b hab h
      cases l with
      | nil => trivial
      | cons c cs => exact ⟨by have := h.1; omega, h.2⟩
    simp only [listed]
    split
    · rename_i hb
      refine ⟨Nat.le_refl _, ?_, ih⟩
      have := Nat.ge_two_pow_of_testBit hb
      rcases Nat.lt_or_ge lo n with h | h
      · exact h
      · have := Nat.pow_le_pow_right (show 0 < 2 by omega) h
        omega
    · exact mono _ _ _ (by omega) ih
/-- the number whose bits are a list's -/
def mask : List Nat → Nat
  | [] => 0
  | a :: as => 2 ^ a ||| mask as
theorem mask_bit : ∀ (x : List Nat) (i : Nat), (mask x).testBit i = decide (i ∈ x)
  | [], i => by simp [mask]
  | a :: as, i => by
    simp only [mask, Nat.testBit_or, mask_bit as i, Nat.testBit_two_pow, List.mem_cons]
    by_cases h : a = i
    · subst h; simp
    · have h' : ¬ i = a := fun e => h e.symm
      simp [h, h']
theorem mask_lt {n : Nat} : ∀ (lo : Nat) (x : List Nat), incr n lo x → mask x < 2 ^ n
  | _, [], _ => Nat.two_pow_pos n
  | lo, a :: as, ⟨_, h2, h3⟩ => by
    refine Nat.or_lt_two_pow ?_ (mask_lt (a + 1) as h3)
    exact Nat.pow_lt_pow_right (by omega) h2
theorem incr_ge {n : Nat} : ∀ (lo : Nat) (x : List Nat), incr n lo x → ∀ i ∈ x, lo ≤ i
  | _, [], _, i, hi => by simp at hi
  | lo, a :: as, ⟨h1, _, h3⟩, i, hi => by
    rcases List.mem_cons.1 hi with rfl | hi
    · exact h1
    · have := incr_ge (a + 1) as h3 i hi
      omega
theorem listed_eq {n m : Nat} : ∀ (k lo : Nat) (x : List Nat), incr n lo x → (∀ i, lo ≤ i → m.testBit i = decide (i ∈ x)) → n ≤ lo + k → listed m lo k = x
  | 0, lo, x, h, _, hn => by
    cases x with
    | nil => rfl
    | cons a as => obtain ⟨h1, h2, _⟩ := h; omega
  | k + 1, lo, x, h, hb, hn => by
    simp only [listed, hb lo (Nat.le_refl _), decide_eq_true_eq]
    split
    · rename_i hlo
      cases x with
      | nil => simp at hlo
      | cons a as =>
        obtain ⟨h1, h2, h3⟩ := h
        have ha : a = lo := by
          rcases List.mem_cons.1 hlo with e | hlo
          · exact e.symm
          · have := incr_ge (a + 1) as h3 lo hlo
            omega
        subst ha
        rw [listed_eq k (a + 1) as h3 (fun i hi => ?_) (by omega)]
        rw [hb i (by omega)]
        have hne : ¬ i = a := by omega
        simp [hne]
    · rename_i hlo
      refine listed_eq (n := n) k (lo + 1) x ?_ (fun i hi => hb i (Nat.le_of_succ_le hi)) (by omega)
      cases x with
      | nil => trivial
      | cons a as =>
        obtain ⟨h1, h2, h3⟩ := h
        refine ⟨?_, h2, h3⟩
        have : a ≠ lo := by rintro rfl; exact hlo (by simp)
        omega
/-- all sets as the reference lists them -/
def seen (n : Nat) : List (List Nat) := (List.range (2 ^ n)).map (fun m => listed m 0 10)
theorem mem_seen {n : Nat} (hn : n ≤ 10) (x : List Nat) : x ∈ seen n ↔ incr n 0 x := by
  simp only [seen, List.mem_map, List.mem_range]
  constructor
  · rintro ⟨m, hm, rfl⟩; exact listed_incr hm 10 0
  · intro h
    exact ⟨mask x, mask_lt 0 x h, listed_eq 10 0 x h (fun i _ => mask_bit x i) (by omega)⟩
theorem order_is_seen {n : Nat} (hn : n ≤ 10) (x : List Nat) : x ∈ order n ↔ x ∈ seen n := by rw [mem_order, mem_seen hn]
/-- THE LAW OF THE BAGS: the first good set in order is the one that a pass over all sets keeps -/
theorem first_is_best {n : Nat} {ok : List Nat → Bool} {best : Option (List Nat)} (hn : n ≤ 10) (h : BestOf ok (seen n) best) : (order n).find? ok = best :=
  best_is_first (order_sorted n) (fun x => order_is_seen hn x) h
/-! ### One list behind the other, as the program makes them -/
/-- the list that follows -/
def next (n : Nat) : List Nat → Option (List Nat)
  | [] => none
  | a :: as => match next n as with
    | some as' => some (a :: as')
    | none => if a + 1 + as.length < n then some (List.range' (a + 1) (as.length + 1)) else none
/-- each list is followed by the next one, the last one by o -/
def Run (n : Nat) : List (List Nat) → Option (List Nat) → Prop
  | [], _ => True
  | [l], o => next n l = o
  | l :: l' :: r, o => next n l = some l' ∧ Run n (l' :: r) o
theorem run_append {n : Nat} : ∀ (M L : List (List Nat)) (h o), M ≠ [] → Run n M (some h) → Run n (h :: L) o → Run n (M ++ h :: L) o
  | [], _, _, _, hM, _, _ => absurd rfl hM
  | [l], L, h, o, _, h1, h2 => ⟨h1, h2⟩
  | l :: l' :: r, L, h, o, _, h1, h2 => ⟨h1.1, run_append (l' :: r) L h o (by simp) h1.2 h2⟩
theorem run_map {n a s : Nat} : ∀ (M : List (List Nat)), (∀ l ∈ M, l.length = s) → M ≠ [] → Run n M none → Run n (M.map (fun l => a :: l)) (if a + 1 + s < n then some (List.range' (a + 1) (s + 1)) else none)
  | [], _, hM, _ => absurd rfl hM
  | [l], hl, _, h => by
    have h1 : next n l = none := h
    have h2 := hl l (by simp)
    show next n (a :: l) = _
    simp only [next, h1, h2]
  | l :: l' :: r, hl, _, h => by
    refine ⟨?_, run_map (l' :: r) (fun x hx => hl x (by simp at hx ⊢; right; exact hx)) (by simp) h.2⟩
    simp only [next, h.1]
theorem combs_len {n : Nat} : ∀ (s lo : Nat), ∀ l ∈ combs n s lo, l.length = s
  | 0, lo, l, h => by simp [combs] at h; simp [h]
  | s + 1, lo, l, h => by
    simp only [combs, List.mem_flatMap, List.mem_map] at h
    obtain ⟨d, _, l', h', rfl⟩ := h
    simp [combs_len s _ l' h']
theorem combs_succ {n : Nat} (s lo : Nat) (h : lo < n) : combs n (s + 1) lo = (combs n s (lo + 1)).map (fun l => lo :: l) ++ combs n (s + 1) (lo + 1) := by
  simp only [combs]
  rw [show n - lo = (n - (lo + 1)) + 1 by omega, List.range_succ_eq_map, List.flatMap_cons, List.flatMap_map]
  congr 1
  congr 1
  funext d
  simp only [Nat.succ_eq_add_one]
  rw [show lo + (d + 1) = lo + 1 + d by omega]
theorem combs_none {n : Nat} : ∀ (s lo : Nat), n < lo + (s + 1) → combs n (s + 1) lo = []
  | 0, lo, h => by
    simp only [combs]
    rw [show n - lo = 0 by omega]
    rfl
  | s + 1, lo, h => by
    rw [combs]
    rw [List.flatMap_eq_nil_iff]
    intro d hd
    rw [List.map_eq_nil_iff]
    exact combs_none s (lo + d + 1) (by omega)
theorem combs_run_lo {n s : Nat} (ih : ∀ lo, lo + s ≤ n → ∃ r, combs n s lo = List.range' lo s :: r ∧ Run n (List.range' lo s :: r) none) : ∀ (k lo : Nat), n - lo = k → lo + (s + 1) ≤ n →
    ∃ r, combs n (s + 1) lo = List.range' lo (s + 1) :: r ∧ Run n (List.range' lo (s + 1) :: r) none
  | 0, lo, hk, h => by omega
  | k + 1, lo, hk, h => by
    obtain ⟨r1, e1, h1⟩ := ih (lo + 1) (by omega)
    have hm := run_map (a := lo) (s := s) (List.range' (lo + 1) s :: r1) (fun l hl => combs_len s (lo + 1) l (by rw [e1]; exact hl)) (by simp) h1
    have hr : List.range' lo (s + 1) = lo :: List.range' (lo + 1) s := by rw [List.range'_succ]
    by_cases hc : lo + 1 + s < n
    · obtain ⟨r2, e2, h2⟩ := combs_run_lo ih k (lo + 1) (by omega) (by omega)
      rw [if_pos hc] at hm
      refine ⟨r1.map (fun l => lo :: l) ++ (List.range' (lo + 1) (s + 1) :: r2), ?_, ?_⟩
      · rw [combs_succ s lo (by omega), e1, e2, hr]; rfl
      · have := run_append _ r2 _ none (by simp) hm h2
        rw [hr]
        exact this
    · rw [if_neg hc] at hm
      refine ⟨r1.map (fun l => lo :: l), ?_, ?_⟩
      · rw [combs_succ s lo (by omega), e1, combs_none s (lo + 1) (by omega), hr]; simp
      · rw [hr]; exact hm
/-- THE LAW OF THE NEXT ONE: all lists of s numbers below n are a run from the first one -/
theorem combs_run {n : Nat} : ∀ (s lo : Nat), lo + s ≤ n → ∃ r, combs n s lo = List.range' lo s :: r ∧ Run n (List.range' lo s :: r) none
  | 0, lo, _ => ⟨[], by simp [combs], rfl⟩
  | s + 1, lo, h => combs_run_lo (fun lo hl => combs_run s lo hl) (n - lo) lo rfl h
/-- nothing follows a list that stands at the end -/
theorem next_none {n : Nat} : ∀ (lo : Nat) (l : List Nat), incr n lo l → (∀ (i : Nat) (h : i < l.length), l[i] = n - l.length + i) → next n l = none
  | _, [], _, _ => rfl
  | lo, a :: as, hi, h => by
    obtain ⟨_, h2, h3⟩ := hi
    have hl := incr_len (a + 1) as h3
    have h0 := h 0 (by simp)
    simp only [List.getElem_cons_zero, List.length_cons] at h0
    have ih := next_none (a + 1) as h3 (fun i hi => by
      have := h (i + 1) (by simp; omega)
      simp only [List.getElem_cons_succ, List.length_cons] at this
      omega)
    simp only [next, ih]
    rw [if_neg (by omega)]
/-- what follows: the last number that can grow, grown by one, and the rest close behind it -/
theorem next_some {n : Nat} : ∀ (lo : Nat) (l : List Nat), incr n lo l → ∀ (i : Nat) (hi : i < l.length), l[i] ≠ n - l.length + i → (∀ (j : Nat) (h : j < l.length), i < j → l[j] = n - l.length + j) →
    next n l = some (l.take i ++ List.range' (l[i] + 1) (l.length - i))
  | _, [], _, i, hi, _, _ => by simp at hi
  | lo, a :: as, hin, 0, hi, hne, h => by
    obtain ⟨_, h2, h3⟩ := hin
    have hl := incr_len (a + 1) as h3
    have ih := next_none (a + 1) as h3 (fun i hi => by
      have := h (i + 1) (by simp; omega) (by omega)
      simp only [List.getElem_cons_succ, List.length_cons] at this
      omega)
    simp only [List.getElem_cons_zero, List.length_cons] at hne
    simp only [next, ih]
    rw [if_pos (by omega)]
    simp
  | lo, a :: as, hin, i + 1, hi, hne, h => by
    obtain ⟨_, h2, h3⟩ := hin
    have hl := incr_len (a + 1) as h3
    simp only [List.length_cons] at hi
    have ih := next_some (a + 1) as h3 i (by omega) (by
      simp only [List.getElem_cons_succ, List.length_cons] at hne
      omega) (fun j hj hij => by
      have := h (j + 1) (by simp; omega) (by omega)
      simp only [List.getElem_cons_succ, List.length_cons] at this
      omega)
    simp only [next, ih]
    simp
end Bal.Trim
