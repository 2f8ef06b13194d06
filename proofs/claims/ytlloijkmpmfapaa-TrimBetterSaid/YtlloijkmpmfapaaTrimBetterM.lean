/-
  TrimBetter, the statement: for every input the call returns true and leaves the input alone.
-/
import Derived.Test.YtlloijkmpmfapaaTrimBaseM
import Derived.WalkSmall
import Derived.Maps.OwnSet
import Derived.Deep.MidRow
import Derived.Deep.DeepCutAuto
import Derived.Test.YtlloijkmpmfapaaRows
set_option linter.unusedVariables false
set_option linter.unusedSimpArgs false
namespace Bal.Trim
/-! ### Shear and bending -/
theorem sumBy_le {α : Type} (g h : α → Int) (xs : List α) (hh : ∀ x, g x ≤ h x) : sumBy g xs ≤ sumBy h xs := by
  induction xs with
  | nil => simp
  | cons x xs ih => rw [sumBy_cons, sumBy_cons]; have := hh x; omega
end Bal.Trim

namespace Bal
open Go Go.RowKit
theorem owns_setB {w : World} {base k n b i : Nat} {e : TypeId} {v u : Value} {xs : List Value} (ho : w.ownsRow base e k v n xs) (hne : v.ownBlock ≠ some b) : (w.setCell ⟨b, i, none⟩ u).ownsRow base e k v n xs := by
  obtain ⟨h1, h2 | ⟨g, cap, cur, hv, hg, hh, r⟩⟩ := ho
  · exact ⟨h1, .inl h2⟩
  · refine ⟨h1, .inr ⟨g, cap, cur, hv, hg, ?_, r⟩⟩
    have hgb : b ≠ g := by
      rintro rfl
      exact hne (by rw [hv]; rfl)
    exact Blk.other (w := w) (b := g) (arr := cur) (t := e) (a := ⟨b, i, none⟩) hh (by simpa using hgb) u
end Bal

/-
  Loads that are known better, and loads in another order: the plain law of TrimBetter.
-/
namespace Bal.Trim
theorem sumBy_put {α : Type} (g : α → Int) : ∀ (l : List α) (i : Nat) (x : α) (hi : i < l.length), sumBy g (l.set i x) = sumBy g l - g l[i] + g x
  | [], i, x, hi => by simp at hi
  | y :: ys, 0, x, hi => by simp [sumBy_cons]; omega
  | y :: ys, i + 1, x, hi => by
    have := sumBy_put g ys i x (by simpa using hi)
    rw [List.set_cons_succ, sumBy_cons, sumBy_cons, this]; simp; omega
/-- a load that is known exactly -/
def known (xs : List Load) (i : Nat) (p : Put) : List Load := xs.set i (exactL p)
/-- a load of the same place, without weight -/
def light (x : Load) : Load := ⟨x.alo, x.ahi, 0, 0⟩
/-- two loads change places -/
def swapped (xs : List Load) (i k : Nat) (hi : i < xs.length) (hk : k < xs.length) : List Load := (xs.set i xs[k]).set k xs[i]
def other (xs : List Load) (i k : Nat) (hi : i < xs.length) (hk : k < xs.length) : List Load := swapped xs i k hi hk ++ [light xs[i]]
theorem known_len (xs : List Load) (i : Nat) (p : Put) : (known xs i p).length = xs.length := by simp [known]
theorem other_len (xs : List Load) (i k : Nat) (hi : i < xs.length) (hk : k < xs.length) : (other xs i k hi hk).length = xs.length + 1 := by simp [other, swapped]
theorem sum_swapped (g : Load → Int) (xs : List Load) (i k : Nat) (hi : i < xs.length) (hk : k < xs.length) : sumBy g (swapped xs i k hi hk) = sumBy g xs := by
  unfold swapped
  rw [sumBy_put _ _ _ _ (by simpa using hk), sumBy_put _ _ _ _ hi, List.getElem_set]
  split
  · rename_i h; subst h; omega
  · omega
theorem sum_other (g : Load → Int) (xs : List Load) (i k : Nat) (hi : i < xs.length) (hk : k < xs.length) (h0 : g (light xs[i]) = 0) : sumBy g (other xs i k hi hk) = sumBy g xs := by
  unfold other
  rw [sumBy_append, sum_swapped, sumBy_cons, h0]; simp [sumBy]
theorem sum_known (g : Load → Int) (xs : List Load) (i : Nat) (p : Put) (hi : i < xs.length) : sumBy g (known xs i p) = sumBy g xs - g xs[i] + g (exactL p) := sumBy_put g xs i _ hi
theorem vOf_light (m : Limit) (x : Load) : vOf m (best m (light x)) = 0 := by
  rw [best_v]; simp [vOf, light]
theorem t_zero (a b : Int) : tLo a b 0 0 = 0 ∧ tHi a b 0 0 = 0 := by simp [tLo, tHi]
theorem t_one (a c : Int) : tLo a a c c = a * c ∧ tHi a a c c = a * c := by unfold tLo tHi; omega
theorem worst_other (m : Limit) (xs : List Load) (i k : Nat) (hi : i < xs.length) (hk : k < xs.length) : worstV m (other xs i k hi hk) = worstV m xs := by
  rw [worstV_eq, worstV_eq, sum_other _ _ _ _ _ _ (vOf_light m xs[i])]
theorem vOf_exact (m : Limit) (p : Put) : vOf m (best m (exactL p)) = vOf m p := by
  rw [best_v]; simp [exactL]
theorem worst_known {m : Limit} {xs : List Load} {i : Nat} {p : Put} (hi : i < xs.length) (hp : putIn xs[i] p = true) : worstV m (known xs i p) ≤ worstV m xs := by
  rw [worstV_eq, worstV_eq, sum_known _ _ _ _ hi, vOf_exact]
  have := no_worse (m := m) hp
  omega
/-! ### Breaches -/
theorem broken_same {xs ys : List Load} {ms : List Limit} (h : ∀ m, worstV m ys = worstV m xs) : broken ys ms = broken xs ms := by
  have : brk ys ms = brk xs ms := by funext i; unfold brk; split <;> simp [h]
  unfold broken; rw [this]
theorem brk_less {xs ys : List Load} {ms : List Limit} (h : ∀ m, worstV m ys ≤ worstV m xs) (i : Nat) (hb : brk xs ms i = false) : brk ys ms i = false := by
  unfold brk at *
  split at hb
  · rename_i m hm
    rw [decide_eq_false_iff_not] at *
    have := h m
    omega
  · rfl
/-- what breaks a limit with better known loads breaks no earlier one with the others -/
theorem broken_less {xs ys : List Load} {ms : List Limit} (h : ∀ m, worstV m ys ≤ worstV m xs) :
    (broken xs ms = none → broken ys ms = none) ∧ (∀ a b, broken xs ms = some a → broken ys ms = some b → a ≤ b) := by
  constructor
  · intro h1
    exact broken_none fun j hj => brk_less h j (broken_never h1 hj)
  · intro a b h1 h2
    apply Nat.le_of_not_lt
    intro hlt
    have h3 := brk_less h b (broken_before h1 hlt)
    have h4 := (firstOf_get h2).2
    rw [h3] at h4; cases h4
/-! ### Frames -/
theorem strain_same {xs ys : List Load} (h : ∀ n, sumBy (sLo n) ys = sumBy (sLo n) xs ∧ sumBy (sHi n) ys = sumBy (sHi n) xs ∧ sumBy (bLo n) ys = sumBy (bLo n) xs ∧ sumBy (bHi n) ys = sumBy (bHi n) xs) (f : Frm) : strain ys f = strain xs f := by
  obtain ⟨h1, h2, h3, h4⟩ := h f.pos
  unfold strain; rw [h1, h2, h3, h4]
theorem other_sums (xs : List Load) (i k : Nat) (hi : i < xs.length) (hk : k < xs.length) (n : Int) :
    sumBy (sLo n) (other xs i k hi hk) = sumBy (sLo n) xs ∧ sumBy (sHi n) (other xs i k hi hk) = sumBy (sHi n) xs ∧ sumBy (bLo n) (other xs i k hi hk) = sumBy (bLo n) xs ∧ sumBy (bHi n) (other xs i k hi hk) = sumBy (bHi n) xs := by
  refine ⟨sum_other _ _ _ _ _ _ ?_, sum_other _ _ _ _ _ _ ?_, sum_other _ _ _ _ _ _ ?_, sum_other _ _ _ _ _ _ ?_⟩ <;> simp only [sLo, sHi, bLo, bHi, light, t_zero]
theorem exact_put (p : Put) : putIn (exactL p) p = true := by simp [putIn, inB, exactL]
theorem known_sums {xs : List Load} {i : Nat} {p : Put} (hi : i < xs.length) (hp : putIn xs[i] p = true) (n : Int) :
    sumBy (sLo n) xs ≤ sumBy (sLo n) (known xs i p) ∧ sumBy (sHi n) (known xs i p) ≤ sumBy (sHi n) xs ∧ sumBy (bLo n) xs ≤ sumBy (bLo n) (known xs i p) ∧ sumBy (bHi n) (known xs i p) ≤ sumBy (bHi n) xs := by
  rw [sum_known _ _ _ _ hi, sum_known _ _ _ _ hi, sum_known _ _ _ _ hi, sum_known _ _ _ _ hi]
  have h1 := aft_ends (n := n) hp
  have h2 := far_ends (n := n) hp
  have e1 : sLo n (exactL p) = min (max (n - p.pos) 0) 1 * p.wt := (t_one _ _).1
  have e2 : sHi n (exactL p) = min (max (n - p.pos) 0) 1 * p.wt := (t_one _ _).2
  have e3 : bLo n (exactL p) = max (n - p.pos) 0 * p.wt := (t_one _ _).1
  have e4 : bHi n (exactL p) = max (n - p.pos) 0 * p.wt := (t_one _ _).2
  have h3 := aft_ends (n := n) (exact_put p)
  have h4 := far_ends (n := n) (exact_put p)
  omega
theorem span_wider {a b c d m : Int} (h1 : a ≤ c) (h2 : d ≤ b) (hcd : c ≤ d) (h : spanB a b m = true) : spanB c d m = true := by
  simp only [spanB, Bool.and_eq_true, decide_eq_true_eq] at *
  omega
theorem strain_less {xs : List Load} {i : Nat} {p : Put} (hi : i < xs.length) (hp : putIn xs[i] p = true) (f : Frm) (h : strain (known xs i p) f = true) : strain xs f = true := by
  obtain ⟨h1, h2, h3, h4⟩ := known_sums hi hp f.pos
  have g1 : sumBy (sLo f.pos) (known xs i p) ≤ sumBy (sHi f.pos) (known xs i p) := sumBy_le _ _ _ (fun x => t_le _ _ _ _)
  have g2 : sumBy (bLo f.pos) (known xs i p) ≤ sumBy (bHi f.pos) (known xs i p) := sumBy_le _ _ _ (fun x => t_le _ _ _ _)
  apply Classical.byContradiction
  intro hn
  rw [Bool.not_eq_true] at hn
  unfold strain at h hn
  rw [Bool.or_eq_false_iff, Bool.not_eq_false', Bool.not_eq_false'] at hn
  rw [span_wider h1 h2 g1 hn.1, span_wider h3 h4 g2 hn.2] at h
  cases h
theorem strained_same {xs ys : List Load} {fs : List Frm} (h : ∀ f, strain ys f = strain xs f) : ∀ k, strainedTo ys fs k = strainedTo xs fs k
  | 0 => rfl
  | k + 1 => by
    rw [strainedTo, strainedTo, strained_same h k]
    congr 1
    split
    · rw [h]
    · rfl
theorem strained_less {xs ys : List Load} {fs : List Frm} (h : ∀ f, strain ys f = true → strain xs f = true) : ∀ k n, n ∈ strainedTo ys fs k → n ∈ strainedTo xs fs k
  | 0, n, hn => by cases hn
  | k + 1, n, hn => by
    rw [strainedTo] at hn ⊢
    rw [List.mem_append] at hn ⊢
    rcases hn with hn | hn
    · exact Or.inl (strained_less h k n hn)
    · right
      split at hn
      · split at hn
        · rename_i f _ hs
          rw [if_pos (h f hs)]; exact hn
        · cases hn
      · cases hn
theorem strained_bd {xs : List Load} {fs : List Frm} : ∀ k, (strainedTo xs fs k).length ≤ k ∧ ∀ n ∈ strainedTo xs fs k, 0 ≤ n ∧ n < k
  | 0 => ⟨Nat.le_refl 0, fun n hn => by cases hn⟩
  | k + 1 => by
    obtain ⟨h1, h2⟩ := strained_bd (xs := xs) (fs := fs) k
    rw [strainedTo]
    constructor
    · rw [List.length_append]
      split
      · split <;> simp <;> omega
      · simp; omega
    · intro n hn
      rw [List.mem_append] at hn
      rcases hn with hn | hn
      · have := h2 n hn; omega
      · split at hn
        · split at hn
          · simp at hn; omega
          · cases hn
        · cases hn
/-! ### What is valid -/
theorem exact_in {x : Load} {p : Put} (hx : loadB x = true) (hp : putIn x p = true) : loadB (exactL p) = true := by
  have h1 := loadB_bd hx
  have h2 := putIn_bd hp
  show (spanB p.pos p.pos 20000 && spanB p.wt p.wt 1073741824) = true
  simp only [spanB, Bool.and_eq_true, decide_eq_true_eq]
  omega
theorem light_B {x : Load} (hx : loadB x = true) : loadB (light x) = true := by
  have h1 := loadB_bd hx
  show (spanB x.alo x.ahi 20000 && spanB 0 0 1073741824) = true
  simp only [spanB, Bool.and_eq_true, decide_eq_true_eq]
  omega
theorem check_loads {l : List Load} (h1 : l.length ≤ 40) (h2 : ∀ x ∈ l, loadB x = true) : checkLoads l = 0 := by
  unfold checkLoads
  exact checkList_ok (by omega) (List.all_eq_true.2 h2)
theorem known_ok {xs : List Load} {i : Nat} {p : Put} (h : checkLoads xs = 0) (hi : i < xs.length) (hp : putIn xs[i] p = true) : checkLoads (known xs i p) = 0 := by
  obtain ⟨h1, h2⟩ := checkLoads_ok h
  refine check_loads (by rw [known_len]; exact h1) fun x hx => ?_
  rcases List.mem_or_eq_of_mem_set hx with hx | rfl
  · exact h2 x hx
  · exact exact_in (h2 _ (List.getElem_mem hi)) hp
theorem other_ok {xs : List Load} {i k : Nat} (h : checkLoads xs = 0) (hl : xs.length ≤ 39) (hi : i < xs.length) (hk : k < xs.length) : checkLoads (other xs i k hi hk) = 0 := by
  obtain ⟨h1, h2⟩ := checkLoads_ok h
  refine check_loads (by rw [other_len]; omega) fun x hx => ?_
  unfold other swapped at hx
  rw [List.mem_append] at hx
  rcases hx with hx | hx
  · rcases List.mem_or_eq_of_mem_set hx with hx | rfl
    · rcases List.mem_or_eq_of_mem_set hx with hx | rfl
      · exact h2 x hx
      · exact h2 _ (List.getElem_mem hk)
    · exact h2 _ (List.getElem_mem hi)
  · simp at hx
    subst hx
    exact light_B (h2 _ (List.getElem_mem hi))
end Bal.Trim

/-
  A map of bools that a call has made itself, by what its look-ups answer. No program in sight.
-/
namespace Bal
open Go Go.RowKit Go.Maps
set_option linter.unusedVariables false
/-- block b is a map of bools of at most n entries, whose look-ups answer f -/
def InSet (P : Program) (k e : TypeId) (w : World) (b n : Nat) (f : Lit → Bool) : Prop :=
  ∃ D : DataW Unit, w.ownsMap P k (plainElem P e) b n D ∧ IsMap D ∧ ∀ kl, D.atKey kl (.lit (.bool false)) = .lit (.bool (f kl))
theorem InSet.made {P : Program} {k e : TypeId} {w : World} {b : Nat} (hb : b = w.heap.size) : InSet P k e (w.alloc (.map #[] 0)) b 0 (fun _ => false) := by
  subst hb
  exact ⟨.map [], World.ownsMap_made w P k _, isMap_empty, fun kl => rfl⟩
theorem InSet.lt {P : Program} {k e : TypeId} {w : World} {b n : Nat} {f : Lit → Bool} (h : InSet P k e w b n f) : b < w.heap.size := by
  obtain ⟨D, h, _⟩ := h
  exact h.lt
theorem InSet.keep {P : Program} {k e : TypeId} {w w' : World} {b n : Nat} {f : Lit → Bool} (h : InSet P k e w b n f) (hb : Kept w w') : InSet P k e w' b n f := by
  have hl := h.lt
  obtain ⟨D, ⟨es, clock, hh, r⟩, h2⟩ := h
  exact ⟨D, ⟨es, clock, by rw [hb.block b hl]; exact hh, r⟩, h2⟩
theorem InSet.put {P : Program} {k e : TypeId} {w' : World} {b n : Nat} {f g : Lit → Bool} {D : DataW Unit} {kl : Lit} {v : Bool} (hD : IsMap D) (hf : ∀ kl, D.atKey kl (.lit (.bool false)) = .lit (.bool (f kl))) (hk : WideAt.IsKeyLit kl) (hg1 : g kl = v) (hg2 : ∀ x, x ≠ kl → g x = f x)
    (h : w'.ownsMap P k (plainElem P e) b n (D.put kl (.lit (.bool v)))) : InSet P k e w' b n g := by
  refine ⟨_, h, hD.put _ _, fun x => ?_⟩
  by_cases hx : x = kl
  · subst hx
    rw [atKey_put_same hD hk, hg1]
  · rw [atKey_put_other hx, hf, hg2 x hx]
theorem Kept.turned {w0 w w' : World} {b : Nat} (h : Kept w0 w) (hb : w0.heap.size ≤ b) (hg : w.grownBy w' (some b)) : Kept w0 w' := by
  refine Below.trans h ⟨hg.os, hg.tape, hg.output, hg.size, fun i hi => hg.block i (Nat.lt_of_lt_of_le hi h.size) fun he => ?_⟩
  simp only [Option.some.injEq] at he
  omega
theorem Blk.turned {w w' : World} {b m : Nat} {arr : Array Value} {t : TypeId} (h : Blk w m arr t) (hne : m ≠ b) (hg : w.grownBy w' (some b)) : Blk w' m arr t := by
  have hl := h.lt
  unfold Blk at *
  rw [hg.block m hl (fun he => hne (by simpa using he))]
  exact h
/-- 'm[k]' -/
theorem wpList_look_set {P : Program} (w : World) {ops : Array Oper} {rest : List Oper} {o : Oper} {a : Act} {Q : Exit → Act → World → Prop}
    (hg : o.guard = none) (m x : Operand) (t : TypeId) (hop : o.op = Op.lookup t m x false)
    (k e : TypeId) (K : Keyed P k) (ht : P.underlying t = some (.map k e)) (he : P.underlying e = some .bool) (hz : (zeroValue e).run P w = .ok (.bool false) w) (b n : Nat) (f : Lit → Bool)
    (hm : a.eval m = .map (some b)) (hset : InSet P k e w b n f) (key : Value) (kl : Lit) (hx : a.eval x = key) (hkey : keyOf P k key = some kl)
    (hK : wpList P ops Q rest (a.put o.dst (.bool (f kl))) w) :
    wpList P ops Q (o :: rest) a w := by
  refine wpList_plain hg fun K' hK' => ?_
  obtain ⟨D, hown, hD, hf⟩ := hset
  obtain ⟨v, ps, hrun, hv⟩ := hown.lookup K ht hz (plainElem_bool he false) hkey
  rw [hf kl] at hv
  have hvv : v = .bool (f kl) := by
    unfold plainElem at hv
    rw [he] at hv
    cases v <;> simp at hv
    obtain ⟨rfl, _⟩ := hv
    rfl
  unfold Oper.wp
  simp [execOp, hop, hm, hx, hrun, Result.andThen]
  exact hK' _ _ (hvv ▸ hK)
/-- 'm[k] = v' -/
theorem wpList_put_set {P : Program} (w : World) {ops : Array Oper} {rest : List Oper} {o : Oper} {a : Act} {Q : Exit → Act → World → Prop}
    (hg : o.guard = none) (m x v : Operand) (t : TypeId) (hop : o.op = Op.mapUpdate t m x v)
    (k e : TypeId) (K : Keyed P k) (ht : P.underlying t = some (.map k e)) (he : P.underlying e = some .bool) (b n : Nat) (f g : Lit → Bool)
    (hm : a.eval m = .map (some b)) (hset : InSet P k e w b n f) (hn : n < maxLen) (key : Value) (y : Bool) (kl : Lit) (hx : a.eval x = key) (hv : a.eval v = .bool y) (hkey : keyOf P k key = some kl)
    (hkl : WideAt.IsKeyLit kl) (hg1 : g kl = y) (hg2 : ∀ z, z ≠ kl → g z = f z)
    (hK : ∀ w', InSet P k e w' b (n + 1) g → w.grownBy w' (some b) → wpList P ops Q rest (a.put o.dst undef) w') :
    wpList P ops Q (o :: rest) a w := by
  obtain ⟨D, hown, hD, hf⟩ := hset
  refine wpList_mapUpdate_own w hg m x v t hop k e K ht _ b n D hm hown hn key (.bool y) kl hx hv hkey _ [] (plainElem_bool he y) ?_
  intro w' hown' hgrow
  exact hK w' (InSet.put hD hf hkl hg1 hg2 hown') hgrow
end Bal

/-
  Loads that a call has copied and writes: a row of four cells each, at the head of a block of its own. No program in sight.
-/
namespace Bal.Trim
open Go Go.RowKit Bal
set_option linter.unusedVariables false
theorem load_len (x : Load) : x.cells.length = 4 := rfl
theorem flatMap_set1 {α : Type} {enc : α → List Value} {k : Nat} (he : ∀ x, (enc x).length = k) : ∀ (xs : List α) (i : Nat) (y : α) (hi : i < xs.length) (l : List Value),
    l.length = (xs.flatMap enc).length → (∀ j, j < l.length → l[j]? = if i * k ≤ j ∧ j < i * k + k then (enc y)[j - i * k]? else (xs.flatMap enc)[j]?) → l = (xs.set i y).flatMap enc := by
  intro xs i y hi l hl h
  apply List.ext_getElem?
  intro j
  by_cases hj : j < l.length
  · rw [h j hj]
    have hk : 0 < k := by
      rcases Nat.eq_zero_or_pos k with h0 | h0
      · subst h0
        rw [flatMap_len he, Nat.mul_zero] at hl
        omega
      · exact h0
    have hjl : j < xs.length * k := by rw [← flatMap_len he xs, ← hl]; exact hj
    have hjk : j / k < xs.length := Nat.div_lt_of_lt_mul (by rw [Nat.mul_comm]; exact hjl)
    have hjm : j % k < k := Nat.mod_lt _ hk
    have hdm : j / k * k + j % k = j := by have := Nat.div_add_mod j k; rw [Nat.mul_comm] at this; exact this
    have e1 := flatMap_get he (xs.set i y) (j / k) _ (List.getElem?_eq_getElem (by simpa using hjk)) (j % k) hjm
    have e2 := flatMap_get he xs (j / k) _ (List.getElem?_eq_getElem hjk) (j % k) hjm
    rw [hdm] at e1 e2
    rw [e1, List.getElem_set]
    split
    · rename_i hc
      have hji : j / k = i := by
        apply Nat.div_eq_of_lt_le
        · exact hc.1
        · rw [Nat.succ_mul]; exact hc.2
      rw [if_pos hji.symm]
      congr 1
      rw [← hji] at hc ⊢
      omega
    · rename_i hc
      have hji : i ≠ j / k := by
        rintro rfl
        apply hc
        omega
      rw [if_neg hji, e2]
  · have h1 : l.length ≤ j := by omega
    rw [List.getElem?_eq_none h1, List.getElem?_eq_none]
    rw [flatMap_len he, List.length_set, ← flatMap_len he xs, ← hl]
    exact h1
/-- a row of loads of the call's own -/
def OwnL (T : TypeId) (B : Nat) (w : World) (g n c : Nat) (xs : List Load) : Prop := xs.length = n ∧ w.ownsRow B T 4 (.slice (some ⟨g, 0, none⟩) n c) n (xs.flatMap Load.cells)
theorem OwnL.keep {T : TypeId} {B : Nat} {w w' : World} {g n c : Nat} {xs : List Load} (h : OwnL T B w g n c xs) (hb : Kept w w') : OwnL T B w' g n c xs := ⟨h.1, owns_keep h.2 hb⟩
theorem OwnL.row {T : TypeId} {B : Nat} {w : World} {g n c : Nat} {xs : List Load} (h : OwnL T B w g n c xs) : Row Load.cells 4 w.heap.size w (some ⟨g, 0, none⟩) xs ∧ n ≤ c ∧ c ≤ maxLen := by
  obtain ⟨h1, h2⟩ := h
  subst h1
  obtain ⟨a, cap, hv, hr, h3, h4⟩ := owns_row (enc := Load.cells) (k := 4) load_len h2
  cases hv
  exact ⟨hr, h3, h4⟩
theorem OwnL.blk {T : TypeId} {B : Nat} {w : World} {g n c : Nat} {xs : List Load} (h : OwnL T B w g n c xs) : B ≤ g ∧ ∃ cur, Blk w g cur T ∧ n * 4 ≤ cur.size := by
  obtain ⟨h1, _, ⟨hv, _⟩ | ⟨g', cap, cur, hv, hb, hh, hn, hm, hs, ht⟩⟩ := h
  · cases hv
  · cases hv
    refine ⟨hb, cur, hh, ?_⟩
    rw [hs]; exact Nat.mul_le_mul_right 4 hn
theorem OwnL.lt {T : TypeId} {B : Nat} {w : World} {g n c : Nat} {xs : List Load} (h : OwnL T B w g n c xs) : g < w.heap.size := by
  obtain ⟨_, cur, hk, _⟩ := h.blk
  exact hk.lt
theorem OwnL.free {T : TypeId} {B : Nat} {w : World} {g n c : Nat} {xs : List Load} (h : OwnL T B w g n c xs) (o : Nat) : w.frozen? ⟨g, o, none⟩ = false := by
  obtain ⟨_, cur, hk, _⟩ := h.blk
  exact hk.free o
theorem OwnL.at {T : TypeId} {B : Nat} {w : World} {g n c : Nat} {xs : List Load} (h : OwnL T B w g n c xs) (i : Nat) (hi : i < xs.length) :
    w.cell? ⟨g, i * 4, none⟩ = some (.int .i64 xs[i].alo) ∧ w.cell? ⟨g, i * 4 + 1, none⟩ = some (.int .i64 xs[i].ahi) ∧ w.cell? ⟨g, i * 4 + 2, none⟩ = some (.int .i64 xs[i].wlo) ∧ w.cell? ⟨g, i * 4 + 3, none⟩ = some (.int .i64 xs[i].whi) := by
  obtain ⟨b, off, ha, _, hc⟩ := Load.row h.row.1 i hi
  cases ha
  simpa only [Nat.zero_add] using hc
theorem OwnL.put {T : TypeId} {B : Nat} {w : World} {g n c : Nat} {xs : List Load} (h : OwnL T B w g n c xs) (i : Nat) (hi : i < xs.length) (y : Load) :
    OwnL T B ((((w.setCell ⟨g, i * 4, none⟩ (.int .i64 y.alo)).setCell ⟨g, i * 4 + 1, none⟩ (.int .i64 y.ahi)).setCell ⟨g, i * 4 + 2, none⟩ (.int .i64 y.wlo)).setCell ⟨g, i * 4 + 3, none⟩ (.int .i64 y.whi)) g n c (xs.set i y) := by
  obtain ⟨h1, h0, ⟨hv, _⟩ | ⟨g', cap, cur, hv, hb, hh, hn, hm, hs, ht⟩⟩ := h
  · cases hv
  · cases hv
    subst h1
    refine ⟨by simp, ?_, .inr ⟨g, c, (((cur.setIfInBounds (i * 4) (.int .i64 y.alo)).setIfInBounds (i * 4 + 1) (.int .i64 y.ahi)).setIfInBounds (i * 4 + 2) (.int .i64 y.wlo)).setIfInBounds (i * 4 + 3) (.int .i64 y.whi), rfl, hb, (((Blk.set (show Blk w g cur T from hh) (i * 4) _).set (i * 4 + 1) _).set (i * 4 + 2) _).set (i * 4 + 3) _, hn, hm, by simpa using hs, ?_⟩⟩
    · rw [flatMap_len load_len, List.length_set]
    · refine flatMap_set1 load_len xs i y hi _ ?_ fun j hj => ?_
      · rw [← ht]
        simp
      · have hjl : j < xs.length * 4 := by
          have h2 := hj
          rw [List.length_take] at h2
          omega
        have hcj : j < cur.size := by
          have : xs.length * 4 ≤ c * 4 := Nat.mul_le_mul_right 4 hn
          omega
        rw [← ht, List.getElem?_take, if_pos hjl, List.getElem?_take, if_pos hjl]
        simp only [Array.toList_setIfInBounds, Array.getElem?_toList, List.getElem?_set, List.length_set, Array.length_toList]
        by_cases hc : i * 4 ≤ j ∧ j < i * 4 + 4
        · rw [if_pos hc]
          have : j = i * 4 ∨ j = i * 4 + 1 ∨ j = i * 4 + 2 ∨ j = i * 4 + 3 := by omega
          rcases this with e | e | e | e <;> subst e <;> simp [Load.cells] <;> omega
        · rw [if_neg hc, if_neg (by omega), if_neg (by omega), if_neg (by omega), if_neg (by omega)]
theorem OwnL.other {T : TypeId} {B : Nat} {w : World} {g n c : Nat} {xs : List Load} (h : OwnL T B w g n c xs) {b o : Nat} (hne : g ≠ b) (u : Value) : OwnL T B (w.setCell ⟨b, o, none⟩ u) g n c xs :=
  ⟨h.1, owns_setB h.2 (by simpa [Value.ownBlock] using hne)⟩
theorem OwnL.of_owns {T : TypeId} {B n : Nat} {w : World} {v : Value} {xs : List Load} (h : w.ownsRow B T 4 v xs.length (xs.flatMap Load.cells)) (hn : xs.length = n) (h0 : 0 < n) : ∃ g c, v = .slice (some ⟨g, 0, none⟩) n c ∧ OwnL T B w g n c xs := by
  subst hn
  have h' := h
  obtain ⟨h1, ⟨hv, hz⟩ | ⟨g', cap, cur, hv, hb, hh, hn, hm, hs, ht⟩⟩ := h
  · omega
  · exact ⟨g', cap, hv, rfl, by rw [← hv]; exact h'⟩
/-- a copy of loads that may be written -/
theorem wpList_copyL {P : Program} {w0 w : World} {ops : Array Oper} {rest : List Oper} {o : Oper} {a : Act} {Q : Exit → Act → World → Prop} (hgd : o.guard = none) (s x : Operand) (t : TypeId)
    (ho : o.op = .call { callee := .builtin .append, args := #[s, x], argTypes := #[t, t] })
    (e : TypeId) (z : Value) (bytes : Nat) (ht : P.underlying t = some (.slice e)) (hinfo : (P.info? e).map (fun i => (i.zero, i.size, i.bytes)) = some (some z, 4, bytes))
    (hzs : z.cells.size = 4)
    (n : Nat) (hn : n = w.heap.size) (hs : a.eval s = .slice (some ⟨n, 0, none⟩) 0 0)
    (ad : Option Addr) (c len : Nat) (ys : List Load) (hl : ys.length = len) (hx : a.eval x = .slice ad len c) (hc : ad = none → c = 0) (hrow : Row Load.cells 4 w0.heap.size w0 ad ys) (hk : Kept w0 w)
    (h0 : 0 < len) (h63 : len ≤ 1000000) (hbytes : bytes ≤ 100000)
    (h : ∀ g cp w', OwnL e w.heap.size w' g len cp ys → Kept w0 w' → Kept w w' → wpList P ops Q rest (a.put o.dst (.slice (some ⟨g, 0, none⟩) len cp)) w') :
    wpList P ops Q (o :: rest) a (w.alloc (.cells #[] e)) := by
  subst hl
  obtain ⟨i, hi, hz, hsize, hby⟩ := info_parts hinfo
  have hsz0 := hk.size
  have hown0 : (w.alloc (.cells #[] e)).ownsRow w.heap.size e 4 (.slice (some ⟨n, 0, none⟩) 0 0) ([] : List Load).length (([] : List Load).flatMap Load.cells) := owns_made hn (Nat.le_refl _)
  have hm : ys.length * bytes ≤ 1000000 * 100000 := Nat.mul_le_mul h63 hbytes
  refine wpList_append_list (enc := Load.cells) hgd s x t ho w.heap.size e i z 4 bytes ht hi hz hsize hby hzs (by decide) load_len (fun x u hu => by simp [Load.cells] at hu; rcases hu with rfl | rfl | rfl | rfl <;> rfl) _ [] hs hown0 ad c ys hx hc (hrow.keep (Kept.alloc hk _) (Nat.le_refl _)) (by simp [maxLen]; omega) (by simp; omega) (by show w.heap.size ≤ (w.heap.push _).size; simp) ?_
  intro v' w' hown hgrow
  have hk2 : Kept w w' := Kept.grown (Kept.alloc (Below.refl _ _) _) hown0 (Nat.le_refl _) hgrow
  rw [List.nil_append] at hown
  obtain ⟨g, cp, rfl, hO⟩ := OwnL.of_owns hown rfl h0
  exact h g cp w' hO (Kept.drop hk hk2) hk2
theorem OwnL.turned {T : TypeId} {B : Nat} {w w' : World} {g n c b : Nat} {xs : List Load} (h : OwnL T B w g n c xs) (hne : g ≠ b) (hg : w.grownBy w' (some b)) : OwnL T B w' g n c xs := by
  have hl := h.lt
  obtain ⟨h1, h0, ⟨hv, hz⟩ | ⟨g', cap, cur, hv, hb, hh, r⟩⟩ := h
  · cases hv
  · cases hv
    exact ⟨h1, h0, .inr ⟨g, c, cur, rfl, hb, by rw [hg.block g hl (fun he => hne (by simpa using he))]; exact hh, r⟩⟩
/-- an element is written -/
theorem wpList_storeL {P : Program} {ops : Array Oper} {rest : List Oper} {op : Oper} {a : Act} {w : World} {Q : Exit → Act → World → Prop} (hgd : op.guard = none) (ty : TypeId) (x y : Operand) (ho : op.op = .store ty x y)
    (T : TypeId) (B g n c : Nat) (xs : List Load) (hown : OwnL T B w g n c xs) (i : Nat) (hi : i < xs.length) (z : Load) (hinfo : (P.info? ty).map (·.size) = some 4)
    (hx : a.eval x = .pointer (some ⟨g, i * 4, none⟩)) (hy : a.eval y = .agg #[.int .i64 z.alo, .int .i64 z.ahi, .int .i64 z.wlo, .int .i64 z.whi])
    (h : ∀ w', OwnL T B w' g n c (xs.set i z) → w.grownBy w' (some g) → wpList P ops Q rest (a.put op.dst undef) w') : wpList P ops Q (op :: rest) a w := by
  have hat := hown.at i hi
  refine wpList_store_mid hgd ty x y ho g (i * 4) _ hx hy ?_ (by simpa using hinfo) (by simp [Value.oneCell']) ?_
  · intro j hj
    have hj4 : j < 4 := by simpa using hj
    refine ⟨?_, hown.free _⟩
    rcases (by omega : j = 0 ∨ j = 1 ∨ j = 2 ∨ j = 3) with rfl | rfl | rfl | rfl
    · simp [hat.1]
    · simp [hat.2.1]
    · simp [hat.2.2.1]
    · simp [hat.2.2.2]
  · refine h _ (hown.put i hi z) ⟨rfl, rfl, rfl, ?_, ?_⟩
    · show w.heap.size ≤ _
      simp [World.setCells, World.setCell]
    · intro q hq hne
      have hqg : g ≠ q := fun e => hne (by rw [e])
      show ((((w.setCell ⟨g, i * 4, none⟩ (.int .i64 z.alo)).setCell ⟨g, i * 4 + 1, none⟩ (.int .i64 z.ahi)).setCell ⟨g, i * 4 + 2, none⟩ (.int .i64 z.wlo)).setCell ⟨g, i * 4 + 3, none⟩ (.int .i64 z.whi)).heap[q]? = _
      rw [RowKit.Below.heap_setCell _ _ _ _ (Ne.symm hqg), RowKit.Below.heap_setCell _ _ _ _ (Ne.symm hqg), RowKit.Below.heap_setCell _ _ _ _ (Ne.symm hqg), RowKit.Below.heap_setCell _ _ _ _ (Ne.symm hqg)]
end Bal.Trim

/-
  TrimBetter: known better breaks no more: for every input.
-/
namespace Go.Proofs.Ytlloijkmpmfapaa
open Go.RowKit Bal Bal.Trim
set_option linter.unusedVariables false
set_option linter.unusedSimpArgs false
set_option maxHeartbeats 4000000
set_option maxRecDepth 10000

theorem o_checkFrames (a : Option Addr) (cap : Nat) (fs : List Frm) (w : World) (hx : Row Frm.cells 3 w.heap.size w a fs) (hc : fs.length ≤ cap) (hM : cap ≤ maxLen) (E : Int) (h : checkFrames fs = E) :
    Calls Try.prog 24 #[.slice a fs.length cap] w fun e w' => e = .returned (.int .i64 E) ∧ Kept w w' := by
  subst h
  exact r_CheckFrames a cap fs w hx hc hM
theorem o_insideN (lo hi n : Int) (w : World) (R : Int) (hn : 0 ≤ n ∧ n ≤ 65535) (hb : -1000000000000 ≤ lo ∧ lo ≤ hi ∧ hi ≤ 1000000000000) (hR : lo + n % (hi - lo + 1) = R) :
    Calls Try.prog 54 #[.agg #[.int .i64 lo, .int .i64 hi], .int .u16 n] w fun e w' => e = .returned (.int .i64 R) ∧ Kept w w' := by
  subst hR
  exact o_inside lo hi n w hb.1 hb.2.1 hb.2.2 hn
theorem o_breachL (a : Option Addr) (cap : Nat) (xs : List Load) (w : World) (hx : Row Load.cells 4 w.heap.size w a xs) {l : Nat} (hl : xs.length = l) (hc : l ≤ cap) (hM : cap ≤ maxLen) (b : Option Addr) (cb : Nat) (ms : List Limit) (hy : Row Limit.cells 3 w.heap.size w b ms) (hd : ms.length ≤ cb) (hN : cb ≤ maxLen) (n : Nat) (N E : Int) (P : List Put) (h1 : breachN xs ms = N) (h2 : breachE xs ms = E) (h3 : breachP xs ms = P) (h4 : P.length = n) :
    Calls Try.prog 25 #[.slice a l cap, .slice b ms.length cb] w fun e w' => ∃ aB cB, e = .returned (.tuple #[.agg #[.int .i64 N, .slice aB n cB], .int .i64 E]) ∧ Row Put.cells 2 w'.heap.size w' aB P ∧ n ≤ cB ∧ cB ≤ maxLen ∧ Kept w w' := by
  subst hl
  exact o_breach a cap xs w hx hc hM b cb ms hy hd hN n N E P h1 h2 h3 h4
theorem o_strainedL (a : Option Addr) (cap : Nat) (xs : List Load) (w : World) (hx : Row Load.cells 4 w.heap.size w a xs) {l : Nat} (hl : xs.length = l) (hc : l ≤ cap) (hM : cap ≤ maxLen) (b : Option Addr) (cb : Nat) (fs : List Frm) (hy : Row Frm.cells 3 w.heap.size w b fs) (hd : fs.length ≤ cb) (hN : cb ≤ maxLen) (P : List Int) (h2 : strE xs fs = 0) (h3 : strP xs fs = P) :
    Calls Try.prog 39 #[.slice a l cap, .slice b fs.length cb] w fun e w' => ∃ aB cB, e = .returned (.tuple #[.slice aB P.length cB, .int .i64 0]) ∧ Row icell 1 w'.heap.size w' aB P ∧ P.length ≤ cB ∧ cB ≤ maxLen ∧ Kept w w' := by
  subst hl
  exact o_strained a cap xs w hx hc hM b cb fs hy hd hN P.length 0 P h2 h3 rfl
theorem keyedInt : Go.Maps.Keyed Try.prog 3 := Go.Maps.int_keyed Try.underlying3
theorem zeroBool (w : World) : (zeroValue 4).run Try.prog w = .ok (.bool false) w := by kernel_rfl
/-- what a map of numbers that were put in answers -/
def inL (ns : List Int) : Lit → Bool
  | .int .i64 n => ns.contains n
  | _ => false
theorem inL_nil : inL [] = fun _ => false := by funext l; unfold inL; split <;> rfl
theorem inL_mem {ns : List Int} {n : Int} (h : n ∈ ns) : inL ns (.int .i64 n) = true := by simpa [inL] using h
theorem inL_new (ns : List Int) (j : Nat) (hj : j < ns.length) : inL (ns.take (j + 1)) (.int .i64 ns[j]) = true := by
  refine inL_mem ?_
  rw [List.take_succ_eq_append_getElem hj]
  exact List.mem_append_right _ (List.mem_singleton.2 rfl)
theorem inL_old (ns : List Int) (j : Nat) (hj : j < ns.length) {z : Lit} (hz : z ≠ .int .i64 ns[j]) : inL (ns.take (j + 1)) z = inL (ns.take j) z := by
  unfold inL
  split
  · rename_i n
    have hn : n ≠ ns[j] := fun e => hz (by rw [e])
    rw [Bool.eq_iff_iff, List.contains_iff_mem, List.contains_iff_mem, List.take_succ_eq_append_getElem hj, List.mem_append, List.mem_singleton]
    exact ⟨fun h => h.resolve_right hn, .inl⟩
  · rfl
theorem sizeLoad : (Try.prog.info? 88).map (·.size) = some 4 := by kernel_rfl

theorem law_TrimBetter (a0 : Option Addr) (c0 : Nat) (xs : List Load) (a1 : Option Addr) (c1 : Nat) (ms : List Limit) (a2 : Option Addr) (c2 : Nat) (fs : List Frm) (m1 m2 : Nat) (x y : Int) (hm1b : m1 < 256) (hm2b : m2 < 256) (hx16 : 0 ≤ x ∧ x ≤ 65535) (hy16 : 0 ≤ y ∧ y ≤ 65535) (w : World) (h0 : Row Load.cells 4 w.heap.size w a0 xs) (hl0 : xs.length ≤ c0) (hm0 : c0 ≤ maxLen) (hz0 : a0 = none → c0 = 0) (h1 : Row Limit.cells 3 w.heap.size w a1 ms) (hl1 : ms.length ≤ c1) (hm1 : c1 ≤ maxLen) (h2 : Row Frm.cells 3 w.heap.size w a2 fs) (hl2 : fs.length ≤ c2) (hm2 : c2 ≤ maxLen) :
    Calls Try.prog 14 #[.slice a0 xs.length c0, .slice a1 ms.length c1, .slice a2 fs.length c2, .int .u8 m1, .int .u8 m2, .int .u16 x, .int .u16 y] w fun e w' => e = .returned (.bool true) ∧ Kept w w' := by
  have hm0' := hm0
  have hm1' := hm1
  have hm2' := hm2
  unfold maxLen at hm0' hm1' hm2'
  cases hv : validB xs ms
  · have HV := Lib.hid hv
    clear hv
    go_enter Try.func14, Try.ntmps14
    go_wp2_with (first | (go_at_call 48; (with_reducible refine (o_alive _).mono ?_); rintro e wA ⟨rfl, hbA⟩) | (go_at_call 49; (with_reducible refine (o_validN a0 c0 xs _ (h0.later (by (exact kpt)) (Nat.le_refl _)) hl0 hm0 a1 c1 ms (h1.later (by (exact kpt)) (Nat.le_refl _)) hl1 hm1 false HV.out).mono ?_); rintro e wV ⟨rfl, hbV⟩))
    go_ret; exact ⟨rfl, by (exact kpt)⟩
  have HV := Lib.hid hv
  by_cases hf50 : 50 < fs.length
  · clear hv
    go_enter Try.func14, Try.ntmps14
    go_wp2_with (first | (go_at_call 48; (with_reducible refine (o_alive _).mono ?_); rintro e wA ⟨rfl, hbA⟩) | (go_at_call 49; (with_reducible refine (o_validN a0 c0 xs _ (h0.later (by (exact kpt)) (Nat.le_refl _)) hl0 hm0 a1 c1 ms (h1.later (by (exact kpt)) (Nat.le_refl _)) hl1 hm1 true HV.out).mono ?_); rintro e wV ⟨rfl, hbV⟩))
    go_ret; exact ⟨rfl, by (exact kpt)⟩
  obtain ⟨CF, hCF⟩ : ∃ c, checkFrames fs = c := ⟨_, rfl⟩
  have HCF := Lib.hid hCF
  by_cases hc0 : CF = 0
  rotate_left 1
  · clear hv hCF
    have hc1 : (CF == 0) = false := by simpa using hc0
    go_enter Try.func14, Try.ntmps14
    go_wp2_with (first | (go_at_call 48; (with_reducible refine (o_alive _).mono ?_); rintro e wA ⟨rfl, hbA⟩) | (go_at_call 49; (with_reducible refine (o_validN a0 c0 xs _ (h0.later (by (exact kpt)) (Nat.le_refl _)) hl0 hm0 a1 c1 ms (h1.later (by (exact kpt)) (Nat.le_refl _)) hl1 hm1 true HV.out).mono ?_); rintro e wV ⟨rfl, hbV⟩) | (go_at_call 24; (with_reducible refine (o_checkFrames a2 c2 fs _ (h2.later (by (exact kpt)) (Nat.le_refl _)) hl2 hm2 _ HCF.out).mono ?_); rintro e wF ⟨rfl, hbF⟩))
    go_ret; exact ⟨rfl, by (exact kpt)⟩
  subst hc0
  by_cases hl39 : 39 < xs.length
  · clear hv hCF
    have hq : ¬ xs.length = 0 := by omega
    go_enter Try.func14, Try.ntmps14
    go_wp2_with (first | (go_at_call 48; (with_reducible refine (o_alive _).mono ?_); rintro e wA ⟨rfl, hbA⟩) | (go_at_call 49; (with_reducible refine (o_validN a0 c0 xs _ (h0.later (by (exact kpt)) (Nat.le_refl _)) hl0 hm0 a1 c1 ms (h1.later (by (exact kpt)) (Nat.le_refl _)) hl1 hm1 true HV.out).mono ?_); rintro e wV ⟨rfl, hbV⟩) | (go_at_call 24; (with_reducible refine (o_checkFrames a2 c2 fs _ (h2.later (by (exact kpt)) (Nat.le_refl _)) hl2 hm2 _ HCF.out).mono ?_); rintro e wF ⟨rfl, hbF⟩))
    go_ret; exact ⟨rfl, by (exact kpt)⟩
  by_cases hlz : xs.length = 0
  · have hq : ((xs.length : Int) == 0) = true := by rw [beq_iff_eq]; omega
    clear hv hCF hl39 hlz
    go_enter Try.func14, Try.ntmps14
    go_wp2_with (first | (go_at_call 48; (with_reducible refine (o_alive _).mono ?_); rintro e wA ⟨rfl, hbA⟩) | (go_at_call 49; (with_reducible refine (o_validN a0 c0 xs _ (h0.later (by (exact kpt)) (Nat.le_refl _)) hl0 hm0 a1 c1 ms (h1.later (by (exact kpt)) (Nat.le_refl _)) hl1 hm1 true HV.out).mono ?_); rintro e wV ⟨rfl, hbV⟩) | (go_at_call 24; (with_reducible refine (o_checkFrames a2 c2 fs _ (h2.later (by (exact kpt)) (Nat.le_refl _)) hl2 hm2 _ HCF.out).mono ?_); rintro e wF ⟨rfl, hbF⟩))
    go_ret; exact ⟨rfl, by (exact kpt)⟩
  have hlen : 0 < xs.length := by omega
  · obtain ⟨k1, k2⟩ := validB_ok hv
    obtain ⟨hn, hx⟩ := checkLoads_ok k1
    obtain ⟨i, hi⟩ : ∃ i : Nat, i = m1 % xs.length := ⟨_, rfl⟩
    obtain ⟨k, hk⟩ : ∃ i : Nat, i = m2 % xs.length := ⟨_, rfl⟩
    have t1 : Int.tmod (m1 : Int) (xs.length : Int) = (i : Int) := by rw [hi, Int.tmod_eq_emod_of_nonneg (by omega)]; rfl
    have t2 : Int.tmod (m2 : Int) (xs.length : Int) = (k : Int) := by rw [hk, Int.tmod_eq_emod_of_nonneg (by omega)]; rfl
    have hil : i < xs.length := hi ▸ Nat.mod_lt _ hlen
    have hkl : k < xs.length := hk ▸ Nat.mod_lt _ hlen
    have u1 : IntKind.i64.wrap (m1 : Int) = m1 := by rw [IntKind.wrap_i64]; omega
    have u2 : IntKind.i64.wrap (m2 : Int) = m2 := by rw [IntKind.wrap_i64]; omega
    have u3 : IntKind.i64.wrap (i : Int) = i := by rw [IntKind.wrap_i64]; omega
    have u4 : IntKind.i64.wrap (k : Int) = k := by rw [IntKind.wrap_i64]; omega
    have z1 : ((xs.length : Int) == 0) = false := beq_eq_false_iff_ne.2 (by omega)
    have z2 : ¬ (xs.length : Int) = 0 := by omega
    have i0 : (0 : Int) ≤ (i : Int) := by omega
    have i1 : (i : Int) < (xs.length : Int) := by omega
    have k0 : (0 : Int) ≤ (k : Int) := by omega
    have k1' : (k : Int) < (xs.length : Int) := by omega
    obtain ⟨p, hp⟩ : ∃ p, xs[i].alo + x % (xs[i].ahi - xs[i].alo + 1) = p := ⟨_, rfl⟩
    obtain ⟨q, hq⟩ : ∃ q, xs[i].wlo + y % (xs[i].whi - xs[i].wlo + 1) = q := ⟨_, rfl⟩
    have hxb := loadB_bd (hx _ (List.getElem_mem hil))
    have hpi : putIn xs[i] ⟨p, q⟩ = true := by
      have r1 := inside_bd (n := x) (show xs[i].alo ≤ xs[i].ahi by omega)
      have r2 := inside_bd (n := y) (show xs[i].wlo ≤ xs[i].whi by omega)
      simp only [putIn, inB, Bool.and_eq_true, decide_eq_true_eq]
      omega
    have HIN1 := Lib.hid hx16
    have HIN1b := Lib.hid hy16
    have HINp := Lib.hid hp
    have HINq := Lib.hid hq
    have HIN2 := Lib.hid (show -1000000000000 ≤ xs[i].alo ∧ xs[i].alo ≤ xs[i].ahi ∧ xs[i].ahi ≤ 1000000000000 by omega)
    have HIN3 := Lib.hid (show -1000000000000 ≤ xs[i].wlo ∧ xs[i].wlo ≤ xs[i].whi ∧ xs[i].whi ≤ 1000000000000 by omega)
    have HPI := Lib.hid hpi
    have b1 := both_is k1 k2
    have c1k := known_ok k1 hil hpi
    have c1o := other_ok k1 (by omega) hil hkl
    have b2 := both_is c1k k2
    have b3 := both_is c1o k2
    have hbs : broken (other xs i k hil hkl) ms = broken xs ms := broken_same (fun m => worst_other m xs i k hil hkl)
    have hbl := broken_less (xs := xs) (ys := known xs i ⟨p, q⟩) (ms := ms) (fun m => worst_known hil hpi)
    obtain ⟨E, hE⟩ : ∃ E, breachE xs ms = E := ⟨_, rfl⟩
    obtain ⟨N, hN⟩ : ∃ E, breachN xs ms = E := ⟨_, rfl⟩
    obtain ⟨F, hF⟩ : ∃ E, breachE (known xs i ⟨p, q⟩) ms = E := ⟨_, rfl⟩
    obtain ⟨M, hM⟩ : ∃ E, breachN (known xs i ⟨p, q⟩) ms = E := ⟨_, rfl⟩
    obtain ⟨P0, hP0⟩ : ∃ E, breachP xs ms = E := ⟨_, rfl⟩
    obtain ⟨P1, hP1⟩ : ∃ E, breachP (known xs i ⟨p, q⟩) ms = E := ⟨_, rfl⟩
    obtain ⟨P2, hP2⟩ : ∃ E, breachP (other xs i k hil hkl) ms = E := ⟨_, rfl⟩
    obtain ⟨n0, hn0⟩ : ∃ n, P0.length = n := ⟨_, rfl⟩
    obtain ⟨nk1, hn1⟩ : ∃ n, P1.length = n := ⟨_, rfl⟩
    obtain ⟨nk2, hn2⟩ : ∃ n, P2.length = n := ⟨_, rfl⟩
    have hcc : (E = 6 ∧ F = 6) ∨ (E = 0 ∧ F = 6) ∨ (E = 0 ∧ F = 0 ∧ N ≤ M) := by
      rw [← hE, ← hF, ← hN, ← hM]
      unfold breachE breachN
      rw [if_pos b1, if_pos b1, if_pos b2, if_pos b2]
      cases h1 : broken xs ms with
      | none => rw [hbl.1 h1]; exact .inl ⟨rfl, rfl⟩
      | some a =>
        cases h2 : broken (known xs i ⟨p, q⟩) ms with
        | none => exact .inr (.inl ⟨rfl, rfl⟩)
        | some b =>
          have := hbl.2 a b h1 h2
          exact .inr (.inr ⟨rfl, rfl, by simp only [optN]; omega⟩)
    have HEO := Lib.hid (show breachE (other xs i k hil hkl) ms = E by rw [← hE]; unfold breachE; rw [if_pos b1, if_pos b3, hbs])
    have HNO := Lib.hid (show breachN (other xs i k hil hkl) ms = N by rw [← hN]; unfold breachN; rw [if_pos b1, if_pos b3, hbs])
    have HPO := Lib.hid hP2
    have HEK := Lib.hid hF
    have HNK := Lib.hid hM
    have HPK := Lib.hid hP1
    have HE := Lib.hid hE
    have HN := Lib.hid hN
    have HP := Lib.hid hP0
    have HL0 := Lib.hid hn0
    have HL1 := Lib.hid hn1
    have HL2 := Lib.hid hn2
    have HCC := Lib.hid hcc
    have s1 : strE xs fs = 0 := by unfold strE; rw [if_pos k1, hCF]
    have s2 : strE (known xs i ⟨p, q⟩) fs = 0 := by unfold strE; rw [if_pos c1k, hCF]
    have s3 : strE (other xs i k hil hkl) fs = 0 := by unfold strE; rw [if_pos c1o, hCF]
    obtain ⟨SP, hSP⟩ : ∃ l, strP xs fs = l := ⟨_, rfl⟩
    obtain ⟨SQ, hSQ⟩ : ∃ l, strP (known xs i ⟨p, q⟩) fs = l := ⟨_, rfl⟩
    have hsp : strainedTo xs fs fs.length = SP := by rw [← hSP]; unfold strP; rw [if_pos s1]
    have hsq : strainedTo (known xs i ⟨p, q⟩) fs fs.length = SQ := by rw [← hSQ]; unfold strP; rw [if_pos s2]
    have HSO := Lib.hid s3
    have HSPO := Lib.hid (show strP (other xs i k hil hkl) fs = SP by rw [← hsp]; unfold strP; rw [if_pos s3]; exact strained_same (fun f => strain_same (fun n => other_sums xs i k hil hkl n) f) _)
    have HSK := Lib.hid s2
    have HSPK := Lib.hid hSQ
    have HSE := Lib.hid s1
    have HSP := Lib.hid hSP
    have hfl := (checkFrames_ok hCF).1
    have HSB := Lib.hid (show ∀ n ∈ SP, 0 ≤ n ∧ n < 12 from fun n hn => by rw [← hsp] at hn; have := (strained_bd fs.length).2 n hn; omega)
    have HSL := Lib.hid (show SP.length ≤ 12 by rw [← hsp]; have := (strained_bd (xs := xs) (fs := fs) fs.length).1; omega)
    have HQL := Lib.hid (show SQ.length ≤ 12 by rw [← hsq]; have := (strained_bd (xs := known xs i ⟨p, q⟩) (fs := fs) fs.length).1; omega)
    have HIQ := Lib.hid (show ∀ n ∈ SQ, n ∈ SP from fun n hn => by rw [← hsq] at hn; rw [← hsp]; exact strained_less (fun f h => strain_less hil hpi f h) fs.length n hn)
    clear b1 b2 b3 c1k c1o hbs hbl hE hN hF hM hP0 hP1 hP2 hn0 hn1 hn2 hcc s1 s2 s3 hSP hSQ hsp hsq
    clear hi hk hp hq hpi hv hCF hx hxb k1 k2 hlz hfl hn
    go_enter Try.func14, Try.ntmps14
    go_upto_region 6 with (first | (go_at_call 48; (with_reducible refine (o_alive _).mono ?_); rintro e wA ⟨rfl, hbA⟩) | (go_at_call 49; (with_reducible refine (o_validN a0 c0 xs _ (h0.later (by (exact kpt)) (Nat.le_refl _)) hl0 hm0 a1 c1 ms (h1.later (by (exact kpt)) (Nat.le_refl _)) hl1 hm1 true HV.out).mono ?_); rintro e wV ⟨rfl, hbV⟩) | (go_at_call 24; (with_reducible refine (o_checkFrames a2 c2 fs _ (h2.later (by (exact kpt)) (Nat.le_refl _)) hl2 hm2 _ HCF.out).mono ?_); rintro e wF ⟨rfl, hbF⟩))
    refine at_world (S := fun V => Kept w V) (by (exact kpt)) ?_
    rintro WA hkA
    refine Later.region (by kernel_rfl) (by kernel_rfl) ?_
    repeat (first | go_big_quiet_skip | (go_big_quiet_want; go_big_quiet_op; first | go_big_quiet_on | (apply Exists.intro; refine ⟨fun g => ?_, ?_⟩; (focus (first | fail)); go_big_quiet_on)))
    refine wpQuiet_nil ?_
    intro g6
    have hkg6 := Kept.drop hkA g6.ok
    go_upto_region 7 with fail
    refine at_world (S := fun V => Kept w V) (by (exact kpt)) ?_
    clear hkA g6 hkg6
    rintro WB hkB
    have hzB := hkB.size
    have h0B := h0.later hkB (Nat.le_refl _)
    go_upto_region 8 with (first | (at_builtin; have own1 := own1; refine wpList_copyL (w0 := WB) rfl _ _ 22 rfl 88 (.agg #[.int .i64 0, .int .i64 0, .int .i64 0, .int .i64 0]) 32 Try.underlying22 infoLoad rfl _ (by simp) rfl a0 c0 xs.length xs rfl rfl hz0 h0B (by (exact kpt)) hlen (by omega) (by decide) ?_; intro g2 cc2 w2 own2 hkw2 hjw2) | (at_builtin; refine wpList_copyL (w0 := WB) rfl _ _ 22 rfl 88 (.agg #[.int .i64 0, .int .i64 0, .int .i64 0, .int .i64 0]) 32 Try.underlying22 infoLoad rfl _ (by simp) rfl a0 c0 xs.length xs rfl rfl hz0 h0B (by (exact kpt)) hlen (by omega) (by decide) ?_; intro g1 cc1 w1 own1 hkw1 hjw1))
    have e12 : g1 ≠ g2 := by
      have q1 := own1.lt
      have q2 := own2.blk.1
      have q3 := hkw1.size
      omega
    refine at_world (S := fun V => OwnL 88 WB.heap.size V g1 xs.length cc1 xs ∧ OwnL 88 w1.heap.size V g2 xs.length cc2 xs ∧ Kept w V) ⟨own1.keep hjw2, own2, Kept.drop hkB hkw2⟩ ?_
    obtain ⟨B1, hB1⟩ : ∃ b, b = WB.heap.size := ⟨_, rfl⟩
    obtain ⟨B2, hB2⟩ : ∃ b, b = w1.heap.size := ⟨_, rfl⟩
    have hB1w : w.heap.size ≤ B1 := by omega
    have hB2w : w.heap.size ≤ B2 := by have := hkw1.size; omega
    rw [← hB1, ← hB2]
    clear own1 own2 hkw1 hkw2 hjw1 hjw2 hkB h0B hzB hB1 hB2
    rintro V ⟨own1, own2, hkV⟩
    obtain ⟨bb, off, hae, hbb, g0, g1', g2', g3'⟩ := Load.row (h0.later hkV (Nat.le_refl _)) i hil
    obtain ⟨X, hX⟩ : ∃ X, X = xs[i] := ⟨_, rfl⟩
    rw [← hX] at g0 g1' g2' g3' HINp HINq HIN2 HIN3
    have x0 := fun g : Later V => g.some g0
    have x1 := fun g : Later V => g.some g1'
    have x2 := fun g : Later V => g.some g2'
    have x3 := fun g : Later V => g.some g3'
    subst hae
    clear hX
    refine later_mix [(true, 0), (true, 1), (false, 2), (false, 3), (false, 4), (false, 5), (false, 6), (false, 7), (false, 8), (false, 9), (false, 10), (false, 11), (false, 12), (false, 13), (false, 14), (false, 15), (false, 16), (false, 17), (false, 18)] 19 [20] (by kernel_rfl) (by kernel_rfl) ?_
    simp only [List.filterMap_cons, List.filterMap_nil, List.getElem?_cons_zero, List.getElem?_cons_succ, Option.map_some]
    refine wpSteps_any _ rfl (fun w => rfl) ?_
    simp only [Act.put, List.setIfInBounds_toArray, List.set_cons_zero, List.set_cons_succ]
    refine wpSteps_any _ rfl (fun w => rfl) ?_
    simp only [Act.put, List.setIfInBounds_toArray, List.set_cons_zero, List.set_cons_succ]
    repeat (refine wpSteps_quiet ?_; (first | go_big_quiet_skip | (go_big_quiet_want; go_big_quiet_op; first | go_big_quiet_on | (apply Exists.intro; refine ⟨fun g => ?_, ?_⟩; (focus (first | (go_at_call 54; with_reducible exact Later.call (o_insideN X.alo X.ahi x _ p HIN1.out HIN2.out HINp.out)) | (go_at_call 54; with_reducible exact Later.call (o_insideN X.wlo X.whi y _ q HIN1b.out HIN3.out HINq.out)) | (go_at_call 51; with_reducible exact Later.call (o_one _ _)))); go_big_quiet_on))); refine wpQuiet_nil ?_)
    refine wpSteps_nil ?_
    intro gg
    have ow1 := own1.keep gg.ok
    have ow2 := own2.keep gg.ok
    have hkG := Kept.drop hkV gg.ok
    refine wpList_plain rfl fun K1 hK1 => ?_
    go_simp
    refine hK1 _ _ ?_
    refine wpList_storeL rfl _ _ _ rfl 88 _ _ _ _ _ ow1 i hil (exactL ⟨p, q⟩) sizeLoad rfl rfl ?_
    intro wq oq1 hgr
    have oq2 := ow2.turned (Ne.symm e12) hgr
    have hkQ := Kept.turned hkG (Nat.le_trans hB1w ow1.blk.1) hgr
    go_wp2
    refine NoPanic.normal ?_
    go_upto_region 9 with fail
    refine at_world (S := fun V => OwnL 88 B1 V g1 xs.length cc1 (known xs i ⟨p, q⟩) ∧ OwnL 88 B2 V g2 xs.length cc2 xs ∧ Kept w V) ⟨oq1, oq2, hkQ⟩ ?_
    clear own1 own2 ow1 ow2 oq1 oq2 hkG hkQ hkV hgr g0 g1' g2' g3' x0 x1 x2 x3 hbb gg HINp HINq HIN2 HIN3
    rintro V2 ⟨own1, own2, hkV⟩
    have ai := own2.at i hil
    have ak := own2.at k hkl
    have YA := fun g : Later V2 => g.some ai.1
    obtain ⟨X, hX⟩ : ∃ X, X = xs[i] := ⟨_, rfl⟩
    obtain ⟨Y, hY⟩ : ∃ X, X = xs[k] := ⟨_, rfl⟩
    rw [← hX] at ai
    rw [← hY] at ak
    have x0 := fun g : Later V2 => g.some ai.1
    have x1 := fun g : Later V2 => g.some ai.2.1
    have x2 := fun g : Later V2 => g.some ai.2.2.1
    have x3 := fun g : Later V2 => g.some ai.2.2.2
    have y0 := fun g : Later V2 => g.some ak.1
    have y1 := fun g : Later V2 => g.some ak.2.1
    have y2 := fun g : Later V2 => g.some ak.2.2.1
    have y3 := fun g : Later V2 => g.some ak.2.2.2
    have HX := Lib.hid hX
    have HY := Lib.hid hY
    clear hX hY ai ak YA
    refine later_mix [(true, 0), (true, 1), (true, 2), (true, 3), (false, 4), (false, 5), (false, 6), (false, 7), (false, 8), (false, 9), (false, 10), (false, 11)] 12 [13, 14, 15] (by kernel_rfl) (by kernel_rfl) ?_
    simp only [List.filterMap_cons, List.filterMap_nil, List.getElem?_cons_zero, List.getElem?_cons_succ, Option.map_some]
    refine wpSteps_any _ rfl (fun w => rfl) ?_
    simp only [Act.put, List.setIfInBounds_toArray, List.set_cons_zero, List.set_cons_succ]
    refine wpSteps_any _ rfl (fun w => rfl) ?_
    simp only [Act.put, List.setIfInBounds_toArray, List.set_cons_zero, List.set_cons_succ]
    refine wpSteps_any _ rfl (fun w => rfl) ?_
    simp only [Act.put, List.setIfInBounds_toArray, List.set_cons_zero, List.set_cons_succ]
    refine wpSteps_any _ rfl (fun w => rfl) ?_
    simp only [Act.put, List.setIfInBounds_toArray, List.set_cons_zero, List.set_cons_succ]
    repeat (refine wpSteps_quiet ?_; (first | go_big_quiet_skip | (go_big_quiet_want; go_big_quiet_op; first | go_big_quiet_on | (apply Exists.intro; refine ⟨fun g => ?_, ?_⟩; (focus (first | fail)); go_big_quiet_on))); refine wpQuiet_nil ?_)
    refine wpSteps_nil ?_
    intro gg
    have ow1 := own1.keep gg.ok
    have ow2 := own2.keep gg.ok
    have hkG := Kept.drop hkV gg.ok
    refine wpList_plain rfl fun K1 hK1 => ?_
    go_simp
    refine hK1 _ _ ?_
    refine wpList_storeL rfl _ _ _ rfl 88 _ _ _ _ _ ow2 i hil Y sizeLoad rfl rfl ?_
    intro wq oq2 hgr
    have hkQ := Kept.turned hkG (Nat.le_trans hB2w ow2.blk.1) hgr
    have oq1 := ow1.turned e12 hgr
    refine wpList_plain rfl fun K1 hK1 => ?_
    go_simp
    refine hK1 _ _ ?_
    refine wpList_storeL rfl _ _ _ rfl 88 _ _ _ _ _ oq2 k (by rw [List.length_set]; exact hkl) X sizeLoad rfl rfl ?_
    intro wz oz2 hgz
    have hkZ := Kept.turned hkQ (Nat.le_trans hB2w oq2.blk.1) hgz
    have oz1 := oq1.turned e12 hgz
    have oz3 : OwnL 88 B2 wz g2 xs.length cc2 (swapped xs i k hil hkl) := by unfold swapped; rw [← HX.out, ← HY.out]; exact oz2
    go_wp2
    refine NoPanic.normal ?_
    go_upto_region 10 with fail
    refine at_world (S := fun V => OwnL 88 B1 V g1 xs.length cc1 (known xs i ⟨p, q⟩) ∧ OwnL 88 B2 V g2 xs.length cc2 (swapped xs i k hil hkl) ∧ Kept w V) ⟨oz1, oz3, hkZ⟩ ?_
    clear own1 own2 ow1 ow2 oq1 oq2 hkG hkQ hkV hgr hgz oz1 oz2 oz3 hkZ x0 x1 x2 x3 y0 y1 y2 y3 gg HX HY
    rintro V3 ⟨own1, own2, hkV⟩
    obtain ⟨bb', off', hae, hbb, g0, g1', g2', g3'⟩ := Load.row (h0.later hkV (Nat.le_refl _)) i hil
    obtain ⟨rfl, rfl⟩ : bb = bb' ∧ off = off' := by simpa using hae
    have hls : (swapped xs i k hil hkl).length = xs.length := own2.1
    obtain ⟨SW, hSW⟩ : ∃ S, S = swapped xs i k hil hkl := ⟨_, rfl⟩
    have HOT := Lib.hid (show other xs i k hil hkl = SW ++ [light xs[i]] by rw [hSW]; rfl)
    rw [← hSW] at own2
    obtain ⟨X, hX⟩ : ∃ X, X = xs[i] := ⟨_, rfl⟩
    rw [← hX] at HOT g0 g1'
    have hzV := hkV.size
    clear hae g2' g3' hX hSW hls
    go_upto_region 11 with (at_builtin; obtain ⟨i0, hi, hz0, hz1, hz2⟩ := info_parts infoLoad; refine wpList_append_own _ rfl _ _ 22 rfl B2 88 i0 (.agg #[.int .i64 0, .int .i64 0, .int .i64 0, .int .i64 0]) 4 32 Try.underlying22 hi hz0 hz1 hz2 rfl (by decide) _ _ _ rfl (own2.2.alloc _) ⟨_, 0, none⟩ 1 1 [.int .i64 X.alo, .int .i64 X.ahi, .int .i64 0, .int .i64 0] rfl rfl (cells_four _ _ _ _ _ _) (by intro x hx; simp only [List.mem_cons, List.not_mem_nil, or_false] at hx; rcases hx with rfl | rfl | rfl | rfl <;> rfl) (by unfold maxLen; omega) (by omega) (by simp only [World.size_alloc]; have := own2.lt; have := own2.blk.1; omega) ?_; intro v9 w9 hown9 hgrow9 hnil9; clear hi hz0 hz1 hz2)
    have ow1 := (own1.keep (Kept.alloc (Below.refl _ _) _)).turned e12 hgrow9
    have hk9 := Kept.grown (Kept.alloc hkV _) (own2.2.alloc _) hB2w hgrow9
    obtain ⟨OO, hOO⟩ : ∃ l, l = other xs i k hil hkl := ⟨_, rfl⟩
    obtain ⟨KK, hKK⟩ : ∃ l, l = known xs i ⟨p, q⟩ := ⟨_, rfl⟩
    have hlw := own2.1
    have hown9' : w9.ownsRow B2 88 4 v9 OO.length (OO.flatMap Load.cells) := by
      rw [hOO, HOT.out, List.flatMap_append, List.length_append, hlw]; exact hown9
    obtain ⟨rK, hK1, hK2⟩ := ow1.row
    obtain ⟨aO, cO, rfl, rO, hO1, hO2⟩ := owns_row (enc := Load.cells) (k := 4) load_len hown9'
    rw [← hKK] at rK
    refine at_world (S := fun V => Row Load.cells 4 V.heap.size V (some ⟨g1, 0, none⟩) KK ∧ Row Load.cells 4 V.heap.size V aO OO ∧ Kept w V) ⟨rK, rO, hk9⟩ ?_
    have HKL := Lib.hid (show KK.length = xs.length by rw [hKK]; exact known_len xs i ⟨p, q⟩)
    have HE1 := Lib.hid (show breachE OO ms = E by rw [hOO]; exact HEO.out)
    have HN1 := Lib.hid (show breachN OO ms = N by rw [hOO]; exact HNO.out)
    have HP1 := Lib.hid (show breachP OO ms = P2 by rw [hOO]; exact HPO.out)
    have HF1 := Lib.hid (show breachE KK ms = F by rw [hKK]; exact HEK.out)
    have HM1 := Lib.hid (show breachN KK ms = M by rw [hKK]; exact HNK.out)
    have HQ1 := Lib.hid (show breachP KK ms = P1 by rw [hKK]; exact HPK.out)
    have HS1 := Lib.hid (show strE OO fs = 0 by rw [hOO]; exact HSO.out)
    have HS2 := Lib.hid (show strP OO fs = SP by rw [hOO]; exact HSPO.out)
    have HS3 := Lib.hid (show strE KK fs = 0 by rw [hKK]; exact HSK.out)
    have HS4 := Lib.hid (show strP KK fs = SQ by rw [hKK]; exact HSPK.out)
    clear own1 own2 hkV hown9 hown9' hgrow9 hnil9 ow1 hk9 rK rO hlw g0 g1' hzV hbb
    clear hOO hKK HEO HNO HPO HEK HNK HPK HSO HSPO HSK HSPK HOT HPI e12 i0 i1 k0 k1' t1 t2 u1 u2 u3 u4
    rintro W0 ⟨r1, r2, hk⟩
    go_upto_region 12 with (go_at_call 25; (with_reducible refine (o_breachL _ c0 xs _ (h0.later (by (exact kpt)) (Nat.le_refl _)) rfl hl0 hm0 a1 c1 ms (h1.later (by (exact kpt)) (Nat.le_refl _)) hl1 hm1 n0 N E P0 HN.out HE.out HP.out HL0.out).mono ?_); rintro e wB ⟨awB, cwB, rfl, hwB, hwB1, hwB2, hbwB⟩)
    refine at_world (S := fun W2 => Row Load.cells 4 W2.heap.size W2 (some ⟨g1, 0, none⟩) KK ∧ Row Load.cells 4 W2.heap.size W2 aO OO ∧ Blk W2 wB.heap.size #[.int .i64 N, .slice awB n0 cwB] 36 ∧ Kept w W2) ⟨(r1.later (by (exact kpt)) (Nat.le_refl _)), (r2.later (by (exact kpt)) (Nat.le_refl _)), by (exact blkc), by (exact kpt)⟩ ?_
    obtain ⟨n1, hn1⟩ : ∃ n, n = wB.heap.size := ⟨_, rfl⟩
    rw [← hn1]
    clear r1 r2 hk hn1
    rintro W2 ⟨r1, r2, q1, hk⟩
    go_upto_region 13 with (go_at_call 25; (with_reducible refine (o_breachL _ cc1 KK _ (r1.later (by (exact kpt)) (Nat.le_refl _)) HKL.out hK1 hK2 a1 c1 ms (h1.later (by (exact kpt)) (Nat.le_refl _)) hl1 hm1 nk1 M F P1 HM1.out HF1.out HQ1.out HL1.out).mono ?_); rintro e wC ⟨awC, cwC, rfl, hwC, hwC1, hwC2, hbwC⟩)
    refine at_world (S := fun W3 => Row Load.cells 4 W3.heap.size W3 (some ⟨g1, 0, none⟩) KK ∧ Row Load.cells 4 W3.heap.size W3 aO OO ∧ Blk W3 n1 #[.int .i64 N, .slice awB n0 cwB] 36 ∧ Blk W3 wC.heap.size #[.int .i64 M, .slice awC nk1 cwC] 36 ∧ Kept w W3) ⟨(r1.later (by (exact kpt)) (Nat.le_refl _)), (r2.later (by (exact kpt)) (Nat.le_refl _)), by (exact blk), by (exact blkc), by (exact kpt)⟩ ?_
    obtain ⟨n2, hn2⟩ : ∃ n, n = wC.heap.size := ⟨_, rfl⟩
    rw [← hn2]
    clear r1 r2 q1 hk hn2
    rintro W3 ⟨r1, r2, q1, q2, hk⟩
    go_upto_region 14 with (go_at_call 25; (with_reducible refine (o_breachL _ cO OO _ (r2.later (by (exact kpt)) (Nat.le_refl _)) rfl hO1 hO2 a1 c1 ms (h1.later (by (exact kpt)) (Nat.le_refl _)) hl1 hm1 nk2 N E P2 HN1.out HE1.out HP1.out HL2.out).mono ?_); rintro e wD ⟨awD, cwD, rfl, hwD, hwD1, hwD2, hbwD⟩)
    refine at_world (S := fun W4 => Row Load.cells 4 W4.heap.size W4 (some ⟨g1, 0, none⟩) KK ∧ Row Load.cells 4 W4.heap.size W4 aO OO ∧ Blk W4 n1 #[.int .i64 N, .slice awB n0 cwB] 36 ∧ Blk W4 n2 #[.int .i64 M, .slice awC nk1 cwC] 36 ∧ Blk W4 wD.heap.size #[.int .i64 N, .slice awD nk2 cwD] 36 ∧ Kept w W4) ⟨(r1.later (by (exact kpt)) (Nat.le_refl _)), (r2.later (by (exact kpt)) (Nat.le_refl _)), by (exact blk), by (exact blk), by (exact blkc), by (exact kpt)⟩ ?_
    obtain ⟨n3, hn3⟩ : ∃ n, n = wD.heap.size := ⟨_, rfl⟩
    rw [← hn3]
    clear r1 r2 q1 q2 hk hn3
    rintro W4 ⟨r1, r2, q1, q2, q3, hk⟩
    go_upto_region 15 with (go_at_call 39; (with_reducible refine (o_strainedL _ c0 xs _ (h0.later (by (exact kpt)) (Nat.le_refl _)) rfl hl0 hm0 a2 c2 fs (h2.later (by (exact kpt)) (Nat.le_refl _)) hl2 hm2 SP HSE.out HSP.out).mono ?_); rintro e wP ⟨awP, cwP, rfl, hwP, hwP1, hwP2, hbwP⟩)
    refine at_world (S := fun W5 => Row Load.cells 4 W5.heap.size W5 (some ⟨g1, 0, none⟩) KK ∧ Row Load.cells 4 W5.heap.size W5 aO OO ∧ Blk W5 n1 #[.int .i64 N, .slice awB n0 cwB] 36 ∧ Blk W5 n2 #[.int .i64 M, .slice awC nk1 cwC] 36 ∧ Blk W5 n3 #[.int .i64 N, .slice awD nk2 cwD] 36 ∧ Row icell 1 W5.heap.size W5 awP SP ∧ Kept w W5) ⟨(r1.later (by (exact kpt)) (Nat.le_refl _)), (r2.later (by (exact kpt)) (Nat.le_refl _)), by (exact blk), by (exact blk), by (exact blk), (hwP.later (by (exact kpt)) (Nat.le_refl _)), by (exact kpt)⟩ ?_
    clear r1 r2 q1 q2 q3 hk
    rintro W5 ⟨r1, r2, q1, q2, q3, r3, hk⟩
    go_upto_region 16 with (go_at_call 39; (with_reducible refine (o_strainedL _ cc1 KK _ (r1.later (by (exact kpt)) (Nat.le_refl _)) HKL.out hK1 hK2 a2 c2 fs (h2.later (by (exact kpt)) (Nat.le_refl _)) hl2 hm2 SQ HS3.out HS4.out).mono ?_); rintro e wQ ⟨awQ, cwQ, rfl, hwQ, hwQ1, hwQ2, hbwQ⟩)
    refine at_world (S := fun W6 => Row Load.cells 4 W6.heap.size W6 (some ⟨g1, 0, none⟩) KK ∧ Row Load.cells 4 W6.heap.size W6 aO OO ∧ Blk W6 n1 #[.int .i64 N, .slice awB n0 cwB] 36 ∧ Blk W6 n2 #[.int .i64 M, .slice awC nk1 cwC] 36 ∧ Blk W6 n3 #[.int .i64 N, .slice awD nk2 cwD] 36 ∧ Row icell 1 W6.heap.size W6 awP SP ∧ Row icell 1 W6.heap.size W6 awQ SQ ∧ Kept w W6) ⟨(r1.later (by (exact kpt)) (Nat.le_refl _)), (r2.later (by (exact kpt)) (Nat.le_refl _)), by (exact blk), by (exact blk), by (exact blk), (r3.later (by (exact kpt)) (Nat.le_refl _)), (hwQ.later (by (exact kpt)) (Nat.le_refl _)), by (exact kpt)⟩ ?_
    clear r1 r2 q1 q2 q3 r3 hk
    rintro W6 ⟨r1, r2, q1, q2, q3, r3, r4, hk⟩
    go_upto_region 17 with (go_at_call 39; (with_reducible refine (o_strainedL _ cO OO _ (r2.later (by (exact kpt)) (Nat.le_refl _)) rfl hO1 hO2 a2 c2 fs (h2.later (by (exact kpt)) (Nat.le_refl _)) hl2 hm2 SP HS1.out HS2.out).mono ?_); rintro e wR ⟨awR, cwR, rfl, hwR, hwR1, hwR2, hbwR⟩)
    refine at_world (S := fun W7 => Row Load.cells 4 W7.heap.size W7 (some ⟨g1, 0, none⟩) KK ∧ Row Load.cells 4 W7.heap.size W7 aO OO ∧ Blk W7 n1 #[.int .i64 N, .slice awB n0 cwB] 36 ∧ Blk W7 n2 #[.int .i64 M, .slice awC nk1 cwC] 36 ∧ Blk W7 n3 #[.int .i64 N, .slice awD nk2 cwD] 36 ∧ Row icell 1 W7.heap.size W7 awP SP ∧ Row icell 1 W7.heap.size W7 awQ SQ ∧ Row icell 1 W7.heap.size W7 awR SP ∧ Kept w W7) ⟨(r1.later (by (exact kpt)) (Nat.le_refl _)), (r2.later (by (exact kpt)) (Nat.le_refl _)), by (exact blk), by (exact blk), by (exact blk), (r3.later (by (exact kpt)) (Nat.le_refl _)), (r4.later (by (exact kpt)) (Nat.le_refl _)), (hwR.later (by (exact kpt)) (Nat.le_refl _)), by (exact kpt)⟩ ?_
    clear r1 r2 q1 q2 q3 r3 r4 hk
    rintro W7 ⟨r1, r2, q1, q2, q3, r3, r4, r5, hk⟩
    have q1c0 := q1.cell 0
    have q1f0 := q1.free 0
    have q1c1 := q1.cell 1
    have q1f1 := q1.free 1
    have q1l := q1.lt
    simp at q1c0 q1c1
    have q2c0 := q2.cell 0
    have q2f0 := q2.free 0
    have q2c1 := q2.cell 1
    have q2f1 := q2.free 1
    have q2l := q2.lt
    simp at q2c0 q2c1
    have q3c0 := q3.cell 0
    have q3f0 := q3.free 0
    have q3c1 := q3.cell 1
    have q3f1 := q3.free 1
    have q3l := q3.lt
    simp at q3c0 q3c1
    rcases HCC.out with ⟨rfl, rfl⟩ | ⟨rfl, rfl⟩ | ⟨rfl, rfl, hNM⟩
    · skip
      go_upto_region 19 with (go_at_call 41; (with_reducible refine (r_SameInts awP awR cwP cwR SP _ (r3.later (by (exact kpt)) (Nat.le_refl _)) (r5.later (by (exact kpt)) (Nat.le_refl _)) hwP1 hwR1 hwP2 hwR2).mono ?_); rintro e wS ⟨rfl, hbS⟩)
      refine at_world (S := fun V => Row icell 1 V.heap.size V awP SP ∧ Row icell 1 V.heap.size V awQ SQ ∧ Kept w V) ⟨(r3.later (by (exact kpt)) (Nat.le_refl _)), (r4.later (by (exact kpt)) (Nat.le_refl _)), by (exact kpt)⟩ ?_
      clear r1 r2 q1 q2 q3 r3 r4 r5 hk q1c0 q1f0 q1c1 q1f1 q1l q2c0 q2f0 q2c1 q2f1 q2l q3c0 q3f0 q3c1 q3f1 q3l
      rintro WM ⟨r3, r4, hk⟩
      have hmm := @run_makeMap Try.prog
      go_wp2
      go_loopw [215] (fun i wr => ∃ j : Nat, j ≤ SP.length ∧ i = .int .i64 j ∧ InSet Try.prog 3 4 wr WM.heap.size j (inL (SP.take j)) ∧ Kept WM wr) (fun i _ => SP.length - (intOf i).toNat)
      case atStart => exact ⟨0, Nat.zero_le _, rfl, by rw [List.take_zero, inL_nil]; exact InSet.made rfl, Kept.alloc (Below.refl _ _) _⟩
      case round =>
        obtain ⟨j, hj, rfl, hset, hkk⟩ := hrel
        by_cases hlt : j < SP.length
        · obtain ⟨bt, ot, rfl, hbt, gx⟩ := int_row (r3.later hkk (Nat.le_refl _)) j hlt
          have hX12 := HSB.out _ (List.getElem_mem hlt)
          have hin1 := inL_new SP j hlt
          have hin2 := fun z hz => inL_old SP j hlt (z := z) hz
          obtain ⟨X, hX⟩ : ∃ X, X = SP[j] := ⟨_, rfl⟩
          rw [← hX] at gx hX12 hin1 hin2
          clear hX
          have hkey : keyOf Try.prog 3 (.int .i64 X) = some (.int .i64 X) := Go.Maps.keyOf_int_mk Try.underlying3 (WalkArith.wf_i64 (by omega))
          have hsl := HSL.out
          have hjm : j < maxLen := by unfold maxLen; omega
          have j0 : (0 : Int) ≤ (j : Int) := by omega
          have j1 : (j : Int) < (SP.length : Int) := by omega
          go_wp2_with (at_mapUpdate; refine wpList_put_set _ rfl _ _ _ 101 rfl 3 4 keyedInt Try.underlying101 Try.underlying4 _ _ _ (inL (SP.take (j + 1))) rfl hset hjm _ true (.int .i64 X) rfl rfl hkey trivial hin1 hin2 ?_; intro w1 hset1 hgrow1)
          go_roundw
          case rel => exact ⟨j + 1, by omega, by go_num, hset1, Kept.turned hkk (Nat.le_refl _) hgrow1⟩
          case measure => simp [intOf]; omega
        · obtain rfl : SP.length = j := by omega
          rw [List.take_length] at hset
          go_wp2
          go_loopw [224] (fun i wq => ∃ j : Nat, j ≤ SQ.length ∧ i = .int .i64 j ∧ InSet Try.prog 3 4 wq WM.heap.size SP.length (inL SP) ∧ Kept WM wq) (fun i _ => SQ.length - (intOf i).toNat)
          case atStart => exact ⟨0, Nat.zero_le _, rfl, hset, hkk⟩
          case round =>
            clear hset hkk
            obtain ⟨j, hj, rfl, hset, hkk⟩ := hrel
            have hkw := Kept.drop hk hkk
            by_cases hlt2 : j < SQ.length
            · obtain ⟨bt, ot, rfl, hbt, gx⟩ := int_row (r4.later hkk (Nat.le_refl _)) j hlt2
              have hsl := HQL.out
              have hmem := HIQ.out _ (List.getElem_mem hlt2)
              have hX12 := HSB.out _ hmem
              have hin := inL_mem hmem
              obtain ⟨X, hX⟩ : ∃ X, X = SQ[j] := ⟨_, rfl⟩
              rw [← hX] at gx hX12 hin
              clear hX hmem
              have hkey : keyOf Try.prog 3 (.int .i64 X) = some (.int .i64 X) := Go.Maps.keyOf_int_mk Try.underlying3 (WalkArith.wf_i64 (by omega))
              have j0 : (0 : Int) ≤ (j : Int) := by omega
              have j1 : (j : Int) < (SQ.length : Int) := by omega
              go_wp2_with (at_lookup; refine wpList_look_set _ rfl _ _ 101 rfl 3 4 keyedInt Try.underlying101 Try.underlying4 (zeroBool _) _ _ _ rfl hset _ _ rfl hkey ?_; rw [hin])
              go_roundw
              case rel => exact ⟨j + 1, by omega, by go_num, hset, hkk⟩
              case measure => simp [intOf]; omega
            · obtain rfl : SQ.length = j := by omega
              go_wp2
              go_ret; exact ⟨rfl, by (exact kpt)⟩
    · skip
      go_upto_region 19 with (go_at_call 41; (with_reducible refine (r_SameInts awP awR cwP cwR SP _ (r3.later (by (exact kpt)) (Nat.le_refl _)) (r5.later (by (exact kpt)) (Nat.le_refl _)) hwP1 hwR1 hwP2 hwR2).mono ?_); rintro e wS ⟨rfl, hbS⟩)
      refine at_world (S := fun V => Row icell 1 V.heap.size V awP SP ∧ Row icell 1 V.heap.size V awQ SQ ∧ Kept w V) ⟨(r3.later (by (exact kpt)) (Nat.le_refl _)), (r4.later (by (exact kpt)) (Nat.le_refl _)), by (exact kpt)⟩ ?_
      clear r1 r2 q1 q2 q3 r3 r4 r5 hk q1c0 q1f0 q1c1 q1f1 q1l q2c0 q2f0 q2c1 q2f1 q2l q3c0 q3f0 q3c1 q3f1 q3l
      rintro WM ⟨r3, r4, hk⟩
      have hmm := @run_makeMap Try.prog
      go_wp2
      go_loopw [215] (fun i wr => ∃ j : Nat, j ≤ SP.length ∧ i = .int .i64 j ∧ InSet Try.prog 3 4 wr WM.heap.size j (inL (SP.take j)) ∧ Kept WM wr) (fun i _ => SP.length - (intOf i).toNat)
      case atStart => exact ⟨0, Nat.zero_le _, rfl, by rw [List.take_zero, inL_nil]; exact InSet.made rfl, Kept.alloc (Below.refl _ _) _⟩
      case round =>
        obtain ⟨j, hj, rfl, hset, hkk⟩ := hrel
        by_cases hlt : j < SP.length
        · obtain ⟨bt, ot, rfl, hbt, gx⟩ := int_row (r3.later hkk (Nat.le_refl _)) j hlt
          have hX12 := HSB.out _ (List.getElem_mem hlt)
          have hin1 := inL_new SP j hlt
          have hin2 := fun z hz => inL_old SP j hlt (z := z) hz
          obtain ⟨X, hX⟩ : ∃ X, X = SP[j] := ⟨_, rfl⟩
          rw [← hX] at gx hX12 hin1 hin2
          clear hX
          have hkey : keyOf Try.prog 3 (.int .i64 X) = some (.int .i64 X) := Go.Maps.keyOf_int_mk Try.underlying3 (WalkArith.wf_i64 (by omega))
          have hsl := HSL.out
          have hjm : j < maxLen := by unfold maxLen; omega
          have j0 : (0 : Int) ≤ (j : Int) := by omega
          have j1 : (j : Int) < (SP.length : Int) := by omega
          go_wp2_with (at_mapUpdate; refine wpList_put_set _ rfl _ _ _ 101 rfl 3 4 keyedInt Try.underlying101 Try.underlying4 _ _ _ (inL (SP.take (j + 1))) rfl hset hjm _ true (.int .i64 X) rfl rfl hkey trivial hin1 hin2 ?_; intro w1 hset1 hgrow1)
          go_roundw
          case rel => exact ⟨j + 1, by omega, by go_num, hset1, Kept.turned hkk (Nat.le_refl _) hgrow1⟩
          case measure => simp [intOf]; omega
        · obtain rfl : SP.length = j := by omega
          rw [List.take_length] at hset
          go_wp2
          go_loopw [224] (fun i wq => ∃ j : Nat, j ≤ SQ.length ∧ i = .int .i64 j ∧ InSet Try.prog 3 4 wq WM.heap.size SP.length (inL SP) ∧ Kept WM wq) (fun i _ => SQ.length - (intOf i).toNat)
          case atStart => exact ⟨0, Nat.zero_le _, rfl, hset, hkk⟩
          case round =>
            clear hset hkk
            obtain ⟨j, hj, rfl, hset, hkk⟩ := hrel
            have hkw := Kept.drop hk hkk
            by_cases hlt2 : j < SQ.length
            · obtain ⟨bt, ot, rfl, hbt, gx⟩ := int_row (r4.later hkk (Nat.le_refl _)) j hlt2
              have hsl := HQL.out
              have hmem := HIQ.out _ (List.getElem_mem hlt2)
              have hX12 := HSB.out _ hmem
              have hin := inL_mem hmem
              obtain ⟨X, hX⟩ : ∃ X, X = SQ[j] := ⟨_, rfl⟩
              rw [← hX] at gx hX12 hin
              clear hX hmem
              have hkey : keyOf Try.prog 3 (.int .i64 X) = some (.int .i64 X) := Go.Maps.keyOf_int_mk Try.underlying3 (WalkArith.wf_i64 (by omega))
              have j0 : (0 : Int) ≤ (j : Int) := by omega
              have j1 : (j : Int) < (SQ.length : Int) := by omega
              go_wp2_with (at_lookup; refine wpList_look_set _ rfl _ _ 101 rfl 3 4 keyedInt Try.underlying101 Try.underlying4 (zeroBool _) _ _ _ rfl hset _ _ rfl hkey ?_; rw [hin])
              go_roundw
              case rel => exact ⟨j + 1, by omega, by go_num, hset, hkk⟩
              case measure => simp [intOf]; omega
            · obtain rfl : SQ.length = j := by omega
              go_wp2
              go_ret; exact ⟨rfl, by (exact kpt)⟩
    · have f1 : ¬ M < N := by omega
      go_upto_region 19 with (go_at_call 41; (with_reducible refine (r_SameInts awP awR cwP cwR SP _ (r3.later (by (exact kpt)) (Nat.le_refl _)) (r5.later (by (exact kpt)) (Nat.le_refl _)) hwP1 hwR1 hwP2 hwR2).mono ?_); rintro e wS ⟨rfl, hbS⟩)
      refine at_world (S := fun V => Row icell 1 V.heap.size V awP SP ∧ Row icell 1 V.heap.size V awQ SQ ∧ Kept w V) ⟨(r3.later (by (exact kpt)) (Nat.le_refl _)), (r4.later (by (exact kpt)) (Nat.le_refl _)), by (exact kpt)⟩ ?_
      clear r1 r2 q1 q2 q3 r3 r4 r5 hk q1c0 q1f0 q1c1 q1f1 q1l q2c0 q2f0 q2c1 q2f1 q2l q3c0 q3f0 q3c1 q3f1 q3l hNM f1
      rintro WM ⟨r3, r4, hk⟩
      have hmm := @run_makeMap Try.prog
      go_wp2
      go_loopw [215] (fun i wr => ∃ j : Nat, j ≤ SP.length ∧ i = .int .i64 j ∧ InSet Try.prog 3 4 wr WM.heap.size j (inL (SP.take j)) ∧ Kept WM wr) (fun i _ => SP.length - (intOf i).toNat)
      case atStart => exact ⟨0, Nat.zero_le _, rfl, by rw [List.take_zero, inL_nil]; exact InSet.made rfl, Kept.alloc (Below.refl _ _) _⟩
      case round =>
        obtain ⟨j, hj, rfl, hset, hkk⟩ := hrel
        by_cases hlt : j < SP.length
        · obtain ⟨bt, ot, rfl, hbt, gx⟩ := int_row (r3.later hkk (Nat.le_refl _)) j hlt
          have hX12 := HSB.out _ (List.getElem_mem hlt)
          have hin1 := inL_new SP j hlt
          have hin2 := fun z hz => inL_old SP j hlt (z := z) hz
          obtain ⟨X, hX⟩ : ∃ X, X = SP[j] := ⟨_, rfl⟩
          rw [← hX] at gx hX12 hin1 hin2
          clear hX
          have hkey : keyOf Try.prog 3 (.int .i64 X) = some (.int .i64 X) := Go.Maps.keyOf_int_mk Try.underlying3 (WalkArith.wf_i64 (by omega))
          have hsl := HSL.out
          have hjm : j < maxLen := by unfold maxLen; omega
          have j0 : (0 : Int) ≤ (j : Int) := by omega
          have j1 : (j : Int) < (SP.length : Int) := by omega
          go_wp2_with (at_mapUpdate; refine wpList_put_set _ rfl _ _ _ 101 rfl 3 4 keyedInt Try.underlying101 Try.underlying4 _ _ _ (inL (SP.take (j + 1))) rfl hset hjm _ true (.int .i64 X) rfl rfl hkey trivial hin1 hin2 ?_; intro w1 hset1 hgrow1)
          go_roundw
          case rel => exact ⟨j + 1, by omega, by go_num, hset1, Kept.turned hkk (Nat.le_refl _) hgrow1⟩
          case measure => simp [intOf]; omega
        · obtain rfl : SP.length = j := by omega
          rw [List.take_length] at hset
          go_wp2
          go_loopw [224] (fun i wq => ∃ j : Nat, j ≤ SQ.length ∧ i = .int .i64 j ∧ InSet Try.prog 3 4 wq WM.heap.size SP.length (inL SP) ∧ Kept WM wq) (fun i _ => SQ.length - (intOf i).toNat)
          case atStart => exact ⟨0, Nat.zero_le _, rfl, hset, hkk⟩
          case round =>
            clear hset hkk
            obtain ⟨j, hj, rfl, hset, hkk⟩ := hrel
            have hkw := Kept.drop hk hkk
            by_cases hlt2 : j < SQ.length
            · obtain ⟨bt, ot, rfl, hbt, gx⟩ := int_row (r4.later hkk (Nat.le_refl _)) j hlt2
              have hsl := HQL.out
              have hmem := HIQ.out _ (List.getElem_mem hlt2)
              have hX12 := HSB.out _ hmem
              have hin := inL_mem hmem
              obtain ⟨X, hX⟩ : ∃ X, X = SQ[j] := ⟨_, rfl⟩
              rw [← hX] at gx hX12 hin
              clear hX hmem
              have hkey : keyOf Try.prog 3 (.int .i64 X) = some (.int .i64 X) := Go.Maps.keyOf_int_mk Try.underlying3 (WalkArith.wf_i64 (by omega))
              have j0 : (0 : Int) ≤ (j : Int) := by omega
              have j1 : (j : Int) < (SQ.length : Int) := by omega
              go_wp2_with (at_lookup; refine wpList_look_set _ rfl _ _ 101 rfl 3 4 keyedInt Try.underlying101 Try.underlying4 (zeroBool _) _ _ _ rfl hset _ _ rfl hkey ?_; rw [hin])
              go_roundw
              case rel => exact ⟨j + 1, by omega, by go_num, hset, hkk⟩
              case measure => simp [intOf]; omega
            · obtain rfl : SQ.length = j := by omega
              go_wp2
              go_ret; exact ⟨rfl, by (exact kpt)⟩
theorem wf_u8 {n : Int} (h : (Lit.int .u8 n).wf = true) : 0 ≤ n ∧ n ≤ 255 := by
  simp only [Lit.wf, Bool.and_eq_true, decide_eq_true_eq] at h
  have e1 : IntKind.min .u8 = 0 := by decide
  have e2 : IntKind.max .u8 = 255 := by decide
  rw [e1, e2] at h
  exact h
theorem law_TrimBetter_u (a0 : Option Addr) (c0 : Nat) (xs : List Load) (a1 : Option Addr) (c1 : Nat) (ms : List Limit) (a2 : Option Addr) (c2 : Nat) (fs : List Frm) (m1 m2 x y : Int) (hm1b : 0 ≤ m1 ∧ m1 ≤ 255) (hm2b : 0 ≤ m2 ∧ m2 ≤ 255) (hx16 : 0 ≤ x ∧ x ≤ 65535) (hy16 : 0 ≤ y ∧ y ≤ 65535) (w : World) (h0 : Row Load.cells 4 w.heap.size w a0 xs) (hl0 : xs.length ≤ c0) (hm0 : c0 ≤ maxLen) (hz0 : a0 = none → c0 = 0) (h1 : Row Limit.cells 3 w.heap.size w a1 ms) (hl1 : ms.length ≤ c1) (hm1 : c1 ≤ maxLen) (h2 : Row Frm.cells 3 w.heap.size w a2 fs) (hl2 : fs.length ≤ c2) (hm2 : c2 ≤ maxLen) :
    Calls Try.prog 14 #[.slice a0 xs.length c0, .slice a1 ms.length c1, .slice a2 fs.length c2, .int .u8 m1, .int .u8 m2, .int .u16 x, .int .u16 y] w fun e w' => e = .returned (.bool true) ∧ Kept w w' := by
  obtain ⟨q, rfl⟩ := Int.eq_ofNat_of_zero_le hm1b.1
  obtain ⟨r, rfl⟩ := Int.eq_ofNat_of_zero_le hm2b.1
  exact law_TrimBetter a0 c0 xs a1 c1 ms a2 c2 fs q r x y (by omega) (by omega) hx16 hy16 w h0 hl0 hm0 hz0 h1 hl1 hm1 h2 hl2 hm2
end Go.Proofs.Ytlloijkmpmfapaa

/-
  TrimBetter, the statement: for every input the call returns true and leaves the input alone.
-/
namespace Go.Proofs.Ytlloijkmpmfapaa.trimBetter
open Go.ChangeShapes Go.WideShapes Go.ChangeAt Go.RowKit Bal Bal.Trim
open Go.ChangeMaps (open_string shut_string)
set_option linter.unusedVariables false

theorem own : ownKnob Try.prog.godebug = none := by kernel_rfl
theorem laidOut : laidOutB Try.prog = true := by kernel_rfl

set_option maxRecDepth 100000 in
theorem lifted (os : Os) (started : os.Started) (H : Type) (enc : TypeId × Value → H) :
    ReturnsInHanded {} Try.checked os 14 .any (Rows.trimBetterSpec.pre6 enc Try.prog Try.f14 Rows.trimBetterRow.domain false) (Rows.trimBetterSpec.post enc Try.prog Try.f14 false true false false) := by
  refine returnsInHanded_of_change (C := Try.checked) own started (by kernel_rfl) Try.func14
    (ChangeSpec.witness6 (enc := enc) (C := Try.checked) false ⟨#[], #[.slice none 0 0, .slice none 0 0, .slice none 0 0, .int .u8 0, .int .u8 0, .int .u16 0, .int .u16 0], []⟩ 8 (by kernel_rfl) (by kernel_rfl) (by kernel_rfl) (by kernel_rfl)) ?_
  intro W base args ds gs before hval0 hW hcnd _
  have hval : ∀ (j : Nat) t v, Try.f14.params[j]? = some t → args[j]? = some v → Value.okWide Try.prog W .any base t v := hval0
  have hW' := hW
  obtain ⟨p, q, hA0, hV, rfl, hfz, hnd⟩ := hW
  have hA : DataW.TrodAll enc Try.prog W 0 (fun _ => true) true Try.f14.params.toList args.toList ds p := hA0
  rw [Try.params14] at hA hval
  obtain ⟨v0, vs0, d0, ds0, p0, q0, hargs, rfl, rfl, h0, r0⟩ := trodAll_cons hA
  obtain ⟨v1, vs1, d1, ds1, p1, q1, rfl, rfl, rfl, h1, r1⟩ := trodAll_cons r0
  obtain ⟨v2, vs2, d2, ds2, p2, q2, rfl, rfl, rfl, h2, r2⟩ := trodAll_cons r1
  obtain ⟨v3, vs3, d3, ds3, p3, q3, rfl, rfl, rfl, h3, r3⟩ := trodAll_cons r2
  obtain ⟨v4, vs4, d4, ds4, p4, q4, rfl, rfl, rfl, h4, r4⟩ := trodAll_cons r3
  obtain ⟨v5, vs5, d5, ds5, p5, q5, rfl, rfl, rfl, h5, r5⟩ := trodAll_cons r4
  obtain ⟨v6, vs6, d6, ds6, p6, q6, rfl, rfl, rfl, h6, r6⟩ := trodAll_cons r5
  obtain ⟨rfl, rfl, rfl⟩ := trodAll_nil r6
  obtain rfl : args = #[v0, v1, v2, v3, v4, v5, v6] := by cases args; simp_all
  obtain ⟨rfl, rfl⟩ := trodVars_none hV
  have k0 := h0
  have lt0 : ∀ x ∈ p0, x.block < W.heap.size := by obtain ⟨m, hm⟩ := k0; exact DataW.trod_lt m _ _ _ hm
  obtain ⟨a0, len0, cap0, rfl⟩ := okWide_slice Try.underlying22 (hval 0 22 v0 rfl rfl)
  obtain ⟨fuel0, hf0⟩ := h0
  obtain ⟨b0, c0, xs0, e0, hl0, hm0, row0, wf0, z0⟩ := open_typed (n := 4) (fun _ h => Load.of_leaves h) Try.underlying22 (by kernel_rfl) (by kernel_rfl) (by decide) hf0
  simp [Value.cells] at e0
  obtain ⟨rfl, rfl, rfl⟩ := e0
  have k1 := h1
  have lt1 : ∀ x ∈ p1, x.block < W.heap.size := by obtain ⟨m, hm⟩ := k1; exact DataW.trod_lt m _ _ _ hm
  obtain ⟨a1, len1, cap1, rfl⟩ := okWide_slice Try.underlying23 (hval 1 23 v1 rfl rfl)
  obtain ⟨fuel1, hf1⟩ := h1
  obtain ⟨b1, c1, xs1, e1, hl1, hm1, row1, wf1, z1⟩ := open_typed (n := 4) (fun _ h => Limit.of_leaves h) Try.underlying23 (by kernel_rfl) (by kernel_rfl) (by decide) hf1
  simp [Value.cells] at e1
  obtain ⟨rfl, rfl, rfl⟩ := e1
  have k2 := h2
  have lt2 : ∀ x ∈ p2, x.block < W.heap.size := by obtain ⟨m, hm⟩ := k2; exact DataW.trod_lt m _ _ _ hm
  obtain ⟨a2, len2, cap2, rfl⟩ := okWide_slice Try.underlying24 (hval 2 24 v2 rfl rfl)
  obtain ⟨fuel2, hf2⟩ := h2
  obtain ⟨b2, c2, xs2, e2, hl2, hm2, row2, wf2, z2⟩ := open_typed (n := 4) (fun _ h => Frm.of_leaves h) Try.underlying24 (by kernel_rfl) (by kernel_rfl) (by decide) hf2
  simp [Value.cells] at e2
  obtain ⟨rfl, rfl, rfl⟩ := e2
  obtain ⟨a3, rfl, rfl, rfl, w3⟩ := open_int Try.underlying5 (hval 3 5 v3 rfl rfl) h3
  obtain ⟨a4, rfl, rfl, rfl, w4⟩ := open_int Try.underlying5 (hval 4 5 v4 rfl rfl) h4
  obtain ⟨a5, rfl, rfl, rfl, w5⟩ := open_int Try.underlying81 (hval 5 81 v5 rfl rfl) h5
  obtain ⟨a6, rfl, rfl, rfl, w6⟩ := open_int Try.underlying81 (hval 6 81 v6 rfl rfl) h6
  clear hA0 hval0
  refine (law_TrimBetter_u _ _ xs0 _ _ xs1 _ _ xs2 a3 a4 a5 a6 (wf_u8 w3) (wf_u8 w4) (wf_u16 w5) (wf_u16 w6) W row0 hl0 hm0 z0 row1 hl1 hm1 row2 hl2 hm2).mono fun e W' ⟨he, bel⟩ => ?_
  subst he
  exact ⟨_, rfl, _, _, _, [], _, [], hW', trodAll_mk1 (shut_bool Try.underlying4 _), (trodAll_cons_mk (Below.trod laidOut (by kernel_rfl) (of_decide_eq_true (by kernel_rfl)) k0 bel lt0) (trodAll_cons_mk (Below.trod laidOut (by kernel_rfl) (of_decide_eq_true (by kernel_rfl)) k1 bel lt1) (trodAll_cons_mk (Below.trod laidOut (by kernel_rfl) (of_decide_eq_true (by kernel_rfl)) k2 bel lt2) (trodAll_cons_mk (shut_int Try.underlying5 w3) (trodAll_cons_mk (shut_int Try.underlying5 w4) (trodAll_cons_mk (shut_int Try.underlying81 w5) (trodAll_cons_mk (shut_int Try.underlying81 w6) trodAll_mk0))))))), rfl, bel.frame _, fun h => by cases h⟩

theorem joined : joinedFacts Try.prog 14 Try.f14 Rows.trimBetterSpec Rows.trimBetterRow = true := by
  unfold joinedFacts
  rw [mayEnter_is, liftsFinal_is, make_is]
  kernel_rfl
theorem over : Rows.trimBetterRow.holds Try.pinned (OpenSpec.ofChange Rows.trimBetterSpec) :=
  OpenClaim.holds_of_wide 14 Try.f14 rfl rfl rfl rfl rfl rfl rfl ⟨rfl, rfl, rfl, rfl, rfl⟩ rfl rfl rfl rfl rfl (by kernel_rfl) Try.func14 joined
    (of_decide_eq_true (by kernel_rfl)) (by unfold Func.isWrapper; first | (rw [if_pos (by decide +kernel)]; kernel_rfl) | (rw [if_neg (by decide +kernel)]; exact ⟨rfl, rfl⟩))
    (fun os started H enc _ => lifted os started H enc)
end Go.Proofs.Ytlloijkmpmfapaa.trimBetter

namespace Go.Proofs.Ytlloijkmpmfapaa
theorem trimBetter_holds : Rows.TrimBetterSaid := trimBetter.over
#print axioms trimBetter_holds
end Go.Proofs.Ytlloijkmpmfapaa
