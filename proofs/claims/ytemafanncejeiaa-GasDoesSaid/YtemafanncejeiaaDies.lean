/-
  A region that draws its order in which a call panics: whatever order is picked, the operations that come up ahead of it only read or call (or make a block), and then it panics. No program in sight.
-/
import Derived.Test.YtemafanncejeiaaOrder
namespace Bal
open Go Go.RowKit

section
variable {P : Program} {ops : Array Oper} {md : Region.Mode} {C : World → Prop} {Q : Exit → Act → World → Prop}

def QF : Exit → Act → World → Prop := fun _ _ _ => False

theorem wpOp_QF {i : Nat} {a : Act} {w : World} {K : Act → World → Prop} (h : wpOp P ops QF i K a w) : wpOp P ops Q i K a w := by
  unfold wpOp at *
  split
  · simpa [*] using h
  · rename_i o ho
    simp only [ho] at h
    split
    · rename_i hw
      simp only [hw, if_true] at h
      rcases h with h | ⟨_, _, _, h⟩
      · refine .inl ?_
        unfold Oper.wp at *
        generalize (execOp a.eval o).run P w = r at *
        cases r with
        | ok n w' =>
          cases n <;> simp only [Oper.upon] at h ⊢
          case enter f args =>
            refine Calls.mono h fun e w'' he => ?_
            cases e with
            | returned u => exact he
            | panicked c => exact he.elim
            | outgrown => obtain ⟨_, _, he⟩ := he; exact he.elim
          all_goals exact h
        | halt x w' =>
          cases x <;> simp only [Oper.upon] at h ⊢
          case panic u => exact h.elim
      · exact h.elim
    · rename_i hw
      simp only [hw] at h
      exact h

theorem wpOp_putIn {j : Nat} {oi oj : Oper} {v : Value} (hj : ops[j]? = some oj) (hap : oi.apart ops oj = true)
    (hsi : ∀ cs b, oi.op ≠ .select cs b) (hsj : ∀ cs b, oj.op ≠ .select cs b)
    (hQ : ∀ c a w, Q (.panic c) (a.put oi.dst v) w → Q (.panic c) a w) {K : Act → World → Prop} {a : Act} {w : World}
    (hy : YieldsIn P ops C oi v a) (h : wpOp P ops Q j K (a.put oi.dst v) w) :
    wpOp P ops Q j (fun a' w' => YieldsIn P ops C oi v a' ∧ K (a'.put oi.dst v) w') a w := by
  obtain ⟨h1, h2, h3⟩ := Oper.apart_spec hap
  have keep : ∀ (a : Act), YieldsIn P ops C oi v a → ∀ u, YieldsIn P ops C oi v (a.put oj.dst u) := fun a hy u =>
    hy.of_same (execOp_put oi hsi a oj.dst u h3) (wanted_put oi a oj.dst u h3)
  have keepD : ∀ d, YieldsIn P ops C oi v { a with defers := d :: a.defers } := fun d => hy.of_same rfl rfl
  unfold wpOp at *
  simp only [hj] at *
  rw [wanted_put oj a oi.dst v h1] at h
  split
  · rename_i hw
    simp only [hw, if_true] at h
    rcases h with h | ⟨hasks, hlets⟩
    case inr => exact .inr ⟨by unfold Oper.asks at *; rw [execOp_put oj hsj a oi.dst v h1] at hasks; exact hasks, hlets⟩
    refine .inl ?_
    unfold Oper.wp at *
    rw [execOp_put oj hsj a oi.dst v h1] at h
    generalize (execOp a.eval oj).run P w = r at *
    cases r with
    | ok n w' =>
      cases n <;> simp only [Oper.upon] at h ⊢
      case value u => exact ⟨keep a hy u, by rw [← Act.put_comm a v u h2]; exact h⟩
      case skip => exact ⟨keep a hy _, by rw [← Act.put_comm a v undef h2]; exact h⟩
      case defer d =>
        refine ⟨keep _ (keepD d) _, ?_⟩
        rw [← Act.put_comm _ v undef h2, ← Act.put_defers]
        exact h
      case enter f args =>
        refine Calls.mono h fun e w'' he => ?_
        cases e with
        | returned u => exact ⟨keep a hy u, by rw [← Act.put_comm a v u h2]; exact he⟩
        | panicked c => exact hQ _ _ _ he
        | outgrown => exact he
      case row row args => exact Rows.mono h fun u w'' he => ⟨keep a hy u, by rw [← Act.put_comm a v u h2]; exact he⟩
    | halt x w' =>
      cases x <;> simp only [Oper.upon] at h ⊢
      case panic u => exact hQ _ _ _ h
  · rename_i hw
    simp only [hw] at h
    exact ⟨keep a hy _, by rw [← Act.put_comm a v undef h2]; exact h⟩

/-- operation p panics in state a, in every world of the class -/
def DiesAt (P : Program) (ops : Array Oper) (C : World → Prop) (Q : Exit → Act → World → Prop) (p : Nat) (a : Act) : Prop := ∀ w, C w → wpOp P ops Q p (fun _ _ => False) a w
/-- whatever order is picked, operation p comes up, and panics -/
def wpDie (P : Program) (md : Region.Mode) (ops : Array Oper) (C : World → Prop) (Q : Exit → Act → World → Prop) (p : Nat) : Nat → Array Bool → Act → Prop
  | 0, _, _ => False
  | f + 1, listed, a => Region.ready md ops listed ≠ [] ∧ ∀ i ∈ Region.ready md ops listed, (i = p ∧ DiesAt P ops C Q p a) ∨
      (i ≠ p ∧ ∀ w, C w → wpOp P ops QF i (fun a' w' => C w' ∧ wpDie P md ops C Q p f (listed.setIfInBounds i true) a') a w)

theorem wpAny_of_die {p : Nat} : ∀ (f : Nat) (listed : Array Bool) (a : Act) (w : World), C w → wpDie P md ops C Q p f listed a → wpAny P md ops Q f listed a w
  | 0, _, _, _, _, h => h.elim
  | f + 1, listed, a, w, hw, h => ⟨fun h0 => absurd h0 h.1, fun i hi => by
      rcases h.2 i hi with ⟨rfl, hd⟩ | ⟨_, h'⟩
      · exact wpOp_mono (fun _ _ h => h.elim) (hd w hw)
      · exact wpOp_QF (wpOp_mono (fun a' w' hh => wpAny_of_die f _ a' w' hh.1 hh.2) (h' w hw))⟩

theorem wpDie_first {p i : Nat} {oi : Oper} {v : Value} (hi : ops[i]? = some oi) (hip : i ≠ p) (hsel : ∀ (j : Nat) (o : Oper) cs b, ops[j]? = some o → o.op ≠ .select cs b)
    (hQ : ∀ c a w, Q (.panic c) (a.put oi.dst v) w → Q (.panic c) a w) :
    ∀ (f : Nat) (listed : Array Bool) (a : Act),
      (∀ j oj, ops[j]? = some oj → j ≠ i → listed.getD j true = false → (∀ e ∈ oj.after, Region.binds md e = true → e.on ≠ i) → oi.apart ops oj = true) →
      i ∈ Region.ready md ops listed → YieldsIn P ops C oi v a →
      wpDie P md ops C Q p f (listed.setIfInBounds i true) (a.put oi.dst v) → wpDie P md ops C Q p (f + 1) listed a := by
  intro f
  induction f with
  | zero => intro listed a _ _ _ H; exact H.elim
  | succ f ih =>
    intro listed a hfree hr hy H
    have hun := (mem_ready.1 hr).1
    refine ⟨fun h => (by rw [h] at hr; cases hr), fun j hj => ?_⟩
    by_cases hji : j = i
    · subst hji
      exact .inr ⟨hip, fun w hw => wpOp_of_qOp hw (fun a' w' hw' h => ⟨hw', h⟩) (hy.qOp hi H)⟩
    · obtain ⟨hjun, oj, hoj, hall⟩ := mem_ready.1 hj
      have hnot : ∀ e ∈ oj.after, Region.binds md e = true → e.on ≠ i := fun e he hb heq => by
        have h1 := hall e he hb
        rw [heq, getD_both hun] at h1
        cases h1
      have hap := hfree j oj hoj hji hjun hnot
      rcases H.2 j (ready_mono hj hji) with ⟨rfl, hd⟩ | ⟨hjp, h'⟩
      · exact .inl ⟨rfl, fun w hw => wpOp_mono (fun _ _ h => h.2) (wpOp_putIn hoj hap (fun cs b => hsel i oi cs b hi) (fun cs b => hsel _ oj cs b hoj) hQ hy (hd w hw))⟩
      · refine .inr ⟨hjp, fun w hw => ?_⟩
        have h2 := wpOp_putIn hoj hap (fun cs b => hsel i oi cs b hi) (fun cs b => hsel j oj cs b hoj) (fun _ _ _ h => h) hy (h' w hw)
        have hfree' : ∀ k ok, ops[k]? = some ok → k ≠ i → (listed.setIfInBounds j true).getD k true = false →
            (∀ e ∈ ok.after, Region.binds md e = true → e.on ≠ i) → oi.apart ops ok = true := fun k ok hk hki hun hno => by
          refine hfree k ok hk hki ?_ hno
          by_cases hjk : j = k
          · subst hjk; exact hjun
          · rw [getD_set_ne true hjk] at hun; exact hun
        refine wpOp_mono (fun a' w' h3 => ⟨h3.2.1, ih (listed.setIfInBounds j true) a' hfree' (ready_mono hr (Ne.symm hji)) h3.1 ?_⟩) h2
        rw [Array.setIfInBounds_comm _ _ hji]
        exact h3.2.2

/-- what stands at the end: p alone may come up, or p and q, q making a block -/
def endB (md : Region.Mode) (ops : Array Oper) (p : Nat) : Option Nat → Array Bool → Bool
  | none, listed => decide (Region.ready md ops listed = [p])
  | some q, listed => (decide (Region.ready md ops listed = [p, q]) || decide (Region.ready md ops listed = [q, p])) && decide (q ≠ p) && decide (Region.ready md ops (listed.setIfInBounds q true) = [p])
def dieB (md : Region.Mode) (ops : Array Oper) (p : Nat) (q : Option Nat) : List Nat → Array Bool → Bool
  | [], listed => endB md ops p q listed
  | i :: r, listed => (Region.ready md ops listed).contains i && Region.free md ops listed i && decide (i ≠ p) && dieB md ops p q r (listed.setIfInBounds i true)
/-- operation q makes a block, whatever the state -/
def makesB (P : Program) (ops : Array Oper) (C : World → Prop) : Option Nat → Prop
  | none => True
  | some q => ∃ oq, ops[q]? = some oq ∧ oq.guard = none ∧ ∀ (a : Act) w, C w → ∃ v w', C w' ∧ (execOp a.eval oq).run P w = .ok (.value v) w'
def DiesBoth (P : Program) (ops : Array Oper) (C : World → Prop) (Q : Exit → Act → World → Prop) (p : Nat) (q : Option Nat) (a : Act) : Prop :=
  DiesAt P ops C Q p a ∧ ∀ i oq, q = some i → ops[i]? = some oq → ∀ v, DiesAt P ops C Q p (a.put oq.dst v)

theorem wpDie_end {p : Nat} {q : Option Nat} {n : Nat} {listed : Array Bool} {a : Act} (hB : endB md ops p q listed = true) (hm : makesB P ops C q) (hn : 2 ≤ n ∨ (q = none ∧ 1 ≤ n)) (h : DiesBoth P ops C Q p q a) : wpDie P md ops C Q p n listed a := by
  cases q with
  | none =>
    simp only [endB, decide_eq_true_eq] at hB
    obtain ⟨f, rfl⟩ : ∃ f, n = f + 1 := ⟨n - 1, by omega⟩
    refine ⟨by rw [hB]; simp, fun i hi => ?_⟩
    rw [hB] at hi
    exact .inl ⟨by simpa using hi, h.1⟩
  | some q =>
    simp only [endB, Bool.and_eq_true, Bool.or_eq_true, decide_eq_true_eq] at hB
    obtain ⟨⟨hr, hqp⟩, hr2⟩ := hB
    obtain ⟨f, rfl⟩ : ∃ f, n = f + 1 + 1 := ⟨n - 2, by simp at hn; omega⟩
    obtain ⟨oq, hoq, hg, hmk⟩ := hm
    have hmem : ∀ i ∈ Region.ready md ops listed, i = p ∨ i = q := fun i hi => by
      rcases hr with hr | hr <;> (rw [hr] at hi; simp at hi; omega)
    refine ⟨by rcases hr with hr | hr <;> (rw [hr]; simp), fun i hi => ?_⟩
    rcases hmem i hi with rfl | rfl
    · exact .inl ⟨rfl, h.1⟩
    · refine .inr ⟨hqp, fun w hw => ?_⟩
      obtain ⟨v, w', hw', hv⟩ := hmk a w hw
      unfold wpOp
      simp only [hoq]
      have hwt : Region.wanted oq (yielded ops a.tmps) = true := by simp [Region.wanted, hg]
      simp only [hwt, if_true]
      refine .inl ?_
      unfold Oper.wp
      rw [hv]
      refine ⟨hw', by rw [hr2]; simp, fun j hj => ?_⟩
      rw [hr2] at hj
      exact .inl ⟨by simpa using hj, h.2 _ oq rfl hoq v⟩

theorem wpDie_lex {p : Nat} {q : Option Nat} {n : Nat} (hsel : Region.noSelect ops = true) (hQ : ∀ c a d v w, Q (.panic c) (Act.put a d v) w → Q (.panic c) a w) (hm : makesB P ops C q) (hn : 2 ≤ n ∨ (q = none ∧ 1 ≤ n)) :
    ∀ (is : List Nat) (l : List Oper) (listed : Array Bool) (a : Act), is.map (ops[·]?) = l.map some → dieB md ops p q is listed = true →
    wpQuiet P ops C (DiesBoth P ops C Q p q) l a → wpDie P md ops C Q p (l.length + n) listed a
  | [], [], listed, a, _, hB, h => by
    simp only [List.length_nil, Nat.zero_add]
    exact wpDie_end (by simpa [dieB] using hB) hm hn h
  | [], _ :: _, _, _, hm', _, _ => by simp at hm'
  | _ :: _, [], _, _, hm', _, _ => by simp at hm'
  | i :: is, o :: l, listed, a, hm', hB, h => by
    simp only [List.map_cons, List.cons.injEq] at hm'
    obtain ⟨h0, hm''⟩ := hm'
    simp only [dieB, Bool.and_eq_true, decide_eq_true_eq] at hB
    obtain ⟨⟨⟨hr, hf⟩, hip⟩, hB'⟩ := hB
    have hst : qOp P ops C i (wpQuiet P ops C (DiesBoth P ops C Q p q) l) a := by unfold qOp; simp only [h0]; exact h
    obtain ⟨v, hy, hK⟩ := yieldsIn_of_qOp h0 hst
    rw [show (o :: l).length + n = (l.length + n) + 1 by simp only [List.length_cons]; omega]
    exact wpDie_first h0 hip (Region.noSelect_spec hsel) (fun c a w => hQ c a _ _ w) _ listed a (Region.free_spec h0 hf) (by simpa using hr) hy (wpDie_lex hsel hQ hm hn is l _ _ hm'' hB' hK)

theorem wpQuiet_of_steps {K : Act → Prop} : ∀ (l : List Oper) (a : Act), wpSteps P ops C K (l.map fun o => (false, o)) a → wpQuiet P ops C K l a
  | [], _, h => h
  | o :: l, a, h => by
    have h' : wpQuiet P ops C (fun a' => wpSteps P ops C K (l.map fun o => (false, o)) a') [o] a := h
    unfold wpQuiet at h' ⊢
    split
    · rename_i hw
      simp only [hw, if_true] at h'
      exact Oper.quiet_mono (fun a' h'' => wpQuiet_of_steps l a' h'') h'
    · rename_i hw
      simp only [hw] at h'
      exact wpQuiet_of_steps l _ h'
/-- THE THEOREM: is: the quiet operations in the order in which they are walked; p: the one that panics; q: one that makes a block and may come up before or behind. -/
theorem later_dies {P : Program} {id : Nat} {Q : Exit → Act → World → Prop} {a : Act} {w : World} {l : List Oper} (is : List Nat) (p : Nat) (q : Option Nat) (hm : P.follows .mixedOrders = true)
    (hB : (Region.noSelect l.toArray && dieB .any l.toArray p q is (Array.replicate l.toArray.size false) && is.all (fun i => decide (i < l.length)) && decide (is.length + (if q.isSome then 2 else 1) ≤ l.length)) = true)
    (hQ : ∀ c a d v w, Q (.panic c) (Act.put a d v) w → Q (.panic c) a w) (hq : makesB P l.toArray (fun w' => ∃ g : Later w, w' = g.val) q)
    (h : wpSteps P l.toArray (fun w' => ∃ g : Later w, w' = g.val) (DiesBoth P l.toArray (fun w' => ∃ g : Later w, w' = g.val) Q p q) ((is.filterMap (l[·]?)).map fun o => (false, o)) a) :
    (Code.region id l.toArray true).wp P Q a w := by
  simp only [Bool.and_eq_true, decide_eq_true_eq, List.all_eq_true] at hB
  obtain ⟨⟨⟨hsel, hdie⟩, hlt⟩, hlen⟩ := hB
  obtain ⟨q1, q2⟩ := filterMap_ok is hlt
  refine wp_region_any hm (wpAny_of_die (C := fun w' => ∃ g : Later w, w' = g.val) (p := p) _ _ _ _ ⟨⟨w.drew, (Below.refl _ _).drew⟩, rfl⟩ ?_)
  have key := wpDie_lex (P := P) (md := .any) (Q := Q) (C := fun w' => ∃ g : Later w, w' = g.val) (p := p) (q := q) (n := l.length - is.length) hsel hQ hq (by cases q <;> simp at hlen ⊢ <;> omega) is _ _ a q1 hdie (wpQuiet_of_steps _ _ h)
  rw [q2, show is.length + (l.length - is.length) = l.length by omega] at key
  simpa using key
/-- one operation that panics, out of its run -/
theorem DiesAt.of {p : Nat} {o : Oper} {a : Act} (ho : ops[p]? = some o) (hg : o.guard = none) (h : ∀ w, C w → Oper.wp P o a w (fun _ _ => False) Q) : DiesAt P ops C Q p a := fun w hw => by
  unfold wpOp
  simp only [ho]
  have hwt : Region.wanted o (yielded ops a.tmps) = true := by simp [Region.wanted, hg]
  simp only [hwt, if_true]
  exact .inl (h w hw)
end
/-- a goal that is done, where a tactic wants one more -/
theorem done_any {P : Program} {a : Act} {w : World} {G : Prop} (h : G) (_ : wpAny P .any #[] (fun _ _ _ => True) 0 #[] a w) : G := h
end Bal
