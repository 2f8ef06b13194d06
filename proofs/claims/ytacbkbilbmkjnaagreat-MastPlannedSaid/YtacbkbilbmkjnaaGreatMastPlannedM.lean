/-
  MastPlanned, the statement: for every input the call returns true and leaves the input alone.
-/
import Derived.Test.YtacbkbilbmkjnaaGreatMastBaseZM
import Derived.Test.YtacbkbilbmkjnaaGreatRows
set_option linter.unusedVariables false
set_option linter.unusedSimpArgs false
/-
  What the outright statements of chapter 7 say of acts, steps and plans: the plain side. No program in sight.
-/
namespace Bal.Mast
open Bal.Trim
set_option linter.unusedVariables false
/-! ### What is kept -/
theorem doE_not {p : Port} {b : Berth} {s : Step} (h : doE p b s ≠ 0) : doB p b s = noBerth ∧ ((0 < doRule p b s ∧ doE p b s = 74) ∨ (doRule p b s = 0 ∧ doE p b s ≠ 74)) := by
  refine ⟨by unfold doB; rw [if_neg h], ?_⟩
  have hp : 0 ≤ tryR p (dockOf p b s) s.act.kind := firstNot_pos
  unfold doE doRule at *
  by_cases h1 : doErr p b s = 0
  · simp only [if_pos h1] at h ⊢
    by_cases h2 : tryR p (dockOf p b s) s.act.kind = 0
    · rw [if_pos h2] at h; exact absurd rfl h
    · rw [if_neg h2]; left; omega
  · simp only [if_neg h1]
    right
    refine ⟨by simp, ?_⟩
    unfold doErr checkBerth
    split
    · split
      · split <;> omega
      · omega
    · split
      · split <;> omega
      · omega
theorem doE_rule {p : Port} {b : Berth} {s : Step} (h : doE p b s = 0) : doRule p b s = 0 := by
  obtain ⟨h1, h2⟩ := doE_zero.1 h
  unfold doRule; rw [if_pos h1, h2]
structure KeptLaw (p : Port) (b c : Berth) (s : Step) : Prop where
  other : c ≠ b
  walk : c.ship = 4 ∨ b.ship = 4 → (b.held ≠ 0 ∧ c.held = b.held ∧ c.opn = true ∧ b.opn = true ∧ c.axis = b.axis ∧ b.wire = false ∧ c.wire = false) ∧ (calmS s.wind (p.axes.getD b.axis.toNat default) p.cross = true ∨ s.act.kind = 13)
  axis : c.axis ≠ b.axis → b.opn = false ∧ s.act.kind = 9
  wire : b.wire = true → c.held ≠ 0
  lined : c.wire = true → c.ship = 2
  held : c.held = 0 ∨ (total (needs p.most p.pulls) ≤ c.held ∧ c.held ≤ p.people)
theorem kept_law {p : Port} {b : Berth} {s : Step} (h0 : 0 ≤ b.ship) (h : doE p b s = 0) : KeptLaw p b (doB p b s) s := by
  have hv := kept_valid h0 h
  have hnp : total (needs p.most p.pulls) ≤ needP p := by unfold needP; omega
  have hheld : (doB p b s).held = 0 ∨ (total (needs p.most p.pulls) ≤ (doB p b s).held ∧ (doB p b s).held ≤ p.people) := by
    have := (berth_parts hv).2.2.1
    omega
  rw [doB_done h] at hheld hv ⊢
  obtain ⟨he, ht⟩ := doE_zero.1 h
  obtain ⟨hp, hb, _, k1, k2⟩ := doErr_parts he
  have hnd := needP_bd hp
  obtain ⟨h5, ⟨ha1, ha2⟩, hh, hs⟩ := berth_parts hb
  have hall := firstNot_zero ht
  obtain ⟨⟨t, n⟩, wd⟩ := s
  obtain ⟨sh, ax, he', wi, op⟩ := b
  clear ht he h
  refine ⟨?_, ?_, ?_, ?_, ?_, hheld⟩ <;> clear hheld hv <;> simp only [dockOf] at * <;>
  rcases ship_parts hs h5 h0 with ⟨e, q⟩ | ⟨e, q⟩ | ⟨e, q⟩ | ⟨e, q⟩ | ⟨e, q⟩ | ⟨e, q⟩ <;> (simp only at e q; subst e) <;>
  rcases (by omega : t = 1 ∨ t = 2 ∨ t = 3 ∨ t = 4 ∨ t = 5 ∨ t = 6 ∨ t = 7 ∨ t = 8 ∨ t = 9 ∨ t = 10 ∨ t = 11 ∨ t = 12 ∨ t = 13) with rfl | rfl | rfl | rfl | rfl | rfl | rfl | rfl | rfl | rfl | rfl | rfl | rfl <;>
  first
  | (exfalso; simp [rulesOf, away, reached, tied, lined, masted, housed, walking, fast, still] at hall; done)
  | (simp [rulesOf, away, reached, tied, lined, masted, housed, walking, fast, still, loose, bare, gripped, crew, elsewhere, shut, wired, opened, quiet, inB_iff] at hall
     simp [doneB, toShip, fast, masted, housed, hall] <;> first | omega | (simp_all; done) | (simp_all; omega))
/-! ### Plans -/
theorem pv_len {A : Type} {B : Nat} {code : A → Nat} (hB : 2 ≤ B) (l : List A) : (∀ a ∈ l, code a < B) → B ^ l.length ≤ pv B code l ∧ pv B code l < 2 * B ^ l.length := by
  induction l using snoc_induct with
  | h0 => intro _; rw [pv_nil]; simp
  | h1 l a ih =>
    intro h
    obtain ⟨i1, i2⟩ := ih (fun b hb => h b (by simp [hb]))
    have ha := h a (by simp)
    rw [pv_snoc, List.length_append, List.length_singleton, Nat.pow_succ]
    have k1 := Nat.mul_le_mul_right B i1
    have k2 : (pv B code l + 1) * B ≤ 2 * B ^ l.length * B := Nat.mul_le_mul_right B i2
    rw [Nat.add_mul, Nat.one_mul, Nat.mul_assoc] at k2
    omega
theorem pv_shorter {A : Type} {B : Nat} {code : A → Nat} (hB : 2 ≤ B) {l o : List A} (hl : ∀ a ∈ l, code a < B) (ho : ∀ a ∈ o, code a < B) (h : pv B code l ≤ pv B code o) : l.length ≤ o.length := by
  rcases Nat.lt_or_ge o.length l.length with hlt | hge
  · exfalso
    have h1 := (pv_len hB l hl).1
    have h2 := (pv_len hB o ho).2
    have h3 : B ^ (o.length + 1) ≤ B ^ l.length := Nat.pow_le_pow_right (by omega) hlt
    rw [Nat.pow_succ] at h3
    have h4 : B ^ o.length * 2 ≤ B ^ o.length * B := Nat.mul_le_mul_left _ hB
    omega
  · exact hge
theorem fold_le {A : Type} {B : Nat} {code : A → Nat} : ∀ (l o : List A) (u v : Nat), l.length = o.length → (∀ a ∈ o, code a < B) → l.foldl (fun v a => v * B + code a) u ≤ o.foldl (fun v a => v * B + code a) v → u ≤ v
  | [], [], u, v, _, _, h => h
  | [], _ :: _, _, _, h, _, _ => by simp at h
  | _ :: _, [], _, _, h, _, _ => by simp at h
  | a :: l, c :: o, u, v, hl, ho, h => by
    simp only [List.foldl_cons] at h
    have := fold_le l o _ _ (by simpa using hl) (fun x hx => ho x (by simp [hx])) h
    rcases Nat.lt_or_ge v u with hlt | hge
    · exfalso
      have h1 := dig_lt' (B := B) (d := code a) (ho c (by simp)) hlt
      omega
    · exact hge
/-- the first act that differs is the earlier one -/
theorem pv_at {A : Type} {B : Nat} {code : A → Nat} {l o : List A} (hl : l.length = o.length) (hc : ∀ a ∈ l, code a < B) (ho : ∀ a ∈ o, code a < B) (h : pv B code l ≤ pv B code o) {k : Nat} (hk : k < l.length) (hk' : k < o.length) (hp : l.take k = o.take k) : code l[k] ≤ code o[k] := by
  have e1 : l = l.take k ++ l[k] :: l.drop (k + 1) := by rw [← List.drop_eq_getElem_cons hk]; exact (List.take_append_drop k l).symm
  have e2 : o = l.take k ++ o[k] :: o.drop (k + 1) := by rw [hp, ← List.drop_eq_getElem_cons hk']; exact (List.take_append_drop k o).symm
  have h' : pv B code (l.take k ++ l[k] :: l.drop (k + 1)) ≤ pv B code (l.take k ++ o[k] :: o.drop (k + 1)) := by rw [← e1, ← e2]; exact h
  unfold pv at h'
  rw [List.foldl_append, List.foldl_append, List.foldl_cons, List.foldl_cons] at h'
  have := fold_le _ _ _ _ (by simp; omega) (fun a ha => ho a (List.mem_of_mem_drop ha)) h'
  omega
/-- an act's number counts for two kinds alone -/
def normD (a : Deed) : Deed := if a.kind = 2 ∨ a.kind = 9 then a else ⟨a.kind, 0⟩
theorem norm_step {p : Port} {w : Wind} {x y : Berth} {a : Deed} (h : stepB p w x a = some y) : normD a ∈ actsOf (numsR p) ∧ stepB p w x (normD a) = some y := by
  unfold stepB at h
  split at h
  · rename_i hd
    obtain rfl := Option.some.inj h
    obtain ⟨he, ht⟩ := doE_zero.1 hd
    obtain ⟨hp, hb, hw, k1, k2⟩ := doErr_parts he
    have hall := firstNot_zero ht
    obtain ⟨t, n⟩ := a
    simp only at k1 k2 hall
    by_cases hk : t = 2 ∨ t = 9
    · have hn : normD ⟨t, n⟩ = ⟨t, n⟩ := by unfold normD; rw [if_pos hk]
      rw [hn]
      refine ⟨mem_acts.2 ⟨⟨k1, k2⟩, ?_⟩, by unfold stepB; rw [if_pos hd]⟩
      unfold numsR
      rcases hk with rfl | rfl
      · rw [if_pos rfl, mem_upFrom]
        have q := hall (crew p (dockOf p x ⟨⟨2, n⟩, w⟩)) (by simp [rulesOf])
        unfold crew dockOf at q
        simp only [inB_iff] at q
        simp only; omega
      · rw [if_neg (by simp), if_pos rfl, mem_upFrom]
        have q := hall (elsewhere p (dockOf p x ⟨⟨9, n⟩, w⟩)) (by simp [rulesOf])
        unfold elsewhere dockOf at q
        simp only [Bool.and_eq_true, inB_iff] at q
        simp only; omega
    · have hn : normD ⟨t, n⟩ = ⟨t, 0⟩ := by unfold normD; rw [if_neg hk]
      rw [hn]
      refine ⟨mem_acts.2 ⟨⟨k1, k2⟩, ?_⟩, ?_⟩
      · unfold numsR
        rw [if_neg (fun e => hk (.inl e)), if_neg (fun e => hk (.inr e))]
        simp
      · have hr : rulesOf p (dockOf p x ⟨⟨t, 0⟩, w⟩) t = rulesOf p (dockOf p x ⟨⟨t, n⟩, w⟩) t := by
          rcases (by omega : t = 1 ∨ t = 3 ∨ t = 4 ∨ t = 5 ∨ t = 6 ∨ t = 7 ∨ t = 8 ∨ t = 10 ∨ t = 11 ∨ t = 12 ∨ t = 13) with rfl | rfl | rfl | rfl | rfl | rfl | rfl | rfl | rfl | rfl | rfl <;> rfl
        have hd2 : doE p x ⟨⟨t, 0⟩, w⟩ = 0 := by
          refine doE_zero.2 ⟨he, ?_⟩
          unfold tryR at ht ⊢
          rw [hr]; exact ht
        have hB : doneB (dockOf p x ⟨⟨t, 0⟩, w⟩) t = doneB (dockOf p x ⟨⟨t, n⟩, w⟩) t := by
          rcases (by omega : t = 1 ∨ t = 3 ∨ t = 4 ∨ t = 5 ∨ t = 6 ∨ t = 7 ∨ t = 8 ∨ t = 10 ∨ t = 11 ∨ t = 12 ∨ t = 13) with rfl | rfl | rfl | rfl | rfl | rfl | rfl | rfl | rfl | rfl | rfl <;> rfl
        unfold stepB
        rw [if_pos hd2, doB_done hd, doB_done hd2]
        exact congrArg some hB
  · cases h
theorem norm_run {p : Port} {w : Wind} : ∀ {r : List Deed} {x y : Berth}, run (stepB p w) x r = some y → (∀ a ∈ r.map normD, a ∈ actsOf (numsR p)) ∧ run (stepB p w) x (r.map normD) = some y
  | [], x, y, h => ⟨by simp, h⟩
  | a :: r, x, y, h => by
    simp only [run] at h
    obtain ⟨z, h1, h2⟩ := Option.bind_eq_some_iff.1 h
    obtain ⟨n1, n2⟩ := norm_step h1
    obtain ⟨i1, i2⟩ := norm_run h2
    refine ⟨fun c hc => ?_, ?_⟩
    · rcases List.mem_cons.1 (by simpa using hc : c ∈ normD a :: r.map normD) with rfl | hc
      · exact n1
      · exact i1 c hc
    · simp only [List.map_cons, run, n2, Option.bind_some]
      exact i2
/-- where a ship is after acts, and whether they can be done -/
def shipAt (p : Port) (w : Wind) (b : Berth) (l : List Deed) : Int := match run (stepB p w) b l with | some x => x.ship | none => 0
def canDo (p : Port) (w : Wind) (b : Berth) (l : List Deed) : Bool := (run (stepB p w) b l).isSome
/-- THE LAW OF PLANS -/
structure Planned (p : Port) (w : Wind) (b : Berth) (s : Int) (l o : List Deed) : Prop where
  goes : canDo p w b l = true ∧ shipAt p w b l = s
  len : l.length ≤ o.length ∨ canDo p w b o = false ∨ shipAt p w b o ≠ s
  first : canDo p w b o = true → shipAt p w b o = s → l.length = o.length → ∀ (k : Nat) (h : k < l.length) (h' : k < o.length), (∀ j (hj : j < k), l[j].kind = o[j].kind ∧ (l[j].kind = 2 ∨ l[j].kind = 9 → l[j].n = o[j].n)) →
    (l[k].kind ≠ o[k].kind → l[k].kind < o[k].kind) ∧ (l[k].kind = o[k].kind → (l[k].kind = 2 ∨ l[k].kind = 9) → l[k].n ≠ o[k].n → l[k].n < o[k].n)
theorem code_bd {p : Port} (hp : portB p = true) {a : Deed} (h : a ∈ actsOf (numsR p)) : codeD a < 4096 ∧ (1 ≤ a.kind ∧ a.kind ≤ 13) ∧ (0 ≤ a.n ∧ a.n ≤ 255) ∧ normD a = a := by
  obtain ⟨h1, h2⟩ := mem_acts.1 h
  have hb := (nums_ok hp).2 a.kind h1.1 h1.2
  have hn := hb.1 _ h2
  refine ⟨by unfold codeD; omega, h1, hn, ?_⟩
  unfold normD
  split
  · rfl
  · rename_i hk
    unfold numsR at h2
    rw [if_neg (fun e => hk (.inl e)), if_neg (fun e => hk (.inr e))] at h2
    simp at h2
    obtain ⟨t, n⟩ := a
    simp at h2 ⊢
    exact h2.symm
theorem deed_ext {x y : Deed} (h1 : x.kind = y.kind) (h2 : x.n = y.n) : x = y := by
  obtain ⟨a, b⟩ := x
  obtain ⟨c, d⟩ := y
  simp only at h1 h2
  rw [h1, h2]
theorem planned_law {p : Port} {w : Wind} {b : Berth} {s : Int} {l : List Deed} (hp : portB p = true) (h : Least (stepB p w) 4096 codeD (actsOf (numsR p)) b (goalB s) (some l)) (o : List Deed) : Planned p w b s l o := by
  obtain ⟨hl, ⟨x, hx, hg⟩, hmin⟩ := h
  have hgx : x.ship = s := by simpa [goalB] using hg
  have key : ∀ y, run (stepB p w) b o = some y → y.ship = s → (∀ a ∈ o.map normD, a ∈ actsOf (numsR p)) ∧ pv 4096 codeD l ≤ pv 4096 codeD (o.map normD) := fun y hy hs => by
    obtain ⟨n1, n2⟩ := norm_run hy
    exact ⟨n1, hmin _ n1 y n2 (by simp [goalB, hs])⟩
  have got : canDo p w b o = true → shipAt p w b o = s → ∃ y, run (stepB p w) b o = some y ∧ y.ship = s := fun h1 h2 => by
    unfold canDo at h1
    unfold shipAt at h2
    cases hr : run (stepB p w) b o with
    | none => rw [hr] at h1; cases h1
    | some y => rw [hr] at h2; exact ⟨y, rfl, h2⟩
  refine ⟨⟨by unfold canDo; rw [hx]; rfl, by unfold shipAt; rw [hx]; exact hgx⟩, ?_, fun h1 h2 hlen k hk hk' hpre => ?_⟩
  · cases h1 : canDo p w b o
    · exact .inr (.inl rfl)
    · by_cases h2 : shipAt p w b o = s
      · obtain ⟨y, hy, hs⟩ := got h1 h2
        obtain ⟨n1, n2⟩ := key y hy hs
        left
        have := pv_shorter (B := 4096) (by omega) (fun a ha => (code_bd hp (hl a ha)).1) (fun a ha => (code_bd hp (n1 a ha)).1) n2
        simpa using this
      · exact .inr (.inr h2)
  · obtain ⟨y, hy, hs⟩ := got h1 h2
    obtain ⟨n1, n2⟩ := key y hy hs
    have hpre' : l.take k = (o.map normD).take k := by
      apply List.ext_getElem (by simp; omega)
      intro j hj1 hj2
      simp only [List.length_take] at hj1
      rw [List.getElem_take, List.getElem_take, List.getElem_map]
      obtain ⟨e1, e2⟩ := hpre j (by omega)
      have hj := (code_bd hp (hl _ (List.getElem_mem (show j < l.length by omega)))).2.2.2
      rw [← hj]
      unfold normD
      rw [e1] at e2 ⊢
      split
      · rename_i hk2
        have e3 := e2 hk2
        exact deed_ext e1 e3
      · rfl
    have hc := pv_at (by simpa using hlen) (fun a ha => (code_bd hp (hl a ha)).1) (fun a ha => (code_bd hp (n1 a ha)).1) n2 hk (by simpa using hk') hpre'
    rw [List.getElem_map] at hc
    have b1 := code_bd hp (hl _ (List.getElem_mem hk))
    have b2 := code_bd hp (n1 (normD o[k]) (List.mem_map.2 ⟨_, List.getElem_mem hk', rfl⟩))
    have hkd : (normD o[k]).kind = o[k].kind := by unfold normD; split <;> rfl
    unfold codeD at hc
    rw [hkd] at hc b2
    refine ⟨fun hne => by omega, fun he hk2 hne => ?_⟩
    have hnn : (normD o[k]) = o[k] := by unfold normD; rw [if_pos (by rw [← he]; exact hk2)]
    rw [hnn] at hc b2
    omega
theorem planned_none {p : Port} {w : Wind} {b : Berth} {s : Int} (h : Least (stepB p w) 4096 codeD (actsOf (numsR p)) b (goalB s) none) (o : List Deed) : (canDo p w b o = false ∨ shipAt p w b o ≠ s) ∧ b.ship ≠ s := by
  refine ⟨?_, fun e => ?_⟩
  · cases hr : run (stepB p w) b o with
    | none => left; unfold canDo; rw [hr]; rfl
    | some y =>
      right
      unfold shipAt
      rw [hr]
      obtain ⟨n1, n2⟩ := norm_run hr
      have := h _ n1 y n2
      simpa [goalB] using this
  · have := h [] (by simp) b rfl
    simp [goalB, e] at this
/-! ### Steps -/
theorem run_take {p : Port} {w : Wind} {b : Berth} {l : List Deed} {k : Nat} (hk : k < l.length) : run (stepB p w) b (l.take (k + 1)) = (run (stepB p w) b (l.take k)).bind fun x => stepB p w x l[k] := by
  rw [List.take_succ_eq_append_getElem hk, run_snoc]
theorem run_stuck {p : Port} {w : Wind} : ∀ {l : List Deed} {b : Berth} {k : Nat}, run (stepB p w) b (l.take k) = none → run (stepB p w) b l = none
  | [], b, k, h => by simpa using h
  | a :: l, b, 0, h => by simp [run] at h
  | a :: l, b, k + 1, h => by
    simp only [List.take_succ_cons, run] at h ⊢
    cases hs : stepB p w b a with
    | none => rfl
    | some y =>
      rw [hs] at h
      simp only [Option.bind_some] at h ⊢
      exact run_stuck h
end Bal.Mast

/-
  Acts, done one behind the other, as the outright statements do them.
-/
namespace Go.Proofs.YtacbkbilbmkjnaaGreat
open Go.RowKit Bal Bal.Trim Bal.Mast
set_option linter.unusedVariables false
set_option linter.unusedSimpArgs false
set_option maxHeartbeats 4000000
set_option maxRecDepth 10000

theorem ended_none {p : Port} {wd : Wind} {b : Berth} {l : List Deed} (h : run (stepB p wd) b l = none) : shipAt p wd b l = 0 ∧ canDo p wd b l = false := by
  unfold shipAt canDo; rw [h]; exact ⟨rfl, rfl⟩
theorem ended_some {p : Port} {wd : Wind} {b x : Berth} {l : List Deed} (h : run (stepB p wd) b l = some x) : shipAt p wd b l = x.ship ∧ canDo p wd b l = true := by
  unfold shipAt canDo; rw [h]; exact ⟨rfl, rfl⟩
theorem o_ended (a : Option Addr) (c : Nat) (e : Option Addr) (d : Nat) (p : Port) (w : World) (hx : Row Axis.cells 2 w.heap.size w a p.axes) (hc : p.axes.length ≤ c) (hM : c ≤ maxLen) (hy : Row Span.cells 2 w.heap.size w e p.pulls) (hd : p.pulls.length ≤ d) (hN : d ≤ maxLen) (h1 : p.axes.length ≤ 1000000) (h2 : p.pulls.length ≤ 1000000) (b : Berth) (hs0 : 0 ≤ b.ship) (wd : Wind) (la : Option Addr) (lc : Nat) (l : List Deed) (hl : Row Deed.cells 2 w.heap.size w la l) (hll : l.length ≤ lc) (hlm : lc ≤ maxLen) (hkk : ∀ x ∈ l, 0 ≤ x.kind ∧ x.kind ≤ 255) :
    Calls Tryz.prog 18 #[.agg #[.slice a p.axes.length c, .int .i64 p.people, .int .i64 p.most, .slice e p.pulls.length d, .int .i64 p.cross], .agg #[.int .u8 b.ship, .int .i64 b.axis, .int .i64 b.held, .bool b.wire, .bool b.opn], .agg #[.int .i64 wd.xlo, .int .i64 wd.xhi, .int .i64 wd.ylo, .int .i64 wd.yhi], .slice la l.length lc] w fun z w' => z = .returned (.tuple #[.int .u8 (shipAt p wd b l), .bool (canDo p wd b l)]) ∧ Kept w w' := by
  have hlm' := hlm
  unfold maxLen at hlm'
  obtain ⟨ES, hES⟩ : ∃ x, shipAt p wd b l = x := ⟨_, rfl⟩
  obtain ⟨EB, hEB⟩ : ∃ x, canDo p wd b l = x := ⟨_, rfl⟩
  have HKK := Lib.hid hkk
  have HNO := Lib.hid (fun h => (⟨hES ▸ (ended_none (p := p) (wd := wd) (b := b) (l := l) h).1, hEB ▸ (ended_none (p := p) (wd := wd) (b := b) (l := l) h).2⟩ : ES = 0 ∧ EB = false))
  have HYES := Lib.hid (fun x h => (⟨hES ▸ (ended_some (p := p) (wd := wd) (b := b) (l := l) (x := x) h).1, hEB ▸ (ended_some (p := p) (wd := wd) (b := b) (l := l) (x := x) h).2⟩ : ES = x.ship ∧ EB = true))
  rw [hES, hEB]
  clear hES hEB hkk
  go_enter Tryz.func18, Tryz.ntmps18
  go_wp2
  go_loopw [17] (fun i wr => ∃ (k : Nat) (bq : Berth), k ≤ l.length ∧ i = .int .i64 k ∧ 0 ≤ bq.ship ∧ run (stepB p wd) b (l.take k) = some bq ∧ Blk wr w.heap.size #[.slice a p.axes.length c, .int .i64 p.people, .int .i64 p.most, .slice e p.pulls.length d, .int .i64 p.cross] 25 ∧ Blk wr (w.heap.size + 1) #[.int .u8 bq.ship, .int .i64 bq.axis, .int .i64 bq.held, .bool bq.wire, .bool bq.opn] 37 ∧ Blk wr (w.heap.size + 1 + 1) #[.int .i64 wd.xlo, .int .i64 wd.xhi, .int .i64 wd.ylo, .int .i64 wd.yhi] 39 ∧ Kept w wr) (fun i _ => l.length - (intOf i).toNat)
  case atStart => exact ⟨0, b, Nat.zero_le _, rfl, hs0, rfl, by (exact blkc), by (exact blkc), by (exact blkc), by (exact kpt)⟩
  case round =>
    obtain ⟨k, bq, hkl, rfl, hq0, hrun, r0, r1, r2, hk⟩ := hrel
    have HRUN := Lib.hid hrun
    clear hrun
    by_cases hlt : k < l.length
    · obtain ⟨bb, off, rfl, hbb, g0, g1⟩ := Deed.row (hl.later hk (Nat.le_refl _)) k hlt
      have HTK := Lib.hid (run_take (p := p) (w := wd) (b := b) hlt)
      have hk0 := HKK.out _ (List.getElem_mem hlt)
      obtain ⟨x, hx0⟩ : ∃ x, x = l[k] := ⟨_, rfl⟩
      rw [← hx0] at g0 g1 HTK hk0
      clear hx0
      obtain ⟨DB, hDB⟩ : ∃ y, doB p bq ⟨x, wd⟩ = y := ⟨_, rfl⟩
      obtain ⟨DE, hDE⟩ : ∃ y, doE p bq ⟨x, wd⟩ = y := ⟨_, rfl⟩
      obtain ⟨DR, hDR⟩ : ∃ y, doRule p bq ⟨x, wd⟩ = y := ⟨_, rfl⟩
      have HSB := Lib.hid (show 0 ≤ DB.ship by rw [← hDB]; exact doB_ship hq0)
      have HSTEP := Lib.hid (show run (stepB p wd) b (l.take (k + 1)) = if DE = 0 then some DB else none by rw [HTK.out, HRUN.out, Option.bind_some]; unfold stepB; rw [hDE, hDB])
      have HDB := Lib.hid hDB
      have HDE := Lib.hid hDE
      have HDR := Lib.hid hDR
      clear hDB hDE hDR
      have j0 : (0 : Int) ≤ (k : Int) := by omega
      have j1 : (k : Int) < (l.length : Int) := by omega
      by_cases he : DE = 0
      · subst he
        have HX2 := Lib.hid (show run (stepB p wd) b (l.take (k + 1)) = some DB by rw [HSTEP.out, if_pos rfl])
        clear HTK HSTEP
        have r0c0 := r0.cell 0
        have r0c1 := r0.cell 1
        have r0c2 := r0.cell 2
        have r0c3 := r0.cell 3
        have r0c4 := r0.cell 4
        have r0f0 := r0.free 0
        have r0f1 := r0.free 1
        have r0f2 := r0.free 2
        have r0f3 := r0.free 3
        have r0f4 := r0.free 4
        have r0l := r0.lt
        simp at r0c0 r0c1 r0c2 r0c3 r0c4
        have r1c0 := r1.cell 0
        have r1c1 := r1.cell 1
        have r1c2 := r1.cell 2
        have r1c3 := r1.cell 3
        have r1c4 := r1.cell 4
        have r1f0 := r1.free 0
        have r1f1 := r1.free 1
        have r1f2 := r1.free 2
        have r1f3 := r1.free 3
        have r1f4 := r1.free 4
        have r1l := r1.lt
        simp at r1c0 r1c1 r1c2 r1c3 r1c4
        have r2c0 := r2.cell 0
        have r2c1 := r2.cell 1
        have r2c2 := r2.cell 2
        have r2c3 := r2.cell 3
        have r2f0 := r2.free 0
        have r2f1 := r2.free 1
        have r2f2 := r2.free 2
        have r2f3 := r2.free 3
        have r2l := r2.lt
        simp at r2c0 r2c1 r2c2 r2c3
        go_wp2_with (go_at_call 23; (with_reducible refine (f_Do a c e d p _ (hx.later (by (exact kpt)) (Nat.le_refl _)) hc hM (hy.later (by (exact kpt)) (Nat.le_refl _)) hd hN h1 h2 bq hq0 ⟨x, wd⟩ hk0).mono ?_); rw [HDB.out, HDE.out, HDR.out]; rintro z w5 ⟨rfl, hb5⟩; refine Blk.thru (b := w.heap.size) (arr := ?_) (t := ?_) ?_ hb5 ?_; rotate_left 2; (focus (exact blk)); intro r0; have r0c0 := r0.cell 0; have r0f0 := r0.free 0; have r0c1 := r0.cell 1; have r0f1 := r0.free 1; have r0c2 := r0.cell 2; have r0f2 := r0.free 2; have r0c3 := r0.cell 3; have r0f3 := r0.free 3; have r0c4 := r0.cell 4; have r0f4 := r0.free 4; have r0l := r0.lt; simp at r0c0 r0c1 r0c2 r0c3 r0c4; refine Blk.thru (b := (w.heap.size + 1)) (arr := ?_) (t := ?_) ?_ hb5 ?_; rotate_left 2; (focus (exact blk)); intro r1; have r1c0 := r1.cell 0; have r1f0 := r1.free 0; have r1c1 := r1.cell 1; have r1f1 := r1.free 1; have r1c2 := r1.cell 2; have r1f2 := r1.free 2; have r1c3 := r1.cell 3; have r1f3 := r1.free 3; have r1c4 := r1.cell 4; have r1f4 := r1.free 4; have r1l := r1.lt; simp at r1c0 r1c1 r1c2 r1c3 r1c4; refine Blk.thru (b := (w.heap.size + 1 + 1)) (arr := ?_) (t := ?_) ?_ hb5 ?_; rotate_left 2; (focus (exact blk)); intro r2; have r2c0 := r2.cell 0; have r2f0 := r2.free 0; have r2c1 := r2.cell 1; have r2f1 := r2.free 1; have r2c2 := r2.cell 2; have r2f2 := r2.free 2; have r2c3 := r2.cell 3; have r2f3 := r2.free 3; have r2l := r2.lt; simp at r2c0 r2c1 r2c2 r2c3)
        go_roundw
        case rel => exact ⟨k + 1, DB, by omega, by go_num, HSB.out, HX2.out, by (exact blk), by (exact blkc), by (exact blk), by (exact kpt)⟩
        case measure => simp [intOf]; omega
      · obtain ⟨rfl, rfl⟩ := HNO.out (Bal.Mast.run_stuck (show run (stepB p wd) b (l.take (k + 1)) = none by rw [HSTEP.out, if_neg he]))
        have heb : (DE == 0) = false := beq_eq_false_iff_ne.2 he
        have hen : (DE != 0) = true := by simp [he]
        clear HTK HSTEP
        have r0c0 := r0.cell 0
        have r0c1 := r0.cell 1
        have r0c2 := r0.cell 2
        have r0c3 := r0.cell 3
        have r0c4 := r0.cell 4
        have r0f0 := r0.free 0
        have r0f1 := r0.free 1
        have r0f2 := r0.free 2
        have r0f3 := r0.free 3
        have r0f4 := r0.free 4
        have r0l := r0.lt
        simp at r0c0 r0c1 r0c2 r0c3 r0c4
        have r1c0 := r1.cell 0
        have r1c1 := r1.cell 1
        have r1c2 := r1.cell 2
        have r1c3 := r1.cell 3
        have r1c4 := r1.cell 4
        have r1f0 := r1.free 0
        have r1f1 := r1.free 1
        have r1f2 := r1.free 2
        have r1f3 := r1.free 3
        have r1f4 := r1.free 4
        have r1l := r1.lt
        simp at r1c0 r1c1 r1c2 r1c3 r1c4
        have r2c0 := r2.cell 0
        have r2c1 := r2.cell 1
        have r2c2 := r2.cell 2
        have r2c3 := r2.cell 3
        have r2f0 := r2.free 0
        have r2f1 := r2.free 1
        have r2f2 := r2.free 2
        have r2f3 := r2.free 3
        have r2l := r2.lt
        simp at r2c0 r2c1 r2c2 r2c3
        go_wp2_with (go_at_call 23; (with_reducible refine (f_Do a c e d p _ (hx.later (by (exact kpt)) (Nat.le_refl _)) hc hM (hy.later (by (exact kpt)) (Nat.le_refl _)) hd hN h1 h2 bq hq0 ⟨x, wd⟩ hk0).mono ?_); rw [HDB.out, HDE.out, HDR.out]; rintro z w5 ⟨rfl, hb5⟩; refine Blk.thru (b := w.heap.size) (arr := ?_) (t := ?_) ?_ hb5 ?_; rotate_left 2; (focus (exact blk)); intro r0; have r0c0 := r0.cell 0; have r0f0 := r0.free 0; have r0c1 := r0.cell 1; have r0f1 := r0.free 1; have r0c2 := r0.cell 2; have r0f2 := r0.free 2; have r0c3 := r0.cell 3; have r0f3 := r0.free 3; have r0c4 := r0.cell 4; have r0f4 := r0.free 4; have r0l := r0.lt; simp at r0c0 r0c1 r0c2 r0c3 r0c4; refine Blk.thru (b := (w.heap.size + 1)) (arr := ?_) (t := ?_) ?_ hb5 ?_; rotate_left 2; (focus (exact blk)); intro r1; have r1c0 := r1.cell 0; have r1f0 := r1.free 0; have r1c1 := r1.cell 1; have r1f1 := r1.free 1; have r1c2 := r1.cell 2; have r1f2 := r1.free 2; have r1c3 := r1.cell 3; have r1f3 := r1.free 3; have r1c4 := r1.cell 4; have r1f4 := r1.free 4; have r1l := r1.lt; simp at r1c0 r1c1 r1c2 r1c3 r1c4; refine Blk.thru (b := (w.heap.size + 1 + 1)) (arr := ?_) (t := ?_) ?_ hb5 ?_; rotate_left 2; (focus (exact blk)); intro r2; have r2c0 := r2.cell 0; have r2f0 := r2.free 0; have r2c1 := r2.cell 1; have r2f1 := r2.free 1; have r2c2 := r2.cell 2; have r2f2 := r2.free 2; have r2c3 := r2.cell 3; have r2f3 := r2.free 3; have r2l := r2.lt; simp at r2c0 r2c1 r2c2 r2c3)
        exact bodyPost_ret (v := .tuple #[.int .u8 0, .bool false]) (by simp [results, Tryz.results18, go_sem]) rfl ⟨rfl, by (exact kpt)⟩
    · obtain rfl : l.length = k := by omega
      obtain ⟨rfl, rfl⟩ := HYES.out bq (show run (stepB p wd) b l = some bq by have := HRUN.out; rw [List.take_length] at this; exact this)
      have j1 : ¬ (l.length : Int) < (l.length : Int) := by omega
      have r0c0 := r0.cell 0
      have r0c1 := r0.cell 1
      have r0c2 := r0.cell 2
      have r0c3 := r0.cell 3
      have r0c4 := r0.cell 4
      have r0f0 := r0.free 0
      have r0f1 := r0.free 1
      have r0f2 := r0.free 2
      have r0f3 := r0.free 3
      have r0f4 := r0.free 4
      have r0l := r0.lt
      simp at r0c0 r0c1 r0c2 r0c3 r0c4
      have r1c0 := r1.cell 0
      have r1c1 := r1.cell 1
      have r1c2 := r1.cell 2
      have r1c3 := r1.cell 3
      have r1c4 := r1.cell 4
      have r1f0 := r1.free 0
      have r1f1 := r1.free 1
      have r1f2 := r1.free 2
      have r1f3 := r1.free 3
      have r1f4 := r1.free 4
      have r1l := r1.lt
      simp at r1c0 r1c1 r1c2 r1c3 r1c4
      have r2c0 := r2.cell 0
      have r2c1 := r2.cell 1
      have r2c2 := r2.cell 2
      have r2c3 := r2.cell 3
      have r2f0 := r2.free 0
      have r2f1 := r2.free 1
      have r2f2 := r2.free 2
      have r2f3 := r2.free 3
      have r2l := r2.lt
      simp at r2c0 r2c1 r2c2 r2c3
      go_wp2
      exact bodyPost_ret (v := .tuple #[.int .u8 bq.ship, .bool true]) (by simp [results, Tryz.results18, go_sem]) rfl ⟨rfl, by (exact kpt)⟩
end Go.Proofs.YtacbkbilbmkjnaaGreat

/-
  MastPlanned: no shorter plan: the walk.
-/
namespace Go.Proofs.YtacbkbilbmkjnaaGreat
open Go.RowKit Bal Bal.Trim Bal.Mast
set_option linter.unusedVariables false
set_option linter.unusedSimpArgs false
set_option maxHeartbeats 4000000
set_option maxRecDepth 100000

theorem at_worldQ {Q : Exit → Act → World → Prop} {e : Exit} {a : Act} {S : World → Prop} {W : World} (h : S W) (k : ∀ W, S W → Q e a W) : Q e a W := k W h
theorem wide_lenO {p : Port} (h : wideB p = false) : p.axes.length ≤ 40 ∧ p.pulls.length ≤ 20 := by
  unfold wideB at h
  simp at h
  omega
theorem deeds_bd {p : Port} {l : List Deed} (h : ∀ x ∈ l, x ∈ actsOf (numsR p)) : ∀ x ∈ l, 0 ≤ x.kind ∧ x.kind ≤ 255 := fun x hx => by
  have := (mem_acts.1 (h x hx)).1
  omega
theorem law_MastPlanned_early (a : Option Addr) (c : Nat) (e : Option Addr) (d : Nat) (p : Port) (w : World) (hx : Row Axis.cells 2 w.heap.size w a p.axes) (hc : p.axes.length ≤ c) (hM : c ≤ maxLen) (hy : Row Span.cells 2 w.heap.size w e p.pulls) (hd : p.pulls.length ≤ d) (hN : d ≤ maxLen) (b : Berth) (hs0 : 0 ≤ b.ship) (wd : Wind) (ship : Int) (hsh : 0 ≤ ship ∧ ship ≤ 255) (oa : Option Addr) (oc : Nat) (o : List Deed) (ho : Row Deed.cells 2 w.heap.size w oa o) (hol : o.length ≤ oc) (hom : oc ≤ maxLen) (hok : ∀ x ∈ o, 0 ≤ x.kind ∧ x.kind ≤ 255) (hcase : wideB p = true ∨ (wideB p = false ∧ (30 < o.length ∨ (o.length ≤ 30 ∧ (checkBerth p b ≠ 0 ∨ (checkBerth p b = 0 ∧ windB wd = false)))))) : Calls Tryz.prog 4 #[.agg #[.slice a p.axes.length c, .int .i64 p.people, .int .i64 p.most, .slice e p.pulls.length d, .int .i64 p.cross], .agg #[.int .u8 b.ship, .int .i64 b.axis, .int .i64 b.held, .bool b.wire, .bool b.opn], .agg #[.int .i64 wd.xlo, .int .i64 wd.xhi, .int .i64 wd.ylo, .int .i64 wd.yhi], .int .u8 ship, .slice oa o.length oc] w fun z w' => z = .returned (.bool true) ∧ Kept w w' := by
  rcases hcase with hg | ⟨hg, h30 | ⟨h30, hcb | ⟨hcb, hw⟩⟩⟩
  · have HG := Lib.hid hg
    clear hg
    go_enter Tryz.func4, Tryz.ntmps4
    go_wp2_with (first | (go_at_call 11; (with_reducible refine (o_alive _).mono ?_); rintro z wA ⟨rfl, hbA⟩; refine Blk.thru (b := w.heap.size) (arr := ?_) (t := ?_) ?_ hbA ?_; rotate_left 2; (focus (exact blk)); intro r0; have r0c0 := r0.cell 0; have r0f0 := r0.free 0; have r0c1 := r0.cell 1; have r0f1 := r0.free 1; have r0c2 := r0.cell 2; have r0f2 := r0.free 2; have r0c3 := r0.cell 3; have r0f3 := r0.free 3; have r0c4 := r0.cell 4; have r0f4 := r0.free 4; have r0l := r0.lt; simp at r0c0 r0c1 r0c2 r0c3 r0c4; refine Blk.thru (b := (w.heap.size + 1)) (arr := ?_) (t := ?_) ?_ hbA ?_; rotate_left 2; (focus (exact blk)); intro r1; have r1c0 := r1.cell 0; have r1f0 := r1.free 0; have r1c1 := r1.cell 1; have r1f1 := r1.free 1; have r1c2 := r1.cell 2; have r1f2 := r1.free 2; have r1c3 := r1.cell 3; have r1f3 := r1.free 3; have r1c4 := r1.cell 4; have r1f4 := r1.free 4; have r1l := r1.lt; simp at r1c0 r1c1 r1c2 r1c3 r1c4; refine Blk.thru (b := (w.heap.size + 1 + 1)) (arr := ?_) (t := ?_) ?_ hbA ?_; rotate_left 2; (focus (exact blk)); intro r2; have r2c0 := r2.cell 0; have r2f0 := r2.free 0; have r2c1 := r2.cell 1; have r2f1 := r2.free 1; have r2c2 := r2.cell 2; have r2f2 := r2.free 2; have r2c3 := r2.cell 3; have r2f3 := r2.free 3; have r2l := r2.lt; simp at r2c0 r2c1 r2c2 r2c3) | (go_at_call 14; (with_reducible refine (r_Wide a c e d p _ (hx.later (by (exact kpt)) (Nat.le_refl _)) hc hM (hy.later (by (exact kpt)) (Nat.le_refl _)) hd hN).mono ?_); rw [HG.out]; rintro z w1 ⟨rfl, hb1⟩; refine Blk.thru (b := w.heap.size) (arr := ?_) (t := ?_) ?_ hb1 ?_; rotate_left 2; (focus (exact blk)); intro r0; have r0c0 := r0.cell 0; have r0f0 := r0.free 0; have r0c1 := r0.cell 1; have r0f1 := r0.free 1; have r0c2 := r0.cell 2; have r0f2 := r0.free 2; have r0c3 := r0.cell 3; have r0f3 := r0.free 3; have r0c4 := r0.cell 4; have r0f4 := r0.free 4; have r0l := r0.lt; simp at r0c0 r0c1 r0c2 r0c3 r0c4; refine Blk.thru (b := (w.heap.size + 1)) (arr := ?_) (t := ?_) ?_ hb1 ?_; rotate_left 2; (focus (exact blk)); intro r1; have r1c0 := r1.cell 0; have r1f0 := r1.free 0; have r1c1 := r1.cell 1; have r1f1 := r1.free 1; have r1c2 := r1.cell 2; have r1f2 := r1.free 2; have r1c3 := r1.cell 3; have r1f3 := r1.free 3; have r1c4 := r1.cell 4; have r1f4 := r1.free 4; have r1l := r1.lt; simp at r1c0 r1c1 r1c2 r1c3 r1c4; refine Blk.thru (b := (w.heap.size + 1 + 1)) (arr := ?_) (t := ?_) ?_ hb1 ?_; rotate_left 2; (focus (exact blk)); intro r2; have r2c0 := r2.cell 0; have r2f0 := r2.free 0; have r2c1 := r2.cell 1; have r2f1 := r2.free 1; have r2c2 := r2.cell 2; have r2f2 := r2.free 2; have r2c3 := r2.cell 3; have r2f3 := r2.free 3; have r2l := r2.lt; simp at r2c0 r2c1 r2c2 r2c3))
    go_ret
    exact ⟨rfl, by (exact kpt)⟩
  · have HG := Lib.hid hg
    clear hg
    have c3 : (30 : Int) < (o.length : Int) := by omega
    go_enter Tryz.func4, Tryz.ntmps4
    go_wp2_with (first | (go_at_call 11; (with_reducible refine (o_alive _).mono ?_); rintro z wA ⟨rfl, hbA⟩; refine Blk.thru (b := w.heap.size) (arr := ?_) (t := ?_) ?_ hbA ?_; rotate_left 2; (focus (exact blk)); intro r0; have r0c0 := r0.cell 0; have r0f0 := r0.free 0; have r0c1 := r0.cell 1; have r0f1 := r0.free 1; have r0c2 := r0.cell 2; have r0f2 := r0.free 2; have r0c3 := r0.cell 3; have r0f3 := r0.free 3; have r0c4 := r0.cell 4; have r0f4 := r0.free 4; have r0l := r0.lt; simp at r0c0 r0c1 r0c2 r0c3 r0c4; refine Blk.thru (b := (w.heap.size + 1)) (arr := ?_) (t := ?_) ?_ hbA ?_; rotate_left 2; (focus (exact blk)); intro r1; have r1c0 := r1.cell 0; have r1f0 := r1.free 0; have r1c1 := r1.cell 1; have r1f1 := r1.free 1; have r1c2 := r1.cell 2; have r1f2 := r1.free 2; have r1c3 := r1.cell 3; have r1f3 := r1.free 3; have r1c4 := r1.cell 4; have r1f4 := r1.free 4; have r1l := r1.lt; simp at r1c0 r1c1 r1c2 r1c3 r1c4; refine Blk.thru (b := (w.heap.size + 1 + 1)) (arr := ?_) (t := ?_) ?_ hbA ?_; rotate_left 2; (focus (exact blk)); intro r2; have r2c0 := r2.cell 0; have r2f0 := r2.free 0; have r2c1 := r2.cell 1; have r2f1 := r2.free 1; have r2c2 := r2.cell 2; have r2f2 := r2.free 2; have r2c3 := r2.cell 3; have r2f3 := r2.free 3; have r2l := r2.lt; simp at r2c0 r2c1 r2c2 r2c3) | (go_at_call 14; (with_reducible refine (r_Wide a c e d p _ (hx.later (by (exact kpt)) (Nat.le_refl _)) hc hM (hy.later (by (exact kpt)) (Nat.le_refl _)) hd hN).mono ?_); rw [HG.out]; rintro z w1 ⟨rfl, hb1⟩; refine Blk.thru (b := w.heap.size) (arr := ?_) (t := ?_) ?_ hb1 ?_; rotate_left 2; (focus (exact blk)); intro r0; have r0c0 := r0.cell 0; have r0f0 := r0.free 0; have r0c1 := r0.cell 1; have r0f1 := r0.free 1; have r0c2 := r0.cell 2; have r0f2 := r0.free 2; have r0c3 := r0.cell 3; have r0f3 := r0.free 3; have r0c4 := r0.cell 4; have r0f4 := r0.free 4; have r0l := r0.lt; simp at r0c0 r0c1 r0c2 r0c3 r0c4; refine Blk.thru (b := (w.heap.size + 1)) (arr := ?_) (t := ?_) ?_ hb1 ?_; rotate_left 2; (focus (exact blk)); intro r1; have r1c0 := r1.cell 0; have r1f0 := r1.free 0; have r1c1 := r1.cell 1; have r1f1 := r1.free 1; have r1c2 := r1.cell 2; have r1f2 := r1.free 2; have r1c3 := r1.cell 3; have r1f3 := r1.free 3; have r1c4 := r1.cell 4; have r1f4 := r1.free 4; have r1l := r1.lt; simp at r1c0 r1c1 r1c2 r1c3 r1c4; refine Blk.thru (b := (w.heap.size + 1 + 1)) (arr := ?_) (t := ?_) ?_ hb1 ?_; rotate_left 2; (focus (exact blk)); intro r2; have r2c0 := r2.cell 0; have r2f0 := r2.free 0; have r2c1 := r2.cell 1; have r2f1 := r2.free 1; have r2c2 := r2.cell 2; have r2f2 := r2.free 2; have r2c3 := r2.cell 3; have r2f3 := r2.free 3; have r2l := r2.lt; simp at r2c0 r2c1 r2c2 r2c3))
    go_ret
    exact ⟨rfl, by (exact kpt)⟩
  · have HG := Lib.hid hg
    have hn := wide_lenO hg
    have h1 : p.axes.length ≤ 1000000 := by omega
    have h2 : p.pulls.length ≤ 1000000 := by omega
    obtain ⟨E, hE⟩ : ∃ x, checkBerth p b = x := ⟨_, rfl⟩
    have hE0 : (E != 0) = true := by rw [← hE]; simp [hcb]
    have HCB := Lib.hid hE
    clear hg hcb hE
    have c3 : ¬ (30 : Int) < (o.length : Int) := by omega
    go_enter Tryz.func4, Tryz.ntmps4
    go_wp2_with (first | (go_at_call 11; (with_reducible refine (o_alive _).mono ?_); rintro z wA ⟨rfl, hbA⟩; refine Blk.thru (b := w.heap.size) (arr := ?_) (t := ?_) ?_ hbA ?_; rotate_left 2; (focus (exact blk)); intro r0; have r0c0 := r0.cell 0; have r0f0 := r0.free 0; have r0c1 := r0.cell 1; have r0f1 := r0.free 1; have r0c2 := r0.cell 2; have r0f2 := r0.free 2; have r0c3 := r0.cell 3; have r0f3 := r0.free 3; have r0c4 := r0.cell 4; have r0f4 := r0.free 4; have r0l := r0.lt; simp at r0c0 r0c1 r0c2 r0c3 r0c4; refine Blk.thru (b := (w.heap.size + 1)) (arr := ?_) (t := ?_) ?_ hbA ?_; rotate_left 2; (focus (exact blk)); intro r1; have r1c0 := r1.cell 0; have r1f0 := r1.free 0; have r1c1 := r1.cell 1; have r1f1 := r1.free 1; have r1c2 := r1.cell 2; have r1f2 := r1.free 2; have r1c3 := r1.cell 3; have r1f3 := r1.free 3; have r1c4 := r1.cell 4; have r1f4 := r1.free 4; have r1l := r1.lt; simp at r1c0 r1c1 r1c2 r1c3 r1c4; refine Blk.thru (b := (w.heap.size + 1 + 1)) (arr := ?_) (t := ?_) ?_ hbA ?_; rotate_left 2; (focus (exact blk)); intro r2; have r2c0 := r2.cell 0; have r2f0 := r2.free 0; have r2c1 := r2.cell 1; have r2f1 := r2.free 1; have r2c2 := r2.cell 2; have r2f2 := r2.free 2; have r2c3 := r2.cell 3; have r2f3 := r2.free 3; have r2l := r2.lt; simp at r2c0 r2c1 r2c2 r2c3) | (go_at_call 14; (with_reducible refine (r_Wide a c e d p _ (hx.later (by (exact kpt)) (Nat.le_refl _)) hc hM (hy.later (by (exact kpt)) (Nat.le_refl _)) hd hN).mono ?_); rw [HG.out]; rintro z w1 ⟨rfl, hb1⟩; refine Blk.thru (b := w.heap.size) (arr := ?_) (t := ?_) ?_ hb1 ?_; rotate_left 2; (focus (exact blk)); intro r0; have r0c0 := r0.cell 0; have r0f0 := r0.free 0; have r0c1 := r0.cell 1; have r0f1 := r0.free 1; have r0c2 := r0.cell 2; have r0f2 := r0.free 2; have r0c3 := r0.cell 3; have r0f3 := r0.free 3; have r0c4 := r0.cell 4; have r0f4 := r0.free 4; have r0l := r0.lt; simp at r0c0 r0c1 r0c2 r0c3 r0c4; refine Blk.thru (b := (w.heap.size + 1)) (arr := ?_) (t := ?_) ?_ hb1 ?_; rotate_left 2; (focus (exact blk)); intro r1; have r1c0 := r1.cell 0; have r1f0 := r1.free 0; have r1c1 := r1.cell 1; have r1f1 := r1.free 1; have r1c2 := r1.cell 2; have r1f2 := r1.free 2; have r1c3 := r1.cell 3; have r1f3 := r1.free 3; have r1c4 := r1.cell 4; have r1f4 := r1.free 4; have r1l := r1.lt; simp at r1c0 r1c1 r1c2 r1c3 r1c4; refine Blk.thru (b := (w.heap.size + 1 + 1)) (arr := ?_) (t := ?_) ?_ hb1 ?_; rotate_left 2; (focus (exact blk)); intro r2; have r2c0 := r2.cell 0; have r2f0 := r2.free 0; have r2c1 := r2.cell 1; have r2f1 := r2.free 1; have r2c2 := r2.cell 2; have r2f2 := r2.free 2; have r2c3 := r2.cell 3; have r2f3 := r2.free 3; have r2l := r2.lt; simp at r2c0 r2c1 r2c2 r2c3) | (go_at_call 15; (with_reducible refine (r_CheckBerth a c e d p _ (hx.later (by (exact kpt)) (Nat.le_refl _)) hc hM (hy.later (by (exact kpt)) (Nat.le_refl _)) hd hN h1 h2 b hs0).mono ?_); rw [HCB.out]; rintro z w2 ⟨rfl, hb2⟩; refine Blk.thru (b := w.heap.size) (arr := ?_) (t := ?_) ?_ hb2 ?_; rotate_left 2; (focus (exact blk)); intro r0; have r0c0 := r0.cell 0; have r0f0 := r0.free 0; have r0c1 := r0.cell 1; have r0f1 := r0.free 1; have r0c2 := r0.cell 2; have r0f2 := r0.free 2; have r0c3 := r0.cell 3; have r0f3 := r0.free 3; have r0c4 := r0.cell 4; have r0f4 := r0.free 4; have r0l := r0.lt; simp at r0c0 r0c1 r0c2 r0c3 r0c4; refine Blk.thru (b := (w.heap.size + 1)) (arr := ?_) (t := ?_) ?_ hb2 ?_; rotate_left 2; (focus (exact blk)); intro r1; have r1c0 := r1.cell 0; have r1f0 := r1.free 0; have r1c1 := r1.cell 1; have r1f1 := r1.free 1; have r1c2 := r1.cell 2; have r1f2 := r1.free 2; have r1c3 := r1.cell 3; have r1f3 := r1.free 3; have r1c4 := r1.cell 4; have r1f4 := r1.free 4; have r1l := r1.lt; simp at r1c0 r1c1 r1c2 r1c3 r1c4; refine Blk.thru (b := (w.heap.size + 1 + 1)) (arr := ?_) (t := ?_) ?_ hb2 ?_; rotate_left 2; (focus (exact blk)); intro r2; have r2c0 := r2.cell 0; have r2f0 := r2.free 0; have r2c1 := r2.cell 1; have r2f1 := r2.free 1; have r2c2 := r2.cell 2; have r2f2 := r2.free 2; have r2c3 := r2.cell 3; have r2f3 := r2.free 3; have r2l := r2.lt; simp at r2c0 r2c1 r2c2 r2c3))
    go_ret
    exact ⟨rfl, by (exact kpt)⟩
  · have HG := Lib.hid hg
    have hn := wide_lenO hg
    have h1 : p.axes.length ≤ 1000000 := by omega
    have h2 : p.pulls.length ≤ 1000000 := by omega
    have HCB := Lib.hid hcb
    have HCW := Lib.hid (show checkWind wd = 71 by unfold checkWind; rw [hw]; rfl)
    clear hg hcb hw
    have c3 : ¬ (30 : Int) < (o.length : Int) := by omega
    go_enter Tryz.func4, Tryz.ntmps4
    go_wp2_with (first | (go_at_call 11; (with_reducible refine (o_alive _).mono ?_); rintro z wA ⟨rfl, hbA⟩; refine Blk.thru (b := w.heap.size) (arr := ?_) (t := ?_) ?_ hbA ?_; rotate_left 2; (focus (exact blk)); intro r0; have r0c0 := r0.cell 0; have r0f0 := r0.free 0; have r0c1 := r0.cell 1; have r0f1 := r0.free 1; have r0c2 := r0.cell 2; have r0f2 := r0.free 2; have r0c3 := r0.cell 3; have r0f3 := r0.free 3; have r0c4 := r0.cell 4; have r0f4 := r0.free 4; have r0l := r0.lt; simp at r0c0 r0c1 r0c2 r0c3 r0c4; refine Blk.thru (b := (w.heap.size + 1)) (arr := ?_) (t := ?_) ?_ hbA ?_; rotate_left 2; (focus (exact blk)); intro r1; have r1c0 := r1.cell 0; have r1f0 := r1.free 0; have r1c1 := r1.cell 1; have r1f1 := r1.free 1; have r1c2 := r1.cell 2; have r1f2 := r1.free 2; have r1c3 := r1.cell 3; have r1f3 := r1.free 3; have r1c4 := r1.cell 4; have r1f4 := r1.free 4; have r1l := r1.lt; simp at r1c0 r1c1 r1c2 r1c3 r1c4; refine Blk.thru (b := (w.heap.size + 1 + 1)) (arr := ?_) (t := ?_) ?_ hbA ?_; rotate_left 2; (focus (exact blk)); intro r2; have r2c0 := r2.cell 0; have r2f0 := r2.free 0; have r2c1 := r2.cell 1; have r2f1 := r2.free 1; have r2c2 := r2.cell 2; have r2f2 := r2.free 2; have r2c3 := r2.cell 3; have r2f3 := r2.free 3; have r2l := r2.lt; simp at r2c0 r2c1 r2c2 r2c3) | (go_at_call 14; (with_reducible refine (r_Wide a c e d p _ (hx.later (by (exact kpt)) (Nat.le_refl _)) hc hM (hy.later (by (exact kpt)) (Nat.le_refl _)) hd hN).mono ?_); rw [HG.out]; rintro z w1 ⟨rfl, hb1⟩; refine Blk.thru (b := w.heap.size) (arr := ?_) (t := ?_) ?_ hb1 ?_; rotate_left 2; (focus (exact blk)); intro r0; have r0c0 := r0.cell 0; have r0f0 := r0.free 0; have r0c1 := r0.cell 1; have r0f1 := r0.free 1; have r0c2 := r0.cell 2; have r0f2 := r0.free 2; have r0c3 := r0.cell 3; have r0f3 := r0.free 3; have r0c4 := r0.cell 4; have r0f4 := r0.free 4; have r0l := r0.lt; simp at r0c0 r0c1 r0c2 r0c3 r0c4; refine Blk.thru (b := (w.heap.size + 1)) (arr := ?_) (t := ?_) ?_ hb1 ?_; rotate_left 2; (focus (exact blk)); intro r1; have r1c0 := r1.cell 0; have r1f0 := r1.free 0; have r1c1 := r1.cell 1; have r1f1 := r1.free 1; have r1c2 := r1.cell 2; have r1f2 := r1.free 2; have r1c3 := r1.cell 3; have r1f3 := r1.free 3; have r1c4 := r1.cell 4; have r1f4 := r1.free 4; have r1l := r1.lt; simp at r1c0 r1c1 r1c2 r1c3 r1c4; refine Blk.thru (b := (w.heap.size + 1 + 1)) (arr := ?_) (t := ?_) ?_ hb1 ?_; rotate_left 2; (focus (exact blk)); intro r2; have r2c0 := r2.cell 0; have r2f0 := r2.free 0; have r2c1 := r2.cell 1; have r2f1 := r2.free 1; have r2c2 := r2.cell 2; have r2f2 := r2.free 2; have r2c3 := r2.cell 3; have r2f3 := r2.free 3; have r2l := r2.lt; simp at r2c0 r2c1 r2c2 r2c3) | (go_at_call 15; (with_reducible refine (r_CheckBerth a c e d p _ (hx.later (by (exact kpt)) (Nat.le_refl _)) hc hM (hy.later (by (exact kpt)) (Nat.le_refl _)) hd hN h1 h2 b hs0).mono ?_); rw [HCB.out]; rintro z w2 ⟨rfl, hb2⟩; refine Blk.thru (b := w.heap.size) (arr := ?_) (t := ?_) ?_ hb2 ?_; rotate_left 2; (focus (exact blk)); intro r0; have r0c0 := r0.cell 0; have r0f0 := r0.free 0; have r0c1 := r0.cell 1; have r0f1 := r0.free 1; have r0c2 := r0.cell 2; have r0f2 := r0.free 2; have r0c3 := r0.cell 3; have r0f3 := r0.free 3; have r0c4 := r0.cell 4; have r0f4 := r0.free 4; have r0l := r0.lt; simp at r0c0 r0c1 r0c2 r0c3 r0c4; refine Blk.thru (b := (w.heap.size + 1)) (arr := ?_) (t := ?_) ?_ hb2 ?_; rotate_left 2; (focus (exact blk)); intro r1; have r1c0 := r1.cell 0; have r1f0 := r1.free 0; have r1c1 := r1.cell 1; have r1f1 := r1.free 1; have r1c2 := r1.cell 2; have r1f2 := r1.free 2; have r1c3 := r1.cell 3; have r1f3 := r1.free 3; have r1c4 := r1.cell 4; have r1f4 := r1.free 4; have r1l := r1.lt; simp at r1c0 r1c1 r1c2 r1c3 r1c4; refine Blk.thru (b := (w.heap.size + 1 + 1)) (arr := ?_) (t := ?_) ?_ hb2 ?_; rotate_left 2; (focus (exact blk)); intro r2; have r2c0 := r2.cell 0; have r2f0 := r2.free 0; have r2c1 := r2.cell 1; have r2f1 := r2.free 1; have r2c2 := r2.cell 2; have r2f2 := r2.free 2; have r2c3 := r2.cell 3; have r2f3 := r2.free 3; have r2l := r2.lt; simp at r2c0 r2c1 r2c2 r2c3) | (go_at_call 16; (with_reducible refine (r_CheckWind wd _).mono ?_); rw [HCW.out]; rintro z w3 ⟨rfl, hb3⟩; refine Blk.thru (b := w.heap.size) (arr := ?_) (t := ?_) ?_ hb3 ?_; rotate_left 2; (focus (exact blk)); intro r0; have r0c0 := r0.cell 0; have r0f0 := r0.free 0; have r0c1 := r0.cell 1; have r0f1 := r0.free 1; have r0c2 := r0.cell 2; have r0f2 := r0.free 2; have r0c3 := r0.cell 3; have r0f3 := r0.free 3; have r0c4 := r0.cell 4; have r0f4 := r0.free 4; have r0l := r0.lt; simp at r0c0 r0c1 r0c2 r0c3 r0c4; refine Blk.thru (b := (w.heap.size + 1)) (arr := ?_) (t := ?_) ?_ hb3 ?_; rotate_left 2; (focus (exact blk)); intro r1; have r1c0 := r1.cell 0; have r1f0 := r1.free 0; have r1c1 := r1.cell 1; have r1f1 := r1.free 1; have r1c2 := r1.cell 2; have r1f2 := r1.free 2; have r1c3 := r1.cell 3; have r1f3 := r1.free 3; have r1c4 := r1.cell 4; have r1f4 := r1.free 4; have r1l := r1.lt; simp at r1c0 r1c1 r1c2 r1c3 r1c4; refine Blk.thru (b := (w.heap.size + 1 + 1)) (arr := ?_) (t := ?_) ?_ hb3 ?_; rotate_left 2; (focus (exact blk)); intro r2; have r2c0 := r2.cell 0; have r2f0 := r2.free 0; have r2c1 := r2.cell 1; have r2f1 := r2.free 1; have r2c2 := r2.cell 2; have r2f2 := r2.free 2; have r2c3 := r2.cell 3; have r2f3 := r2.free 3; have r2l := r2.lt; simp at r2c0 r2c1 r2c2 r2c3))
    go_ret
    exact ⟨rfl, by (exact kpt)⟩
theorem law_MastPlanned_ship (a : Option Addr) (c : Nat) (e : Option Addr) (d : Nat) (p : Port) (w : World) (hx : Row Axis.cells 2 w.heap.size w a p.axes) (hc : p.axes.length ≤ c) (hM : c ≤ maxLen) (hy : Row Span.cells 2 w.heap.size w e p.pulls) (hd : p.pulls.length ≤ d) (hN : d ≤ maxLen) (b : Berth) (hs0 : 0 ≤ b.ship) (wd : Wind) (ship : Int) (hsh : 0 ≤ ship ∧ ship ≤ 255) (oa : Option Addr) (oc : Nat) (o : List Deed) (ho : Row Deed.cells 2 w.heap.size w oa o) (hol : o.length ≤ oc) (hom : oc ≤ maxLen) (hok : ∀ x ∈ o, 0 ≤ x.kind ∧ x.kind ≤ 255) (h1 : p.axes.length ≤ 1000000) (h2 : p.pulls.length ≤ 1000000) (hg : wideB p = false) (h30 : o.length ≤ 30) (hcb : checkBerth p b = 0) (hw : windB wd = true) (h5 : 5 < ship) : Calls Tryz.prog 4 #[.agg #[.slice a p.axes.length c, .int .i64 p.people, .int .i64 p.most, .slice e p.pulls.length d, .int .i64 p.cross], .agg #[.int .u8 b.ship, .int .i64 b.axis, .int .i64 b.held, .bool b.wire, .bool b.opn], .agg #[.int .i64 wd.xlo, .int .i64 wd.xhi, .int .i64 wd.ylo, .int .i64 wd.yhi], .int .u8 ship, .slice oa o.length oc] w fun z w' => z = .returned (.bool true) ∧ Kept w w' := by
  have HG := Lib.hid hg
  have HCB := Lib.hid hcb
  have HCW := Lib.hid (show checkWind wd = 0 by unfold checkWind; rw [hw]; rfl)
  have HP5 := Lib.hid (fun (E : Int) (l : List Deed) (h : PlanRes numsP p b wd ship E l) => (show E = 2 by
    have he : planErr p b wd ship = 2 := by unfold planErr; rw [if_pos hcb, if_pos hw, if_pos h5]
    rcases h with ⟨_, h, _⟩ | ⟨_, h, _⟩
    · rw [h, he]
    · rw [he] at h; cases h))
  clear hg hcb hw
  have c3 : ¬ (30 : Int) < (o.length : Int) := by omega
  go_enter Tryz.func4, Tryz.ntmps4
  go_wp2_with (first | (go_at_call 11; (with_reducible refine (o_alive _).mono ?_); rintro z wA ⟨rfl, hbA⟩; refine Blk.thru (b := w.heap.size) (arr := ?_) (t := ?_) ?_ hbA ?_; rotate_left 2; (focus (exact blk)); intro r0; have r0c0 := r0.cell 0; have r0f0 := r0.free 0; have r0c1 := r0.cell 1; have r0f1 := r0.free 1; have r0c2 := r0.cell 2; have r0f2 := r0.free 2; have r0c3 := r0.cell 3; have r0f3 := r0.free 3; have r0c4 := r0.cell 4; have r0f4 := r0.free 4; have r0l := r0.lt; simp at r0c0 r0c1 r0c2 r0c3 r0c4; refine Blk.thru (b := (w.heap.size + 1)) (arr := ?_) (t := ?_) ?_ hbA ?_; rotate_left 2; (focus (exact blk)); intro r1; have r1c0 := r1.cell 0; have r1f0 := r1.free 0; have r1c1 := r1.cell 1; have r1f1 := r1.free 1; have r1c2 := r1.cell 2; have r1f2 := r1.free 2; have r1c3 := r1.cell 3; have r1f3 := r1.free 3; have r1c4 := r1.cell 4; have r1f4 := r1.free 4; have r1l := r1.lt; simp at r1c0 r1c1 r1c2 r1c3 r1c4; refine Blk.thru (b := (w.heap.size + 1 + 1)) (arr := ?_) (t := ?_) ?_ hbA ?_; rotate_left 2; (focus (exact blk)); intro r2; have r2c0 := r2.cell 0; have r2f0 := r2.free 0; have r2c1 := r2.cell 1; have r2f1 := r2.free 1; have r2c2 := r2.cell 2; have r2f2 := r2.free 2; have r2c3 := r2.cell 3; have r2f3 := r2.free 3; have r2l := r2.lt; simp at r2c0 r2c1 r2c2 r2c3) | (go_at_call 14; (with_reducible refine (r_Wide a c e d p _ (hx.later (by (exact kpt)) (Nat.le_refl _)) hc hM (hy.later (by (exact kpt)) (Nat.le_refl _)) hd hN).mono ?_); rw [HG.out]; rintro z w1 ⟨rfl, hb1⟩; refine Blk.thru (b := w.heap.size) (arr := ?_) (t := ?_) ?_ hb1 ?_; rotate_left 2; (focus (exact blk)); intro r0; have r0c0 := r0.cell 0; have r0f0 := r0.free 0; have r0c1 := r0.cell 1; have r0f1 := r0.free 1; have r0c2 := r0.cell 2; have r0f2 := r0.free 2; have r0c3 := r0.cell 3; have r0f3 := r0.free 3; have r0c4 := r0.cell 4; have r0f4 := r0.free 4; have r0l := r0.lt; simp at r0c0 r0c1 r0c2 r0c3 r0c4; refine Blk.thru (b := (w.heap.size + 1)) (arr := ?_) (t := ?_) ?_ hb1 ?_; rotate_left 2; (focus (exact blk)); intro r1; have r1c0 := r1.cell 0; have r1f0 := r1.free 0; have r1c1 := r1.cell 1; have r1f1 := r1.free 1; have r1c2 := r1.cell 2; have r1f2 := r1.free 2; have r1c3 := r1.cell 3; have r1f3 := r1.free 3; have r1c4 := r1.cell 4; have r1f4 := r1.free 4; have r1l := r1.lt; simp at r1c0 r1c1 r1c2 r1c3 r1c4; refine Blk.thru (b := (w.heap.size + 1 + 1)) (arr := ?_) (t := ?_) ?_ hb1 ?_; rotate_left 2; (focus (exact blk)); intro r2; have r2c0 := r2.cell 0; have r2f0 := r2.free 0; have r2c1 := r2.cell 1; have r2f1 := r2.free 1; have r2c2 := r2.cell 2; have r2f2 := r2.free 2; have r2c3 := r2.cell 3; have r2f3 := r2.free 3; have r2l := r2.lt; simp at r2c0 r2c1 r2c2 r2c3) | (go_at_call 15; (with_reducible refine (r_CheckBerth a c e d p _ (hx.later (by (exact kpt)) (Nat.le_refl _)) hc hM (hy.later (by (exact kpt)) (Nat.le_refl _)) hd hN h1 h2 b hs0).mono ?_); rw [HCB.out]; rintro z w2 ⟨rfl, hb2⟩; refine Blk.thru (b := w.heap.size) (arr := ?_) (t := ?_) ?_ hb2 ?_; rotate_left 2; (focus (exact blk)); intro r0; have r0c0 := r0.cell 0; have r0f0 := r0.free 0; have r0c1 := r0.cell 1; have r0f1 := r0.free 1; have r0c2 := r0.cell 2; have r0f2 := r0.free 2; have r0c3 := r0.cell 3; have r0f3 := r0.free 3; have r0c4 := r0.cell 4; have r0f4 := r0.free 4; have r0l := r0.lt; simp at r0c0 r0c1 r0c2 r0c3 r0c4; refine Blk.thru (b := (w.heap.size + 1)) (arr := ?_) (t := ?_) ?_ hb2 ?_; rotate_left 2; (focus (exact blk)); intro r1; have r1c0 := r1.cell 0; have r1f0 := r1.free 0; have r1c1 := r1.cell 1; have r1f1 := r1.free 1; have r1c2 := r1.cell 2; have r1f2 := r1.free 2; have r1c3 := r1.cell 3; have r1f3 := r1.free 3; have r1c4 := r1.cell 4; have r1f4 := r1.free 4; have r1l := r1.lt; simp at r1c0 r1c1 r1c2 r1c3 r1c4; refine Blk.thru (b := (w.heap.size + 1 + 1)) (arr := ?_) (t := ?_) ?_ hb2 ?_; rotate_left 2; (focus (exact blk)); intro r2; have r2c0 := r2.cell 0; have r2f0 := r2.free 0; have r2c1 := r2.cell 1; have r2f1 := r2.free 1; have r2c2 := r2.cell 2; have r2f2 := r2.free 2; have r2c3 := r2.cell 3; have r2f3 := r2.free 3; have r2l := r2.lt; simp at r2c0 r2c1 r2c2 r2c3) | (go_at_call 16; (with_reducible refine (r_CheckWind wd _).mono ?_); rw [HCW.out]; rintro z w3 ⟨rfl, hb3⟩; refine Blk.thru (b := w.heap.size) (arr := ?_) (t := ?_) ?_ hb3 ?_; rotate_left 2; (focus (exact blk)); intro r0; have r0c0 := r0.cell 0; have r0f0 := r0.free 0; have r0c1 := r0.cell 1; have r0f1 := r0.free 1; have r0c2 := r0.cell 2; have r0f2 := r0.free 2; have r0c3 := r0.cell 3; have r0f3 := r0.free 3; have r0c4 := r0.cell 4; have r0f4 := r0.free 4; have r0l := r0.lt; simp at r0c0 r0c1 r0c2 r0c3 r0c4; refine Blk.thru (b := (w.heap.size + 1)) (arr := ?_) (t := ?_) ?_ hb3 ?_; rotate_left 2; (focus (exact blk)); intro r1; have r1c0 := r1.cell 0; have r1f0 := r1.free 0; have r1c1 := r1.cell 1; have r1f1 := r1.free 1; have r1c2 := r1.cell 2; have r1f2 := r1.free 2; have r1c3 := r1.cell 3; have r1f3 := r1.free 3; have r1c4 := r1.cell 4; have r1f4 := r1.free 4; have r1l := r1.lt; simp at r1c0 r1c1 r1c2 r1c3 r1c4; refine Blk.thru (b := (w.heap.size + 1 + 1)) (arr := ?_) (t := ?_) ?_ hb3 ?_; rotate_left 2; (focus (exact blk)); intro r2; have r2c0 := r2.cell 0; have r2f0 := r2.free 0; have r2c1 := r2.cell 1; have r2f1 := r2.free 1; have r2c2 := r2.cell 2; have r2f2 := r2.free 2; have r2c3 := r2.cell 3; have r2f3 := r2.free 3; have r2l := r2.lt; simp at r2c0 r2c1 r2c2 r2c3) | (go_at_call 17; (with_reducible refine (f_Plan a c e d p _ (hx.later (by (exact kpt)) (Nat.le_refl _)) hc hM (hy.later (by (exact kpt)) (Nat.le_refl _)) hd hN h1 h2 b hs0 wd ship hsh).mono ?_); rintro z w4 ⟨v4, l, E4, hr4, rfl, ho4, hb4⟩; obtain ⟨ad, cp, rfl, hrl, hc4, hm4⟩ := owns_row (enc := Deed.cells) (k := 2) deed_len ho4; obtain rfl := HP5.out _ _ hr4; refine Blk.thru (b := w.heap.size) (arr := ?_) (t := ?_) ?_ hb4 ?_; rotate_left 2; (focus (exact blk)); intro r0; have r0c0 := r0.cell 0; have r0f0 := r0.free 0; have r0c1 := r0.cell 1; have r0f1 := r0.free 1; have r0c2 := r0.cell 2; have r0f2 := r0.free 2; have r0c3 := r0.cell 3; have r0f3 := r0.free 3; have r0c4 := r0.cell 4; have r0f4 := r0.free 4; have r0l := r0.lt; simp at r0c0 r0c1 r0c2 r0c3 r0c4; refine Blk.thru (b := (w.heap.size + 1)) (arr := ?_) (t := ?_) ?_ hb4 ?_; rotate_left 2; (focus (exact blk)); intro r1; have r1c0 := r1.cell 0; have r1f0 := r1.free 0; have r1c1 := r1.cell 1; have r1f1 := r1.free 1; have r1c2 := r1.cell 2; have r1f2 := r1.free 2; have r1c3 := r1.cell 3; have r1f3 := r1.free 3; have r1c4 := r1.cell 4; have r1f4 := r1.free 4; have r1l := r1.lt; simp at r1c0 r1c1 r1c2 r1c3 r1c4; refine Blk.thru (b := (w.heap.size + 1 + 1)) (arr := ?_) (t := ?_) ?_ hb4 ?_; rotate_left 2; (focus (exact blk)); intro r2; have r2c0 := r2.cell 0; have r2f0 := r2.free 0; have r2c1 := r2.cell 1; have r2f1 := r2.free 1; have r2c2 := r2.cell 2; have r2f2 := r2.free 2; have r2c3 := r2.cell 3; have r2f3 := r2.free 3; have r2l := r2.lt; simp at r2c0 r2c1 r2c2 r2c3))
  go_ret
  exact ⟨rfl, by (exact kpt)⟩
theorem law_MastPlanned_ok (a : Option Addr) (c : Nat) (e : Option Addr) (d : Nat) (p : Port) (w : World) (hx : Row Axis.cells 2 w.heap.size w a p.axes) (hc : p.axes.length ≤ c) (hM : c ≤ maxLen) (hy : Row Span.cells 2 w.heap.size w e p.pulls) (hd : p.pulls.length ≤ d) (hN : d ≤ maxLen) (b : Berth) (hs0 : 0 ≤ b.ship) (wd : Wind) (ship : Int) (hsh : 0 ≤ ship ∧ ship ≤ 255) (oa : Option Addr) (oc : Nat) (o : List Deed) (ho : Row Deed.cells 2 w.heap.size w oa o) (hol : o.length ≤ oc) (hom : oc ≤ maxLen) (hok : ∀ x ∈ o, 0 ≤ x.kind ∧ x.kind ≤ 255) (h1 : p.axes.length ≤ 1000000) (h2 : p.pulls.length ≤ 1000000) (hg : wideB p = false) (h30 : o.length ≤ 30) (hcb : checkBerth p b = 0) (hw : windB wd = true) (h5 : ¬ 5 < ship) : Calls Tryz.prog 4 #[.agg #[.slice a p.axes.length c, .int .i64 p.people, .int .i64 p.most, .slice e p.pulls.length d, .int .i64 p.cross], .agg #[.int .u8 b.ship, .int .i64 b.axis, .int .i64 b.held, .bool b.wire, .bool b.opn], .agg #[.int .i64 wd.xlo, .int .i64 wd.xhi, .int .i64 wd.ylo, .int .i64 wd.yhi], .int .u8 ship, .slice oa o.length oc] w fun z w' => z = .returned (.bool true) ∧ Kept w w' := by
  have hom' := hom
  unfold maxLen at hom'
  have HG := Lib.hid hg
  have HCB := Lib.hid hcb
  have HCW := Lib.hid (show checkWind wd = 0 by unfold checkWind; rw [hw]; rfl)
  obtain ⟨hp, hbv⟩ := check_parts hcb
  have HPR := Lib.hid (fun (E : Int) (l : List Deed) (h : PlanRes numsP p b wd ship E l) => (show ∃ r, Least (stepB p wd) 4096 codeD (actsOf (numsR p)) b (goalB ship) r ∧ E = outE r ∧ l = outL r by
    rcases h with ⟨h, _⟩ | ⟨_, _, r, hr, h1, h2⟩
    · exact absurd (plan_ok hcb hw h5) h
    · exact ⟨r, plan_same hp hs0 hbv hr, h1, h2⟩))
  have HP := Lib.hid hp
  have HOK := Lib.hid hok
  obtain ⟨ES, hES⟩ : ∃ x, shipAt p wd b o = x := ⟨_, rfl⟩
  obtain ⟨EB, hEB⟩ : ∃ x, canDo p wd b o = x := ⟨_, rfl⟩
  have HES := Lib.hid hES
  have HEB := Lib.hid hEB
  clear hg hcb hw hp hbv hok hES hEB
  have c3 : ¬ (30 : Int) < (o.length : Int) := by omega
  go_enter Tryz.func4, Tryz.ntmps4
  go_upto_region 9 with (first | (go_at_call 11; (with_reducible refine (o_alive _).mono ?_); rintro z wA ⟨rfl, hbA⟩; refine Blk.thru (b := w.heap.size) (arr := ?_) (t := ?_) ?_ hbA ?_; rotate_left 2; (focus (exact blk)); intro r0; have r0c0 := r0.cell 0; have r0f0 := r0.free 0; have r0c1 := r0.cell 1; have r0f1 := r0.free 1; have r0c2 := r0.cell 2; have r0f2 := r0.free 2; have r0c3 := r0.cell 3; have r0f3 := r0.free 3; have r0c4 := r0.cell 4; have r0f4 := r0.free 4; have r0l := r0.lt; simp at r0c0 r0c1 r0c2 r0c3 r0c4; refine Blk.thru (b := (w.heap.size + 1)) (arr := ?_) (t := ?_) ?_ hbA ?_; rotate_left 2; (focus (exact blk)); intro r1; have r1c0 := r1.cell 0; have r1f0 := r1.free 0; have r1c1 := r1.cell 1; have r1f1 := r1.free 1; have r1c2 := r1.cell 2; have r1f2 := r1.free 2; have r1c3 := r1.cell 3; have r1f3 := r1.free 3; have r1c4 := r1.cell 4; have r1f4 := r1.free 4; have r1l := r1.lt; simp at r1c0 r1c1 r1c2 r1c3 r1c4; refine Blk.thru (b := (w.heap.size + 1 + 1)) (arr := ?_) (t := ?_) ?_ hbA ?_; rotate_left 2; (focus (exact blk)); intro r2; have r2c0 := r2.cell 0; have r2f0 := r2.free 0; have r2c1 := r2.cell 1; have r2f1 := r2.free 1; have r2c2 := r2.cell 2; have r2f2 := r2.free 2; have r2c3 := r2.cell 3; have r2f3 := r2.free 3; have r2l := r2.lt; simp at r2c0 r2c1 r2c2 r2c3) | (go_at_call 14; (with_reducible refine (r_Wide a c e d p _ (hx.later (by (exact kpt)) (Nat.le_refl _)) hc hM (hy.later (by (exact kpt)) (Nat.le_refl _)) hd hN).mono ?_); rw [HG.out]; rintro z w1 ⟨rfl, hb1⟩; refine Blk.thru (b := w.heap.size) (arr := ?_) (t := ?_) ?_ hb1 ?_; rotate_left 2; (focus (exact blk)); intro r0; have r0c0 := r0.cell 0; have r0f0 := r0.free 0; have r0c1 := r0.cell 1; have r0f1 := r0.free 1; have r0c2 := r0.cell 2; have r0f2 := r0.free 2; have r0c3 := r0.cell 3; have r0f3 := r0.free 3; have r0c4 := r0.cell 4; have r0f4 := r0.free 4; have r0l := r0.lt; simp at r0c0 r0c1 r0c2 r0c3 r0c4; refine Blk.thru (b := (w.heap.size + 1)) (arr := ?_) (t := ?_) ?_ hb1 ?_; rotate_left 2; (focus (exact blk)); intro r1; have r1c0 := r1.cell 0; have r1f0 := r1.free 0; have r1c1 := r1.cell 1; have r1f1 := r1.free 1; have r1c2 := r1.cell 2; have r1f2 := r1.free 2; have r1c3 := r1.cell 3; have r1f3 := r1.free 3; have r1c4 := r1.cell 4; have r1f4 := r1.free 4; have r1l := r1.lt; simp at r1c0 r1c1 r1c2 r1c3 r1c4; refine Blk.thru (b := (w.heap.size + 1 + 1)) (arr := ?_) (t := ?_) ?_ hb1 ?_; rotate_left 2; (focus (exact blk)); intro r2; have r2c0 := r2.cell 0; have r2f0 := r2.free 0; have r2c1 := r2.cell 1; have r2f1 := r2.free 1; have r2c2 := r2.cell 2; have r2f2 := r2.free 2; have r2c3 := r2.cell 3; have r2f3 := r2.free 3; have r2l := r2.lt; simp at r2c0 r2c1 r2c2 r2c3) | (go_at_call 15; (with_reducible refine (r_CheckBerth a c e d p _ (hx.later (by (exact kpt)) (Nat.le_refl _)) hc hM (hy.later (by (exact kpt)) (Nat.le_refl _)) hd hN h1 h2 b hs0).mono ?_); rw [HCB.out]; rintro z w2 ⟨rfl, hb2⟩; refine Blk.thru (b := w.heap.size) (arr := ?_) (t := ?_) ?_ hb2 ?_; rotate_left 2; (focus (exact blk)); intro r0; have r0c0 := r0.cell 0; have r0f0 := r0.free 0; have r0c1 := r0.cell 1; have r0f1 := r0.free 1; have r0c2 := r0.cell 2; have r0f2 := r0.free 2; have r0c3 := r0.cell 3; have r0f3 := r0.free 3; have r0c4 := r0.cell 4; have r0f4 := r0.free 4; have r0l := r0.lt; simp at r0c0 r0c1 r0c2 r0c3 r0c4; refine Blk.thru (b := (w.heap.size + 1)) (arr := ?_) (t := ?_) ?_ hb2 ?_; rotate_left 2; (focus (exact blk)); intro r1; have r1c0 := r1.cell 0; have r1f0 := r1.free 0; have r1c1 := r1.cell 1; have r1f1 := r1.free 1; have r1c2 := r1.cell 2; have r1f2 := r1.free 2; have r1c3 := r1.cell 3; have r1f3 := r1.free 3; have r1c4 := r1.cell 4; have r1f4 := r1.free 4; have r1l := r1.lt; simp at r1c0 r1c1 r1c2 r1c3 r1c4; refine Blk.thru (b := (w.heap.size + 1 + 1)) (arr := ?_) (t := ?_) ?_ hb2 ?_; rotate_left 2; (focus (exact blk)); intro r2; have r2c0 := r2.cell 0; have r2f0 := r2.free 0; have r2c1 := r2.cell 1; have r2f1 := r2.free 1; have r2c2 := r2.cell 2; have r2f2 := r2.free 2; have r2c3 := r2.cell 3; have r2f3 := r2.free 3; have r2l := r2.lt; simp at r2c0 r2c1 r2c2 r2c3) | (go_at_call 16; (with_reducible refine (r_CheckWind wd _).mono ?_); rw [HCW.out]; rintro z w3 ⟨rfl, hb3⟩; refine Blk.thru (b := w.heap.size) (arr := ?_) (t := ?_) ?_ hb3 ?_; rotate_left 2; (focus (exact blk)); intro r0; have r0c0 := r0.cell 0; have r0f0 := r0.free 0; have r0c1 := r0.cell 1; have r0f1 := r0.free 1; have r0c2 := r0.cell 2; have r0f2 := r0.free 2; have r0c3 := r0.cell 3; have r0f3 := r0.free 3; have r0c4 := r0.cell 4; have r0f4 := r0.free 4; have r0l := r0.lt; simp at r0c0 r0c1 r0c2 r0c3 r0c4; refine Blk.thru (b := (w.heap.size + 1)) (arr := ?_) (t := ?_) ?_ hb3 ?_; rotate_left 2; (focus (exact blk)); intro r1; have r1c0 := r1.cell 0; have r1f0 := r1.free 0; have r1c1 := r1.cell 1; have r1f1 := r1.free 1; have r1c2 := r1.cell 2; have r1f2 := r1.free 2; have r1c3 := r1.cell 3; have r1f3 := r1.free 3; have r1c4 := r1.cell 4; have r1f4 := r1.free 4; have r1l := r1.lt; simp at r1c0 r1c1 r1c2 r1c3 r1c4; refine Blk.thru (b := (w.heap.size + 1 + 1)) (arr := ?_) (t := ?_) ?_ hb3 ?_; rotate_left 2; (focus (exact blk)); intro r2; have r2c0 := r2.cell 0; have r2f0 := r2.free 0; have r2c1 := r2.cell 1; have r2f1 := r2.free 1; have r2c2 := r2.cell 2; have r2f2 := r2.free 2; have r2c3 := r2.cell 3; have r2f3 := r2.free 3; have r2l := r2.lt; simp at r2c0 r2c1 r2c2 r2c3) | (go_at_call 17; (with_reducible refine (f_Plan a c e d p _ (hx.later (by (exact kpt)) (Nat.le_refl _)) hc hM (hy.later (by (exact kpt)) (Nat.le_refl _)) hd hN h1 h2 b hs0 wd ship hsh).mono ?_); rintro z w4 ⟨v4, l, E4, hr4, rfl, ho4, hb4⟩; obtain ⟨ad, cp, rfl, hrl, hc4, hm4⟩ := owns_row (enc := Deed.cells) (k := 2) deed_len ho4; skip; refine Blk.thru (b := w.heap.size) (arr := ?_) (t := ?_) ?_ hb4 ?_; rotate_left 2; (focus (exact blk)); intro r0; have r0c0 := r0.cell 0; have r0f0 := r0.free 0; have r0c1 := r0.cell 1; have r0f1 := r0.free 1; have r0c2 := r0.cell 2; have r0f2 := r0.free 2; have r0c3 := r0.cell 3; have r0f3 := r0.free 3; have r0c4 := r0.cell 4; have r0f4 := r0.free 4; have r0l := r0.lt; simp at r0c0 r0c1 r0c2 r0c3 r0c4; refine Blk.thru (b := (w.heap.size + 1)) (arr := ?_) (t := ?_) ?_ hb4 ?_; rotate_left 2; (focus (exact blk)); intro r1; have r1c0 := r1.cell 0; have r1f0 := r1.free 0; have r1c1 := r1.cell 1; have r1f1 := r1.free 1; have r1c2 := r1.cell 2; have r1f2 := r1.free 2; have r1c3 := r1.cell 3; have r1f3 := r1.free 3; have r1c4 := r1.cell 4; have r1f4 := r1.free 4; have r1l := r1.lt; simp at r1c0 r1c1 r1c2 r1c3 r1c4; refine Blk.thru (b := (w.heap.size + 1 + 1)) (arr := ?_) (t := ?_) ?_ hb4 ?_; rotate_left 2; (focus (exact blk)); intro r2; have r2c0 := r2.cell 0; have r2f0 := r2.free 0; have r2c1 := r2.cell 1; have r2f1 := r2.free 1; have r2c2 := r2.cell 2; have r2f2 := r2.free 2; have r2c3 := r2.cell 3; have r2f3 := r2.free 3; have r2l := r2.lt; simp at r2c0 r2c1 r2c2 r2c3))
  refine at_world (S := fun V => Blk V w.heap.size #[.slice a p.axes.length c, .int .i64 p.people, .int .i64 p.most, .slice e p.pulls.length d, .int .i64 p.cross] 25 ∧ Blk V (w.heap.size + 1) #[.int .u8 b.ship, .int .i64 b.axis, .int .i64 b.held, .bool b.wire, .bool b.opn] 37 ∧ Blk V (w.heap.size + 1 + 1) #[.int .i64 wd.xlo, .int .i64 wd.xhi, .int .i64 wd.ylo, .int .i64 wd.yhi] 39 ∧ Row Deed.cells 2 V.heap.size V ad l ∧ Kept w V) ⟨by (exact blk), by (exact blk), by (exact blk), hrl.later (by (exact kpt)) (Nat.le_refl _), by (exact kpt)⟩ ?_
  clear r0 r1 r2 hrl ho4 hb4 r0c0 r0f0 r0c1 r0f1 r0c2 r0f2 r0c3 r0f3 r0c4 r0f4 r1c0 r1f0 r1c1 r1f1 r1c2 r1f2 r1c3 r1f3 r1c4 r1f4 r2c0 r2f0 r2c1 r2f1 r2c2 r2f2 r2c3 r2f3 r0l r1l r2l
  rintro V ⟨r0, r1, r2, hrl, hk⟩
  obtain ⟨r, hle, hE4, hl4⟩ := HPR.out _ _ hr4
  have hcap := hm4
  unfold maxLen at hcap
  clear hr4 HPR
  have r0c0 := r0.cell 0
  have r0c1 := r0.cell 1
  have r0c2 := r0.cell 2
  have r0c3 := r0.cell 3
  have r0c4 := r0.cell 4
  have r0f0 := r0.free 0
  have r0f1 := r0.free 1
  have r0f2 := r0.free 2
  have r0f3 := r0.free 3
  have r0f4 := r0.free 4
  have r0l := r0.lt
  simp at r0c0 r0c1 r0c2 r0c3 r0c4
  have r1c0 := r1.cell 0
  have r1c1 := r1.cell 1
  have r1c2 := r1.cell 2
  have r1c3 := r1.cell 3
  have r1c4 := r1.cell 4
  have r1f0 := r1.free 0
  have r1f1 := r1.free 1
  have r1f2 := r1.free 2
  have r1f3 := r1.free 3
  have r1f4 := r1.free 4
  have r1l := r1.lt
  simp at r1c0 r1c1 r1c2 r1c3 r1c4
  have r2c0 := r2.cell 0
  have r2c1 := r2.cell 1
  have r2c2 := r2.cell 2
  have r2c3 := r2.cell 3
  have r2f0 := r2.free 0
  have r2f1 := r2.free 1
  have r2f2 := r2.free 2
  have r2f3 := r2.free 3
  have r2l := r2.lt
  simp at r2c0 r2c1 r2c2 r2c3
  cases r with
  | none =>
    obtain rfl : E4 = 6 := hE4
    obtain rfl : l = [] := hl4
    obtain ⟨n1, n2⟩ := planned_none hle o
    rw [HES.out, HEB.out] at n1
    have n2b : (b.ship != ship) = true := by simp [n2]
    clear hle
    cases EB
    · go_wp2_with (go_at_call 18; (with_reducible refine (o_ended a c e d p _ (hx.later (by (exact kpt)) (Nat.le_refl _)) hc hM (hy.later (by (exact kpt)) (Nat.le_refl _)) hd hN h1 h2 b hs0 wd oa oc o (ho.later (by (exact kpt)) (Nat.le_refl _)) hol hom HOK.out).mono ?_); rw [HES.out, HEB.out]; rintro z w5 ⟨rfl, hb5⟩; refine Blk.thru (b := w.heap.size) (arr := ?_) (t := ?_) ?_ hb5 ?_; rotate_left 2; (focus (exact blk)); intro r0; have r0c0 := r0.cell 0; have r0f0 := r0.free 0; have r0c1 := r0.cell 1; have r0f1 := r0.free 1; have r0c2 := r0.cell 2; have r0f2 := r0.free 2; have r0c3 := r0.cell 3; have r0f3 := r0.free 3; have r0c4 := r0.cell 4; have r0f4 := r0.free 4; have r0l := r0.lt; simp at r0c0 r0c1 r0c2 r0c3 r0c4; refine Blk.thru (b := (w.heap.size + 1)) (arr := ?_) (t := ?_) ?_ hb5 ?_; rotate_left 2; (focus (exact blk)); intro r1; have r1c0 := r1.cell 0; have r1f0 := r1.free 0; have r1c1 := r1.cell 1; have r1f1 := r1.free 1; have r1c2 := r1.cell 2; have r1f2 := r1.free 2; have r1c3 := r1.cell 3; have r1f3 := r1.free 3; have r1c4 := r1.cell 4; have r1f4 := r1.free 4; have r1l := r1.lt; simp at r1c0 r1c1 r1c2 r1c3 r1c4; refine Blk.thru (b := (w.heap.size + 1 + 1)) (arr := ?_) (t := ?_) ?_ hb5 ?_; rotate_left 2; (focus (exact blk)); intro r2; have r2c0 := r2.cell 0; have r2f0 := r2.free 0; have r2c1 := r2.cell 1; have r2f1 := r2.free 1; have r2c2 := r2.cell 2; have r2f2 := r2.free 2; have r2c3 := r2.cell 3; have r2f3 := r2.free 3; have r2l := r2.lt; simp at r2c0 r2c1 r2c2 r2c3)
      go_ret
      exact ⟨rfl, by (exact kpt)⟩
    · have n3 : ES ≠ ship := n1.resolve_left (by simp)
      have n3b : (ES != ship) = true := by simp [n3]
      go_wp2_with (go_at_call 18; (with_reducible refine (o_ended a c e d p _ (hx.later (by (exact kpt)) (Nat.le_refl _)) hc hM (hy.later (by (exact kpt)) (Nat.le_refl _)) hd hN h1 h2 b hs0 wd oa oc o (ho.later (by (exact kpt)) (Nat.le_refl _)) hol hom HOK.out).mono ?_); rw [HES.out, HEB.out]; rintro z w5 ⟨rfl, hb5⟩; refine Blk.thru (b := w.heap.size) (arr := ?_) (t := ?_) ?_ hb5 ?_; rotate_left 2; (focus (exact blk)); intro r0; have r0c0 := r0.cell 0; have r0f0 := r0.free 0; have r0c1 := r0.cell 1; have r0f1 := r0.free 1; have r0c2 := r0.cell 2; have r0f2 := r0.free 2; have r0c3 := r0.cell 3; have r0f3 := r0.free 3; have r0c4 := r0.cell 4; have r0f4 := r0.free 4; have r0l := r0.lt; simp at r0c0 r0c1 r0c2 r0c3 r0c4; refine Blk.thru (b := (w.heap.size + 1)) (arr := ?_) (t := ?_) ?_ hb5 ?_; rotate_left 2; (focus (exact blk)); intro r1; have r1c0 := r1.cell 0; have r1f0 := r1.free 0; have r1c1 := r1.cell 1; have r1f1 := r1.free 1; have r1c2 := r1.cell 2; have r1f2 := r1.free 2; have r1c3 := r1.cell 3; have r1f3 := r1.free 3; have r1c4 := r1.cell 4; have r1f4 := r1.free 4; have r1l := r1.lt; simp at r1c0 r1c1 r1c2 r1c3 r1c4; refine Blk.thru (b := (w.heap.size + 1 + 1)) (arr := ?_) (t := ?_) ?_ hb5 ?_; rotate_left 2; (focus (exact blk)); intro r2; have r2c0 := r2.cell 0; have r2f0 := r2.free 0; have r2c1 := r2.cell 1; have r2f1 := r2.free 1; have r2c2 := r2.cell 2; have r2f2 := r2.free 2; have r2c3 := r2.cell 3; have r2f3 := r2.free 3; have r2l := r2.lt; simp at r2c0 r2c1 r2c2 r2c3)
      go_ret
      exact ⟨rfl, by (exact kpt)⟩
  | some l' =>
    obtain rfl : E4 = 0 := hE4
    obtain rfl : l = l' := hl4
    have PL := planned_law HP.out hle o
    obtain ⟨⟨g1, g2⟩, q1, q2⟩ := PL
    rw [HES.out, HEB.out] at q1 q2
    have HLB := Lib.hid g1
    have HLS := Lib.hid g2
    have HLK := Lib.hid (deeds_bd hle.1)
    have HQ2 := Lib.hid q2
    clear hle g1 g2 q2
    cases EB
    · go_wp2_with (first | (go_at_call 18; (with_reducible refine (o_ended a c e d p _ (hx.later (by (exact kpt)) (Nat.le_refl _)) hc hM (hy.later (by (exact kpt)) (Nat.le_refl _)) hd hN h1 h2 b hs0 wd oa oc o (ho.later (by (exact kpt)) (Nat.le_refl _)) hol hom HOK.out).mono ?_); rw [HES.out, HEB.out]; rintro z w5 ⟨rfl, hb5⟩; refine Blk.thru (b := w.heap.size) (arr := ?_) (t := ?_) ?_ hb5 ?_; rotate_left 2; (focus (exact blk)); intro r0; have r0c0 := r0.cell 0; have r0f0 := r0.free 0; have r0c1 := r0.cell 1; have r0f1 := r0.free 1; have r0c2 := r0.cell 2; have r0f2 := r0.free 2; have r0c3 := r0.cell 3; have r0f3 := r0.free 3; have r0c4 := r0.cell 4; have r0f4 := r0.free 4; have r0l := r0.lt; simp at r0c0 r0c1 r0c2 r0c3 r0c4; refine Blk.thru (b := (w.heap.size + 1)) (arr := ?_) (t := ?_) ?_ hb5 ?_; rotate_left 2; (focus (exact blk)); intro r1; have r1c0 := r1.cell 0; have r1f0 := r1.free 0; have r1c1 := r1.cell 1; have r1f1 := r1.free 1; have r1c2 := r1.cell 2; have r1f2 := r1.free 2; have r1c3 := r1.cell 3; have r1f3 := r1.free 3; have r1c4 := r1.cell 4; have r1f4 := r1.free 4; have r1l := r1.lt; simp at r1c0 r1c1 r1c2 r1c3 r1c4; refine Blk.thru (b := (w.heap.size + 1 + 1)) (arr := ?_) (t := ?_) ?_ hb5 ?_; rotate_left 2; (focus (exact blk)); intro r2; have r2c0 := r2.cell 0; have r2f0 := r2.free 0; have r2c1 := r2.cell 1; have r2f1 := r2.free 1; have r2c2 := r2.cell 2; have r2f2 := r2.free 2; have r2c3 := r2.cell 3; have r2f3 := r2.free 3; have r2l := r2.lt; simp at r2c0 r2c1 r2c2 r2c3) | (go_at_call 18; (with_reducible refine (o_ended a c e d p _ (hx.later (by (exact kpt)) (Nat.le_refl _)) hc hM (hy.later (by (exact kpt)) (Nat.le_refl _)) hd hN h1 h2 b hs0 wd ad cp l (hrl.later (by (exact kpt)) (Nat.le_refl _)) hc4 hm4 HLK.out).mono ?_); rw [HLS.out, HLB.out]; rintro z w6 ⟨rfl, hb6⟩; refine Blk.thru (b := w.heap.size) (arr := ?_) (t := ?_) ?_ hb6 ?_; rotate_left 2; (focus (exact blk)); intro r0; have r0c0 := r0.cell 0; have r0f0 := r0.free 0; have r0c1 := r0.cell 1; have r0f1 := r0.free 1; have r0c2 := r0.cell 2; have r0f2 := r0.free 2; have r0c3 := r0.cell 3; have r0f3 := r0.free 3; have r0c4 := r0.cell 4; have r0f4 := r0.free 4; have r0l := r0.lt; simp at r0c0 r0c1 r0c2 r0c3 r0c4; refine Blk.thru (b := (w.heap.size + 1)) (arr := ?_) (t := ?_) ?_ hb6 ?_; rotate_left 2; (focus (exact blk)); intro r1; have r1c0 := r1.cell 0; have r1f0 := r1.free 0; have r1c1 := r1.cell 1; have r1f1 := r1.free 1; have r1c2 := r1.cell 2; have r1f2 := r1.free 2; have r1c3 := r1.cell 3; have r1f3 := r1.free 3; have r1c4 := r1.cell 4; have r1f4 := r1.free 4; have r1l := r1.lt; simp at r1c0 r1c1 r1c2 r1c3 r1c4; refine Blk.thru (b := (w.heap.size + 1 + 1)) (arr := ?_) (t := ?_) ?_ hb6 ?_; rotate_left 2; (focus (exact blk)); intro r2; have r2c0 := r2.cell 0; have r2f0 := r2.free 0; have r2c1 := r2.cell 1; have r2f1 := r2.free 1; have r2c2 := r2.cell 2; have r2f2 := r2.free 2; have r2c3 := r2.cell 3; have r2f3 := r2.free 3; have r2l := r2.lt; simp at r2c0 r2c1 r2c2 r2c3))
      go_ret
      exact ⟨rfl, by (exact kpt)⟩
    · by_cases n3 : ES = ship
      · have n3b : (ES != ship) = false := by simp [n3]
        by_cases hgt : l.length < o.length
        · have hgt1 : (l.length : Int) < (o.length : Int) := by omega
          go_wp2_with (first | (go_at_call 18; (with_reducible refine (o_ended a c e d p _ (hx.later (by (exact kpt)) (Nat.le_refl _)) hc hM (hy.later (by (exact kpt)) (Nat.le_refl _)) hd hN h1 h2 b hs0 wd oa oc o (ho.later (by (exact kpt)) (Nat.le_refl _)) hol hom HOK.out).mono ?_); rw [HES.out, HEB.out]; rintro z w5 ⟨rfl, hb5⟩; refine Blk.thru (b := w.heap.size) (arr := ?_) (t := ?_) ?_ hb5 ?_; rotate_left 2; (focus (exact blk)); intro r0; have r0c0 := r0.cell 0; have r0f0 := r0.free 0; have r0c1 := r0.cell 1; have r0f1 := r0.free 1; have r0c2 := r0.cell 2; have r0f2 := r0.free 2; have r0c3 := r0.cell 3; have r0f3 := r0.free 3; have r0c4 := r0.cell 4; have r0f4 := r0.free 4; have r0l := r0.lt; simp at r0c0 r0c1 r0c2 r0c3 r0c4; refine Blk.thru (b := (w.heap.size + 1)) (arr := ?_) (t := ?_) ?_ hb5 ?_; rotate_left 2; (focus (exact blk)); intro r1; have r1c0 := r1.cell 0; have r1f0 := r1.free 0; have r1c1 := r1.cell 1; have r1f1 := r1.free 1; have r1c2 := r1.cell 2; have r1f2 := r1.free 2; have r1c3 := r1.cell 3; have r1f3 := r1.free 3; have r1c4 := r1.cell 4; have r1f4 := r1.free 4; have r1l := r1.lt; simp at r1c0 r1c1 r1c2 r1c3 r1c4; refine Blk.thru (b := (w.heap.size + 1 + 1)) (arr := ?_) (t := ?_) ?_ hb5 ?_; rotate_left 2; (focus (exact blk)); intro r2; have r2c0 := r2.cell 0; have r2f0 := r2.free 0; have r2c1 := r2.cell 1; have r2f1 := r2.free 1; have r2c2 := r2.cell 2; have r2f2 := r2.free 2; have r2c3 := r2.cell 3; have r2f3 := r2.free 3; have r2l := r2.lt; simp at r2c0 r2c1 r2c2 r2c3) | (go_at_call 18; (with_reducible refine (o_ended a c e d p _ (hx.later (by (exact kpt)) (Nat.le_refl _)) hc hM (hy.later (by (exact kpt)) (Nat.le_refl _)) hd hN h1 h2 b hs0 wd ad cp l (hrl.later (by (exact kpt)) (Nat.le_refl _)) hc4 hm4 HLK.out).mono ?_); rw [HLS.out, HLB.out]; rintro z w6 ⟨rfl, hb6⟩; refine Blk.thru (b := w.heap.size) (arr := ?_) (t := ?_) ?_ hb6 ?_; rotate_left 2; (focus (exact blk)); intro r0; have r0c0 := r0.cell 0; have r0f0 := r0.free 0; have r0c1 := r0.cell 1; have r0f1 := r0.free 1; have r0c2 := r0.cell 2; have r0f2 := r0.free 2; have r0c3 := r0.cell 3; have r0f3 := r0.free 3; have r0c4 := r0.cell 4; have r0f4 := r0.free 4; have r0l := r0.lt; simp at r0c0 r0c1 r0c2 r0c3 r0c4; refine Blk.thru (b := (w.heap.size + 1)) (arr := ?_) (t := ?_) ?_ hb6 ?_; rotate_left 2; (focus (exact blk)); intro r1; have r1c0 := r1.cell 0; have r1f0 := r1.free 0; have r1c1 := r1.cell 1; have r1f1 := r1.free 1; have r1c2 := r1.cell 2; have r1f2 := r1.free 2; have r1c3 := r1.cell 3; have r1f3 := r1.free 3; have r1c4 := r1.cell 4; have r1f4 := r1.free 4; have r1l := r1.lt; simp at r1c0 r1c1 r1c2 r1c3 r1c4; refine Blk.thru (b := (w.heap.size + 1 + 1)) (arr := ?_) (t := ?_) ?_ hb6 ?_; rotate_left 2; (focus (exact blk)); intro r2; have r2c0 := r2.cell 0; have r2f0 := r2.free 0; have r2c1 := r2.cell 1; have r2f1 := r2.free 1; have r2c2 := r2.cell 2; have r2f2 := r2.free 2; have r2c3 := r2.cell 3; have r2f3 := r2.free 3; have r2l := r2.lt; simp at r2c0 r2c1 r2c2 r2c3))
          go_ret
          exact ⟨rfl, by (exact kpt)⟩
        · have hll : l.length ≤ o.length := by
            rcases q1 with h | h | h
            · exact h
            · cases h
            · exact absurd n3 h
          have hlen : l.length = o.length := by omega
          have hgt1 : ¬ (l.length : Int) < (o.length : Int) := by omega
          have hgt2 : ¬ (o.length : Int) < (l.length : Int) := by omega
          have HQ3 := Lib.hid (HQ2.out rfl n3 hlen)
          clear q1 HQ2 n3
          have HLEN := Lib.hid hlen
          clear hlen
          go_upto_region 19 with (first | (go_at_call 18; (with_reducible refine (o_ended a c e d p _ (hx.later (by (exact kpt)) (Nat.le_refl _)) hc hM (hy.later (by (exact kpt)) (Nat.le_refl _)) hd hN h1 h2 b hs0 wd oa oc o (ho.later (by (exact kpt)) (Nat.le_refl _)) hol hom HOK.out).mono ?_); rw [HES.out, HEB.out]; rintro z w5 ⟨rfl, hb5⟩; refine Blk.thru (b := w.heap.size) (arr := ?_) (t := ?_) ?_ hb5 ?_; rotate_left 2; (focus (exact blk)); intro r0; have r0c0 := r0.cell 0; have r0f0 := r0.free 0; have r0c1 := r0.cell 1; have r0f1 := r0.free 1; have r0c2 := r0.cell 2; have r0f2 := r0.free 2; have r0c3 := r0.cell 3; have r0f3 := r0.free 3; have r0c4 := r0.cell 4; have r0f4 := r0.free 4; have r0l := r0.lt; simp at r0c0 r0c1 r0c2 r0c3 r0c4; refine Blk.thru (b := (w.heap.size + 1)) (arr := ?_) (t := ?_) ?_ hb5 ?_; rotate_left 2; (focus (exact blk)); intro r1; have r1c0 := r1.cell 0; have r1f0 := r1.free 0; have r1c1 := r1.cell 1; have r1f1 := r1.free 1; have r1c2 := r1.cell 2; have r1f2 := r1.free 2; have r1c3 := r1.cell 3; have r1f3 := r1.free 3; have r1c4 := r1.cell 4; have r1f4 := r1.free 4; have r1l := r1.lt; simp at r1c0 r1c1 r1c2 r1c3 r1c4; refine Blk.thru (b := (w.heap.size + 1 + 1)) (arr := ?_) (t := ?_) ?_ hb5 ?_; rotate_left 2; (focus (exact blk)); intro r2; have r2c0 := r2.cell 0; have r2f0 := r2.free 0; have r2c1 := r2.cell 1; have r2f1 := r2.free 1; have r2c2 := r2.cell 2; have r2f2 := r2.free 2; have r2c3 := r2.cell 3; have r2f3 := r2.free 3; have r2l := r2.lt; simp at r2c0 r2c1 r2c2 r2c3) | (go_at_call 18; (with_reducible refine (o_ended a c e d p _ (hx.later (by (exact kpt)) (Nat.le_refl _)) hc hM (hy.later (by (exact kpt)) (Nat.le_refl _)) hd hN h1 h2 b hs0 wd ad cp l (hrl.later (by (exact kpt)) (Nat.le_refl _)) hc4 hm4 HLK.out).mono ?_); rw [HLS.out, HLB.out]; rintro z w6 ⟨rfl, hb6⟩; refine Blk.thru (b := w.heap.size) (arr := ?_) (t := ?_) ?_ hb6 ?_; rotate_left 2; (focus (exact blk)); intro r0; have r0c0 := r0.cell 0; have r0f0 := r0.free 0; have r0c1 := r0.cell 1; have r0f1 := r0.free 1; have r0c2 := r0.cell 2; have r0f2 := r0.free 2; have r0c3 := r0.cell 3; have r0f3 := r0.free 3; have r0c4 := r0.cell 4; have r0f4 := r0.free 4; have r0l := r0.lt; simp at r0c0 r0c1 r0c2 r0c3 r0c4; refine Blk.thru (b := (w.heap.size + 1)) (arr := ?_) (t := ?_) ?_ hb6 ?_; rotate_left 2; (focus (exact blk)); intro r1; have r1c0 := r1.cell 0; have r1f0 := r1.free 0; have r1c1 := r1.cell 1; have r1f1 := r1.free 1; have r1c2 := r1.cell 2; have r1f2 := r1.free 2; have r1c3 := r1.cell 3; have r1f3 := r1.free 3; have r1c4 := r1.cell 4; have r1f4 := r1.free 4; have r1l := r1.lt; simp at r1c0 r1c1 r1c2 r1c3 r1c4; refine Blk.thru (b := (w.heap.size + 1 + 1)) (arr := ?_) (t := ?_) ?_ hb6 ?_; rotate_left 2; (focus (exact blk)); intro r2; have r2c0 := r2.cell 0; have r2f0 := r2.free 0; have r2c1 := r2.cell 1; have r2f1 := r2.free 1; have r2c2 := r2.cell 2; have r2f2 := r2.free 2; have r2c3 := r2.cell 3; have r2f3 := r2.free 3; have r2l := r2.lt; simp at r2c0 r2c1 r2c2 r2c3))
          refine at_world (S := fun V => Row Deed.cells 2 V.heap.size V ad l ∧ Kept w V) ⟨hrl.later (by (exact kpt)) (Nat.le_refl _), by (exact kpt)⟩ ?_
          clear r0 r1 r2 hrl r0c0 r0f0 r0c1 r0f1 r0c2 r0f2 r0c3 r0f3 r0c4 r0f4 r1c0 r1f0 r1c1 r1f1 r1c2 r1f2 r1c3 r1f3 r1c4 r1f4 r2c0 r2f0 r2c1 r2f1 r2c2 r2f2 r2c3 r2f3 r0l r1l r2l
          rintro V2 ⟨hrl, hk⟩
          obtain ⟨ln, hln⟩ : ∃ n, n = l.length := ⟨_, rfl⟩
          have hln1 : l.length = ln := hln.symm
          have hln2 : o.length = ln := by have := HLEN.out; omega
          clear hln hgt1 hgt2
          go_wp2
          go_loopw [129] (fun i wr => ∃ k : Nat, k ≤ ln ∧ i = .int .i64 k ∧ (∀ j (hj : j < l.length) (hj' : j < o.length), j < k → l[j].kind = o[j].kind ∧ (l[j].kind = 2 ∨ l[j].kind = 9 → l[j].n = o[j].n)) ∧ Row Deed.cells 2 wr.heap.size wr ad l ∧ Kept w wr) (fun i _ => ln - (intOf i).toNat)
          case atStart => exact ⟨0, Nat.zero_le _, rfl, fun j hj hj' h => absurd h (Nat.not_lt_zero _), hrl, hk⟩
          case round =>
            clear hrl hk
            obtain ⟨k, hkl, rfl, hpre, hrl, hk⟩ := hrel
            have HPRE := Lib.hid hpre
            clear hpre
            by_cases hlt : k < ln
            · have hkL : k < l.length := by omega
              have hkO : k < o.length := by omega
              obtain ⟨b1, o1, haL, hb1, g0, g1⟩ := Deed.row hrl k hkL
              obtain ⟨b2, o2, haO, hb2, j0, j1⟩ := Deed.row (ho.later hk (Nat.le_refl _)) k hkO
              obtain ⟨f1, f2⟩ := HQ3.out k hkL hkO (fun j hj => HPRE.out j (by omega) (by omega) hj)
              have HNX := Lib.hid (fun (h1 : l[k].kind = o[k].kind) (h2 : l[k].kind = 2 ∨ l[k].kind = 9 → l[k].n = o[k].n) => (show ∀ j (hj : j < l.length) (hj' : j < o.length), j < k + 1 → l[j].kind = o[j].kind ∧ (l[j].kind = 2 ∨ l[j].kind = 9 → l[j].n = o[j].n) from fun j hj hj' h => by
                rcases Nat.lt_or_ge j k with h' | h'
                · exact HPRE.out j hj hj' h'
                · obtain rfl : j = k := by omega
                  exact ⟨h1, h2⟩))
              obtain ⟨x, hx0⟩ : ∃ x, x = l[k] := ⟨_, rfl⟩
              obtain ⟨y, hy0⟩ : ∃ y, y = o[k] := ⟨_, rfl⟩
              rw [← hx0] at g0 g1 f1 f2 HNX
              rw [← hy0] at j0 j1 f1 f2 HNX
              clear hx0 hy0
              obtain ⟨xk, xn⟩ := x
              obtain ⟨yk, yn⟩ := y
              simp only at g0 g1 j0 j1 f1 f2 HNX
              have k0 : (0 : Int) ≤ (k : Int) := by omega
              have k1 : (k : Int) < (ln : Int) := by omega
              subst haL haO
              go_upto_region 22 with fail
              refine at_world (S := fun V => Blk V wr.heap.size #[.int .u8 xk, .int .i64 xn] 48 ∧ V.cell? ⟨b2, o2 + k * 2, none⟩ = some (.int .u8 yk) ∧ V.cell? ⟨b2, o2 + k * 2 + 1, none⟩ = some (.int .i64 yn) ∧ Row Deed.cells 2 V.heap.size V (some ⟨b1, o1, none⟩) l ∧ Kept w V) ⟨by (exact blk), ?_, ?_, hrl.later (by (exact kpt)) (Nat.le_refl _), by (exact kpt)⟩ ?_
              · (refine ((?_ : Kept wr _).cell (p := ⟨b2, o2 + k * 2, none⟩) hb2).trans j0; (exact kpt))
              · (refine ((?_ : Kept wr _).cell (p := ⟨b2, o2 + k * 2 + 1, none⟩) hb2).trans j1; (exact kpt))
              obtain ⟨nq, hnq⟩ : ∃ n, n = wr.heap.size := ⟨_, rfl⟩
              rw [← hnq]
              clear g0 g1 j0 j1 hnq hrl
              rintro V ⟨q0, j0, j1, hrl, hk'⟩
              clear hk
              by_cases hne : xk = yk
              · subst hne
                have f2' := f2 rfl
                clear f1 f2
                by_cases hk29 : xk = 2 ∨ xk = 9
                · by_cases hnn : xn = yn
                  · subst hnn
                    have HN2 := Lib.hid (HNX.out rfl (fun _ => rfl))
                    rcases hk29 with rfl | rfl
                    · have q0c0 := fun g : Later V => (q0.later g).cell 0
                      have q0f0 := fun g : Later V => (q0.later g).free 0
                      have q0c1 := fun g : Later V => (q0.later g).cell 1
                      have q0f1 := fun g : Later V => (q0.later g).free 1
                      have q0l := fun g : Later V => (q0.later g).lt
                      simp at q0c0 q0c1
                      have x0 := fun g : Later V => g.some j0
                      have x1 := fun g : Later V => g.some j1
                      refine Later.region (by kernel_rfl) (by kernel_rfl) ?_
                      repeat (first | go_big_quiet_skip | (go_big_quiet_want; go_big_quiet_op; first | go_big_quiet_on | (apply Exists.intro; refine ⟨fun g_ => ?_, ?_⟩; (focus (first | fail)); go_big_quiet_on)))
                      refine wpQuiet_nil ?_
                      intro g1
                      refine at_worldQ (S := fun V => Blk V nq #[.int .u8 2, .int .i64 xn] 48 ∧ V.cell? ⟨b2, o2 + k * 2, none⟩ = some (.int .u8 2) ∧ V.cell? ⟨b2, o2 + k * 2 + 1, none⟩ = some (.int .i64 xn) ∧ Row Deed.cells 2 V.heap.size V (some ⟨b1, o1, none⟩) l ∧ Kept w V) ⟨q0.later g1, g1.some j0, g1.some j1, hrl.later g1.ok (Nat.le_refl _), Kept.drop hk' g1.ok⟩ ?_
                      clear q0c0 q0f0 q0c1 q0f1 q0l x0 x1
                      clear q0 j0 j1 hrl hk'
                      rintro U ⟨q0, j0, j1, hrl, hk'⟩
                      go_upto_region 24 with fail
                      have q0c0 := fun g : Later U => (q0.later g).cell 0
                      have q0f0 := fun g : Later U => (q0.later g).free 0
                      have q0c1 := fun g : Later U => (q0.later g).cell 1
                      have q0f1 := fun g : Later U => (q0.later g).free 1
                      have q0l := fun g : Later U => (q0.later g).lt
                      simp at q0c0 q0c1
                      have x0 := fun g : Later U => g.some j0
                      have x1 := fun g : Later U => g.some j1
                      refine Later.region (by kernel_rfl) (by kernel_rfl) ?_
                      repeat (first | go_big_quiet_skip | (go_big_quiet_want; go_big_quiet_op; first | go_big_quiet_on | (apply Exists.intro; refine ⟨fun g_ => ?_, ?_⟩; (focus (first | fail)); go_big_quiet_on)))
                      refine wpQuiet_nil ?_
                      intro g2
                      go_wp2
                      go_roundw
                      case rel => exact ⟨k + 1, by omega, by go_num, HN2.out, hrl.later g2.ok (Nat.le_refl _), Kept.drop hk' g2.ok⟩
                      case measure => simp [intOf]; omega
                    · have q0c0 := fun g : Later V => (q0.later g).cell 0
                      have q0f0 := fun g : Later V => (q0.later g).free 0
                      have q0c1 := fun g : Later V => (q0.later g).cell 1
                      have q0f1 := fun g : Later V => (q0.later g).free 1
                      have q0l := fun g : Later V => (q0.later g).lt
                      simp at q0c0 q0c1
                      have x0 := fun g : Later V => g.some j0
                      have x1 := fun g : Later V => g.some j1
                      refine Later.region (by kernel_rfl) (by kernel_rfl) ?_
                      repeat (first | go_big_quiet_skip | (go_big_quiet_want; go_big_quiet_op; first | go_big_quiet_on | (apply Exists.intro; refine ⟨fun g_ => ?_, ?_⟩; (focus (first | fail)); go_big_quiet_on)))
                      refine wpQuiet_nil ?_
                      intro g1
                      refine at_worldQ (S := fun V => Blk V nq #[.int .u8 9, .int .i64 xn] 48 ∧ V.cell? ⟨b2, o2 + k * 2, none⟩ = some (.int .u8 9) ∧ V.cell? ⟨b2, o2 + k * 2 + 1, none⟩ = some (.int .i64 xn) ∧ Row Deed.cells 2 V.heap.size V (some ⟨b1, o1, none⟩) l ∧ Kept w V) ⟨q0.later g1, g1.some j0, g1.some j1, hrl.later g1.ok (Nat.le_refl _), Kept.drop hk' g1.ok⟩ ?_
                      clear q0c0 q0f0 q0c1 q0f1 q0l x0 x1
                      clear q0 j0 j1 hrl hk'
                      rintro U ⟨q0, j0, j1, hrl, hk'⟩
                      go_upto_region 24 with fail
                      have q0c0 := fun g : Later U => (q0.later g).cell 0
                      have q0f0 := fun g : Later U => (q0.later g).free 0
                      have q0c1 := fun g : Later U => (q0.later g).cell 1
                      have q0f1 := fun g : Later U => (q0.later g).free 1
                      have q0l := fun g : Later U => (q0.later g).lt
                      simp at q0c0 q0c1
                      have x0 := fun g : Later U => g.some j0
                      have x1 := fun g : Later U => g.some j1
                      refine Later.region (by kernel_rfl) (by kernel_rfl) ?_
                      repeat (first | go_big_quiet_skip | (go_big_quiet_want; go_big_quiet_op; first | go_big_quiet_on | (apply Exists.intro; refine ⟨fun g_ => ?_, ?_⟩; (focus (first | fail)); go_big_quiet_on)))
                      refine wpQuiet_nil ?_
                      intro g2
                      go_wp2
                      go_roundw
                      case rel => exact ⟨k + 1, by omega, by go_num, HN2.out, hrl.later g2.ok (Nat.le_refl _), Kept.drop hk' g2.ok⟩
                      case measure => simp [intOf]; omega
                  · have f3 := f2' hk29 hnn
                    have hnb : (xn != yn) = true := by simp [hnn]
                    rcases hk29 with rfl | rfl
                    · have q0c0 := fun g : Later V => (q0.later g).cell 0
                      have q0f0 := fun g : Later V => (q0.later g).free 0
                      have q0c1 := fun g : Later V => (q0.later g).cell 1
                      have q0f1 := fun g : Later V => (q0.later g).free 1
                      have q0l := fun g : Later V => (q0.later g).lt
                      simp at q0c0 q0c1
                      have x0 := fun g : Later V => g.some j0
                      have x1 := fun g : Later V => g.some j1
                      refine Later.region (by kernel_rfl) (by kernel_rfl) ?_
                      repeat (first | go_big_quiet_skip | (go_big_quiet_want; go_big_quiet_op; first | go_big_quiet_on | (apply Exists.intro; refine ⟨fun g_ => ?_, ?_⟩; (focus (first | fail)); go_big_quiet_on)))
                      refine wpQuiet_nil ?_
                      intro g1
                      refine at_worldQ (S := fun V => Blk V nq #[.int .u8 2, .int .i64 xn] 48 ∧ V.cell? ⟨b2, o2 + k * 2, none⟩ = some (.int .u8 2) ∧ V.cell? ⟨b2, o2 + k * 2 + 1, none⟩ = some (.int .i64 yn) ∧ Row Deed.cells 2 V.heap.size V (some ⟨b1, o1, none⟩) l ∧ Kept w V) ⟨q0.later g1, g1.some j0, g1.some j1, hrl.later g1.ok (Nat.le_refl _), Kept.drop hk' g1.ok⟩ ?_
                      clear q0c0 q0f0 q0c1 q0f1 q0l x0 x1
                      clear q0 j0 j1 hrl hk'
                      rintro U ⟨q0, j0, j1, hrl, hk'⟩
                      go_upto_region 24 with fail
                      have q0c0 := fun g : Later U => (q0.later g).cell 0
                      have q0f0 := fun g : Later U => (q0.later g).free 0
                      have q0c1 := fun g : Later U => (q0.later g).cell 1
                      have q0f1 := fun g : Later U => (q0.later g).free 1
                      have q0l := fun g : Later U => (q0.later g).lt
                      simp at q0c0 q0c1
                      have x0 := fun g : Later U => g.some j0
                      have x1 := fun g : Later U => g.some j1
                      refine Later.region (by kernel_rfl) (by kernel_rfl) ?_
                      repeat (first | go_big_quiet_skip | (go_big_quiet_want; go_big_quiet_op; first | go_big_quiet_on | (apply Exists.intro; refine ⟨fun g_ => ?_, ?_⟩; (focus (first | fail)); go_big_quiet_on)))
                      refine wpQuiet_nil ?_
                      intro g2
                      refine at_worldQ (S := fun V => Blk V nq #[.int .u8 2, .int .i64 xn] 48 ∧ V.cell? ⟨b2, o2 + k * 2, none⟩ = some (.int .u8 2) ∧ V.cell? ⟨b2, o2 + k * 2 + 1, none⟩ = some (.int .i64 yn) ∧ Row Deed.cells 2 V.heap.size V (some ⟨b1, o1, none⟩) l ∧ Kept w V) ⟨q0.later g2, g2.some j0, g2.some j1, hrl.later g2.ok (Nat.le_refl _), Kept.drop hk' g2.ok⟩ ?_
                      clear q0c0 q0f0 q0c1 q0f1 q0l x0 x1
                      clear q0 j0 j1 hrl hk'
                      rintro T ⟨q0, j0, j1, hrl, hk'⟩
                      go_upto_region 25 with fail
                      have q0c0 := fun g : Later T => (q0.later g).cell 0
                      have q0f0 := fun g : Later T => (q0.later g).free 0
                      have q0c1 := fun g : Later T => (q0.later g).cell 1
                      have q0f1 := fun g : Later T => (q0.later g).free 1
                      have q0l := fun g : Later T => (q0.later g).lt
                      simp at q0c0 q0c1
                      have x0 := fun g : Later T => g.some j0
                      have x1 := fun g : Later T => g.some j1
                      refine Later.region (by kernel_rfl) (by kernel_rfl) ?_
                      repeat (first | go_big_quiet_skip | (go_big_quiet_want; go_big_quiet_op; first | go_big_quiet_on | (apply Exists.intro; refine ⟨fun g_ => ?_, ?_⟩; (focus (first | fail)); go_big_quiet_on)))
                      refine wpQuiet_nil ?_
                      intro g3
                      have hkf := Kept.drop hk' g3.ok
                      go_wp2
                      go_ret
                      exact ⟨rfl, by (exact kpt)⟩
                    · have q0c0 := fun g : Later V => (q0.later g).cell 0
                      have q0f0 := fun g : Later V => (q0.later g).free 0
                      have q0c1 := fun g : Later V => (q0.later g).cell 1
                      have q0f1 := fun g : Later V => (q0.later g).free 1
                      have q0l := fun g : Later V => (q0.later g).lt
                      simp at q0c0 q0c1
                      have x0 := fun g : Later V => g.some j0
                      have x1 := fun g : Later V => g.some j1
                      refine Later.region (by kernel_rfl) (by kernel_rfl) ?_
                      repeat (first | go_big_quiet_skip | (go_big_quiet_want; go_big_quiet_op; first | go_big_quiet_on | (apply Exists.intro; refine ⟨fun g_ => ?_, ?_⟩; (focus (first | fail)); go_big_quiet_on)))
                      refine wpQuiet_nil ?_
                      intro g1
                      refine at_worldQ (S := fun V => Blk V nq #[.int .u8 9, .int .i64 xn] 48 ∧ V.cell? ⟨b2, o2 + k * 2, none⟩ = some (.int .u8 9) ∧ V.cell? ⟨b2, o2 + k * 2 + 1, none⟩ = some (.int .i64 yn) ∧ Row Deed.cells 2 V.heap.size V (some ⟨b1, o1, none⟩) l ∧ Kept w V) ⟨q0.later g1, g1.some j0, g1.some j1, hrl.later g1.ok (Nat.le_refl _), Kept.drop hk' g1.ok⟩ ?_
                      clear q0c0 q0f0 q0c1 q0f1 q0l x0 x1
                      clear q0 j0 j1 hrl hk'
                      rintro U ⟨q0, j0, j1, hrl, hk'⟩
                      go_upto_region 24 with fail
                      have q0c0 := fun g : Later U => (q0.later g).cell 0
                      have q0f0 := fun g : Later U => (q0.later g).free 0
                      have q0c1 := fun g : Later U => (q0.later g).cell 1
                      have q0f1 := fun g : Later U => (q0.later g).free 1
                      have q0l := fun g : Later U => (q0.later g).lt
                      simp at q0c0 q0c1
                      have x0 := fun g : Later U => g.some j0
                      have x1 := fun g : Later U => g.some j1
                      refine Later.region (by kernel_rfl) (by kernel_rfl) ?_
                      repeat (first | go_big_quiet_skip | (go_big_quiet_want; go_big_quiet_op; first | go_big_quiet_on | (apply Exists.intro; refine ⟨fun g_ => ?_, ?_⟩; (focus (first | fail)); go_big_quiet_on)))
                      refine wpQuiet_nil ?_
                      intro g2
                      refine at_worldQ (S := fun V => Blk V nq #[.int .u8 9, .int .i64 xn] 48 ∧ V.cell? ⟨b2, o2 + k * 2, none⟩ = some (.int .u8 9) ∧ V.cell? ⟨b2, o2 + k * 2 + 1, none⟩ = some (.int .i64 yn) ∧ Row Deed.cells 2 V.heap.size V (some ⟨b1, o1, none⟩) l ∧ Kept w V) ⟨q0.later g2, g2.some j0, g2.some j1, hrl.later g2.ok (Nat.le_refl _), Kept.drop hk' g2.ok⟩ ?_
                      clear q0c0 q0f0 q0c1 q0f1 q0l x0 x1
                      clear q0 j0 j1 hrl hk'
                      rintro T ⟨q0, j0, j1, hrl, hk'⟩
                      go_upto_region 25 with fail
                      have q0c0 := fun g : Later T => (q0.later g).cell 0
                      have q0f0 := fun g : Later T => (q0.later g).free 0
                      have q0c1 := fun g : Later T => (q0.later g).cell 1
                      have q0f1 := fun g : Later T => (q0.later g).free 1
                      have q0l := fun g : Later T => (q0.later g).lt
                      simp at q0c0 q0c1
                      have x0 := fun g : Later T => g.some j0
                      have x1 := fun g : Later T => g.some j1
                      refine Later.region (by kernel_rfl) (by kernel_rfl) ?_
                      repeat (first | go_big_quiet_skip | (go_big_quiet_want; go_big_quiet_op; first | go_big_quiet_on | (apply Exists.intro; refine ⟨fun g_ => ?_, ?_⟩; (focus (first | fail)); go_big_quiet_on)))
                      refine wpQuiet_nil ?_
                      intro g3
                      have hkf := Kept.drop hk' g3.ok
                      go_wp2
                      go_ret
                      exact ⟨rfl, by (exact kpt)⟩
                · have HN2 := Lib.hid (HNX.out rfl (fun h => absurd h hk29))
                  have z2 : ¬ xk = 2 := fun h => hk29 (.inl h)
                  have z9 : ¬ xk = 9 := fun h => hk29 (.inr h)
                  have z2b : (xk == 2) = false := by simp [z2]
                  have z9b : (xk == 9) = false := by simp [z9]
                  clear hk29
                  have q0c0 := fun g : Later V => (q0.later g).cell 0
                  have q0f0 := fun g : Later V => (q0.later g).free 0
                  have q0c1 := fun g : Later V => (q0.later g).cell 1
                  have q0f1 := fun g : Later V => (q0.later g).free 1
                  have q0l := fun g : Later V => (q0.later g).lt
                  simp at q0c0 q0c1
                  have x0 := fun g : Later V => g.some j0
                  have x1 := fun g : Later V => g.some j1
                  refine Later.region (by kernel_rfl) (by kernel_rfl) ?_
                  repeat (first | go_big_quiet_skip | (go_big_quiet_want; go_big_quiet_op; first | go_big_quiet_on | (apply Exists.intro; refine ⟨fun g_ => ?_, ?_⟩; (focus (first | fail)); go_big_quiet_on)))
                  refine wpQuiet_nil ?_
                  intro g1
                  refine at_worldQ (S := fun V => Blk V nq #[.int .u8 xk, .int .i64 xn] 48 ∧ V.cell? ⟨b2, o2 + k * 2, none⟩ = some (.int .u8 xk) ∧ V.cell? ⟨b2, o2 + k * 2 + 1, none⟩ = some (.int .i64 yn) ∧ Row Deed.cells 2 V.heap.size V (some ⟨b1, o1, none⟩) l ∧ Kept w V) ⟨q0.later g1, g1.some j0, g1.some j1, hrl.later g1.ok (Nat.le_refl _), Kept.drop hk' g1.ok⟩ ?_
                  clear q0c0 q0f0 q0c1 q0f1 q0l x0 x1
                  clear q0 j0 j1 hrl hk'
                  rintro U ⟨q0, j0, j1, hrl, hk'⟩
                  go_upto_region 24 with fail
                  have q0c0 := fun g : Later U => (q0.later g).cell 0
                  have q0f0 := fun g : Later U => (q0.later g).free 0
                  have q0c1 := fun g : Later U => (q0.later g).cell 1
                  have q0f1 := fun g : Later U => (q0.later g).free 1
                  have q0l := fun g : Later U => (q0.later g).lt
                  simp at q0c0 q0c1
                  have x0 := fun g : Later U => g.some j0
                  have x1 := fun g : Later U => g.some j1
                  refine Later.region (by kernel_rfl) (by kernel_rfl) ?_
                  repeat (first | go_big_quiet_skip | (go_big_quiet_want; go_big_quiet_op; first | go_big_quiet_on | (apply Exists.intro; refine ⟨fun g_ => ?_, ?_⟩; (focus (first | fail)); go_big_quiet_on)))
                  refine wpQuiet_nil ?_
                  intro g2
                  go_wp2
                  go_roundw
                  case rel => exact ⟨k + 1, by omega, by go_num, HN2.out, hrl.later g2.ok (Nat.le_refl _), Kept.drop hk' g2.ok⟩
                  case measure => simp [intOf]; omega
              · have f1' := f1 hne
                have hneb : (xk != yk) = true := by simp [hne]
                have q0c0 := fun g : Later V => (q0.later g).cell 0
                have q0f0 := fun g : Later V => (q0.later g).free 0
                have q0c1 := fun g : Later V => (q0.later g).cell 1
                have q0f1 := fun g : Later V => (q0.later g).free 1
                have q0l := fun g : Later V => (q0.later g).lt
                simp at q0c0 q0c1
                have x0 := fun g : Later V => g.some j0
                have x1 := fun g : Later V => g.some j1
                refine Later.region (by kernel_rfl) (by kernel_rfl) ?_
                repeat (first | go_big_quiet_skip | (go_big_quiet_want; go_big_quiet_op; first | go_big_quiet_on | (apply Exists.intro; refine ⟨fun g_ => ?_, ?_⟩; (focus (first | fail)); go_big_quiet_on)))
                refine wpQuiet_nil ?_
                intro g1
                refine at_worldQ (S := fun V => Blk V nq #[.int .u8 xk, .int .i64 xn] 48 ∧ V.cell? ⟨b2, o2 + k * 2, none⟩ = some (.int .u8 yk) ∧ V.cell? ⟨b2, o2 + k * 2 + 1, none⟩ = some (.int .i64 yn) ∧ Row Deed.cells 2 V.heap.size V (some ⟨b1, o1, none⟩) l ∧ Kept w V) ⟨q0.later g1, g1.some j0, g1.some j1, hrl.later g1.ok (Nat.le_refl _), Kept.drop hk' g1.ok⟩ ?_
                clear q0c0 q0f0 q0c1 q0f1 q0l x0 x1
                clear q0 j0 j1 hrl hk'
                rintro U ⟨q0, j0, j1, hrl, hk'⟩
                go_upto_region 23 with fail
                have q0c0 := fun g : Later U => (q0.later g).cell 0
                have q0f0 := fun g : Later U => (q0.later g).free 0
                have q0c1 := fun g : Later U => (q0.later g).cell 1
                have q0f1 := fun g : Later U => (q0.later g).free 1
                have q0l := fun g : Later U => (q0.later g).lt
                simp at q0c0 q0c1
                have x0 := fun g : Later U => g.some j0
                have x1 := fun g : Later U => g.some j1
                refine Later.region (by kernel_rfl) (by kernel_rfl) ?_
                repeat (first | go_big_quiet_skip | (go_big_quiet_want; go_big_quiet_op; first | go_big_quiet_on | (apply Exists.intro; refine ⟨fun g_ => ?_, ?_⟩; (focus (first | fail)); go_big_quiet_on)))
                refine wpQuiet_nil ?_
                intro g2
                have hkf := Kept.drop hk' g2.ok
                go_wp2
                go_ret
                exact ⟨rfl, by (exact kpt)⟩
            · obtain rfl : ln = k := by omega
              have k1 : ¬ (ln : Int) < (ln : Int) := by omega
              go_wp2
              go_ret
              exact ⟨rfl, by (exact kpt)⟩
      · have n3b : (ES != ship) = true := by simp [n3]
        go_wp2_with (first | (go_at_call 18; (with_reducible refine (o_ended a c e d p _ (hx.later (by (exact kpt)) (Nat.le_refl _)) hc hM (hy.later (by (exact kpt)) (Nat.le_refl _)) hd hN h1 h2 b hs0 wd oa oc o (ho.later (by (exact kpt)) (Nat.le_refl _)) hol hom HOK.out).mono ?_); rw [HES.out, HEB.out]; rintro z w5 ⟨rfl, hb5⟩; refine Blk.thru (b := w.heap.size) (arr := ?_) (t := ?_) ?_ hb5 ?_; rotate_left 2; (focus (exact blk)); intro r0; have r0c0 := r0.cell 0; have r0f0 := r0.free 0; have r0c1 := r0.cell 1; have r0f1 := r0.free 1; have r0c2 := r0.cell 2; have r0f2 := r0.free 2; have r0c3 := r0.cell 3; have r0f3 := r0.free 3; have r0c4 := r0.cell 4; have r0f4 := r0.free 4; have r0l := r0.lt; simp at r0c0 r0c1 r0c2 r0c3 r0c4; refine Blk.thru (b := (w.heap.size + 1)) (arr := ?_) (t := ?_) ?_ hb5 ?_; rotate_left 2; (focus (exact blk)); intro r1; have r1c0 := r1.cell 0; have r1f0 := r1.free 0; have r1c1 := r1.cell 1; have r1f1 := r1.free 1; have r1c2 := r1.cell 2; have r1f2 := r1.free 2; have r1c3 := r1.cell 3; have r1f3 := r1.free 3; have r1c4 := r1.cell 4; have r1f4 := r1.free 4; have r1l := r1.lt; simp at r1c0 r1c1 r1c2 r1c3 r1c4; refine Blk.thru (b := (w.heap.size + 1 + 1)) (arr := ?_) (t := ?_) ?_ hb5 ?_; rotate_left 2; (focus (exact blk)); intro r2; have r2c0 := r2.cell 0; have r2f0 := r2.free 0; have r2c1 := r2.cell 1; have r2f1 := r2.free 1; have r2c2 := r2.cell 2; have r2f2 := r2.free 2; have r2c3 := r2.cell 3; have r2f3 := r2.free 3; have r2l := r2.lt; simp at r2c0 r2c1 r2c2 r2c3) | (go_at_call 18; (with_reducible refine (o_ended a c e d p _ (hx.later (by (exact kpt)) (Nat.le_refl _)) hc hM (hy.later (by (exact kpt)) (Nat.le_refl _)) hd hN h1 h2 b hs0 wd ad cp l (hrl.later (by (exact kpt)) (Nat.le_refl _)) hc4 hm4 HLK.out).mono ?_); rw [HLS.out, HLB.out]; rintro z w6 ⟨rfl, hb6⟩; refine Blk.thru (b := w.heap.size) (arr := ?_) (t := ?_) ?_ hb6 ?_; rotate_left 2; (focus (exact blk)); intro r0; have r0c0 := r0.cell 0; have r0f0 := r0.free 0; have r0c1 := r0.cell 1; have r0f1 := r0.free 1; have r0c2 := r0.cell 2; have r0f2 := r0.free 2; have r0c3 := r0.cell 3; have r0f3 := r0.free 3; have r0c4 := r0.cell 4; have r0f4 := r0.free 4; have r0l := r0.lt; simp at r0c0 r0c1 r0c2 r0c3 r0c4; refine Blk.thru (b := (w.heap.size + 1)) (arr := ?_) (t := ?_) ?_ hb6 ?_; rotate_left 2; (focus (exact blk)); intro r1; have r1c0 := r1.cell 0; have r1f0 := r1.free 0; have r1c1 := r1.cell 1; have r1f1 := r1.free 1; have r1c2 := r1.cell 2; have r1f2 := r1.free 2; have r1c3 := r1.cell 3; have r1f3 := r1.free 3; have r1c4 := r1.cell 4; have r1f4 := r1.free 4; have r1l := r1.lt; simp at r1c0 r1c1 r1c2 r1c3 r1c4; refine Blk.thru (b := (w.heap.size + 1 + 1)) (arr := ?_) (t := ?_) ?_ hb6 ?_; rotate_left 2; (focus (exact blk)); intro r2; have r2c0 := r2.cell 0; have r2f0 := r2.free 0; have r2c1 := r2.cell 1; have r2f1 := r2.free 1; have r2c2 := r2.cell 2; have r2f2 := r2.free 2; have r2c3 := r2.cell 3; have r2f3 := r2.free 3; have r2l := r2.lt; simp at r2c0 r2c1 r2c2 r2c3))
        go_ret
        exact ⟨rfl, by (exact kpt)⟩
theorem law_MastPlanned (a : Option Addr) (c : Nat) (e : Option Addr) (d : Nat) (p : Port) (w : World) (hx : Row Axis.cells 2 w.heap.size w a p.axes) (hc : p.axes.length ≤ c) (hM : c ≤ maxLen) (hy : Row Span.cells 2 w.heap.size w e p.pulls) (hd : p.pulls.length ≤ d) (hN : d ≤ maxLen) (b : Berth) (hs0 : 0 ≤ b.ship) (wd : Wind) (ship : Int) (hsh : 0 ≤ ship ∧ ship ≤ 255) (oa : Option Addr) (oc : Nat) (o : List Deed) (ho : Row Deed.cells 2 w.heap.size w oa o) (hol : o.length ≤ oc) (hom : oc ≤ maxLen) (hok : ∀ x ∈ o, 0 ≤ x.kind ∧ x.kind ≤ 255) : Calls Tryz.prog 4 #[.agg #[.slice a p.axes.length c, .int .i64 p.people, .int .i64 p.most, .slice e p.pulls.length d, .int .i64 p.cross], .agg #[.int .u8 b.ship, .int .i64 b.axis, .int .i64 b.held, .bool b.wire, .bool b.opn], .agg #[.int .i64 wd.xlo, .int .i64 wd.xhi, .int .i64 wd.ylo, .int .i64 wd.yhi], .int .u8 ship, .slice oa o.length oc] w fun z w' => z = .returned (.bool true) ∧ Kept w w' := by
  cases hg : wideB p
  · have hn := wide_lenO hg
    by_cases h30 : 30 < o.length
    · exact law_MastPlanned_early a c e d p w hx hc hM hy hd hN b hs0 wd ship hsh oa oc o ho hol hom hok (.inr ⟨hg, .inl h30⟩)
    · by_cases hcb : checkBerth p b = 0
      · cases hw : windB wd
        · exact law_MastPlanned_early a c e d p w hx hc hM hy hd hN b hs0 wd ship hsh oa oc o ho hol hom hok (.inr ⟨hg, .inr ⟨by omega, .inr ⟨hcb, hw⟩⟩⟩)
        · by_cases h5 : 5 < ship
          · exact law_MastPlanned_ship a c e d p w hx hc hM hy hd hN b hs0 wd ship hsh oa oc o ho hol hom hok (by omega) (by omega) hg (by omega) hcb hw h5
          · exact law_MastPlanned_ok a c e d p w hx hc hM hy hd hN b hs0 wd ship hsh oa oc o ho hol hom hok (by omega) (by omega) hg (by omega) hcb hw h5
      · exact law_MastPlanned_early a c e d p w hx hc hM hy hd hN b hs0 wd ship hsh oa oc o ho hol hom hok (.inr ⟨hg, .inr ⟨by omega, .inl hcb⟩⟩)
  · exact law_MastPlanned_early a c e d p w hx hc hM hy hd hN b hs0 wd ship hsh oa oc o ho hol hom hok (.inl hg)
end Go.Proofs.YtacbkbilbmkjnaaGreat

/-
  Acts that come in. No program in sight.
-/
namespace Go.Proofs.YtacbkbilbmkjnaaGreat
open Go.RowKit Go.ChangeShapes Go.WideShapes Bal Bal.Trim Bal.Mast
set_option linter.unusedVariables false
theorem deed_of_leaves {cs : List Value} (h : LeavesOk [.int .u8, .int .i64] cs) : ∃ x : Deed, cs = Deed.cells x ∧ 0 ≤ x.kind ∧ x.kind ≤ 255 := by
  obtain ⟨hl, h⟩ := h
  match cs, hl with
  | [v0, v1], _ =>
    obtain ⟨_, e0, n0, rfl, w0⟩ := h 0 (.int .u8) rfl; simp at e0; subst e0
    obtain ⟨_, e1, n1, rfl, w1⟩ := h 1 (.int .i64) rfl; simp at e1; subst e1
    exact ⟨⟨n0, n1⟩, rfl, (u8_bd w0).1, (u8_bd w0).2⟩
end Go.Proofs.YtacbkbilbmkjnaaGreat

/-
  MastPlanned, the statement: for every input the call returns true and leaves the input alone.
-/
namespace Go.Proofs.YtacbkbilbmkjnaaGreat.mastPlanned
open Go.ChangeShapes Go.WideShapes Go.ChangeAt Go.RowKit Bal Bal.Trim Bal.Mast
open Go.ChangeMaps (open_string shut_string)
set_option linter.unusedVariables false

theorem own : ownKnob Tryz.prog.godebug = none := by kernel_rfl
theorem laidOut : laidOutB Tryz.prog = true := by kernel_rfl

set_option maxRecDepth 100000 in
theorem lifted (os : Os) (started : os.Started) (H : Type) (enc : TypeId × Value → H) :
    ReturnsInHanded {} Tryz.checked os 4 .any (Rows.mastPlannedSpec.pre6 enc Tryz.prog Tryz.f4 Rows.mastPlannedRow.domain false) (Rows.mastPlannedSpec.post enc Tryz.prog Tryz.f4 false true false false) := by
  refine returnsInHanded_of_change (C := Tryz.checked) own started (by kernel_rfl) Tryz.func4
    (ChangeSpec.witness6 (enc := enc) (C := Tryz.checked) false ⟨#[], #[.agg #[.slice none 0 0, .int .i64 0, .int .i64 0, .slice none 0 0, .int .i64 0], .agg #[.int .u8 0, .int .i64 0, .int .i64 0, .bool false, .bool false], .agg #[.int .i64 0, .int .i64 0, .int .i64 0, .int .i64 0], .int .u8 0, .slice none 0 0], []⟩ 8 (by kernel_rfl) (by kernel_rfl) (by kernel_rfl) (by kernel_rfl)) ?_
  intro W base args ds gs before hval0 hW hcnd _
  have hval : ∀ (j : Nat) t v, Tryz.f4.params[j]? = some t → args[j]? = some v → Value.okWide Tryz.prog W .any base t v := hval0
  have hW' := hW
  obtain ⟨p, q, hA0, hV, rfl, hfz, hnd⟩ := hW
  have hA : DataW.TrodAll enc Tryz.prog W 0 (fun _ => true) true Tryz.f4.params.toList args.toList ds p := hA0
  rw [Tryz.params4] at hA hval
  obtain ⟨v0, vs0, d0, ds0, p0, q0, hargs, rfl, rfl, h0, r0⟩ := trodAll_cons hA
  obtain ⟨v1, vs1, d1, ds1, p1, q1, rfl, rfl, rfl, h1, r1⟩ := trodAll_cons r0
  obtain ⟨v2, vs2, d2, ds2, p2, q2, rfl, rfl, rfl, h2, r2⟩ := trodAll_cons r1
  obtain ⟨v3, vs3, d3, ds3, p3, q3, rfl, rfl, rfl, h3, r3⟩ := trodAll_cons r2
  obtain ⟨v4, vs4, d4, ds4, p4, q4, rfl, rfl, rfl, h4, r4⟩ := trodAll_cons r3
  obtain ⟨rfl, rfl, rfl⟩ := trodAll_nil r4
  obtain rfl : args = #[v0, v1, v2, v3, v4] := by cases args; simp_all
  obtain ⟨rfl, rfl⟩ := trodVars_none hV
  have k0 := h0
  have lt0 : ∀ x ∈ p0, x.block < W.heap.size := by obtain ⟨m, hm⟩ := k0; exact DataW.trod_lt m _ _ _ hm
  obtain ⟨pa, pc, pxs, ppe, pmo, pb, pd, pys, pcr, rfl, px1, px2, px3, px4, py1, py2, py3, py4⟩ := open_port (hval 0 25 v0 rfl rfl) h0
  have k1 := h1
  have lt1 : ∀ x ∈ p1, x.block < W.heap.size := by obtain ⟨m, hm⟩ := k1; exact DataW.trod_lt m _ _ _ hm
  obtain ⟨a1, rfl, wf1⟩ := open_agg (n := 5) (fun _ h => Berth.of_leaves h) Tryz.underlying37 (by kernel_rfl) (hval 1 37 v1 rfl rfl) h1
  have k2 := h2
  have lt2 : ∀ x ∈ p2, x.block < W.heap.size := by obtain ⟨m, hm⟩ := k2; exact DataW.trod_lt m _ _ _ hm
  obtain ⟨a2, rfl, wf2⟩ := open_agg (n := 5) (fun _ h => Wind.of_leaves h) Tryz.underlying39 (by kernel_rfl) (hval 2 39 v2 rfl rfl) h2
  obtain ⟨a3, rfl, rfl, rfl, w3⟩ := open_int Tryz.underlying5 (hval 3 5 v3 rfl rfl) h3
  have k4 := h4
  have lt4 : ∀ x ∈ p4, x.block < W.heap.size := by obtain ⟨m, hm⟩ := k4; exact DataW.trod_lt m _ _ _ hm
  obtain ⟨a4, len4, cap4, rfl⟩ := okWide_slice Tryz.underlying40 (hval 4 40 v4 rfl rfl)
  obtain ⟨fuel4, hf4⟩ := h4
  obtain ⟨b4, c4, xs4, e4, hl4, hm4, row4, wf4, z4⟩ := open_typed (n := 4) (fun _ h => deed_of_leaves h) Tryz.underlying40 (by kernel_rfl) (by kernel_rfl) (by decide) hf4
  simp [Value.cells] at e4
  obtain ⟨rfl, rfl, rfl⟩ := e4
  clear hA0 hval0
  refine (law_MastPlanned pa pc pb pd ⟨pxs, ppe, pmo, pys, pcr⟩ W px1 px2 px3 py1 py2 py3 a1 wf1.1 a2 a3 (bounds_u8 w3) _ _ xs4 row4 hl4 hm4 (fun s hs => wf4 s hs)).mono fun e W' ⟨he, bel⟩ => ?_
  subst he
  exact ⟨_, rfl, _, _, _, [], _, [], hW', trodAll_mk1 (shut_bool Tryz.underlying4 _), (trodAll_cons_mk (Below.trod laidOut (by kernel_rfl) (of_decide_eq_true (by kernel_rfl)) k0 bel lt0) (trodAll_cons_mk (Below.trod laidOut (by kernel_rfl) (of_decide_eq_true (by kernel_rfl)) k1 bel lt1) (trodAll_cons_mk (Below.trod laidOut (by kernel_rfl) (of_decide_eq_true (by kernel_rfl)) k2 bel lt2) (trodAll_cons_mk (shut_int Tryz.underlying5 w3) (trodAll_cons_mk (Below.trod laidOut (by kernel_rfl) (of_decide_eq_true (by kernel_rfl)) k4 bel lt4) trodAll_mk0))))), rfl, bel.frame _, fun h => by cases h⟩

theorem joined : joinedFacts Tryz.prog 4 Tryz.f4 Rows.mastPlannedSpec Rows.mastPlannedRow = true := by
  unfold joinedFacts
  rw [mayEnter_is, liftsFinal_is, make_is]
  kernel_rfl
theorem over : Rows.mastPlannedRow.holds Tryz.pinned (OpenSpec.ofChange Rows.mastPlannedSpec) :=
  OpenClaim.holds_of_wide 4 Tryz.f4 rfl rfl rfl rfl rfl rfl rfl ⟨rfl, rfl, rfl, rfl, rfl⟩ rfl rfl rfl rfl rfl (by kernel_rfl) Tryz.func4 joined
    (of_decide_eq_true (by kernel_rfl)) (by unfold Func.isWrapper; first | (rw [if_pos (by decide +kernel)]; kernel_rfl) | (rw [if_neg (by decide +kernel)]; exact ⟨rfl, rfl⟩))
    (fun os started H enc _ => lifted os started H enc)
end Go.Proofs.YtacbkbilbmkjnaaGreat.mastPlanned

namespace Go.Proofs.YtacbkbilbmkjnaaGreat
theorem mastPlanned_holds : Rows.MastPlannedSaid := mastPlanned.over
#print axioms mastPlanned_holds
end Go.Proofs.YtacbkbilbmkjnaaGreat
