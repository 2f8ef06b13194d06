/-
  MastKept, the statement: for every input the call returns true and leaves the input alone.
-/
import Derived.Test.YtacbkbilbmkjnaaGreatMastBaseZM
import Derived.Test.YtacbkbilbmkjnaaGreatRows
set_option linter.unusedVariables false
set_option linter.unusedSimpArgs false
namespace Bal.Mast
open Bal.Trim
set_option linter.unusedVariables false
theorem getD_at {α : Type} {l : List α} {i : Nat} {d : α} (h : i < l.length) : l.getD i d = l[i] := by
  rw [List.getD_eq_getElem?_getD, List.getElem?_eq_getElem h]; rfl
/-! ### Winds -/
/-! ### Turned sheds -/
/-! ### Manned lines -/
end Bal.Mast

/-
  What the outright statements of chapter 7 say of acts, steps and plans: the plain side. No program in sight.
-/
namespace Bal.Mast
open Bal.Trim
set_option linter.unusedVariables false
/-! ### What is kept -/
theorem doE_not {p : Port} {b : Berth} {s : Step} (h : doE p b s ≠ 0) : doB p b s = noBerth ∧ ((0 < doRule p b s ∧ doE p b s = 74) ∨ (doRule p b s = 0 ∧ doE p b s ≠ 74)) := by
  refine ⟨by unfold doB; rw [if_neg h], ?_⟩
  have hp : 0 ≤ tryR p (dockOf p b s) s.act.kind := firstNot_pos
  unfold doE doRule at *
  by_cases h1 : doErr p b s = 0
  · simp only [if_pos h1] at h ⊢
    by_cases h2 : tryR p (dockOf p b s) s.act.kind = 0
    · rw [if_pos h2] at h; exact absurd rfl h
    · rw [if_neg h2]; left; omega
  · simp only [if_neg h1]
    right
    refine ⟨by simp, ?_⟩
    unfold doErr checkBerth
    split
    · split
      · split <;> omega
      · omega
    · split
      · split <;> omega
      · omega
theorem doE_rule {p : Port} {b : Berth} {s : Step} (h : doE p b s = 0) : doRule p b s = 0 := by
  obtain ⟨h1, h2⟩ := doE_zero.1 h
  unfold doRule; rw [if_pos h1, h2]
structure KeptLaw (p : Port) (b c : Berth) (s : Step) : Prop where
  other : c ≠ b
  walk : c.ship = 4 ∨ b.ship = 4 → (b.held ≠ 0 ∧ c.held = b.held ∧ c.opn = true ∧ b.opn = true ∧ c.axis = b.axis ∧ b.wire = false ∧ c.wire = false) ∧ (calmS s.wind (p.axes.getD b.axis.toNat default) p.cross = true ∨ s.act.kind = 13)
  axis : c.axis ≠ b.axis → b.opn = false ∧ s.act.kind = 9
  wire : b.wire = true → c.held ≠ 0
  lined : c.wire = true → c.ship = 2
  held : c.held = 0 ∨ (total (needs p.most p.pulls) ≤ c.held ∧ c.held ≤ p.people)
theorem kept_law {p : Port} {b : Berth} {s : Step} (h0 : 0 ≤ b.ship) (h : doE p b s = 0) : KeptLaw p b (doB p b s) s := by
  have hv := kept_valid h0 h
  have hnp : total (needs p.most p.pulls) ≤ needP p := by unfold needP; omega
  have hheld : (doB p b s).held = 0 ∨ (total (needs p.most p.pulls) ≤ (doB p b s).held ∧ (doB p b s).held ≤ p.people) := by
    have := (berth_parts hv).2.2.1
    omega
  rw [doB_done h] at hheld hv ⊢
  obtain ⟨he, ht⟩ := doE_zero.1 h
  obtain ⟨hp, hb, _, k1, k2⟩ := doErr_parts he
  have hnd := needP_bd hp
  obtain ⟨h5, ⟨ha1, ha2⟩, hh, hs⟩ := berth_parts hb
  have hall := firstNot_zero ht
  obtain ⟨⟨t, n⟩, wd⟩ := s
  obtain ⟨sh, ax, he', wi, op⟩ := b
  clear ht he h
  refine ⟨?_, ?_, ?_, ?_, ?_, hheld⟩ <;> clear hheld hv <;> simp only [dockOf] at * <;>
  rcases ship_parts hs h5 h0 with ⟨e, q⟩ | ⟨e, q⟩ | ⟨e, q⟩ | ⟨e, q⟩ | ⟨e, q⟩ | ⟨e, q⟩ <;> (simp only at e q; subst e) <;>
  rcases (by omega : t = 1 ∨ t = 2 ∨ t = 3 ∨ t = 4 ∨ t = 5 ∨ t = 6 ∨ t = 7 ∨ t = 8 ∨ t = 9 ∨ t = 10 ∨ t = 11 ∨ t = 12 ∨ t = 13) with rfl | rfl | rfl | rfl | rfl | rfl | rfl | rfl | rfl | rfl | rfl | rfl | rfl <;>
  first
  | (exfalso; simp [rulesOf, away, reached, tied, lined, masted, housed, walking, fast, still] at hall; done)
  | (simp [rulesOf, away, reached, tied, lined, masted, housed, walking, fast, still, loose, bare, gripped, crew, elsewhere, shut, wired, opened, quiet, inB_iff] at hall
     simp [doneB, toShip, fast, masted, housed, hall] <;> first | omega | (simp_all; done) | (simp_all; omega))
/-! ### Plans -/
theorem pv_len {A : Type} {B : Nat} {code : A → Nat} (hB : 2 ≤ B) (l : List A) : (∀ a ∈ l, code a < B) → B ^ l.length ≤ pv B code l ∧ pv B code l < 2 * B ^ l.length := by
  induction l using snoc_induct with
  | h0 => intro _; rw [pv_nil]; simp
  | h1 l a ih =>
    intro h
    obtain ⟨i1, i2⟩ := ih (fun b hb => h b (by simp [hb]))
    have ha := h a (by simp)
    rw [pv_snoc, List.length_append, List.length_singleton, Nat.pow_succ]
    have k1 := Nat.mul_le_mul_right B i1
    have k2 : (pv B code l + 1) * B ≤ 2 * B ^ l.length * B := Nat.mul_le_mul_right B i2
    rw [Nat.add_mul, Nat.one_mul, Nat.mul_assoc] at k2
    omega
theorem pv_shorter {A : Type} {B : Nat} {code : A → Nat} (hB : 2 ≤ B) {l o : List A} (hl : ∀ a ∈ l, code a < B) (ho : ∀ a ∈ o, code a < B) (h : pv B code l ≤ pv B code o) : l.length ≤ o.length := by
  rcases Nat.lt_or_ge o.length l.length with hlt | hge
  · exfalso
    have h1 := (pv_len hB l hl).1
    have h2 := (pv_len hB o ho).2
    have h3 : B ^ (o.length + 1) ≤ B ^ l.length := Nat.pow_le_pow_right (by omega) hlt
    rw [Nat.pow_succ] at h3
    have h4 : B ^ o.length * 2 ≤ B ^ o.length * B := Nat.mul_le_mul_left _ hB
    omega
  · exact hge
theorem fold_le {A : Type} {B : Nat} {code : A → Nat} : ∀ (l o : List A) (u v : Nat), l.length = o.length → (∀ a ∈ o, code a < B) → l.foldl (fun v a => v * B + code a) u ≤ o.foldl (fun v a => v * B + code a) v → u ≤ v
  | [], [], u, v, _, _, h => h
  | [], _ :: _, _, _, h, _, _ => by simp at h
  | _ :: _, [], _, _, h, _, _ => by simp at h
  | a :: l, c :: o, u, v, hl, ho, h => by
    simp only [List.foldl_cons] at h
    have := fold_le l o _ _ (by simpa using hl) (fun x hx => ho x (by simp [hx])) h
    rcases Nat.lt_or_ge v u with hlt | hge
    · exfalso
      have h1 := dig_lt' (B := B) (d := code a) (ho c (by simp)) hlt
      omega
    · exact hge
/-- the first act that differs is the earlier one -/
theorem pv_at {A : Type} {B : Nat} {code : A → Nat} {l o : List A} (hl : l.length = o.length) (hc : ∀ a ∈ l, code a < B) (ho : ∀ a ∈ o, code a < B) (h : pv B code l ≤ pv B code o) {k : Nat} (hk : k < l.length) (hk' : k < o.length) (hp : l.take k = o.take k) : code l[k] ≤ code o[k] := by
  have e1 : l = l.take k ++ l[k] :: l.drop (k + 1) := by rw [← List.drop_eq_getElem_cons hk]; exact (List.take_append_drop k l).symm
  have e2 : o = l.take k ++ o[k] :: o.drop (k + 1) := by rw [hp, ← List.drop_eq_getElem_cons hk']; exact (List.take_append_drop k o).symm
  have h' : pv B code (l.take k ++ l[k] :: l.drop (k + 1)) ≤ pv B code (l.take k ++ o[k] :: o.drop (k + 1)) := by rw [← e1, ← e2]; exact h
  unfold pv at h'
  rw [List.foldl_append, List.foldl_append, List.foldl_cons, List.foldl_cons] at h'
  have := fold_le _ _ _ _ (by simp; omega) (fun a ha => ho a (List.mem_of_mem_drop ha)) h'
  omega
/-- an act's number counts for two kinds alone -/
def normD (a : Deed) : Deed := if a.kind = 2 ∨ a.kind = 9 then a else ⟨a.kind, 0⟩
theorem norm_step {p : Port} {w : Wind} {x y : Berth} {a : Deed} (h : stepB p w x a = some y) : normD a ∈ actsOf (numsR p) ∧ stepB p w x (normD a) = some y := by
  unfold stepB at h
  split at h
  · rename_i hd
    obtain rfl := Option.some.inj h
    obtain ⟨he, ht⟩ := doE_zero.1 hd
    obtain ⟨hp, hb, hw, k1, k2⟩ := doErr_parts he
    have hall := firstNot_zero ht
    obtain ⟨t, n⟩ := a
    simp only at k1 k2 hall
    by_cases hk : t = 2 ∨ t = 9
    · have hn : normD ⟨t, n⟩ = ⟨t, n⟩ := by unfold normD; rw [if_pos hk]
      rw [hn]
      refine ⟨mem_acts.2 ⟨⟨k1, k2⟩, ?_⟩, by unfold stepB; rw [if_pos hd]⟩
      unfold numsR
      rcases hk with rfl | rfl
      · rw [if_pos rfl, mem_upFrom]
        have q := hall (crew p (dockOf p x ⟨⟨2, n⟩, w⟩)) (by simp [rulesOf])
        unfold crew dockOf at q
        simp only [inB_iff] at q
        simp only; omega
      · rw [if_neg (by simp), if_pos rfl, mem_upFrom]
        have q := hall (elsewhere p (dockOf p x ⟨⟨9, n⟩, w⟩)) (by simp [rulesOf])
        unfold elsewhere dockOf at q
        simp only [Bool.and_eq_true, inB_iff] at q
        simp only; omega
    · have hn : normD ⟨t, n⟩ = ⟨t, 0⟩ := by unfold normD; rw [if_neg hk]
      rw [hn]
      refine ⟨mem_acts.2 ⟨⟨k1, k2⟩, ?_⟩, ?_⟩
      · unfold numsR
        rw [if_neg (fun e => hk (.inl e)), if_neg (fun e => hk (.inr e))]
        simp
      · have hr : rulesOf p (dockOf p x ⟨⟨t, 0⟩, w⟩) t = rulesOf p (dockOf p x ⟨⟨t, n⟩, w⟩) t := by
          rcases (by omega : t = 1 ∨ t = 3 ∨ t = 4 ∨ t = 5 ∨ t = 6 ∨ t = 7 ∨ t = 8 ∨ t = 10 ∨ t = 11 ∨ t = 12 ∨ t = 13) with rfl | rfl | rfl | rfl | rfl | rfl | rfl | rfl | rfl | rfl | rfl <;> rfl
        have hd2 : doE p x ⟨⟨t, 0⟩, w⟩ = 0 := by
          refine doE_zero.2 ⟨he, ?_⟩
          unfold tryR at ht ⊢
          rw [hr]; exact ht
        have hB : doneB (dockOf p x ⟨⟨t, 0⟩, w⟩) t = doneB (dockOf p x ⟨⟨t, n⟩, w⟩) t := by
          rcases (by omega : t = 1 ∨ t = 3 ∨ t = 4 ∨ t = 5 ∨ t = 6 ∨ t = 7 ∨ t = 8 ∨ t = 10 ∨ t = 11 ∨ t = 12 ∨ t = 13) with rfl | rfl | rfl | rfl | rfl | rfl | rfl | rfl | rfl | rfl | rfl <;> rfl
        unfold stepB
        rw [if_pos hd2, doB_done hd, doB_done hd2]
        exact congrArg some hB
  · cases h
theorem norm_run {p : Port} {w : Wind} : ∀ {r : List Deed} {x y : Berth}, run (stepB p w) x r = some y → (∀ a ∈ r.map normD, a ∈ actsOf (numsR p)) ∧ run (stepB p w) x (r.map normD) = some y
  | [], x, y, h => ⟨by simp, h⟩
  | a :: r, x, y, h => by
    simp only [run] at h
    obtain ⟨z, h1, h2⟩ := Option.bind_eq_some_iff.1 h
    obtain ⟨n1, n2⟩ := norm_step h1
    obtain ⟨i1, i2⟩ := norm_run h2
    refine ⟨fun c hc => ?_, ?_⟩
    · rcases List.mem_cons.1 (by simpa using hc : c ∈ normD a :: r.map normD) with rfl | hc
      · exact n1
      · exact i1 c hc
    · simp only [List.map_cons, run, n2, Option.bind_some]
      exact i2
/-- where a ship is after acts, and whether they can be done -/
def shipAt (p : Port) (w : Wind) (b : Berth) (l : List Deed) : Int := match run (stepB p w) b l with | some x => x.ship | none => 0
def canDo (p : Port) (w : Wind) (b : Berth) (l : List Deed) : Bool := (run (stepB p w) b l).isSome
/-- THE LAW OF PLANS -/
structure Planned (p : Port) (w : Wind) (b : Berth) (s : Int) (l o : List Deed) : Prop where
  goes : canDo p w b l = true ∧ shipAt p w b l = s
  len : l.length ≤ o.length ∨ canDo p w b o = false ∨ shipAt p w b o ≠ s
  first : canDo p w b o = true → shipAt p w b o = s → l.length = o.length → ∀ (k : Nat) (h : k < l.length) (h' : k < o.length), (∀ j (hj : j < k), l[j].kind = o[j].kind ∧ (l[j].kind = 2 ∨ l[j].kind = 9 → l[j].n = o[j].n)) →
    (l[k].kind ≠ o[k].kind → l[k].kind < o[k].kind) ∧ (l[k].kind = o[k].kind → (l[k].kind = 2 ∨ l[k].kind = 9) → l[k].n ≠ o[k].n → l[k].n < o[k].n)
theorem code_bd {p : Port} (hp : portB p = true) {a : Deed} (h : a ∈ actsOf (numsR p)) : codeD a < 4096 ∧ (1 ≤ a.kind ∧ a.kind ≤ 13) ∧ (0 ≤ a.n ∧ a.n ≤ 255) ∧ normD a = a := by
  obtain ⟨h1, h2⟩ := mem_acts.1 h
  have hb := (nums_ok hp).2 a.kind h1.1 h1.2
  have hn := hb.1 _ h2
  refine ⟨by unfold codeD; omega, h1, hn, ?_⟩
  unfold normD
  split
  · rfl
  · rename_i hk
    unfold numsR at h2
    rw [if_neg (fun e => hk (.inl e)), if_neg (fun e => hk (.inr e))] at h2
    simp at h2
    obtain ⟨t, n⟩ := a
    simp at h2 ⊢
    exact h2.symm
theorem deed_ext {x y : Deed} (h1 : x.kind = y.kind) (h2 : x.n = y.n) : x = y := by
  obtain ⟨a, b⟩ := x
  obtain ⟨c, d⟩ := y
  simp only at h1 h2
  rw [h1, h2]
theorem planned_law {p : Port} {w : Wind} {b : Berth} {s : Int} {l : List Deed} (hp : portB p = true) (h : Least (stepB p w) 4096 codeD (actsOf (numsR p)) b (goalB s) (some l)) (o : List Deed) : Planned p w b s l o := by
  obtain ⟨hl, ⟨x, hx, hg⟩, hmin⟩ := h
  have hgx : x.ship = s := by simpa [goalB] using hg
  have key : ∀ y, run (stepB p w) b o = some y → y.ship = s → (∀ a ∈ o.map normD, a ∈ actsOf (numsR p)) ∧ pv 4096 codeD l ≤ pv 4096 codeD (o.map normD) := fun y hy hs => by
    obtain ⟨n1, n2⟩ := norm_run hy
    exact ⟨n1, hmin _ n1 y n2 (by simp [goalB, hs])⟩
  have got : canDo p w b o = true → shipAt p w b o = s → ∃ y, run (stepB p w) b o = some y ∧ y.ship = s := fun h1 h2 => by
    unfold canDo at h1
    unfold shipAt at h2
    cases hr : run (stepB p w) b o with
    | none => rw [hr] at h1; cases h1
    | some y => rw [hr] at h2; exact ⟨y, rfl, h2⟩
  refine ⟨⟨by unfold canDo; rw [hx]; rfl, by unfold shipAt; rw [hx]; exact hgx⟩, ?_, fun h1 h2 hlen k hk hk' hpre => ?_⟩
  · cases h1 : canDo p w b o
    · exact .inr (.inl rfl)
    · by_cases h2 : shipAt p w b o = s
      · obtain ⟨y, hy, hs⟩ := got h1 h2
        obtain ⟨n1, n2⟩ := key y hy hs
        left
        have := pv_shorter (B := 4096) (by omega) (fun a ha => (code_bd hp (hl a ha)).1) (fun a ha => (code_bd hp (n1 a ha)).1) n2
        simpa using this
      · exact .inr (.inr h2)
  · obtain ⟨y, hy, hs⟩ := got h1 h2
    obtain ⟨n1, n2⟩ := key y hy hs
    have hpre' : l.take k = (o.map normD).take k := by
      apply List.ext_getElem (by simp; omega)
      intro j hj1 hj2
      simp only [List.length_take] at hj1
      rw [List.getElem_take, List.getElem_take, List.getElem_map]
      obtain ⟨e1, e2⟩ := hpre j (by omega)
      have hj := (code_bd hp (hl _ (List.getElem_mem (show j < l.length by omega)))).2.2.2
      rw [← hj]
      unfold normD
      rw [e1] at e2 ⊢
      split
      · rename_i hk2
        have e3 := e2 hk2
        exact deed_ext e1 e3
      · rfl
    have hc := pv_at (by simpa using hlen) (fun a ha => (code_bd hp (hl a ha)).1) (fun a ha => (code_bd hp (n1 a ha)).1) n2 hk (by simpa using hk') hpre'
    rw [List.getElem_map] at hc
    have b1 := code_bd hp (hl _ (List.getElem_mem hk))
    have b2 := code_bd hp (n1 (normD o[k]) (List.mem_map.2 ⟨_, List.getElem_mem hk', rfl⟩))
    have hkd : (normD o[k]).kind = o[k].kind := by unfold normD; split <;> rfl
    unfold codeD at hc
    rw [hkd] at hc b2
    refine ⟨fun hne => by omega, fun he hk2 hne => ?_⟩
    have hnn : (normD o[k]) = o[k] := by unfold normD; rw [if_pos (by rw [← he]; exact hk2)]
    rw [hnn] at hc b2
    omega
theorem planned_none {p : Port} {w : Wind} {b : Berth} {s : Int} (h : Least (stepB p w) 4096 codeD (actsOf (numsR p)) b (goalB s) none) (o : List Deed) : (canDo p w b o = false ∨ shipAt p w b o ≠ s) ∧ b.ship ≠ s := by
  refine ⟨?_, fun e => ?_⟩
  · cases hr : run (stepB p w) b o with
    | none => left; unfold canDo; rw [hr]; rfl
    | some y =>
      right
      unfold shipAt
      rw [hr]
      obtain ⟨n1, n2⟩ := norm_run hr
      have := h _ n1 y n2
      simpa [goalB] using this
  · have := h [] (by simp) b rfl
    simp [goalB, e] at this
/-! ### Steps -/
theorem run_take {p : Port} {w : Wind} {b : Berth} {l : List Deed} {k : Nat} (hk : k < l.length) : run (stepB p w) b (l.take (k + 1)) = (run (stepB p w) b (l.take k)).bind fun x => stepB p w x l[k] := by
  rw [List.take_succ_eq_append_getElem hk, run_snoc]
theorem run_stuck {p : Port} {w : Wind} : ∀ {l : List Deed} {b : Berth} {k : Nat}, run (stepB p w) b (l.take k) = none → run (stepB p w) b l = none
  | [], b, k, h => by simpa using h
  | a :: l, b, 0, h => by simp [run] at h
  | a :: l, b, k + 1, h => by
    simp only [List.take_succ_cons, run] at h ⊢
    cases hs : stepB p w b a with
    | none => rfl
    | some y =>
      rw [hs] at h
      simp only [Option.bind_some] at h ⊢
      exact run_stuck h
end Bal.Mast

/-
  MastKept: whatever is done, a berth stays valid: the walk.
-/
namespace Go.Proofs.YtacbkbilbmkjnaaGreat
open Go.RowKit Bal Bal.Trim Bal.Mast
set_option linter.unusedVariables false
set_option linter.unusedSimpArgs false
set_option maxHeartbeats 4000000
set_option maxRecDepth 100000

theorem law_MastKept_great (a : Option Addr) (c : Nat) (e : Option Addr) (d : Nat) (p : Port) (w : World) (hx : Row Axis.cells 2 w.heap.size w a p.axes) (hc : p.axes.length ≤ c) (hM : c ≤ maxLen) (hy : Row Span.cells 2 w.heap.size w e p.pulls) (hd : p.pulls.length ≤ d) (hN : d ≤ maxLen) (b : Berth) (hs0 : 0 ≤ b.ship) (s : Step) (hk0 : 0 ≤ s.act.kind ∧ s.act.kind ≤ 255) (hg : (decide (40 < p.axes.length) || decide (20 < p.pulls.length)) = true) : Calls Tryz.prog 6 #[.agg #[.slice a p.axes.length c, .int .i64 p.people, .int .i64 p.most, .slice e p.pulls.length d, .int .i64 p.cross], .agg #[.int .u8 b.ship, .int .i64 b.axis, .int .i64 b.held, .bool b.wire, .bool b.opn], .agg #[.int .u8 s.act.kind, .int .i64 s.act.n, .int .i64 s.wind.xlo, .int .i64 s.wind.xhi, .int .i64 s.wind.ylo, .int .i64 s.wind.yhi]] w fun z w' => z = .returned (.bool true) ∧ Kept w w' := by
  have HG := Lib.hid hg
  clear hg
  go_enter Tryz.func6, Tryz.ntmps6
  go_wp2_with (first | (go_at_call 11; (with_reducible refine (o_alive _).mono ?_); rintro z wA ⟨rfl, hbA⟩; refine Blk.thru (b := w.heap.size) (arr := ?_) (t := ?_) ?_ hbA ?_; rotate_left 2; (focus (exact blk)); intro r0; have r0c0 := r0.cell 0; have r0f0 := r0.free 0; have r0c1 := r0.cell 1; have r0f1 := r0.free 1; have r0c2 := r0.cell 2; have r0f2 := r0.free 2; have r0c3 := r0.cell 3; have r0f3 := r0.free 3; have r0c4 := r0.cell 4; have r0f4 := r0.free 4; have r0l := r0.lt; simp at r0c0 r0c1 r0c2 r0c3 r0c4; refine Blk.thru (b := w.heap.size + 1) (arr := ?_) (t := ?_) ?_ hbA ?_; rotate_left 2; (focus (exact blk)); intro r1; have r1c0 := r1.cell 0; have r1f0 := r1.free 0; have r1c1 := r1.cell 1; have r1f1 := r1.free 1; have r1c2 := r1.cell 2; have r1f2 := r1.free 2; have r1c3 := r1.cell 3; have r1f3 := r1.free 3; have r1c4 := r1.cell 4; have r1f4 := r1.free 4; have r1l := r1.lt; simp at r1c0 r1c1 r1c2 r1c3 r1c4; refine Blk.thru (b := w.heap.size + 1 + 1) (arr := ?_) (t := ?_) ?_ hbA ?_; rotate_left 2; (focus (exact blk)); intro r2; have r2c0 := r2.cell 0; have r2f0 := r2.free 0; have r2c1 := r2.cell 1; have r2f1 := r2.free 1; have r2c2 := r2.cell 2; have r2f2 := r2.free 2; have r2c3 := r2.cell 3; have r2f3 := r2.free 3; have r2c4 := r2.cell 4; have r2f4 := r2.free 4; have r2c5 := r2.cell 5; have r2f5 := r2.free 5; have r2l := r2.lt; simp at r2c0 r2c1 r2c2 r2c3 r2c4 r2c5) | (go_at_call 12; (with_reducible refine (r_Great a c p.axes p.people p.most e d p.pulls p.cross _ hM hN hc hd).mono ?_); rw [HG.out]; rintro z wG ⟨rfl, hbG⟩; refine Blk.thru (b := w.heap.size) (arr := ?_) (t := ?_) ?_ hbG ?_; rotate_left 2; (focus (exact blk)); intro r0; have r0c0 := r0.cell 0; have r0f0 := r0.free 0; have r0c1 := r0.cell 1; have r0f1 := r0.free 1; have r0c2 := r0.cell 2; have r0f2 := r0.free 2; have r0c3 := r0.cell 3; have r0f3 := r0.free 3; have r0c4 := r0.cell 4; have r0f4 := r0.free 4; have r0l := r0.lt; simp at r0c0 r0c1 r0c2 r0c3 r0c4; refine Blk.thru (b := w.heap.size + 1) (arr := ?_) (t := ?_) ?_ hbG ?_; rotate_left 2; (focus (exact blk)); intro r1; have r1c0 := r1.cell 0; have r1f0 := r1.free 0; have r1c1 := r1.cell 1; have r1f1 := r1.free 1; have r1c2 := r1.cell 2; have r1f2 := r1.free 2; have r1c3 := r1.cell 3; have r1f3 := r1.free 3; have r1c4 := r1.cell 4; have r1f4 := r1.free 4; have r1l := r1.lt; simp at r1c0 r1c1 r1c2 r1c3 r1c4; refine Blk.thru (b := w.heap.size + 1 + 1) (arr := ?_) (t := ?_) ?_ hbG ?_; rotate_left 2; (focus (exact blk)); intro r2; have r2c0 := r2.cell 0; have r2f0 := r2.free 0; have r2c1 := r2.cell 1; have r2f1 := r2.free 1; have r2c2 := r2.cell 2; have r2f2 := r2.free 2; have r2c3 := r2.cell 3; have r2f3 := r2.free 3; have r2c4 := r2.cell 4; have r2f4 := r2.free 4; have r2c5 := r2.cell 5; have r2f5 := r2.free 5; have r2l := r2.lt; simp at r2c0 r2c1 r2c2 r2c3 r2c4 r2c5))
  go_ret
  exact ⟨rfl, by (exact kpt)⟩
theorem law_MastKept_not (a : Option Addr) (c : Nat) (e : Option Addr) (d : Nat) (p : Port) (w : World) (hx : Row Axis.cells 2 w.heap.size w a p.axes) (hc : p.axes.length ≤ c) (hM : c ≤ maxLen) (hy : Row Span.cells 2 w.heap.size w e p.pulls) (hd : p.pulls.length ≤ d) (hN : d ≤ maxLen) (b : Berth) (hs0 : 0 ≤ b.ship) (s : Step) (hk0 : 0 ≤ s.act.kind ∧ s.act.kind ≤ 255) (hg : (decide (40 < p.axes.length) || decide (20 < p.pulls.length)) = false) (h1 : p.axes.length ≤ 1000000) (h2 : p.pulls.length ≤ 1000000) (hne : doE p b s ≠ 0) : Calls Tryz.prog 6 #[.agg #[.slice a p.axes.length c, .int .i64 p.people, .int .i64 p.most, .slice e p.pulls.length d, .int .i64 p.cross], .agg #[.int .u8 b.ship, .int .i64 b.axis, .int .i64 b.held, .bool b.wire, .bool b.opn], .agg #[.int .u8 s.act.kind, .int .i64 s.act.n, .int .i64 s.wind.xlo, .int .i64 s.wind.xhi, .int .i64 s.wind.ylo, .int .i64 s.wind.yhi]] w fun z w' => z = .returned (.bool true) ∧ Kept w w' := by
  have HG := Lib.hid hg
  obtain ⟨n1, n2⟩ := doE_not hne
  have HDB := Lib.hid n1
  obtain ⟨DB, hDB⟩ : ∃ x, x = noBerth := ⟨_, rfl⟩
  rw [← hDB] at HDB
  have e1 : DB.ship = 0 := by rw [hDB]; rfl
  have e2 : DB.axis = 0 := by rw [hDB]; rfl
  have e3 : DB.held = 0 := by rw [hDB]; rfl
  have e4 : DB.wire = false := by rw [hDB]; rfl
  have e5 : DB.opn = false := by rw [hDB]; rfl
  obtain ⟨DE, hDE⟩ : ∃ x, doE p b s = x := ⟨_, rfl⟩
  obtain ⟨DR, hDR⟩ : ∃ x, doRule p b s = x := ⟨_, rfl⟩
  rw [hDE, hDR] at n2
  rw [hDE] at hne
  have HDE := Lib.hid hDE
  have HDR := Lib.hid hDR
  clear hg hDB n1 hDE hDR
  have hneb : (DE != 0) = true := by simp [hne]
  rcases n2 with ⟨n2, rfl⟩ | ⟨rfl, n2⟩
  · go_enter Tryz.func6, Tryz.ntmps6
    go_wp2_with (first | (go_at_call 11; (with_reducible refine (o_alive _).mono ?_); rintro z wA ⟨rfl, hbA⟩; refine Blk.thru (b := w.heap.size) (arr := ?_) (t := ?_) ?_ hbA ?_; rotate_left 2; (focus (exact blk)); intro r0; have r0c0 := r0.cell 0; have r0f0 := r0.free 0; have r0c1 := r0.cell 1; have r0f1 := r0.free 1; have r0c2 := r0.cell 2; have r0f2 := r0.free 2; have r0c3 := r0.cell 3; have r0f3 := r0.free 3; have r0c4 := r0.cell 4; have r0f4 := r0.free 4; have r0l := r0.lt; simp at r0c0 r0c1 r0c2 r0c3 r0c4; refine Blk.thru (b := w.heap.size + 1) (arr := ?_) (t := ?_) ?_ hbA ?_; rotate_left 2; (focus (exact blk)); intro r1; have r1c0 := r1.cell 0; have r1f0 := r1.free 0; have r1c1 := r1.cell 1; have r1f1 := r1.free 1; have r1c2 := r1.cell 2; have r1f2 := r1.free 2; have r1c3 := r1.cell 3; have r1f3 := r1.free 3; have r1c4 := r1.cell 4; have r1f4 := r1.free 4; have r1l := r1.lt; simp at r1c0 r1c1 r1c2 r1c3 r1c4; refine Blk.thru (b := w.heap.size + 1 + 1) (arr := ?_) (t := ?_) ?_ hbA ?_; rotate_left 2; (focus (exact blk)); intro r2; have r2c0 := r2.cell 0; have r2f0 := r2.free 0; have r2c1 := r2.cell 1; have r2f1 := r2.free 1; have r2c2 := r2.cell 2; have r2f2 := r2.free 2; have r2c3 := r2.cell 3; have r2f3 := r2.free 3; have r2c4 := r2.cell 4; have r2f4 := r2.free 4; have r2c5 := r2.cell 5; have r2f5 := r2.free 5; have r2l := r2.lt; simp at r2c0 r2c1 r2c2 r2c3 r2c4 r2c5) | (go_at_call 12; (with_reducible refine (r_Great a c p.axes p.people p.most e d p.pulls p.cross _ hM hN hc hd).mono ?_); rw [HG.out]; rintro z wG ⟨rfl, hbG⟩; refine Blk.thru (b := w.heap.size) (arr := ?_) (t := ?_) ?_ hbG ?_; rotate_left 2; (focus (exact blk)); intro r0; have r0c0 := r0.cell 0; have r0f0 := r0.free 0; have r0c1 := r0.cell 1; have r0f1 := r0.free 1; have r0c2 := r0.cell 2; have r0f2 := r0.free 2; have r0c3 := r0.cell 3; have r0f3 := r0.free 3; have r0c4 := r0.cell 4; have r0f4 := r0.free 4; have r0l := r0.lt; simp at r0c0 r0c1 r0c2 r0c3 r0c4; refine Blk.thru (b := w.heap.size + 1) (arr := ?_) (t := ?_) ?_ hbG ?_; rotate_left 2; (focus (exact blk)); intro r1; have r1c0 := r1.cell 0; have r1f0 := r1.free 0; have r1c1 := r1.cell 1; have r1f1 := r1.free 1; have r1c2 := r1.cell 2; have r1f2 := r1.free 2; have r1c3 := r1.cell 3; have r1f3 := r1.free 3; have r1c4 := r1.cell 4; have r1f4 := r1.free 4; have r1l := r1.lt; simp at r1c0 r1c1 r1c2 r1c3 r1c4; refine Blk.thru (b := w.heap.size + 1 + 1) (arr := ?_) (t := ?_) ?_ hbG ?_; rotate_left 2; (focus (exact blk)); intro r2; have r2c0 := r2.cell 0; have r2f0 := r2.free 0; have r2c1 := r2.cell 1; have r2f1 := r2.free 1; have r2c2 := r2.cell 2; have r2f2 := r2.free 2; have r2c3 := r2.cell 3; have r2f3 := r2.free 3; have r2c4 := r2.cell 4; have r2f4 := r2.free 4; have r2c5 := r2.cell 5; have r2f5 := r2.free 5; have r2l := r2.lt; simp at r2c0 r2c1 r2c2 r2c3 r2c4 r2c5) | (go_at_call 23; (with_reducible refine (f_Do a c e d p _ (hx.later (by (exact kpt)) (Nat.le_refl _)) hc hM (hy.later (by (exact kpt)) (Nat.le_refl _)) hd hN h1 h2 b hs0 s hk0).mono ?_); rw [HDB.out, HDE.out, HDR.out]; rintro z w2 ⟨rfl, hb2⟩; refine Blk.thru (b := w.heap.size) (arr := ?_) (t := ?_) ?_ hb2 ?_; rotate_left 2; (focus (exact blk)); intro r0; have r0c0 := r0.cell 0; have r0f0 := r0.free 0; have r0c1 := r0.cell 1; have r0f1 := r0.free 1; have r0c2 := r0.cell 2; have r0f2 := r0.free 2; have r0c3 := r0.cell 3; have r0f3 := r0.free 3; have r0c4 := r0.cell 4; have r0f4 := r0.free 4; have r0l := r0.lt; simp at r0c0 r0c1 r0c2 r0c3 r0c4; refine Blk.thru (b := w.heap.size + 1) (arr := ?_) (t := ?_) ?_ hb2 ?_; rotate_left 2; (focus (exact blk)); intro r1; have r1c0 := r1.cell 0; have r1f0 := r1.free 0; have r1c1 := r1.cell 1; have r1f1 := r1.free 1; have r1c2 := r1.cell 2; have r1f2 := r1.free 2; have r1c3 := r1.cell 3; have r1f3 := r1.free 3; have r1c4 := r1.cell 4; have r1f4 := r1.free 4; have r1l := r1.lt; simp at r1c0 r1c1 r1c2 r1c3 r1c4; refine Blk.thru (b := w.heap.size + 1 + 1) (arr := ?_) (t := ?_) ?_ hb2 ?_; rotate_left 2; (focus (exact blk)); intro r2; have r2c0 := r2.cell 0; have r2f0 := r2.free 0; have r2c1 := r2.cell 1; have r2f1 := r2.free 1; have r2c2 := r2.cell 2; have r2f2 := r2.free 2; have r2c3 := r2.cell 3; have r2f3 := r2.free 3; have r2c4 := r2.cell 4; have r2f4 := r2.free 4; have r2c5 := r2.cell 5; have r2f5 := r2.free 5; have r2l := r2.lt; simp at r2c0 r2c1 r2c2 r2c3 r2c4 r2c5))
    go_ret
    exact ⟨rfl, by (exact kpt)⟩
  · have n2b : (DE == 74) = false := by simp [n2]
    go_enter Tryz.func6, Tryz.ntmps6
    go_wp2_with (first | (go_at_call 11; (with_reducible refine (o_alive _).mono ?_); rintro z wA ⟨rfl, hbA⟩; refine Blk.thru (b := w.heap.size) (arr := ?_) (t := ?_) ?_ hbA ?_; rotate_left 2; (focus (exact blk)); intro r0; have r0c0 := r0.cell 0; have r0f0 := r0.free 0; have r0c1 := r0.cell 1; have r0f1 := r0.free 1; have r0c2 := r0.cell 2; have r0f2 := r0.free 2; have r0c3 := r0.cell 3; have r0f3 := r0.free 3; have r0c4 := r0.cell 4; have r0f4 := r0.free 4; have r0l := r0.lt; simp at r0c0 r0c1 r0c2 r0c3 r0c4; refine Blk.thru (b := w.heap.size + 1) (arr := ?_) (t := ?_) ?_ hbA ?_; rotate_left 2; (focus (exact blk)); intro r1; have r1c0 := r1.cell 0; have r1f0 := r1.free 0; have r1c1 := r1.cell 1; have r1f1 := r1.free 1; have r1c2 := r1.cell 2; have r1f2 := r1.free 2; have r1c3 := r1.cell 3; have r1f3 := r1.free 3; have r1c4 := r1.cell 4; have r1f4 := r1.free 4; have r1l := r1.lt; simp at r1c0 r1c1 r1c2 r1c3 r1c4; refine Blk.thru (b := w.heap.size + 1 + 1) (arr := ?_) (t := ?_) ?_ hbA ?_; rotate_left 2; (focus (exact blk)); intro r2; have r2c0 := r2.cell 0; have r2f0 := r2.free 0; have r2c1 := r2.cell 1; have r2f1 := r2.free 1; have r2c2 := r2.cell 2; have r2f2 := r2.free 2; have r2c3 := r2.cell 3; have r2f3 := r2.free 3; have r2c4 := r2.cell 4; have r2f4 := r2.free 4; have r2c5 := r2.cell 5; have r2f5 := r2.free 5; have r2l := r2.lt; simp at r2c0 r2c1 r2c2 r2c3 r2c4 r2c5) | (go_at_call 12; (with_reducible refine (r_Great a c p.axes p.people p.most e d p.pulls p.cross _ hM hN hc hd).mono ?_); rw [HG.out]; rintro z wG ⟨rfl, hbG⟩; refine Blk.thru (b := w.heap.size) (arr := ?_) (t := ?_) ?_ hbG ?_; rotate_left 2; (focus (exact blk)); intro r0; have r0c0 := r0.cell 0; have r0f0 := r0.free 0; have r0c1 := r0.cell 1; have r0f1 := r0.free 1; have r0c2 := r0.cell 2; have r0f2 := r0.free 2; have r0c3 := r0.cell 3; have r0f3 := r0.free 3; have r0c4 := r0.cell 4; have r0f4 := r0.free 4; have r0l := r0.lt; simp at r0c0 r0c1 r0c2 r0c3 r0c4; refine Blk.thru (b := w.heap.size + 1) (arr := ?_) (t := ?_) ?_ hbG ?_; rotate_left 2; (focus (exact blk)); intro r1; have r1c0 := r1.cell 0; have r1f0 := r1.free 0; have r1c1 := r1.cell 1; have r1f1 := r1.free 1; have r1c2 := r1.cell 2; have r1f2 := r1.free 2; have r1c3 := r1.cell 3; have r1f3 := r1.free 3; have r1c4 := r1.cell 4; have r1f4 := r1.free 4; have r1l := r1.lt; simp at r1c0 r1c1 r1c2 r1c3 r1c4; refine Blk.thru (b := w.heap.size + 1 + 1) (arr := ?_) (t := ?_) ?_ hbG ?_; rotate_left 2; (focus (exact blk)); intro r2; have r2c0 := r2.cell 0; have r2f0 := r2.free 0; have r2c1 := r2.cell 1; have r2f1 := r2.free 1; have r2c2 := r2.cell 2; have r2f2 := r2.free 2; have r2c3 := r2.cell 3; have r2f3 := r2.free 3; have r2c4 := r2.cell 4; have r2f4 := r2.free 4; have r2c5 := r2.cell 5; have r2f5 := r2.free 5; have r2l := r2.lt; simp at r2c0 r2c1 r2c2 r2c3 r2c4 r2c5) | (go_at_call 23; (with_reducible refine (f_Do a c e d p _ (hx.later (by (exact kpt)) (Nat.le_refl _)) hc hM (hy.later (by (exact kpt)) (Nat.le_refl _)) hd hN h1 h2 b hs0 s hk0).mono ?_); rw [HDB.out, HDE.out, HDR.out]; rintro z w2 ⟨rfl, hb2⟩; refine Blk.thru (b := w.heap.size) (arr := ?_) (t := ?_) ?_ hb2 ?_; rotate_left 2; (focus (exact blk)); intro r0; have r0c0 := r0.cell 0; have r0f0 := r0.free 0; have r0c1 := r0.cell 1; have r0f1 := r0.free 1; have r0c2 := r0.cell 2; have r0f2 := r0.free 2; have r0c3 := r0.cell 3; have r0f3 := r0.free 3; have r0c4 := r0.cell 4; have r0f4 := r0.free 4; have r0l := r0.lt; simp at r0c0 r0c1 r0c2 r0c3 r0c4; refine Blk.thru (b := w.heap.size + 1) (arr := ?_) (t := ?_) ?_ hb2 ?_; rotate_left 2; (focus (exact blk)); intro r1; have r1c0 := r1.cell 0; have r1f0 := r1.free 0; have r1c1 := r1.cell 1; have r1f1 := r1.free 1; have r1c2 := r1.cell 2; have r1f2 := r1.free 2; have r1c3 := r1.cell 3; have r1f3 := r1.free 3; have r1c4 := r1.cell 4; have r1f4 := r1.free 4; have r1l := r1.lt; simp at r1c0 r1c1 r1c2 r1c3 r1c4; refine Blk.thru (b := w.heap.size + 1 + 1) (arr := ?_) (t := ?_) ?_ hb2 ?_; rotate_left 2; (focus (exact blk)); intro r2; have r2c0 := r2.cell 0; have r2f0 := r2.free 0; have r2c1 := r2.cell 1; have r2f1 := r2.free 1; have r2c2 := r2.cell 2; have r2f2 := r2.free 2; have r2c3 := r2.cell 3; have r2f3 := r2.free 3; have r2c4 := r2.cell 4; have r2f4 := r2.free 4; have r2c5 := r2.cell 5; have r2f5 := r2.free 5; have r2l := r2.lt; simp at r2c0 r2c1 r2c2 r2c3 r2c4 r2c5))
    go_ret
    exact ⟨rfl, by (exact kpt)⟩
theorem law_MastKept_ok (a : Option Addr) (c : Nat) (e : Option Addr) (d : Nat) (p : Port) (w : World) (hx : Row Axis.cells 2 w.heap.size w a p.axes) (hc : p.axes.length ≤ c) (hM : c ≤ maxLen) (hy : Row Span.cells 2 w.heap.size w e p.pulls) (hd : p.pulls.length ≤ d) (hN : d ≤ maxLen) (b : Berth) (hs0 : 0 ≤ b.ship) (s : Step) (hk0 : 0 ≤ s.act.kind ∧ s.act.kind ≤ 255) (hg : (decide (40 < p.axes.length) || decide (20 < p.pulls.length)) = false) (h1 : p.axes.length ≤ 1000000) (h2 : p.pulls.length ≤ 1000000) (he0 : doE p b s = 0) : Calls Tryz.prog 6 #[.agg #[.slice a p.axes.length c, .int .i64 p.people, .int .i64 p.most, .slice e p.pulls.length d, .int .i64 p.cross], .agg #[.int .u8 b.ship, .int .i64 b.axis, .int .i64 b.held, .bool b.wire, .bool b.opn], .agg #[.int .u8 s.act.kind, .int .i64 s.act.n, .int .i64 s.wind.xlo, .int .i64 s.wind.xhi, .int .i64 s.wind.ylo, .int .i64 s.wind.yhi]] w fun z w' => z = .returned (.bool true) ∧ Kept w w' := by
  have HG := Lib.hid hg
  obtain ⟨hp, hbv, hwv, hk1, hk2⟩ := doErr_parts (doE_zero.1 he0).1
  have hcv := kept_valid hs0 he0
  have hds := doB_ship (p := p) (s := s) hs0
  obtain ⟨K1, K2, K3, K4, K5, K6⟩ := kept_law hs0 he0
  obtain ⟨t1, t2, t3, t4, t5⟩ := portB_parts hp
  have hm1 := inB_iff.1 t4
  have HV := Lib.hid (linesB_parts t2).2
  have hn8 := (linesB_parts t2).1
  have hax := (berth_parts hbv).2.1
  obtain ⟨bn, hbe⟩ : ∃ bn : Nat, b.axis = bn := ⟨b.axis.toNat, by omega⟩
  have hbn : bn < p.axes.length := by omega
  have HR := Lib.hid (doE_rule he0)
  have HE := Lib.hid he0
  have HC1 := Lib.hid (show checkBerth p b = 0 by unfold checkBerth; rw [hp, hbv]; rfl)
  have HC2 := Lib.hid (show checkBerth p (doB p b s) = 0 by unfold checkBerth; rw [hp, hcv]; rfl)
  obtain ⟨CV, hCV⟩ : ∃ x, x = calmS s.wind (p.axes.getD b.axis.toNat default) p.cross := ⟨_, rfl⟩
  rw [← hCV] at K2
  have hce : calmE s.wind p.axes[bn] p.cross = 0 := by
    unfold calmE; rw [hwv, (turnable_parts t1).2.2 _ (List.getElem_mem hbn), t5]; rfl
  have HCM := Lib.hid (show calmE s.wind p.axes[bn] p.cross = 0 ∧ calmB s.wind p.axes[bn] p.cross = CV from ⟨hce, by unfold calmB; rw [if_pos hce, hCV, hbe, Int.toNat_natCast, getD_at hbn]⟩)
  obtain ⟨DB, hDB⟩ : ∃ x, doB p b s = x := ⟨_, rfl⟩
  rw [hDB] at K1 K2 K3 K4 K5 K6 HC2 hds
  have HDB := Lib.hid hDB
  have hdec : decide (DB = b) = false := decide_eq_false K1
  have HEQ := fun w => eq_berth DB b hdec w
  have KWALK := Lib.hid K2
  have KA := Lib.hid K3
  have KW := Lib.hid K4
  have KL := Lib.hid K5
  have KHELD := Lib.hid K6
  have HBE := Lib.hid hbe
  clear hbe hg hp hbv hwv hk1 hk2 hcv K1 K2 K3 K4 K5 K6 t1 t2 t3 t4 t5 hax he0 hCV hce hDB hdec
  have i0 : (0 : Int) ≤ (bn : Int) := by omega
  have i1 : (bn : Int) < (p.axes.length : Int) := by omega
  go_enter Tryz.func6, Tryz.ntmps6
  go_upto_region 11 with (first | (go_at_call 11; (with_reducible refine (o_alive _).mono ?_); rintro z wA ⟨rfl, hbA⟩; refine Blk.thru (b := w.heap.size) (arr := ?_) (t := ?_) ?_ hbA ?_; rotate_left 2; (focus (exact blk)); intro r0; have r0c0 := r0.cell 0; have r0f0 := r0.free 0; have r0c1 := r0.cell 1; have r0f1 := r0.free 1; have r0c2 := r0.cell 2; have r0f2 := r0.free 2; have r0c3 := r0.cell 3; have r0f3 := r0.free 3; have r0c4 := r0.cell 4; have r0f4 := r0.free 4; have r0l := r0.lt; simp at r0c0 r0c1 r0c2 r0c3 r0c4; refine Blk.thru (b := w.heap.size + 1) (arr := ?_) (t := ?_) ?_ hbA ?_; rotate_left 2; (focus (exact blk)); intro r1; have r1c0 := r1.cell 0; have r1f0 := r1.free 0; have r1c1 := r1.cell 1; have r1f1 := r1.free 1; have r1c2 := r1.cell 2; have r1f2 := r1.free 2; have r1c3 := r1.cell 3; have r1f3 := r1.free 3; have r1c4 := r1.cell 4; have r1f4 := r1.free 4; have r1l := r1.lt; simp at r1c0 r1c1 r1c2 r1c3 r1c4; refine Blk.thru (b := w.heap.size + 1 + 1) (arr := ?_) (t := ?_) ?_ hbA ?_; rotate_left 2; (focus (exact blk)); intro r2; have r2c0 := r2.cell 0; have r2f0 := r2.free 0; have r2c1 := r2.cell 1; have r2f1 := r2.free 1; have r2c2 := r2.cell 2; have r2f2 := r2.free 2; have r2c3 := r2.cell 3; have r2f3 := r2.free 3; have r2c4 := r2.cell 4; have r2f4 := r2.free 4; have r2c5 := r2.cell 5; have r2f5 := r2.free 5; have r2l := r2.lt; simp at r2c0 r2c1 r2c2 r2c3 r2c4 r2c5) | (go_at_call 12; (with_reducible refine (r_Great a c p.axes p.people p.most e d p.pulls p.cross _ hM hN hc hd).mono ?_); rw [HG.out]; rintro z wG ⟨rfl, hbG⟩; refine Blk.thru (b := w.heap.size) (arr := ?_) (t := ?_) ?_ hbG ?_; rotate_left 2; (focus (exact blk)); intro r0; have r0c0 := r0.cell 0; have r0f0 := r0.free 0; have r0c1 := r0.cell 1; have r0f1 := r0.free 1; have r0c2 := r0.cell 2; have r0f2 := r0.free 2; have r0c3 := r0.cell 3; have r0f3 := r0.free 3; have r0c4 := r0.cell 4; have r0f4 := r0.free 4; have r0l := r0.lt; simp at r0c0 r0c1 r0c2 r0c3 r0c4; refine Blk.thru (b := w.heap.size + 1) (arr := ?_) (t := ?_) ?_ hbG ?_; rotate_left 2; (focus (exact blk)); intro r1; have r1c0 := r1.cell 0; have r1f0 := r1.free 0; have r1c1 := r1.cell 1; have r1f1 := r1.free 1; have r1c2 := r1.cell 2; have r1f2 := r1.free 2; have r1c3 := r1.cell 3; have r1f3 := r1.free 3; have r1c4 := r1.cell 4; have r1f4 := r1.free 4; have r1l := r1.lt; simp at r1c0 r1c1 r1c2 r1c3 r1c4; refine Blk.thru (b := w.heap.size + 1 + 1) (arr := ?_) (t := ?_) ?_ hbG ?_; rotate_left 2; (focus (exact blk)); intro r2; have r2c0 := r2.cell 0; have r2f0 := r2.free 0; have r2c1 := r2.cell 1; have r2f1 := r2.free 1; have r2c2 := r2.cell 2; have r2f2 := r2.free 2; have r2c3 := r2.cell 3; have r2f3 := r2.free 3; have r2c4 := r2.cell 4; have r2f4 := r2.free 4; have r2c5 := r2.cell 5; have r2f5 := r2.free 5; have r2l := r2.lt; simp at r2c0 r2c1 r2c2 r2c3 r2c4 r2c5) | (go_at_call 23; (with_reducible refine (f_Do a c e d p _ (hx.later (by (exact kpt)) (Nat.le_refl _)) hc hM (hy.later (by (exact kpt)) (Nat.le_refl _)) hd hN h1 h2 b hs0 s hk0).mono ?_); rw [HDB.out, HE.out, HR.out]; rintro z w2 ⟨rfl, hb2⟩; refine Blk.thru (b := w.heap.size) (arr := ?_) (t := ?_) ?_ hb2 ?_; rotate_left 2; (focus (exact blk)); intro r0; have r0c0 := r0.cell 0; have r0f0 := r0.free 0; have r0c1 := r0.cell 1; have r0f1 := r0.free 1; have r0c2 := r0.cell 2; have r0f2 := r0.free 2; have r0c3 := r0.cell 3; have r0f3 := r0.free 3; have r0c4 := r0.cell 4; have r0f4 := r0.free 4; have r0l := r0.lt; simp at r0c0 r0c1 r0c2 r0c3 r0c4; refine Blk.thru (b := w.heap.size + 1) (arr := ?_) (t := ?_) ?_ hb2 ?_; rotate_left 2; (focus (exact blk)); intro r1; have r1c0 := r1.cell 0; have r1f0 := r1.free 0; have r1c1 := r1.cell 1; have r1f1 := r1.free 1; have r1c2 := r1.cell 2; have r1f2 := r1.free 2; have r1c3 := r1.cell 3; have r1f3 := r1.free 3; have r1c4 := r1.cell 4; have r1f4 := r1.free 4; have r1l := r1.lt; simp at r1c0 r1c1 r1c2 r1c3 r1c4; refine Blk.thru (b := w.heap.size + 1 + 1) (arr := ?_) (t := ?_) ?_ hb2 ?_; rotate_left 2; (focus (exact blk)); intro r2; have r2c0 := r2.cell 0; have r2f0 := r2.free 0; have r2c1 := r2.cell 1; have r2f1 := r2.free 1; have r2c2 := r2.cell 2; have r2f2 := r2.free 2; have r2c3 := r2.cell 3; have r2f3 := r2.free 3; have r2c4 := r2.cell 4; have r2f4 := r2.free 4; have r2c5 := r2.cell 5; have r2f5 := r2.free 5; have r2l := r2.lt; simp at r2c0 r2c1 r2c2 r2c3 r2c4 r2c5) | (go_at_call 24; (with_reducible refine (f_CheckBerth a c e d p _ (hx.later (by (exact kpt)) (Nat.le_refl _)) hc hM (hy.later (by (exact kpt)) (Nat.le_refl _)) hd hN h1 h2 b hs0).mono ?_); rw [HC1.out]; rintro z w3 ⟨rfl, hb3⟩; refine Blk.thru (b := w.heap.size) (arr := ?_) (t := ?_) ?_ hb3 ?_; rotate_left 2; (focus (exact blk)); intro r0; have r0c0 := r0.cell 0; have r0f0 := r0.free 0; have r0c1 := r0.cell 1; have r0f1 := r0.free 1; have r0c2 := r0.cell 2; have r0f2 := r0.free 2; have r0c3 := r0.cell 3; have r0f3 := r0.free 3; have r0c4 := r0.cell 4; have r0f4 := r0.free 4; have r0l := r0.lt; simp at r0c0 r0c1 r0c2 r0c3 r0c4; refine Blk.thru (b := w.heap.size + 1) (arr := ?_) (t := ?_) ?_ hb3 ?_; rotate_left 2; (focus (exact blk)); intro r1; have r1c0 := r1.cell 0; have r1f0 := r1.free 0; have r1c1 := r1.cell 1; have r1f1 := r1.free 1; have r1c2 := r1.cell 2; have r1f2 := r1.free 2; have r1c3 := r1.cell 3; have r1f3 := r1.free 3; have r1c4 := r1.cell 4; have r1f4 := r1.free 4; have r1l := r1.lt; simp at r1c0 r1c1 r1c2 r1c3 r1c4; refine Blk.thru (b := w.heap.size + 1 + 1) (arr := ?_) (t := ?_) ?_ hb3 ?_; rotate_left 2; (focus (exact blk)); intro r2; have r2c0 := r2.cell 0; have r2f0 := r2.free 0; have r2c1 := r2.cell 1; have r2f1 := r2.free 1; have r2c2 := r2.cell 2; have r2f2 := r2.free 2; have r2c3 := r2.cell 3; have r2f3 := r2.free 3; have r2c4 := r2.cell 4; have r2f4 := r2.free 4; have r2c5 := r2.cell 5; have r2f5 := r2.free 5; have r2l := r2.lt; simp at r2c0 r2c1 r2c2 r2c3 r2c4 r2c5; refine Blk.thru (b := w2.heap.size) (arr := ?_) (t := ?_) ?_ hb3 ?_; rotate_left 2; (focus (exact blk)); intro q1; have q1c0 := q1.cell 0; have q1f0 := q1.free 0; have q1c1 := q1.cell 1; have q1f1 := q1.free 1; have q1c2 := q1.cell 2; have q1f2 := q1.free 2; have q1c3 := q1.cell 3; have q1f3 := q1.free 3; have q1c4 := q1.cell 4; have q1f4 := q1.free 4; have q1l := q1.lt; simp at q1c0 q1c1 q1c2 q1c3 q1c4) | (go_at_call 24; (with_reducible refine (f_CheckBerth a c e d p _ (hx.later (by (exact kpt)) (Nat.le_refl _)) hc hM (hy.later (by (exact kpt)) (Nat.le_refl _)) hd hN h1 h2 DB hds).mono ?_); rw [HC2.out]; rintro z w4 ⟨rfl, hb4⟩; refine Blk.thru (b := w.heap.size) (arr := ?_) (t := ?_) ?_ hb4 ?_; rotate_left 2; (focus (exact blk)); intro r0; have r0c0 := r0.cell 0; have r0f0 := r0.free 0; have r0c1 := r0.cell 1; have r0f1 := r0.free 1; have r0c2 := r0.cell 2; have r0f2 := r0.free 2; have r0c3 := r0.cell 3; have r0f3 := r0.free 3; have r0c4 := r0.cell 4; have r0f4 := r0.free 4; have r0l := r0.lt; simp at r0c0 r0c1 r0c2 r0c3 r0c4; refine Blk.thru (b := w.heap.size + 1) (arr := ?_) (t := ?_) ?_ hb4 ?_; rotate_left 2; (focus (exact blk)); intro r1; have r1c0 := r1.cell 0; have r1f0 := r1.free 0; have r1c1 := r1.cell 1; have r1f1 := r1.free 1; have r1c2 := r1.cell 2; have r1f2 := r1.free 2; have r1c3 := r1.cell 3; have r1f3 := r1.free 3; have r1c4 := r1.cell 4; have r1f4 := r1.free 4; have r1l := r1.lt; simp at r1c0 r1c1 r1c2 r1c3 r1c4; refine Blk.thru (b := w.heap.size + 1 + 1) (arr := ?_) (t := ?_) ?_ hb4 ?_; rotate_left 2; (focus (exact blk)); intro r2; have r2c0 := r2.cell 0; have r2f0 := r2.free 0; have r2c1 := r2.cell 1; have r2f1 := r2.free 1; have r2c2 := r2.cell 2; have r2f2 := r2.free 2; have r2c3 := r2.cell 3; have r2f3 := r2.free 3; have r2c4 := r2.cell 4; have r2f4 := r2.free 4; have r2c5 := r2.cell 5; have r2f5 := r2.free 5; have r2l := r2.lt; simp at r2c0 r2c1 r2c2 r2c3 r2c4 r2c5; refine Blk.thru (b := w2.heap.size) (arr := ?_) (t := ?_) ?_ hb4 ?_; rotate_left 2; (focus (exact blk)); intro q1; have q1c0 := q1.cell 0; have q1f0 := q1.free 0; have q1c1 := q1.cell 1; have q1f1 := q1.free 1; have q1c2 := q1.cell 2; have q1f2 := q1.free 2; have q1c3 := q1.cell 3; have q1f3 := q1.free 3; have q1c4 := q1.cell 4; have q1f4 := q1.free 4; have q1l := q1.lt; simp at q1c0 q1c1 q1c2 q1c3 q1c4))
  refine at_world (S := fun V => Blk V (w.heap.size) #[.slice a p.axes.length c, .int .i64 p.people, .int .i64 p.most, .slice e p.pulls.length d, .int .i64 p.cross] 25 ∧ Blk V (w.heap.size + 1) #[.int .u8 b.ship, .int .i64 b.axis, .int .i64 b.held, .bool b.wire, .bool b.opn] 37 ∧ Blk V (w.heap.size + 1 + 1) #[.int .u8 s.act.kind, .int .i64 s.act.n, .int .i64 s.wind.xlo, .int .i64 s.wind.xhi, .int .i64 s.wind.ylo, .int .i64 s.wind.yhi] 61 ∧ Blk V (w2.heap.size) #[.int .u8 DB.ship, .int .i64 DB.axis, .int .i64 DB.held, .bool DB.wire, .bool DB.opn] 37 ∧ Kept w V) ⟨by (exact blk), by (exact blk), by (exact blk), by (exact blkc), by (exact kpt)⟩ ?_
  obtain ⟨n2, hn2⟩ : ∃ n, n = w2.heap.size := ⟨_, rfl⟩
  rw [← hn2]
  clear HEQ hn2 r0 r1 r2 r0c0 r0f0 r0c1 r0f1 r0c2 r0f2 r0c3 r0f3 r0c4 r0f4 r0l r1c0 r1f0 r1c1 r1f1 r1c2 r1f2 r1c3 r1f3 r1c4 r1f4 r1l r2c0 r2f0 r2c1 r2f1 r2c2 r2f2 r2c3 r2f3 r2c4 r2f4 r2c5 r2f5 r2l
  rintro V ⟨r0, r1, r2, q1, hk⟩
  have r0c0 := r0.cell 0
  have r0f0 := r0.free 0
  have r0c1 := r0.cell 1
  have r0f1 := r0.free 1
  have r0c2 := r0.cell 2
  have r0f2 := r0.free 2
  have r0c3 := r0.cell 3
  have r0f3 := r0.free 3
  have r0c4 := r0.cell 4
  have r0f4 := r0.free 4
  have r0l := r0.lt
  simp at r0c0 r0c1 r0c2 r0c3 r0c4
  have r1c0 := r1.cell 0
  have r1f0 := r1.free 0
  have r1c1 := r1.cell 1
  have r1f1 := r1.free 1
  have r1c2 := r1.cell 2
  have r1f2 := r1.free 2
  have r1c3 := r1.cell 3
  have r1f3 := r1.free 3
  have r1c4 := r1.cell 4
  have r1f4 := r1.free 4
  have r1l := r1.lt
  simp at r1c0 r1c1 r1c2 r1c3 r1c4
  have r2c0 := r2.cell 0
  have r2f0 := r2.free 0
  have r2c1 := r2.cell 1
  have r2f1 := r2.free 1
  have r2c2 := r2.cell 2
  have r2f2 := r2.free 2
  have r2c3 := r2.cell 3
  have r2f3 := r2.free 3
  have r2c4 := r2.cell 4
  have r2f4 := r2.free 4
  have r2c5 := r2.cell 5
  have r2f5 := r2.free 5
  have r2l := r2.lt
  simp at r2c0 r2c1 r2c2 r2c3 r2c4 r2c5
  have q1c0 := q1.cell 0
  have q1f0 := q1.free 0
  have q1c1 := q1.cell 1
  have q1f1 := q1.free 1
  have q1c2 := q1.cell 2
  have q1f2 := q1.free 2
  have q1c3 := q1.cell 3
  have q1f3 := q1.free 3
  have q1c4 := q1.cell 4
  have q1f4 := q1.free 4
  have q1l := q1.lt
  simp at q1c0 q1c1 q1c2 q1c3 q1c4
  by_cases c4 : DB.ship = 4
  · have c4b : (DB.ship == 4) = true := by simp [c4]
    obtain ⟨⟨kw1, kw2, kw3, kw4, kw5, kw7, kw8⟩, kw6⟩ := KWALK.out (.inl c4)
    have kw1b : (b.held == 0) = false := by simp [kw1]
    have kw5b : (DB.axis != b.axis) = false := by simp [kw5]
    have kw2b : (DB.held != b.held) = false := by simp [kw2]
    go_upto_region 14 with fail
    refine at_world (S := fun V => Blk V (w.heap.size) #[.slice a p.axes.length c, .int .i64 p.people, .int .i64 p.most, .slice e p.pulls.length d, .int .i64 p.cross] 25 ∧ Blk V (w.heap.size + 1) #[.int .u8 b.ship, .int .i64 b.axis, .int .i64 b.held, .bool b.wire, .bool b.opn] 37 ∧ Blk V (w.heap.size + 1 + 1) #[.int .u8 s.act.kind, .int .i64 s.act.n, .int .i64 s.wind.xlo, .int .i64 s.wind.xhi, .int .i64 s.wind.ylo, .int .i64 s.wind.yhi] 61 ∧ Blk V (n2) #[.int .u8 DB.ship, .int .i64 DB.axis, .int .i64 DB.held, .bool DB.wire, .bool DB.opn] 37 ∧ Kept w V) ⟨r0, r1, r2, q1, hk⟩ ?_
    clear r0c0 r0f0 r0c1 r0f1 r0c2 r0f2 r0c3 r0f3 r0c4 r0f4 r0l r1c0 r1f0 r1c1 r1f1 r1c2 r1f2 r1c3 r1f3 r1c4 r1f4 r1l r2c0 r2f0 r2c1 r2f1 r2c2 r2f2 r2c3 r2f3 r2c4 r2f4 r2c5 r2f5 r2l q1c0 q1f0 q1c1 q1f1 q1c2 q1f2 q1c3 q1f3 q1c4 q1f4 q1l
    clear r0 r1 r2 q1 hk
    rintro V ⟨r0, r1, r2, q1, hk⟩
    obtain ⟨bb, off, haa, hbl, g0, g1⟩ := Axis.row (hx.later hk (Nat.le_refl _)) bn hbn
    obtain ⟨A0, hA0⟩ : ∃ x, x = p.axes[bn] := ⟨_, rfl⟩
    have HCC := fun W => f_Calm s.wind A0 p.cross W
    rw [← hA0] at g0 g1
    have hcm := HCM.out
    rw [← hA0] at hcm
    rw [hcm.1, hcm.2] at HCC
    clear hcm
    have x0 := fun g : Later V => g.some g0
    have x1 := fun g : Later V => g.some g1
    clear g0 g1 hA0
    have hbe := HBE.out
    have r0c0 := fun g : Later V => (r0.later g).cell 0
    have r0f0 := fun g : Later V => (r0.later g).free 0
    have r0c1 := fun g : Later V => (r0.later g).cell 1
    have r0f1 := fun g : Later V => (r0.later g).free 1
    have r0c2 := fun g : Later V => (r0.later g).cell 2
    have r0f2 := fun g : Later V => (r0.later g).free 2
    have r0c3 := fun g : Later V => (r0.later g).cell 3
    have r0f3 := fun g : Later V => (r0.later g).free 3
    have r0c4 := fun g : Later V => (r0.later g).cell 4
    have r0f4 := fun g : Later V => (r0.later g).free 4
    have r0l := fun g : Later V => (r0.later g).lt
    simp at r0c0 r0c1 r0c2 r0c3 r0c4
    have r1c0 := fun g : Later V => (r1.later g).cell 0
    have r1f0 := fun g : Later V => (r1.later g).free 0
    have r1c1 := fun g : Later V => (r1.later g).cell 1
    have r1f1 := fun g : Later V => (r1.later g).free 1
    have r1c2 := fun g : Later V => (r1.later g).cell 2
    have r1f2 := fun g : Later V => (r1.later g).free 2
    have r1c3 := fun g : Later V => (r1.later g).cell 3
    have r1f3 := fun g : Later V => (r1.later g).free 3
    have r1c4 := fun g : Later V => (r1.later g).cell 4
    have r1f4 := fun g : Later V => (r1.later g).free 4
    have r1l := fun g : Later V => (r1.later g).lt
    simp at r1c0 r1c1 r1c2 r1c3 r1c4
    have r2c0 := fun g : Later V => (r2.later g).cell 0
    have r2f0 := fun g : Later V => (r2.later g).free 0
    have r2c1 := fun g : Later V => (r2.later g).cell 1
    have r2f1 := fun g : Later V => (r2.later g).free 1
    have r2c2 := fun g : Later V => (r2.later g).cell 2
    have r2f2 := fun g : Later V => (r2.later g).free 2
    have r2c3 := fun g : Later V => (r2.later g).cell 3
    have r2f3 := fun g : Later V => (r2.later g).free 3
    have r2c4 := fun g : Later V => (r2.later g).cell 4
    have r2f4 := fun g : Later V => (r2.later g).free 4
    have r2c5 := fun g : Later V => (r2.later g).cell 5
    have r2f5 := fun g : Later V => (r2.later g).free 5
    have r2l := fun g : Later V => (r2.later g).lt
    simp at r2c0 r2c1 r2c2 r2c3 r2c4 r2c5
    have q1c0 := fun g : Later V => (q1.later g).cell 0
    have q1f0 := fun g : Later V => (q1.later g).free 0
    have q1c1 := fun g : Later V => (q1.later g).cell 1
    have q1f1 := fun g : Later V => (q1.later g).free 1
    have q1c2 := fun g : Later V => (q1.later g).cell 2
    have q1f2 := fun g : Later V => (q1.later g).free 2
    have q1c3 := fun g : Later V => (q1.later g).cell 3
    have q1f3 := fun g : Later V => (q1.later g).free 3
    have q1c4 := fun g : Later V => (q1.later g).cell 4
    have q1f4 := fun g : Later V => (q1.later g).free 4
    have q1l := fun g : Later V => (q1.later g).lt
    simp at q1c0 q1c1 q1c2 q1c3 q1c4
    refine Later.region (by kernel_rfl) (by kernel_rfl) ?_
    repeat (first | go_big_quiet_skip | (go_big_quiet_want; go_big_quiet_op; first | go_big_quiet_on | (apply Exists.intro; refine ⟨fun g_ => ?_, ?_⟩; (focus (first | (go_at_call 22; with_reducible exact Later.call (HCC _)))); go_big_quiet_on)))
    refine wpQuiet_nil ?_
    intro gg
    clear hbe haa kw1 kw1b kw2 kw2b kw3 kw4 kw5
    have hkg := Kept.drop hk gg.ok
    clear r0c0 r0f0 r0c1 r0f1 r0c2 r0f2 r0c3 r0f3 r0c4 r0f4 r0l r1c0 r1f0 r1c1 r1f1 r1c2 r1f2 r1c3 r1f3 r1c4 r1f4 r1l r2c0 r2f0 r2c1 r2f1 r2c2 r2f2 r2c3 r2f3 r2c4 r2f4 r2c5 r2f5 r2l q1c0 q1f0 q1c1 q1f1 q1c2 q1f2 q1c3 q1f3 q1c4 q1f4 q1l
    have m0 := r0.later gg
    have m1 := r1.later gg
    have m2 := r2.later gg
    have m3 := q1.later gg
    clear r0 r1 r2 q1 hk
    obtain ⟨r0, r1, r2, q1, hk⟩ : _ ∧ _ ∧ _ ∧ _ ∧ _ := ⟨m0, m1, m2, m3, hkg⟩
    clear m0 m1 m2 m3 hkg
    have r0c0 := r0.cell 0
    have r0f0 := r0.free 0
    have r0c1 := r0.cell 1
    have r0f1 := r0.free 1
    have r0c2 := r0.cell 2
    have r0f2 := r0.free 2
    have r0c3 := r0.cell 3
    have r0f3 := r0.free 3
    have r0c4 := r0.cell 4
    have r0f4 := r0.free 4
    have r0l := r0.lt
    simp at r0c0 r0c1 r0c2 r0c3 r0c4
    have r1c0 := r1.cell 0
    have r1f0 := r1.free 0
    have r1c1 := r1.cell 1
    have r1f1 := r1.free 1
    have r1c2 := r1.cell 2
    have r1f2 := r1.free 2
    have r1c3 := r1.cell 3
    have r1f3 := r1.free 3
    have r1c4 := r1.cell 4
    have r1f4 := r1.free 4
    have r1l := r1.lt
    simp at r1c0 r1c1 r1c2 r1c3 r1c4
    have r2c0 := r2.cell 0
    have r2f0 := r2.free 0
    have r2c1 := r2.cell 1
    have r2f1 := r2.free 1
    have r2c2 := r2.cell 2
    have r2f2 := r2.free 2
    have r2c3 := r2.cell 3
    have r2f3 := r2.free 3
    have r2c4 := r2.cell 4
    have r2f4 := r2.free 4
    have r2c5 := r2.cell 5
    have r2f5 := r2.free 5
    have r2l := r2.lt
    simp at r2c0 r2c1 r2c2 r2c3 r2c4 r2c5
    have q1c0 := q1.cell 0
    have q1f0 := q1.free 0
    have q1c1 := q1.cell 1
    have q1f1 := q1.free 1
    have q1c2 := q1.cell 2
    have q1f2 := q1.free 2
    have q1c3 := q1.cell 3
    have q1f3 := q1.free 3
    have q1c4 := q1.cell 4
    have q1f4 := q1.free 4
    have q1l := q1.lt
    simp at q1c0 q1c1 q1c2 q1c3 q1c4
    cases CV
    · have kd := kw6.resolve_left (by simp)
      have kdb : (s.act.kind != 13) = false := by simp [kd]
      go_wp2
      go_loopw [13, 161] (fun s13 i wr => ∃ k : Nat, k ≤ p.pulls.length ∧ i = .int .i64 k ∧ s13 = .int .i64 (total (needs p.most (p.pulls.take k))) ∧ Blk wr (w.heap.size) #[.slice a p.axes.length c, .int .i64 p.people, .int .i64 p.most, .slice e p.pulls.length d, .int .i64 p.cross] 25 ∧ Blk wr (w.heap.size + 1) #[.int .u8 b.ship, .int .i64 b.axis, .int .i64 b.held, .bool b.wire, .bool b.opn] 37 ∧ Blk wr (w.heap.size + 1 + 1) #[.int .u8 s.act.kind, .int .i64 s.act.n, .int .i64 s.wind.xlo, .int .i64 s.wind.xhi, .int .i64 s.wind.ylo, .int .i64 s.wind.yhi] 61 ∧ Blk wr (n2) #[.int .u8 DB.ship, .int .i64 DB.axis, .int .i64 DB.held, .bool DB.wire, .bool DB.opn] 37 ∧ Kept w wr) (fun _ i _ => p.pulls.length - (intOf i).toNat)
      case atStart => exact ⟨0, Nat.zero_le _, rfl, rfl, r0, r1, r2, q1, hk⟩
      case round =>
        clear r0c0 r0f0 r0c1 r0f1 r0c2 r0f2 r0c3 r0f3 r0c4 r0f4 r0l r1c0 r1f0 r1c1 r1f1 r1c2 r1f2 r1c3 r1f3 r1c4 r1f4 r1l r2c0 r2f0 r2c1 r2f1 r2c2 r2f2 r2c3 r2f3 r2c4 r2f4 r2c5 r2f5 r2l q1c0 q1f0 q1c1 q1f1 q1c2 q1f2 q1c3 q1f3 q1c4 q1f4 q1l
        clear r0 r1 r2 q1 hk
        obtain ⟨k, hkl, rfl, rfl, r0, r1, r2, q1, hk⟩ := hrel
        by_cases hlt : k < p.pulls.length
        · obtain ⟨bb, off, rfl, hbl, g0, g1⟩ := Span.row (hy.later hk (Nat.le_refl _)) k hlt
          have HN := Lib.hid (needs_take (m := p.most) hlt)
          have hb := line_bd (HV.out _ (List.getElem_mem hlt))
          have htk := total_bd (needs_bd hm1.1 (fun s hs => HV.out s (List.mem_of_mem_take hs)) (m := p.most) (l := p.pulls.take k))
          have hll : (needs p.most (p.pulls.take k)).length ≤ 8 := by rw [needs_len, List.length_take]; omega
          obtain ⟨y, hy0⟩ : ∃ y, y = p.pulls[k] := ⟨_, rfl⟩
          rw [← hy0] at HN hb g0 g1
          clear hy0
          have hnb := need_bd hm1.1 hb.1 hb.2
          have HQ : (y.hi + p.most - 1) / p.most = needOf p.most y := rfl
          have HT : (y.hi + p.most - 1).tdiv p.most = needOf p.most y := by rw [Int.tdiv_eq_ediv_of_nonneg (by omega)]; rfl
          obtain ⟨q, hq⟩ : ∃ q, q = needOf p.most y := ⟨_, rfl⟩
          rw [← hq] at HN HQ HT hnb
          clear hq
          have HS : total (needs p.most (p.pulls.take k)) + q = total (needs p.most (p.pulls.take (k + 1))) := by rw [HN.out, total_snoc]
          have hw1 := i64_in (n := y.hi + p.most) (by omega)
          have hw2 := i64_in (n := y.hi + p.most - 1) (by omega)
          have hw3 := i64_in (n := q) (by omega)
          obtain ⟨S0, hS0⟩ : ∃ x, x = total (needs p.most (p.pulls.take k)) := ⟨_, rfl⟩
          rw [← hS0] at HS htk ⊢
          have HSS := Lib.hid HS
          have hw4 := i64_in (n := S0 + q) (by omega)
          clear HS hS0
          have j0 : (0 : Int) ≤ (k : Int) := by omega
          have j1 : (k : Int) < (p.pulls.length : Int) := by omega
          have hz : (p.most == 0) = false := by simp; omega
          have hz1 : ¬ p.most = 0 := by omega
          have r0c0 := r0.cell 0
          have r0f0 := r0.free 0
          have r0c1 := r0.cell 1
          have r0f1 := r0.free 1
          have r0c2 := r0.cell 2
          have r0f2 := r0.free 2
          have r0c3 := r0.cell 3
          have r0f3 := r0.free 3
          have r0c4 := r0.cell 4
          have r0f4 := r0.free 4
          have r0l := r0.lt
          simp at r0c0 r0c1 r0c2 r0c3 r0c4
          have r1c0 := r1.cell 0
          have r1f0 := r1.free 0
          have r1c1 := r1.cell 1
          have r1f1 := r1.free 1
          have r1c2 := r1.cell 2
          have r1f2 := r1.free 2
          have r1c3 := r1.cell 3
          have r1f3 := r1.free 3
          have r1c4 := r1.cell 4
          have r1f4 := r1.free 4
          have r1l := r1.lt
          simp at r1c0 r1c1 r1c2 r1c3 r1c4
          have r2c0 := r2.cell 0
          have r2f0 := r2.free 0
          have r2c1 := r2.cell 1
          have r2f1 := r2.free 1
          have r2c2 := r2.cell 2
          have r2f2 := r2.free 2
          have r2c3 := r2.cell 3
          have r2f3 := r2.free 3
          have r2c4 := r2.cell 4
          have r2f4 := r2.free 4
          have r2c5 := r2.cell 5
          have r2f5 := r2.free 5
          have r2l := r2.lt
          simp at r2c0 r2c1 r2c2 r2c3 r2c4 r2c5
          have q1c0 := q1.cell 0
          have q1f0 := q1.free 0
          have q1c1 := q1.cell 1
          have q1f1 := q1.free 1
          have q1c2 := q1.cell 2
          have q1f2 := q1.free 2
          have q1c3 := q1.cell 3
          have q1f3 := q1.free 3
          have q1c4 := q1.cell 4
          have q1f4 := q1.free 4
          have q1l := q1.lt
          simp at q1c0 q1c1 q1c2 q1c3 q1c4
          go_wp2
          go_roundw
          case rel => exact ⟨k + 1, by omega, by go_num, by rw [HSS.out], by (exact blk), by (exact blk), by (exact blk), by (exact blk), by (exact kpt)⟩
          case measure => simp [intOf]; omega
        · obtain rfl : p.pulls.length = k := by omega
          rw [List.take_length]
          obtain ⟨TT, hTT⟩ : ∃ x, x = total (needs p.most p.pulls) := ⟨_, rfl⟩
          have KH := KHELD.out
          rw [← hTT] at KH ⊢
          clear hTT
          have j1 : ¬ (p.pulls.length : Int) < (p.pulls.length : Int) := by omega
          have r0c0 := r0.cell 0
          have r0f0 := r0.free 0
          have r0c1 := r0.cell 1
          have r0f1 := r0.free 1
          have r0c2 := r0.cell 2
          have r0f2 := r0.free 2
          have r0c3 := r0.cell 3
          have r0f3 := r0.free 3
          have r0c4 := r0.cell 4
          have r0f4 := r0.free 4
          have r0l := r0.lt
          simp at r0c0 r0c1 r0c2 r0c3 r0c4
          have r1c0 := r1.cell 0
          have r1f0 := r1.free 0
          have r1c1 := r1.cell 1
          have r1f1 := r1.free 1
          have r1c2 := r1.cell 2
          have r1f2 := r1.free 2
          have r1c3 := r1.cell 3
          have r1f3 := r1.free 3
          have r1c4 := r1.cell 4
          have r1f4 := r1.free 4
          have r1l := r1.lt
          simp at r1c0 r1c1 r1c2 r1c3 r1c4
          have r2c0 := r2.cell 0
          have r2f0 := r2.free 0
          have r2c1 := r2.cell 1
          have r2f1 := r2.free 1
          have r2c2 := r2.cell 2
          have r2f2 := r2.free 2
          have r2c3 := r2.cell 3
          have r2f3 := r2.free 3
          have r2c4 := r2.cell 4
          have r2f4 := r2.free 4
          have r2c5 := r2.cell 5
          have r2f5 := r2.free 5
          have r2l := r2.lt
          simp at r2c0 r2c1 r2c2 r2c3 r2c4 r2c5
          have q1c0 := q1.cell 0
          have q1f0 := q1.free 0
          have q1c1 := q1.cell 1
          have q1f1 := q1.free 1
          have q1c2 := q1.cell 2
          have q1f2 := q1.free 2
          have q1c3 := q1.cell 3
          have q1f3 := q1.free 3
          have q1c4 := q1.cell 4
          have q1f4 := q1.free 4
          have q1l := q1.lt
          simp at q1c0 q1c1 q1c2 q1c3 q1c4
          rcases KH with k0 | ⟨k1, k2⟩
          · first
            | (exfalso; omega)
            | (have kb : (DB.held == 0) = true := by simp [k0]
               clear k0
               go_wp2
               go_ret
               exact ⟨rfl, by (exact kpt)⟩)
          · by_cases k0 : DB.held = 0
            · first
              | (exfalso; omega)
              | (have kb : (DB.held == 0) = true := by simp [k0]
                 clear k0
                 go_wp2
                 go_ret
                 exact ⟨rfl, by (exact kpt)⟩)
            · have kb : (DB.held == 0) = false := by simp [k0]
              go_wp2
              go_ret
              exact ⟨rfl, by (exact kpt)⟩
    · go_wp2
      go_loopw [13, 161] (fun s13 i wr => ∃ k : Nat, k ≤ p.pulls.length ∧ i = .int .i64 k ∧ s13 = .int .i64 (total (needs p.most (p.pulls.take k))) ∧ Blk wr (w.heap.size) #[.slice a p.axes.length c, .int .i64 p.people, .int .i64 p.most, .slice e p.pulls.length d, .int .i64 p.cross] 25 ∧ Blk wr (w.heap.size + 1) #[.int .u8 b.ship, .int .i64 b.axis, .int .i64 b.held, .bool b.wire, .bool b.opn] 37 ∧ Blk wr (w.heap.size + 1 + 1) #[.int .u8 s.act.kind, .int .i64 s.act.n, .int .i64 s.wind.xlo, .int .i64 s.wind.xhi, .int .i64 s.wind.ylo, .int .i64 s.wind.yhi] 61 ∧ Blk wr (n2) #[.int .u8 DB.ship, .int .i64 DB.axis, .int .i64 DB.held, .bool DB.wire, .bool DB.opn] 37 ∧ Kept w wr) (fun _ i _ => p.pulls.length - (intOf i).toNat)
      case atStart => exact ⟨0, Nat.zero_le _, rfl, rfl, r0, r1, r2, q1, hk⟩
      case round =>
        clear r0c0 r0f0 r0c1 r0f1 r0c2 r0f2 r0c3 r0f3 r0c4 r0f4 r0l r1c0 r1f0 r1c1 r1f1 r1c2 r1f2 r1c3 r1f3 r1c4 r1f4 r1l r2c0 r2f0 r2c1 r2f1 r2c2 r2f2 r2c3 r2f3 r2c4 r2f4 r2c5 r2f5 r2l q1c0 q1f0 q1c1 q1f1 q1c2 q1f2 q1c3 q1f3 q1c4 q1f4 q1l
        clear r0 r1 r2 q1 hk
        obtain ⟨k, hkl, rfl, rfl, r0, r1, r2, q1, hk⟩ := hrel
        by_cases hlt : k < p.pulls.length
        · obtain ⟨bb, off, rfl, hbl, g0, g1⟩ := Span.row (hy.later hk (Nat.le_refl _)) k hlt
          have HN := Lib.hid (needs_take (m := p.most) hlt)
          have hb := line_bd (HV.out _ (List.getElem_mem hlt))
          have htk := total_bd (needs_bd hm1.1 (fun s hs => HV.out s (List.mem_of_mem_take hs)) (m := p.most) (l := p.pulls.take k))
          have hll : (needs p.most (p.pulls.take k)).length ≤ 8 := by rw [needs_len, List.length_take]; omega
          obtain ⟨y, hy0⟩ : ∃ y, y = p.pulls[k] := ⟨_, rfl⟩
          rw [← hy0] at HN hb g0 g1
          clear hy0
          have hnb := need_bd hm1.1 hb.1 hb.2
          have HQ : (y.hi + p.most - 1) / p.most = needOf p.most y := rfl
          have HT : (y.hi + p.most - 1).tdiv p.most = needOf p.most y := by rw [Int.tdiv_eq_ediv_of_nonneg (by omega)]; rfl
          obtain ⟨q, hq⟩ : ∃ q, q = needOf p.most y := ⟨_, rfl⟩
          rw [← hq] at HN HQ HT hnb
          clear hq
          have HS : total (needs p.most (p.pulls.take k)) + q = total (needs p.most (p.pulls.take (k + 1))) := by rw [HN.out, total_snoc]
          have hw1 := i64_in (n := y.hi + p.most) (by omega)
          have hw2 := i64_in (n := y.hi + p.most - 1) (by omega)
          have hw3 := i64_in (n := q) (by omega)
          obtain ⟨S0, hS0⟩ : ∃ x, x = total (needs p.most (p.pulls.take k)) := ⟨_, rfl⟩
          rw [← hS0] at HS htk ⊢
          have HSS := Lib.hid HS
          have hw4 := i64_in (n := S0 + q) (by omega)
          clear HS hS0
          have j0 : (0 : Int) ≤ (k : Int) := by omega
          have j1 : (k : Int) < (p.pulls.length : Int) := by omega
          have hz : (p.most == 0) = false := by simp; omega
          have hz1 : ¬ p.most = 0 := by omega
          have r0c0 := r0.cell 0
          have r0f0 := r0.free 0
          have r0c1 := r0.cell 1
          have r0f1 := r0.free 1
          have r0c2 := r0.cell 2
          have r0f2 := r0.free 2
          have r0c3 := r0.cell 3
          have r0f3 := r0.free 3
          have r0c4 := r0.cell 4
          have r0f4 := r0.free 4
          have r0l := r0.lt
          simp at r0c0 r0c1 r0c2 r0c3 r0c4
          have r1c0 := r1.cell 0
          have r1f0 := r1.free 0
          have r1c1 := r1.cell 1
          have r1f1 := r1.free 1
          have r1c2 := r1.cell 2
          have r1f2 := r1.free 2
          have r1c3 := r1.cell 3
          have r1f3 := r1.free 3
          have r1c4 := r1.cell 4
          have r1f4 := r1.free 4
          have r1l := r1.lt
          simp at r1c0 r1c1 r1c2 r1c3 r1c4
          have r2c0 := r2.cell 0
          have r2f0 := r2.free 0
          have r2c1 := r2.cell 1
          have r2f1 := r2.free 1
          have r2c2 := r2.cell 2
          have r2f2 := r2.free 2
          have r2c3 := r2.cell 3
          have r2f3 := r2.free 3
          have r2c4 := r2.cell 4
          have r2f4 := r2.free 4
          have r2c5 := r2.cell 5
          have r2f5 := r2.free 5
          have r2l := r2.lt
          simp at r2c0 r2c1 r2c2 r2c3 r2c4 r2c5
          have q1c0 := q1.cell 0
          have q1f0 := q1.free 0
          have q1c1 := q1.cell 1
          have q1f1 := q1.free 1
          have q1c2 := q1.cell 2
          have q1f2 := q1.free 2
          have q1c3 := q1.cell 3
          have q1f3 := q1.free 3
          have q1c4 := q1.cell 4
          have q1f4 := q1.free 4
          have q1l := q1.lt
          simp at q1c0 q1c1 q1c2 q1c3 q1c4
          go_wp2
          go_roundw
          case rel => exact ⟨k + 1, by omega, by go_num, by rw [HSS.out], by (exact blk), by (exact blk), by (exact blk), by (exact blk), by (exact kpt)⟩
          case measure => simp [intOf]; omega
        · obtain rfl : p.pulls.length = k := by omega
          rw [List.take_length]
          obtain ⟨TT, hTT⟩ : ∃ x, x = total (needs p.most p.pulls) := ⟨_, rfl⟩
          have KH := KHELD.out
          rw [← hTT] at KH ⊢
          clear hTT
          have j1 : ¬ (p.pulls.length : Int) < (p.pulls.length : Int) := by omega
          have r0c0 := r0.cell 0
          have r0f0 := r0.free 0
          have r0c1 := r0.cell 1
          have r0f1 := r0.free 1
          have r0c2 := r0.cell 2
          have r0f2 := r0.free 2
          have r0c3 := r0.cell 3
          have r0f3 := r0.free 3
          have r0c4 := r0.cell 4
          have r0f4 := r0.free 4
          have r0l := r0.lt
          simp at r0c0 r0c1 r0c2 r0c3 r0c4
          have r1c0 := r1.cell 0
          have r1f0 := r1.free 0
          have r1c1 := r1.cell 1
          have r1f1 := r1.free 1
          have r1c2 := r1.cell 2
          have r1f2 := r1.free 2
          have r1c3 := r1.cell 3
          have r1f3 := r1.free 3
          have r1c4 := r1.cell 4
          have r1f4 := r1.free 4
          have r1l := r1.lt
          simp at r1c0 r1c1 r1c2 r1c3 r1c4
          have r2c0 := r2.cell 0
          have r2f0 := r2.free 0
          have r2c1 := r2.cell 1
          have r2f1 := r2.free 1
          have r2c2 := r2.cell 2
          have r2f2 := r2.free 2
          have r2c3 := r2.cell 3
          have r2f3 := r2.free 3
          have r2c4 := r2.cell 4
          have r2f4 := r2.free 4
          have r2c5 := r2.cell 5
          have r2f5 := r2.free 5
          have r2l := r2.lt
          simp at r2c0 r2c1 r2c2 r2c3 r2c4 r2c5
          have q1c0 := q1.cell 0
          have q1f0 := q1.free 0
          have q1c1 := q1.cell 1
          have q1f1 := q1.free 1
          have q1c2 := q1.cell 2
          have q1f2 := q1.free 2
          have q1c3 := q1.cell 3
          have q1f3 := q1.free 3
          have q1c4 := q1.cell 4
          have q1f4 := q1.free 4
          have q1l := q1.lt
          simp at q1c0 q1c1 q1c2 q1c3 q1c4
          rcases KH with k0 | ⟨k1, k2⟩
          · first
            | (exfalso; omega)
            | (have kb : (DB.held == 0) = true := by simp [k0]
               clear k0
               go_wp2
               go_ret
               exact ⟨rfl, by (exact kpt)⟩)
          · by_cases k0 : DB.held = 0
            · first
              | (exfalso; omega)
              | (have kb : (DB.held == 0) = true := by simp [k0]
                 clear k0
                 go_wp2
                 go_ret
                 exact ⟨rfl, by (exact kpt)⟩)
            · have kb : (DB.held == 0) = false := by simp [k0]
              go_wp2
              go_ret
              exact ⟨rfl, by (exact kpt)⟩
  · have c4b : (DB.ship == 4) = false := by simp [c4]
    by_cases b4 : b.ship = 4
    · have b4b : (b.ship == 4) = true := by simp [b4]
      obtain ⟨⟨kw1, kw2, kw3, kw4, kw5, kw7, kw8⟩, kw6⟩ := KWALK.out (.inr b4)
      have kw1b : (b.held == 0) = false := by simp [kw1]
      have kw5b : (DB.axis != b.axis) = false := by simp [kw5]
      have kw2b : (DB.held != b.held) = false := by simp [kw2]
      go_upto_region 14 with fail
      refine at_world (S := fun V => Blk V (w.heap.size) #[.slice a p.axes.length c, .int .i64 p.people, .int .i64 p.most, .slice e p.pulls.length d, .int .i64 p.cross] 25 ∧ Blk V (w.heap.size + 1) #[.int .u8 b.ship, .int .i64 b.axis, .int .i64 b.held, .bool b.wire, .bool b.opn] 37 ∧ Blk V (w.heap.size + 1 + 1) #[.int .u8 s.act.kind, .int .i64 s.act.n, .int .i64 s.wind.xlo, .int .i64 s.wind.xhi, .int .i64 s.wind.ylo, .int .i64 s.wind.yhi] 61 ∧ Blk V (n2) #[.int .u8 DB.ship, .int .i64 DB.axis, .int .i64 DB.held, .bool DB.wire, .bool DB.opn] 37 ∧ Kept w V) ⟨r0, r1, r2, q1, hk⟩ ?_
      clear r0c0 r0f0 r0c1 r0f1 r0c2 r0f2 r0c3 r0f3 r0c4 r0f4 r0l r1c0 r1f0 r1c1 r1f1 r1c2 r1f2 r1c3 r1f3 r1c4 r1f4 r1l r2c0 r2f0 r2c1 r2f1 r2c2 r2f2 r2c3 r2f3 r2c4 r2f4 r2c5 r2f5 r2l q1c0 q1f0 q1c1 q1f1 q1c2 q1f2 q1c3 q1f3 q1c4 q1f4 q1l
      clear r0 r1 r2 q1 hk
      rintro V ⟨r0, r1, r2, q1, hk⟩
      obtain ⟨bb, off, haa, hbl, g0, g1⟩ := Axis.row (hx.later hk (Nat.le_refl _)) bn hbn
      obtain ⟨A0, hA0⟩ : ∃ x, x = p.axes[bn] := ⟨_, rfl⟩
      have HCC := fun W => f_Calm s.wind A0 p.cross W
      rw [← hA0] at g0 g1
      have hcm := HCM.out
      rw [← hA0] at hcm
      rw [hcm.1, hcm.2] at HCC
      clear hcm
      have x0 := fun g : Later V => g.some g0
      have x1 := fun g : Later V => g.some g1
      clear g0 g1 hA0
      have hbe := HBE.out
      have r0c0 := fun g : Later V => (r0.later g).cell 0
      have r0f0 := fun g : Later V => (r0.later g).free 0
      have r0c1 := fun g : Later V => (r0.later g).cell 1
      have r0f1 := fun g : Later V => (r0.later g).free 1
      have r0c2 := fun g : Later V => (r0.later g).cell 2
      have r0f2 := fun g : Later V => (r0.later g).free 2
      have r0c3 := fun g : Later V => (r0.later g).cell 3
      have r0f3 := fun g : Later V => (r0.later g).free 3
      have r0c4 := fun g : Later V => (r0.later g).cell 4
      have r0f4 := fun g : Later V => (r0.later g).free 4
      have r0l := fun g : Later V => (r0.later g).lt
      simp at r0c0 r0c1 r0c2 r0c3 r0c4
      have r1c0 := fun g : Later V => (r1.later g).cell 0
      have r1f0 := fun g : Later V => (r1.later g).free 0
      have r1c1 := fun g : Later V => (r1.later g).cell 1
      have r1f1 := fun g : Later V => (r1.later g).free 1
      have r1c2 := fun g : Later V => (r1.later g).cell 2
      have r1f2 := fun g : Later V => (r1.later g).free 2
      have r1c3 := fun g : Later V => (r1.later g).cell 3
      have r1f3 := fun g : Later V => (r1.later g).free 3
      have r1c4 := fun g : Later V => (r1.later g).cell 4
      have r1f4 := fun g : Later V => (r1.later g).free 4
      have r1l := fun g : Later V => (r1.later g).lt
      simp at r1c0 r1c1 r1c2 r1c3 r1c4
      have r2c0 := fun g : Later V => (r2.later g).cell 0
      have r2f0 := fun g : Later V => (r2.later g).free 0
      have r2c1 := fun g : Later V => (r2.later g).cell 1
      have r2f1 := fun g : Later V => (r2.later g).free 1
      have r2c2 := fun g : Later V => (r2.later g).cell 2
      have r2f2 := fun g : Later V => (r2.later g).free 2
      have r2c3 := fun g : Later V => (r2.later g).cell 3
      have r2f3 := fun g : Later V => (r2.later g).free 3
      have r2c4 := fun g : Later V => (r2.later g).cell 4
      have r2f4 := fun g : Later V => (r2.later g).free 4
      have r2c5 := fun g : Later V => (r2.later g).cell 5
      have r2f5 := fun g : Later V => (r2.later g).free 5
      have r2l := fun g : Later V => (r2.later g).lt
      simp at r2c0 r2c1 r2c2 r2c3 r2c4 r2c5
      have q1c0 := fun g : Later V => (q1.later g).cell 0
      have q1f0 := fun g : Later V => (q1.later g).free 0
      have q1c1 := fun g : Later V => (q1.later g).cell 1
      have q1f1 := fun g : Later V => (q1.later g).free 1
      have q1c2 := fun g : Later V => (q1.later g).cell 2
      have q1f2 := fun g : Later V => (q1.later g).free 2
      have q1c3 := fun g : Later V => (q1.later g).cell 3
      have q1f3 := fun g : Later V => (q1.later g).free 3
      have q1c4 := fun g : Later V => (q1.later g).cell 4
      have q1f4 := fun g : Later V => (q1.later g).free 4
      have q1l := fun g : Later V => (q1.later g).lt
      simp at q1c0 q1c1 q1c2 q1c3 q1c4
      refine Later.region (by kernel_rfl) (by kernel_rfl) ?_
      repeat (first | go_big_quiet_skip | (go_big_quiet_want; go_big_quiet_op; first | go_big_quiet_on | (apply Exists.intro; refine ⟨fun g_ => ?_, ?_⟩; (focus (first | (go_at_call 22; with_reducible exact Later.call (HCC _)))); go_big_quiet_on)))
      refine wpQuiet_nil ?_
      intro gg
      clear hbe haa kw1 kw1b kw2 kw2b kw3 kw4 kw5
      have hkg := Kept.drop hk gg.ok
      clear r0c0 r0f0 r0c1 r0f1 r0c2 r0f2 r0c3 r0f3 r0c4 r0f4 r0l r1c0 r1f0 r1c1 r1f1 r1c2 r1f2 r1c3 r1f3 r1c4 r1f4 r1l r2c0 r2f0 r2c1 r2f1 r2c2 r2f2 r2c3 r2f3 r2c4 r2f4 r2c5 r2f5 r2l q1c0 q1f0 q1c1 q1f1 q1c2 q1f2 q1c3 q1f3 q1c4 q1f4 q1l
      have m0 := r0.later gg
      have m1 := r1.later gg
      have m2 := r2.later gg
      have m3 := q1.later gg
      clear r0 r1 r2 q1 hk
      obtain ⟨r0, r1, r2, q1, hk⟩ : _ ∧ _ ∧ _ ∧ _ ∧ _ := ⟨m0, m1, m2, m3, hkg⟩
      clear m0 m1 m2 m3 hkg
      have r0c0 := r0.cell 0
      have r0f0 := r0.free 0
      have r0c1 := r0.cell 1
      have r0f1 := r0.free 1
      have r0c2 := r0.cell 2
      have r0f2 := r0.free 2
      have r0c3 := r0.cell 3
      have r0f3 := r0.free 3
      have r0c4 := r0.cell 4
      have r0f4 := r0.free 4
      have r0l := r0.lt
      simp at r0c0 r0c1 r0c2 r0c3 r0c4
      have r1c0 := r1.cell 0
      have r1f0 := r1.free 0
      have r1c1 := r1.cell 1
      have r1f1 := r1.free 1
      have r1c2 := r1.cell 2
      have r1f2 := r1.free 2
      have r1c3 := r1.cell 3
      have r1f3 := r1.free 3
      have r1c4 := r1.cell 4
      have r1f4 := r1.free 4
      have r1l := r1.lt
      simp at r1c0 r1c1 r1c2 r1c3 r1c4
      have r2c0 := r2.cell 0
      have r2f0 := r2.free 0
      have r2c1 := r2.cell 1
      have r2f1 := r2.free 1
      have r2c2 := r2.cell 2
      have r2f2 := r2.free 2
      have r2c3 := r2.cell 3
      have r2f3 := r2.free 3
      have r2c4 := r2.cell 4
      have r2f4 := r2.free 4
      have r2c5 := r2.cell 5
      have r2f5 := r2.free 5
      have r2l := r2.lt
      simp at r2c0 r2c1 r2c2 r2c3 r2c4 r2c5
      have q1c0 := q1.cell 0
      have q1f0 := q1.free 0
      have q1c1 := q1.cell 1
      have q1f1 := q1.free 1
      have q1c2 := q1.cell 2
      have q1f2 := q1.free 2
      have q1c3 := q1.cell 3
      have q1f3 := q1.free 3
      have q1c4 := q1.cell 4
      have q1f4 := q1.free 4
      have q1l := q1.lt
      simp at q1c0 q1c1 q1c2 q1c3 q1c4
      cases CV
      · have kd := kw6.resolve_left (by simp)
        have kdb : (s.act.kind != 13) = false := by simp [kd]
        go_wp2
        go_loopw [13, 161] (fun s13 i wr => ∃ k : Nat, k ≤ p.pulls.length ∧ i = .int .i64 k ∧ s13 = .int .i64 (total (needs p.most (p.pulls.take k))) ∧ Blk wr (w.heap.size) #[.slice a p.axes.length c, .int .i64 p.people, .int .i64 p.most, .slice e p.pulls.length d, .int .i64 p.cross] 25 ∧ Blk wr (w.heap.size + 1) #[.int .u8 b.ship, .int .i64 b.axis, .int .i64 b.held, .bool b.wire, .bool b.opn] 37 ∧ Blk wr (w.heap.size + 1 + 1) #[.int .u8 s.act.kind, .int .i64 s.act.n, .int .i64 s.wind.xlo, .int .i64 s.wind.xhi, .int .i64 s.wind.ylo, .int .i64 s.wind.yhi] 61 ∧ Blk wr (n2) #[.int .u8 DB.ship, .int .i64 DB.axis, .int .i64 DB.held, .bool DB.wire, .bool DB.opn] 37 ∧ Kept w wr) (fun _ i _ => p.pulls.length - (intOf i).toNat)
        case atStart => exact ⟨0, Nat.zero_le _, rfl, rfl, r0, r1, r2, q1, hk⟩
        case round =>
          clear r0c0 r0f0 r0c1 r0f1 r0c2 r0f2 r0c3 r0f3 r0c4 r0f4 r0l r1c0 r1f0 r1c1 r1f1 r1c2 r1f2 r1c3 r1f3 r1c4 r1f4 r1l r2c0 r2f0 r2c1 r2f1 r2c2 r2f2 r2c3 r2f3 r2c4 r2f4 r2c5 r2f5 r2l q1c0 q1f0 q1c1 q1f1 q1c2 q1f2 q1c3 q1f3 q1c4 q1f4 q1l
          clear r0 r1 r2 q1 hk
          obtain ⟨k, hkl, rfl, rfl, r0, r1, r2, q1, hk⟩ := hrel
          by_cases hlt : k < p.pulls.length
          · obtain ⟨bb, off, rfl, hbl, g0, g1⟩ := Span.row (hy.later hk (Nat.le_refl _)) k hlt
            have HN := Lib.hid (needs_take (m := p.most) hlt)
            have hb := line_bd (HV.out _ (List.getElem_mem hlt))
            have htk := total_bd (needs_bd hm1.1 (fun s hs => HV.out s (List.mem_of_mem_take hs)) (m := p.most) (l := p.pulls.take k))
            have hll : (needs p.most (p.pulls.take k)).length ≤ 8 := by rw [needs_len, List.length_take]; omega
            obtain ⟨y, hy0⟩ : ∃ y, y = p.pulls[k] := ⟨_, rfl⟩
            rw [← hy0] at HN hb g0 g1
            clear hy0
            have hnb := need_bd hm1.1 hb.1 hb.2
            have HQ : (y.hi + p.most - 1) / p.most = needOf p.most y := rfl
            have HT : (y.hi + p.most - 1).tdiv p.most = needOf p.most y := by rw [Int.tdiv_eq_ediv_of_nonneg (by omega)]; rfl
            obtain ⟨q, hq⟩ : ∃ q, q = needOf p.most y := ⟨_, rfl⟩
            rw [← hq] at HN HQ HT hnb
            clear hq
            have HS : total (needs p.most (p.pulls.take k)) + q = total (needs p.most (p.pulls.take (k + 1))) := by rw [HN.out, total_snoc]
            have hw1 := i64_in (n := y.hi + p.most) (by omega)
            have hw2 := i64_in (n := y.hi + p.most - 1) (by omega)
            have hw3 := i64_in (n := q) (by omega)
            obtain ⟨S0, hS0⟩ : ∃ x, x = total (needs p.most (p.pulls.take k)) := ⟨_, rfl⟩
            rw [← hS0] at HS htk ⊢
            have HSS := Lib.hid HS
            have hw4 := i64_in (n := S0 + q) (by omega)
            clear HS hS0
            have j0 : (0 : Int) ≤ (k : Int) := by omega
            have j1 : (k : Int) < (p.pulls.length : Int) := by omega
            have hz : (p.most == 0) = false := by simp; omega
            have hz1 : ¬ p.most = 0 := by omega
            have r0c0 := r0.cell 0
            have r0f0 := r0.free 0
            have r0c1 := r0.cell 1
            have r0f1 := r0.free 1
            have r0c2 := r0.cell 2
            have r0f2 := r0.free 2
            have r0c3 := r0.cell 3
            have r0f3 := r0.free 3
            have r0c4 := r0.cell 4
            have r0f4 := r0.free 4
            have r0l := r0.lt
            simp at r0c0 r0c1 r0c2 r0c3 r0c4
            have r1c0 := r1.cell 0
            have r1f0 := r1.free 0
            have r1c1 := r1.cell 1
            have r1f1 := r1.free 1
            have r1c2 := r1.cell 2
            have r1f2 := r1.free 2
            have r1c3 := r1.cell 3
            have r1f3 := r1.free 3
            have r1c4 := r1.cell 4
            have r1f4 := r1.free 4
            have r1l := r1.lt
            simp at r1c0 r1c1 r1c2 r1c3 r1c4
            have r2c0 := r2.cell 0
            have r2f0 := r2.free 0
            have r2c1 := r2.cell 1
            have r2f1 := r2.free 1
            have r2c2 := r2.cell 2
            have r2f2 := r2.free 2
            have r2c3 := r2.cell 3
            have r2f3 := r2.free 3
            have r2c4 := r2.cell 4
            have r2f4 := r2.free 4
            have r2c5 := r2.cell 5
            have r2f5 := r2.free 5
            have r2l := r2.lt
            simp at r2c0 r2c1 r2c2 r2c3 r2c4 r2c5
            have q1c0 := q1.cell 0
            have q1f0 := q1.free 0
            have q1c1 := q1.cell 1
            have q1f1 := q1.free 1
            have q1c2 := q1.cell 2
            have q1f2 := q1.free 2
            have q1c3 := q1.cell 3
            have q1f3 := q1.free 3
            have q1c4 := q1.cell 4
            have q1f4 := q1.free 4
            have q1l := q1.lt
            simp at q1c0 q1c1 q1c2 q1c3 q1c4
            go_wp2
            go_roundw
            case rel => exact ⟨k + 1, by omega, by go_num, by rw [HSS.out], by (exact blk), by (exact blk), by (exact blk), by (exact blk), by (exact kpt)⟩
            case measure => simp [intOf]; omega
          · obtain rfl : p.pulls.length = k := by omega
            rw [List.take_length]
            obtain ⟨TT, hTT⟩ : ∃ x, x = total (needs p.most p.pulls) := ⟨_, rfl⟩
            have KH := KHELD.out
            rw [← hTT] at KH ⊢
            clear hTT
            have j1 : ¬ (p.pulls.length : Int) < (p.pulls.length : Int) := by omega
            have r0c0 := r0.cell 0
            have r0f0 := r0.free 0
            have r0c1 := r0.cell 1
            have r0f1 := r0.free 1
            have r0c2 := r0.cell 2
            have r0f2 := r0.free 2
            have r0c3 := r0.cell 3
            have r0f3 := r0.free 3
            have r0c4 := r0.cell 4
            have r0f4 := r0.free 4
            have r0l := r0.lt
            simp at r0c0 r0c1 r0c2 r0c3 r0c4
            have r1c0 := r1.cell 0
            have r1f0 := r1.free 0
            have r1c1 := r1.cell 1
            have r1f1 := r1.free 1
            have r1c2 := r1.cell 2
            have r1f2 := r1.free 2
            have r1c3 := r1.cell 3
            have r1f3 := r1.free 3
            have r1c4 := r1.cell 4
            have r1f4 := r1.free 4
            have r1l := r1.lt
            simp at r1c0 r1c1 r1c2 r1c3 r1c4
            have r2c0 := r2.cell 0
            have r2f0 := r2.free 0
            have r2c1 := r2.cell 1
            have r2f1 := r2.free 1
            have r2c2 := r2.cell 2
            have r2f2 := r2.free 2
            have r2c3 := r2.cell 3
            have r2f3 := r2.free 3
            have r2c4 := r2.cell 4
            have r2f4 := r2.free 4
            have r2c5 := r2.cell 5
            have r2f5 := r2.free 5
            have r2l := r2.lt
            simp at r2c0 r2c1 r2c2 r2c3 r2c4 r2c5
            have q1c0 := q1.cell 0
            have q1f0 := q1.free 0
            have q1c1 := q1.cell 1
            have q1f1 := q1.free 1
            have q1c2 := q1.cell 2
            have q1f2 := q1.free 2
            have q1c3 := q1.cell 3
            have q1f3 := q1.free 3
            have q1c4 := q1.cell 4
            have q1f4 := q1.free 4
            have q1l := q1.lt
            simp at q1c0 q1c1 q1c2 q1c3 q1c4
            rcases KH with k0 | ⟨k1, k2⟩
            · first
              | (exfalso; omega)
              | (have kb : (DB.held == 0) = true := by simp [k0]
                 clear k0
                 go_wp2
                 go_ret
                 exact ⟨rfl, by (exact kpt)⟩)
            · by_cases k0 : DB.held = 0
              · first
                | (exfalso; omega)
                | (have kb : (DB.held == 0) = true := by simp [k0]
                   clear k0
                   go_wp2
                   go_ret
                   exact ⟨rfl, by (exact kpt)⟩)
              · have kb : (DB.held == 0) = false := by simp [k0]
                go_wp2
                go_ret
                exact ⟨rfl, by (exact kpt)⟩
      · go_wp2
        go_loopw [13, 161] (fun s13 i wr => ∃ k : Nat, k ≤ p.pulls.length ∧ i = .int .i64 k ∧ s13 = .int .i64 (total (needs p.most (p.pulls.take k))) ∧ Blk wr (w.heap.size) #[.slice a p.axes.length c, .int .i64 p.people, .int .i64 p.most, .slice e p.pulls.length d, .int .i64 p.cross] 25 ∧ Blk wr (w.heap.size + 1) #[.int .u8 b.ship, .int .i64 b.axis, .int .i64 b.held, .bool b.wire, .bool b.opn] 37 ∧ Blk wr (w.heap.size + 1 + 1) #[.int .u8 s.act.kind, .int .i64 s.act.n, .int .i64 s.wind.xlo, .int .i64 s.wind.xhi, .int .i64 s.wind.ylo, .int .i64 s.wind.yhi] 61 ∧ Blk wr (n2) #[.int .u8 DB.ship, .int .i64 DB.axis, .int .i64 DB.held, .bool DB.wire, .bool DB.opn] 37 ∧ Kept w wr) (fun _ i _ => p.pulls.length - (intOf i).toNat)
        case atStart => exact ⟨0, Nat.zero_le _, rfl, rfl, r0, r1, r2, q1, hk⟩
        case round =>
          clear r0c0 r0f0 r0c1 r0f1 r0c2 r0f2 r0c3 r0f3 r0c4 r0f4 r0l r1c0 r1f0 r1c1 r1f1 r1c2 r1f2 r1c3 r1f3 r1c4 r1f4 r1l r2c0 r2f0 r2c1 r2f1 r2c2 r2f2 r2c3 r2f3 r2c4 r2f4 r2c5 r2f5 r2l q1c0 q1f0 q1c1 q1f1 q1c2 q1f2 q1c3 q1f3 q1c4 q1f4 q1l
          clear r0 r1 r2 q1 hk
          obtain ⟨k, hkl, rfl, rfl, r0, r1, r2, q1, hk⟩ := hrel
          by_cases hlt : k < p.pulls.length
          · obtain ⟨bb, off, rfl, hbl, g0, g1⟩ := Span.row (hy.later hk (Nat.le_refl _)) k hlt
            have HN := Lib.hid (needs_take (m := p.most) hlt)
            have hb := line_bd (HV.out _ (List.getElem_mem hlt))
            have htk := total_bd (needs_bd hm1.1 (fun s hs => HV.out s (List.mem_of_mem_take hs)) (m := p.most) (l := p.pulls.take k))
            have hll : (needs p.most (p.pulls.take k)).length ≤ 8 := by rw [needs_len, List.length_take]; omega
            obtain ⟨y, hy0⟩ : ∃ y, y = p.pulls[k] := ⟨_, rfl⟩
            rw [← hy0] at HN hb g0 g1
            clear hy0
            have hnb := need_bd hm1.1 hb.1 hb.2
            have HQ : (y.hi + p.most - 1) / p.most = needOf p.most y := rfl
            have HT : (y.hi + p.most - 1).tdiv p.most = needOf p.most y := by rw [Int.tdiv_eq_ediv_of_nonneg (by omega)]; rfl
            obtain ⟨q, hq⟩ : ∃ q, q = needOf p.most y := ⟨_, rfl⟩
            rw [← hq] at HN HQ HT hnb
            clear hq
            have HS : total (needs p.most (p.pulls.take k)) + q = total (needs p.most (p.pulls.take (k + 1))) := by rw [HN.out, total_snoc]
            have hw1 := i64_in (n := y.hi + p.most) (by omega)
            have hw2 := i64_in (n := y.hi + p.most - 1) (by omega)
            have hw3 := i64_in (n := q) (by omega)
            obtain ⟨S0, hS0⟩ : ∃ x, x = total (needs p.most (p.pulls.take k)) := ⟨_, rfl⟩
            rw [← hS0] at HS htk ⊢
            have HSS := Lib.hid HS
            have hw4 := i64_in (n := S0 + q) (by omega)
            clear HS hS0
            have j0 : (0 : Int) ≤ (k : Int) := by omega
            have j1 : (k : Int) < (p.pulls.length : Int) := by omega
            have hz : (p.most == 0) = false := by simp; omega
            have hz1 : ¬ p.most = 0 := by omega
            have r0c0 := r0.cell 0
            have r0f0 := r0.free 0
            have r0c1 := r0.cell 1
            have r0f1 := r0.free 1
            have r0c2 := r0.cell 2
            have r0f2 := r0.free 2
            have r0c3 := r0.cell 3
            have r0f3 := r0.free 3
            have r0c4 := r0.cell 4
            have r0f4 := r0.free 4
            have r0l := r0.lt
            simp at r0c0 r0c1 r0c2 r0c3 r0c4
            have r1c0 := r1.cell 0
            have r1f0 := r1.free 0
            have r1c1 := r1.cell 1
            have r1f1 := r1.free 1
            have r1c2 := r1.cell 2
            have r1f2 := r1.free 2
            have r1c3 := r1.cell 3
            have r1f3 := r1.free 3
            have r1c4 := r1.cell 4
            have r1f4 := r1.free 4
            have r1l := r1.lt
            simp at r1c0 r1c1 r1c2 r1c3 r1c4
            have r2c0 := r2.cell 0
            have r2f0 := r2.free 0
            have r2c1 := r2.cell 1
            have r2f1 := r2.free 1
            have r2c2 := r2.cell 2
            have r2f2 := r2.free 2
            have r2c3 := r2.cell 3
            have r2f3 := r2.free 3
            have r2c4 := r2.cell 4
            have r2f4 := r2.free 4
            have r2c5 := r2.cell 5
            have r2f5 := r2.free 5
            have r2l := r2.lt
            simp at r2c0 r2c1 r2c2 r2c3 r2c4 r2c5
            have q1c0 := q1.cell 0
            have q1f0 := q1.free 0
            have q1c1 := q1.cell 1
            have q1f1 := q1.free 1
            have q1c2 := q1.cell 2
            have q1f2 := q1.free 2
            have q1c3 := q1.cell 3
            have q1f3 := q1.free 3
            have q1c4 := q1.cell 4
            have q1f4 := q1.free 4
            have q1l := q1.lt
            simp at q1c0 q1c1 q1c2 q1c3 q1c4
            go_wp2
            go_roundw
            case rel => exact ⟨k + 1, by omega, by go_num, by rw [HSS.out], by (exact blk), by (exact blk), by (exact blk), by (exact blk), by (exact kpt)⟩
            case measure => simp [intOf]; omega
          · obtain rfl : p.pulls.length = k := by omega
            rw [List.take_length]
            obtain ⟨TT, hTT⟩ : ∃ x, x = total (needs p.most p.pulls) := ⟨_, rfl⟩
            have KH := KHELD.out
            rw [← hTT] at KH ⊢
            clear hTT
            have j1 : ¬ (p.pulls.length : Int) < (p.pulls.length : Int) := by omega
            have r0c0 := r0.cell 0
            have r0f0 := r0.free 0
            have r0c1 := r0.cell 1
            have r0f1 := r0.free 1
            have r0c2 := r0.cell 2
            have r0f2 := r0.free 2
            have r0c3 := r0.cell 3
            have r0f3 := r0.free 3
            have r0c4 := r0.cell 4
            have r0f4 := r0.free 4
            have r0l := r0.lt
            simp at r0c0 r0c1 r0c2 r0c3 r0c4
            have r1c0 := r1.cell 0
            have r1f0 := r1.free 0
            have r1c1 := r1.cell 1
            have r1f1 := r1.free 1
            have r1c2 := r1.cell 2
            have r1f2 := r1.free 2
            have r1c3 := r1.cell 3
            have r1f3 := r1.free 3
            have r1c4 := r1.cell 4
            have r1f4 := r1.free 4
            have r1l := r1.lt
            simp at r1c0 r1c1 r1c2 r1c3 r1c4
            have r2c0 := r2.cell 0
            have r2f0 := r2.free 0
            have r2c1 := r2.cell 1
            have r2f1 := r2.free 1
            have r2c2 := r2.cell 2
            have r2f2 := r2.free 2
            have r2c3 := r2.cell 3
            have r2f3 := r2.free 3
            have r2c4 := r2.cell 4
            have r2f4 := r2.free 4
            have r2c5 := r2.cell 5
            have r2f5 := r2.free 5
            have r2l := r2.lt
            simp at r2c0 r2c1 r2c2 r2c3 r2c4 r2c5
            have q1c0 := q1.cell 0
            have q1f0 := q1.free 0
            have q1c1 := q1.cell 1
            have q1f1 := q1.free 1
            have q1c2 := q1.cell 2
            have q1f2 := q1.free 2
            have q1c3 := q1.cell 3
            have q1f3 := q1.free 3
            have q1c4 := q1.cell 4
            have q1f4 := q1.free 4
            have q1l := q1.lt
            simp at q1c0 q1c1 q1c2 q1c3 q1c4
            rcases KH with k0 | ⟨k1, k2⟩
            · first
              | (exfalso; omega)
              | (have kb : (DB.held == 0) = true := by simp [k0]
                 clear k0
                 go_wp2
                 go_ret
                 exact ⟨rfl, by (exact kpt)⟩)
            · by_cases k0 : DB.held = 0
              · first
                | (exfalso; omega)
                | (have kb : (DB.held == 0) = true := by simp [k0]
                   clear k0
                   go_wp2
                   go_ret
                   exact ⟨rfl, by (exact kpt)⟩)
              · have kb : (DB.held == 0) = false := by simp [k0]
                go_wp2
                go_ret
                exact ⟨rfl, by (exact kpt)⟩
    · have b4b : (b.ship == 4) = false := by simp [b4]
      go_upto_region 17 with fail
      by_cases hax : DB.axis = b.axis
      · have hax1 : (DB.axis != b.axis) = false := by simp [hax]
        cases hwb : b.wire
        · cases hwd : DB.wire
          · skip
            have z1 : b.wire = false := hwb
            go_wp2
            go_loopw [13, 161] (fun s13 i wr => ∃ k : Nat, k ≤ p.pulls.length ∧ i = .int .i64 k ∧ s13 = .int .i64 (total (needs p.most (p.pulls.take k))) ∧ Blk wr (w.heap.size) #[.slice a p.axes.length c, .int .i64 p.people, .int .i64 p.most, .slice e p.pulls.length d, .int .i64 p.cross] 25 ∧ Blk wr (w.heap.size + 1) #[.int .u8 b.ship, .int .i64 b.axis, .int .i64 b.held, .bool b.wire, .bool b.opn] 37 ∧ Blk wr (w.heap.size + 1 + 1) #[.int .u8 s.act.kind, .int .i64 s.act.n, .int .i64 s.wind.xlo, .int .i64 s.wind.xhi, .int .i64 s.wind.ylo, .int .i64 s.wind.yhi] 61 ∧ Blk wr (n2) #[.int .u8 DB.ship, .int .i64 DB.axis, .int .i64 DB.held, .bool DB.wire, .bool DB.opn] 37 ∧ Kept w wr) (fun _ i _ => p.pulls.length - (intOf i).toNat)
            case atStart => exact ⟨0, Nat.zero_le _, rfl, rfl, r0, r1, r2, q1, hk⟩
            case round =>
              clear r0c0 r0f0 r0c1 r0f1 r0c2 r0f2 r0c3 r0f3 r0c4 r0f4 r0l r1c0 r1f0 r1c1 r1f1 r1c2 r1f2 r1c3 r1f3 r1c4 r1f4 r1l r2c0 r2f0 r2c1 r2f1 r2c2 r2f2 r2c3 r2f3 r2c4 r2f4 r2c5 r2f5 r2l q1c0 q1f0 q1c1 q1f1 q1c2 q1f2 q1c3 q1f3 q1c4 q1f4 q1l
              clear r0 r1 r2 q1 hk
              obtain ⟨k, hkl, rfl, rfl, r0, r1, r2, q1, hk⟩ := hrel
              by_cases hlt : k < p.pulls.length
              · obtain ⟨bb, off, rfl, hbl, g0, g1⟩ := Span.row (hy.later hk (Nat.le_refl _)) k hlt
                have HN := Lib.hid (needs_take (m := p.most) hlt)
                have hb := line_bd (HV.out _ (List.getElem_mem hlt))
                have htk := total_bd (needs_bd hm1.1 (fun s hs => HV.out s (List.mem_of_mem_take hs)) (m := p.most) (l := p.pulls.take k))
                have hll : (needs p.most (p.pulls.take k)).length ≤ 8 := by rw [needs_len, List.length_take]; omega
                obtain ⟨y, hy0⟩ : ∃ y, y = p.pulls[k] := ⟨_, rfl⟩
                rw [← hy0] at HN hb g0 g1
                clear hy0
                have hnb := need_bd hm1.1 hb.1 hb.2
                have HQ : (y.hi + p.most - 1) / p.most = needOf p.most y := rfl
                have HT : (y.hi + p.most - 1).tdiv p.most = needOf p.most y := by rw [Int.tdiv_eq_ediv_of_nonneg (by omega)]; rfl
                obtain ⟨q, hq⟩ : ∃ q, q = needOf p.most y := ⟨_, rfl⟩
                rw [← hq] at HN HQ HT hnb
                clear hq
                have HS : total (needs p.most (p.pulls.take k)) + q = total (needs p.most (p.pulls.take (k + 1))) := by rw [HN.out, total_snoc]
                have hw1 := i64_in (n := y.hi + p.most) (by omega)
                have hw2 := i64_in (n := y.hi + p.most - 1) (by omega)
                have hw3 := i64_in (n := q) (by omega)
                obtain ⟨S0, hS0⟩ : ∃ x, x = total (needs p.most (p.pulls.take k)) := ⟨_, rfl⟩
                rw [← hS0] at HS htk ⊢
                have HSS := Lib.hid HS
                have hw4 := i64_in (n := S0 + q) (by omega)
                clear HS hS0
                have j0 : (0 : Int) ≤ (k : Int) := by omega
                have j1 : (k : Int) < (p.pulls.length : Int) := by omega
                have hz : (p.most == 0) = false := by simp; omega
                have hz1 : ¬ p.most = 0 := by omega
                have r0c0 := r0.cell 0
                have r0f0 := r0.free 0
                have r0c1 := r0.cell 1
                have r0f1 := r0.free 1
                have r0c2 := r0.cell 2
                have r0f2 := r0.free 2
                have r0c3 := r0.cell 3
                have r0f3 := r0.free 3
                have r0c4 := r0.cell 4
                have r0f4 := r0.free 4
                have r0l := r0.lt
                simp at r0c0 r0c1 r0c2 r0c3 r0c4
                have r1c0 := r1.cell 0
                have r1f0 := r1.free 0
                have r1c1 := r1.cell 1
                have r1f1 := r1.free 1
                have r1c2 := r1.cell 2
                have r1f2 := r1.free 2
                have r1c3 := r1.cell 3
                have r1f3 := r1.free 3
                have r1c4 := r1.cell 4
                have r1f4 := r1.free 4
                have r1l := r1.lt
                simp at r1c0 r1c1 r1c2 r1c3 r1c4
                have r2c0 := r2.cell 0
                have r2f0 := r2.free 0
                have r2c1 := r2.cell 1
                have r2f1 := r2.free 1
                have r2c2 := r2.cell 2
                have r2f2 := r2.free 2
                have r2c3 := r2.cell 3
                have r2f3 := r2.free 3
                have r2c4 := r2.cell 4
                have r2f4 := r2.free 4
                have r2c5 := r2.cell 5
                have r2f5 := r2.free 5
                have r2l := r2.lt
                simp at r2c0 r2c1 r2c2 r2c3 r2c4 r2c5
                have q1c0 := q1.cell 0
                have q1f0 := q1.free 0
                have q1c1 := q1.cell 1
                have q1f1 := q1.free 1
                have q1c2 := q1.cell 2
                have q1f2 := q1.free 2
                have q1c3 := q1.cell 3
                have q1f3 := q1.free 3
                have q1c4 := q1.cell 4
                have q1f4 := q1.free 4
                have q1l := q1.lt
                simp at q1c0 q1c1 q1c2 q1c3 q1c4
                go_wp2
                go_roundw
                case rel => exact ⟨k + 1, by omega, by go_num, by rw [HSS.out], by (exact blk), by (exact blk), by (exact blk), by (exact blk), by (exact kpt)⟩
                case measure => simp [intOf]; omega
              · obtain rfl : p.pulls.length = k := by omega
                rw [List.take_length]
                obtain ⟨TT, hTT⟩ : ∃ x, x = total (needs p.most p.pulls) := ⟨_, rfl⟩
                have KH := KHELD.out
                rw [← hTT] at KH ⊢
                clear hTT
                have j1 : ¬ (p.pulls.length : Int) < (p.pulls.length : Int) := by omega
                have r0c0 := r0.cell 0
                have r0f0 := r0.free 0
                have r0c1 := r0.cell 1
                have r0f1 := r0.free 1
                have r0c2 := r0.cell 2
                have r0f2 := r0.free 2
                have r0c3 := r0.cell 3
                have r0f3 := r0.free 3
                have r0c4 := r0.cell 4
                have r0f4 := r0.free 4
                have r0l := r0.lt
                simp at r0c0 r0c1 r0c2 r0c3 r0c4
                have r1c0 := r1.cell 0
                have r1f0 := r1.free 0
                have r1c1 := r1.cell 1
                have r1f1 := r1.free 1
                have r1c2 := r1.cell 2
                have r1f2 := r1.free 2
                have r1c3 := r1.cell 3
                have r1f3 := r1.free 3
                have r1c4 := r1.cell 4
                have r1f4 := r1.free 4
                have r1l := r1.lt
                simp at r1c0 r1c1 r1c2 r1c3 r1c4
                have r2c0 := r2.cell 0
                have r2f0 := r2.free 0
                have r2c1 := r2.cell 1
                have r2f1 := r2.free 1
                have r2c2 := r2.cell 2
                have r2f2 := r2.free 2
                have r2c3 := r2.cell 3
                have r2f3 := r2.free 3
                have r2c4 := r2.cell 4
                have r2f4 := r2.free 4
                have r2c5 := r2.cell 5
                have r2f5 := r2.free 5
                have r2l := r2.lt
                simp at r2c0 r2c1 r2c2 r2c3 r2c4 r2c5
                have q1c0 := q1.cell 0
                have q1f0 := q1.free 0
                have q1c1 := q1.cell 1
                have q1f1 := q1.free 1
                have q1c2 := q1.cell 2
                have q1f2 := q1.free 2
                have q1c3 := q1.cell 3
                have q1f3 := q1.free 3
                have q1c4 := q1.cell 4
                have q1f4 := q1.free 4
                have q1l := q1.lt
                simp at q1c0 q1c1 q1c2 q1c3 q1c4
                rcases KH with k0 | ⟨k1, k2⟩
                · first
                  | (exfalso; omega)
                  | (have kb : (DB.held == 0) = true := by simp [k0]
                     clear k0
                     go_wp2
                     go_ret
                     exact ⟨rfl, by (exact kpt)⟩)
                · by_cases k0 : DB.held = 0
                  · first
                    | (exfalso; omega)
                    | (have kb : (DB.held == 0) = true := by simp [k0]
                       clear k0
                       go_wp2
                       go_ret
                       exact ⟨rfl, by (exact kpt)⟩)
                  · have kb : (DB.held == 0) = false := by simp [k0]
                    go_wp2
                    go_ret
                    exact ⟨rfl, by (exact kpt)⟩
          · have z3 := KL.out hwd
            go_wp2
            go_loopw [13, 161] (fun s13 i wr => ∃ k : Nat, k ≤ p.pulls.length ∧ i = .int .i64 k ∧ s13 = .int .i64 (total (needs p.most (p.pulls.take k))) ∧ Blk wr (w.heap.size) #[.slice a p.axes.length c, .int .i64 p.people, .int .i64 p.most, .slice e p.pulls.length d, .int .i64 p.cross] 25 ∧ Blk wr (w.heap.size + 1) #[.int .u8 b.ship, .int .i64 b.axis, .int .i64 b.held, .bool b.wire, .bool b.opn] 37 ∧ Blk wr (w.heap.size + 1 + 1) #[.int .u8 s.act.kind, .int .i64 s.act.n, .int .i64 s.wind.xlo, .int .i64 s.wind.xhi, .int .i64 s.wind.ylo, .int .i64 s.wind.yhi] 61 ∧ Blk wr (n2) #[.int .u8 DB.ship, .int .i64 DB.axis, .int .i64 DB.held, .bool DB.wire, .bool DB.opn] 37 ∧ Kept w wr) (fun _ i _ => p.pulls.length - (intOf i).toNat)
            case atStart => exact ⟨0, Nat.zero_le _, rfl, rfl, r0, r1, r2, q1, hk⟩
            case round =>
              clear r0c0 r0f0 r0c1 r0f1 r0c2 r0f2 r0c3 r0f3 r0c4 r0f4 r0l r1c0 r1f0 r1c1 r1f1 r1c2 r1f2 r1c3 r1f3 r1c4 r1f4 r1l r2c0 r2f0 r2c1 r2f1 r2c2 r2f2 r2c3 r2f3 r2c4 r2f4 r2c5 r2f5 r2l q1c0 q1f0 q1c1 q1f1 q1c2 q1f2 q1c3 q1f3 q1c4 q1f4 q1l
              clear r0 r1 r2 q1 hk
              obtain ⟨k, hkl, rfl, rfl, r0, r1, r2, q1, hk⟩ := hrel
              by_cases hlt : k < p.pulls.length
              · obtain ⟨bb, off, rfl, hbl, g0, g1⟩ := Span.row (hy.later hk (Nat.le_refl _)) k hlt
                have HN := Lib.hid (needs_take (m := p.most) hlt)
                have hb := line_bd (HV.out _ (List.getElem_mem hlt))
                have htk := total_bd (needs_bd hm1.1 (fun s hs => HV.out s (List.mem_of_mem_take hs)) (m := p.most) (l := p.pulls.take k))
                have hll : (needs p.most (p.pulls.take k)).length ≤ 8 := by rw [needs_len, List.length_take]; omega
                obtain ⟨y, hy0⟩ : ∃ y, y = p.pulls[k] := ⟨_, rfl⟩
                rw [← hy0] at HN hb g0 g1
                clear hy0
                have hnb := need_bd hm1.1 hb.1 hb.2
                have HQ : (y.hi + p.most - 1) / p.most = needOf p.most y := rfl
                have HT : (y.hi + p.most - 1).tdiv p.most = needOf p.most y := by rw [Int.tdiv_eq_ediv_of_nonneg (by omega)]; rfl
                obtain ⟨q, hq⟩ : ∃ q, q = needOf p.most y := ⟨_, rfl⟩
                rw [← hq] at HN HQ HT hnb
                clear hq
                have HS : total (needs p.most (p.pulls.take k)) + q = total (needs p.most (p.pulls.take (k + 1))) := by rw [HN.out, total_snoc]
                have hw1 := i64_in (n := y.hi + p.most) (by omega)
                have hw2 := i64_in (n := y.hi + p.most - 1) (by omega)
                have hw3 := i64_in (n := q) (by omega)
                obtain ⟨S0, hS0⟩ : ∃ x, x = total (needs p.most (p.pulls.take k)) := ⟨_, rfl⟩
                rw [← hS0] at HS htk ⊢
                have HSS := Lib.hid HS
                have hw4 := i64_in (n := S0 + q) (by omega)
                clear HS hS0
                have j0 : (0 : Int) ≤ (k : Int) := by omega
                have j1 : (k : Int) < (p.pulls.length : Int) := by omega
                have hz : (p.most == 0) = false := by simp; omega
                have hz1 : ¬ p.most = 0 := by omega
                have r0c0 := r0.cell 0
                have r0f0 := r0.free 0
                have r0c1 := r0.cell 1
                have r0f1 := r0.free 1
                have r0c2 := r0.cell 2
                have r0f2 := r0.free 2
                have r0c3 := r0.cell 3
                have r0f3 := r0.free 3
                have r0c4 := r0.cell 4
                have r0f4 := r0.free 4
                have r0l := r0.lt
                simp at r0c0 r0c1 r0c2 r0c3 r0c4
                have r1c0 := r1.cell 0
                have r1f0 := r1.free 0
                have r1c1 := r1.cell 1
                have r1f1 := r1.free 1
                have r1c2 := r1.cell 2
                have r1f2 := r1.free 2
                have r1c3 := r1.cell 3
                have r1f3 := r1.free 3
                have r1c4 := r1.cell 4
                have r1f4 := r1.free 4
                have r1l := r1.lt
                simp at r1c0 r1c1 r1c2 r1c3 r1c4
                have r2c0 := r2.cell 0
                have r2f0 := r2.free 0
                have r2c1 := r2.cell 1
                have r2f1 := r2.free 1
                have r2c2 := r2.cell 2
                have r2f2 := r2.free 2
                have r2c3 := r2.cell 3
                have r2f3 := r2.free 3
                have r2c4 := r2.cell 4
                have r2f4 := r2.free 4
                have r2c5 := r2.cell 5
                have r2f5 := r2.free 5
                have r2l := r2.lt
                simp at r2c0 r2c1 r2c2 r2c3 r2c4 r2c5
                have q1c0 := q1.cell 0
                have q1f0 := q1.free 0
                have q1c1 := q1.cell 1
                have q1f1 := q1.free 1
                have q1c2 := q1.cell 2
                have q1f2 := q1.free 2
                have q1c3 := q1.cell 3
                have q1f3 := q1.free 3
                have q1c4 := q1.cell 4
                have q1f4 := q1.free 4
                have q1l := q1.lt
                simp at q1c0 q1c1 q1c2 q1c3 q1c4
                go_wp2
                go_roundw
                case rel => exact ⟨k + 1, by omega, by go_num, by rw [HSS.out], by (exact blk), by (exact blk), by (exact blk), by (exact blk), by (exact kpt)⟩
                case measure => simp [intOf]; omega
              · obtain rfl : p.pulls.length = k := by omega
                rw [List.take_length]
                obtain ⟨TT, hTT⟩ : ∃ x, x = total (needs p.most p.pulls) := ⟨_, rfl⟩
                have KH := KHELD.out
                rw [← hTT] at KH ⊢
                clear hTT
                have j1 : ¬ (p.pulls.length : Int) < (p.pulls.length : Int) := by omega
                have r0c0 := r0.cell 0
                have r0f0 := r0.free 0
                have r0c1 := r0.cell 1
                have r0f1 := r0.free 1
                have r0c2 := r0.cell 2
                have r0f2 := r0.free 2
                have r0c3 := r0.cell 3
                have r0f3 := r0.free 3
                have r0c4 := r0.cell 4
                have r0f4 := r0.free 4
                have r0l := r0.lt
                simp at r0c0 r0c1 r0c2 r0c3 r0c4
                have r1c0 := r1.cell 0
                have r1f0 := r1.free 0
                have r1c1 := r1.cell 1
                have r1f1 := r1.free 1
                have r1c2 := r1.cell 2
                have r1f2 := r1.free 2
                have r1c3 := r1.cell 3
                have r1f3 := r1.free 3
                have r1c4 := r1.cell 4
                have r1f4 := r1.free 4
                have r1l := r1.lt
                simp at r1c0 r1c1 r1c2 r1c3 r1c4
                have r2c0 := r2.cell 0
                have r2f0 := r2.free 0
                have r2c1 := r2.cell 1
                have r2f1 := r2.free 1
                have r2c2 := r2.cell 2
                have r2f2 := r2.free 2
                have r2c3 := r2.cell 3
                have r2f3 := r2.free 3
                have r2c4 := r2.cell 4
                have r2f4 := r2.free 4
                have r2c5 := r2.cell 5
                have r2f5 := r2.free 5
                have r2l := r2.lt
                simp at r2c0 r2c1 r2c2 r2c3 r2c4 r2c5
                have q1c0 := q1.cell 0
                have q1f0 := q1.free 0
                have q1c1 := q1.cell 1
                have q1f1 := q1.free 1
                have q1c2 := q1.cell 2
                have q1f2 := q1.free 2
                have q1c3 := q1.cell 3
                have q1f3 := q1.free 3
                have q1c4 := q1.cell 4
                have q1f4 := q1.free 4
                have q1l := q1.lt
                simp at q1c0 q1c1 q1c2 q1c3 q1c4
                rcases KH with k0 | ⟨k1, k2⟩
                · first
                  | (exfalso; omega)
                  | (have kb : (DB.held == 0) = true := by simp [k0]
                     clear k0
                     go_wp2
                     go_ret
                     exact ⟨rfl, by (exact kpt)⟩)
                · by_cases k0 : DB.held = 0
                  · first
                    | (exfalso; omega)
                    | (have kb : (DB.held == 0) = true := by simp [k0]
                       clear k0
                       go_wp2
                       go_ret
                       exact ⟨rfl, by (exact kpt)⟩)
                  · have kb : (DB.held == 0) = false := by simp [k0]
                    go_wp2
                    go_ret
                    exact ⟨rfl, by (exact kpt)⟩
        · have z2 := KW.out hwb
          have z2b : (DB.held == 0) = false := by simp [z2]
          cases hwd : DB.wire
          · go_wp2
            go_loopw [13, 161] (fun s13 i wr => ∃ k : Nat, k ≤ p.pulls.length ∧ i = .int .i64 k ∧ s13 = .int .i64 (total (needs p.most (p.pulls.take k))) ∧ Blk wr (w.heap.size) #[.slice a p.axes.length c, .int .i64 p.people, .int .i64 p.most, .slice e p.pulls.length d, .int .i64 p.cross] 25 ∧ Blk wr (w.heap.size + 1) #[.int .u8 b.ship, .int .i64 b.axis, .int .i64 b.held, .bool b.wire, .bool b.opn] 37 ∧ Blk wr (w.heap.size + 1 + 1) #[.int .u8 s.act.kind, .int .i64 s.act.n, .int .i64 s.wind.xlo, .int .i64 s.wind.xhi, .int .i64 s.wind.ylo, .int .i64 s.wind.yhi] 61 ∧ Blk wr (n2) #[.int .u8 DB.ship, .int .i64 DB.axis, .int .i64 DB.held, .bool DB.wire, .bool DB.opn] 37 ∧ Kept w wr) (fun _ i _ => p.pulls.length - (intOf i).toNat)
            case atStart => exact ⟨0, Nat.zero_le _, rfl, rfl, r0, r1, r2, q1, hk⟩
            case round =>
              clear r0c0 r0f0 r0c1 r0f1 r0c2 r0f2 r0c3 r0f3 r0c4 r0f4 r0l r1c0 r1f0 r1c1 r1f1 r1c2 r1f2 r1c3 r1f3 r1c4 r1f4 r1l r2c0 r2f0 r2c1 r2f1 r2c2 r2f2 r2c3 r2f3 r2c4 r2f4 r2c5 r2f5 r2l q1c0 q1f0 q1c1 q1f1 q1c2 q1f2 q1c3 q1f3 q1c4 q1f4 q1l
              clear r0 r1 r2 q1 hk
              obtain ⟨k, hkl, rfl, rfl, r0, r1, r2, q1, hk⟩ := hrel
              by_cases hlt : k < p.pulls.length
              · obtain ⟨bb, off, rfl, hbl, g0, g1⟩ := Span.row (hy.later hk (Nat.le_refl _)) k hlt
                have HN := Lib.hid (needs_take (m := p.most) hlt)
                have hb := line_bd (HV.out _ (List.getElem_mem hlt))
                have htk := total_bd (needs_bd hm1.1 (fun s hs => HV.out s (List.mem_of_mem_take hs)) (m := p.most) (l := p.pulls.take k))
                have hll : (needs p.most (p.pulls.take k)).length ≤ 8 := by rw [needs_len, List.length_take]; omega
                obtain ⟨y, hy0⟩ : ∃ y, y = p.pulls[k] := ⟨_, rfl⟩
                rw [← hy0] at HN hb g0 g1
                clear hy0
                have hnb := need_bd hm1.1 hb.1 hb.2
                have HQ : (y.hi + p.most - 1) / p.most = needOf p.most y := rfl
                have HT : (y.hi + p.most - 1).tdiv p.most = needOf p.most y := by rw [Int.tdiv_eq_ediv_of_nonneg (by omega)]; rfl
                obtain ⟨q, hq⟩ : ∃ q, q = needOf p.most y := ⟨_, rfl⟩
                rw [← hq] at HN HQ HT hnb
                clear hq
                have HS : total (needs p.most (p.pulls.take k)) + q = total (needs p.most (p.pulls.take (k + 1))) := by rw [HN.out, total_snoc]
                have hw1 := i64_in (n := y.hi + p.most) (by omega)
                have hw2 := i64_in (n := y.hi + p.most - 1) (by omega)
                have hw3 := i64_in (n := q) (by omega)
                obtain ⟨S0, hS0⟩ : ∃ x, x = total (needs p.most (p.pulls.take k)) := ⟨_, rfl⟩
                rw [← hS0] at HS htk ⊢
                have HSS := Lib.hid HS
                have hw4 := i64_in (n := S0 + q) (by omega)
                clear HS hS0
                have j0 : (0 : Int) ≤ (k : Int) := by omega
                have j1 : (k : Int) < (p.pulls.length : Int) := by omega
                have hz : (p.most == 0) = false := by simp; omega
                have hz1 : ¬ p.most = 0 := by omega
                have r0c0 := r0.cell 0
                have r0f0 := r0.free 0
                have r0c1 := r0.cell 1
                have r0f1 := r0.free 1
                have r0c2 := r0.cell 2
                have r0f2 := r0.free 2
                have r0c3 := r0.cell 3
                have r0f3 := r0.free 3
                have r0c4 := r0.cell 4
                have r0f4 := r0.free 4
                have r0l := r0.lt
                simp at r0c0 r0c1 r0c2 r0c3 r0c4
                have r1c0 := r1.cell 0
                have r1f0 := r1.free 0
                have r1c1 := r1.cell 1
                have r1f1 := r1.free 1
                have r1c2 := r1.cell 2
                have r1f2 := r1.free 2
                have r1c3 := r1.cell 3
                have r1f3 := r1.free 3
                have r1c4 := r1.cell 4
                have r1f4 := r1.free 4
                have r1l := r1.lt
                simp at r1c0 r1c1 r1c2 r1c3 r1c4
                have r2c0 := r2.cell 0
                have r2f0 := r2.free 0
                have r2c1 := r2.cell 1
                have r2f1 := r2.free 1
                have r2c2 := r2.cell 2
                have r2f2 := r2.free 2
                have r2c3 := r2.cell 3
                have r2f3 := r2.free 3
                have r2c4 := r2.cell 4
                have r2f4 := r2.free 4
                have r2c5 := r2.cell 5
                have r2f5 := r2.free 5
                have r2l := r2.lt
                simp at r2c0 r2c1 r2c2 r2c3 r2c4 r2c5
                have q1c0 := q1.cell 0
                have q1f0 := q1.free 0
                have q1c1 := q1.cell 1
                have q1f1 := q1.free 1
                have q1c2 := q1.cell 2
                have q1f2 := q1.free 2
                have q1c3 := q1.cell 3
                have q1f3 := q1.free 3
                have q1c4 := q1.cell 4
                have q1f4 := q1.free 4
                have q1l := q1.lt
                simp at q1c0 q1c1 q1c2 q1c3 q1c4
                go_wp2
                go_roundw
                case rel => exact ⟨k + 1, by omega, by go_num, by rw [HSS.out], by (exact blk), by (exact blk), by (exact blk), by (exact blk), by (exact kpt)⟩
                case measure => simp [intOf]; omega
              · obtain rfl : p.pulls.length = k := by omega
                rw [List.take_length]
                obtain ⟨TT, hTT⟩ : ∃ x, x = total (needs p.most p.pulls) := ⟨_, rfl⟩
                have KH := KHELD.out
                rw [← hTT] at KH ⊢
                clear hTT
                have j1 : ¬ (p.pulls.length : Int) < (p.pulls.length : Int) := by omega
                have r0c0 := r0.cell 0
                have r0f0 := r0.free 0
                have r0c1 := r0.cell 1
                have r0f1 := r0.free 1
                have r0c2 := r0.cell 2
                have r0f2 := r0.free 2
                have r0c3 := r0.cell 3
                have r0f3 := r0.free 3
                have r0c4 := r0.cell 4
                have r0f4 := r0.free 4
                have r0l := r0.lt
                simp at r0c0 r0c1 r0c2 r0c3 r0c4
                have r1c0 := r1.cell 0
                have r1f0 := r1.free 0
                have r1c1 := r1.cell 1
                have r1f1 := r1.free 1
                have r1c2 := r1.cell 2
                have r1f2 := r1.free 2
                have r1c3 := r1.cell 3
                have r1f3 := r1.free 3
                have r1c4 := r1.cell 4
                have r1f4 := r1.free 4
                have r1l := r1.lt
                simp at r1c0 r1c1 r1c2 r1c3 r1c4
                have r2c0 := r2.cell 0
                have r2f0 := r2.free 0
                have r2c1 := r2.cell 1
                have r2f1 := r2.free 1
                have r2c2 := r2.cell 2
                have r2f2 := r2.free 2
                have r2c3 := r2.cell 3
                have r2f3 := r2.free 3
                have r2c4 := r2.cell 4
                have r2f4 := r2.free 4
                have r2c5 := r2.cell 5
                have r2f5 := r2.free 5
                have r2l := r2.lt
                simp at r2c0 r2c1 r2c2 r2c3 r2c4 r2c5
                have q1c0 := q1.cell 0
                have q1f0 := q1.free 0
                have q1c1 := q1.cell 1
                have q1f1 := q1.free 1
                have q1c2 := q1.cell 2
                have q1f2 := q1.free 2
                have q1c3 := q1.cell 3
                have q1f3 := q1.free 3
                have q1c4 := q1.cell 4
                have q1f4 := q1.free 4
                have q1l := q1.lt
                simp at q1c0 q1c1 q1c2 q1c3 q1c4
                rcases KH with k0 | ⟨k1, k2⟩
                · first
                  | (exfalso; omega)
                  | (have kb : (DB.held == 0) = true := by simp [k0]
                     clear k0
                     go_wp2
                     go_ret
                     exact ⟨rfl, by (exact kpt)⟩)
                · by_cases k0 : DB.held = 0
                  · first
                    | (exfalso; omega)
                    | (have kb : (DB.held == 0) = true := by simp [k0]
                       clear k0
                       go_wp2
                       go_ret
                       exact ⟨rfl, by (exact kpt)⟩)
                  · have kb : (DB.held == 0) = false := by simp [k0]
                    go_wp2
                    go_ret
                    exact ⟨rfl, by (exact kpt)⟩
          · have z3 := KL.out hwd
            go_wp2
            go_loopw [13, 161] (fun s13 i wr => ∃ k : Nat, k ≤ p.pulls.length ∧ i = .int .i64 k ∧ s13 = .int .i64 (total (needs p.most (p.pulls.take k))) ∧ Blk wr (w.heap.size) #[.slice a p.axes.length c, .int .i64 p.people, .int .i64 p.most, .slice e p.pulls.length d, .int .i64 p.cross] 25 ∧ Blk wr (w.heap.size + 1) #[.int .u8 b.ship, .int .i64 b.axis, .int .i64 b.held, .bool b.wire, .bool b.opn] 37 ∧ Blk wr (w.heap.size + 1 + 1) #[.int .u8 s.act.kind, .int .i64 s.act.n, .int .i64 s.wind.xlo, .int .i64 s.wind.xhi, .int .i64 s.wind.ylo, .int .i64 s.wind.yhi] 61 ∧ Blk wr (n2) #[.int .u8 DB.ship, .int .i64 DB.axis, .int .i64 DB.held, .bool DB.wire, .bool DB.opn] 37 ∧ Kept w wr) (fun _ i _ => p.pulls.length - (intOf i).toNat)
            case atStart => exact ⟨0, Nat.zero_le _, rfl, rfl, r0, r1, r2, q1, hk⟩
            case round =>
              clear r0c0 r0f0 r0c1 r0f1 r0c2 r0f2 r0c3 r0f3 r0c4 r0f4 r0l r1c0 r1f0 r1c1 r1f1 r1c2 r1f2 r1c3 r1f3 r1c4 r1f4 r1l r2c0 r2f0 r2c1 r2f1 r2c2 r2f2 r2c3 r2f3 r2c4 r2f4 r2c5 r2f5 r2l q1c0 q1f0 q1c1 q1f1 q1c2 q1f2 q1c3 q1f3 q1c4 q1f4 q1l
              clear r0 r1 r2 q1 hk
              obtain ⟨k, hkl, rfl, rfl, r0, r1, r2, q1, hk⟩ := hrel
              by_cases hlt : k < p.pulls.length
              · obtain ⟨bb, off, rfl, hbl, g0, g1⟩ := Span.row (hy.later hk (Nat.le_refl _)) k hlt
                have HN := Lib.hid (needs_take (m := p.most) hlt)
                have hb := line_bd (HV.out _ (List.getElem_mem hlt))
                have htk := total_bd (needs_bd hm1.1 (fun s hs => HV.out s (List.mem_of_mem_take hs)) (m := p.most) (l := p.pulls.take k))
                have hll : (needs p.most (p.pulls.take k)).length ≤ 8 := by rw [needs_len, List.length_take]; omega
                obtain ⟨y, hy0⟩ : ∃ y, y = p.pulls[k] := ⟨_, rfl⟩
                rw [← hy0] at HN hb g0 g1
                clear hy0
                have hnb := need_bd hm1.1 hb.1 hb.2
                have HQ : (y.hi + p.most - 1) / p.most = needOf p.most y := rfl
                have HT : (y.hi + p.most - 1).tdiv p.most = needOf p.most y := by rw [Int.tdiv_eq_ediv_of_nonneg (by omega)]; rfl
                obtain ⟨q, hq⟩ : ∃ q, q = needOf p.most y := ⟨_, rfl⟩
                rw [← hq] at HN HQ HT hnb
                clear hq
                have HS : total (needs p.most (p.pulls.take k)) + q = total (needs p.most (p.pulls.take (k + 1))) := by rw [HN.out, total_snoc]
                have hw1 := i64_in (n := y.hi + p.most) (by omega)
                have hw2 := i64_in (n := y.hi + p.most - 1) (by omega)
                have hw3 := i64_in (n := q) (by omega)
                obtain ⟨S0, hS0⟩ : ∃ x, x = total (needs p.most (p.pulls.take k)) := ⟨_, rfl⟩
                rw [← hS0] at HS htk ⊢
                have HSS := Lib.hid HS
                have hw4 := i64_in (n := S0 + q) (by omega)
                clear HS hS0
                have j0 : (0 : Int) ≤ (k : Int) := by omega
                have j1 : (k : Int) < (p.pulls.length : Int) := by omega
                have hz : (p.most == 0) = false := by simp; omega
                have hz1 : ¬ p.most = 0 := by omega
                have r0c0 := r0.cell 0
                have r0f0 := r0.free 0
                have r0c1 := r0.cell 1
                have r0f1 := r0.free 1
                have r0c2 := r0.cell 2
                have r0f2 := r0.free 2
                have r0c3 := r0.cell 3
                have r0f3 := r0.free 3
                have r0c4 := r0.cell 4
                have r0f4 := r0.free 4
                have r0l := r0.lt
                simp at r0c0 r0c1 r0c2 r0c3 r0c4
                have r1c0 := r1.cell 0
                have r1f0 := r1.free 0
                have r1c1 := r1.cell 1
                have r1f1 := r1.free 1
                have r1c2 := r1.cell 2
                have r1f2 := r1.free 2
                have r1c3 := r1.cell 3
                have r1f3 := r1.free 3
                have r1c4 := r1.cell 4
                have r1f4 := r1.free 4
                have r1l := r1.lt
                simp at r1c0 r1c1 r1c2 r1c3 r1c4
                have r2c0 := r2.cell 0
                have r2f0 := r2.free 0
                have r2c1 := r2.cell 1
                have r2f1 := r2.free 1
                have r2c2 := r2.cell 2
                have r2f2 := r2.free 2
                have r2c3 := r2.cell 3
                have r2f3 := r2.free 3
                have r2c4 := r2.cell 4
                have r2f4 := r2.free 4
                have r2c5 := r2.cell 5
                have r2f5 := r2.free 5
                have r2l := r2.lt
                simp at r2c0 r2c1 r2c2 r2c3 r2c4 r2c5
                have q1c0 := q1.cell 0
                have q1f0 := q1.free 0
                have q1c1 := q1.cell 1
                have q1f1 := q1.free 1
                have q1c2 := q1.cell 2
                have q1f2 := q1.free 2
                have q1c3 := q1.cell 3
                have q1f3 := q1.free 3
                have q1c4 := q1.cell 4
                have q1f4 := q1.free 4
                have q1l := q1.lt
                simp at q1c0 q1c1 q1c2 q1c3 q1c4
                go_wp2
                go_roundw
                case rel => exact ⟨k + 1, by omega, by go_num, by rw [HSS.out], by (exact blk), by (exact blk), by (exact blk), by (exact blk), by (exact kpt)⟩
                case measure => simp [intOf]; omega
              · obtain rfl : p.pulls.length = k := by omega
                rw [List.take_length]
                obtain ⟨TT, hTT⟩ : ∃ x, x = total (needs p.most p.pulls) := ⟨_, rfl⟩
                have KH := KHELD.out
                rw [← hTT] at KH ⊢
                clear hTT
                have j1 : ¬ (p.pulls.length : Int) < (p.pulls.length : Int) := by omega
                have r0c0 := r0.cell 0
                have r0f0 := r0.free 0
                have r0c1 := r0.cell 1
                have r0f1 := r0.free 1
                have r0c2 := r0.cell 2
                have r0f2 := r0.free 2
                have r0c3 := r0.cell 3
                have r0f3 := r0.free 3
                have r0c4 := r0.cell 4
                have r0f4 := r0.free 4
                have r0l := r0.lt
                simp at r0c0 r0c1 r0c2 r0c3 r0c4
                have r1c0 := r1.cell 0
                have r1f0 := r1.free 0
                have r1c1 := r1.cell 1
                have r1f1 := r1.free 1
                have r1c2 := r1.cell 2
                have r1f2 := r1.free 2
                have r1c3 := r1.cell 3
                have r1f3 := r1.free 3
                have r1c4 := r1.cell 4
                have r1f4 := r1.free 4
                have r1l := r1.lt
                simp at r1c0 r1c1 r1c2 r1c3 r1c4
                have r2c0 := r2.cell 0
                have r2f0 := r2.free 0
                have r2c1 := r2.cell 1
                have r2f1 := r2.free 1
                have r2c2 := r2.cell 2
                have r2f2 := r2.free 2
                have r2c3 := r2.cell 3
                have r2f3 := r2.free 3
                have r2c4 := r2.cell 4
                have r2f4 := r2.free 4
                have r2c5 := r2.cell 5
                have r2f5 := r2.free 5
                have r2l := r2.lt
                simp at r2c0 r2c1 r2c2 r2c3 r2c4 r2c5
                have q1c0 := q1.cell 0
                have q1f0 := q1.free 0
                have q1c1 := q1.cell 1
                have q1f1 := q1.free 1
                have q1c2 := q1.cell 2
                have q1f2 := q1.free 2
                have q1c3 := q1.cell 3
                have q1f3 := q1.free 3
                have q1c4 := q1.cell 4
                have q1f4 := q1.free 4
                have q1l := q1.lt
                simp at q1c0 q1c1 q1c2 q1c3 q1c4
                rcases KH with k0 | ⟨k1, k2⟩
                · first
                  | (exfalso; omega)
                  | (have kb : (DB.held == 0) = true := by simp [k0]
                     clear k0
                     go_wp2
                     go_ret
                     exact ⟨rfl, by (exact kpt)⟩)
                · by_cases k0 : DB.held = 0
                  · first
                    | (exfalso; omega)
                    | (have kb : (DB.held == 0) = true := by simp [k0]
                       clear k0
                       go_wp2
                       go_ret
                       exact ⟨rfl, by (exact kpt)⟩)
                  · have kb : (DB.held == 0) = false := by simp [k0]
                    go_wp2
                    go_ret
                    exact ⟨rfl, by (exact kpt)⟩
      · have hax1 : (DB.axis != b.axis) = true := by simp [hax]
        obtain ⟨hop, hk9⟩ := KA.out hax
        cases hwb : b.wire
        · cases hwd : DB.wire
          · skip
            have z1 : b.wire = false := hwb
            go_wp2
            go_loopw [13, 161] (fun s13 i wr => ∃ k : Nat, k ≤ p.pulls.length ∧ i = .int .i64 k ∧ s13 = .int .i64 (total (needs p.most (p.pulls.take k))) ∧ Blk wr (w.heap.size) #[.slice a p.axes.length c, .int .i64 p.people, .int .i64 p.most, .slice e p.pulls.length d, .int .i64 p.cross] 25 ∧ Blk wr (w.heap.size + 1) #[.int .u8 b.ship, .int .i64 b.axis, .int .i64 b.held, .bool b.wire, .bool b.opn] 37 ∧ Blk wr (w.heap.size + 1 + 1) #[.int .u8 s.act.kind, .int .i64 s.act.n, .int .i64 s.wind.xlo, .int .i64 s.wind.xhi, .int .i64 s.wind.ylo, .int .i64 s.wind.yhi] 61 ∧ Blk wr (n2) #[.int .u8 DB.ship, .int .i64 DB.axis, .int .i64 DB.held, .bool DB.wire, .bool DB.opn] 37 ∧ Kept w wr) (fun _ i _ => p.pulls.length - (intOf i).toNat)
            case atStart => exact ⟨0, Nat.zero_le _, rfl, rfl, r0, r1, r2, q1, hk⟩
            case round =>
              clear r0c0 r0f0 r0c1 r0f1 r0c2 r0f2 r0c3 r0f3 r0c4 r0f4 r0l r1c0 r1f0 r1c1 r1f1 r1c2 r1f2 r1c3 r1f3 r1c4 r1f4 r1l r2c0 r2f0 r2c1 r2f1 r2c2 r2f2 r2c3 r2f3 r2c4 r2f4 r2c5 r2f5 r2l q1c0 q1f0 q1c1 q1f1 q1c2 q1f2 q1c3 q1f3 q1c4 q1f4 q1l
              clear r0 r1 r2 q1 hk
              obtain ⟨k, hkl, rfl, rfl, r0, r1, r2, q1, hk⟩ := hrel
              by_cases hlt : k < p.pulls.length
              · obtain ⟨bb, off, rfl, hbl, g0, g1⟩ := Span.row (hy.later hk (Nat.le_refl _)) k hlt
                have HN := Lib.hid (needs_take (m := p.most) hlt)
                have hb := line_bd (HV.out _ (List.getElem_mem hlt))
                have htk := total_bd (needs_bd hm1.1 (fun s hs => HV.out s (List.mem_of_mem_take hs)) (m := p.most) (l := p.pulls.take k))
                have hll : (needs p.most (p.pulls.take k)).length ≤ 8 := by rw [needs_len, List.length_take]; omega
                obtain ⟨y, hy0⟩ : ∃ y, y = p.pulls[k] := ⟨_, rfl⟩
                rw [← hy0] at HN hb g0 g1
                clear hy0
                have hnb := need_bd hm1.1 hb.1 hb.2
                have HQ : (y.hi + p.most - 1) / p.most = needOf p.most y := rfl
                have HT : (y.hi + p.most - 1).tdiv p.most = needOf p.most y := by rw [Int.tdiv_eq_ediv_of_nonneg (by omega)]; rfl
                obtain ⟨q, hq⟩ : ∃ q, q = needOf p.most y := ⟨_, rfl⟩
                rw [← hq] at HN HQ HT hnb
                clear hq
                have HS : total (needs p.most (p.pulls.take k)) + q = total (needs p.most (p.pulls.take (k + 1))) := by rw [HN.out, total_snoc]
                have hw1 := i64_in (n := y.hi + p.most) (by omega)
                have hw2 := i64_in (n := y.hi + p.most - 1) (by omega)
                have hw3 := i64_in (n := q) (by omega)
                obtain ⟨S0, hS0⟩ : ∃ x, x = total (needs p.most (p.pulls.take k)) := ⟨_, rfl⟩
                rw [← hS0] at HS htk ⊢
                have HSS := Lib.hid HS
                have hw4 := i64_in (n := S0 + q) (by omega)
                clear HS hS0
                have j0 : (0 : Int) ≤ (k : Int) := by omega
                have j1 : (k : Int) < (p.pulls.length : Int) := by omega
                have hz : (p.most == 0) = false := by simp; omega
                have hz1 : ¬ p.most = 0 := by omega
                have r0c0 := r0.cell 0
                have r0f0 := r0.free 0
                have r0c1 := r0.cell 1
                have r0f1 := r0.free 1
                have r0c2 := r0.cell 2
                have r0f2 := r0.free 2
                have r0c3 := r0.cell 3
                have r0f3 := r0.free 3
                have r0c4 := r0.cell 4
                have r0f4 := r0.free 4
                have r0l := r0.lt
                simp at r0c0 r0c1 r0c2 r0c3 r0c4
                have r1c0 := r1.cell 0
                have r1f0 := r1.free 0
                have r1c1 := r1.cell 1
                have r1f1 := r1.free 1
                have r1c2 := r1.cell 2
                have r1f2 := r1.free 2
                have r1c3 := r1.cell 3
                have r1f3 := r1.free 3
                have r1c4 := r1.cell 4
                have r1f4 := r1.free 4
                have r1l := r1.lt
                simp at r1c0 r1c1 r1c2 r1c3 r1c4
                have r2c0 := r2.cell 0
                have r2f0 := r2.free 0
                have r2c1 := r2.cell 1
                have r2f1 := r2.free 1
                have r2c2 := r2.cell 2
                have r2f2 := r2.free 2
                have r2c3 := r2.cell 3
                have r2f3 := r2.free 3
                have r2c4 := r2.cell 4
                have r2f4 := r2.free 4
                have r2c5 := r2.cell 5
                have r2f5 := r2.free 5
                have r2l := r2.lt
                simp at r2c0 r2c1 r2c2 r2c3 r2c4 r2c5
                have q1c0 := q1.cell 0
                have q1f0 := q1.free 0
                have q1c1 := q1.cell 1
                have q1f1 := q1.free 1
                have q1c2 := q1.cell 2
                have q1f2 := q1.free 2
                have q1c3 := q1.cell 3
                have q1f3 := q1.free 3
                have q1c4 := q1.cell 4
                have q1f4 := q1.free 4
                have q1l := q1.lt
                simp at q1c0 q1c1 q1c2 q1c3 q1c4
                go_wp2
                go_roundw
                case rel => exact ⟨k + 1, by omega, by go_num, by rw [HSS.out], by (exact blk), by (exact blk), by (exact blk), by (exact blk), by (exact kpt)⟩
                case measure => simp [intOf]; omega
              · obtain rfl : p.pulls.length = k := by omega
                rw [List.take_length]
                obtain ⟨TT, hTT⟩ : ∃ x, x = total (needs p.most p.pulls) := ⟨_, rfl⟩
                have KH := KHELD.out
                rw [← hTT] at KH ⊢
                clear hTT
                have j1 : ¬ (p.pulls.length : Int) < (p.pulls.length : Int) := by omega
                have r0c0 := r0.cell 0
                have r0f0 := r0.free 0
                have r0c1 := r0.cell 1
                have r0f1 := r0.free 1
                have r0c2 := r0.cell 2
                have r0f2 := r0.free 2
                have r0c3 := r0.cell 3
                have r0f3 := r0.free 3
                have r0c4 := r0.cell 4
                have r0f4 := r0.free 4
                have r0l := r0.lt
                simp at r0c0 r0c1 r0c2 r0c3 r0c4
                have r1c0 := r1.cell 0
                have r1f0 := r1.free 0
                have r1c1 := r1.cell 1
                have r1f1 := r1.free 1
                have r1c2 := r1.cell 2
                have r1f2 := r1.free 2
                have r1c3 := r1.cell 3
                have r1f3 := r1.free 3
                have r1c4 := r1.cell 4
                have r1f4 := r1.free 4
                have r1l := r1.lt
                simp at r1c0 r1c1 r1c2 r1c3 r1c4
                have r2c0 := r2.cell 0
                have r2f0 := r2.free 0
                have r2c1 := r2.cell 1
                have r2f1 := r2.free 1
                have r2c2 := r2.cell 2
                have r2f2 := r2.free 2
                have r2c3 := r2.cell 3
                have r2f3 := r2.free 3
                have r2c4 := r2.cell 4
                have r2f4 := r2.free 4
                have r2c5 := r2.cell 5
                have r2f5 := r2.free 5
                have r2l := r2.lt
                simp at r2c0 r2c1 r2c2 r2c3 r2c4 r2c5
                have q1c0 := q1.cell 0
                have q1f0 := q1.free 0
                have q1c1 := q1.cell 1
                have q1f1 := q1.free 1
                have q1c2 := q1.cell 2
                have q1f2 := q1.free 2
                have q1c3 := q1.cell 3
                have q1f3 := q1.free 3
                have q1c4 := q1.cell 4
                have q1f4 := q1.free 4
                have q1l := q1.lt
                simp at q1c0 q1c1 q1c2 q1c3 q1c4
                rcases KH with k0 | ⟨k1, k2⟩
                · first
                  | (exfalso; omega)
                  | (have kb : (DB.held == 0) = true := by simp [k0]
                     clear k0
                     go_wp2
                     go_ret
                     exact ⟨rfl, by (exact kpt)⟩)
                · by_cases k0 : DB.held = 0
                  · first
                    | (exfalso; omega)
                    | (have kb : (DB.held == 0) = true := by simp [k0]
                       clear k0
                       go_wp2
                       go_ret
                       exact ⟨rfl, by (exact kpt)⟩)
                  · have kb : (DB.held == 0) = false := by simp [k0]
                    go_wp2
                    go_ret
                    exact ⟨rfl, by (exact kpt)⟩
          · have z3 := KL.out hwd
            go_wp2
            go_loopw [13, 161] (fun s13 i wr => ∃ k : Nat, k ≤ p.pulls.length ∧ i = .int .i64 k ∧ s13 = .int .i64 (total (needs p.most (p.pulls.take k))) ∧ Blk wr (w.heap.size) #[.slice a p.axes.length c, .int .i64 p.people, .int .i64 p.most, .slice e p.pulls.length d, .int .i64 p.cross] 25 ∧ Blk wr (w.heap.size + 1) #[.int .u8 b.ship, .int .i64 b.axis, .int .i64 b.held, .bool b.wire, .bool b.opn] 37 ∧ Blk wr (w.heap.size + 1 + 1) #[.int .u8 s.act.kind, .int .i64 s.act.n, .int .i64 s.wind.xlo, .int .i64 s.wind.xhi, .int .i64 s.wind.ylo, .int .i64 s.wind.yhi] 61 ∧ Blk wr (n2) #[.int .u8 DB.ship, .int .i64 DB.axis, .int .i64 DB.held, .bool DB.wire, .bool DB.opn] 37 ∧ Kept w wr) (fun _ i _ => p.pulls.length - (intOf i).toNat)
            case atStart => exact ⟨0, Nat.zero_le _, rfl, rfl, r0, r1, r2, q1, hk⟩
            case round =>
              clear r0c0 r0f0 r0c1 r0f1 r0c2 r0f2 r0c3 r0f3 r0c4 r0f4 r0l r1c0 r1f0 r1c1 r1f1 r1c2 r1f2 r1c3 r1f3 r1c4 r1f4 r1l r2c0 r2f0 r2c1 r2f1 r2c2 r2f2 r2c3 r2f3 r2c4 r2f4 r2c5 r2f5 r2l q1c0 q1f0 q1c1 q1f1 q1c2 q1f2 q1c3 q1f3 q1c4 q1f4 q1l
              clear r0 r1 r2 q1 hk
              obtain ⟨k, hkl, rfl, rfl, r0, r1, r2, q1, hk⟩ := hrel
              by_cases hlt : k < p.pulls.length
              · obtain ⟨bb, off, rfl, hbl, g0, g1⟩ := Span.row (hy.later hk (Nat.le_refl _)) k hlt
                have HN := Lib.hid (needs_take (m := p.most) hlt)
                have hb := line_bd (HV.out _ (List.getElem_mem hlt))
                have htk := total_bd (needs_bd hm1.1 (fun s hs => HV.out s (List.mem_of_mem_take hs)) (m := p.most) (l := p.pulls.take k))
                have hll : (needs p.most (p.pulls.take k)).length ≤ 8 := by rw [needs_len, List.length_take]; omega
                obtain ⟨y, hy0⟩ : ∃ y, y = p.pulls[k] := ⟨_, rfl⟩
                rw [← hy0] at HN hb g0 g1
                clear hy0
                have hnb := need_bd hm1.1 hb.1 hb.2
                have HQ : (y.hi + p.most - 1) / p.most = needOf p.most y := rfl
                have HT : (y.hi + p.most - 1).tdiv p.most = needOf p.most y := by rw [Int.tdiv_eq_ediv_of_nonneg (by omega)]; rfl
                obtain ⟨q, hq⟩ : ∃ q, q = needOf p.most y := ⟨_, rfl⟩
                rw [← hq] at HN HQ HT hnb
                clear hq
                have HS : total (needs p.most (p.pulls.take k)) + q = total (needs p.most (p.pulls.take (k + 1))) := by rw [HN.out, total_snoc]
                have hw1 := i64_in (n := y.hi + p.most) (by omega)
                have hw2 := i64_in (n := y.hi + p.most - 1) (by omega)
                have hw3 := i64_in (n := q) (by omega)
                obtain ⟨S0, hS0⟩ : ∃ x, x = total (needs p.most (p.pulls.take k)) := ⟨_, rfl⟩
                rw [← hS0] at HS htk ⊢
                have HSS := Lib.hid HS
                have hw4 := i64_in (n := S0 + q) (by omega)
                clear HS hS0
                have j0 : (0 : Int) ≤ (k : Int) := by omega
                have j1 : (k : Int) < (p.pulls.length : Int) := by omega
                have hz : (p.most == 0) = false := by simp; omega
                have hz1 : ¬ p.most = 0 := by omega
                have r0c0 := r0.cell 0
                have r0f0 := r0.free 0
                have r0c1 := r0.cell 1
                have r0f1 := r0.free 1
                have r0c2 := r0.cell 2
                have r0f2 := r0.free 2
                have r0c3 := r0.cell 3
                have r0f3 := r0.free 3
                have r0c4 := r0.cell 4
                have r0f4 := r0.free 4
                have r0l := r0.lt
                simp at r0c0 r0c1 r0c2 r0c3 r0c4
                have r1c0 := r1.cell 0
                have r1f0 := r1.free 0
                have r1c1 := r1.cell 1
                have r1f1 := r1.free 1
                have r1c2 := r1.cell 2
                have r1f2 := r1.free 2
                have r1c3 := r1.cell 3
                have r1f3 := r1.free 3
                have r1c4 := r1.cell 4
                have r1f4 := r1.free 4
                have r1l := r1.lt
                simp at r1c0 r1c1 r1c2 r1c3 r1c4
                have r2c0 := r2.cell 0
                have r2f0 := r2.free 0
                have r2c1 := r2.cell 1
                have r2f1 := r2.free 1
                have r2c2 := r2.cell 2
                have r2f2 := r2.free 2
                have r2c3 := r2.cell 3
                have r2f3 := r2.free 3
                have r2c4 := r2.cell 4
                have r2f4 := r2.free 4
                have r2c5 := r2.cell 5
                have r2f5 := r2.free 5
                have r2l := r2.lt
                simp at r2c0 r2c1 r2c2 r2c3 r2c4 r2c5
                have q1c0 := q1.cell 0
                have q1f0 := q1.free 0
                have q1c1 := q1.cell 1
                have q1f1 := q1.free 1
                have q1c2 := q1.cell 2
                have q1f2 := q1.free 2
                have q1c3 := q1.cell 3
                have q1f3 := q1.free 3
                have q1c4 := q1.cell 4
                have q1f4 := q1.free 4
                have q1l := q1.lt
                simp at q1c0 q1c1 q1c2 q1c3 q1c4
                go_wp2
                go_roundw
                case rel => exact ⟨k + 1, by omega, by go_num, by rw [HSS.out], by (exact blk), by (exact blk), by (exact blk), by (exact blk), by (exact kpt)⟩
                case measure => simp [intOf]; omega
              · obtain rfl : p.pulls.length = k := by omega
                rw [List.take_length]
                obtain ⟨TT, hTT⟩ : ∃ x, x = total (needs p.most p.pulls) := ⟨_, rfl⟩
                have KH := KHELD.out
                rw [← hTT] at KH ⊢
                clear hTT
                have j1 : ¬ (p.pulls.length : Int) < (p.pulls.length : Int) := by omega
                have r0c0 := r0.cell 0
                have r0f0 := r0.free 0
                have r0c1 := r0.cell 1
                have r0f1 := r0.free 1
                have r0c2 := r0.cell 2
                have r0f2 := r0.free 2
                have r0c3 := r0.cell 3
                have r0f3 := r0.free 3
                have r0c4 := r0.cell 4
                have r0f4 := r0.free 4
                have r0l := r0.lt
                simp at r0c0 r0c1 r0c2 r0c3 r0c4
                have r1c0 := r1.cell 0
                have r1f0 := r1.free 0
                have r1c1 := r1.cell 1
                have r1f1 := r1.free 1
                have r1c2 := r1.cell 2
                have r1f2 := r1.free 2
                have r1c3 := r1.cell 3
                have r1f3 := r1.free 3
                have r1c4 := r1.cell 4
                have r1f4 := r1.free 4
                have r1l := r1.lt
                simp at r1c0 r1c1 r1c2 r1c3 r1c4
                have r2c0 := r2.cell 0
                have r2f0 := r2.free 0
                have r2c1 := r2.cell 1
                have r2f1 := r2.free 1
                have r2c2 := r2.cell 2
                have r2f2 := r2.free 2
                have r2c3 := r2.cell 3
                have r2f3 := r2.free 3
                have r2c4 := r2.cell 4
                have r2f4 := r2.free 4
                have r2c5 := r2.cell 5
                have r2f5 := r2.free 5
                have r2l := r2.lt
                simp at r2c0 r2c1 r2c2 r2c3 r2c4 r2c5
                have q1c0 := q1.cell 0
                have q1f0 := q1.free 0
                have q1c1 := q1.cell 1
                have q1f1 := q1.free 1
                have q1c2 := q1.cell 2
                have q1f2 := q1.free 2
                have q1c3 := q1.cell 3
                have q1f3 := q1.free 3
                have q1c4 := q1.cell 4
                have q1f4 := q1.free 4
                have q1l := q1.lt
                simp at q1c0 q1c1 q1c2 q1c3 q1c4
                rcases KH with k0 | ⟨k1, k2⟩
                · first
                  | (exfalso; omega)
                  | (have kb : (DB.held == 0) = true := by simp [k0]
                     clear k0
                     go_wp2
                     go_ret
                     exact ⟨rfl, by (exact kpt)⟩)
                · by_cases k0 : DB.held = 0
                  · first
                    | (exfalso; omega)
                    | (have kb : (DB.held == 0) = true := by simp [k0]
                       clear k0
                       go_wp2
                       go_ret
                       exact ⟨rfl, by (exact kpt)⟩)
                  · have kb : (DB.held == 0) = false := by simp [k0]
                    go_wp2
                    go_ret
                    exact ⟨rfl, by (exact kpt)⟩
        · have z2 := KW.out hwb
          have z2b : (DB.held == 0) = false := by simp [z2]
          cases hwd : DB.wire
          · go_wp2
            go_loopw [13, 161] (fun s13 i wr => ∃ k : Nat, k ≤ p.pulls.length ∧ i = .int .i64 k ∧ s13 = .int .i64 (total (needs p.most (p.pulls.take k))) ∧ Blk wr (w.heap.size) #[.slice a p.axes.length c, .int .i64 p.people, .int .i64 p.most, .slice e p.pulls.length d, .int .i64 p.cross] 25 ∧ Blk wr (w.heap.size + 1) #[.int .u8 b.ship, .int .i64 b.axis, .int .i64 b.held, .bool b.wire, .bool b.opn] 37 ∧ Blk wr (w.heap.size + 1 + 1) #[.int .u8 s.act.kind, .int .i64 s.act.n, .int .i64 s.wind.xlo, .int .i64 s.wind.xhi, .int .i64 s.wind.ylo, .int .i64 s.wind.yhi] 61 ∧ Blk wr (n2) #[.int .u8 DB.ship, .int .i64 DB.axis, .int .i64 DB.held, .bool DB.wire, .bool DB.opn] 37 ∧ Kept w wr) (fun _ i _ => p.pulls.length - (intOf i).toNat)
            case atStart => exact ⟨0, Nat.zero_le _, rfl, rfl, r0, r1, r2, q1, hk⟩
            case round =>
              clear r0c0 r0f0 r0c1 r0f1 r0c2 r0f2 r0c3 r0f3 r0c4 r0f4 r0l r1c0 r1f0 r1c1 r1f1 r1c2 r1f2 r1c3 r1f3 r1c4 r1f4 r1l r2c0 r2f0 r2c1 r2f1 r2c2 r2f2 r2c3 r2f3 r2c4 r2f4 r2c5 r2f5 r2l q1c0 q1f0 q1c1 q1f1 q1c2 q1f2 q1c3 q1f3 q1c4 q1f4 q1l
              clear r0 r1 r2 q1 hk
              obtain ⟨k, hkl, rfl, rfl, r0, r1, r2, q1, hk⟩ := hrel
              by_cases hlt : k < p.pulls.length
              · obtain ⟨bb, off, rfl, hbl, g0, g1⟩ := Span.row (hy.later hk (Nat.le_refl _)) k hlt
                have HN := Lib.hid (needs_take (m := p.most) hlt)
                have hb := line_bd (HV.out _ (List.getElem_mem hlt))
                have htk := total_bd (needs_bd hm1.1 (fun s hs => HV.out s (List.mem_of_mem_take hs)) (m := p.most) (l := p.pulls.take k))
                have hll : (needs p.most (p.pulls.take k)).length ≤ 8 := by rw [needs_len, List.length_take]; omega
                obtain ⟨y, hy0⟩ : ∃ y, y = p.pulls[k] := ⟨_, rfl⟩
                rw [← hy0] at HN hb g0 g1
                clear hy0
                have hnb := need_bd hm1.1 hb.1 hb.2
                have HQ : (y.hi + p.most - 1) / p.most = needOf p.most y := rfl
                have HT : (y.hi + p.most - 1).tdiv p.most = needOf p.most y := by rw [Int.tdiv_eq_ediv_of_nonneg (by omega)]; rfl
                obtain ⟨q, hq⟩ : ∃ q, q = needOf p.most y := ⟨_, rfl⟩
                rw [← hq] at HN HQ HT hnb
                clear hq
                have HS : total (needs p.most (p.pulls.take k)) + q = total (needs p.most (p.pulls.take (k + 1))) := by rw [HN.out, total_snoc]
                have hw1 := i64_in (n := y.hi + p.most) (by omega)
                have hw2 := i64_in (n := y.hi + p.most - 1) (by omega)
                have hw3 := i64_in (n := q) (by omega)
                obtain ⟨S0, hS0⟩ : ∃ x, x = total (needs p.most (p.pulls.take k)) := ⟨_, rfl⟩
                rw [← hS0] at HS htk ⊢
                have HSS := Lib.hid HS
                have hw4 := i64_in (n := S0 + q) (by omega)
                clear HS hS0
                have j0 : (0 : Int) ≤ (k : Int) := by omega
                have j1 : (k : Int) < (p.pulls.length : Int) := by omega
                have hz : (p.most == 0) = false := by simp; omega
                have hz1 : ¬ p.most = 0 := by omega
                have r0c0 := r0.cell 0
                have r0f0 := r0.free 0
                have r0c1 := r0.cell 1
                have r0f1 := r0.free 1
                have r0c2 := r0.cell 2
                have r0f2 := r0.free 2
                have r0c3 := r0.cell 3
                have r0f3 := r0.free 3
                have r0c4 := r0.cell 4
                have r0f4 := r0.free 4
                have r0l := r0.lt
                simp at r0c0 r0c1 r0c2 r0c3 r0c4
                have r1c0 := r1.cell 0
                have r1f0 := r1.free 0
                have r1c1 := r1.cell 1
                have r1f1 := r1.free 1
                have r1c2 := r1.cell 2
                have r1f2 := r1.free 2
                have r1c3 := r1.cell 3
                have r1f3 := r1.free 3
                have r1c4 := r1.cell 4
                have r1f4 := r1.free 4
                have r1l := r1.lt
                simp at r1c0 r1c1 r1c2 r1c3 r1c4
                have r2c0 := r2.cell 0
                have r2f0 := r2.free 0
                have r2c1 := r2.cell 1
                have r2f1 := r2.free 1
                have r2c2 := r2.cell 2
                have r2f2 := r2.free 2
                have r2c3 := r2.cell 3
                have r2f3 := r2.free 3
                have r2c4 := r2.cell 4
                have r2f4 := r2.free 4
                have r2c5 := r2.cell 5
                have r2f5 := r2.free 5
                have r2l := r2.lt
                simp at r2c0 r2c1 r2c2 r2c3 r2c4 r2c5
                have q1c0 := q1.cell 0
                have q1f0 := q1.free 0
                have q1c1 := q1.cell 1
                have q1f1 := q1.free 1
                have q1c2 := q1.cell 2
                have q1f2 := q1.free 2
                have q1c3 := q1.cell 3
                have q1f3 := q1.free 3
                have q1c4 := q1.cell 4
                have q1f4 := q1.free 4
                have q1l := q1.lt
                simp at q1c0 q1c1 q1c2 q1c3 q1c4
                go_wp2
                go_roundw
                case rel => exact ⟨k + 1, by omega, by go_num, by rw [HSS.out], by (exact blk), by (exact blk), by (exact blk), by (exact blk), by (exact kpt)⟩
                case measure => simp [intOf]; omega
              · obtain rfl : p.pulls.length = k := by omega
                rw [List.take_length]
                obtain ⟨TT, hTT⟩ : ∃ x, x = total (needs p.most p.pulls) := ⟨_, rfl⟩
                have KH := KHELD.out
                rw [← hTT] at KH ⊢
                clear hTT
                have j1 : ¬ (p.pulls.length : Int) < (p.pulls.length : Int) := by omega
                have r0c0 := r0.cell 0
                have r0f0 := r0.free 0
                have r0c1 := r0.cell 1
                have r0f1 := r0.free 1
                have r0c2 := r0.cell 2
                have r0f2 := r0.free 2
                have r0c3 := r0.cell 3
                have r0f3 := r0.free 3
                have r0c4 := r0.cell 4
                have r0f4 := r0.free 4
                have r0l := r0.lt
                simp at r0c0 r0c1 r0c2 r0c3 r0c4
                have r1c0 := r1.cell 0
                have r1f0 := r1.free 0
                have r1c1 := r1.cell 1
                have r1f1 := r1.free 1
                have r1c2 := r1.cell 2
                have r1f2 := r1.free 2
                have r1c3 := r1.cell 3
                have r1f3 := r1.free 3
                have r1c4 := r1.cell 4
                have r1f4 := r1.free 4
                have r1l := r1.lt
                simp at r1c0 r1c1 r1c2 r1c3 r1c4
                have r2c0 := r2.cell 0
                have r2f0 := r2.free 0
                have r2c1 := r2.cell 1
                have r2f1 := r2.free 1
                have r2c2 := r2.cell 2
                have r2f2 := r2.free 2
                have r2c3 := r2.cell 3
                have r2f3 := r2.free 3
                have r2c4 := r2.cell 4
                have r2f4 := r2.free 4
                have r2c5 := r2.cell 5
                have r2f5 := r2.free 5
                have r2l := r2.lt
                simp at r2c0 r2c1 r2c2 r2c3 r2c4 r2c5
                have q1c0 := q1.cell 0
                have q1f0 := q1.free 0
                have q1c1 := q1.cell 1
                have q1f1 := q1.free 1
                have q1c2 := q1.cell 2
                have q1f2 := q1.free 2
                have q1c3 := q1.cell 3
                have q1f3 := q1.free 3
                have q1c4 := q1.cell 4
                have q1f4 := q1.free 4
                have q1l := q1.lt
                simp at q1c0 q1c1 q1c2 q1c3 q1c4
                rcases KH with k0 | ⟨k1, k2⟩
                · first
                  | (exfalso; omega)
                  | (have kb : (DB.held == 0) = true := by simp [k0]
                     clear k0
                     go_wp2
                     go_ret
                     exact ⟨rfl, by (exact kpt)⟩)
                · by_cases k0 : DB.held = 0
                  · first
                    | (exfalso; omega)
                    | (have kb : (DB.held == 0) = true := by simp [k0]
                       clear k0
                       go_wp2
                       go_ret
                       exact ⟨rfl, by (exact kpt)⟩)
                  · have kb : (DB.held == 0) = false := by simp [k0]
                    go_wp2
                    go_ret
                    exact ⟨rfl, by (exact kpt)⟩
          · have z3 := KL.out hwd
            go_wp2
            go_loopw [13, 161] (fun s13 i wr => ∃ k : Nat, k ≤ p.pulls.length ∧ i = .int .i64 k ∧ s13 = .int .i64 (total (needs p.most (p.pulls.take k))) ∧ Blk wr (w.heap.size) #[.slice a p.axes.length c, .int .i64 p.people, .int .i64 p.most, .slice e p.pulls.length d, .int .i64 p.cross] 25 ∧ Blk wr (w.heap.size + 1) #[.int .u8 b.ship, .int .i64 b.axis, .int .i64 b.held, .bool b.wire, .bool b.opn] 37 ∧ Blk wr (w.heap.size + 1 + 1) #[.int .u8 s.act.kind, .int .i64 s.act.n, .int .i64 s.wind.xlo, .int .i64 s.wind.xhi, .int .i64 s.wind.ylo, .int .i64 s.wind.yhi] 61 ∧ Blk wr (n2) #[.int .u8 DB.ship, .int .i64 DB.axis, .int .i64 DB.held, .bool DB.wire, .bool DB.opn] 37 ∧ Kept w wr) (fun _ i _ => p.pulls.length - (intOf i).toNat)
            case atStart => exact ⟨0, Nat.zero_le _, rfl, rfl, r0, r1, r2, q1, hk⟩
            case round =>
              clear r0c0 r0f0 r0c1 r0f1 r0c2 r0f2 r0c3 r0f3 r0c4 r0f4 r0l r1c0 r1f0 r1c1 r1f1 r1c2 r1f2 r1c3 r1f3 r1c4 r1f4 r1l r2c0 r2f0 r2c1 r2f1 r2c2 r2f2 r2c3 r2f3 r2c4 r2f4 r2c5 r2f5 r2l q1c0 q1f0 q1c1 q1f1 q1c2 q1f2 q1c3 q1f3 q1c4 q1f4 q1l
              clear r0 r1 r2 q1 hk
              obtain ⟨k, hkl, rfl, rfl, r0, r1, r2, q1, hk⟩ := hrel
              by_cases hlt : k < p.pulls.length
              · obtain ⟨bb, off, rfl, hbl, g0, g1⟩ := Span.row (hy.later hk (Nat.le_refl _)) k hlt
                have HN := Lib.hid (needs_take (m := p.most) hlt)
                have hb := line_bd (HV.out _ (List.getElem_mem hlt))
                have htk := total_bd (needs_bd hm1.1 (fun s hs => HV.out s (List.mem_of_mem_take hs)) (m := p.most) (l := p.pulls.take k))
                have hll : (needs p.most (p.pulls.take k)).length ≤ 8 := by rw [needs_len, List.length_take]; omega
                obtain ⟨y, hy0⟩ : ∃ y, y = p.pulls[k] := ⟨_, rfl⟩
                rw [← hy0] at HN hb g0 g1
                clear hy0
                have hnb := need_bd hm1.1 hb.1 hb.2
                have HQ : (y.hi + p.most - 1) / p.most = needOf p.most y := rfl
                have HT : (y.hi + p.most - 1).tdiv p.most = needOf p.most y := by rw [Int.tdiv_eq_ediv_of_nonneg (by omega)]; rfl
                obtain ⟨q, hq⟩ : ∃ q, q = needOf p.most y := ⟨_, rfl⟩
                rw [← hq] at HN HQ HT hnb
                clear hq
                have HS : total (needs p.most (p.pulls.take k)) + q = total (needs p.most (p.pulls.take (k + 1))) := by rw [HN.out, total_snoc]
                have hw1 := i64_in (n := y.hi + p.most) (by omega)
                have hw2 := i64_in (n := y.hi + p.most - 1) (by omega)
                have hw3 := i64_in (n := q) (by omega)
                obtain ⟨S0, hS0⟩ : ∃ x, x = total (needs p.most (p.pulls.take k)) := ⟨_, rfl⟩
                rw [← hS0] at HS htk ⊢
                have HSS := Lib.hid HS
                have hw4 := i64_in (n := S0 + q) (by omega)
                clear HS hS0
                have j0 : (0 : Int) ≤ (k : Int) := by omega
                have j1 : (k : Int) < (p.pulls.length : Int) := by omega
                have hz : (p.most == 0) = false := by simp; omega
                have hz1 : ¬ p.most = 0 := by omega
                have r0c0 := r0.cell 0
                have r0f0 := r0.free 0
                have r0c1 := r0.cell 1
                have r0f1 := r0.free 1
                have r0c2 := r0.cell 2
                have r0f2 := r0.free 2
                have r0c3 := r0.cell 3
                have r0f3 := r0.free 3
                have r0c4 := r0.cell 4
                have r0f4 := r0.free 4
                have r0l := r0.lt
                simp at r0c0 r0c1 r0c2 r0c3 r0c4
                have r1c0 := r1.cell 0
                have r1f0 := r1.free 0
                have r1c1 := r1.cell 1
                have r1f1 := r1.free 1
                have r1c2 := r1.cell 2
                have r1f2 := r1.free 2
                have r1c3 := r1.cell 3
                have r1f3 := r1.free 3
                have r1c4 := r1.cell 4
                have r1f4 := r1.free 4
                have r1l := r1.lt
                simp at r1c0 r1c1 r1c2 r1c3 r1c4
                have r2c0 := r2.cell 0
                have r2f0 := r2.free 0
                have r2c1 := r2.cell 1
                have r2f1 := r2.free 1
                have r2c2 := r2.cell 2
                have r2f2 := r2.free 2
                have r2c3 := r2.cell 3
                have r2f3 := r2.free 3
                have r2c4 := r2.cell 4
                have r2f4 := r2.free 4
                have r2c5 := r2.cell 5
                have r2f5 := r2.free 5
                have r2l := r2.lt
                simp at r2c0 r2c1 r2c2 r2c3 r2c4 r2c5
                have q1c0 := q1.cell 0
                have q1f0 := q1.free 0
                have q1c1 := q1.cell 1
                have q1f1 := q1.free 1
                have q1c2 := q1.cell 2
                have q1f2 := q1.free 2
                have q1c3 := q1.cell 3
                have q1f3 := q1.free 3
                have q1c4 := q1.cell 4
                have q1f4 := q1.free 4
                have q1l := q1.lt
                simp at q1c0 q1c1 q1c2 q1c3 q1c4
                go_wp2
                go_roundw
                case rel => exact ⟨k + 1, by omega, by go_num, by rw [HSS.out], by (exact blk), by (exact blk), by (exact blk), by (exact blk), by (exact kpt)⟩
                case measure => simp [intOf]; omega
              · obtain rfl : p.pulls.length = k := by omega
                rw [List.take_length]
                obtain ⟨TT, hTT⟩ : ∃ x, x = total (needs p.most p.pulls) := ⟨_, rfl⟩
                have KH := KHELD.out
                rw [← hTT] at KH ⊢
                clear hTT
                have j1 : ¬ (p.pulls.length : Int) < (p.pulls.length : Int) := by omega
                have r0c0 := r0.cell 0
                have r0f0 := r0.free 0
                have r0c1 := r0.cell 1
                have r0f1 := r0.free 1
                have r0c2 := r0.cell 2
                have r0f2 := r0.free 2
                have r0c3 := r0.cell 3
                have r0f3 := r0.free 3
                have r0c4 := r0.cell 4
                have r0f4 := r0.free 4
                have r0l := r0.lt
                simp at r0c0 r0c1 r0c2 r0c3 r0c4
                have r1c0 := r1.cell 0
                have r1f0 := r1.free 0
                have r1c1 := r1.cell 1
                have r1f1 := r1.free 1
                have r1c2 := r1.cell 2
                have r1f2 := r1.free 2
                have r1c3 := r1.cell 3
                have r1f3 := r1.free 3
                have r1c4 := r1.cell 4
                have r1f4 := r1.free 4
                have r1l := r1.lt
                simp at r1c0 r1c1 r1c2 r1c3 r1c4
                have r2c0 := r2.cell 0
                have r2f0 := r2.free 0
                have r2c1 := r2.cell 1
                have r2f1 := r2.free 1
                have r2c2 := r2.cell 2
                have r2f2 := r2.free 2
                have r2c3 := r2.cell 3
                have r2f3 := r2.free 3
                have r2c4 := r2.cell 4
                have r2f4 := r2.free 4
                have r2c5 := r2.cell 5
                have r2f5 := r2.free 5
                have r2l := r2.lt
                simp at r2c0 r2c1 r2c2 r2c3 r2c4 r2c5
                have q1c0 := q1.cell 0
                have q1f0 := q1.free 0
                have q1c1 := q1.cell 1
                have q1f1 := q1.free 1
                have q1c2 := q1.cell 2
                have q1f2 := q1.free 2
                have q1c3 := q1.cell 3
                have q1f3 := q1.free 3
                have q1c4 := q1.cell 4
                have q1f4 := q1.free 4
                have q1l := q1.lt
                simp at q1c0 q1c1 q1c2 q1c3 q1c4
                rcases KH with k0 | ⟨k1, k2⟩
                · first
                  | (exfalso; omega)
                  | (have kb : (DB.held == 0) = true := by simp [k0]
                     clear k0
                     go_wp2
                     go_ret
                     exact ⟨rfl, by (exact kpt)⟩)
                · by_cases k0 : DB.held = 0
                  · first
                    | (exfalso; omega)
                    | (have kb : (DB.held == 0) = true := by simp [k0]
                       clear k0
                       go_wp2
                       go_ret
                       exact ⟨rfl, by (exact kpt)⟩)
                  · have kb : (DB.held == 0) = false := by simp [k0]
                    go_wp2
                    go_ret
                    exact ⟨rfl, by (exact kpt)⟩
theorem law_MastKept (a : Option Addr) (c : Nat) (e : Option Addr) (d : Nat) (p : Port) (w : World) (hx : Row Axis.cells 2 w.heap.size w a p.axes) (hc : p.axes.length ≤ c) (hM : c ≤ maxLen) (hy : Row Span.cells 2 w.heap.size w e p.pulls) (hd : p.pulls.length ≤ d) (hN : d ≤ maxLen) (b : Berth) (hs0 : 0 ≤ b.ship) (s : Step) (hk0 : 0 ≤ s.act.kind ∧ s.act.kind ≤ 255) : Calls Tryz.prog 6 #[.agg #[.slice a p.axes.length c, .int .i64 p.people, .int .i64 p.most, .slice e p.pulls.length d, .int .i64 p.cross], .agg #[.int .u8 b.ship, .int .i64 b.axis, .int .i64 b.held, .bool b.wire, .bool b.opn], .agg #[.int .u8 s.act.kind, .int .i64 s.act.n, .int .i64 s.wind.xlo, .int .i64 s.wind.xhi, .int .i64 s.wind.ylo, .int .i64 s.wind.yhi]] w fun z w' => z = .returned (.bool true) ∧ Kept w w' := by
  cases hg : (decide (40 < p.axes.length) || decide (20 < p.pulls.length))
  · have hn : p.axes.length ≤ 40 ∧ p.pulls.length ≤ 20 := by simp at hg; omega
    by_cases he0 : doE p b s = 0
    · exact law_MastKept_ok a c e d p w hx hc hM hy hd hN b hs0 s hk0 hg (by omega) (by omega) he0
    · exact law_MastKept_not a c e d p w hx hc hM hy hd hN b hs0 s hk0 hg (by omega) (by omega) he0
  · exact law_MastKept_great a c e d p w hx hc hM hy hd hN b hs0 s hk0 hg
end Go.Proofs.YtacbkbilbmkjnaaGreat

/-
  MastKept, the statement: for every input the call returns true and leaves the input alone.
-/
namespace Go.Proofs.YtacbkbilbmkjnaaGreat.mastKept
open Go.ChangeShapes Go.WideShapes Go.ChangeAt Go.RowKit Bal Bal.Trim Bal.Mast
open Go.ChangeMaps (open_string shut_string)
set_option linter.unusedVariables false

theorem own : ownKnob Tryz.prog.godebug = none := by kernel_rfl
theorem laidOut : laidOutB Tryz.prog = true := by kernel_rfl

set_option maxRecDepth 100000 in
theorem lifted (os : Os) (started : os.Started) (H : Type) (enc : TypeId × Value → H) :
    ReturnsInHanded {} Tryz.checked os 6 .any (Rows.mastKeptSpec.pre6 enc Tryz.prog Tryz.f6 Rows.mastKeptRow.domain false) (Rows.mastKeptSpec.post enc Tryz.prog Tryz.f6 false true false false) := by
  refine returnsInHanded_of_change (C := Tryz.checked) own started (by kernel_rfl) Tryz.func6
    (ChangeSpec.witness6 (enc := enc) (C := Tryz.checked) false ⟨#[], #[.agg #[.slice none 0 0, .int .i64 0, .int .i64 0, .slice none 0 0, .int .i64 0], .agg #[.int .u8 0, .int .i64 0, .int .i64 0, .bool false, .bool false], .agg #[.int .u8 0, .int .i64 0, .int .i64 0, .int .i64 0, .int .i64 0, .int .i64 0]], []⟩ 8 (by kernel_rfl) (by kernel_rfl) (by kernel_rfl) (by kernel_rfl)) ?_
  intro W base args ds gs before hval0 hW hcnd _
  have hval : ∀ (j : Nat) t v, Tryz.f6.params[j]? = some t → args[j]? = some v → Value.okWide Tryz.prog W .any base t v := hval0
  have hW' := hW
  obtain ⟨p, q, hA0, hV, rfl, hfz, hnd⟩ := hW
  have hA : DataW.TrodAll enc Tryz.prog W 0 (fun _ => true) true Tryz.f6.params.toList args.toList ds p := hA0
  rw [Tryz.params6] at hA hval
  obtain ⟨v0, vs0, d0, ds0, p0, q0, hargs, rfl, rfl, h0, r0⟩ := trodAll_cons hA
  obtain ⟨v1, vs1, d1, ds1, p1, q1, rfl, rfl, rfl, h1, r1⟩ := trodAll_cons r0
  obtain ⟨v2, vs2, d2, ds2, p2, q2, rfl, rfl, rfl, h2, r2⟩ := trodAll_cons r1
  obtain ⟨rfl, rfl, rfl⟩ := trodAll_nil r2
  obtain rfl : args = #[v0, v1, v2] := by cases args; simp_all
  obtain ⟨rfl, rfl⟩ := trodVars_none hV
  have k0 := h0
  have lt0 : ∀ x ∈ p0, x.block < W.heap.size := by obtain ⟨m, hm⟩ := k0; exact DataW.trod_lt m _ _ _ hm
  obtain ⟨pa, pc, pxs, ppe, pmo, pb, pd, pys, pcr, rfl, px1, px2, px3, px4, py1, py2, py3, py4⟩ := open_port (hval 0 25 v0 rfl rfl) h0
  have k1 := h1
  have lt1 : ∀ x ∈ p1, x.block < W.heap.size := by obtain ⟨m, hm⟩ := k1; exact DataW.trod_lt m _ _ _ hm
  obtain ⟨a1, rfl, wf1⟩ := open_agg (n := 5) (fun _ h => Berth.of_leaves h) Tryz.underlying37 (by kernel_rfl) (hval 1 37 v1 rfl rfl) h1
  have k2 := h2
  have lt2 : ∀ x ∈ p2, x.block < W.heap.size := by obtain ⟨m, hm⟩ := k2; exact DataW.trod_lt m _ _ _ hm
  obtain ⟨a2, rfl, wf2⟩ := open_agg (n := 5) (fun _ h => Step.of_leaves h) Tryz.underlying61 (by kernel_rfl) (hval 2 61 v2 rfl rfl) h2
  clear hA0 hval0
  refine (law_MastKept pa pc pb pd ⟨pxs, ppe, pmo, pys, pcr⟩ W px1 px2 px3 py1 py2 py3 a1 wf1.1 a2 wf2).mono fun e W' ⟨he, bel⟩ => ?_
  subst he
  exact ⟨_, rfl, _, _, _, [], _, [], hW', trodAll_mk1 (shut_bool Tryz.underlying4 _), (trodAll_cons_mk (Below.trod laidOut (by kernel_rfl) (of_decide_eq_true (by kernel_rfl)) k0 bel lt0) (trodAll_cons_mk (Below.trod laidOut (by kernel_rfl) (of_decide_eq_true (by kernel_rfl)) k1 bel lt1) (trodAll_cons_mk (Below.trod laidOut (by kernel_rfl) (of_decide_eq_true (by kernel_rfl)) k2 bel lt2) trodAll_mk0))), rfl, bel.frame _, fun h => by cases h⟩

theorem joined : joinedFacts Tryz.prog 6 Tryz.f6 Rows.mastKeptSpec Rows.mastKeptRow = true := by
  unfold joinedFacts
  rw [mayEnter_is, liftsFinal_is, make_is]
  kernel_rfl
theorem over : Rows.mastKeptRow.holds Tryz.pinned (OpenSpec.ofChange Rows.mastKeptSpec) :=
  OpenClaim.holds_of_wide 6 Tryz.f6 rfl rfl rfl rfl rfl rfl rfl ⟨rfl, rfl, rfl, rfl, rfl⟩ rfl rfl rfl rfl rfl (by kernel_rfl) Tryz.func6 joined
    (of_decide_eq_true (by kernel_rfl)) (by unfold Func.isWrapper; first | (rw [if_pos (by decide +kernel)]; kernel_rfl) | (rw [if_neg (by decide +kernel)]; exact ⟨rfl, rfl⟩))
    (fun os started H enc _ => lifted os started H enc)
end Go.Proofs.YtacbkbilbmkjnaaGreat.mastKept

namespace Go.Proofs.YtacbkbilbmkjnaaGreat
theorem mastKept_holds : Rows.MastKeptSaid := mastKept.over
#print axioms mastKept_holds
end Go.Proofs.YtacbkbilbmkjnaaGreat
