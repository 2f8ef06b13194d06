/-
  TopGauged, the statement: for every input the call returns true and leaves the input alone.
-/
import Derived.Test.YtnfhcpnpjkefmaaTopGBaseM
import Derived.BigRegion
import Derived.Deep.CutBlock
import Derived.Test.YtnfhcpnpjkefmaaTopGaugedMA
set_option linter.unusedVariables false
set_option linter.unusedSimpArgs false
/-
  TopGauged, the plain law: cells that leak and one that is valved, between two gauges that read their volumes. No program in sight.
-/
namespace Bal.Gas
open Bal.Trim
def cAt (l : List Cell) (i : Nat) : Cell := l.getD i default
def volG (a : Air) (c : Cell) : Sp := ⟨volLo c a, volHi c a⟩
/-- what has leaked of a cell -/
def lostC (cs ds : List Cell) (k : Nat) (gone : Int) (i : Nat) : Int := amount (cAt cs i) - amount (cAt ds i) - (if i = k then gone else 0)
/-- two gauges read the cells cs, and later ds; gone units were valved of cell k -/
structure Two (cs ds : List Cell) (a b : Air) (n gone : Int) (k : Nat) (h : Hist) : Prop where
  c0 : 1 ≤ cs.length
  c1 : cs.length ≤ 12
  len : ds.length = cs.length
  cOk : ∀ i, i < cs.length → cellB (cAt cs i) = true
  dOk : ∀ i, i < cs.length → cellB (cAt ds i) = true
  air0 : airB a = true
  air1 : airB b = true
  n0 : 1 ≤ n
  n1 : n ≤ 1000
  g0 : 0 ≤ gone
  g1 : gone ≤ 10000000
  hk : k < cs.length
  same : ∀ i, i < cs.length → (cAt ds i).wlo = (cAt cs i).wlo ∧ (cAt ds i).whi = (cAt cs i).whi
  lost0 : ∀ i, i < cs.length → 0 ≤ lostC cs ds k gone i
  v0 : ∀ i, i < cs.length → volHi (cAt cs i) a ≤ 10000000
  v1 : ∀ i, i < cs.length → volHi (cAt ds i) b ≤ 10000000
  warm : h.warm = cs.map fun c => ⟨c.wlo, c.whi⟩
  glen : h.gauges.length = 2
  ga0 : tt h 0 = 0 ∧ (gAt h 0).air = a ∧ (gAt h 0).vols = cs.map (volG a)
  ga1 : tt h 1 = n ∧ (gAt h 1).air = b ∧ (gAt h 1).vols = ds.map (volG b)
  fl : h.flows = [⟨n, k, -gone⟩]
variable {cs ds : List Cell} {a b : Air} {n gone : Int} {k : Nat} {h : Hist}
theorem map_getD {α : Type} [Inhabited α] (f : Cell → α) (l : List Cell) {i : Nat} (hi : i < l.length) : (l.map f).getD i default = f (cAt l i) := by
  simp [cAt, List.getD_eq_getElem?_getD, hi]
theorem Two.wlen (d : Two cs ds a b n gone k h) : h.warm.length = cs.length := by rw [d.warm]; simp
theorem Two.wAt (d : Two cs ds a b n gone k h) {c : Nat} (hc : c < cs.length) : wAt h c = ⟨(cAt cs c).wlo, (cAt cs c).whi⟩ := by
  unfold Bal.Gas.wAt
  rw [d.warm, map_getD _ _ hc]
theorem vol_ok {c : Cell} {x : Air} (hc : cellB c = true) (hx : airB x = true) (hv : volHi c x ≤ 10000000) : volB (volG x c) = true := by
  obtain ⟨n0, n1, ⟨p0, p1, p2⟩, _⟩ := prod_bd hc hx
  obtain ⟨⟨b1, b2, b3⟩, _⟩ := airB_iff.1 hx
  have e1 : 0 ≤ volLo c x := Int.ediv_nonneg p0 (by omega)
  have e2 : volLo c x ≤ volHi c x := by
    have h1 : volLo c x * x.phi ≤ amount c * heatLo c x := Int.ediv_mul_le _ (by omega)
    have h2 : volLo c x * x.plo ≤ volLo c x * x.phi := Int.mul_le_mul_of_nonneg_left b2 e1
    have h3 : -(amount c * heatHi c x) / x.plo ≤ -volLo c x := by
      have : -(amount c * heatHi c x) / x.plo < -volLo c x + 1 := by
        rw [Int.ediv_lt_iff_lt_mul (by omega), Int.add_mul, Int.neg_mul]
        omega
      omega
    unfold volHi
    omega
  have : spanIn (volLo c x) (volHi c x) 0 10000000 = true := by
    simp only [spanIn, rng, inB, List.all_cons, List.all_nil, Bool.and_eq_true, decide_eq_true_eq, Bool.and_true]
    omega
  exact this
theorem volHi_nonneg {c : Cell} {x : Air} (hc : cellB c = true) (hx : airB x = true) : 0 ≤ volLo c x ∧ 0 ≤ volHi c x := by
  obtain ⟨n0, n1, ⟨p0, p1, p2⟩, _⟩ := prod_bd hc hx
  obtain ⟨⟨b1, b2, b3⟩, _⟩ := airB_iff.1 hx
  refine ⟨Int.ediv_nonneg p0 (by omega), ?_⟩
  have : -(amount c * heatHi c x) / x.plo ≤ 0 := Int.ediv_nonpos_of_nonpos_of_neg (by omega) (by omega)
  unfold volHi
  omega
/-- what a gauge allows holds the amount that there is -/
theorem al_in {h : Hist} {i c : Nat} {x : Air} {e : Cell} (hc : cellB e = true) (hx : airB x = true) (hw : wAt h c = ⟨e.wlo, e.whi⟩) (ha : (gAt h i).air = x) (hv : vAt (gAt h i) c = volG x e) : alLo h i c ≤ amount e ∧ amount e ≤ alHi h i c := by
  obtain ⟨n0, n1, ⟨p0, p1, p2⟩, _⟩ := prod_bd hc hx
  obtain ⟨⟨b1, b2, b3⟩, b4, b5, b6⟩ := airB_iff.1 hx
  obtain ⟨_, _, _, _, _, w1, w2, w3⟩ := cellB_iff.1 hc
  obtain ⟨v0, v1⟩ := volHi_nonneg hc hx
  unfold alLo alHi
  rw [hw, ha, hv]
  simp only [volG]
  constructor
  · have h1 : volLo e x * x.phi ≤ amount e * heatLo e x := Int.ediv_mul_le _ (by omega)
    have h2 : volLo e x * x.plo ≤ volLo e x * x.phi := Int.mul_le_mul_of_nonneg_left b2 v0
    have : -amount e ≤ -(volLo e x * x.plo) / (x.thi + e.whi) := by
      rw [Int.le_ediv_iff_mul_le (by omega), Int.neg_mul]
      have : amount e * heatHi e x = amount e * (x.thi + e.whi) := rfl
      omega
    omega
  · rw [Int.le_ediv_iff_mul_le (by omega)]
    have h3 : amount e * heatHi e x ≤ volHi e x * x.plo := by
      have := Int.mul_ediv_self_le (x := -(amount e * heatHi e x)) (k := x.plo) (by omega)
      unfold volHi
      rw [Int.neg_mul, Int.mul_comm (-(amount e * heatHi e x) / x.plo)]
      omega
    have h4 : volHi e x * x.plo ≤ volHi e x * x.phi := Int.mul_le_mul_of_nonneg_left b2 v1
    have : amount e * heatLo e x = amount e * (x.tlo + e.wlo) := rfl
    omega
theorem Two.al (d : Two cs ds a b n gone k h) {c : Nat} (hc : c < cs.length) : (alLo h 0 c ≤ amount (cAt cs c) ∧ amount (cAt cs c) ≤ alHi h 0 c) ∧ alLo h 1 c ≤ amount (cAt ds c) ∧ amount (cAt ds c) ≤ alHi h 1 c := by
  refine ⟨al_in (d.cOk c hc) d.air0 (d.wAt hc) d.ga0.2.1 ?_, al_in (d.dOk c hc) d.air1 ?_ d.ga1.2.1 ?_⟩
  · unfold vAt; rw [d.ga0.2.2, map_getD _ _ hc]
  · rw [d.wAt hc, (d.same c hc).1, (d.same c hc).2]
  · unfold vAt; rw [d.ga1.2.2, map_getD _ _ (by rw [d.len]; exact hc)]
theorem Two.come0 (d : Two cs ds a b n gone k h) (c : Nat) : come h c (tt h 0) (tt h 0) = 0 := by
  unfold come
  rw [d.fl, sumBy_cons, sumBy_nil]
  simp [flowN, flowIn]
  omega
theorem Two.come1 (d : Two cs ds a b n gone k h) (c : Nat) : come h c (tt h 0) (tt h 1) = if c = k then -gone else 0 := by
  unfold come
  have n0 := d.n0
  rw [d.fl, sumBy_cons, sumBy_nil, d.ga0.1, d.ga1.1]
  by_cases e : c = k
  · subst e; simp [flowN, flowIn]; omega
  · have : ¬ ((k : Int) = c) := by omega
    simp [flowN, flowIn, e, this]
theorem Two.valid (d : Two cs ds a b n gone k h) : histB h = true := by
  have c0 := d.c0
  have c1 := d.c1
  have n0 := d.n0
  have n1 := d.n1
  have g0 := d.g0
  have g1 := d.g1
  have hk := d.hk
  have hl := d.len
  refine histB_true ?_ (fun c hc => ?_) (fun i hi => ?_) fun j hj => ?_
  · rw [sizesB_iff, d.wlen, d.glen, d.fl]
    simp; omega
  · rw [d.wlen] at hc
    rw [d.wAt hc]
    have := cellB_iff.1 (d.cOk c hc)
    simp [warmB, spanIn, rng, inB]
    omega
  · rw [d.glen] at hi
    rw [okG_parts fun h0 => by obtain rfl : i = 1 := by omega
                               rw [d.ga0.1]; omega]
    have hi2 : i = 0 ∨ i = 1 := by omega
    rcases hi2 with rfl | rfl
    · rw [d.ga0.1, d.ga0.2.1, d.ga0.2.2]
      simp only [Bool.and_eq_true, decide_eq_true_eq, List.length_map, d.air0, and_true, List.all_eq_true, List.mem_map, d.wlen, decide_true, Bool.true_or]
      refine ⟨by rw [inB_iff]; omega, ?_⟩
      rintro v ⟨e, he, rfl⟩
      obtain ⟨j, hj, rfl⟩ := List.mem_iff_getElem.1 he
      have e1 : cs[j] = cAt cs j := by simp [cAt, hj]
      rw [e1]
      exact vol_ok (d.cOk j hj) d.air0 (d.v0 j hj)
    · rw [d.ga1.1, d.ga1.2.1, d.ga1.2.2]
      simp only [Bool.and_eq_true, decide_eq_true_eq, List.length_map, d.air1, and_true, List.all_eq_true, List.mem_map, d.wlen, d.len, Bool.or_eq_true]
      refine ⟨⟨by rw [inB_iff]; omega, .inr (by rw [show 1 - 1 = 0 from rfl, d.ga0.1]; omega)⟩, ?_⟩
      rintro v ⟨e, he, rfl⟩
      obtain ⟨j, hj, rfl⟩ := List.mem_iff_getElem.1 he
      have e1 : ds[j] = cAt ds j := by simp [cAt, hj]
      rw [e1]
      exact vol_ok (d.dOk j (by omega)) d.air1 (d.v1 j (by omega))
  · have hm : h.flows[j] ∈ h.flows := List.getElem_mem hj
    generalize h.flows[j] = f at hm
    rw [d.fl, List.mem_singleton] at hm
    subst hm
    simp only [flowB, Bool.and_eq_true, inB_iff, d.wlen]
    omega
theorem Two.told (d : Two cs ds a b n gone k h) {i c : Nat} (hi : i < 2) (hc : c < cs.length) : toldLo h c i ≤ amount (cAt cs c) - (if i = 0 then 0 else lostC cs ds k gone c) ∧ amount (cAt cs c) - (if i = 0 then 0 else lostC cs ds k gone c) ≤ toldHi h c i := by
  obtain ⟨h1, h2⟩ := d.al hc
  unfold toldLo toldHi
  have hi2 : i = 0 ∨ i = 1 := by omega
  rcases hi2 with rfl | rfl
  · rw [d.come0]; simp; omega
  · rw [d.come1]
    simp only [lostC, if_neg (show ¬ (1 = 0) by decide)]
    split <;> omega
theorem Two.free (d : Two cs ds a b n gone k h) : conf h = none := by
  have ho := histB_ok d.valid
  have gl := d.glen
  have wl := d.wlen
  refine conf_none fun c t f hc ht hf => ?_
  rw [clash_told ho hf ht]
  have h1 := d.told (i := f) (c := c) (by omega) (by omega)
  have h2 := d.told (i := t) (c := c) (by omega) (by omega)
  have l0 := d.lost0 c (by omega)
  have m : (if f = 0 then 0 else lostC cs ds k gone c) ≤ (if t = 0 then 0 else lostC cs ds k gone c) := by
    by_cases e : f = 0
    · subst e; simp; split <;> omega
    · rw [if_neg e, if_neg (by omega)]; exact Int.le_refl _
  have n1 : ¬ toldHi h c f < toldLo h c f := by omega
  have n2 : ¬ toldHi h c f < toldLo h c t := by omega
  simp [n1, n2]
theorem Two.confE (d : Two cs ds a b n gone k h) : confE h = 6 := (cf_none d.valid d.free).2.2.2
theorem Two.amt (d : Two cs ds a b n gone k h) {c : Nat} (hc : c < cs.length) : 0 ≤ amount (cAt cs c) ∧ amount (cAt cs c) ≤ 20000000 ∧ lostC cs ds k gone c ≤ 20000000 := by
  obtain ⟨n0, n1, _⟩ := prod_bd (d.cOk c hc) d.air0
  obtain ⟨m0, m1, _⟩ := prod_bd (d.dOk c hc) d.air1
  have g0 := d.g0
  refine ⟨n0, n1, ?_⟩
  unfold lostC
  split <;> omega
theorem Two.lost (d : Two cs ds a b n gone k h) {c : Nat} (hc : c < cs.length) : lostLo h c ≤ lostC cs ds k gone c ∧ lostC cs ds k gone c ≤ lostHi h c := by
  have gl := d.glen
  have l0 := d.lost0 c hc
  have ab := d.amt hc
  have h0 := d.told (i := 0) (by omega) hc
  have h1 := d.told (i := 1) (by omega) hc
  simp only [if_true, if_neg (show ¬ (1 = 0) by decide)] at h0 h1
  have nn := need_le (h := h) (c := c) (M := amount (cAt cs c)) (by omega) 2 fun i hi => by
    have := d.told (i := i) hi hc
    split at this <;> omega
  have cc := can_ge (h := h) (c := c) (M := amount (cAt cs c) - lostC cs ds k gone c) (by omega) 2 fun i hi => by
    have := d.told (i := i) hi hc
    split at this <;> omega
  unfold lostLo lostHi
  rw [gl]
  simp only [if_neg (show ¬ (2 = 1) by decide)]
  rw [show 2 - 1 = 1 from rfl]
  omega
def lostAll (cs ds : List Cell) (k : Nat) (gone : Int) (m : Nat) : Int := sumBy (lostC cs ds k gone) (List.range m)
theorem lostAll_succ (cs ds : List Cell) (k : Nat) (gone : Int) (m : Nat) : lostAll cs ds k gone (m + 1) = lostAll cs ds k gone m + lostC cs ds k gone m := by
  unfold lostAll; rw [List.range_succ, sumBy_append, sumBy_cons, sumBy_nil]; omega
theorem Two.alls (d : Two cs ds a b n gone k h) : ∀ m, m ≤ cs.length → (0 ≤ lostAll cs ds k gone m ∧ lostAll cs ds k gone m ≤ 20000000 * m) ∧ allLo h m ≤ lostAll cs ds k gone m ∧ lostAll cs ds k gone m ≤ allHi h m ∧
    (∀ c, c < m → allLo h m - lostLo h c ≤ lostAll cs ds k gone m - lostC cs ds k gone c ∧ lostAll cs ds k gone m - lostC cs ds k gone c ≤ allHi h m - lostHi h c)
  | 0, _ => by simp [allLo, allHi, lostAll]
  | m + 1, hm => by
    obtain ⟨h0, h1, h2, h3⟩ := d.alls m (by omega)
    have l := d.lost (c := m) (by omega)
    have l0 := d.lost0 m (by omega)
    have ab := d.amt (c := m) (by omega)
    rw [allLo_succ, allHi_succ, lostAll_succ]
    refine ⟨by omega, by omega, by omega, fun c hc => ?_⟩
    by_cases e : c = m
    · subst e; omega
    · have := h3 c (by omega); omega
theorem Two.leaks (d : Two cs ds a b n gone k h) : leaksE h 0 1000000000000 = 0 ∧ (leaksL h 0 1000000000000).length = cs.length ∧ ∀ c (hc : c < (leaksL h 0 1000000000000).length), (leaksL h 0 1000000000000)[c].lo ≤ lostC cs ds k gone c ∧ lostC cs ds k gone c ≤ (leaksL h 0 1000000000000)[c].hi := by
  have wl := d.wlen
  have c1 := d.c1
  obtain ⟨⟨s0, s1⟩, h1, h2, h3⟩ := d.alls cs.length (Nat.le_refl _)
  have e : leaksE h 0 1000000000000 = 0 := by
    rw [leaks_free d.valid (by decide) (by rw [d.confE]; decide)]
    have : outB h 0 1000000000000 = false := by
      simp only [outB, wl]
      simp
      omega
    rw [this]; rfl
  have el : leaksL h 0 1000000000000 = (List.range h.warm.length).map fun c => ⟨leakLo h 0 c, leakHi h 1000000000000 c⟩ := by simp [leaksL, e]
  rw [el]
  refine ⟨e, by simp [wl], fun c hc => ?_⟩
  have hc : c < cs.length := by simpa [wl] using hc
  have := h3 c hc
  have l := d.lost hc
  simp only [List.getElem_map, List.getElem_range, leakLo, leakHi, wl]
  omega
theorem Two.named (d : Two cs ds a b n gone k h) : ∀ i (hi : i < (namedL h 0 1000000000000).length), ∃ j : Nat, j < cs.length ∧ (namedL h 0 1000000000000)[i] = j ∧ lostC cs ds k gone j ≠ 0 := by
  have wl := d.wlen
  obtain ⟨e, el, hb⟩ := d.leaks
  intro i hi
  obtain ⟨j, h1, h2, h3⟩ := namedTo_mem _ _ (List.getElem_mem hi)
  have hj : j < (leaksL h 0 1000000000000).length := by omega
  have := hb j hj
  rw [List.getD_eq_getElem?_getD, List.getElem?_eq_getElem hj] at h3
  simp at h3
  exact ⟨j, by omega, h2, by omega⟩
/-- all that leaked in a tick is booked -/
theorem leakC_all (c : Cell) : amount c - amount (leakC c) = leakN c := by
  have := leakC_sum c
  unfold amount; omega
theorem tickTo_booked (p : Plant) : ∀ m, m ≤ p.cells.length → (tickTo p m).lH + (tickTo p m).lA - p.lH - p.lA = sumBy (fun i => amount (cellAt p i) - amount (leakC (cellAt p i))) (List.range m)
  | 0, _ => by simp [tickTo]; omega
  | m + 1, hm => by
    have ih := tickTo_booked p m (by omega)
    have e := tickTo_at p m m (by omega)
    rw [if_neg (by omega)] at e
    rw [List.range_succ, sumBy_append, sumBy_cons, sumBy_nil, leakC_all, ← ih]
    simp only [tickTo, leakAt, e]
    omega
theorem sumBy_congr {α : Type} {f g : α → Int} : ∀ {l : List α}, (∀ x ∈ l, f x = g x) → sumBy f l = sumBy g l
  | [], _ => rfl
  | x :: l, hx => by rw [sumBy_cons, sumBy_cons, hx x (by simp), sumBy_congr fun y hy => hx y (by simp [hy])]
theorem sumBy_plus {α : Type} (f g : α → Int) : ∀ l : List α, sumBy (fun x => f x + g x) l = sumBy f l + sumBy g l
  | [] => rfl
  | x :: l => by rw [sumBy_cons, sumBy_cons, sumBy_cons, sumBy_plus f g l]; omega
theorem ticks_booked (p : Plant) : ∀ m, (ticks p m).lH + (ticks p m).lA - p.lH - p.lA = sumBy (fun i => amount (cellAt p i) - amount (cellAt (ticks p m) i)) (List.range p.cells.length)
  | 0 => by
    have : sumBy (fun i => amount (cellAt p i) - amount (cellAt (ticks p 0) i)) (List.range p.cells.length) = sumBy (fun _ => 0) (List.range p.cells.length) := sumBy_congr fun x _ => by simp [ticks]
    rw [this]
    have z : ∀ l : List Nat, sumBy (fun _ => (0 : Int)) l = 0 := fun l => by
      induction l with
      | nil => rfl
      | cons x l ih => rw [sumBy_cons, ih]; rfl
    rw [z]
    simp [ticks]; omega
  | m + 1 => by
    have ih := ticks_booked p m
    have hl := ticks_len p m
    have t := tickTo_booked (ticks p m) p.cells.length (by omega)
    have s : sumBy (fun i => amount (cellAt p i) - amount (cellAt (ticks p (m + 1)) i)) (List.range p.cells.length) =
        sumBy (fun i => (amount (cellAt p i) - amount (cellAt (ticks p m) i)) + (amount (cellAt (ticks p m) i) - amount (leakC (cellAt (ticks p m) i)))) (List.range p.cells.length) := by
      refine sumBy_congr fun i hi => ?_
      have hi : i < p.cells.length := List.mem_range.1 hi
      simp only [ticks]
      rw [tickTo_at _ i p.cells.length (by omega), if_pos hi]
      omega
    rw [s, sumBy_plus, ← ih, ← t]
    simp only [ticks]
    omega
end Bal.Gas

/-
  TopGauged, the plain law: a tick and a valving. No program in sight.
-/
namespace Bal.Gas
open Bal.Trim
def tickD (n : Int) : Deed := ⟨7, 0, 0, n⟩
def valveD (k v : Int) : Deed := ⟨3, k, 0, v⟩
theorem gauged_tick {p : Plant} {n : Nat} (hp : plantB p = true) (h0 : 1 ≤ n) (h1 : n ≤ 50) : doE p (tickD n) = 0 ∧ doQ p (tickD n) = ticks p n ∧ plantB (ticks p n) = true := by
  have ht := ticks_B hp n
  have he : errA p (tickD n) = 0 := by simp [errA, tickD, rng, inB]; omega
  have hr : resA p (tickD n) = ticks p n := by simp [resA, tickD, tickP]
  have h : doE p (tickD n) = 0 := by rw [doE, if_pos hp, if_pos he, hr, if_pos ht]
  exact ⟨h, by rw [doQ, if_pos h, hr], ht⟩
/-- q is p behind a tick of n, and behind a valving of gone units of cell k -/
structure Gone (p : Plant) (n k : Nat) (q : Plant) (gone : Int) : Prop where
  len : q.cells.length = p.cells.length
  ok : plantB q = true
  same : ∀ i, i < p.cells.length → SameC (cellAt q i) (cellAt p i)
  lost0 : ∀ i, i < p.cells.length → 0 ≤ lostC p.cells q.cells k gone i
  all : q.lH + q.lA - p.lH - p.lA = lostAll p.cells q.cells k gone p.cells.length
  g0 : 0 ≤ gone
  g1 : gone ≤ 10000000
theorem cAt_cell (p : Plant) (i : Nat) : cAt p.cells i = cellAt p i := rfl
theorem cell_ok {p : Plant} (hp : plantB p = true) {i : Nat} (hi : i < p.cells.length) : cellB (cellAt p i) = true := by
  obtain ⟨_, _, _, _, _, _, hc, _⟩ := plantB_iff.1 hp
  have : cellAt p i = p.cells[i] := by simp [cellAt, hi]
  rw [this]
  exact hc _ (List.getElem_mem hi)
theorem tick_less {p : Plant} (hp : plantB p = true) (n : Nat) {i : Nat} (hi : i < p.cells.length) : amount (cellAt (ticks p n) i) ≤ amount (cellAt p i) := by
  rw [ticks_at p i hi n]
  have := (leakK_bd (cell_ok hp hi) n).2.2.1
  unfold amount; omega
theorem gone_no {p : Plant} (hp : plantB p = true) (n k : Nat) : Gone p n k (ticks p n) 0 := by
  refine ⟨ticks_len p n, ticks_B hp n, fun i hi => ?_, fun i hi => ?_, ?_, by omega, by omega⟩
  · rw [ticks_at p i hi n]; exact leakK_same _ n
  · have := tick_less hp n hi
    unfold lostC
    rw [cAt_cell, cAt_cell]
    split <;> omega
  · rw [ticks_booked]
    unfold lostAll
    refine sumBy_congr fun i hi => ?_
    unfold lostC
    rw [cAt_cell, cAt_cell]
    split <;> omega
theorem less_amount (c : Cell) (m : Int) : amount (less c m) = amount c - m := by unfold amount less; simp only; omega
theorem gone_valve {p : Plant} (hp : plantB p = true) (n : Nat) {k : Nat} (hk : k < p.cells.length) {v : Int} (he : doE (ticks p n) (valveD k v) = 0) : Gone p n k (doQ (ticks p n) (valveD k v)) v := by
  have ht := ticks_B hp n
  have hl := ticks_len p n
  obtain ⟨h1, h2, h3, h4⟩ := (doE_cases (d := valveD k v) ht).resolve_right fun h => by omega
  have hr : resA (ticks p n) (valveD k v) = valveP (ticks p n) (valveD k v) := by simp [resA, valveD]
  have ha := argB_iff.1 ((err_arg h2).1 (by simp [valveD]) (by simp [valveD]))
  simp only [valveD] at ha
  rw [h4]
  have hb := (kept_books h2).2.2.2.2.1 (by simp [valveD])
  have hc : ∀ i, cellAt (resA (ticks p n) (valveD k v)) i = if k = i then less (cellAt (ticks p n) k) v else cellAt (ticks p n) i := by
    intro i
    rw [hr]
    have : (valveP (ticks p n) (valveD k v)).cells = (ticks p n).cells.set k (less (cellAt (ticks p n) k) v) := by
      simp [valveP, lessP, valveD, at_]
    unfold cellAt
    rw [this]
    exact cellAt_set (ticks p n) k i _ (by omega)
  have hlen : (resA (ticks p n) (valveD k v)).cells.length = p.cells.length := by rw [resA_len, hl]
  have hlo : ∀ i, lostC p.cells (resA (ticks p n) (valveD k v)).cells k v i = amount (cellAt p i) - amount (cellAt (ticks p n) i) := by
    intro i
    unfold lostC
    rw [cAt_cell, cAt_cell, hc i]
    by_cases e : k = i
    · subst e; rw [if_pos rfl, if_pos rfl, less_amount]; omega
    · rw [if_neg e, if_neg fun h => e h.symm]; omega
  refine ⟨hlen, h3, fun i hi => ?_, fun i hi => ?_, ?_, by omega, by omega⟩
  · have s1 := (kept_cell (i := i) (by omega) h2).1
    have s2 := leakK_same (cellAt p i) n
    rw [← ticks_at p i hi n] at s2
    exact ⟨s1.1.trans s2.1, s1.2.1.trans s2.2.1, s1.2.2.1.trans s2.2.2.1, s1.2.2.2.trans s2.2.2.2⟩
  · rw [hlo i]
    have := tick_less hp n hi
    omega
  · rw [hb.1, hb.2, ticks_booked]
    unfold lostAll
    exact sumBy_congr fun i _ => (hlo i).symm
theorem Gone.lost_small {p q : Plant} {n k : Nat} {gone : Int} (hp : plantB p = true) (g : Gone p n k q gone) {i : Nat} (hi : i < p.cells.length) : (0 ≤ amount (cellAt p i) ∧ amount (cellAt p i) ≤ 20000000) ∧ (0 ≤ amount (cellAt q i) ∧ amount (cellAt q i) ≤ 20000000) ∧ 0 ≤ lostC p.cells q.cells k gone i ∧ lostC p.cells q.cells k gone i ≤ 20000000 := by
  have h1 := cellB_iff.1 (cell_ok hp hi)
  have h2 := cellB_iff.1 (cell_ok g.ok (i := i) (by rw [g.len]; exact hi))
  have h3 := g.lost0 i hi
  have h4 := g.g0
  have e : lostC p.cells q.cells k gone i = amount (cellAt p i) - amount (cellAt q i) - (if i = k then gone else 0) := rfl
  rw [e] at h3 ⊢
  unfold amount at *
  refine ⟨by omega, by omega, h3, ?_⟩
  split <;> omega
/-- both joined: two gauges of a plant -/
theorem Gone.two {p q : Plant} {n k : Nat} {gone : Int} {a b : Air} {h : Hist} (hp : plantB p = true) (g : Gone p n k q gone) (hk : k < p.cells.length) (n0 : 1 ≤ n) (n1 : n ≤ 50) (ha : airB a = true) (hb : airB b = true)
    (v0 : ∀ i, i < p.cells.length → volHi (cellAt p i) a ≤ 10000000) (v1 : ∀ i, i < p.cells.length → volHi (cellAt q i) b ≤ 10000000)
    (warm : h.warm = p.cells.map fun c => ⟨c.wlo, c.whi⟩) (glen : h.gauges.length = 2)
    (ga0 : tt h 0 = 0 ∧ (gAt h 0).air = a ∧ (gAt h 0).vols = p.cells.map (volG a)) (ga1 : tt h 1 = n ∧ (gAt h 1).air = b ∧ (gAt h 1).vols = q.cells.map (volG b)) (fl : h.flows = [⟨n, k, -gone⟩]) :
    Two p.cells q.cells a b n gone k h := by
  have hl := (plantB_iff.1 hp).1
  exact ⟨by omega, by omega, g.len, fun i hi => cell_ok hp hi, fun i hi => cell_ok g.ok (by rw [g.len]; exact hi), ha, hb, by omega, by omega, g.g0, g.g1, hk, fun i hi => ⟨(g.same i hi).2.1, (g.same i hi).2.2.1⟩, g.lost0, v0, v1, warm, glen, ga0, ga1, fl⟩
end Bal.Gas

/-
  The example of chapter 2 and 3: the program lives.
-/
namespace Go.Proofs.Ytnfhcpnpjkefmaa
open Go.RowKit Bal Bal.Trim Bal.Gas Bal.Wx
set_option linter.unusedVariables false
set_option linter.unusedSimpArgs false
set_option maxHeartbeats 4000000
set_option maxRecDepth 100000

theorem x_fits1 (w : World) : Calls Try.prog 14 #[.agg #[.int .i64 70, .int .i64 220, .int .i64 0, .int .i64 0, .int .i64 0, .int .i64 0, .int .i64 0], .agg #[.int .i64 8850, .int .i64 10000, .int .i64 2800, .int .i64 2800]] w fun e w' => e = .returned (.tuple #[.int .u8 1, .int .i64 0]) ∧ Kept w w' := by
  have h := f_FitsC ⟨70, 220, 0, 0, 0, 0, 0⟩ ⟨8850, 10000, 2800, 2800⟩ w
  rw [show asked ⟨70, 220, 0, 0, 0, 0, 0⟩ ⟨8850, 10000, 2800, 2800⟩ = 0 by decide, show state ⟨70, 220, 0, 0, 0, 0, 0⟩ ⟨8850, 10000, 2800, 2800⟩ = 1 by decide] at h
  exact h

theorem x_fits2 (w : World) : Calls Try.prog 14 #[.agg #[.int .i64 70, .int .i64 250, .int .i64 0, .int .i64 0, .int .i64 0, .int .i64 0, .int .i64 0], .agg #[.int .i64 8850, .int .i64 10000, .int .i64 2800, .int .i64 2800]] w fun e w' => e = .returned (.tuple #[.int .u8 2, .int .i64 0]) ∧ Kept w w' := by
  have h := f_FitsC ⟨70, 250, 0, 0, 0, 0, 0⟩ ⟨8850, 10000, 2800, 2800⟩ w
  rw [show asked ⟨70, 250, 0, 0, 0, 0, 0⟩ ⟨8850, 10000, 2800, 2800⟩ = 0 by decide, show state ⟨70, 250, 0, 0, 0, 0, 0⟩ ⟨8850, 10000, 2800, 2800⟩ = 2 by decide] at h
  exact h

theorem f_alive (w : World) : Calls Try.prog 4 #[] w fun e w' => e = .returned (.bool true) ∧ Kept w w' := by
  go_enter Try.func4, Try.ntmps4
  go_wp2_with (first | (go_at_call 13; (with_reducible refine (f_sounding _).mono ?_); rintro e w1 ⟨⟨g, rfl, hr⟩, hb1⟩) | (go_at_call 7; (with_reducible refine (f_At_alive ⟨g, 0, none⟩ 2 _ (hr.later (by exact kpta) (Nat.le_refl _)) (Nat.le_refl _)).mono ?_); rintro e w2 ⟨rfl, hb2⟩) | (go_at_call 14; (with_reducible refine (x_fits1 _).mono ?_); rintro e w3 ⟨rfl, hb3⟩; refine Blk.thru (b := w2.heap.size) (arr := ?_) (t := ?_) ?_ hb3 ?_; rotate_left 2; (focus (exact blk)); intro o3; have o3c0 := o3.cell 0; have o3f0 := o3.free 0; have o3c1 := o3.cell 1; have o3f1 := o3.free 1; have o3c2 := o3.cell 2; have o3f2 := o3.free 2; have o3c3 := o3.cell 3; have o3f3 := o3.free 3; have o3l := o3.lt; simp at o3c0 o3c1 o3c2 o3c3) | (go_at_call 14; (with_reducible refine (x_fits2 _).mono ?_); rintro e w4 ⟨rfl, hb4⟩))
  go_ret
  exact ⟨rfl, by exact kpta⟩

end Go.Proofs.Ytnfhcpnpjkefmaa

/-
  TopGauged by segments: the first regions.
-/
namespace Go.Proofs.Ytnfhcpnpjkefmaa
open Go.RowKit Bal Bal.Trim Bal.Gas Bal.Wx
set_option linter.unusedVariables false
set_option linter.unusedSimpArgs false
set_option maxHeartbeats 8000000
set_option maxRecDepth 100000

theorem tg_4 {s0 s2 s3 s4 s5 s6 s8 s9 s10 s11 s12 s13 s14 s15 s16 s17 s18 s19 s20 s21 s22 s23 s24 s25 s26 s27 s28 s29 s30 s31 s32 s33 s34 s35 s36 s37 s38 s39 s40 s41 s42 s43 s44 s45 s46 s47 s48 s49 s50 s51 s52 s53 s54 s55 s56 s57 s58 s59 s60 s61 s62 s63 s64 s65 s66 s67 s68 s69 s70 s71 s72 s73 s74 s75 s76 s77 s78 s79 s80 s81 s82 s83 s84 s85 s86 s87 s88 s89 s90 s91 s92 s93 s94 s95 s96 s97 s98 s99 s100 s101 s102 s103 s104 s105 s106 s107 s108 s109 s110 s111 s112 s113 s114 s115 s116 s117 s118 s119 s120 s121 s122 s123 s124 s125 s126 s127 s128 s129 s130 s131 s132 s133 s134 s135 s136 s137 s138 s139 s140 s141 s142 s143 s144 s145 s146 s147 s148 s149 s150 s151 s152 s153 s154 s155 s156 s157 s158 s159 s160 s161 s162 s163 s164 s165 s166 s167 s168 s169 s170 s171 s172 s173 s174 s175 s176 s177 s178 s179 s180 s181 s182 s183 s184 s185 s186 s187 s188 s189 s190 s191 s192 s193 s194 s195 s196 s197 s198 s199 s200 s201 s202 s203 s204 s205 s206 s207 s208 s209 s210 s211 s212 s213 s214 s215 s216 s217 s218 s219 s220 s221 s222 s223 s224 s225 s226 s227 s228 s229 s230 s231 s232 s233 s234 s235 s236 s237 s238 s239 s240 s241 s242 s243 s244 s245 s246 s247 s248 s249 s250 s251 s252 s253 s254 s255 s256 s257 s258 s259 s260 s261 s262 s263 s264 s265 s266 s267 s268 s269 s270 s271 s272 s273 s274 s275 s276 s277 s278 s279 s280 s281 s282 s283 s284 s285 s286 s287 s288 s289 s290 s291 s292 s293 s294 s295 s296 s297 s298 s299 s300 s301 s302 s303 s304 s305 s306 s307 s308 s309 s310 s311 s312 s313 s314 s315 s316 s317 s318 s319 s320 s321 s322 s323 s324 s325 s326 s327 s328 s329 s330 s331 s332 s333 s334 s335 s336 s337 s338 s339 s340 s341 s342 s343 s344 s345 s346 s347 s348 s349 s350 : Value} {n7 : Nat} {p : Plant} {a al : Option Addr} {cap cpl : Nat} {l : List Lev} {w9 : World} (C : Code) (hC : (Try.f3.body.bind fun c => regOf c 4) = some C) (Q : Exit → Act → World → Prop) (b7 : Blk w9 n7 #[.slice a p.cells.length cap, .int .i64 p.bottles, .int .i64 p.inH, .int .i64 p.inA, .int .i64 p.vH, .int .i64 p.vA, .int .i64 p.lH, .int .i64 p.lA, .int .i64 p.pH, .int .i64 p.pA] 26) (hx : Row Cell.cells 7 w9.heap.size w9 a p.cells) (hc : p.cells.length ≤ cap) (hM : cap ≤ maxLen) (hr : Row Lev.cells 5 w9.heap.size w9 al l) (hcl : l.length ≤ cpl) (hcm : cpl ≤ maxLen)
    (hK : ∀ (v : Bool) (u45 u46 u47 u48 u49 u50 u51 u52 u53 u54 u55 u56 u57 u58 u59 u60 u61 u62 : Value) (wc : World), ((v = false → plantB p = true ∧ 0 < p.cells.length ∧ l.length ≤ 24 ∧ Snd l) ∧ Kept w9 wc) → Q .normal ⟨#[s0, .slice al l.length cpl, s2, s3, s4, s5, s6, .pointer (some ⟨n7, 0, none⟩), s8, s9, s10, s11, s12, s13, s14, s15, s16, s17, s18, s19, s20, s21, s22, s23, s24, s25, s26, s27, s28, s29, s30, s31, s32, s33, s34, s35, s36, s37, s38, s39, s40, s41, s42, s43, s44, u45, u46, u47, u48, u49, u50, u51, u52, u53, u54, u55, u56, u57, u58, u59, u60, u61, u62, .bool v, s64, s65, s66, s67, s68, s69, s70, s71, s72, s73, s74, s75, s76, s77, s78, s79, s80, s81, s82, s83, s84, s85, s86, s87, s88, s89, s90, s91, s92, s93, s94, s95, s96, s97, s98, s99, s100, s101, s102, s103, s104, s105, s106, s107, s108, s109, s110, s111, s112, s113, s114, s115, s116, s117, s118, s119, s120, s121, s122, s123, s124, s125, s126, s127, s128, s129, s130, s131, s132, s133, s134, s135, s136, s137, s138, s139, s140, s141, s142, s143, s144, s145, s146, s147, s148, s149, s150, s151, s152, s153, s154, s155, s156, s157, s158, s159, s160, s161, s162, s163, s164, s165, s166, s167, s168, s169, s170, s171, s172, s173, s174, s175, s176, s177, s178, s179, s180, s181, s182, s183, s184, s185, s186, s187, s188, s189, s190, s191, s192, s193, s194, s195, s196, s197, s198, s199, s200, s201, s202, s203, s204, s205, s206, s207, s208, s209, s210, s211, s212, s213, s214, s215, s216, s217, s218, s219, s220, s221, s222, s223, s224, s225, s226, s227, s228, s229, s230, s231, s232, s233, s234, s235, s236, s237, s238, s239, s240, s241, s242, s243, s244, s245, s246, s247, s248, s249, s250, s251, s252, s253, s254, s255, s256, s257, s258, s259, s260, s261, s262, s263, s264, s265, s266, s267, s268, s269, s270, s271, s272, s273, s274, s275, s276, s277, s278, s279, s280, s281, s282, s283, s284, s285, s286, s287, s288, s289, s290, s291, s292, s293, s294, s295, s296, s297, s298, s299, s300, s301, s302, s303, s304, s305, s306, s307, s308, s309, s310, s311, s312, s313, s314, s315, s316, s317, s318, s319, s320, s321, s322, s323, s324, s325, s326, s327, s328, s329, s330, s331, s332, s333, s334, s335, s336, s337, s338, s339, s340, s341, s342, s343, s344, s345, s346, s347, s348, s349, s350], []⟩ wc) : C.wp Try.prog Q ⟨#[s0, .slice al l.length cpl, s2, s3, s4, s5, s6, .pointer (some ⟨n7, 0, none⟩), s8, s9, s10, s11, s12, s13, s14, s15, s16, s17, s18, s19, s20, s21, s22, s23, s24, s25, s26, s27, s28, s29, s30, s31, s32, s33, s34, s35, s36, s37, s38, s39, s40, s41, s42, s43, s44, s45, s46, s47, s48, s49, s50, s51, s52, s53, s54, s55, s56, s57, s58, s59, s60, s61, s62, s63, s64, s65, s66, s67, s68, s69, s70, s71, s72, s73, s74, s75, s76, s77, s78, s79, s80, s81, s82, s83, s84, s85, s86, s87, s88, s89, s90, s91, s92, s93, s94, s95, s96, s97, s98, s99, s100, s101, s102, s103, s104, s105, s106, s107, s108, s109, s110, s111, s112, s113, s114, s115, s116, s117, s118, s119, s120, s121, s122, s123, s124, s125, s126, s127, s128, s129, s130, s131, s132, s133, s134, s135, s136, s137, s138, s139, s140, s141, s142, s143, s144, s145, s146, s147, s148, s149, s150, s151, s152, s153, s154, s155, s156, s157, s158, s159, s160, s161, s162, s163, s164, s165, s166, s167, s168, s169, s170, s171, s172, s173, s174, s175, s176, s177, s178, s179, s180, s181, s182, s183, s184, s185, s186, s187, s188, s189, s190, s191, s192, s193, s194, s195, s196, s197, s198, s199, s200, s201, s202, s203, s204, s205, s206, s207, s208, s209, s210, s211, s212, s213, s214, s215, s216, s217, s218, s219, s220, s221, s222, s223, s224, s225, s226, s227, s228, s229, s230, s231, s232, s233, s234, s235, s236, s237, s238, s239, s240, s241, s242, s243, s244, s245, s246, s247, s248, s249, s250, s251, s252, s253, s254, s255, s256, s257, s258, s259, s260, s261, s262, s263, s264, s265, s266, s267, s268, s269, s270, s271, s272, s273, s274, s275, s276, s277, s278, s279, s280, s281, s282, s283, s284, s285, s286, s287, s288, s289, s290, s291, s292, s293, s294, s295, s296, s297, s298, s299, s300, s301, s302, s303, s304, s305, s306, s307, s308, s309, s310, s311, s312, s313, s314, s315, s316, s317, s318, s319, s320, s321, s322, s323, s324, s325, s326, s327, s328, s329, s330, s331, s332, s333, s334, s335, s336, s337, s338, s339, s340, s341, s342, s343, s344, s345, s346, s347, s348, s349, s350], []⟩ w9 := by
  have e0 : (Try.f3.body.bind fun c => regOf c 4) = some (.region 4 _ _) := rfl
  rw [e0] at hC
  cases hC
  clear e0
  try dsimp only at hK ⊢
  have HK := Lib.hid hK
  clear hK
  cases hp : plantB p
  · have KC := Lib.hid (show ∀ W, Kept w9 W → Calls Try.prog 5 #[.agg #[.slice a p.cells.length cap, .int .i64 p.bottles, .int .i64 p.inH, .int .i64 p.inA, .int .i64 p.vH, .int .i64 p.vA, .int .i64 p.lH, .int .i64 p.lA, .int .i64 p.pH, .int .i64 p.pA]] W fun e w' => e = .returned (.int .i64 32) ∧ Kept W w' from fun W hW => by have k_ := r_Check p a cap W (hx.later hW (Nat.le_refl _)) hc hM; rw [show plantE p = 32 by simp [plantE, hp]] at k_; exact k_)
    clear hp hM hcm
    generalize p.cells.length = N at b7 KC HK
    have b7c0 := b7.cell 0
    have b7f0 := b7.free 0
    have b7c1 := b7.cell 1
    have b7f1 := b7.free 1
    have b7c2 := b7.cell 2
    have b7f2 := b7.free 2
    have b7c3 := b7.cell 3
    have b7f3 := b7.free 3
    have b7c4 := b7.cell 4
    have b7f4 := b7.free 4
    have b7c5 := b7.cell 5
    have b7f5 := b7.free 5
    have b7c6 := b7.cell 6
    have b7f6 := b7.free 6
    have b7c7 := b7.cell 7
    have b7f7 := b7.free 7
    have b7c8 := b7.cell 8
    have b7f8 := b7.free 8
    have b7c9 := b7.cell 9
    have b7f9 := b7.free 9
    have b7l := b7.lt
    simp at b7c0 b7c1 b7c2 b7c3 b7c4 b7c5 b7c6 b7c7 b7c8 b7c9
    go_wp2_with (go_at_call 5; (with_reducible refine (KC.out _ (by exact kpta)).mono ?_); rintro e w1 ⟨rfl, hb1⟩; refine Blk.thru (b := n7) (arr := ?_) (t := ?_) ?_ hb1 ?_; rotate_left 2; (focus (exact blk)); intro o1; have o1c0 := o1.cell 0; have o1f0 := o1.free 0; have o1c1 := o1.cell 1; have o1f1 := o1.free 1; have o1c2 := o1.cell 2; have o1f2 := o1.free 2; have o1c3 := o1.cell 3; have o1f3 := o1.free 3; have o1c4 := o1.cell 4; have o1f4 := o1.free 4; have o1c5 := o1.cell 5; have o1f5 := o1.free 5; have o1c6 := o1.cell 6; have o1f6 := o1.free 6; have o1c7 := o1.cell 7; have o1f7 := o1.free 7; have o1c8 := o1.cell 8; have o1f8 := o1.free 8; have o1c9 := o1.cell 9; have o1f9 := o1.free 9; have o1l := o1.lt; simp at o1c0 o1c1 o1c2 o1c3 o1c4 o1c5 o1c6 o1c7 o1c8 o1c9)
    all_goals exact HK.out true _ _ _ _ _ _ _ _ _ _ _ _ _ _ _ _ _ _ _ ⟨(fun h => by cases h), by exact kpta⟩
  have KC := Lib.hid (show ∀ W, Kept w9 W → Calls Try.prog 5 #[.agg #[.slice a p.cells.length cap, .int .i64 p.bottles, .int .i64 p.inH, .int .i64 p.inA, .int .i64 p.vH, .int .i64 p.vA, .int .i64 p.lH, .int .i64 p.lA, .int .i64 p.pH, .int .i64 p.pA]] W fun e w' => e = .returned (.int .i64 0) ∧ Kept W w' from fun W hW => by have k_ := r_Check p a cap W (hx.later hW (Nat.le_refl _)) hc hM; rw [show plantE p = 0 by simp [plantE, hp]] at k_; exact k_)
  have HP := Lib.hid hp
  unfold maxLen at hM hcm
  clear hp
  generalize p.cells.length = N at b7 hc KC HK
  have b7c0 := b7.cell 0
  have b7f0 := b7.free 0
  have b7c1 := b7.cell 1
  have b7f1 := b7.free 1
  have b7c2 := b7.cell 2
  have b7f2 := b7.free 2
  have b7c3 := b7.cell 3
  have b7f3 := b7.free 3
  have b7c4 := b7.cell 4
  have b7f4 := b7.free 4
  have b7c5 := b7.cell 5
  have b7f5 := b7.free 5
  have b7c6 := b7.cell 6
  have b7f6 := b7.free 6
  have b7c7 := b7.cell 7
  have b7f7 := b7.free 7
  have b7c8 := b7.cell 8
  have b7f8 := b7.free 8
  have b7c9 := b7.cell 9
  have b7f9 := b7.free 9
  have b7l := b7.lt
  simp at b7c0 b7c1 b7c2 b7c3 b7c4 b7c5 b7c6 b7c7 b7c8 b7c9
  by_cases h0 : N = 0
  · have d0 : decide ((N : Int) = 0) = true := by simp; omega
    subst h0
    go_wp2_with (go_at_call 5; (with_reducible refine (KC.out _ (by exact kpta)).mono ?_); rintro e w1 ⟨rfl, hb1⟩; refine Blk.thru (b := n7) (arr := ?_) (t := ?_) ?_ hb1 ?_; rotate_left 2; (focus (exact blk)); intro o1; have o1c0 := o1.cell 0; have o1f0 := o1.free 0; have o1c1 := o1.cell 1; have o1f1 := o1.free 1; have o1c2 := o1.cell 2; have o1f2 := o1.free 2; have o1c3 := o1.cell 3; have o1f3 := o1.free 3; have o1c4 := o1.cell 4; have o1f4 := o1.free 4; have o1c5 := o1.cell 5; have o1f5 := o1.free 5; have o1c6 := o1.cell 6; have o1f6 := o1.free 6; have o1c7 := o1.cell 7; have o1f7 := o1.free 7; have o1c8 := o1.cell 8; have o1f8 := o1.free 8; have o1c9 := o1.cell 9; have o1f9 := o1.free 9; have o1l := o1.lt; simp at o1c0 o1c1 o1c2 o1c3 o1c4 o1c5 o1c6 o1c7 o1c8 o1c9)
    all_goals exact HK.out true _ _ _ _ _ _ _ _ _ _ _ _ _ _ _ _ _ _ _ ⟨(fun h => by cases h), by exact kpta⟩
  have d0 : decide ((N : Int) = 0) = false := by rw [decide_eq_false_iff_not]; omega
  have d0_ : ((N : Int) == 0) = false := by rw [beq_eq_false_iff_ne]; omega
  have H0 := Lib.hid h0
  clear h0
  by_cases h1 : 24 < l.length
  · have d1 : decide ((24 : Int) < (l.length : Int)) = true := by rw [decide_eq_true_eq]; omega
    clear h1
    go_wp2_with (go_at_call 5; (with_reducible refine (KC.out _ (by exact kpta)).mono ?_); rintro e w1 ⟨rfl, hb1⟩; refine Blk.thru (b := n7) (arr := ?_) (t := ?_) ?_ hb1 ?_; rotate_left 2; (focus (exact blk)); intro o1; have o1c0 := o1.cell 0; have o1f0 := o1.free 0; have o1c1 := o1.cell 1; have o1f1 := o1.free 1; have o1c2 := o1.cell 2; have o1f2 := o1.free 2; have o1c3 := o1.cell 3; have o1f3 := o1.free 3; have o1c4 := o1.cell 4; have o1f4 := o1.free 4; have o1c5 := o1.cell 5; have o1f5 := o1.free 5; have o1c6 := o1.cell 6; have o1f6 := o1.free 6; have o1c7 := o1.cell 7; have o1f7 := o1.free 7; have o1c8 := o1.cell 8; have o1f8 := o1.free 8; have o1c9 := o1.cell 9; have o1f9 := o1.free 9; have o1l := o1.lt; simp at o1c0 o1c1 o1c2 o1c3 o1c4 o1c5 o1c6 o1c7 o1c8 o1c9)
    all_goals exact HK.out true _ _ _ _ _ _ _ _ _ _ _ _ _ _ _ _ _ _ _ ⟨(fun h => by cases h), by exact kpta⟩
  have d1 : decide ((24 : Int) < (l.length : Int)) = false := by rw [decide_eq_false_iff_not]; omega
  have H1 := Lib.hid h1
  clear h1
  go_wp2_with (first | (go_at_call 5; (with_reducible refine (KC.out _ (by exact kpta)).mono ?_); rintro e w1 ⟨rfl, hb1⟩; refine Blk.thru (b := n7) (arr := ?_) (t := ?_) ?_ hb1 ?_; rotate_left 2; (focus (exact blk)); intro o1; have o1c0 := o1.cell 0; have o1f0 := o1.free 0; have o1c1 := o1.cell 1; have o1f1 := o1.free 1; have o1c2 := o1.cell 2; have o1f2 := o1.free 2; have o1c3 := o1.cell 3; have o1f3 := o1.free 3; have o1c4 := o1.cell 4; have o1f4 := o1.free 4; have o1c5 := o1.cell 5; have o1f5 := o1.free 5; have o1c6 := o1.cell 6; have o1f6 := o1.free 6; have o1c7 := o1.cell 7; have o1f7 := o1.free 7; have o1c8 := o1.cell 8; have o1f8 := o1.free 8; have o1c9 := o1.cell 9; have o1f9 := o1.free 9; have o1l := o1.lt; simp at o1c0 o1c1 o1c2 o1c3 o1c4 o1c5 o1c6 o1c7 o1c8 o1c9) | (go_at_call 6; (with_reducible refine (f_RefCheck al cpl l _ (hr.later (by exact kpta) (Nat.le_refl _)) hcl).mono ?_); rintro e w2 ⟨⟨E, rfl, hE1, hE2⟩, hb2⟩; have HE2 := Lib.hid hE2; clear hE2; rcases hE1 with rfl | rfl))
  · all_goals exact HK.out false _ _ _ _ _ _ _ _ _ _ _ _ _ _ _ _ _ _ _ ⟨fun _ => ⟨HP.out, by have := H0.out; omega, by have := H1.out; omega, by simpa using HE2.out⟩, by exact kpta⟩
  · all_goals exact HK.out true _ _ _ _ _ _ _ _ _ _ _ _ _ _ _ _ _ _ _ ⟨(fun h => by cases h), by exact kpta⟩
  
theorem tg_6 {s0 s2 s3 s4 s5 s6 s7 s8 s10 s11 s12 s13 s14 s15 s16 s17 s18 s19 s20 s21 s22 s23 s24 s25 s26 s27 s28 s29 s30 s31 s32 s33 s34 s35 s36 s37 s38 s39 s40 s41 s42 s43 s44 s45 s46 s47 s48 s49 s50 s51 s52 s53 s54 s55 s56 s57 s58 s59 s60 s61 s62 s63 s64 s65 s66 s67 s68 s69 s70 s71 s72 s73 s74 s75 s76 s77 s78 s79 s80 s81 s82 s83 s84 s85 s86 s87 s88 s89 s90 s91 s92 s93 s94 s95 s96 s97 s98 s99 s100 s101 s102 s103 s104 s105 s106 s107 s108 s109 s110 s111 s112 s113 s114 s115 s116 s117 s118 s119 s120 s121 s122 s123 s124 s125 s126 s127 s128 s129 s130 s131 s132 s133 s134 s135 s136 s137 s138 s139 s140 s141 s142 s143 s144 s145 s146 s147 s148 s149 s150 s151 s152 s153 s154 s155 s156 s157 s158 s159 s160 s161 s162 s163 s164 s165 s166 s167 s168 s169 s170 s171 s172 s173 s174 s175 s176 s177 s178 s179 s180 s181 s182 s183 s184 s185 s186 s187 s188 s189 s190 s191 s192 s193 s194 s195 s196 s197 s198 s199 s200 s201 s202 s203 s204 s205 s206 s207 s208 s209 s210 s211 s212 s213 s214 s215 s216 s217 s218 s219 s220 s221 s222 s223 s224 s225 s226 s227 s228 s229 s230 s231 s232 s233 s234 s235 s236 s237 s238 s239 s240 s241 s242 s243 s244 s245 s246 s247 s248 s249 s250 s251 s252 s253 s254 s255 s256 s257 s258 s259 s260 s261 s262 s263 s264 s265 s266 s267 s268 s269 s270 s271 s272 s273 s274 s275 s276 s277 s278 s279 s280 s281 s282 s283 s284 s285 s286 s287 s288 s289 s290 s291 s292 s293 s294 s295 s296 s297 s298 s299 s300 s301 s302 s303 s304 s305 s306 s307 s308 s309 s310 s311 s312 s313 s314 s315 s316 s317 s318 s319 s320 s321 s322 s323 s324 s325 s326 s327 s328 s329 s330 s331 s332 s333 s334 s335 s336 s337 s338 s339 s340 s341 s342 s343 s344 s345 s346 s347 s348 s349 s350 : Value} {nx cpl : Nat} {ad : Addr} {l : List Lev} {x0 x1 : Int} {w9 : World} (C : Code) (hC : (Try.f3.body.bind fun c => regOf c 6) = some C) (Q : Exit → Act → World → Prop) (bx : Blk w9 nx #[.int .i64 x0, .int .i64 x1] 29) (hs : Snd l) (hr : Row Lev.cells 5 w9.heap.size w9 (some ad) l) (hcl : l.length ≤ cpl)
    (hK : ∀ (nb : Nat) (b : Air) (E : Int) (u65 u66 u67 u68 u69 u70 : Value) (wc : World), (Blk wc nb #[.int .i64 b.plo, .int .i64 b.phi, .int .i64 b.tlo, .int .i64 b.thi] 35 ∧ Kept w9 wc) → Q .normal ⟨#[s0, .slice (some ad) l.length cpl, s2, s3, s4, s5, s6, s7, s8, .pointer (some ⟨nx, 0, none⟩), s10, s11, s12, s13, s14, s15, .pointer (some ⟨nb, 0, none⟩), .int .i64 (E), s18, s19, s20, s21, s22, s23, s24, s25, s26, s27, s28, s29, s30, s31, s32, s33, s34, s35, s36, s37, s38, s39, s40, s41, s42, s43, s44, s45, s46, s47, s48, s49, s50, s51, s52, s53, s54, s55, s56, s57, s58, s59, s60, s61, s62, s63, s64, u65, u66, u67, u68, u69, u70, s71, s72, s73, s74, s75, s76, s77, s78, s79, s80, s81, s82, s83, s84, s85, s86, s87, s88, s89, s90, s91, s92, s93, s94, s95, s96, s97, s98, s99, s100, s101, s102, s103, s104, s105, s106, s107, s108, s109, s110, s111, s112, s113, s114, s115, s116, s117, s118, s119, s120, s121, s122, s123, s124, s125, s126, s127, s128, s129, s130, s131, s132, s133, s134, s135, s136, s137, s138, s139, s140, s141, s142, s143, s144, s145, s146, s147, s148, s149, s150, s151, s152, s153, s154, s155, s156, s157, s158, s159, s160, s161, s162, s163, s164, s165, s166, s167, s168, s169, s170, s171, s172, s173, s174, s175, s176, s177, s178, s179, s180, s181, s182, s183, s184, s185, s186, s187, s188, s189, s190, s191, s192, s193, s194, s195, s196, s197, s198, s199, s200, s201, s202, s203, s204, s205, s206, s207, s208, s209, s210, s211, s212, s213, s214, s215, s216, s217, s218, s219, s220, s221, s222, s223, s224, s225, s226, s227, s228, s229, s230, s231, s232, s233, s234, s235, s236, s237, s238, s239, s240, s241, s242, s243, s244, s245, s246, s247, s248, s249, s250, s251, s252, s253, s254, s255, s256, s257, s258, s259, s260, s261, s262, s263, s264, s265, s266, s267, s268, s269, s270, s271, s272, s273, s274, s275, s276, s277, s278, s279, s280, s281, s282, s283, s284, s285, s286, s287, s288, s289, s290, s291, s292, s293, s294, s295, s296, s297, s298, s299, s300, s301, s302, s303, s304, s305, s306, s307, s308, s309, s310, s311, s312, s313, s314, s315, s316, s317, s318, s319, s320, s321, s322, s323, s324, s325, s326, s327, s328, s329, s330, s331, s332, s333, s334, s335, s336, s337, s338, s339, s340, s341, s342, s343, s344, s345, s346, s347, s348, s349, s350], []⟩ wc) : C.wp Try.prog Q ⟨#[s0, .slice (some ad) l.length cpl, s2, s3, s4, s5, s6, s7, s8, .pointer (some ⟨nx, 0, none⟩), s10, s11, s12, s13, s14, s15, s16, s17, s18, s19, s20, s21, s22, s23, s24, s25, s26, s27, s28, s29, s30, s31, s32, s33, s34, s35, s36, s37, s38, s39, s40, s41, s42, s43, s44, s45, s46, s47, s48, s49, s50, s51, s52, s53, s54, s55, s56, s57, s58, s59, s60, s61, s62, s63, s64, s65, s66, s67, s68, s69, s70, s71, s72, s73, s74, s75, s76, s77, s78, s79, s80, s81, s82, s83, s84, s85, s86, s87, s88, s89, s90, s91, s92, s93, s94, s95, s96, s97, s98, s99, s100, s101, s102, s103, s104, s105, s106, s107, s108, s109, s110, s111, s112, s113, s114, s115, s116, s117, s118, s119, s120, s121, s122, s123, s124, s125, s126, s127, s128, s129, s130, s131, s132, s133, s134, s135, s136, s137, s138, s139, s140, s141, s142, s143, s144, s145, s146, s147, s148, s149, s150, s151, s152, s153, s154, s155, s156, s157, s158, s159, s160, s161, s162, s163, s164, s165, s166, s167, s168, s169, s170, s171, s172, s173, s174, s175, s176, s177, s178, s179, s180, s181, s182, s183, s184, s185, s186, s187, s188, s189, s190, s191, s192, s193, s194, s195, s196, s197, s198, s199, s200, s201, s202, s203, s204, s205, s206, s207, s208, s209, s210, s211, s212, s213, s214, s215, s216, s217, s218, s219, s220, s221, s222, s223, s224, s225, s226, s227, s228, s229, s230, s231, s232, s233, s234, s235, s236, s237, s238, s239, s240, s241, s242, s243, s244, s245, s246, s247, s248, s249, s250, s251, s252, s253, s254, s255, s256, s257, s258, s259, s260, s261, s262, s263, s264, s265, s266, s267, s268, s269, s270, s271, s272, s273, s274, s275, s276, s277, s278, s279, s280, s281, s282, s283, s284, s285, s286, s287, s288, s289, s290, s291, s292, s293, s294, s295, s296, s297, s298, s299, s300, s301, s302, s303, s304, s305, s306, s307, s308, s309, s310, s311, s312, s313, s314, s315, s316, s317, s318, s319, s320, s321, s322, s323, s324, s325, s326, s327, s328, s329, s330, s331, s332, s333, s334, s335, s336, s337, s338, s339, s340, s341, s342, s343, s344, s345, s346, s347, s348, s349, s350], []⟩ w9 := by
  have e0 : (Try.f3.body.bind fun c => regOf c 6) = some (.region 6 _ _) := rfl
  rw [e0] at hC
  cases hC
  clear e0
  try dsimp only at hK ⊢
  have HK := Lib.hid hK
  clear hK
  have HS := Lib.hid hs
  clear hs
  have bxc0 := bx.cell 0
  have bxf0 := bx.free 0
  have bxc1 := bx.cell 1
  have bxf1 := bx.free 1
  have bxl := bx.lt
  simp at bxc0 bxc1
  go_wp2_with (go_at_call 7; (with_reducible refine (f_At ad cpl l x0 x1 _ HS.out (hr.later (by exact kpta) (Nat.le_refl _)) hcl).mono ?_); rintro e w1 ⟨⟨p0, p1, t0, t1, E, rfl⟩, hb1⟩)
  all_goals exact HK.out _ ⟨p0, p1, t0, t1⟩ _ _ _ _ _ _ _ _ ⟨by exact blkd, by exact kpta⟩
  
theorem tg_7 {s0 s2 s3 s4 s5 s6 s7 s8 s9 s11 s12 s13 s14 s15 s16 s17 s18 s19 s20 s21 s22 s23 s24 s25 s26 s27 s28 s29 s30 s31 s32 s33 s34 s35 s36 s37 s38 s39 s40 s41 s42 s43 s44 s45 s46 s47 s48 s49 s50 s51 s52 s53 s54 s55 s56 s57 s58 s59 s60 s61 s62 s63 s64 s65 s66 s67 s68 s69 s70 s71 s72 s73 s74 s75 s76 s77 s78 s79 s80 s81 s82 s83 s84 s85 s86 s87 s88 s89 s90 s91 s92 s93 s94 s95 s96 s97 s98 s99 s100 s101 s102 s103 s104 s105 s106 s107 s108 s109 s110 s111 s112 s113 s114 s115 s116 s117 s118 s119 s120 s121 s122 s123 s124 s125 s126 s127 s128 s129 s130 s131 s132 s133 s134 s135 s136 s137 s138 s139 s140 s141 s142 s143 s144 s145 s146 s147 s148 s149 s150 s151 s152 s153 s154 s155 s156 s157 s158 s159 s160 s161 s162 s163 s164 s165 s166 s167 s168 s169 s170 s171 s172 s173 s174 s175 s176 s177 s178 s179 s180 s181 s182 s183 s184 s185 s186 s187 s188 s189 s190 s191 s192 s193 s194 s195 s196 s197 s198 s199 s200 s201 s202 s203 s204 s205 s206 s207 s208 s209 s210 s211 s212 s213 s214 s215 s216 s217 s218 s219 s220 s221 s222 s223 s224 s225 s226 s227 s228 s229 s230 s231 s232 s233 s234 s235 s236 s237 s238 s239 s240 s241 s242 s243 s244 s245 s246 s247 s248 s249 s250 s251 s252 s253 s254 s255 s256 s257 s258 s259 s260 s261 s262 s263 s264 s265 s266 s267 s268 s269 s270 s271 s272 s273 s274 s275 s276 s277 s278 s279 s280 s281 s282 s283 s284 s285 s286 s287 s288 s289 s290 s291 s292 s293 s294 s295 s296 s297 s298 s299 s300 s301 s302 s303 s304 s305 s306 s307 s308 s309 s310 s311 s312 s313 s314 s315 s316 s317 s318 s319 s320 s321 s322 s323 s324 s325 s326 s327 s328 s329 s330 s331 s332 s333 s334 s335 s336 s337 s338 s339 s340 s341 s342 s343 s344 s345 s346 s347 s348 s349 s350 : Value} {nx cpl : Nat} {ad : Addr} {l : List Lev} {x0 x1 : Int} {w9 : World} (C : Code) (hC : (Try.f3.body.bind fun c => regOf c 7) = some C) (Q : Exit → Act → World → Prop) (bx : Blk w9 nx #[.int .i64 x0, .int .i64 x1] 29) (hs : Snd l) (hr : Row Lev.cells 5 w9.heap.size w9 (some ad) l) (hcl : l.length ≤ cpl)
    (hK : ∀ (nb : Nat) (b : Air) (E : Int) (u71 u72 u73 u74 u75 u76 : Value) (wc : World), (Blk wc nb #[.int .i64 b.plo, .int .i64 b.phi, .int .i64 b.tlo, .int .i64 b.thi] 35 ∧ Kept w9 wc) → Q .normal ⟨#[s0, .slice (some ad) l.length cpl, s2, s3, s4, s5, s6, s7, s8, s9, .pointer (some ⟨nx, 0, none⟩), s11, s12, s13, s14, s15, s16, s17, .pointer (some ⟨nb, 0, none⟩), .int .i64 (E), s20, s21, s22, s23, s24, s25, s26, s27, s28, s29, s30, s31, s32, s33, s34, s35, s36, s37, s38, s39, s40, s41, s42, s43, s44, s45, s46, s47, s48, s49, s50, s51, s52, s53, s54, s55, s56, s57, s58, s59, s60, s61, s62, s63, s64, s65, s66, s67, s68, s69, s70, u71, u72, u73, u74, u75, u76, s77, s78, s79, s80, s81, s82, s83, s84, s85, s86, s87, s88, s89, s90, s91, s92, s93, s94, s95, s96, s97, s98, s99, s100, s101, s102, s103, s104, s105, s106, s107, s108, s109, s110, s111, s112, s113, s114, s115, s116, s117, s118, s119, s120, s121, s122, s123, s124, s125, s126, s127, s128, s129, s130, s131, s132, s133, s134, s135, s136, s137, s138, s139, s140, s141, s142, s143, s144, s145, s146, s147, s148, s149, s150, s151, s152, s153, s154, s155, s156, s157, s158, s159, s160, s161, s162, s163, s164, s165, s166, s167, s168, s169, s170, s171, s172, s173, s174, s175, s176, s177, s178, s179, s180, s181, s182, s183, s184, s185, s186, s187, s188, s189, s190, s191, s192, s193, s194, s195, s196, s197, s198, s199, s200, s201, s202, s203, s204, s205, s206, s207, s208, s209, s210, s211, s212, s213, s214, s215, s216, s217, s218, s219, s220, s221, s222, s223, s224, s225, s226, s227, s228, s229, s230, s231, s232, s233, s234, s235, s236, s237, s238, s239, s240, s241, s242, s243, s244, s245, s246, s247, s248, s249, s250, s251, s252, s253, s254, s255, s256, s257, s258, s259, s260, s261, s262, s263, s264, s265, s266, s267, s268, s269, s270, s271, s272, s273, s274, s275, s276, s277, s278, s279, s280, s281, s282, s283, s284, s285, s286, s287, s288, s289, s290, s291, s292, s293, s294, s295, s296, s297, s298, s299, s300, s301, s302, s303, s304, s305, s306, s307, s308, s309, s310, s311, s312, s313, s314, s315, s316, s317, s318, s319, s320, s321, s322, s323, s324, s325, s326, s327, s328, s329, s330, s331, s332, s333, s334, s335, s336, s337, s338, s339, s340, s341, s342, s343, s344, s345, s346, s347, s348, s349, s350], []⟩ wc) : C.wp Try.prog Q ⟨#[s0, .slice (some ad) l.length cpl, s2, s3, s4, s5, s6, s7, s8, s9, .pointer (some ⟨nx, 0, none⟩), s11, s12, s13, s14, s15, s16, s17, s18, s19, s20, s21, s22, s23, s24, s25, s26, s27, s28, s29, s30, s31, s32, s33, s34, s35, s36, s37, s38, s39, s40, s41, s42, s43, s44, s45, s46, s47, s48, s49, s50, s51, s52, s53, s54, s55, s56, s57, s58, s59, s60, s61, s62, s63, s64, s65, s66, s67, s68, s69, s70, s71, s72, s73, s74, s75, s76, s77, s78, s79, s80, s81, s82, s83, s84, s85, s86, s87, s88, s89, s90, s91, s92, s93, s94, s95, s96, s97, s98, s99, s100, s101, s102, s103, s104, s105, s106, s107, s108, s109, s110, s111, s112, s113, s114, s115, s116, s117, s118, s119, s120, s121, s122, s123, s124, s125, s126, s127, s128, s129, s130, s131, s132, s133, s134, s135, s136, s137, s138, s139, s140, s141, s142, s143, s144, s145, s146, s147, s148, s149, s150, s151, s152, s153, s154, s155, s156, s157, s158, s159, s160, s161, s162, s163, s164, s165, s166, s167, s168, s169, s170, s171, s172, s173, s174, s175, s176, s177, s178, s179, s180, s181, s182, s183, s184, s185, s186, s187, s188, s189, s190, s191, s192, s193, s194, s195, s196, s197, s198, s199, s200, s201, s202, s203, s204, s205, s206, s207, s208, s209, s210, s211, s212, s213, s214, s215, s216, s217, s218, s219, s220, s221, s222, s223, s224, s225, s226, s227, s228, s229, s230, s231, s232, s233, s234, s235, s236, s237, s238, s239, s240, s241, s242, s243, s244, s245, s246, s247, s248, s249, s250, s251, s252, s253, s254, s255, s256, s257, s258, s259, s260, s261, s262, s263, s264, s265, s266, s267, s268, s269, s270, s271, s272, s273, s274, s275, s276, s277, s278, s279, s280, s281, s282, s283, s284, s285, s286, s287, s288, s289, s290, s291, s292, s293, s294, s295, s296, s297, s298, s299, s300, s301, s302, s303, s304, s305, s306, s307, s308, s309, s310, s311, s312, s313, s314, s315, s316, s317, s318, s319, s320, s321, s322, s323, s324, s325, s326, s327, s328, s329, s330, s331, s332, s333, s334, s335, s336, s337, s338, s339, s340, s341, s342, s343, s344, s345, s346, s347, s348, s349, s350], []⟩ w9 := by
  have e0 : (Try.f3.body.bind fun c => regOf c 7) = some (.region 7 _ _) := rfl
  rw [e0] at hC
  cases hC
  clear e0
  try dsimp only at hK ⊢
  have HK := Lib.hid hK
  clear hK
  have HS := Lib.hid hs
  clear hs
  have bxc0 := bx.cell 0
  have bxf0 := bx.free 0
  have bxc1 := bx.cell 1
  have bxf1 := bx.free 1
  have bxl := bx.lt
  simp at bxc0 bxc1
  go_wp2_with (go_at_call 7; (with_reducible refine (f_At ad cpl l x0 x1 _ HS.out (hr.later (by exact kpta) (Nat.le_refl _)) hcl).mono ?_); rintro e w1 ⟨⟨p0, p1, t0, t1, E, rfl⟩, hb1⟩)
  all_goals exact HK.out _ ⟨p0, p1, t0, t1⟩ _ _ _ _ _ _ _ _ ⟨by exact blkd, by exact kpta⟩
  
theorem tg_8 {s0 s1 s2 s3 s4 s5 s6 s7 s8 s9 s10 s11 s12 s13 s14 s15 s20 s21 s22 s23 s24 s25 s26 s27 s28 s29 s30 s31 s32 s33 s34 s35 s36 s37 s38 s39 s40 s41 s42 s43 s44 s45 s46 s47 s48 s49 s50 s51 s52 s53 s54 s55 s56 s57 s58 s59 s60 s61 s62 s63 s64 s65 s66 s67 s68 s69 s70 s71 s72 s73 s74 s75 s76 s77 s78 s79 s80 s81 s82 s83 s84 s85 s86 s87 s88 s89 s90 s91 s92 s93 s94 s95 s96 s97 s98 s99 s100 s101 s102 s103 s104 s105 s106 s107 s108 s109 s110 s111 s112 s113 s114 s115 s116 s117 s118 s119 s120 s121 s122 s123 s124 s125 s126 s127 s128 s129 s130 s131 s132 s133 s134 s135 s136 s137 s138 s139 s140 s141 s142 s143 s144 s145 s146 s147 s148 s149 s150 s151 s152 s153 s154 s155 s156 s157 s158 s159 s160 s161 s162 s163 s164 s165 s166 s167 s168 s169 s170 s171 s172 s173 s174 s175 s176 s177 s178 s179 s180 s181 s182 s183 s184 s185 s186 s187 s188 s189 s190 s191 s192 s193 s194 s195 s196 s197 s198 s199 s200 s201 s202 s203 s204 s205 s206 s207 s208 s209 s210 s211 s212 s213 s214 s215 s216 s217 s218 s219 s220 s221 s222 s223 s224 s225 s226 s227 s228 s229 s230 s231 s232 s233 s234 s235 s236 s237 s238 s239 s240 s241 s242 s243 s244 s245 s246 s247 s248 s249 s250 s251 s252 s253 s254 s255 s256 s257 s258 s259 s260 s261 s262 s263 s264 s265 s266 s267 s268 s269 s270 s271 s272 s273 s274 s275 s276 s277 s278 s279 s280 s281 s282 s283 s284 s285 s286 s287 s288 s289 s290 s291 s292 s293 s294 s295 s296 s297 s298 s299 s300 s301 s302 s303 s304 s305 s306 s307 s308 s309 s310 s311 s312 s313 s314 s315 s316 s317 s318 s319 s320 s321 s322 s323 s324 s325 s326 s327 s328 s329 s330 s331 s332 s333 s334 s335 s336 s337 s338 s339 s340 s341 s342 s343 s344 s345 s346 s347 s348 s349 s350 : Value} {n16 n18 : Nat} {b c : Air} {E1 E2 : Int} {w9 : World} (C : Code) (hC : (Try.f3.body.bind fun c => regOf c 8) = some C) (Q : Exit → Act → World → Prop) (b16 : Blk w9 n16 #[.int .i64 b.plo, .int .i64 b.phi, .int .i64 b.tlo, .int .i64 b.thi] 35) (b18 : Blk w9 n18 #[.int .i64 c.plo, .int .i64 c.phi, .int .i64 c.tlo, .int .i64 c.thi] 35)
    (hK : ∀ (v : Bool) (u77 u78 u79 u80 u81 u82 u83 u84 u85 u86 u87 u88 u89 u90 u91 : Value) (wc : World), ((v = false → airB b = true ∧ airB c = true) ∧ Kept w9 wc) → Q .normal ⟨#[s0, s1, s2, s3, s4, s5, s6, s7, s8, s9, s10, s11, s12, s13, s14, s15, .pointer (some ⟨n16, 0, none⟩), .int .i64 (E1), .pointer (some ⟨n18, 0, none⟩), .int .i64 (E2), s20, s21, s22, s23, s24, s25, s26, s27, s28, s29, s30, s31, s32, s33, s34, s35, s36, s37, s38, s39, s40, s41, s42, s43, s44, s45, s46, s47, s48, s49, s50, s51, s52, s53, s54, s55, s56, s57, s58, s59, s60, s61, s62, s63, s64, s65, s66, s67, s68, s69, s70, s71, s72, s73, s74, s75, s76, u77, u78, u79, u80, u81, u82, u83, u84, u85, u86, u87, u88, u89, u90, u91, .bool v, s93, s94, s95, s96, s97, s98, s99, s100, s101, s102, s103, s104, s105, s106, s107, s108, s109, s110, s111, s112, s113, s114, s115, s116, s117, s118, s119, s120, s121, s122, s123, s124, s125, s126, s127, s128, s129, s130, s131, s132, s133, s134, s135, s136, s137, s138, s139, s140, s141, s142, s143, s144, s145, s146, s147, s148, s149, s150, s151, s152, s153, s154, s155, s156, s157, s158, s159, s160, s161, s162, s163, s164, s165, s166, s167, s168, s169, s170, s171, s172, s173, s174, s175, s176, s177, s178, s179, s180, s181, s182, s183, s184, s185, s186, s187, s188, s189, s190, s191, s192, s193, s194, s195, s196, s197, s198, s199, s200, s201, s202, s203, s204, s205, s206, s207, s208, s209, s210, s211, s212, s213, s214, s215, s216, s217, s218, s219, s220, s221, s222, s223, s224, s225, s226, s227, s228, s229, s230, s231, s232, s233, s234, s235, s236, s237, s238, s239, s240, s241, s242, s243, s244, s245, s246, s247, s248, s249, s250, s251, s252, s253, s254, s255, s256, s257, s258, s259, s260, s261, s262, s263, s264, s265, s266, s267, s268, s269, s270, s271, s272, s273, s274, s275, s276, s277, s278, s279, s280, s281, s282, s283, s284, s285, s286, s287, s288, s289, s290, s291, s292, s293, s294, s295, s296, s297, s298, s299, s300, s301, s302, s303, s304, s305, s306, s307, s308, s309, s310, s311, s312, s313, s314, s315, s316, s317, s318, s319, s320, s321, s322, s323, s324, s325, s326, s327, s328, s329, s330, s331, s332, s333, s334, s335, s336, s337, s338, s339, s340, s341, s342, s343, s344, s345, s346, s347, s348, s349, s350], []⟩ wc) : C.wp Try.prog Q ⟨#[s0, s1, s2, s3, s4, s5, s6, s7, s8, s9, s10, s11, s12, s13, s14, s15, .pointer (some ⟨n16, 0, none⟩), .int .i64 (E1), .pointer (some ⟨n18, 0, none⟩), .int .i64 (E2), s20, s21, s22, s23, s24, s25, s26, s27, s28, s29, s30, s31, s32, s33, s34, s35, s36, s37, s38, s39, s40, s41, s42, s43, s44, s45, s46, s47, s48, s49, s50, s51, s52, s53, s54, s55, s56, s57, s58, s59, s60, s61, s62, s63, s64, s65, s66, s67, s68, s69, s70, s71, s72, s73, s74, s75, s76, s77, s78, s79, s80, s81, s82, s83, s84, s85, s86, s87, s88, s89, s90, s91, s92, s93, s94, s95, s96, s97, s98, s99, s100, s101, s102, s103, s104, s105, s106, s107, s108, s109, s110, s111, s112, s113, s114, s115, s116, s117, s118, s119, s120, s121, s122, s123, s124, s125, s126, s127, s128, s129, s130, s131, s132, s133, s134, s135, s136, s137, s138, s139, s140, s141, s142, s143, s144, s145, s146, s147, s148, s149, s150, s151, s152, s153, s154, s155, s156, s157, s158, s159, s160, s161, s162, s163, s164, s165, s166, s167, s168, s169, s170, s171, s172, s173, s174, s175, s176, s177, s178, s179, s180, s181, s182, s183, s184, s185, s186, s187, s188, s189, s190, s191, s192, s193, s194, s195, s196, s197, s198, s199, s200, s201, s202, s203, s204, s205, s206, s207, s208, s209, s210, s211, s212, s213, s214, s215, s216, s217, s218, s219, s220, s221, s222, s223, s224, s225, s226, s227, s228, s229, s230, s231, s232, s233, s234, s235, s236, s237, s238, s239, s240, s241, s242, s243, s244, s245, s246, s247, s248, s249, s250, s251, s252, s253, s254, s255, s256, s257, s258, s259, s260, s261, s262, s263, s264, s265, s266, s267, s268, s269, s270, s271, s272, s273, s274, s275, s276, s277, s278, s279, s280, s281, s282, s283, s284, s285, s286, s287, s288, s289, s290, s291, s292, s293, s294, s295, s296, s297, s298, s299, s300, s301, s302, s303, s304, s305, s306, s307, s308, s309, s310, s311, s312, s313, s314, s315, s316, s317, s318, s319, s320, s321, s322, s323, s324, s325, s326, s327, s328, s329, s330, s331, s332, s333, s334, s335, s336, s337, s338, s339, s340, s341, s342, s343, s344, s345, s346, s347, s348, s349, s350], []⟩ w9 := by
  have e0 : (Try.f3.body.bind fun c => regOf c 8) = some (.region 8 _ _) := rfl
  rw [e0] at hC
  cases hC
  clear e0
  try dsimp only at hK ⊢
  have HK := Lib.hid hK
  clear hK
  have b16c0 := b16.cell 0
  have b16f0 := b16.free 0
  have b16c1 := b16.cell 1
  have b16f1 := b16.free 1
  have b16c2 := b16.cell 2
  have b16f2 := b16.free 2
  have b16c3 := b16.cell 3
  have b16f3 := b16.free 3
  have b16l := b16.lt
  simp at b16c0 b16c1 b16c2 b16c3
  have b18c0 := b18.cell 0
  have b18f0 := b18.free 0
  have b18c1 := b18.cell 1
  have b18f1 := b18.free 1
  have b18c2 := b18.cell 2
  have b18f2 := b18.free 2
  have b18c3 := b18.cell 3
  have b18f3 := b18.free 3
  have b18l := b18.lt
  simp at b18c0 b18c1 b18c2 b18c3
  by_cases h1 : E1 = 0
  · subst h1
    by_cases h2 : E2 = 0
    · subst h2
      cases hb : airB b
      · have HB := Lib.hid (show checkAir b = 30 by simp [checkAir, hb])
        clear hb
        go_wp2_with (go_at_call 8; (with_reducible refine (f_CheckAir b _).mono ?_); rw [HB.out]; rintro e wb ⟨rfl, hbb⟩; refine Blk.thru (b := n18) (arr := ?_) (t := ?_) ?_ hbb ?_; rotate_left 2; (focus (exact blk)); intro ob; have obc0 := ob.cell 0; have obf0 := ob.free 0; have obc1 := ob.cell 1; have obf1 := ob.free 1; have obc2 := ob.cell 2; have obf2 := ob.free 2; have obc3 := ob.cell 3; have obf3 := ob.free 3; have obl := ob.lt; simp at obc0 obc1 obc2 obc3)
        all_goals exact HK.out true _ _ _ _ _ _ _ _ _ _ _ _ _ _ _ _ ⟨(fun h => by cases h), by exact kpta⟩
      have HB := Lib.hid (show checkAir b = 0 by simp [checkAir, hb])
      have HB1 := Lib.hid hb
      clear hb
      cases hc : airB c
      · have HC := Lib.hid (show checkAir c = 30 by simp [checkAir, hc])
        clear hc
        go_wp2_with (first | (go_at_call 8; (with_reducible refine (f_CheckAir b _).mono ?_); rw [HB.out]; rintro e wb ⟨rfl, hbb⟩; refine Blk.thru (b := n18) (arr := ?_) (t := ?_) ?_ hbb ?_; rotate_left 2; (focus (exact blk)); intro ob; have obc0 := ob.cell 0; have obf0 := ob.free 0; have obc1 := ob.cell 1; have obf1 := ob.free 1; have obc2 := ob.cell 2; have obf2 := ob.free 2; have obc3 := ob.cell 3; have obf3 := ob.free 3; have obl := ob.lt; simp at obc0 obc1 obc2 obc3) | (go_at_call 8; (with_reducible refine (f_CheckAir c _).mono ?_); rw [HC.out]; rintro e wc ⟨rfl, hbc⟩; refine Blk.thru (b := n18) (arr := ?_) (t := ?_) ?_ hbc ?_; rotate_left 2; (focus (exact blk)); intro oc; have occ0 := oc.cell 0; have ocf0 := oc.free 0; have occ1 := oc.cell 1; have ocf1 := oc.free 1; have occ2 := oc.cell 2; have ocf2 := oc.free 2; have occ3 := oc.cell 3; have ocf3 := oc.free 3; have ocl := oc.lt; simp at occ0 occ1 occ2 occ3))
        all_goals exact HK.out true _ _ _ _ _ _ _ _ _ _ _ _ _ _ _ _ ⟨(fun h => by cases h), by exact kpta⟩
      have HC := Lib.hid (show checkAir c = 0 by simp [checkAir, hc])
      have HC1 := Lib.hid hc
      clear hc
      go_wp2_with (first | (go_at_call 8; (with_reducible refine (f_CheckAir b _).mono ?_); rw [HB.out]; rintro e wb ⟨rfl, hbb⟩; refine Blk.thru (b := n18) (arr := ?_) (t := ?_) ?_ hbb ?_; rotate_left 2; (focus (exact blk)); intro ob; have obc0 := ob.cell 0; have obf0 := ob.free 0; have obc1 := ob.cell 1; have obf1 := ob.free 1; have obc2 := ob.cell 2; have obf2 := ob.free 2; have obc3 := ob.cell 3; have obf3 := ob.free 3; have obl := ob.lt; simp at obc0 obc1 obc2 obc3) | (go_at_call 8; (with_reducible refine (f_CheckAir c _).mono ?_); rw [HC.out]; rintro e wc ⟨rfl, hbc⟩; refine Blk.thru (b := n18) (arr := ?_) (t := ?_) ?_ hbc ?_; rotate_left 2; (focus (exact blk)); intro oc; have occ0 := oc.cell 0; have ocf0 := oc.free 0; have occ1 := oc.cell 1; have ocf1 := oc.free 1; have occ2 := oc.cell 2; have ocf2 := oc.free 2; have occ3 := oc.cell 3; have ocf3 := oc.free 3; have ocl := oc.lt; simp at occ0 occ1 occ2 occ3))
      all_goals exact HK.out false _ _ _ _ _ _ _ _ _ _ _ _ _ _ _ _ ⟨fun _ => ⟨HB1.out, HC1.out⟩, by exact kpta⟩
    · have d2 : decide (E2 = 0) = false := by simp [h2]
      have d2_ : decide (E2 ≠ 0) = true := by simp [h2]
      go_wp2
      all_goals exact HK.out true _ _ _ _ _ _ _ _ _ _ _ _ _ _ _ _ ⟨(fun h => by cases h), by exact kpta⟩
  · have d1 : decide (E1 = 0) = false := by simp [h1]
    have d1_ : decide (E1 ≠ 0) = true := by simp [h1]
    go_wp2
    all_goals exact HK.out true _ _ _ _ _ _ _ _ _ _ _ _ _ _ _ _ ⟨(fun h => by cases h), by exact kpta⟩
  
theorem tg_11 {s0 s1 s2 s3 s4 s5 s6 s8 s9 s10 s11 s12 s13 s14 s15 s16 s17 s18 s19 s20 s22 s23 s24 s25 s26 s27 s28 s29 s30 s31 s32 s33 s34 s35 s36 s37 s38 s39 s40 s41 s42 s43 s44 s45 s46 s47 s48 s49 s50 s51 s52 s53 s54 s55 s56 s57 s58 s59 s60 s61 s62 s63 s64 s65 s66 s67 s68 s69 s70 s71 s72 s73 s74 s75 s76 s77 s78 s79 s80 s81 s82 s83 s84 s85 s86 s87 s88 s89 s90 s91 s92 s93 s94 s95 s96 s97 s98 s99 s100 s101 s102 s103 s104 s105 s106 s107 s108 s109 s110 s111 s112 s113 s114 s115 s116 s117 s118 s119 s120 s121 s122 s123 s124 s125 s126 s127 s128 s129 s130 s131 s132 s133 s134 s135 s136 s137 s138 s139 s140 s141 s142 s143 s144 s145 s146 s147 s148 s149 s150 s151 s152 s153 s154 s155 s156 s157 s158 s159 s160 s161 s162 s163 s164 s165 s166 s167 s168 s169 s170 s171 s172 s173 s174 s175 s176 s177 s178 s179 s180 s181 s182 s183 s184 s185 s186 s187 s188 s189 s190 s191 s192 s193 s194 s195 s196 s197 s198 s199 s200 s201 s202 s203 s204 s205 s206 s207 s208 s209 s210 s211 s212 s213 s214 s215 s216 s217 s218 s219 s220 s221 s222 s223 s224 s225 s226 s227 s228 s229 s230 s231 s232 s233 s234 s235 s236 s237 s238 s239 s240 s241 s242 s243 s244 s245 s246 s247 s248 s249 s250 s251 s252 s253 s254 s255 s256 s257 s258 s259 s260 s261 s262 s263 s264 s265 s266 s267 s268 s269 s270 s271 s272 s273 s274 s275 s276 s277 s278 s279 s280 s281 s282 s283 s284 s285 s286 s287 s288 s289 s290 s291 s292 s293 s294 s295 s296 s297 s298 s299 s300 s301 s302 s303 s304 s305 s306 s307 s308 s309 s310 s311 s312 s313 s314 s315 s316 s317 s318 s319 s320 s321 s322 s323 s324 s325 s326 s327 s328 s329 s330 s331 s332 s333 s334 s335 s336 s337 s338 s339 s340 s341 s342 s343 s344 s345 s346 s347 s348 s349 s350 : Value} {n7 : Nat} {p q : Plant} {a : Option Addr} {cap : Nat} {n k v E : Int} {w9 : World} (C : Code) (hC : (Try.f3.body.bind fun c => regOf c 11) = some C) (Q : Exit → Act → World → Prop) (b7 : Blk w9 n7 #[.slice a p.cells.length cap, .int .i64 p.bottles, .int .i64 p.inH, .int .i64 p.inA, .int .i64 p.vH, .int .i64 p.vA, .int .i64 p.lH, .int .i64 p.lA, .int .i64 p.pH, .int .i64 p.pA] 26) (hx : Row Cell.cells 7 w9.heap.size w9 a p.cells) (hc : p.cells.length ≤ cap) (hM : cap ≤ maxLen) (hz : a = none → cap = 0) (hv : 0 ≤ v ∧ v < 65536) (hq : doQ p (tickD n) = q) (hE : doE p (tickD n) = E)
    (hK : ∀ (nb : Nat) (ad : Option Addr) (cp : Nat) (u104 u105 u106 u107 u108 u109 u110 : Value) (wc : World), (Blk wc nb #[.slice ad (q).cells.length cp, .int .i64 (q).bottles, .int .i64 (q).inH, .int .i64 (q).inA, .int .i64 (q).vH, .int .i64 (q).vA, .int .i64 (q).lH, .int .i64 (q).lA, .int .i64 (q).pH, .int .i64 (q).pA] 26 ∧ Mine 54 w9.heap.size wc (.slice ad (q).cells.length cp) (q).cells ∧ w9.heap.size ≤ nb ∧ Kept w9 wc) → Q .normal ⟨#[s0, s1, s2, s3, s4, s5, s6, .pointer (some ⟨n7, 0, none⟩), s8, s9, s10, s11, s12, s13, s14, s15, s16, s17, s18, s19, s20, .int .i64 (n), .pointer (some ⟨nb, 0, none⟩), .int .i64 (E), s24, s25, s26, s27, s28, s29, s30, s31, s32, s33, s34, s35, s36, s37, s38, s39, s40, s41, s42, s43, s44, s45, s46, s47, s48, s49, s50, s51, s52, s53, s54, s55, s56, s57, s58, s59, s60, s61, s62, s63, s64, s65, s66, s67, s68, s69, s70, s71, s72, s73, s74, s75, s76, s77, s78, s79, s80, s81, s82, s83, s84, s85, s86, s87, s88, s89, s90, s91, s92, s93, s94, s95, s96, s97, s98, s99, s100, s101, s102, s103, u104, u105, u106, u107, u108, u109, u110, s111, s112, s113, s114, s115, s116, s117, s118, s119, s120, s121, s122, s123, s124, s125, s126, s127, s128, s129, s130, s131, s132, s133, s134, s135, s136, s137, s138, s139, s140, s141, s142, s143, s144, s145, s146, s147, s148, s149, s150, s151, s152, s153, s154, s155, s156, s157, s158, s159, s160, s161, s162, s163, s164, s165, s166, s167, s168, s169, s170, s171, s172, s173, s174, s175, s176, s177, s178, s179, s180, s181, s182, s183, s184, s185, s186, s187, s188, s189, s190, s191, s192, s193, s194, s195, s196, s197, s198, s199, s200, s201, s202, s203, s204, s205, s206, s207, s208, s209, s210, s211, s212, s213, s214, s215, s216, s217, s218, s219, s220, s221, s222, s223, s224, s225, s226, s227, s228, s229, s230, s231, s232, s233, s234, s235, s236, s237, s238, s239, s240, s241, s242, s243, s244, s245, s246, s247, s248, s249, s250, s251, s252, s253, s254, s255, s256, s257, s258, s259, s260, s261, s262, s263, s264, s265, s266, s267, s268, s269, s270, s271, s272, s273, s274, s275, s276, s277, s278, s279, s280, s281, s282, s283, s284, s285, s286, s287, s288, s289, s290, s291, s292, s293, s294, s295, s296, s297, s298, s299, s300, s301, s302, s303, s304, s305, s306, s307, s308, s309, s310, s311, s312, s313, s314, s315, s316, s317, s318, s319, s320, s321, s322, s323, s324, s325, s326, s327, s328, s329, s330, s331, s332, s333, s334, s335, s336, s337, s338, s339, s340, s341, s342, s343, s344, s345, s346, s347, s348, s349, s350], []⟩ wc) : C.wp Try.prog Q ⟨#[s0, s1, s2, s3, s4, s5, s6, .pointer (some ⟨n7, 0, none⟩), s8, s9, s10, s11, s12, s13, s14, s15, s16, s17, s18, s19, s20, .int .i64 (n), s22, s23, s24, s25, s26, s27, s28, s29, s30, s31, s32, s33, s34, s35, s36, s37, s38, s39, s40, s41, s42, s43, s44, s45, s46, s47, s48, s49, s50, s51, s52, s53, s54, s55, s56, s57, s58, s59, s60, s61, s62, s63, s64, s65, s66, s67, s68, s69, s70, s71, s72, s73, s74, s75, s76, s77, s78, s79, s80, s81, s82, s83, s84, s85, s86, s87, s88, s89, s90, s91, s92, s93, s94, s95, s96, s97, s98, s99, s100, s101, s102, s103, s104, s105, s106, s107, s108, s109, s110, s111, s112, s113, s114, s115, s116, s117, s118, s119, s120, s121, s122, s123, s124, s125, s126, s127, s128, s129, s130, s131, s132, s133, s134, s135, s136, s137, s138, s139, s140, s141, s142, s143, s144, s145, s146, s147, s148, s149, s150, s151, s152, s153, s154, s155, s156, s157, s158, s159, s160, s161, s162, s163, s164, s165, s166, s167, s168, s169, s170, s171, s172, s173, s174, s175, s176, s177, s178, s179, s180, s181, s182, s183, s184, s185, s186, s187, s188, s189, s190, s191, s192, s193, s194, s195, s196, s197, s198, s199, s200, s201, s202, s203, s204, s205, s206, s207, s208, s209, s210, s211, s212, s213, s214, s215, s216, s217, s218, s219, s220, s221, s222, s223, s224, s225, s226, s227, s228, s229, s230, s231, s232, s233, s234, s235, s236, s237, s238, s239, s240, s241, s242, s243, s244, s245, s246, s247, s248, s249, s250, s251, s252, s253, s254, s255, s256, s257, s258, s259, s260, s261, s262, s263, s264, s265, s266, s267, s268, s269, s270, s271, s272, s273, s274, s275, s276, s277, s278, s279, s280, s281, s282, s283, s284, s285, s286, s287, s288, s289, s290, s291, s292, s293, s294, s295, s296, s297, s298, s299, s300, s301, s302, s303, s304, s305, s306, s307, s308, s309, s310, s311, s312, s313, s314, s315, s316, s317, s318, s319, s320, s321, s322, s323, s324, s325, s326, s327, s328, s329, s330, s331, s332, s333, s334, s335, s336, s337, s338, s339, s340, s341, s342, s343, s344, s345, s346, s347, s348, s349, s350], []⟩ w9 := by
  have e0 : (Try.f3.body.bind fun c => regOf c 11) = some (.region 11 _ _) := rfl
  rw [e0] at hC
  cases hC
  clear e0
  try dsimp only at hK ⊢
  have HK := Lib.hid hK
  clear hK
  have wv := i64_w (n := v) (by omega)
  have KD := Lib.hid (show ∀ W, Kept w9 W → Calls Try.prog 9 #[.agg #[.slice a p.cells.length cap, .int .i64 p.bottles, .int .i64 p.inH, .int .i64 p.inA, .int .i64 p.vH, .int .i64 p.vA, .int .i64 p.lH, .int .i64 p.lA, .int .i64 p.pH, .int .i64 p.pA], .agg #[.int .u8 7, .int .i64 0, .int .i64 0, .int .i64 n]] W fun e w' => ∃ ad cp, e = .returned (.tuple #[.agg #[.slice ad (q).cells.length cp, .int .i64 (q).bottles, .int .i64 (q).inH, .int .i64 (q).inA, .int .i64 (q).vH, .int .i64 (q).vA, .int .i64 (q).lH, .int .i64 (q).lA, .int .i64 (q).pH, .int .i64 (q).pA], .int .i64 E]) ∧ Mine 54 W.heap.size w' (.slice ad (q).cells.length cp) (q).cells ∧ Kept W w' from fun W hW => by
    have k_ := f_Do p (tickD n) a cap W (hx.later hW (Nat.le_refl _)) hc hM hz (by simp [tickD, valveD])
    rw [hq, hE] at k_
    refine k_.mono ?_
    rintro e w' ⟨v, rfl, hm, hk⟩
    obtain ⟨ad, cp, rfl, _⟩ := hm.slice
    exact ⟨ad, cp, rfl, hm, hk⟩)
  clear hM
  have b7c0 := b7.cell 0
  have b7f0 := b7.free 0
  have b7c1 := b7.cell 1
  have b7f1 := b7.free 1
  have b7c2 := b7.cell 2
  have b7f2 := b7.free 2
  have b7c3 := b7.cell 3
  have b7f3 := b7.free 3
  have b7c4 := b7.cell 4
  have b7f4 := b7.free 4
  have b7c5 := b7.cell 5
  have b7f5 := b7.free 5
  have b7c6 := b7.cell 6
  have b7f6 := b7.free 6
  have b7c7 := b7.cell 7
  have b7f7 := b7.free 7
  have b7c8 := b7.cell 8
  have b7f8 := b7.free 8
  have b7c9 := b7.cell 9
  have b7f9 := b7.free 9
  have b7l := b7.lt
  simp at b7c0 b7c1 b7c2 b7c3 b7c4 b7c5 b7c6 b7c7 b7c8 b7c9
  go_wp2_with (go_at_call 9; (with_reducible refine (KD.out _ (by exact kpta)).mono ?_); rintro e w1 ⟨ad, cp, rfl, hmn, hb1⟩)
  all_goals exact HK.out _ ad cp _ _ _ _ _ _ _ _ ⟨by exact blkd, hmn.keep (by exact kpta), by have := Kept.size hb1; (try simp at this); (try simp); omega, by exact kpta⟩
  
theorem tg_15 {s0 s1 s2 s3 s4 s5 s7 s8 s9 s10 s11 s12 s13 s14 s15 s16 s17 s18 s19 s21 s23 s24 s25 s26 s27 s28 s29 s30 s31 s32 s33 s34 s35 s36 s37 s38 s39 s40 s41 s42 s43 s44 s45 s46 s47 s48 s49 s50 s51 s52 s53 s54 s55 s56 s57 s58 s59 s60 s61 s62 s63 s64 s65 s66 s67 s68 s69 s70 s71 s72 s73 s74 s75 s76 s77 s78 s79 s80 s81 s82 s83 s84 s85 s86 s87 s88 s89 s90 s91 s92 s93 s94 s95 s96 s97 s98 s99 s100 s101 s102 s103 s104 s105 s106 s107 s108 s109 s110 s111 s112 s113 s114 s115 s116 s117 s118 s119 s120 s121 s122 s123 s124 s125 s126 s127 s128 s129 s130 s131 s132 s133 s134 s135 s136 s137 s138 s139 s140 s141 s142 s143 s144 s145 s146 s147 s148 s149 s150 s151 s152 s153 s154 s155 s156 s157 s158 s159 s160 s161 s162 s163 s164 s165 s166 s167 s168 s169 s170 s171 s172 s173 s174 s175 s176 s177 s178 s179 s180 s181 s182 s183 s184 s185 s186 s187 s188 s189 s190 s191 s192 s193 s194 s195 s196 s197 s198 s199 s200 s201 s202 s203 s204 s205 s206 s207 s208 s209 s210 s211 s212 s213 s214 s215 s216 s217 s218 s219 s220 s221 s222 s223 s224 s225 s226 s227 s228 s229 s230 s231 s232 s233 s234 s235 s236 s237 s238 s239 s240 s241 s242 s243 s244 s245 s246 s247 s248 s249 s250 s251 s252 s253 s254 s255 s256 s257 s258 s259 s260 s261 s262 s263 s264 s265 s266 s267 s268 s269 s270 s271 s272 s273 s274 s275 s276 s277 s278 s279 s280 s281 s282 s283 s284 s285 s286 s287 s288 s289 s290 s291 s292 s293 s294 s295 s296 s297 s298 s299 s300 s301 s302 s303 s304 s305 s306 s307 s308 s309 s310 s311 s312 s313 s314 s315 s316 s317 s318 s319 s320 s321 s322 s323 s324 s325 s326 s327 s328 s329 s330 s331 s332 s333 s334 s335 s336 s337 s338 s339 s340 s341 s342 s343 s344 s345 s346 s347 s348 s349 s350 : Value} {n7 : Nat} {p q : Plant} {a : Option Addr} {cap : Nat} {n k v E : Int} {w9 : World} (C : Code) (hC : (Try.f3.body.bind fun c => regOf c 15) = some C) (Q : Exit → Act → World → Prop) (b7 : Blk w9 n7 #[.slice a p.cells.length cap, .int .i64 p.bottles, .int .i64 p.inH, .int .i64 p.inA, .int .i64 p.vH, .int .i64 p.vA, .int .i64 p.lH, .int .i64 p.lA, .int .i64 p.pH, .int .i64 p.pA] 26) (hx : Row Cell.cells 7 w9.heap.size w9 a p.cells) (hc : p.cells.length ≤ cap) (hM : cap ≤ maxLen) (hz : a = none → cap = 0) (hv : 0 ≤ v ∧ v < 65536) (hq : doQ p (valveD k v) = q) (hE : doE p (valveD k v) = E)
    (hK : ∀ (nb : Nat) (ad : Option Addr) (cp : Nat) (u113 u114 u115 u116 u117 u118 u119 u120 u121 : Value) (wc : World), (Blk wc nb #[.slice ad (q).cells.length cp, .int .i64 (q).bottles, .int .i64 (q).inH, .int .i64 (q).inA, .int .i64 (q).vH, .int .i64 (q).vA, .int .i64 (q).lH, .int .i64 (q).lA, .int .i64 (q).pH, .int .i64 (q).pA] 26 ∧ Mine 54 w9.heap.size wc (.slice ad (q).cells.length cp) (q).cells ∧ w9.heap.size ≤ nb ∧ Kept w9 wc) → Q .normal ⟨#[s0, s1, s2, s3, s4, s5, .int .u16 v, s7, s8, s9, s10, s11, s12, s13, s14, s15, s16, s17, s18, s19, .int .i64 (k), s21, .pointer (some ⟨n7, 0, none⟩), s23, s24, .pointer (some ⟨nb, 0, none⟩), .int .i64 (E), s27, s28, s29, s30, s31, s32, s33, s34, s35, s36, s37, s38, s39, s40, s41, s42, s43, s44, s45, s46, s47, s48, s49, s50, s51, s52, s53, s54, s55, s56, s57, s58, s59, s60, s61, s62, s63, s64, s65, s66, s67, s68, s69, s70, s71, s72, s73, s74, s75, s76, s77, s78, s79, s80, s81, s82, s83, s84, s85, s86, s87, s88, s89, s90, s91, s92, s93, s94, s95, s96, s97, s98, s99, s100, s101, s102, s103, s104, s105, s106, s107, s108, s109, s110, s111, s112, u113, u114, u115, u116, u117, u118, u119, u120, u121, s122, s123, s124, s125, s126, s127, s128, s129, s130, s131, s132, s133, s134, s135, s136, s137, s138, s139, s140, s141, s142, s143, s144, s145, s146, s147, s148, s149, s150, s151, s152, s153, s154, s155, s156, s157, s158, s159, s160, s161, s162, s163, s164, s165, s166, s167, s168, s169, s170, s171, s172, s173, s174, s175, s176, s177, s178, s179, s180, s181, s182, s183, s184, s185, s186, s187, s188, s189, s190, s191, s192, s193, s194, s195, s196, s197, s198, s199, s200, s201, s202, s203, s204, s205, s206, s207, s208, s209, s210, s211, s212, s213, s214, s215, s216, s217, s218, s219, s220, s221, s222, s223, s224, s225, s226, s227, s228, s229, s230, s231, s232, s233, s234, s235, s236, s237, s238, s239, s240, s241, s242, s243, s244, s245, s246, s247, s248, s249, s250, s251, s252, s253, s254, s255, s256, s257, s258, s259, s260, s261, s262, s263, s264, s265, s266, s267, s268, s269, s270, s271, s272, s273, s274, s275, s276, s277, s278, s279, s280, s281, s282, s283, s284, s285, s286, s287, s288, s289, s290, s291, s292, s293, s294, s295, s296, s297, s298, s299, s300, s301, s302, s303, s304, s305, s306, s307, s308, s309, s310, s311, s312, s313, s314, s315, s316, s317, s318, s319, s320, s321, s322, s323, s324, s325, s326, s327, s328, s329, s330, s331, s332, s333, s334, s335, s336, s337, s338, s339, s340, s341, s342, s343, s344, s345, s346, s347, s348, s349, s350], []⟩ wc) : C.wp Try.prog Q ⟨#[s0, s1, s2, s3, s4, s5, .int .u16 v, s7, s8, s9, s10, s11, s12, s13, s14, s15, s16, s17, s18, s19, .int .i64 (k), s21, .pointer (some ⟨n7, 0, none⟩), s23, s24, s25, s26, s27, s28, s29, s30, s31, s32, s33, s34, s35, s36, s37, s38, s39, s40, s41, s42, s43, s44, s45, s46, s47, s48, s49, s50, s51, s52, s53, s54, s55, s56, s57, s58, s59, s60, s61, s62, s63, s64, s65, s66, s67, s68, s69, s70, s71, s72, s73, s74, s75, s76, s77, s78, s79, s80, s81, s82, s83, s84, s85, s86, s87, s88, s89, s90, s91, s92, s93, s94, s95, s96, s97, s98, s99, s100, s101, s102, s103, s104, s105, s106, s107, s108, s109, s110, s111, s112, s113, s114, s115, s116, s117, s118, s119, s120, s121, s122, s123, s124, s125, s126, s127, s128, s129, s130, s131, s132, s133, s134, s135, s136, s137, s138, s139, s140, s141, s142, s143, s144, s145, s146, s147, s148, s149, s150, s151, s152, s153, s154, s155, s156, s157, s158, s159, s160, s161, s162, s163, s164, s165, s166, s167, s168, s169, s170, s171, s172, s173, s174, s175, s176, s177, s178, s179, s180, s181, s182, s183, s184, s185, s186, s187, s188, s189, s190, s191, s192, s193, s194, s195, s196, s197, s198, s199, s200, s201, s202, s203, s204, s205, s206, s207, s208, s209, s210, s211, s212, s213, s214, s215, s216, s217, s218, s219, s220, s221, s222, s223, s224, s225, s226, s227, s228, s229, s230, s231, s232, s233, s234, s235, s236, s237, s238, s239, s240, s241, s242, s243, s244, s245, s246, s247, s248, s249, s250, s251, s252, s253, s254, s255, s256, s257, s258, s259, s260, s261, s262, s263, s264, s265, s266, s267, s268, s269, s270, s271, s272, s273, s274, s275, s276, s277, s278, s279, s280, s281, s282, s283, s284, s285, s286, s287, s288, s289, s290, s291, s292, s293, s294, s295, s296, s297, s298, s299, s300, s301, s302, s303, s304, s305, s306, s307, s308, s309, s310, s311, s312, s313, s314, s315, s316, s317, s318, s319, s320, s321, s322, s323, s324, s325, s326, s327, s328, s329, s330, s331, s332, s333, s334, s335, s336, s337, s338, s339, s340, s341, s342, s343, s344, s345, s346, s347, s348, s349, s350], []⟩ w9 := by
  have e0 : (Try.f3.body.bind fun c => regOf c 15) = some (.region 15 _ _) := rfl
  rw [e0] at hC
  cases hC
  clear e0
  try dsimp only at hK ⊢
  have HK := Lib.hid hK
  clear hK
  have wv := i64_w (n := v) (by omega)
  have KD := Lib.hid (show ∀ W, Kept w9 W → Calls Try.prog 9 #[.agg #[.slice a p.cells.length cap, .int .i64 p.bottles, .int .i64 p.inH, .int .i64 p.inA, .int .i64 p.vH, .int .i64 p.vA, .int .i64 p.lH, .int .i64 p.lA, .int .i64 p.pH, .int .i64 p.pA], .agg #[.int .u8 3, .int .i64 k, .int .i64 0, .int .i64 v]] W fun e w' => ∃ ad cp, e = .returned (.tuple #[.agg #[.slice ad (q).cells.length cp, .int .i64 (q).bottles, .int .i64 (q).inH, .int .i64 (q).inA, .int .i64 (q).vH, .int .i64 (q).vA, .int .i64 (q).lH, .int .i64 (q).lA, .int .i64 (q).pH, .int .i64 (q).pA], .int .i64 E]) ∧ Mine 54 W.heap.size w' (.slice ad (q).cells.length cp) (q).cells ∧ Kept W w' from fun W hW => by
    have k_ := f_Do p (valveD k v) a cap W (hx.later hW (Nat.le_refl _)) hc hM hz (by simp [tickD, valveD])
    rw [hq, hE] at k_
    refine k_.mono ?_
    rintro e w' ⟨v, rfl, hm, hk⟩
    obtain ⟨ad, cp, rfl, _⟩ := hm.slice
    exact ⟨ad, cp, rfl, hm, hk⟩)
  clear hM
  have b7c0 := b7.cell 0
  have b7f0 := b7.free 0
  have b7c1 := b7.cell 1
  have b7f1 := b7.free 1
  have b7c2 := b7.cell 2
  have b7f2 := b7.free 2
  have b7c3 := b7.cell 3
  have b7f3 := b7.free 3
  have b7c4 := b7.cell 4
  have b7f4 := b7.free 4
  have b7c5 := b7.cell 5
  have b7f5 := b7.free 5
  have b7c6 := b7.cell 6
  have b7f6 := b7.free 6
  have b7c7 := b7.cell 7
  have b7f7 := b7.free 7
  have b7c8 := b7.cell 8
  have b7f8 := b7.free 8
  have b7c9 := b7.cell 9
  have b7f9 := b7.free 9
  have b7l := b7.lt
  simp at b7c0 b7c1 b7c2 b7c3 b7c4 b7c5 b7c6 b7c7 b7c8 b7c9
  go_wp2_with (go_at_call 9; (with_reducible refine (KD.out _ (by exact kpta)).mono ?_); rintro e w1 ⟨ad, cp, rfl, hmn, hb1⟩)
  all_goals exact HK.out _ ad cp _ _ _ _ _ _ _ _ _ _ ⟨by exact blkd, hmn.keep (by exact kpta), by have := Kept.size hb1; (try simp at this); (try simp); omega, by exact kpta⟩
  
end Go.Proofs.Ytnfhcpnpjkefmaa

/-
  TopGauged by segments: the valving, the history, the volumes.
-/
namespace Go.Proofs.Ytnfhcpnpjkefmaa
open Go.RowKit Bal Bal.Trim Bal.Gas Bal.Wx
set_option linter.unusedVariables false
set_option linter.unusedSimpArgs false
set_option maxHeartbeats 8000000
set_option maxRecDepth 100000

theorem tg_17 {s0 s1 s2 s3 s4 s5 s7 s8 s9 s10 s11 s12 s13 s14 s15 s16 s17 s18 s19 s20 s21 s23 s24 s26 s27 s28 s29 s30 s31 s32 s33 s34 s35 s36 s37 s38 s39 s40 s41 s42 s43 s44 s45 s46 s47 s48 s49 s50 s51 s52 s53 s54 s55 s56 s57 s58 s59 s60 s61 s62 s63 s64 s65 s66 s67 s68 s69 s70 s71 s72 s73 s74 s75 s76 s77 s78 s79 s80 s81 s82 s83 s84 s85 s86 s87 s88 s89 s90 s91 s92 s93 s94 s95 s96 s97 s98 s99 s100 s101 s102 s103 s104 s105 s106 s107 s108 s109 s110 s111 s112 s113 s114 s115 s116 s117 s118 s119 s120 s121 s122 s123 s124 s125 s126 s127 s128 s129 s130 s131 s132 s133 s134 s135 s136 s137 s138 s139 s140 s141 s142 s143 s144 s145 s146 s147 s148 s149 s150 s151 s152 s153 s154 s155 s156 s157 s158 s159 s160 s161 s162 s163 s164 s165 s166 s167 s168 s169 s170 s171 s172 s173 s174 s175 s176 s177 s178 s179 s180 s181 s182 s183 s184 s185 s186 s187 s188 s189 s190 s191 s192 s193 s194 s195 s196 s197 s198 s199 s200 s201 s202 s203 s204 s205 s206 s207 s208 s209 s210 s211 s212 s213 s214 s215 s216 s217 s218 s219 s220 s221 s222 s223 s224 s225 s226 s227 s228 s229 s230 s231 s232 s233 s234 s235 s236 s237 s238 s239 s240 s241 s242 s243 s244 s245 s246 s247 s248 s249 s250 s251 s252 s253 s254 s255 s256 s257 s258 s259 s260 s261 s262 s263 s264 s265 s266 s267 s268 s269 s270 s271 s272 s273 s274 s275 s276 s277 s278 s279 s280 s281 s282 s283 s284 s285 s286 s287 s288 s289 s290 s291 s292 s293 s294 s295 s296 s297 s298 s299 s300 s301 s302 s303 s304 s305 s306 s307 s308 s309 s310 s311 s312 s313 s314 s315 s316 s317 s318 s319 s320 s321 s322 s323 s324 s325 s326 s327 s328 s329 s330 s331 s332 s333 s334 s335 s336 s337 s338 s339 s340 s341 s342 s343 s344 s345 s346 s347 s348 s349 s350 : Value} {n22 n25 nx ny cx cy : Nat} {ax ay : Option Addr} {p q : Plant} {v : Int} {w9 : World} (C : Code) (hC : (Try.f3.body.bind fun c => regOf c 17) = some C) (Q : Exit → Act → World → Prop) (b22 : Blk w9 n22 #[.slice ax nx cx, .int .i64 p.bottles, .int .i64 p.inH, .int .i64 p.inA, .int .i64 p.vH, .int .i64 p.vA, .int .i64 p.lH, .int .i64 p.lA, .int .i64 p.pH, .int .i64 p.pA] 26) (b25 : Blk w9 n25 #[.slice ay ny cy, .int .i64 q.bottles, .int .i64 q.inH, .int .i64 q.inA, .int .i64 q.vH, .int .i64 q.vA, .int .i64 q.lH, .int .i64 q.lA, .int .i64 q.pH, .int .i64 q.pA] 26) (hne : n22 ≠ n25) (hv : 0 ≤ v ∧ v < 65536)
    (hK : ∀  (u124 u125 u126 : Value) (wc : World), (Blk wc n22 #[.slice ay ny cy, .int .i64 q.bottles, .int .i64 q.inH, .int .i64 q.inA, .int .i64 q.vH, .int .i64 q.vA, .int .i64 q.lH, .int .i64 q.lA, .int .i64 q.pH, .int .i64 q.pA] 26 ∧ But n22 w9 wc) → Q .normal ⟨#[s0, s1, s2, s3, s4, s5, .int .u16 v, s7, s8, s9, s10, s11, s12, s13, s14, s15, s16, s17, s18, s19, s20, s21, .pointer (some ⟨n22, 0, none⟩), s23, .int .i64 (v), .pointer (some ⟨n25, 0, none⟩), s26, s27, s28, s29, s30, s31, s32, s33, s34, s35, s36, s37, s38, s39, s40, s41, s42, s43, s44, s45, s46, s47, s48, s49, s50, s51, s52, s53, s54, s55, s56, s57, s58, s59, s60, s61, s62, s63, s64, s65, s66, s67, s68, s69, s70, s71, s72, s73, s74, s75, s76, s77, s78, s79, s80, s81, s82, s83, s84, s85, s86, s87, s88, s89, s90, s91, s92, s93, s94, s95, s96, s97, s98, s99, s100, s101, s102, s103, s104, s105, s106, s107, s108, s109, s110, s111, s112, s113, s114, s115, s116, s117, s118, s119, s120, s121, s122, s123, u124, u125, u126, s127, s128, s129, s130, s131, s132, s133, s134, s135, s136, s137, s138, s139, s140, s141, s142, s143, s144, s145, s146, s147, s148, s149, s150, s151, s152, s153, s154, s155, s156, s157, s158, s159, s160, s161, s162, s163, s164, s165, s166, s167, s168, s169, s170, s171, s172, s173, s174, s175, s176, s177, s178, s179, s180, s181, s182, s183, s184, s185, s186, s187, s188, s189, s190, s191, s192, s193, s194, s195, s196, s197, s198, s199, s200, s201, s202, s203, s204, s205, s206, s207, s208, s209, s210, s211, s212, s213, s214, s215, s216, s217, s218, s219, s220, s221, s222, s223, s224, s225, s226, s227, s228, s229, s230, s231, s232, s233, s234, s235, s236, s237, s238, s239, s240, s241, s242, s243, s244, s245, s246, s247, s248, s249, s250, s251, s252, s253, s254, s255, s256, s257, s258, s259, s260, s261, s262, s263, s264, s265, s266, s267, s268, s269, s270, s271, s272, s273, s274, s275, s276, s277, s278, s279, s280, s281, s282, s283, s284, s285, s286, s287, s288, s289, s290, s291, s292, s293, s294, s295, s296, s297, s298, s299, s300, s301, s302, s303, s304, s305, s306, s307, s308, s309, s310, s311, s312, s313, s314, s315, s316, s317, s318, s319, s320, s321, s322, s323, s324, s325, s326, s327, s328, s329, s330, s331, s332, s333, s334, s335, s336, s337, s338, s339, s340, s341, s342, s343, s344, s345, s346, s347, s348, s349, s350], []⟩ wc) : C.wp Try.prog Q ⟨#[s0, s1, s2, s3, s4, s5, .int .u16 v, s7, s8, s9, s10, s11, s12, s13, s14, s15, s16, s17, s18, s19, s20, s21, .pointer (some ⟨n22, 0, none⟩), s23, s24, .pointer (some ⟨n25, 0, none⟩), s26, s27, s28, s29, s30, s31, s32, s33, s34, s35, s36, s37, s38, s39, s40, s41, s42, s43, s44, s45, s46, s47, s48, s49, s50, s51, s52, s53, s54, s55, s56, s57, s58, s59, s60, s61, s62, s63, s64, s65, s66, s67, s68, s69, s70, s71, s72, s73, s74, s75, s76, s77, s78, s79, s80, s81, s82, s83, s84, s85, s86, s87, s88, s89, s90, s91, s92, s93, s94, s95, s96, s97, s98, s99, s100, s101, s102, s103, s104, s105, s106, s107, s108, s109, s110, s111, s112, s113, s114, s115, s116, s117, s118, s119, s120, s121, s122, s123, s124, s125, s126, s127, s128, s129, s130, s131, s132, s133, s134, s135, s136, s137, s138, s139, s140, s141, s142, s143, s144, s145, s146, s147, s148, s149, s150, s151, s152, s153, s154, s155, s156, s157, s158, s159, s160, s161, s162, s163, s164, s165, s166, s167, s168, s169, s170, s171, s172, s173, s174, s175, s176, s177, s178, s179, s180, s181, s182, s183, s184, s185, s186, s187, s188, s189, s190, s191, s192, s193, s194, s195, s196, s197, s198, s199, s200, s201, s202, s203, s204, s205, s206, s207, s208, s209, s210, s211, s212, s213, s214, s215, s216, s217, s218, s219, s220, s221, s222, s223, s224, s225, s226, s227, s228, s229, s230, s231, s232, s233, s234, s235, s236, s237, s238, s239, s240, s241, s242, s243, s244, s245, s246, s247, s248, s249, s250, s251, s252, s253, s254, s255, s256, s257, s258, s259, s260, s261, s262, s263, s264, s265, s266, s267, s268, s269, s270, s271, s272, s273, s274, s275, s276, s277, s278, s279, s280, s281, s282, s283, s284, s285, s286, s287, s288, s289, s290, s291, s292, s293, s294, s295, s296, s297, s298, s299, s300, s301, s302, s303, s304, s305, s306, s307, s308, s309, s310, s311, s312, s313, s314, s315, s316, s317, s318, s319, s320, s321, s322, s323, s324, s325, s326, s327, s328, s329, s330, s331, s332, s333, s334, s335, s336, s337, s338, s339, s340, s341, s342, s343, s344, s345, s346, s347, s348, s349, s350], []⟩ w9 := by
  have e0 : (Try.f3.body.bind fun c => regOf c 17) = some (.region 17 _ _) := rfl
  rw [e0] at hC
  cases hC
  clear e0
  try dsimp only at hK ⊢
  have HK := Lib.hid hK
  clear hK
  have wv := i64_w (n := v) (by omega)
  have b22c0 := b22.cell 0
  have b22f0 := b22.free 0
  have b22c1 := b22.cell 1
  have b22f1 := b22.free 1
  have b22c2 := b22.cell 2
  have b22f2 := b22.free 2
  have b22c3 := b22.cell 3
  have b22f3 := b22.free 3
  have b22c4 := b22.cell 4
  have b22f4 := b22.free 4
  have b22c5 := b22.cell 5
  have b22f5 := b22.free 5
  have b22c6 := b22.cell 6
  have b22f6 := b22.free 6
  have b22c7 := b22.cell 7
  have b22f7 := b22.free 7
  have b22c8 := b22.cell 8
  have b22f8 := b22.free 8
  have b22c9 := b22.cell 9
  have b22f9 := b22.free 9
  have b22l := b22.lt
  simp at b22c0 b22c1 b22c2 b22c3 b22c4 b22c5 b22c6 b22c7 b22c8 b22c9
  have b25c0 := b25.cell 0
  have b25f0 := b25.free 0
  have b25c1 := b25.cell 1
  have b25f1 := b25.free 1
  have b25c2 := b25.cell 2
  have b25f2 := b25.free 2
  have b25c3 := b25.cell 3
  have b25f3 := b25.free 3
  have b25c4 := b25.cell 4
  have b25f4 := b25.free 4
  have b25c5 := b25.cell 5
  have b25f5 := b25.free 5
  have b25c6 := b25.cell 6
  have b25f6 := b25.free 6
  have b25c7 := b25.cell 7
  have b25f7 := b25.free 7
  have b25c8 := b25.cell 8
  have b25f8 := b25.free 8
  have b25c9 := b25.cell 9
  have b25f9 := b25.free 9
  have b25l := b25.lt
  simp at b25c0 b25c1 b25c2 b25c3 b25c4 b25c5 b25c6 b25c7 b25c8 b25c9
  go_wp2
  all_goals exact HK.out  _ _ _ _ ⟨by exact blkd, by exact butt⟩
  
theorem tg_18 {s0 s1 s2 s3 s4 s5 s6 s7 s8 s9 s10 s11 s12 s13 s14 s15 s17 s19 s22 s23 s25 s26 s27 s28 s29 s30 s31 s32 s33 s34 s35 s36 s37 s38 s39 s40 s41 s42 s43 s44 s45 s46 s47 s48 s49 s50 s51 s52 s53 s54 s55 s56 s57 s58 s59 s60 s61 s62 s63 s64 s65 s66 s67 s68 s69 s70 s71 s72 s73 s74 s75 s76 s77 s78 s79 s80 s81 s82 s83 s84 s85 s86 s87 s88 s89 s90 s91 s92 s93 s94 s95 s96 s97 s98 s99 s100 s101 s102 s103 s104 s105 s106 s107 s108 s109 s110 s111 s112 s113 s114 s115 s116 s117 s118 s119 s120 s121 s122 s123 s124 s125 s126 s127 s128 s129 s130 s131 s132 s133 s134 s135 s136 s137 s138 s139 s140 s141 s142 s143 s144 s145 s146 s147 s148 s149 s150 s151 s152 s153 s154 s155 s156 s157 s158 s159 s160 s161 s162 s163 s164 s165 s166 s167 s168 s169 s170 s171 s172 s173 s174 s175 s176 s177 s178 s179 s180 s181 s182 s183 s184 s185 s186 s187 s188 s189 s190 s191 s192 s193 s194 s195 s196 s197 s198 s199 s200 s201 s202 s203 s204 s205 s206 s207 s208 s209 s210 s211 s212 s213 s214 s215 s216 s217 s218 s219 s220 s221 s222 s223 s224 s225 s226 s227 s228 s229 s230 s231 s232 s233 s234 s235 s236 s237 s238 s239 s240 s241 s242 s243 s244 s245 s246 s247 s248 s249 s250 s251 s252 s253 s254 s255 s256 s257 s258 s259 s260 s261 s262 s263 s264 s265 s266 s267 s268 s269 s270 s271 s272 s273 s274 s275 s276 s277 s278 s279 s280 s281 s282 s283 s284 s285 s286 s287 s288 s289 s290 s291 s292 s293 s294 s295 s296 s297 s298 s299 s300 s301 s302 s303 s304 s305 s306 s307 s308 s309 s310 s311 s312 s313 s314 s315 s316 s317 s318 s319 s320 s321 s322 s323 s324 s325 s326 s327 s328 s329 s330 s331 s332 s333 s334 s335 s336 s337 s338 s339 s340 s341 s342 s343 s344 s345 s346 s347 s348 s349 s350 : Value} {n16 n18 : Nat} {a b : Air} {k n gone : Int} {w9 : World} (C : Code) (hC : (Try.f3.body.bind fun c => regOf c 18) = some C) (Q : Exit → Act → World → Prop) (b16 : Blk w9 n16 #[.int .i64 a.plo, .int .i64 a.phi, .int .i64 a.tlo, .int .i64 a.thi] 35) (b18 : Blk w9 n18 #[.int .i64 b.plo, .int .i64 b.phi, .int .i64 b.tlo, .int .i64 b.thi] 35) (hg : 0 ≤ gone ∧ gone < 65536)
    (hK : ∀ (nb ng nf : Nat) (u127 u128 u129 u130 u131 u132 u133 u134 u135 u136 u137 u138 u139 : Value) (wc : World), (Blk wc nb #[.slice none 0 0, .slice (some ⟨ng, 0, none⟩) 2 2, .slice (some ⟨nf, 0, none⟩) 1 1] 52 ∧ Blk wc ng #[.int .i64 0, .int .i64 a.plo, .int .i64 a.phi, .int .i64 a.tlo, .int .i64 a.thi, .slice none 0 0, .int .i64 n, .int .i64 b.plo, .int .i64 b.phi, .int .i64 b.tlo, .int .i64 b.thi, .slice none 0 0] 46 ∧ Blk wc nf #[.int .i64 n, .int .i64 k, .int .i64 (-gone)] 49 ∧ (w9.heap.size ≤ nb ∧ w9.heap.size ≤ ng ∧ nb ≠ ng) ∧ Kept w9 wc) → Q .normal ⟨#[s0, s1, s2, s3, s4, s5, s6, s7, s8, s9, s10, s11, s12, s13, s14, s15, .pointer (some ⟨n16, 0, none⟩), s17, .pointer (some ⟨n18, 0, none⟩), s19, .int .i64 (k), .int .i64 (n), s22, s23, .int .i64 (gone), s25, s26, .pointer (some ⟨nb, 0, none⟩), s28, s29, s30, s31, s32, s33, s34, s35, s36, s37, s38, s39, s40, s41, s42, s43, s44, s45, s46, s47, s48, s49, s50, s51, s52, s53, s54, s55, s56, s57, s58, s59, s60, s61, s62, s63, s64, s65, s66, s67, s68, s69, s70, s71, s72, s73, s74, s75, s76, s77, s78, s79, s80, s81, s82, s83, s84, s85, s86, s87, s88, s89, s90, s91, s92, s93, s94, s95, s96, s97, s98, s99, s100, s101, s102, s103, s104, s105, s106, s107, s108, s109, s110, s111, s112, s113, s114, s115, s116, s117, s118, s119, s120, s121, s122, s123, s124, s125, s126, u127, u128, u129, u130, u131, u132, u133, u134, u135, u136, u137, u138, u139, s140, s141, s142, s143, s144, s145, s146, s147, s148, s149, s150, s151, s152, s153, s154, s155, s156, s157, s158, s159, s160, s161, s162, s163, s164, s165, s166, s167, s168, s169, s170, s171, s172, s173, s174, s175, s176, s177, s178, s179, s180, s181, s182, s183, s184, s185, s186, s187, s188, s189, s190, s191, s192, s193, s194, s195, s196, s197, s198, s199, s200, s201, s202, s203, s204, s205, s206, s207, s208, s209, s210, s211, s212, s213, s214, s215, s216, s217, s218, s219, s220, s221, s222, s223, s224, s225, s226, s227, s228, s229, s230, s231, s232, s233, s234, s235, s236, s237, s238, s239, s240, s241, s242, s243, s244, s245, s246, s247, s248, s249, s250, s251, s252, s253, s254, s255, s256, s257, s258, s259, s260, s261, s262, s263, s264, s265, s266, s267, s268, s269, s270, s271, s272, s273, s274, s275, s276, s277, s278, s279, s280, s281, s282, s283, s284, s285, s286, s287, s288, s289, s290, s291, s292, s293, s294, s295, s296, s297, s298, s299, s300, s301, s302, s303, s304, s305, s306, s307, s308, s309, s310, s311, s312, s313, s314, s315, s316, s317, s318, s319, s320, s321, s322, s323, s324, s325, s326, s327, s328, s329, s330, s331, s332, s333, s334, s335, s336, s337, s338, s339, s340, s341, s342, s343, s344, s345, s346, s347, s348, s349, s350], []⟩ wc) : C.wp Try.prog Q ⟨#[s0, s1, s2, s3, s4, s5, s6, s7, s8, s9, s10, s11, s12, s13, s14, s15, .pointer (some ⟨n16, 0, none⟩), s17, .pointer (some ⟨n18, 0, none⟩), s19, .int .i64 (k), .int .i64 (n), s22, s23, .int .i64 (gone), s25, s26, s27, s28, s29, s30, s31, s32, s33, s34, s35, s36, s37, s38, s39, s40, s41, s42, s43, s44, s45, s46, s47, s48, s49, s50, s51, s52, s53, s54, s55, s56, s57, s58, s59, s60, s61, s62, s63, s64, s65, s66, s67, s68, s69, s70, s71, s72, s73, s74, s75, s76, s77, s78, s79, s80, s81, s82, s83, s84, s85, s86, s87, s88, s89, s90, s91, s92, s93, s94, s95, s96, s97, s98, s99, s100, s101, s102, s103, s104, s105, s106, s107, s108, s109, s110, s111, s112, s113, s114, s115, s116, s117, s118, s119, s120, s121, s122, s123, s124, s125, s126, s127, s128, s129, s130, s131, s132, s133, s134, s135, s136, s137, s138, s139, s140, s141, s142, s143, s144, s145, s146, s147, s148, s149, s150, s151, s152, s153, s154, s155, s156, s157, s158, s159, s160, s161, s162, s163, s164, s165, s166, s167, s168, s169, s170, s171, s172, s173, s174, s175, s176, s177, s178, s179, s180, s181, s182, s183, s184, s185, s186, s187, s188, s189, s190, s191, s192, s193, s194, s195, s196, s197, s198, s199, s200, s201, s202, s203, s204, s205, s206, s207, s208, s209, s210, s211, s212, s213, s214, s215, s216, s217, s218, s219, s220, s221, s222, s223, s224, s225, s226, s227, s228, s229, s230, s231, s232, s233, s234, s235, s236, s237, s238, s239, s240, s241, s242, s243, s244, s245, s246, s247, s248, s249, s250, s251, s252, s253, s254, s255, s256, s257, s258, s259, s260, s261, s262, s263, s264, s265, s266, s267, s268, s269, s270, s271, s272, s273, s274, s275, s276, s277, s278, s279, s280, s281, s282, s283, s284, s285, s286, s287, s288, s289, s290, s291, s292, s293, s294, s295, s296, s297, s298, s299, s300, s301, s302, s303, s304, s305, s306, s307, s308, s309, s310, s311, s312, s313, s314, s315, s316, s317, s318, s319, s320, s321, s322, s323, s324, s325, s326, s327, s328, s329, s330, s331, s332, s333, s334, s335, s336, s337, s338, s339, s340, s341, s342, s343, s344, s345, s346, s347, s348, s349, s350], []⟩ w9 := by
  have e0 : (Try.f3.body.bind fun c => regOf c 18) = some (.region 18 _ _) := rfl
  rw [e0] at hC
  cases hC
  clear e0
  try dsimp only at hK ⊢
  have HK := Lib.hid hK
  clear hK
  have wg := i64_w (n := -gone) (by omega)
  have b16c0 := b16.cell 0
  have b16f0 := b16.free 0
  have b16c1 := b16.cell 1
  have b16f1 := b16.free 1
  have b16c2 := b16.cell 2
  have b16f2 := b16.free 2
  have b16c3 := b16.cell 3
  have b16f3 := b16.free 3
  have b16l := b16.lt
  simp at b16c0 b16c1 b16c2 b16c3
  have b18c0 := b18.cell 0
  have b18f0 := b18.free 0
  have b18c1 := b18.cell 1
  have b18f1 := b18.free 1
  have b18c2 := b18.cell 2
  have b18f2 := b18.free 2
  have b18c3 := b18.cell 3
  have b18f3 := b18.free 3
  have b18l := b18.lt
  simp at b18c0 b18c1 b18c2 b18c3
  go_wp2
  all_goals exact HK.out _ _ _ _ _ _ _ _ _ _ _ _ _ _ _ _ _ ⟨by exact blkd, by exact blkd, by exact blkd, ⟨by (try simp); omega, by (try simp), by (try simp); try omega⟩, by exact kpta⟩
  
theorem tg_22 {s0 s1 s2 s3 s4 s5 s6 s7 s8 s9 s10 s11 s12 s13 s14 s15 s17 s18 s19 s20 s21 s22 s23 s24 s25 s26 s27 s28 s30 s31 s32 s33 s34 s35 s36 s37 s38 s39 s40 s41 s42 s43 s44 s45 s46 s47 s48 s49 s50 s51 s52 s53 s54 s55 s56 s57 s58 s59 s60 s61 s62 s63 s64 s65 s66 s67 s68 s69 s70 s71 s72 s73 s74 s75 s76 s77 s78 s79 s80 s81 s82 s83 s84 s85 s86 s87 s88 s89 s90 s91 s92 s93 s94 s95 s96 s97 s98 s99 s100 s101 s102 s103 s104 s105 s106 s107 s108 s109 s110 s111 s112 s113 s114 s115 s116 s117 s118 s119 s120 s121 s122 s123 s124 s125 s126 s127 s128 s129 s130 s131 s132 s133 s134 s135 s136 s137 s138 s139 s140 s141 s142 s143 s144 s145 s146 s147 s148 s149 s150 s151 s152 s153 s154 s155 s156 s157 s158 s159 s160 s161 s162 s163 s164 s165 s166 s167 s168 s169 s170 s171 s172 s173 s174 s175 s176 s177 s178 s179 s180 s181 s182 s183 s184 s185 s186 s187 s188 s189 s190 s191 s192 s193 s194 s195 s196 s197 s198 s199 s200 s201 s202 s203 s204 s205 s206 s207 s208 s209 s210 s211 s212 s213 s214 s215 s216 s217 s218 s219 s220 s221 s222 s223 s224 s225 s226 s227 s228 s229 s230 s231 s232 s233 s234 s235 s236 s237 s238 s239 s240 s241 s242 s243 s244 s245 s246 s247 s248 s249 s250 s251 s252 s253 s254 s255 s256 s257 s258 s259 s260 s261 s262 s263 s264 s265 s266 s267 s268 s269 s270 s271 s272 s273 s274 s275 s276 s277 s278 s279 s280 s281 s282 s283 s284 s285 s286 s287 s288 s289 s290 s291 s292 s293 s294 s295 s296 s297 s298 s299 s300 s301 s302 s303 s304 s305 s306 s307 s308 s309 s310 s311 s312 s313 s314 s315 s316 s317 s318 s319 s320 s321 s322 s323 s324 s325 s326 s327 s328 s329 s330 s331 s332 s333 s334 s335 s336 s337 s338 s339 s340 s341 s342 s343 s344 s345 s346 s347 s348 s349 s350 : Value} {nc n16 : Nat} {c : Cell} {b : Air} {w9 : World} (C : Code) (hC : (Try.f3.body.bind fun c => regOf c 22) = some C) (Q : Exit → Act → World → Prop) (bc : Blk w9 nc #[.int .i64 c.room, .int .i64 c.helium, .int .i64 c.air, .int .i64 c.wlo, .int .i64 c.whi, .int .i64 c.leak, .int .i64 c.owed] 54) (b16 : Blk w9 n16 #[.int .i64 b.plo, .int .i64 b.phi, .int .i64 b.tlo, .int .i64 b.thi] 35) (hc : cellB c = true) (hb : airB b = true)
    (hK : ∀ (nb : Nat) (u148 u149 u150 u151 u152 u153 : Value) (wc : World), (Blk wc nb #[.int .i64 (volLo c b), .int .i64 (volHi c b)] 29 ∧ w9.heap.size ≤ nb ∧ Kept w9 wc) → Q .normal ⟨#[s0, s1, s2, s3, s4, s5, s6, s7, s8, s9, s10, s11, s12, s13, s14, s15, .pointer (some ⟨n16, 0, none⟩), s17, s18, s19, s20, s21, s22, s23, s24, s25, s26, s27, s28, .pointer (some ⟨nc, 0, none⟩), .pointer (some ⟨nb, 0, none⟩), .int .i64 (0), s32, s33, s34, s35, s36, s37, s38, s39, s40, s41, s42, s43, s44, s45, s46, s47, s48, s49, s50, s51, s52, s53, s54, s55, s56, s57, s58, s59, s60, s61, s62, s63, s64, s65, s66, s67, s68, s69, s70, s71, s72, s73, s74, s75, s76, s77, s78, s79, s80, s81, s82, s83, s84, s85, s86, s87, s88, s89, s90, s91, s92, s93, s94, s95, s96, s97, s98, s99, s100, s101, s102, s103, s104, s105, s106, s107, s108, s109, s110, s111, s112, s113, s114, s115, s116, s117, s118, s119, s120, s121, s122, s123, s124, s125, s126, s127, s128, s129, s130, s131, s132, s133, s134, s135, s136, s137, s138, s139, s140, s141, s142, s143, s144, s145, s146, s147, u148, u149, u150, u151, u152, u153, s154, s155, s156, s157, s158, s159, s160, s161, s162, s163, s164, s165, s166, s167, s168, s169, s170, s171, s172, s173, s174, s175, s176, s177, s178, s179, s180, s181, s182, s183, s184, s185, s186, s187, s188, s189, s190, s191, s192, s193, s194, s195, s196, s197, s198, s199, s200, s201, s202, s203, s204, s205, s206, s207, s208, s209, s210, s211, s212, s213, s214, s215, s216, s217, s218, s219, s220, s221, s222, s223, s224, s225, s226, s227, s228, s229, s230, s231, s232, s233, s234, s235, s236, s237, s238, s239, s240, s241, s242, s243, s244, s245, s246, s247, s248, s249, s250, s251, s252, s253, s254, s255, s256, s257, s258, s259, s260, s261, s262, s263, s264, s265, s266, s267, s268, s269, s270, s271, s272, s273, s274, s275, s276, s277, s278, s279, s280, s281, s282, s283, s284, s285, s286, s287, s288, s289, s290, s291, s292, s293, s294, s295, s296, s297, s298, s299, s300, s301, s302, s303, s304, s305, s306, s307, s308, s309, s310, s311, s312, s313, s314, s315, s316, s317, s318, s319, s320, s321, s322, s323, s324, s325, s326, s327, s328, s329, s330, s331, s332, s333, s334, s335, s336, s337, s338, s339, s340, s341, s342, s343, s344, s345, s346, s347, s348, s349, s350], []⟩ wc) : C.wp Try.prog Q ⟨#[s0, s1, s2, s3, s4, s5, s6, s7, s8, s9, s10, s11, s12, s13, s14, s15, .pointer (some ⟨n16, 0, none⟩), s17, s18, s19, s20, s21, s22, s23, s24, s25, s26, s27, s28, .pointer (some ⟨nc, 0, none⟩), s30, s31, s32, s33, s34, s35, s36, s37, s38, s39, s40, s41, s42, s43, s44, s45, s46, s47, s48, s49, s50, s51, s52, s53, s54, s55, s56, s57, s58, s59, s60, s61, s62, s63, s64, s65, s66, s67, s68, s69, s70, s71, s72, s73, s74, s75, s76, s77, s78, s79, s80, s81, s82, s83, s84, s85, s86, s87, s88, s89, s90, s91, s92, s93, s94, s95, s96, s97, s98, s99, s100, s101, s102, s103, s104, s105, s106, s107, s108, s109, s110, s111, s112, s113, s114, s115, s116, s117, s118, s119, s120, s121, s122, s123, s124, s125, s126, s127, s128, s129, s130, s131, s132, s133, s134, s135, s136, s137, s138, s139, s140, s141, s142, s143, s144, s145, s146, s147, s148, s149, s150, s151, s152, s153, s154, s155, s156, s157, s158, s159, s160, s161, s162, s163, s164, s165, s166, s167, s168, s169, s170, s171, s172, s173, s174, s175, s176, s177, s178, s179, s180, s181, s182, s183, s184, s185, s186, s187, s188, s189, s190, s191, s192, s193, s194, s195, s196, s197, s198, s199, s200, s201, s202, s203, s204, s205, s206, s207, s208, s209, s210, s211, s212, s213, s214, s215, s216, s217, s218, s219, s220, s221, s222, s223, s224, s225, s226, s227, s228, s229, s230, s231, s232, s233, s234, s235, s236, s237, s238, s239, s240, s241, s242, s243, s244, s245, s246, s247, s248, s249, s250, s251, s252, s253, s254, s255, s256, s257, s258, s259, s260, s261, s262, s263, s264, s265, s266, s267, s268, s269, s270, s271, s272, s273, s274, s275, s276, s277, s278, s279, s280, s281, s282, s283, s284, s285, s286, s287, s288, s289, s290, s291, s292, s293, s294, s295, s296, s297, s298, s299, s300, s301, s302, s303, s304, s305, s306, s307, s308, s309, s310, s311, s312, s313, s314, s315, s316, s317, s318, s319, s320, s321, s322, s323, s324, s325, s326, s327, s328, s329, s330, s331, s332, s333, s334, s335, s336, s337, s338, s339, s340, s341, s342, s343, s344, s345, s346, s347, s348, s349, s350], []⟩ w9 := by
  have e0 : (Try.f3.body.bind fun c => regOf c 22) = some (.region 22 _ _) := rfl
  rw [e0] at hC
  cases hC
  clear e0
  try dsimp only at hK ⊢
  have HK := Lib.hid hK
  clear hK
  have KV := Lib.hid (show ∀ W, Calls Try.prog 10 #[.agg #[.int .i64 c.room, .int .i64 c.helium, .int .i64 c.air, .int .i64 c.wlo, .int .i64 c.whi, .int .i64 c.leak, .int .i64 c.owed], .agg #[.int .i64 b.plo, .int .i64 b.phi, .int .i64 b.tlo, .int .i64 b.thi]] W fun e w' => e = .returned (.tuple #[.agg #[.int .i64 (volLo c b), .int .i64 (volHi c b)], .int .i64 0]) ∧ Kept W w' from fun W => by
    have h := f_VolumeC c b W
    rw [show asked c b = 0 by simp [asked, checkAir, hc, hb]] at h
    exact h)
  clear hc hb
  have bcc0 := bc.cell 0
  have bcf0 := bc.free 0
  have bcc1 := bc.cell 1
  have bcf1 := bc.free 1
  have bcc2 := bc.cell 2
  have bcf2 := bc.free 2
  have bcc3 := bc.cell 3
  have bcf3 := bc.free 3
  have bcc4 := bc.cell 4
  have bcf4 := bc.free 4
  have bcc5 := bc.cell 5
  have bcf5 := bc.free 5
  have bcc6 := bc.cell 6
  have bcf6 := bc.free 6
  have bcl := bc.lt
  simp at bcc0 bcc1 bcc2 bcc3 bcc4 bcc5 bcc6
  have b16c0 := b16.cell 0
  have b16f0 := b16.free 0
  have b16c1 := b16.cell 1
  have b16f1 := b16.free 1
  have b16c2 := b16.cell 2
  have b16f2 := b16.free 2
  have b16c3 := b16.cell 3
  have b16f3 := b16.free 3
  have b16l := b16.lt
  simp at b16c0 b16c1 b16c2 b16c3
  go_wp2_with (go_at_call 10; (with_reducible refine (KV.out _).mono ?_); rintro e w1 ⟨rfl, hb1⟩)
  all_goals exact HK.out _ _ _ _ _ _ _ _ ⟨by exact blkd, by have := Kept.size hb1; (try simp at this); (try simp); omega, by exact kpta⟩
  
theorem tg_23 {s0 s1 s2 s3 s4 s5 s6 s7 s8 s9 s10 s11 s12 s13 s14 s15 s16 s17 s19 s20 s21 s23 s24 s25 s26 s27 s29 s30 s31 s32 s33 s34 s35 s36 s37 s38 s39 s40 s41 s42 s43 s44 s45 s46 s47 s48 s49 s50 s51 s52 s53 s54 s55 s56 s57 s58 s59 s60 s61 s62 s63 s64 s65 s66 s67 s68 s69 s70 s71 s72 s73 s74 s75 s76 s77 s78 s79 s80 s81 s82 s83 s84 s85 s86 s87 s88 s89 s90 s91 s92 s93 s94 s95 s96 s97 s98 s99 s100 s101 s102 s103 s104 s105 s106 s107 s108 s109 s110 s111 s112 s113 s114 s115 s116 s117 s118 s119 s120 s121 s122 s123 s124 s125 s126 s127 s128 s129 s130 s131 s132 s133 s134 s135 s136 s137 s138 s139 s140 s141 s142 s143 s144 s145 s146 s147 s148 s149 s150 s151 s152 s153 s154 s155 s156 s157 s158 s159 s160 s161 s162 s163 s164 s165 s166 s167 s168 s169 s170 s171 s172 s173 s174 s175 s176 s177 s178 s179 s180 s181 s182 s183 s184 s185 s186 s187 s188 s189 s190 s191 s192 s193 s194 s195 s196 s197 s198 s199 s200 s201 s202 s203 s204 s205 s206 s207 s208 s209 s210 s211 s212 s213 s214 s215 s216 s217 s218 s219 s220 s221 s222 s223 s224 s225 s226 s227 s228 s229 s230 s231 s232 s233 s234 s235 s236 s237 s238 s239 s240 s241 s242 s243 s244 s245 s246 s247 s248 s249 s250 s251 s252 s253 s254 s255 s256 s257 s258 s259 s260 s261 s262 s263 s264 s265 s266 s267 s268 s269 s270 s271 s272 s273 s274 s275 s276 s277 s278 s279 s280 s281 s282 s283 s284 s285 s286 s287 s288 s289 s290 s291 s292 s293 s294 s295 s296 s297 s298 s299 s300 s301 s302 s303 s304 s305 s306 s307 s308 s309 s310 s311 s312 s313 s314 s315 s316 s317 s318 s319 s320 s321 s322 s323 s324 s325 s326 s327 s328 s329 s330 s331 s332 s333 s334 s335 s336 s337 s338 s339 s340 s341 s342 s343 s344 s345 s346 s347 s348 s349 s350 : Value} {n22 n18 i : Nat} {q : Plant} {ad : Option Addr} {cp : Nat} {b : Air} {w9 : World} (C : Code) (hC : (Try.f3.body.bind fun c => regOf c 23) = some C) (Q : Exit → Act → World → Prop) (b22 : Blk w9 n22 #[.slice ad q.cells.length cp, .int .i64 q.bottles, .int .i64 q.inH, .int .i64 q.inA, .int .i64 q.vH, .int .i64 q.vA, .int .i64 q.lH, .int .i64 q.lA, .int .i64 q.pH, .int .i64 q.pA] 26) (b18 : Blk w9 n18 #[.int .i64 b.plo, .int .i64 b.phi, .int .i64 b.tlo, .int .i64 b.thi] 35) (hx : Row Cell.cells 7 w9.heap.size w9 ad q.cells) (hcp : q.cells.length ≤ cp) (hi : i < q.cells.length) (hc : cellB (cellAt q i) = true) (hb : airB b = true)
    (hK : ∀ (nb : Nat) (u154 u155 u156 u157 u158 u159 u160 u161 u162 u163 : Value) (wc : World), (Blk wc nb #[.int .i64 (volLo (cellAt q i) b), .int .i64 (volHi (cellAt q i) b)] 29 ∧ w9.heap.size ≤ nb ∧ Kept w9 wc) → Q .normal ⟨#[s0, s1, s2, s3, s4, s5, s6, s7, s8, s9, s10, s11, s12, s13, s14, s15, s16, s17, .pointer (some ⟨n18, 0, none⟩), s19, s20, s21, .pointer (some ⟨n22, 0, none⟩), s23, s24, s25, s26, s27, .int .i64 ((i : Int)), s29, s30, s31, .pointer (some ⟨nb, 0, none⟩), .int .i64 (0), s34, s35, s36, s37, s38, s39, s40, s41, s42, s43, s44, s45, s46, s47, s48, s49, s50, s51, s52, s53, s54, s55, s56, s57, s58, s59, s60, s61, s62, s63, s64, s65, s66, s67, s68, s69, s70, s71, s72, s73, s74, s75, s76, s77, s78, s79, s80, s81, s82, s83, s84, s85, s86, s87, s88, s89, s90, s91, s92, s93, s94, s95, s96, s97, s98, s99, s100, s101, s102, s103, s104, s105, s106, s107, s108, s109, s110, s111, s112, s113, s114, s115, s116, s117, s118, s119, s120, s121, s122, s123, s124, s125, s126, s127, s128, s129, s130, s131, s132, s133, s134, s135, s136, s137, s138, s139, s140, s141, s142, s143, s144, s145, s146, s147, s148, s149, s150, s151, s152, s153, u154, u155, u156, u157, u158, u159, u160, u161, u162, u163, s164, s165, s166, s167, s168, s169, s170, s171, s172, s173, s174, s175, s176, s177, s178, s179, s180, s181, s182, s183, s184, s185, s186, s187, s188, s189, s190, s191, s192, s193, s194, s195, s196, s197, s198, s199, s200, s201, s202, s203, s204, s205, s206, s207, s208, s209, s210, s211, s212, s213, s214, s215, s216, s217, s218, s219, s220, s221, s222, s223, s224, s225, s226, s227, s228, s229, s230, s231, s232, s233, s234, s235, s236, s237, s238, s239, s240, s241, s242, s243, s244, s245, s246, s247, s248, s249, s250, s251, s252, s253, s254, s255, s256, s257, s258, s259, s260, s261, s262, s263, s264, s265, s266, s267, s268, s269, s270, s271, s272, s273, s274, s275, s276, s277, s278, s279, s280, s281, s282, s283, s284, s285, s286, s287, s288, s289, s290, s291, s292, s293, s294, s295, s296, s297, s298, s299, s300, s301, s302, s303, s304, s305, s306, s307, s308, s309, s310, s311, s312, s313, s314, s315, s316, s317, s318, s319, s320, s321, s322, s323, s324, s325, s326, s327, s328, s329, s330, s331, s332, s333, s334, s335, s336, s337, s338, s339, s340, s341, s342, s343, s344, s345, s346, s347, s348, s349, s350], []⟩ wc) : C.wp Try.prog Q ⟨#[s0, s1, s2, s3, s4, s5, s6, s7, s8, s9, s10, s11, s12, s13, s14, s15, s16, s17, .pointer (some ⟨n18, 0, none⟩), s19, s20, s21, .pointer (some ⟨n22, 0, none⟩), s23, s24, s25, s26, s27, .int .i64 ((i : Int)), s29, s30, s31, s32, s33, s34, s35, s36, s37, s38, s39, s40, s41, s42, s43, s44, s45, s46, s47, s48, s49, s50, s51, s52, s53, s54, s55, s56, s57, s58, s59, s60, s61, s62, s63, s64, s65, s66, s67, s68, s69, s70, s71, s72, s73, s74, s75, s76, s77, s78, s79, s80, s81, s82, s83, s84, s85, s86, s87, s88, s89, s90, s91, s92, s93, s94, s95, s96, s97, s98, s99, s100, s101, s102, s103, s104, s105, s106, s107, s108, s109, s110, s111, s112, s113, s114, s115, s116, s117, s118, s119, s120, s121, s122, s123, s124, s125, s126, s127, s128, s129, s130, s131, s132, s133, s134, s135, s136, s137, s138, s139, s140, s141, s142, s143, s144, s145, s146, s147, s148, s149, s150, s151, s152, s153, s154, s155, s156, s157, s158, s159, s160, s161, s162, s163, s164, s165, s166, s167, s168, s169, s170, s171, s172, s173, s174, s175, s176, s177, s178, s179, s180, s181, s182, s183, s184, s185, s186, s187, s188, s189, s190, s191, s192, s193, s194, s195, s196, s197, s198, s199, s200, s201, s202, s203, s204, s205, s206, s207, s208, s209, s210, s211, s212, s213, s214, s215, s216, s217, s218, s219, s220, s221, s222, s223, s224, s225, s226, s227, s228, s229, s230, s231, s232, s233, s234, s235, s236, s237, s238, s239, s240, s241, s242, s243, s244, s245, s246, s247, s248, s249, s250, s251, s252, s253, s254, s255, s256, s257, s258, s259, s260, s261, s262, s263, s264, s265, s266, s267, s268, s269, s270, s271, s272, s273, s274, s275, s276, s277, s278, s279, s280, s281, s282, s283, s284, s285, s286, s287, s288, s289, s290, s291, s292, s293, s294, s295, s296, s297, s298, s299, s300, s301, s302, s303, s304, s305, s306, s307, s308, s309, s310, s311, s312, s313, s314, s315, s316, s317, s318, s319, s320, s321, s322, s323, s324, s325, s326, s327, s328, s329, s330, s331, s332, s333, s334, s335, s336, s337, s338, s339, s340, s341, s342, s343, s344, s345, s346, s347, s348, s349, s350], []⟩ w9 := by
  have e0 : (Try.f3.body.bind fun c => regOf c 23) = some (.region 23 _ _) := rfl
  rw [e0] at hC
  cases hC
  clear e0
  try dsimp only at hK ⊢
  have HK := Lib.hid hK
  clear hK
  have KV := Lib.hid (show ∀ W, Calls Try.prog 10 #[.agg #[.int .i64 (cellAt q i).room, .int .i64 (cellAt q i).helium, .int .i64 (cellAt q i).air, .int .i64 (cellAt q i).wlo, .int .i64 (cellAt q i).whi, .int .i64 (cellAt q i).leak, .int .i64 (cellAt q i).owed], .agg #[.int .i64 b.plo, .int .i64 b.phi, .int .i64 b.tlo, .int .i64 b.thi]] W fun e w' => e = .returned (.tuple #[.agg #[.int .i64 (volLo (cellAt q i) b), .int .i64 (volHi (cellAt q i) b)], .int .i64 0]) ∧ Kept W w' from fun W => by
    have h := f_VolumeC (cellAt q i) b W
    rw [show asked (cellAt q i) b = 0 by simp [asked, checkAir, hc, hb]] at h
    exact h)
  clear hc hb
  have i0 : (0 : Int) ≤ (i : Int) := by omega
  have i1 : (i : Int) < (q.cells.length : Int) := by omega
  obtain ⟨b1, o1, rfl, hb1_, z0, z1, z2, z3, z4, z5, z6⟩ := Cell.row hx i hi
  rw [show q.cells[i] = cellAt q i by simp [cellAt, hi]] at z0 z1 z2 z3 z4 z5 z6
  have y0 : ∀ w', Kept w9 w' → w'.cell? ⟨b1, o1 + i * 7, none⟩ = _ := fun w' h => ((bcell h).1 b1 _ hb1_).trans z0
  have y1 : ∀ w', Kept w9 w' → w'.cell? ⟨b1, o1 + i * 7 + 1, none⟩ = _ := fun w' h => ((bcell h).1 b1 _ hb1_).trans z1
  have y2 : ∀ w', Kept w9 w' → w'.cell? ⟨b1, o1 + i * 7 + 2, none⟩ = _ := fun w' h => ((bcell h).1 b1 _ hb1_).trans z2
  have y3 : ∀ w', Kept w9 w' → w'.cell? ⟨b1, o1 + i * 7 + 3, none⟩ = _ := fun w' h => ((bcell h).1 b1 _ hb1_).trans z3
  have y4 : ∀ w', Kept w9 w' → w'.cell? ⟨b1, o1 + i * 7 + 4, none⟩ = _ := fun w' h => ((bcell h).1 b1 _ hb1_).trans z4
  have y5 : ∀ w', Kept w9 w' → w'.cell? ⟨b1, o1 + i * 7 + 5, none⟩ = _ := fun w' h => ((bcell h).1 b1 _ hb1_).trans z5
  have y6 : ∀ w', Kept w9 w' → w'.cell? ⟨b1, o1 + i * 7 + 6, none⟩ = _ := fun w' h => ((bcell h).1 b1 _ hb1_).trans z6
  clear z0 z1 z2 z3 z4 z5 z6
  have b22k0 : ∀ w', Kept w9 w' → w'.cell? ⟨n22, 0, none⟩ = _ := fun w' h => (b22.keep h).cell 0
  simp at b22k0
  have b22l_ := b22.lt
  have b18k0 : ∀ w', Kept w9 w' → w'.cell? ⟨n18, 0, none⟩ = _ := fun w' h => (b18.keep h).cell 0
  have b18k1 : ∀ w', Kept w9 w' → w'.cell? ⟨n18, 1, none⟩ = _ := fun w' h => (b18.keep h).cell 1
  have b18k2 : ∀ w', Kept w9 w' → w'.cell? ⟨n18, 2, none⟩ = _ := fun w' h => (b18.keep h).cell 2
  have b18k3 : ∀ w', Kept w9 w' → w'.cell? ⟨n18, 3, none⟩ = _ := fun w' h => (b18.keep h).cell 3
  simp at b18k0 b18k1 b18k2 b18k3
  have b18l_ := b18.lt
  go_region_held3 (fun w' => Kept w9 w') (exact kpta) (first | (go_at_call 10; (with_reducible refine (KV.out _).mono ?_); rintro e w1 ⟨rfl, hb1⟩; (first | (refine Blk.thru (b := w9.heap.size) (arr := #[.int .i64 0, .int .i64 0]) (t := 29) ?_ hb1 ?_; (focus (first | with_reducible assumption | (refine Blk.new' ?_; (focus (simp; done))) | (refine Blk.drew (Blk.new' ?_); (focus (simp; done))) | (refine Blk.alloc (Blk.new' ?_) _; (focus (simp; done))) | (refine Blk.drew (Blk.alloc (Blk.new' ?_) _); (focus (simp; done))) | (refine Blk.alloc (Blk.drew (Blk.new' ?_)) _; (focus (simp; done))) | (refine Blk.alloc ?_ _; with_reducible assumption) | (refine Blk.drew ?_; with_reducible assumption) | (refine Blk.drew (Blk.alloc ?_ _); with_reducible assumption) | fail)); intro tz0; have tz0c0 := tz0.cell 0; have tz0f0 := tz0.free 0; have tz0c1 := tz0.cell 1; have tz0f1 := tz0.free 1; have tz0l := tz0.lt; simp at tz0c0 tz0c1) | skip)) | fail)
  all_goals (go_wp2_with fail)
  all_goals exact HK.out _ _ _ _ _ _ _ _ _ _ _ _ ⟨by first | exact blkx | exact Blk.new | exact Blk.new' (by simp), by (have := Kept.size hb1); (simp at this ⊢); (try omega), by exact kpta⟩
  
end Go.Proofs.Ytnfhcpnpjkefmaa

/-
  A history of two gauges whose superheats and volumes grow, in memory. No program in sight.
-/
namespace Bal.Gas
open Go Go.RowKit Bal Bal.Trim
set_option linter.unusedVariables false
def hisV (vw : Value) (ng nf : Nat) : Array Value := #[vw, .slice (some ⟨ng, 0, none⟩) 2 2, .slice (some ⟨nf, 0, none⟩) 1 1]
def gauV (a b : Air) (n : Int) (va vb : Value) : Array Value :=
  #[.int .i64 0, .int .i64 a.plo, .int .i64 a.phi, .int .i64 a.tlo, .int .i64 a.thi, va, .int .i64 n, .int .i64 b.plo, .int .i64 b.phi, .int .i64 b.tlo, .int .i64 b.thi, vb]
structure LSt (TS TG TH TF : TypeId) (B nh ng nf : Nat) (a b : Air) (n : Int) (fa : Array Value) (w0 w : World) (vw va vb : Value) (W VA VB : List Sp) : Prop where
  lh : nh < B
  lg : ng < B
  lf : nf < B
  ne : nh ≠ ng ∧ nf ≠ nh ∧ nf ≠ ng
  b0 : w0.heap.size ≤ nh ∧ w0.heap.size ≤ ng
  hB : B ≤ w.heap.size
  hist : Blk w nh (hisV vw ng nf) TH
  gau : Blk w ng (gauV a b n va vb) TG
  fl : Blk w nf fa TF
  ow : w.ownsRow B TS 2 vw W.length (W.flatMap Sp.cells)
  oa : w.ownsRow B TS 2 va VA.length (VA.flatMap Sp.cells)
  ob : w.ownsRow B TS 2 vb VB.length (VB.flatMap Sp.cells)
  ap : Apart vw va ∧ Apart vw vb ∧ Apart va vb
  kept : Kept w0 w
section
variable {TS TG TH TF : TypeId} {B nh ng nf : Nat} {a b : Air} {n : Int} {fa : Array Value} {w0 w : World} {vw va vb : Value} {W VA VB : List Sp}
theorem LSt.keep (h : LSt TS TG TH TF B nh ng nf a b n fa w0 w vw va vb W VA VB) {w' : World} (hb : Kept w w') : LSt TS TG TH TF B nh ng nf a b n fa w0 w' vw va vb W VA VB :=
  ⟨h.lh, h.lg, h.lf, h.ne, h.b0, Nat.le_trans h.hB hb.size, h.hist.keep hb, h.gau.keep hb, h.fl.keep hb, owns_keep h.ow hb, owns_keep h.oa hb, owns_keep h.ob hb, h.ap, Kept.drop h.kept hb⟩
theorem LSt.low (h : LSt TS TG TH TF B nh ng nf a b n fa w0 w vw va vb W VA VB) : w0.heap.size ≤ B := Nat.le_trans h.b0.1 (Nat.le_of_lt h.lh)
theorem flat_put (W : List Sp) (s : Sp) : (W ++ [s]).flatMap Sp.cells = W.flatMap Sp.cells ++ s.cells := by simp
theorem LSt.appW (h : LSt TS TG TH TF B nh ng nf a b n fa w0 w vw va vb W VA VB) {w' : World} {v' : Value} {s : Sp} (ho : w'.ownsRow B TS 2 v' (W.length + 1) (W.flatMap Sp.cells ++ s.cells)) (hg : w.grownBy w' vw.ownBlock) (hm : Moved w vw v') :
    LSt TS TG TH TF B nh ng nf a b n fa w0 (w'.setCell ⟨nh, 0, none⟩ v') v' va vb (W ++ [s]) VA VB := by
  refine ⟨h.lh, h.lg, h.lf, h.ne, h.b0, by simpa using Nat.le_trans h.hB hg.size, ((h.hist.grownLt h.lh h.ow hg).set 0 v').cast rfl, (h.gau.grownLt h.lg h.ow hg).other h.ne.1 _, (h.fl.grownLt h.lf h.ow hg).other (Ne.symm h.ne.2.1) _,
    owns_setLt h.lh ?_, owns_setLt h.lh (h.ap.1.keep h.oa hg), owns_setLt h.lh (h.ap.2.1.keep h.ob hg), ⟨h.ap.1.moved hm h.oa, h.ap.2.1.moved hm h.ob, h.ap.2.2⟩, (Kept.grown h.kept h.ow h.low hg).setCell h.b0.1 _⟩
  rw [flat_put, List.length_append]
  exact ho
theorem LSt.appA (h : LSt TS TG TH TF B nh ng nf a b n fa w0 w vw va vb W VA VB) {w' : World} {v' : Value} {s : Sp} (ho : w'.ownsRow B TS 2 v' (VA.length + 1) (VA.flatMap Sp.cells ++ s.cells)) (hg : w.grownBy w' va.ownBlock) (hm : Moved w va v') :
    LSt TS TG TH TF B nh ng nf a b n fa w0 (w'.setCell ⟨ng, 5, none⟩ v') vw v' vb W (VA ++ [s]) VB := by
  refine ⟨h.lh, h.lg, h.lf, h.ne, h.b0, by simpa using Nat.le_trans h.hB hg.size, (h.hist.grownLt h.lh h.oa hg).other (Ne.symm h.ne.1) _, ((h.gau.grownLt h.lg h.oa hg).set 5 v').cast rfl, (h.fl.grownLt h.lf h.oa hg).other (Ne.symm h.ne.2.2) _,
    owns_setLt h.lg (h.ap.1.symm.keep h.ow hg), owns_setLt h.lg ?_, owns_setLt h.lg (h.ap.2.2.keep h.ob hg), ⟨(h.ap.1.symm.moved hm h.ow).symm, h.ap.2.1, h.ap.2.2.moved hm h.ob⟩, (Kept.grown h.kept h.oa h.low hg).setCell h.b0.2 _⟩
  rw [flat_put, List.length_append]
  exact ho
theorem LSt.appB (h : LSt TS TG TH TF B nh ng nf a b n fa w0 w vw va vb W VA VB) {w' : World} {v' : Value} {s : Sp} (ho : w'.ownsRow B TS 2 v' (VB.length + 1) (VB.flatMap Sp.cells ++ s.cells)) (hg : w.grownBy w' vb.ownBlock) (hm : Moved w vb v') :
    LSt TS TG TH TF B nh ng nf a b n fa w0 (w'.setCell ⟨ng, 11, none⟩ v') vw va v' W VA (VB ++ [s]) := by
  refine ⟨h.lh, h.lg, h.lf, h.ne, h.b0, by simpa using Nat.le_trans h.hB hg.size, (h.hist.grownLt h.lh h.ob hg).other (Ne.symm h.ne.1) _, ((h.gau.grownLt h.lg h.ob hg).set 11 v').cast rfl, (h.fl.grownLt h.lf h.ob hg).other (Ne.symm h.ne.2.2) _,
    owns_setLt h.lg (h.ap.2.1.symm.keep h.ow hg), owns_setLt h.lg (h.ap.2.2.symm.keep h.oa hg), owns_setLt h.lg ?_, ⟨h.ap.1, (h.ap.2.1.symm.moved hm h.ow).symm, (h.ap.2.2.symm.moved hm h.oa).symm⟩, (Kept.grown h.kept h.ob h.low hg).setCell h.b0.2 _⟩
  rw [flat_put, List.length_append]
  exact ho
end
theorem gv_of (x : Option Addr) : ∃ va : Option (Nat × Nat × Option Nat), (va.map fun p => (⟨p.1, p.2.1, p.2.2⟩ : Addr)) = x := by
  cases x with
  | none => exact ⟨none, rfl⟩
  | some x => obtain ⟨b, o, c⟩ := x; exact ⟨some (b, o, c), rfl⟩
/-- the history that lies there -/
theorem LSt.histAt {TS TG TH TF : TypeId} {B nh ng nf : Nat} {a b : Air} {n k g : Int} {w0 w : World} {vw va vb : Value} {W VA VB : List Sp} (h : LSt TS TG TH TF B nh ng nf a b n #[.int .i64 n, .int .i64 k, .int .i64 g] w0 w vw va vb W VA VB) :
    ∃ (H : Hist) (s : Spot), HistAt H s w ∧ vw = .slice s.aw H.warm.length s.cw ∧ s.ag = some ⟨ng, 0, none⟩ ∧ s.cg = 2 ∧ s.af = some ⟨nf, 0, none⟩ ∧ s.cf = 1 ∧ H.warm = W ∧ H.gauges.length = 2 ∧ (tt H 0 = 0 ∧ (gAt H 0).air = a ∧ (gAt H 0).vols = VA) ∧ (tt H 1 = n ∧ (gAt H 1).air = b ∧ (gAt H 1).vols = VB) ∧ H.flows = [⟨n, k, g⟩] := by
  obtain ⟨aw, cw, rfl, rw_, lw, mw⟩ := Row.of_owns (enc := Sp.cells) (fun _ => rfl) h.ow
  obtain ⟨aa, ca, rfl, ra, la, ma⟩ := Row.of_owns (enc := Sp.cells) (fun _ => rfl) h.oa
  obtain ⟨ab, cb, rfl, rb, lb, mb⟩ := Row.of_owns (enc := Sp.cells) (fun _ => rfl) h.ob
  obtain ⟨xa, hxa⟩ := gv_of aa
  obtain ⟨xb, hxb⟩ := gv_of ab
  refine ⟨⟨W, [⟨0, a, xa, ca, VA⟩, ⟨n, b, xb, cb, VB⟩], [⟨n, k, g⟩]⟩, ⟨aw, some ⟨ng, 0, none⟩, some ⟨nf, 0, none⟩, cw, 2, 1⟩, ⟨rw_, Row.block (fun _ => rfl) h.gau ?_, Row.block (fun _ => rfl) h.fl rfl, ?_, lw, Nat.le_refl _, Nat.le_refl _, mw, by simp [maxLen], by simp [maxLen], ?_⟩, rfl, rfl, rfl, rfl, rfl, rfl, rfl, ⟨rfl, rfl, rfl⟩, ⟨rfl, rfl, rfl⟩, rfl⟩
  · simp [gauV, Gauge.cells, gv, hxa, hxb]
  · intro q hq
    simp only [List.mem_cons, List.not_mem_nil, or_false] at hq
    rcases hq with rfl | rfl
    · simp only [gv, hxa]; exact ra
    · simp only [gv, hxb]; exact rb
  · intro q hq
    simp only [List.mem_cons, List.not_mem_nil, or_false] at hq
    rcases hq with rfl | rfl
    · exact ⟨la, ma⟩
    · exact ⟨lb, mb⟩
end Bal.Gas

/-
  Blocks that an append leaves alone, and appends to a history of two gauges. No program in sight.
-/
namespace Bal.Gas
open Go Go.RowKit Bal Bal.Trim
set_option linter.unusedVariables false
/-- no row of these three lies in block n -/
def Off (n : Nat) (u v x : Value) : Prop := u.ownBlock ≠ some n ∧ v.ownBlock ≠ some n ∧ x.ownBlock ≠ some n
theorem off_moved {w : World} {v v' : Value} {n : Nat} (h : v.ownBlock ≠ some n) (hm : Moved w v v') (hn : n < w.heap.size) : v'.ownBlock ≠ some n := by
  rcases hm with h1 | h1
  · rw [h1]; exact h
  · intro he
    have := h1 n he
    omega
theorem blk_off {w w' : World} {b : Nat} {arr : Array Value} {t : TypeId} {v : Value} (h : Blk w b arr t) (hn : v.ownBlock ≠ some b) (hg : w.grownBy w' v.ownBlock) : Blk w' b arr t := by
  have hl := h.lt
  unfold Blk at *
  rw [hg.block b hl fun he => hn he.symm]
  exact h
theorem own_lt {w : World} {base k m n : Nat} {e : TypeId} {v : Value} {xs : List Value} (h : w.ownsRow base e k v m xs) (hn : w.heap.size ≤ n) : v.ownBlock ≠ some n := fun he => by
  have := (h.lt n he).2
  omega
theorem moved_le {w w1 : World} {v v' : Value} (h : Moved w1 v v') (hs : w.heap.size ≤ w1.heap.size) : Moved w v v' := by
  rcases h with h1 | h1
  · exact .inl h1
  · exact .inr fun k hk => Nat.le_trans hs (h1 k hk)
theorem LSt.off {TS TG TH TF : TypeId} {B nh ng nf : Nat} {a b : Air} {n : Int} {fa : Array Value} {w0 w : World} {vw va vb : Value} {W VA VB : List Sp} (h : LSt TS TG TH TF B nh ng nf a b n fa w0 w vw va vb W VA VB) {i : Nat} (hi : w.heap.size ≤ i) : Off i vw va vb :=
  ⟨own_lt h.ow hi, own_lt h.oa hi, own_lt h.ob hi⟩
theorem intsG_get {l : List Int} {k : Nat} (h : k < l.length) : (ints l)[k]? = some (.int .i64 l[k]) := by simp [ints, h]
theorem intsG_put (l : List Int) (k : Nat) (v : Int) : (ints l).setIfInBounds k (.int .i64 v) = ints (l.set k v) := by simp [ints, List.map_set]
end Bal.Gas

/-
  TopGauged by segments: the appends.
-/
namespace Go.Proofs.Ytnfhcpnpjkefmaa
open Go.RowKit Bal Bal.Trim Bal.Gas Bal.Wx
set_option linter.unusedVariables false
set_option linter.unusedSimpArgs false
set_option maxHeartbeats 8000000
set_option maxRecDepth 100000

theorem infoSpX : (Try.prog.info? 29).map (fun i => (i.zero, i.size, i.bytes)) = some (some (.agg #[.int .i64 0, .int .i64 0]), 2, 16) := by kernel_rfl
theorem tg_28 {s0 s1 s2 s3 s4 s5 s6 s7 s8 s9 s10 s11 s12 s13 s14 s15 s16 s17 s18 s19 s20 s21 s22 s23 s24 s25 s26 s28 s30 s31 s32 s33 s34 s35 s36 s37 s38 s39 s40 s41 s42 s43 s44 s45 s46 s47 s48 s49 s50 s51 s52 s53 s54 s55 s56 s57 s58 s59 s60 s61 s62 s63 s64 s65 s66 s67 s68 s69 s70 s71 s72 s73 s74 s75 s76 s77 s78 s79 s80 s81 s82 s83 s84 s85 s86 s87 s88 s89 s90 s91 s92 s93 s94 s95 s96 s97 s98 s99 s100 s101 s102 s103 s104 s105 s106 s107 s108 s109 s110 s111 s112 s113 s114 s115 s116 s117 s118 s119 s120 s121 s122 s123 s124 s125 s126 s127 s128 s129 s130 s131 s132 s133 s134 s135 s136 s137 s138 s139 s140 s141 s142 s143 s144 s145 s146 s147 s148 s149 s150 s151 s152 s153 s154 s155 s156 s157 s158 s159 s160 s161 s162 s163 s164 s165 s166 s167 s168 s169 s170 s171 s172 s173 s174 s175 s176 s177 s178 s179 s180 s181 s182 s183 s184 s185 s186 s187 s188 s189 s190 s191 s192 s193 s194 s195 s196 s197 s198 s199 s200 s201 s202 s203 s204 s205 s206 s207 s208 s209 s210 s211 s212 s213 s214 s215 s216 s217 s218 s219 s220 s221 s222 s223 s224 s225 s226 s227 s228 s229 s230 s231 s232 s233 s234 s235 s236 s237 s238 s239 s240 s241 s242 s243 s244 s245 s246 s247 s248 s249 s250 s251 s252 s253 s254 s255 s256 s257 s258 s259 s260 s261 s262 s263 s264 s265 s266 s267 s268 s269 s270 s271 s272 s273 s274 s275 s276 s277 s278 s279 s280 s281 s282 s283 s284 s285 s286 s287 s288 s289 s290 s291 s292 s293 s294 s295 s296 s297 s298 s299 s300 s301 s302 s303 s304 s305 s306 s307 s308 s309 s310 s311 s312 s313 s314 s315 s316 s317 s318 s319 s320 s321 s322 s323 s324 s325 s326 s327 s328 s329 s330 s331 s332 s333 s334 s335 s336 s337 s338 s339 s340 s341 s342 s343 s344 s345 s346 s347 s348 s349 s350 : Value} {nc nh ng nf B : Nat} {a b : Air} {n : Int} {fa : Array Value} {w0 : World} {vw va vb : Value} {W VA VB : List Sp} {c : Cell} {w9 : World} (C : Code) (hC : (Try.f3.body.bind fun c => regOf c 28) = some C) (Q : Exit → Act → World → Prop) (h : LSt 29 46 52 49 B nh ng nf a b n fa w0 w9 (vw) (va) (vb) (W) (VA) (VB)) (bc : Blk w9 nc #[.int .i64 c.room, .int .i64 c.helium, .int .i64 c.air, .int .i64 c.wlo, .int .i64 c.whi, .int .i64 c.leak, .int .i64 c.owed] 54) (hl : W.length ≤ 12)
    (hK : ∀ (v' : Value) (u179 u180 u181 u182 u183 u184 u185 : Value) (wc : World), (LSt 29 46 52 49 B nh ng nf a b n fa w0 wc (v') (va) (vb) (W ++ [⟨c.wlo, c.whi⟩]) (VA) (VB) ∧ Moved w9 vw v' ∧ (∀ i arr t, i ≠ nh → vw.ownBlock ≠ some i → Blk w9 i arr t → Blk wc i arr t) ∧ w9.heap.size ≤ wc.heap.size) → Q .normal ⟨#[s0, s1, s2, s3, s4, s5, s6, s7, s8, s9, s10, s11, s12, s13, s14, s15, s16, s17, s18, s19, s20, s21, s22, s23, s24, s25, s26, .pointer (some ⟨nh, 0, none⟩), s28, .pointer (some ⟨nc, 0, none⟩), s30, s31, s32, s33, s34, s35, s36, s37, s38, s39, s40, s41, s42, s43, s44, s45, s46, s47, s48, s49, s50, s51, s52, s53, s54, s55, s56, s57, s58, s59, s60, s61, s62, s63, s64, s65, s66, s67, s68, s69, s70, s71, s72, s73, s74, s75, s76, s77, s78, s79, s80, s81, s82, s83, s84, s85, s86, s87, s88, s89, s90, s91, s92, s93, s94, s95, s96, s97, s98, s99, s100, s101, s102, s103, s104, s105, s106, s107, s108, s109, s110, s111, s112, s113, s114, s115, s116, s117, s118, s119, s120, s121, s122, s123, s124, s125, s126, s127, s128, s129, s130, s131, s132, s133, s134, s135, s136, s137, s138, s139, s140, s141, s142, s143, s144, s145, s146, s147, s148, s149, s150, s151, s152, s153, s154, s155, s156, s157, s158, s159, s160, s161, s162, s163, s164, s165, s166, s167, s168, s169, s170, s171, s172, s173, s174, s175, s176, s177, s178, u179, u180, u181, u182, u183, u184, u185, s186, s187, s188, s189, s190, s191, s192, s193, s194, s195, s196, s197, s198, s199, s200, s201, s202, s203, s204, s205, s206, s207, s208, s209, s210, s211, s212, s213, s214, s215, s216, s217, s218, s219, s220, s221, s222, s223, s224, s225, s226, s227, s228, s229, s230, s231, s232, s233, s234, s235, s236, s237, s238, s239, s240, s241, s242, s243, s244, s245, s246, s247, s248, s249, s250, s251, s252, s253, s254, s255, s256, s257, s258, s259, s260, s261, s262, s263, s264, s265, s266, s267, s268, s269, s270, s271, s272, s273, s274, s275, s276, s277, s278, s279, s280, s281, s282, s283, s284, s285, s286, s287, s288, s289, s290, s291, s292, s293, s294, s295, s296, s297, s298, s299, s300, s301, s302, s303, s304, s305, s306, s307, s308, s309, s310, s311, s312, s313, s314, s315, s316, s317, s318, s319, s320, s321, s322, s323, s324, s325, s326, s327, s328, s329, s330, s331, s332, s333, s334, s335, s336, s337, s338, s339, s340, s341, s342, s343, s344, s345, s346, s347, s348, s349, s350], []⟩ wc) : C.wp Try.prog Q ⟨#[s0, s1, s2, s3, s4, s5, s6, s7, s8, s9, s10, s11, s12, s13, s14, s15, s16, s17, s18, s19, s20, s21, s22, s23, s24, s25, s26, .pointer (some ⟨nh, 0, none⟩), s28, .pointer (some ⟨nc, 0, none⟩), s30, s31, s32, s33, s34, s35, s36, s37, s38, s39, s40, s41, s42, s43, s44, s45, s46, s47, s48, s49, s50, s51, s52, s53, s54, s55, s56, s57, s58, s59, s60, s61, s62, s63, s64, s65, s66, s67, s68, s69, s70, s71, s72, s73, s74, s75, s76, s77, s78, s79, s80, s81, s82, s83, s84, s85, s86, s87, s88, s89, s90, s91, s92, s93, s94, s95, s96, s97, s98, s99, s100, s101, s102, s103, s104, s105, s106, s107, s108, s109, s110, s111, s112, s113, s114, s115, s116, s117, s118, s119, s120, s121, s122, s123, s124, s125, s126, s127, s128, s129, s130, s131, s132, s133, s134, s135, s136, s137, s138, s139, s140, s141, s142, s143, s144, s145, s146, s147, s148, s149, s150, s151, s152, s153, s154, s155, s156, s157, s158, s159, s160, s161, s162, s163, s164, s165, s166, s167, s168, s169, s170, s171, s172, s173, s174, s175, s176, s177, s178, s179, s180, s181, s182, s183, s184, s185, s186, s187, s188, s189, s190, s191, s192, s193, s194, s195, s196, s197, s198, s199, s200, s201, s202, s203, s204, s205, s206, s207, s208, s209, s210, s211, s212, s213, s214, s215, s216, s217, s218, s219, s220, s221, s222, s223, s224, s225, s226, s227, s228, s229, s230, s231, s232, s233, s234, s235, s236, s237, s238, s239, s240, s241, s242, s243, s244, s245, s246, s247, s248, s249, s250, s251, s252, s253, s254, s255, s256, s257, s258, s259, s260, s261, s262, s263, s264, s265, s266, s267, s268, s269, s270, s271, s272, s273, s274, s275, s276, s277, s278, s279, s280, s281, s282, s283, s284, s285, s286, s287, s288, s289, s290, s291, s292, s293, s294, s295, s296, s297, s298, s299, s300, s301, s302, s303, s304, s305, s306, s307, s308, s309, s310, s311, s312, s313, s314, s315, s316, s317, s318, s319, s320, s321, s322, s323, s324, s325, s326, s327, s328, s329, s330, s331, s332, s333, s334, s335, s336, s337, s338, s339, s340, s341, s342, s343, s344, s345, s346, s347, s348, s349, s350], []⟩ w9 := by
  have e0 : (Try.f3.body.bind fun c => regOf c 28) = some (.region 28 _ _) := rfl
  rw [e0] at hC
  cases hC
  clear e0
  try dsimp only at hK ⊢
  have HK := Lib.hid hK
  clear hK
  obtain ⟨ad_, cp_, rfl⟩ := owns_shapeW h.ow
  have bh0 := h.hist
  unfold hisV at bh0
  have bh0c0 := bh0.cell 0
  have bh0f0 := bh0.free 0
  have bh0c1 := bh0.cell 1
  have bh0f1 := bh0.free 1
  have bh0c2 := bh0.cell 2
  have bh0f2 := bh0.free 2
  have bh0l := bh0.lt
  simp at bh0c0 bh0c1 bh0c2
  have bcc0 := bc.cell 0
  have bcf0 := bc.free 0
  have bcc1 := bc.cell 1
  have bcf1 := bc.free 1
  have bcc2 := bc.cell 2
  have bcf2 := bc.free 2
  have bcc3 := bc.cell 3
  have bcf3 := bc.free 3
  have bcc4 := bc.cell 4
  have bcf4 := bc.free 4
  have bcc5 := bc.cell 5
  have bcf5 := bc.free 5
  have bcc6 := bc.cell 6
  have bcf6 := bc.free 6
  have bcl := bc.lt
  simp at bcc0 bcc1 bcc2 bcc3 bcc4 bcc5 bcc6
  go_wp2_with (at_builtin; (obtain ⟨i0, hi, hz0, hz1, hz2⟩ := info_partsW infoSpX; refine wpList_append_where _ rfl _ _ 44 rfl B 29 i0 (.agg #[.int .i64 0, .int .i64 0]) 2 16 Try.underlying44 hi hz0 hz1 hz2 rfl (by decide) _ _ _ rfl (owns_keep h.ow (by exact kpta)) ⟨_, 0, none⟩ 1 1 (by decide) [.int .i64 c.wlo, .int .i64 c.whi] rfl rfl (cells_atW (by simp) _ _) (fun x hx => by simp at hx; rcases hx with rfl | rfl <;> rfl) (by unfold maxLen; omega) (by omega) (by have := h.hB; simp; omega) ?_; intro v9 w8 hown9 hgrow9 hmv9; clear hi hz0 hz1 hz2; obtain ⟨ad9, cp9, rfl⟩ := owns_shapeW hown9; have bh := (h.hist.keep (show Kept w9 _ by exact kpta)).grownLt h.lh (owns_keep h.ow (show Kept w9 _ by exact kpta)) hgrow9; unfold hisV at bh; have bhc0 := bh.cell 0; have bhf0 := bh.free 0; have bhc1 := bh.cell 1; have bhf1 := bh.free 1; have bhc2 := bh.cell 2; have bhf2 := bh.free 2; have bhl := bh.lt; simp at bhc0 bhc1 bhc2))
  have hk1 : Kept w9 (w9.alloc (Obj.cells #[.int .i64 c.wlo, .int .i64 c.whi] 29)) := by exact kpta
  have hg : (w9.alloc (Obj.cells #[.int .i64 c.wlo, .int .i64 c.whi] 29)).grownBy w8 (Value.slice ad_ W.length cp_).ownBlock := hgrow9
  have hm : Moved (w9.alloc (Obj.cells #[.int .i64 c.wlo, .int .i64 c.whi] 29)) (.slice ad_ W.length cp_) (.slice ad9 (W.length + 1) cp9) := hmv9
  have hs : w9.heap.size ≤ w8.heap.size := Nat.le_trans hk1.size hg.size
  all_goals exact HK.out _ _ _ _ _ _ _ _ _ ⟨(h.keep hk1).appW hown9 hg hm, moved_le hm hk1.size, (fun i arr t hne ho hb => (blk_off (hb.keep hk1) ho hg).other (Ne.symm hne) _), by simpa using hs⟩
  
theorem tg_29 {s0 s1 s2 s3 s4 s5 s6 s7 s8 s9 s10 s11 s12 s13 s14 s15 s16 s17 s18 s19 s20 s21 s22 s23 s24 s25 s26 s28 s29 s31 s32 s33 s34 s35 s36 s37 s38 s39 s40 s41 s42 s43 s44 s45 s46 s47 s48 s49 s50 s51 s52 s53 s54 s55 s56 s57 s58 s59 s60 s61 s62 s63 s64 s65 s66 s67 s68 s69 s70 s71 s72 s73 s74 s75 s76 s77 s78 s79 s80 s81 s82 s83 s84 s85 s86 s87 s88 s89 s90 s91 s92 s93 s94 s95 s96 s97 s98 s99 s100 s101 s102 s103 s104 s105 s106 s107 s108 s109 s110 s111 s112 s113 s114 s115 s116 s117 s118 s119 s120 s121 s122 s123 s124 s125 s126 s127 s128 s129 s130 s131 s132 s133 s134 s135 s136 s137 s138 s139 s140 s141 s142 s143 s144 s145 s146 s147 s148 s149 s150 s151 s152 s153 s154 s155 s156 s157 s158 s159 s160 s161 s162 s163 s164 s165 s166 s167 s168 s169 s170 s171 s172 s173 s174 s175 s176 s177 s178 s179 s180 s181 s182 s183 s184 s185 s186 s187 s188 s189 s190 s191 s192 s193 s194 s195 s196 s197 s198 s199 s200 s201 s202 s203 s204 s205 s206 s207 s208 s209 s210 s211 s212 s213 s214 s215 s216 s217 s218 s219 s220 s221 s222 s223 s224 s225 s226 s227 s228 s229 s230 s231 s232 s233 s234 s235 s236 s237 s238 s239 s240 s241 s242 s243 s244 s245 s246 s247 s248 s249 s250 s251 s252 s253 s254 s255 s256 s257 s258 s259 s260 s261 s262 s263 s264 s265 s266 s267 s268 s269 s270 s271 s272 s273 s274 s275 s276 s277 s278 s279 s280 s281 s282 s283 s284 s285 s286 s287 s288 s289 s290 s291 s292 s293 s294 s295 s296 s297 s298 s299 s300 s301 s302 s303 s304 s305 s306 s307 s308 s309 s310 s311 s312 s313 s314 s315 s316 s317 s318 s319 s320 s321 s322 s323 s324 s325 s326 s327 s328 s329 s330 s331 s332 s333 s334 s335 s336 s337 s338 s339 s340 s341 s342 s343 s344 s345 s346 s347 s348 s349 s350 : Value} {nc nh ng nf B : Nat} {a b : Air} {n : Int} {fa : Array Value} {w0 : World} {vw va vb : Value} {W VA VB : List Sp} {s : Sp} {w9 : World} (C : Code) (hC : (Try.f3.body.bind fun c => regOf c 29) = some C) (Q : Exit → Act → World → Prop) (hQ : ∀ c a d v w, Q (.panic c) (Act.put a d v) w → Q (.panic c) a w) (h : LSt 29 46 52 49 B nh ng nf a b n fa w0 w9 (vw) (va) (vb) (W) (VA) (VB)) (bc : Blk w9 nc #[.int .i64 s.lo, .int .i64 s.hi] 29) (hl : VA.length ≤ 12) (ho : va.ownBlock ≠ some nc)
    (hK : ∀ (v' : Value) (u186 u187 u188 u189 u190 u191 u192 u193 u194 u195 u196 u197 : Value) (wc : World), (LSt 29 46 52 49 B nh ng nf a b n fa w0 wc (vw) (v') (vb) (W) (VA ++ [s]) (VB) ∧ Moved w9 va v' ∧ (∀ i arr t, i ≠ ng → va.ownBlock ≠ some i → Blk w9 i arr t → Blk wc i arr t) ∧ w9.heap.size ≤ wc.heap.size) → Q .normal ⟨#[s0, s1, s2, s3, s4, s5, s6, s7, s8, s9, s10, s11, s12, s13, s14, s15, s16, s17, s18, s19, s20, s21, s22, s23, s24, s25, s26, .pointer (some ⟨nh, 0, none⟩), s28, s29, .pointer (some ⟨nc, 0, none⟩), s31, s32, s33, s34, s35, s36, s37, s38, s39, s40, s41, s42, s43, s44, s45, s46, s47, s48, s49, s50, s51, s52, s53, s54, s55, s56, s57, s58, s59, s60, s61, s62, s63, s64, s65, s66, s67, s68, s69, s70, s71, s72, s73, s74, s75, s76, s77, s78, s79, s80, s81, s82, s83, s84, s85, s86, s87, s88, s89, s90, s91, s92, s93, s94, s95, s96, s97, s98, s99, s100, s101, s102, s103, s104, s105, s106, s107, s108, s109, s110, s111, s112, s113, s114, s115, s116, s117, s118, s119, s120, s121, s122, s123, s124, s125, s126, s127, s128, s129, s130, s131, s132, s133, s134, s135, s136, s137, s138, s139, s140, s141, s142, s143, s144, s145, s146, s147, s148, s149, s150, s151, s152, s153, s154, s155, s156, s157, s158, s159, s160, s161, s162, s163, s164, s165, s166, s167, s168, s169, s170, s171, s172, s173, s174, s175, s176, s177, s178, s179, s180, s181, s182, s183, s184, s185, u186, u187, u188, u189, u190, u191, u192, u193, u194, u195, u196, u197, s198, s199, s200, s201, s202, s203, s204, s205, s206, s207, s208, s209, s210, s211, s212, s213, s214, s215, s216, s217, s218, s219, s220, s221, s222, s223, s224, s225, s226, s227, s228, s229, s230, s231, s232, s233, s234, s235, s236, s237, s238, s239, s240, s241, s242, s243, s244, s245, s246, s247, s248, s249, s250, s251, s252, s253, s254, s255, s256, s257, s258, s259, s260, s261, s262, s263, s264, s265, s266, s267, s268, s269, s270, s271, s272, s273, s274, s275, s276, s277, s278, s279, s280, s281, s282, s283, s284, s285, s286, s287, s288, s289, s290, s291, s292, s293, s294, s295, s296, s297, s298, s299, s300, s301, s302, s303, s304, s305, s306, s307, s308, s309, s310, s311, s312, s313, s314, s315, s316, s317, s318, s319, s320, s321, s322, s323, s324, s325, s326, s327, s328, s329, s330, s331, s332, s333, s334, s335, s336, s337, s338, s339, s340, s341, s342, s343, s344, s345, s346, s347, s348, s349, s350], []⟩ wc) : C.wp Try.prog Q ⟨#[s0, s1, s2, s3, s4, s5, s6, s7, s8, s9, s10, s11, s12, s13, s14, s15, s16, s17, s18, s19, s20, s21, s22, s23, s24, s25, s26, .pointer (some ⟨nh, 0, none⟩), s28, s29, .pointer (some ⟨nc, 0, none⟩), s31, s32, s33, s34, s35, s36, s37, s38, s39, s40, s41, s42, s43, s44, s45, s46, s47, s48, s49, s50, s51, s52, s53, s54, s55, s56, s57, s58, s59, s60, s61, s62, s63, s64, s65, s66, s67, s68, s69, s70, s71, s72, s73, s74, s75, s76, s77, s78, s79, s80, s81, s82, s83, s84, s85, s86, s87, s88, s89, s90, s91, s92, s93, s94, s95, s96, s97, s98, s99, s100, s101, s102, s103, s104, s105, s106, s107, s108, s109, s110, s111, s112, s113, s114, s115, s116, s117, s118, s119, s120, s121, s122, s123, s124, s125, s126, s127, s128, s129, s130, s131, s132, s133, s134, s135, s136, s137, s138, s139, s140, s141, s142, s143, s144, s145, s146, s147, s148, s149, s150, s151, s152, s153, s154, s155, s156, s157, s158, s159, s160, s161, s162, s163, s164, s165, s166, s167, s168, s169, s170, s171, s172, s173, s174, s175, s176, s177, s178, s179, s180, s181, s182, s183, s184, s185, s186, s187, s188, s189, s190, s191, s192, s193, s194, s195, s196, s197, s198, s199, s200, s201, s202, s203, s204, s205, s206, s207, s208, s209, s210, s211, s212, s213, s214, s215, s216, s217, s218, s219, s220, s221, s222, s223, s224, s225, s226, s227, s228, s229, s230, s231, s232, s233, s234, s235, s236, s237, s238, s239, s240, s241, s242, s243, s244, s245, s246, s247, s248, s249, s250, s251, s252, s253, s254, s255, s256, s257, s258, s259, s260, s261, s262, s263, s264, s265, s266, s267, s268, s269, s270, s271, s272, s273, s274, s275, s276, s277, s278, s279, s280, s281, s282, s283, s284, s285, s286, s287, s288, s289, s290, s291, s292, s293, s294, s295, s296, s297, s298, s299, s300, s301, s302, s303, s304, s305, s306, s307, s308, s309, s310, s311, s312, s313, s314, s315, s316, s317, s318, s319, s320, s321, s322, s323, s324, s325, s326, s327, s328, s329, s330, s331, s332, s333, s334, s335, s336, s337, s338, s339, s340, s341, s342, s343, s344, s345, s346, s347, s348, s349, s350], []⟩ w9 := by
  have e0 : (Try.f3.body.bind fun c => regOf c 29) = some (.region 29 _ _) := rfl
  rw [e0] at hC
  cases hC
  clear e0
  try dsimp only at hK ⊢
  have HK := Lib.hid hK
  clear hK
  obtain ⟨ad_, cp_, rfl⟩ := owns_shapeW h.oa
  have bh0 : Blk w9 nh #[vw, .slice (some ⟨ng, 0, none⟩) 2 2, .slice (some ⟨nf, 0, none⟩) 1 1] 52 := h.hist
  have bg0 : Blk w9 ng #[.int .i64 0, .int .i64 a.plo, .int .i64 a.phi, .int .i64 a.tlo, .int .i64 a.thi, .slice ad_ VA.length cp_, .int .i64 n, .int .i64 b.plo, .int .i64 b.phi, .int .i64 b.tlo, .int .i64 b.thi, vb] 46 := h.gau
  have hB_ := h.hB
  refine held_walk (fun w' => Blk w' nh #[vw, .slice (some ⟨ng, 0, none⟩) 2 2, .slice (some ⟨nf, 0, none⟩) 1 1] 52 ∧ Blk w' ng #[.int .i64 0, .int .i64 a.plo, .int .i64 a.phi, .int .i64 a.tlo, .int .i64 a.thi, .slice ad_ VA.length cp_, .int .i64 n, .int .i64 b.plo, .int .i64 b.phi, .int .i64 b.tlo, .int .i64 b.thi, vb] 46 ∧ Blk w' nc #[.int .i64 s.lo, .int .i64 s.hi] 29) [(true, 0), (true, 1), (true, 2), (true, 3), (true, 4), (true, 5), (true, 6), (true, 7), (false, 8), (false, 9), (true, 10), (true, 11), (false, 12)] 12 (by kernel_rfl) (by kernel_rfl) hQ ⟨bh0.drew, bg0.drew, bc.drew⟩ ?_
  simp only [List.filterMap_cons, List.filterMap_nil, List.getElem?_cons_zero, List.getElem?_cons_succ, Option.map_some]
  iterate 8 ((first | (refine held_take ?_ ?_ (fun w' hS => ?_) ?_; rotate_left 1; (focus rfl); (focus (first | (go_simp; done) | (go_simp; with_reducible rfl) | (obtain hS := hS; obtain ⟨S1, S2, S3⟩ := hS; have S1c0 := S1.cell 0; have S1f0 := S1.free 0; have S1c1 := S1.cell 1; have S1f1 := S1.free 1; have S1c2 := S1.cell 2; have S1f2 := S1.free 2; have S1l := S1.lt; simp at S1c0 S1c1 S1c2; have S2c0 := S2.cell 0; have S2f0 := S2.free 0; have S2c1 := S2.cell 1; have S2f1 := S2.free 1; have S2c2 := S2.cell 2; have S2f2 := S2.free 2; have S2c3 := S2.cell 3; have S2f3 := S2.free 3; have S2c4 := S2.cell 4; have S2f4 := S2.free 4; have S2c5 := S2.cell 5; have S2f5 := S2.free 5; have S2c6 := S2.cell 6; have S2f6 := S2.free 6; have S2c7 := S2.cell 7; have S2f7 := S2.free 7; have S2c8 := S2.cell 8; have S2f8 := S2.free 8; have S2c9 := S2.cell 9; have S2f9 := S2.free 9; have S2c10 := S2.cell 10; have S2f10 := S2.free 10; have S2c11 := S2.cell 11; have S2f11 := S2.free 11; have S2l := S2.lt; simp at S2c0 S2c1 S2c2 S2c3 S2c4 S2c5 S2c6 S2c7 S2c8 S2c9 S2c10 S2c11; have S3c0 := S3.cell 0; have S3f0 := S3.free 0; have S3c1 := S3.cell 1; have S3f1 := S3.free 1; have S3l := S3.lt; simp at S3c0 S3c1; first | (go_simp; done) | (go_simp; with_reducible rfl))))) | (refine held_pass ?_ ?_; (focus rfl))); simp only [Act.put, List.setIfInBounds_toArray, List.set_cons_zero, List.set_cons_succ])
  refine held_one ?_
  refine wpList_plain rfl fun K1 hK1 => ?_
  go_wp2
  refine held_on ⟨bh0.drew.alloc _, bg0.drew.alloc _, bc.drew.alloc _⟩ ?_
  refine held_one ?_
  go_wp2_with (at_builtin; (obtain ⟨i0, hi, hz0, hz1, hz2⟩ := info_partsW infoSpX; refine wpList_append_where _ rfl _ _ 44 rfl B 29 i0 (.agg #[.int .i64 0, .int .i64 0]) 2 16 Try.underlying44 hi hz0 hz1 hz2 rfl (by decide) _ _ _ rfl (owns_keep h.oa (by exact kpta)) ⟨_, 0, none⟩ 1 1 (by decide) [.int .i64 s.lo, .int .i64 s.hi] rfl rfl (cells_atW (by simp) _ _) (fun x hx => by simp at hx; rcases hx with rfl | rfl <;> rfl) (by unfold maxLen; omega) (by omega) (by have := h.hB; simp; omega) ?_; intro v9 w8 hown9 hgrow9 hmv9; clear hi hz0 hz1 hz2; obtain ⟨ad9, cp9, rfl⟩ := owns_shapeW hown9; have m1 := Blk.grownLt (bh0.drew.alloc _) h.lh (owns_keep h.oa (by exact kpta)) hgrow9; have m2 := Blk.grownLt (bg0.drew.alloc _) h.lg (owns_keep h.oa (by exact kpta)) hgrow9; have m3 := blk_off (bc.drew.alloc _) ho hgrow9; have m2c0 := m2.cell 0; have m2f0 := m2.free 0; have m2c1 := m2.cell 1; have m2f1 := m2.free 1; have m2c2 := m2.cell 2; have m2f2 := m2.free 2; have m2c3 := m2.cell 3; have m2f3 := m2.free 3; have m2c4 := m2.cell 4; have m2f4 := m2.free 4; have m2c5 := m2.cell 5; have m2f5 := m2.free 5; have m2c6 := m2.cell 6; have m2f6 := m2.free 6; have m2c7 := m2.cell 7; have m2f7 := m2.free 7; have m2c8 := m2.cell 8; have m2f8 := m2.free 8; have m2c9 := m2.cell 9; have m2f9 := m2.free 9; have m2c10 := m2.cell 10; have m2f10 := m2.free 10; have m2c11 := m2.cell 11; have m2f11 := m2.free 11; have m2l := m2.lt; simp at m2c0 m2c1 m2c2 m2c3 m2c4 m2c5 m2c6 m2c7 m2c8 m2c9 m2c10 m2c11))
  first | refine held_on ⟨m1, m2, m3⟩ ?_ | (refine onward_on ?_; refine ⟨⟨m1, m2, m3⟩, ?_⟩)
  iterate 2 ((first | (refine held_take ?_ ?_ (fun w' hS => ?_) ?_; rotate_left 1; (focus rfl); (focus (first | (go_simp; done) | (go_simp; with_reducible rfl) | (obtain hS := hS; obtain ⟨S1, S2, S3⟩ := hS; have S1c0 := S1.cell 0; have S1f0 := S1.free 0; have S1c1 := S1.cell 1; have S1f1 := S1.free 1; have S1c2 := S1.cell 2; have S1f2 := S1.free 2; have S1l := S1.lt; simp at S1c0 S1c1 S1c2; have S2c0 := S2.cell 0; have S2f0 := S2.free 0; have S2c1 := S2.cell 1; have S2f1 := S2.free 1; have S2c2 := S2.cell 2; have S2f2 := S2.free 2; have S2c3 := S2.cell 3; have S2f3 := S2.free 3; have S2c4 := S2.cell 4; have S2f4 := S2.free 4; have S2c5 := S2.cell 5; have S2f5 := S2.free 5; have S2c6 := S2.cell 6; have S2f6 := S2.free 6; have S2c7 := S2.cell 7; have S2f7 := S2.free 7; have S2c8 := S2.cell 8; have S2f8 := S2.free 8; have S2c9 := S2.cell 9; have S2f9 := S2.free 9; have S2c10 := S2.cell 10; have S2f10 := S2.free 10; have S2c11 := S2.cell 11; have S2f11 := S2.free 11; have S2l := S2.lt; simp at S2c0 S2c1 S2c2 S2c3 S2c4 S2c5 S2c6 S2c7 S2c8 S2c9 S2c10 S2c11; have S3c0 := S3.cell 0; have S3f0 := S3.free 0; have S3c1 := S3.cell 1; have S3f1 := S3.free 1; have S3l := S3.lt; simp at S3c0 S3c1; first | (go_simp; done) | (go_simp; with_reducible rfl))))) | (refine held_pass ?_ ?_; (focus rfl))); simp only [Act.put, List.setIfInBounds_toArray, List.set_cons_zero, List.set_cons_succ])
  refine held_one ?_
  refine wpList_plain rfl fun K1 hK1 => ?_
  go_wp2
  (first | refine held_end ?_ | (refine onward_on ?_; first | refine held_nil ?_ | refine ⟨.inl trivial, held_nil ?_⟩ | refine ⟨.inl rfl, held_nil ?_⟩))
  have hk1 : Kept w9 (w9.drew.alloc (Obj.cells #[.int .i64 s.lo, .int .i64 s.hi] 29)) := by exact kpta
  have hg : (w9.drew.alloc (Obj.cells #[.int .i64 s.lo, .int .i64 s.hi] 29)).grownBy w8 (Value.slice ad_ VA.length cp_).ownBlock := hgrow9
  have hm : Moved (w9.drew.alloc (Obj.cells #[.int .i64 s.lo, .int .i64 s.hi] 29)) (.slice ad_ VA.length cp_) (.slice ad9 (VA.length + 1) cp9) := hmv9
  have hs : w9.heap.size ≤ w8.heap.size := Nat.le_trans hk1.size hg.size
  all_goals exact HK.out _ _ _ _ _ _ _ _ _ _ _ _ _ _ ⟨(h.keep hk1).appA hown9 hg hm, moved_le hm hk1.size, (fun i arr t hne ho hb => (blk_off (hb.keep hk1) ho hg).other (Ne.symm hne) _), by simpa using hs⟩
  
theorem tg_30 {s0 s1 s2 s3 s4 s5 s6 s7 s8 s9 s10 s11 s12 s13 s14 s15 s16 s17 s18 s19 s20 s21 s22 s23 s24 s25 s26 s28 s29 s30 s31 s33 s34 s35 s36 s37 s38 s39 s40 s41 s42 s43 s44 s45 s46 s47 s48 s49 s50 s51 s52 s53 s54 s55 s56 s57 s58 s59 s60 s61 s62 s63 s64 s65 s66 s67 s68 s69 s70 s71 s72 s73 s74 s75 s76 s77 s78 s79 s80 s81 s82 s83 s84 s85 s86 s87 s88 s89 s90 s91 s92 s93 s94 s95 s96 s97 s98 s99 s100 s101 s102 s103 s104 s105 s106 s107 s108 s109 s110 s111 s112 s113 s114 s115 s116 s117 s118 s119 s120 s121 s122 s123 s124 s125 s126 s127 s128 s129 s130 s131 s132 s133 s134 s135 s136 s137 s138 s139 s140 s141 s142 s143 s144 s145 s146 s147 s148 s149 s150 s151 s152 s153 s154 s155 s156 s157 s158 s159 s160 s161 s162 s163 s164 s165 s166 s167 s168 s169 s170 s171 s172 s173 s174 s175 s176 s177 s178 s179 s180 s181 s182 s183 s184 s185 s186 s187 s188 s189 s190 s191 s192 s193 s194 s195 s196 s197 s198 s199 s200 s201 s202 s203 s204 s205 s206 s207 s208 s209 s210 s211 s212 s213 s214 s215 s216 s217 s218 s219 s220 s221 s222 s223 s224 s225 s226 s227 s228 s229 s230 s231 s232 s233 s234 s235 s236 s237 s238 s239 s240 s241 s242 s243 s244 s245 s246 s247 s248 s249 s250 s251 s252 s253 s254 s255 s256 s257 s258 s259 s260 s261 s262 s263 s264 s265 s266 s267 s268 s269 s270 s271 s272 s273 s274 s275 s276 s277 s278 s279 s280 s281 s282 s283 s284 s285 s286 s287 s288 s289 s290 s291 s292 s293 s294 s295 s296 s297 s298 s299 s300 s301 s302 s303 s304 s305 s306 s307 s308 s309 s310 s311 s312 s313 s314 s315 s316 s317 s318 s319 s320 s321 s322 s323 s324 s325 s326 s327 s328 s329 s330 s331 s332 s333 s334 s335 s336 s337 s338 s339 s340 s341 s342 s343 s344 s345 s346 s347 s348 s349 s350 : Value} {nc nh ng nf B : Nat} {a b : Air} {n : Int} {fa : Array Value} {w0 : World} {vw va vb : Value} {W VA VB : List Sp} {s : Sp} {w9 : World} (C : Code) (hC : (Try.f3.body.bind fun c => regOf c 30) = some C) (Q : Exit → Act → World → Prop) (hQ : ∀ c a d v w, Q (.panic c) (Act.put a d v) w → Q (.panic c) a w) (h : LSt 29 46 52 49 B nh ng nf a b n fa w0 w9 (vw) (va) (vb) (W) (VA) (VB)) (bc : Blk w9 nc #[.int .i64 s.lo, .int .i64 s.hi] 29) (hl : VB.length ≤ 12) (ho : vb.ownBlock ≠ some nc)
    (hK : ∀ (v' : Value) (u198 u199 u200 u201 u202 u203 u204 u205 u206 u207 u208 u209 : Value) (wc : World), (LSt 29 46 52 49 B nh ng nf a b n fa w0 wc (vw) (va) (v') (W) (VA) (VB ++ [s]) ∧ Moved w9 vb v' ∧ (∀ i arr t, i ≠ ng → vb.ownBlock ≠ some i → Blk w9 i arr t → Blk wc i arr t) ∧ w9.heap.size ≤ wc.heap.size) → Q .normal ⟨#[s0, s1, s2, s3, s4, s5, s6, s7, s8, s9, s10, s11, s12, s13, s14, s15, s16, s17, s18, s19, s20, s21, s22, s23, s24, s25, s26, .pointer (some ⟨nh, 0, none⟩), s28, s29, s30, s31, .pointer (some ⟨nc, 0, none⟩), s33, s34, s35, s36, s37, s38, s39, s40, s41, s42, s43, s44, s45, s46, s47, s48, s49, s50, s51, s52, s53, s54, s55, s56, s57, s58, s59, s60, s61, s62, s63, s64, s65, s66, s67, s68, s69, s70, s71, s72, s73, s74, s75, s76, s77, s78, s79, s80, s81, s82, s83, s84, s85, s86, s87, s88, s89, s90, s91, s92, s93, s94, s95, s96, s97, s98, s99, s100, s101, s102, s103, s104, s105, s106, s107, s108, s109, s110, s111, s112, s113, s114, s115, s116, s117, s118, s119, s120, s121, s122, s123, s124, s125, s126, s127, s128, s129, s130, s131, s132, s133, s134, s135, s136, s137, s138, s139, s140, s141, s142, s143, s144, s145, s146, s147, s148, s149, s150, s151, s152, s153, s154, s155, s156, s157, s158, s159, s160, s161, s162, s163, s164, s165, s166, s167, s168, s169, s170, s171, s172, s173, s174, s175, s176, s177, s178, s179, s180, s181, s182, s183, s184, s185, s186, s187, s188, s189, s190, s191, s192, s193, s194, s195, s196, s197, u198, u199, u200, u201, u202, u203, u204, u205, u206, u207, u208, u209, s210, s211, s212, s213, s214, s215, s216, s217, s218, s219, s220, s221, s222, s223, s224, s225, s226, s227, s228, s229, s230, s231, s232, s233, s234, s235, s236, s237, s238, s239, s240, s241, s242, s243, s244, s245, s246, s247, s248, s249, s250, s251, s252, s253, s254, s255, s256, s257, s258, s259, s260, s261, s262, s263, s264, s265, s266, s267, s268, s269, s270, s271, s272, s273, s274, s275, s276, s277, s278, s279, s280, s281, s282, s283, s284, s285, s286, s287, s288, s289, s290, s291, s292, s293, s294, s295, s296, s297, s298, s299, s300, s301, s302, s303, s304, s305, s306, s307, s308, s309, s310, s311, s312, s313, s314, s315, s316, s317, s318, s319, s320, s321, s322, s323, s324, s325, s326, s327, s328, s329, s330, s331, s332, s333, s334, s335, s336, s337, s338, s339, s340, s341, s342, s343, s344, s345, s346, s347, s348, s349, s350], []⟩ wc) : C.wp Try.prog Q ⟨#[s0, s1, s2, s3, s4, s5, s6, s7, s8, s9, s10, s11, s12, s13, s14, s15, s16, s17, s18, s19, s20, s21, s22, s23, s24, s25, s26, .pointer (some ⟨nh, 0, none⟩), s28, s29, s30, s31, .pointer (some ⟨nc, 0, none⟩), s33, s34, s35, s36, s37, s38, s39, s40, s41, s42, s43, s44, s45, s46, s47, s48, s49, s50, s51, s52, s53, s54, s55, s56, s57, s58, s59, s60, s61, s62, s63, s64, s65, s66, s67, s68, s69, s70, s71, s72, s73, s74, s75, s76, s77, s78, s79, s80, s81, s82, s83, s84, s85, s86, s87, s88, s89, s90, s91, s92, s93, s94, s95, s96, s97, s98, s99, s100, s101, s102, s103, s104, s105, s106, s107, s108, s109, s110, s111, s112, s113, s114, s115, s116, s117, s118, s119, s120, s121, s122, s123, s124, s125, s126, s127, s128, s129, s130, s131, s132, s133, s134, s135, s136, s137, s138, s139, s140, s141, s142, s143, s144, s145, s146, s147, s148, s149, s150, s151, s152, s153, s154, s155, s156, s157, s158, s159, s160, s161, s162, s163, s164, s165, s166, s167, s168, s169, s170, s171, s172, s173, s174, s175, s176, s177, s178, s179, s180, s181, s182, s183, s184, s185, s186, s187, s188, s189, s190, s191, s192, s193, s194, s195, s196, s197, s198, s199, s200, s201, s202, s203, s204, s205, s206, s207, s208, s209, s210, s211, s212, s213, s214, s215, s216, s217, s218, s219, s220, s221, s222, s223, s224, s225, s226, s227, s228, s229, s230, s231, s232, s233, s234, s235, s236, s237, s238, s239, s240, s241, s242, s243, s244, s245, s246, s247, s248, s249, s250, s251, s252, s253, s254, s255, s256, s257, s258, s259, s260, s261, s262, s263, s264, s265, s266, s267, s268, s269, s270, s271, s272, s273, s274, s275, s276, s277, s278, s279, s280, s281, s282, s283, s284, s285, s286, s287, s288, s289, s290, s291, s292, s293, s294, s295, s296, s297, s298, s299, s300, s301, s302, s303, s304, s305, s306, s307, s308, s309, s310, s311, s312, s313, s314, s315, s316, s317, s318, s319, s320, s321, s322, s323, s324, s325, s326, s327, s328, s329, s330, s331, s332, s333, s334, s335, s336, s337, s338, s339, s340, s341, s342, s343, s344, s345, s346, s347, s348, s349, s350], []⟩ w9 := by
  have e0 : (Try.f3.body.bind fun c => regOf c 30) = some (.region 30 _ _) := rfl
  rw [e0] at hC
  cases hC
  clear e0
  try dsimp only at hK ⊢
  have HK := Lib.hid hK
  clear hK
  obtain ⟨ad_, cp_, rfl⟩ := owns_shapeW h.ob
  have bh0 : Blk w9 nh #[vw, .slice (some ⟨ng, 0, none⟩) 2 2, .slice (some ⟨nf, 0, none⟩) 1 1] 52 := h.hist
  have bg0 : Blk w9 ng #[.int .i64 0, .int .i64 a.plo, .int .i64 a.phi, .int .i64 a.tlo, .int .i64 a.thi, va, .int .i64 n, .int .i64 b.plo, .int .i64 b.phi, .int .i64 b.tlo, .int .i64 b.thi, .slice ad_ VB.length cp_] 46 := h.gau
  have hB_ := h.hB
  refine held_walk (fun w' => Blk w' nh #[vw, .slice (some ⟨ng, 0, none⟩) 2 2, .slice (some ⟨nf, 0, none⟩) 1 1] 52 ∧ Blk w' ng #[.int .i64 0, .int .i64 a.plo, .int .i64 a.phi, .int .i64 a.tlo, .int .i64 a.thi, va, .int .i64 n, .int .i64 b.plo, .int .i64 b.phi, .int .i64 b.tlo, .int .i64 b.thi, .slice ad_ VB.length cp_] 46 ∧ Blk w' nc #[.int .i64 s.lo, .int .i64 s.hi] 29) [(true, 0), (true, 1), (true, 2), (true, 3), (true, 4), (true, 5), (true, 6), (true, 7), (false, 8), (false, 9), (true, 10), (true, 11), (false, 12)] 12 (by kernel_rfl) (by kernel_rfl) hQ ⟨bh0.drew, bg0.drew, bc.drew⟩ ?_
  simp only [List.filterMap_cons, List.filterMap_nil, List.getElem?_cons_zero, List.getElem?_cons_succ, Option.map_some]
  iterate 8 ((first | (refine held_take ?_ ?_ (fun w' hS => ?_) ?_; rotate_left 1; (focus rfl); (focus (first | (go_simp; done) | (go_simp; with_reducible rfl) | (obtain hS := hS; obtain ⟨S1, S2, S3⟩ := hS; have S1c0 := S1.cell 0; have S1f0 := S1.free 0; have S1c1 := S1.cell 1; have S1f1 := S1.free 1; have S1c2 := S1.cell 2; have S1f2 := S1.free 2; have S1l := S1.lt; simp at S1c0 S1c1 S1c2; have S2c0 := S2.cell 0; have S2f0 := S2.free 0; have S2c1 := S2.cell 1; have S2f1 := S2.free 1; have S2c2 := S2.cell 2; have S2f2 := S2.free 2; have S2c3 := S2.cell 3; have S2f3 := S2.free 3; have S2c4 := S2.cell 4; have S2f4 := S2.free 4; have S2c5 := S2.cell 5; have S2f5 := S2.free 5; have S2c6 := S2.cell 6; have S2f6 := S2.free 6; have S2c7 := S2.cell 7; have S2f7 := S2.free 7; have S2c8 := S2.cell 8; have S2f8 := S2.free 8; have S2c9 := S2.cell 9; have S2f9 := S2.free 9; have S2c10 := S2.cell 10; have S2f10 := S2.free 10; have S2c11 := S2.cell 11; have S2f11 := S2.free 11; have S2l := S2.lt; simp at S2c0 S2c1 S2c2 S2c3 S2c4 S2c5 S2c6 S2c7 S2c8 S2c9 S2c10 S2c11; have S3c0 := S3.cell 0; have S3f0 := S3.free 0; have S3c1 := S3.cell 1; have S3f1 := S3.free 1; have S3l := S3.lt; simp at S3c0 S3c1; first | (go_simp; done) | (go_simp; with_reducible rfl))))) | (refine held_pass ?_ ?_; (focus rfl))); simp only [Act.put, List.setIfInBounds_toArray, List.set_cons_zero, List.set_cons_succ])
  refine held_one ?_
  refine wpList_plain rfl fun K1 hK1 => ?_
  go_wp2
  refine held_on ⟨bh0.drew.alloc _, bg0.drew.alloc _, bc.drew.alloc _⟩ ?_
  refine held_one ?_
  go_wp2_with (at_builtin; (obtain ⟨i0, hi, hz0, hz1, hz2⟩ := info_partsW infoSpX; refine wpList_append_where _ rfl _ _ 44 rfl B 29 i0 (.agg #[.int .i64 0, .int .i64 0]) 2 16 Try.underlying44 hi hz0 hz1 hz2 rfl (by decide) _ _ _ rfl (owns_keep h.ob (by exact kpta)) ⟨_, 0, none⟩ 1 1 (by decide) [.int .i64 s.lo, .int .i64 s.hi] rfl rfl (cells_atW (by simp) _ _) (fun x hx => by simp at hx; rcases hx with rfl | rfl <;> rfl) (by unfold maxLen; omega) (by omega) (by have := h.hB; simp; omega) ?_; intro v9 w8 hown9 hgrow9 hmv9; clear hi hz0 hz1 hz2; obtain ⟨ad9, cp9, rfl⟩ := owns_shapeW hown9; have m1 := Blk.grownLt (bh0.drew.alloc _) h.lh (owns_keep h.ob (by exact kpta)) hgrow9; have m2 := Blk.grownLt (bg0.drew.alloc _) h.lg (owns_keep h.ob (by exact kpta)) hgrow9; have m3 := blk_off (bc.drew.alloc _) ho hgrow9; have m2c0 := m2.cell 0; have m2f0 := m2.free 0; have m2c1 := m2.cell 1; have m2f1 := m2.free 1; have m2c2 := m2.cell 2; have m2f2 := m2.free 2; have m2c3 := m2.cell 3; have m2f3 := m2.free 3; have m2c4 := m2.cell 4; have m2f4 := m2.free 4; have m2c5 := m2.cell 5; have m2f5 := m2.free 5; have m2c6 := m2.cell 6; have m2f6 := m2.free 6; have m2c7 := m2.cell 7; have m2f7 := m2.free 7; have m2c8 := m2.cell 8; have m2f8 := m2.free 8; have m2c9 := m2.cell 9; have m2f9 := m2.free 9; have m2c10 := m2.cell 10; have m2f10 := m2.free 10; have m2c11 := m2.cell 11; have m2f11 := m2.free 11; have m2l := m2.lt; simp at m2c0 m2c1 m2c2 m2c3 m2c4 m2c5 m2c6 m2c7 m2c8 m2c9 m2c10 m2c11))
  first | refine held_on ⟨m1, m2, m3⟩ ?_ | (refine onward_on ?_; refine ⟨⟨m1, m2, m3⟩, ?_⟩)
  iterate 2 ((first | (refine held_take ?_ ?_ (fun w' hS => ?_) ?_; rotate_left 1; (focus rfl); (focus (first | (go_simp; done) | (go_simp; with_reducible rfl) | (obtain hS := hS; obtain ⟨S1, S2, S3⟩ := hS; have S1c0 := S1.cell 0; have S1f0 := S1.free 0; have S1c1 := S1.cell 1; have S1f1 := S1.free 1; have S1c2 := S1.cell 2; have S1f2 := S1.free 2; have S1l := S1.lt; simp at S1c0 S1c1 S1c2; have S2c0 := S2.cell 0; have S2f0 := S2.free 0; have S2c1 := S2.cell 1; have S2f1 := S2.free 1; have S2c2 := S2.cell 2; have S2f2 := S2.free 2; have S2c3 := S2.cell 3; have S2f3 := S2.free 3; have S2c4 := S2.cell 4; have S2f4 := S2.free 4; have S2c5 := S2.cell 5; have S2f5 := S2.free 5; have S2c6 := S2.cell 6; have S2f6 := S2.free 6; have S2c7 := S2.cell 7; have S2f7 := S2.free 7; have S2c8 := S2.cell 8; have S2f8 := S2.free 8; have S2c9 := S2.cell 9; have S2f9 := S2.free 9; have S2c10 := S2.cell 10; have S2f10 := S2.free 10; have S2c11 := S2.cell 11; have S2f11 := S2.free 11; have S2l := S2.lt; simp at S2c0 S2c1 S2c2 S2c3 S2c4 S2c5 S2c6 S2c7 S2c8 S2c9 S2c10 S2c11; have S3c0 := S3.cell 0; have S3f0 := S3.free 0; have S3c1 := S3.cell 1; have S3f1 := S3.free 1; have S3l := S3.lt; simp at S3c0 S3c1; first | (go_simp; done) | (go_simp; with_reducible rfl))))) | (refine held_pass ?_ ?_; (focus rfl))); simp only [Act.put, List.setIfInBounds_toArray, List.set_cons_zero, List.set_cons_succ])
  refine held_one ?_
  refine wpList_plain rfl fun K1 hK1 => ?_
  go_wp2
  (first | refine held_end ?_ | (refine onward_on ?_; first | refine held_nil ?_ | refine ⟨.inl trivial, held_nil ?_⟩ | refine ⟨.inl rfl, held_nil ?_⟩))
  have hk1 : Kept w9 (w9.drew.alloc (Obj.cells #[.int .i64 s.lo, .int .i64 s.hi] 29)) := by exact kpta
  have hg : (w9.drew.alloc (Obj.cells #[.int .i64 s.lo, .int .i64 s.hi] 29)).grownBy w8 (Value.slice ad_ VB.length cp_).ownBlock := hgrow9
  have hm : Moved (w9.drew.alloc (Obj.cells #[.int .i64 s.lo, .int .i64 s.hi] 29)) (.slice ad_ VB.length cp_) (.slice ad9 (VB.length + 1) cp9) := hmv9
  have hs : w9.heap.size ≤ w8.heap.size := Nat.le_trans hk1.size hg.size
  all_goals exact HK.out _ _ _ _ _ _ _ _ _ _ _ _ _ _ ⟨(h.keep hk1).appB hown9 hg hm, moved_le hm hk1.size, (fun i arr t hne ho hb => (blk_off (hb.keep hk1) ho hg).other (Ne.symm hne) _), by simpa using hs⟩
  
end Go.Proofs.Ytnfhcpnpjkefmaa

/-
  TopGauged by segments: small regions of the loops.
-/
namespace Go.Proofs.Ytnfhcpnpjkefmaa
open Go.RowKit Bal Bal.Trim Bal.Gas Bal.Wx
set_option linter.unusedVariables false
set_option linter.unusedSimpArgs false
set_option maxHeartbeats 8000000
set_option maxRecDepth 100000

theorem infoI9 : (Try.prog.info? 3).map (fun i => (i.zero, i.size, i.bytes)) = some (some (.int .i64 0), 1, 8) := by kernel_rfl
theorem run_makeI (s : Nat) (hs : s ≤ 1000) (w : World) : (Instr.makeSlice 59 (.int .i64 s) (.int .i64 s)).run Try.prog w = .ok (.slice (some ⟨w.heap.size, 0, none⟩) s s) (w.alloc (.cells (ints (List.replicate s 0)) 3)) := by
  obtain ⟨i0, hi, hz0, hz1, hz2⟩ := info_partsW infoI9
  have := run_make (P := Try.prog) w 59 3 i0 (.int .i64 0) Try.underlying59 hi hz0 .i64 .i64 s s (by omega) (Int.le_refl _) (by rw [hz2]; omega) (by omega)
  rw [this]
  have hm : madeCells (Value.cells (.int .i64 0)) ((s : Int).toNat * i0.size) = ints (List.replicate s 0) := by
    rw [hz1]
    apply Array.ext
    · simp [madeCells, ints]
    · intro i h1 h2
      simp [madeCells, ints, Value.cells, Nat.mod_one]
  rw [hm]
  simp

theorem tg_21 {s0 s1 s2 s3 s4 s5 s6 s7 s8 s9 s10 s11 s12 s13 s14 s15 s16 s17 s18 s19 s20 s21 s22 s23 s24 s25 s26 s27 s28 s29 s30 s31 s32 s33 s34 s35 s36 s37 s38 s39 s40 s41 s42 s43 s44 s45 s46 s47 s48 s49 s50 s51 s52 s53 s54 s55 s56 s57 s58 s59 s60 s61 s62 s63 s64 s65 s66 s67 s68 s69 s70 s71 s72 s73 s74 s75 s76 s77 s78 s79 s80 s81 s82 s83 s84 s85 s86 s87 s88 s89 s90 s91 s92 s93 s94 s95 s96 s97 s98 s99 s100 s101 s102 s103 s104 s105 s106 s107 s108 s109 s110 s111 s112 s113 s114 s115 s116 s117 s118 s119 s120 s121 s122 s123 s124 s125 s126 s127 s128 s129 s130 s131 s132 s133 s134 s135 s136 s137 s138 s139 s140 s142 s144 s145 s146 s147 s148 s149 s150 s151 s152 s153 s154 s155 s156 s157 s158 s159 s160 s161 s162 s163 s164 s165 s166 s167 s168 s169 s170 s171 s172 s173 s174 s175 s176 s177 s178 s179 s180 s181 s182 s183 s184 s185 s186 s187 s188 s189 s190 s191 s192 s193 s194 s195 s196 s197 s198 s199 s200 s201 s202 s203 s204 s205 s206 s207 s208 s209 s210 s211 s212 s213 s214 s215 s216 s217 s218 s219 s220 s221 s222 s223 s224 s225 s226 s227 s228 s229 s230 s231 s232 s233 s234 s235 s236 s237 s238 s239 s240 s241 s242 s243 s244 s245 s246 s247 s248 s249 s250 s251 s252 s253 s254 s255 s256 s257 s258 s259 s260 s261 s262 s263 s264 s265 s266 s267 s268 s269 s270 s271 s272 s273 s274 s275 s276 s277 s278 s279 s280 s281 s282 s283 s284 s285 s286 s287 s288 s289 s290 s291 s292 s293 s294 s295 s296 s297 s298 s299 s300 s301 s302 s303 s304 s305 s306 s307 s308 s309 s310 s311 s312 s313 s314 s315 s316 s317 s318 s319 s320 s321 s322 s323 s324 s325 s326 s327 s328 s329 s330 s331 s332 s333 s334 s335 s336 s337 s338 s339 s340 s341 s342 s343 s344 s345 s346 s347 s348 s349 s350 : Value} {a : Option Addr} {cap k : Nat} {p : Plant} {w9 : World} (C : Code) (hC : (Try.f3.body.bind fun c => regOf c 21) = some C) (Q : Exit → Act → World → Prop) (hx : Row Cell.cells 7 w9.heap.size w9 a p.cells) (hi : k < p.cells.length)
    (hK : ∀ (nb : Nat) (u145 u146 u147 : Value) (wc : World), (Blk wc nb #[.int .i64 (cellAt p k).room, .int .i64 (cellAt p k).helium, .int .i64 (cellAt p k).air, .int .i64 (cellAt p k).wlo, .int .i64 (cellAt p k).whi, .int .i64 (cellAt p k).leak, .int .i64 (cellAt p k).owed] 54 ∧ w9.heap.size ≤ nb ∧ Kept w9 wc) → Q .normal ⟨#[s0, s1, s2, s3, s4, s5, s6, s7, s8, s9, s10, s11, s12, s13, s14, s15, s16, s17, s18, s19, s20, s21, s22, s23, s24, s25, s26, s27, .int .i64 ((k : Int)), .pointer (some ⟨nb, 0, none⟩), s30, s31, s32, s33, s34, s35, s36, s37, s38, s39, s40, s41, s42, s43, s44, s45, s46, s47, s48, s49, s50, s51, s52, s53, s54, s55, s56, s57, s58, s59, s60, s61, s62, s63, s64, s65, s66, s67, s68, s69, s70, s71, s72, s73, s74, s75, s76, s77, s78, s79, s80, s81, s82, s83, s84, s85, s86, s87, s88, s89, s90, s91, s92, s93, s94, s95, s96, s97, s98, s99, s100, s101, s102, s103, s104, s105, s106, s107, s108, s109, s110, s111, s112, s113, s114, s115, s116, s117, s118, s119, s120, s121, s122, s123, s124, s125, s126, s127, s128, s129, s130, s131, s132, s133, s134, s135, s136, s137, s138, s139, s140, .slice a p.cells.length cap, s142, .int .i64 ((k : Int)), s144, u145, u146, u147, s148, s149, s150, s151, s152, s153, s154, s155, s156, s157, s158, s159, s160, s161, s162, s163, s164, s165, s166, s167, s168, s169, s170, s171, s172, s173, s174, s175, s176, s177, s178, s179, s180, s181, s182, s183, s184, s185, s186, s187, s188, s189, s190, s191, s192, s193, s194, s195, s196, s197, s198, s199, s200, s201, s202, s203, s204, s205, s206, s207, s208, s209, s210, s211, s212, s213, s214, s215, s216, s217, s218, s219, s220, s221, s222, s223, s224, s225, s226, s227, s228, s229, s230, s231, s232, s233, s234, s235, s236, s237, s238, s239, s240, s241, s242, s243, s244, s245, s246, s247, s248, s249, s250, s251, s252, s253, s254, s255, s256, s257, s258, s259, s260, s261, s262, s263, s264, s265, s266, s267, s268, s269, s270, s271, s272, s273, s274, s275, s276, s277, s278, s279, s280, s281, s282, s283, s284, s285, s286, s287, s288, s289, s290, s291, s292, s293, s294, s295, s296, s297, s298, s299, s300, s301, s302, s303, s304, s305, s306, s307, s308, s309, s310, s311, s312, s313, s314, s315, s316, s317, s318, s319, s320, s321, s322, s323, s324, s325, s326, s327, s328, s329, s330, s331, s332, s333, s334, s335, s336, s337, s338, s339, s340, s341, s342, s343, s344, s345, s346, s347, s348, s349, s350], []⟩ wc) : C.wp Try.prog Q ⟨#[s0, s1, s2, s3, s4, s5, s6, s7, s8, s9, s10, s11, s12, s13, s14, s15, s16, s17, s18, s19, s20, s21, s22, s23, s24, s25, s26, s27, s28, s29, s30, s31, s32, s33, s34, s35, s36, s37, s38, s39, s40, s41, s42, s43, s44, s45, s46, s47, s48, s49, s50, s51, s52, s53, s54, s55, s56, s57, s58, s59, s60, s61, s62, s63, s64, s65, s66, s67, s68, s69, s70, s71, s72, s73, s74, s75, s76, s77, s78, s79, s80, s81, s82, s83, s84, s85, s86, s87, s88, s89, s90, s91, s92, s93, s94, s95, s96, s97, s98, s99, s100, s101, s102, s103, s104, s105, s106, s107, s108, s109, s110, s111, s112, s113, s114, s115, s116, s117, s118, s119, s120, s121, s122, s123, s124, s125, s126, s127, s128, s129, s130, s131, s132, s133, s134, s135, s136, s137, s138, s139, s140, .slice a p.cells.length cap, s142, .int .i64 ((k : Int)), s144, s145, s146, s147, s148, s149, s150, s151, s152, s153, s154, s155, s156, s157, s158, s159, s160, s161, s162, s163, s164, s165, s166, s167, s168, s169, s170, s171, s172, s173, s174, s175, s176, s177, s178, s179, s180, s181, s182, s183, s184, s185, s186, s187, s188, s189, s190, s191, s192, s193, s194, s195, s196, s197, s198, s199, s200, s201, s202, s203, s204, s205, s206, s207, s208, s209, s210, s211, s212, s213, s214, s215, s216, s217, s218, s219, s220, s221, s222, s223, s224, s225, s226, s227, s228, s229, s230, s231, s232, s233, s234, s235, s236, s237, s238, s239, s240, s241, s242, s243, s244, s245, s246, s247, s248, s249, s250, s251, s252, s253, s254, s255, s256, s257, s258, s259, s260, s261, s262, s263, s264, s265, s266, s267, s268, s269, s270, s271, s272, s273, s274, s275, s276, s277, s278, s279, s280, s281, s282, s283, s284, s285, s286, s287, s288, s289, s290, s291, s292, s293, s294, s295, s296, s297, s298, s299, s300, s301, s302, s303, s304, s305, s306, s307, s308, s309, s310, s311, s312, s313, s314, s315, s316, s317, s318, s319, s320, s321, s322, s323, s324, s325, s326, s327, s328, s329, s330, s331, s332, s333, s334, s335, s336, s337, s338, s339, s340, s341, s342, s343, s344, s345, s346, s347, s348, s349, s350], []⟩ w9 := by
  have e0 : (Try.f3.body.bind fun c => regOf c 21) = some (.region 21 _ _) := rfl
  rw [e0] at hC
  cases hC
  clear e0
  try dsimp only at hK ⊢
  have HK := Lib.hid hK
  clear hK
  have i0 : (0 : Int) ≤ (k : Int) := by omega
  have i1 : (k : Int) < (p.cells.length : Int) := by omega
  obtain ⟨b1, o1, rfl, hb1_, z0, z1, z2, z3, z4, z5, z6⟩ := Cell.row hx k hi
  rw [show p.cells[k] = cellAt p k by simp [cellAt, hi]] at z0 z1 z2 z3 z4 z5 z6
  generalize cellAt p k = c at z0 z1 z2 z3 z4 z5 z6 HK
  clear hx
  go_wp2
  all_goals exact HK.out _ _ _ _ _ ⟨by exact blkd, by (try simp); try omega, by exact kpta⟩
  
theorem tg_26 {s0 s1 s2 s3 s4 s5 s6 s7 s8 s9 s10 s11 s12 s13 s14 s15 s16 s17 s18 s19 s20 s21 s22 s23 s24 s25 s26 s27 s28 s29 s31 s33 s34 s35 s36 s37 s38 s39 s40 s41 s42 s43 s44 s45 s46 s47 s48 s49 s50 s51 s52 s53 s54 s55 s56 s57 s58 s59 s60 s61 s62 s63 s64 s65 s66 s67 s68 s69 s70 s71 s72 s73 s74 s75 s76 s77 s78 s79 s80 s81 s82 s83 s84 s85 s86 s87 s88 s89 s90 s91 s92 s93 s94 s95 s96 s97 s98 s99 s100 s101 s102 s103 s104 s105 s106 s107 s108 s109 s110 s111 s112 s113 s114 s115 s116 s117 s118 s119 s120 s121 s122 s123 s124 s125 s126 s127 s128 s129 s130 s131 s132 s133 s134 s135 s136 s137 s138 s139 s140 s141 s142 s143 s144 s145 s146 s147 s148 s149 s150 s151 s152 s153 s154 s155 s156 s157 s158 s159 s160 s161 s162 s163 s164 s165 s166 s167 s168 s169 s170 s171 s172 s173 s174 s175 s176 s177 s178 s179 s180 s181 s182 s183 s184 s185 s186 s187 s188 s189 s190 s191 s192 s193 s194 s195 s196 s197 s198 s199 s200 s201 s202 s203 s204 s205 s206 s207 s208 s209 s210 s211 s212 s213 s214 s215 s216 s217 s218 s219 s220 s221 s222 s223 s224 s225 s226 s227 s228 s229 s230 s231 s232 s233 s234 s235 s236 s237 s238 s239 s240 s241 s242 s243 s244 s245 s246 s247 s248 s249 s250 s251 s252 s253 s254 s255 s256 s257 s258 s259 s260 s261 s262 s263 s264 s265 s266 s267 s268 s269 s270 s271 s272 s273 s274 s275 s276 s277 s278 s279 s280 s281 s282 s283 s284 s285 s286 s287 s288 s289 s290 s291 s292 s293 s294 s295 s296 s297 s298 s299 s300 s301 s302 s303 s304 s305 s306 s307 s308 s309 s310 s311 s312 s313 s314 s315 s316 s317 s318 s319 s320 s321 s322 s323 s324 s325 s326 s327 s328 s329 s330 s331 s332 s333 s334 s335 s336 s337 s338 s339 s340 s341 s342 s343 s344 s345 s346 s347 s348 s349 s350 : Value} {na nb : Nat} {x0 x1 y0 y1 : Int} {w9 : World} (C : Code) (hC : (Try.f3.body.bind fun c => regOf c 26) = some C) (Q : Exit → Act → World → Prop) (ba : Blk w9 na #[.int .i64 x0, .int .i64 x1] 29) (bb : Blk w9 nb #[.int .i64 y0, .int .i64 y1] 29)
    (hK : ∀ (v : Bool) (u170 u171 u172 u173 u174 u175 u176 : Value) (wc : World), ((v = false → x1 ≤ 10000000 ∧ y1 ≤ 10000000) ∧ Kept w9 wc) → Q .normal ⟨#[s0, s1, s2, s3, s4, s5, s6, s7, s8, s9, s10, s11, s12, s13, s14, s15, s16, s17, s18, s19, s20, s21, s22, s23, s24, s25, s26, s27, s28, s29, .pointer (some ⟨na, 0, none⟩), s31, .pointer (some ⟨nb, 0, none⟩), s33, s34, s35, s36, s37, s38, s39, s40, s41, s42, s43, s44, s45, s46, s47, s48, s49, s50, s51, s52, s53, s54, s55, s56, s57, s58, s59, s60, s61, s62, s63, s64, s65, s66, s67, s68, s69, s70, s71, s72, s73, s74, s75, s76, s77, s78, s79, s80, s81, s82, s83, s84, s85, s86, s87, s88, s89, s90, s91, s92, s93, s94, s95, s96, s97, s98, s99, s100, s101, s102, s103, s104, s105, s106, s107, s108, s109, s110, s111, s112, s113, s114, s115, s116, s117, s118, s119, s120, s121, s122, s123, s124, s125, s126, s127, s128, s129, s130, s131, s132, s133, s134, s135, s136, s137, s138, s139, s140, s141, s142, s143, s144, s145, s146, s147, s148, s149, s150, s151, s152, s153, s154, s155, s156, s157, s158, s159, s160, s161, s162, s163, s164, s165, s166, s167, s168, s169, u170, u171, u172, u173, u174, u175, u176, .bool v, s178, s179, s180, s181, s182, s183, s184, s185, s186, s187, s188, s189, s190, s191, s192, s193, s194, s195, s196, s197, s198, s199, s200, s201, s202, s203, s204, s205, s206, s207, s208, s209, s210, s211, s212, s213, s214, s215, s216, s217, s218, s219, s220, s221, s222, s223, s224, s225, s226, s227, s228, s229, s230, s231, s232, s233, s234, s235, s236, s237, s238, s239, s240, s241, s242, s243, s244, s245, s246, s247, s248, s249, s250, s251, s252, s253, s254, s255, s256, s257, s258, s259, s260, s261, s262, s263, s264, s265, s266, s267, s268, s269, s270, s271, s272, s273, s274, s275, s276, s277, s278, s279, s280, s281, s282, s283, s284, s285, s286, s287, s288, s289, s290, s291, s292, s293, s294, s295, s296, s297, s298, s299, s300, s301, s302, s303, s304, s305, s306, s307, s308, s309, s310, s311, s312, s313, s314, s315, s316, s317, s318, s319, s320, s321, s322, s323, s324, s325, s326, s327, s328, s329, s330, s331, s332, s333, s334, s335, s336, s337, s338, s339, s340, s341, s342, s343, s344, s345, s346, s347, s348, s349, s350], []⟩ wc) : C.wp Try.prog Q ⟨#[s0, s1, s2, s3, s4, s5, s6, s7, s8, s9, s10, s11, s12, s13, s14, s15, s16, s17, s18, s19, s20, s21, s22, s23, s24, s25, s26, s27, s28, s29, .pointer (some ⟨na, 0, none⟩), s31, .pointer (some ⟨nb, 0, none⟩), s33, s34, s35, s36, s37, s38, s39, s40, s41, s42, s43, s44, s45, s46, s47, s48, s49, s50, s51, s52, s53, s54, s55, s56, s57, s58, s59, s60, s61, s62, s63, s64, s65, s66, s67, s68, s69, s70, s71, s72, s73, s74, s75, s76, s77, s78, s79, s80, s81, s82, s83, s84, s85, s86, s87, s88, s89, s90, s91, s92, s93, s94, s95, s96, s97, s98, s99, s100, s101, s102, s103, s104, s105, s106, s107, s108, s109, s110, s111, s112, s113, s114, s115, s116, s117, s118, s119, s120, s121, s122, s123, s124, s125, s126, s127, s128, s129, s130, s131, s132, s133, s134, s135, s136, s137, s138, s139, s140, s141, s142, s143, s144, s145, s146, s147, s148, s149, s150, s151, s152, s153, s154, s155, s156, s157, s158, s159, s160, s161, s162, s163, s164, s165, s166, s167, s168, s169, s170, s171, s172, s173, s174, s175, s176, s177, s178, s179, s180, s181, s182, s183, s184, s185, s186, s187, s188, s189, s190, s191, s192, s193, s194, s195, s196, s197, s198, s199, s200, s201, s202, s203, s204, s205, s206, s207, s208, s209, s210, s211, s212, s213, s214, s215, s216, s217, s218, s219, s220, s221, s222, s223, s224, s225, s226, s227, s228, s229, s230, s231, s232, s233, s234, s235, s236, s237, s238, s239, s240, s241, s242, s243, s244, s245, s246, s247, s248, s249, s250, s251, s252, s253, s254, s255, s256, s257, s258, s259, s260, s261, s262, s263, s264, s265, s266, s267, s268, s269, s270, s271, s272, s273, s274, s275, s276, s277, s278, s279, s280, s281, s282, s283, s284, s285, s286, s287, s288, s289, s290, s291, s292, s293, s294, s295, s296, s297, s298, s299, s300, s301, s302, s303, s304, s305, s306, s307, s308, s309, s310, s311, s312, s313, s314, s315, s316, s317, s318, s319, s320, s321, s322, s323, s324, s325, s326, s327, s328, s329, s330, s331, s332, s333, s334, s335, s336, s337, s338, s339, s340, s341, s342, s343, s344, s345, s346, s347, s348, s349, s350], []⟩ w9 := by
  have e0 : (Try.f3.body.bind fun c => regOf c 26) = some (.region 26 _ _) := rfl
  rw [e0] at hC
  cases hC
  clear e0
  try dsimp only at hK ⊢
  have HK := Lib.hid hK
  clear hK
  have bac0 := ba.cell 0
  have baf0 := ba.free 0
  have bac1 := ba.cell 1
  have baf1 := ba.free 1
  have bal := ba.lt
  simp at bac0 bac1
  have bbc0 := bb.cell 0
  have bbf0 := bb.free 0
  have bbc1 := bb.cell 1
  have bbf1 := bb.free 1
  have bbl := bb.lt
  simp at bbc0 bbc1
  by_cases h1 : 10000000 < y1
  · have d1 : decide ((10000000 : Int) < y1) = true := by simpa using h1
    clear h1
    go_wp2
    all_goals exact HK.out true _ _ _ _ _ _ _ _ ⟨(fun h => by cases h), by exact kpta⟩
  have d1 : decide ((10000000 : Int) < y1) = false := by simpa using h1
  have H1 := Lib.hid h1
  clear h1
  by_cases h2 : 10000000 < x1
  · have d2 : decide ((10000000 : Int) < x1) = true := by simpa using h2
    clear h2
    go_wp2
    all_goals exact HK.out true _ _ _ _ _ _ _ _ ⟨(fun h => by cases h), by exact kpta⟩
  have d2 : decide ((10000000 : Int) < x1) = false := by simpa using h2
  have H2 := Lib.hid h2
  clear h2
  go_wp2
  all_goals exact HK.out false _ _ _ _ _ _ _ _ ⟨fun _ => ⟨by have := H2.out; omega, by have := H1.out; omega⟩, by exact kpta⟩
  
theorem tg_37 {s0 s1 s2 s3 s4 s5 s6 s7 s8 s9 s10 s11 s12 s13 s14 s15 s16 s17 s18 s19 s20 s21 s22 s23 s24 s25 s26 s27 s28 s29 s30 s31 s32 s33 s35 s36 s37 s38 s39 s40 s41 s42 s43 s44 s45 s46 s47 s48 s49 s50 s51 s52 s53 s54 s55 s56 s57 s58 s59 s60 s61 s62 s63 s64 s65 s66 s67 s68 s69 s70 s71 s72 s73 s74 s75 s76 s77 s78 s79 s80 s81 s82 s83 s84 s85 s86 s87 s88 s89 s90 s91 s92 s93 s94 s95 s96 s97 s98 s99 s100 s101 s102 s103 s104 s105 s106 s107 s108 s109 s110 s111 s112 s113 s114 s115 s116 s117 s118 s119 s120 s121 s122 s123 s124 s125 s126 s127 s128 s129 s130 s131 s132 s133 s134 s135 s136 s137 s138 s139 s140 s141 s142 s143 s144 s145 s146 s147 s148 s149 s150 s151 s152 s153 s154 s155 s156 s157 s158 s159 s160 s161 s162 s163 s164 s165 s166 s167 s168 s169 s170 s171 s172 s173 s174 s175 s176 s177 s178 s179 s180 s181 s182 s183 s184 s185 s186 s187 s188 s189 s190 s191 s192 s193 s194 s195 s196 s197 s198 s199 s200 s201 s202 s203 s204 s205 s206 s207 s208 s209 s210 s211 s212 s213 s214 s215 s216 s217 s218 s219 s220 s221 s222 s223 s224 s225 s226 s227 s228 s229 s230 s231 s232 s233 s234 s235 s236 s237 s238 s239 s240 s241 s242 s243 s244 s245 s246 s247 s248 s249 s250 s251 s252 s253 s254 s255 s256 s257 s258 s259 s260 s261 s262 s263 s264 s265 s266 s267 s268 s269 s270 s271 s272 s273 s274 s275 s276 s277 s278 s279 s280 s281 s282 s283 s284 s285 s286 s287 s288 s289 s290 s291 s292 s293 s294 s295 s296 s297 s298 s299 s300 s301 s302 s303 s304 s305 s306 s307 s308 s309 s310 s311 s312 s313 s314 s315 s316 s317 s318 s319 s320 s321 s322 s323 s324 s325 s326 s327 s328 s329 s330 s331 s332 s333 s334 s335 s336 s337 s338 s339 s340 s341 s342 s343 s344 s345 s346 s347 s348 s349 s350 : Value} {al : Option Addr} {N cl : Nat} {w9 : World} (C : Code) (hC : (Try.f3.body.bind fun c => regOf c 37) = some C) (Q : Exit → Act → World → Prop) (hN : N ≤ 12)
    (hK : ∀ (nl : Nat) (u237 u238 u239 : Value) (wc : World), (Blk wc nl (ints (List.replicate N 0)) 3 ∧ w9.heap.size ≤ nl ∧ Kept w9 wc) → Q .normal ⟨#[s0, s1, s2, s3, s4, s5, s6, s7, s8, s9, s10, s11, s12, s13, s14, s15, s16, s17, s18, s19, s20, s21, s22, s23, s24, s25, s26, s27, s28, s29, s30, s31, s32, s33, .slice al N cl, s35, s36, .slice (some ⟨nl, 0, none⟩) N N, s38, s39, s40, s41, s42, s43, s44, s45, s46, s47, s48, s49, s50, s51, s52, s53, s54, s55, s56, s57, s58, s59, s60, s61, s62, s63, s64, s65, s66, s67, s68, s69, s70, s71, s72, s73, s74, s75, s76, s77, s78, s79, s80, s81, s82, s83, s84, s85, s86, s87, s88, s89, s90, s91, s92, s93, s94, s95, s96, s97, s98, s99, s100, s101, s102, s103, s104, s105, s106, s107, s108, s109, s110, s111, s112, s113, s114, s115, s116, s117, s118, s119, s120, s121, s122, s123, s124, s125, s126, s127, s128, s129, s130, s131, s132, s133, s134, s135, s136, s137, s138, s139, s140, s141, s142, s143, s144, s145, s146, s147, s148, s149, s150, s151, s152, s153, s154, s155, s156, s157, s158, s159, s160, s161, s162, s163, s164, s165, s166, s167, s168, s169, s170, s171, s172, s173, s174, s175, s176, s177, s178, s179, s180, s181, s182, s183, s184, s185, s186, s187, s188, s189, s190, s191, s192, s193, s194, s195, s196, s197, s198, s199, s200, s201, s202, s203, s204, s205, s206, s207, s208, s209, s210, s211, s212, s213, s214, s215, s216, s217, s218, s219, s220, s221, s222, s223, s224, s225, s226, s227, s228, s229, s230, s231, s232, s233, s234, s235, s236, u237, u238, u239, s240, s241, s242, s243, s244, s245, s246, s247, s248, s249, s250, s251, s252, s253, s254, s255, s256, s257, s258, s259, s260, s261, s262, s263, s264, s265, s266, s267, s268, s269, s270, s271, s272, s273, s274, s275, s276, s277, s278, s279, s280, s281, s282, s283, s284, s285, s286, s287, s288, s289, s290, s291, s292, s293, s294, s295, s296, s297, s298, s299, s300, s301, s302, s303, s304, s305, s306, s307, s308, s309, s310, s311, s312, s313, s314, s315, s316, s317, s318, s319, s320, s321, s322, s323, s324, s325, s326, s327, s328, s329, s330, s331, s332, s333, s334, s335, s336, s337, s338, s339, s340, s341, s342, s343, s344, s345, s346, s347, s348, s349, s350], []⟩ wc) : C.wp Try.prog Q ⟨#[s0, s1, s2, s3, s4, s5, s6, s7, s8, s9, s10, s11, s12, s13, s14, s15, s16, s17, s18, s19, s20, s21, s22, s23, s24, s25, s26, s27, s28, s29, s30, s31, s32, s33, .slice al N cl, s35, s36, s37, s38, s39, s40, s41, s42, s43, s44, s45, s46, s47, s48, s49, s50, s51, s52, s53, s54, s55, s56, s57, s58, s59, s60, s61, s62, s63, s64, s65, s66, s67, s68, s69, s70, s71, s72, s73, s74, s75, s76, s77, s78, s79, s80, s81, s82, s83, s84, s85, s86, s87, s88, s89, s90, s91, s92, s93, s94, s95, s96, s97, s98, s99, s100, s101, s102, s103, s104, s105, s106, s107, s108, s109, s110, s111, s112, s113, s114, s115, s116, s117, s118, s119, s120, s121, s122, s123, s124, s125, s126, s127, s128, s129, s130, s131, s132, s133, s134, s135, s136, s137, s138, s139, s140, s141, s142, s143, s144, s145, s146, s147, s148, s149, s150, s151, s152, s153, s154, s155, s156, s157, s158, s159, s160, s161, s162, s163, s164, s165, s166, s167, s168, s169, s170, s171, s172, s173, s174, s175, s176, s177, s178, s179, s180, s181, s182, s183, s184, s185, s186, s187, s188, s189, s190, s191, s192, s193, s194, s195, s196, s197, s198, s199, s200, s201, s202, s203, s204, s205, s206, s207, s208, s209, s210, s211, s212, s213, s214, s215, s216, s217, s218, s219, s220, s221, s222, s223, s224, s225, s226, s227, s228, s229, s230, s231, s232, s233, s234, s235, s236, s237, s238, s239, s240, s241, s242, s243, s244, s245, s246, s247, s248, s249, s250, s251, s252, s253, s254, s255, s256, s257, s258, s259, s260, s261, s262, s263, s264, s265, s266, s267, s268, s269, s270, s271, s272, s273, s274, s275, s276, s277, s278, s279, s280, s281, s282, s283, s284, s285, s286, s287, s288, s289, s290, s291, s292, s293, s294, s295, s296, s297, s298, s299, s300, s301, s302, s303, s304, s305, s306, s307, s308, s309, s310, s311, s312, s313, s314, s315, s316, s317, s318, s319, s320, s321, s322, s323, s324, s325, s326, s327, s328, s329, s330, s331, s332, s333, s334, s335, s336, s337, s338, s339, s340, s341, s342, s343, s344, s345, s346, s347, s348, s349, s350], []⟩ w9 := by
  have e0 : (Try.f3.body.bind fun c => regOf c 37) = some (.region 37 _ _) := rfl
  rw [e0] at hC
  cases hC
  clear e0
  try dsimp only at hK ⊢
  have HK := Lib.hid hK
  clear hK
  have HMK := run_makeI N (by omega)
  have n0 : (0 : Int) ≤ (N : Int) := by omega
  go_wp2
  all_goals exact HK.out _ _ _ _ _ ⟨by exact blkd, by (try simp); try omega, by exact kpta⟩
  
theorem tg_40 {s0 s1 s2 s3 s4 s5 s6 s7 s8 s9 s10 s11 s12 s13 s14 s15 s16 s17 s18 s19 s20 s21 s22 s23 s24 s25 s26 s27 s28 s29 s30 s31 s32 s33 s34 s35 s36 s37 s38 s39 s40 s41 s42 s43 s44 s45 s46 s47 s48 s49 s50 s51 s52 s53 s54 s55 s56 s57 s58 s59 s60 s61 s62 s63 s64 s65 s66 s67 s68 s69 s70 s71 s72 s73 s74 s75 s76 s77 s78 s79 s80 s81 s82 s83 s84 s85 s86 s87 s88 s89 s90 s91 s92 s93 s94 s95 s96 s97 s98 s99 s100 s101 s102 s103 s104 s105 s106 s107 s108 s109 s110 s111 s112 s113 s114 s115 s116 s117 s118 s119 s120 s121 s122 s123 s124 s125 s126 s127 s128 s129 s130 s131 s132 s133 s134 s135 s136 s137 s138 s139 s140 s141 s142 s143 s144 s145 s146 s147 s148 s149 s150 s151 s152 s153 s154 s155 s156 s157 s158 s159 s160 s161 s162 s163 s164 s165 s166 s167 s168 s169 s170 s171 s172 s173 s174 s175 s176 s177 s178 s179 s180 s181 s182 s183 s184 s185 s186 s187 s188 s189 s190 s191 s192 s193 s194 s195 s196 s197 s198 s199 s200 s201 s202 s203 s204 s205 s206 s207 s208 s209 s210 s211 s212 s213 s214 s215 s216 s217 s218 s219 s220 s221 s222 s223 s224 s225 s226 s227 s228 s229 s230 s231 s232 s233 s234 s235 s236 s237 s238 s239 s240 s242 s244 s245 s246 s247 s248 s249 s250 s251 s252 s253 s254 s255 s256 s257 s258 s259 s260 s261 s262 s263 s264 s265 s266 s267 s268 s269 s270 s271 s272 s273 s274 s275 s276 s277 s278 s279 s280 s281 s282 s283 s284 s285 s286 s287 s288 s289 s290 s291 s292 s293 s294 s295 s296 s297 s298 s299 s300 s301 s302 s303 s304 s305 s306 s307 s308 s309 s310 s311 s312 s313 s314 s315 s316 s317 s318 s319 s320 s321 s322 s323 s324 s325 s326 s327 s328 s329 s330 s331 s332 s333 s334 s335 s336 s337 s338 s339 s340 s341 s342 s343 s344 s345 s346 s347 s348 s349 s350 : Value} {a : Option Addr} {cap k : Nat} {p : Plant} {w9 : World} (C : Code) (hC : (Try.f3.body.bind fun c => regOf c 40) = some C) (Q : Exit → Act → World → Prop) (hx : Row Cell.cells 7 w9.heap.size w9 a p.cells) (hi : k < p.cells.length)
    (hK : ∀ (nb : Nat) (u245 u246 u247 : Value) (wc : World), (Blk wc nb #[.int .i64 (cellAt p k).room, .int .i64 (cellAt p k).helium, .int .i64 (cellAt p k).air, .int .i64 (cellAt p k).wlo, .int .i64 (cellAt p k).whi, .int .i64 (cellAt p k).leak, .int .i64 (cellAt p k).owed] 54 ∧ w9.heap.size ≤ nb ∧ Kept w9 wc) → Q .normal ⟨#[s0, s1, s2, s3, s4, s5, s6, s7, s8, s9, s10, s11, s12, s13, s14, s15, s16, s17, s18, s19, s20, s21, s22, s23, s24, s25, s26, s27, s28, s29, s30, s31, s32, s33, s34, s35, s36, s37, .int .i64 ((k : Int)), .pointer (some ⟨nb, 0, none⟩), s40, s41, s42, s43, s44, s45, s46, s47, s48, s49, s50, s51, s52, s53, s54, s55, s56, s57, s58, s59, s60, s61, s62, s63, s64, s65, s66, s67, s68, s69, s70, s71, s72, s73, s74, s75, s76, s77, s78, s79, s80, s81, s82, s83, s84, s85, s86, s87, s88, s89, s90, s91, s92, s93, s94, s95, s96, s97, s98, s99, s100, s101, s102, s103, s104, s105, s106, s107, s108, s109, s110, s111, s112, s113, s114, s115, s116, s117, s118, s119, s120, s121, s122, s123, s124, s125, s126, s127, s128, s129, s130, s131, s132, s133, s134, s135, s136, s137, s138, s139, s140, s141, s142, s143, s144, s145, s146, s147, s148, s149, s150, s151, s152, s153, s154, s155, s156, s157, s158, s159, s160, s161, s162, s163, s164, s165, s166, s167, s168, s169, s170, s171, s172, s173, s174, s175, s176, s177, s178, s179, s180, s181, s182, s183, s184, s185, s186, s187, s188, s189, s190, s191, s192, s193, s194, s195, s196, s197, s198, s199, s200, s201, s202, s203, s204, s205, s206, s207, s208, s209, s210, s211, s212, s213, s214, s215, s216, s217, s218, s219, s220, s221, s222, s223, s224, s225, s226, s227, s228, s229, s230, s231, s232, s233, s234, s235, s236, s237, s238, s239, s240, .slice a p.cells.length cap, s242, .int .i64 ((k : Int)), s244, u245, u246, u247, s248, s249, s250, s251, s252, s253, s254, s255, s256, s257, s258, s259, s260, s261, s262, s263, s264, s265, s266, s267, s268, s269, s270, s271, s272, s273, s274, s275, s276, s277, s278, s279, s280, s281, s282, s283, s284, s285, s286, s287, s288, s289, s290, s291, s292, s293, s294, s295, s296, s297, s298, s299, s300, s301, s302, s303, s304, s305, s306, s307, s308, s309, s310, s311, s312, s313, s314, s315, s316, s317, s318, s319, s320, s321, s322, s323, s324, s325, s326, s327, s328, s329, s330, s331, s332, s333, s334, s335, s336, s337, s338, s339, s340, s341, s342, s343, s344, s345, s346, s347, s348, s349, s350], []⟩ wc) : C.wp Try.prog Q ⟨#[s0, s1, s2, s3, s4, s5, s6, s7, s8, s9, s10, s11, s12, s13, s14, s15, s16, s17, s18, s19, s20, s21, s22, s23, s24, s25, s26, s27, s28, s29, s30, s31, s32, s33, s34, s35, s36, s37, s38, s39, s40, s41, s42, s43, s44, s45, s46, s47, s48, s49, s50, s51, s52, s53, s54, s55, s56, s57, s58, s59, s60, s61, s62, s63, s64, s65, s66, s67, s68, s69, s70, s71, s72, s73, s74, s75, s76, s77, s78, s79, s80, s81, s82, s83, s84, s85, s86, s87, s88, s89, s90, s91, s92, s93, s94, s95, s96, s97, s98, s99, s100, s101, s102, s103, s104, s105, s106, s107, s108, s109, s110, s111, s112, s113, s114, s115, s116, s117, s118, s119, s120, s121, s122, s123, s124, s125, s126, s127, s128, s129, s130, s131, s132, s133, s134, s135, s136, s137, s138, s139, s140, s141, s142, s143, s144, s145, s146, s147, s148, s149, s150, s151, s152, s153, s154, s155, s156, s157, s158, s159, s160, s161, s162, s163, s164, s165, s166, s167, s168, s169, s170, s171, s172, s173, s174, s175, s176, s177, s178, s179, s180, s181, s182, s183, s184, s185, s186, s187, s188, s189, s190, s191, s192, s193, s194, s195, s196, s197, s198, s199, s200, s201, s202, s203, s204, s205, s206, s207, s208, s209, s210, s211, s212, s213, s214, s215, s216, s217, s218, s219, s220, s221, s222, s223, s224, s225, s226, s227, s228, s229, s230, s231, s232, s233, s234, s235, s236, s237, s238, s239, s240, .slice a p.cells.length cap, s242, .int .i64 ((k : Int)), s244, s245, s246, s247, s248, s249, s250, s251, s252, s253, s254, s255, s256, s257, s258, s259, s260, s261, s262, s263, s264, s265, s266, s267, s268, s269, s270, s271, s272, s273, s274, s275, s276, s277, s278, s279, s280, s281, s282, s283, s284, s285, s286, s287, s288, s289, s290, s291, s292, s293, s294, s295, s296, s297, s298, s299, s300, s301, s302, s303, s304, s305, s306, s307, s308, s309, s310, s311, s312, s313, s314, s315, s316, s317, s318, s319, s320, s321, s322, s323, s324, s325, s326, s327, s328, s329, s330, s331, s332, s333, s334, s335, s336, s337, s338, s339, s340, s341, s342, s343, s344, s345, s346, s347, s348, s349, s350], []⟩ w9 := by
  have e0 : (Try.f3.body.bind fun c => regOf c 40) = some (.region 40 _ _) := rfl
  rw [e0] at hC
  cases hC
  clear e0
  try dsimp only at hK ⊢
  have HK := Lib.hid hK
  clear hK
  have i0 : (0 : Int) ≤ (k : Int) := by omega
  have i1 : (k : Int) < (p.cells.length : Int) := by omega
  obtain ⟨b1, o1, rfl, hb1_, z0, z1, z2, z3, z4, z5, z6⟩ := Cell.row hx k hi
  rw [show p.cells[k] = cellAt p k by simp [cellAt, hi]] at z0 z1 z2 z3 z4 z5 z6
  generalize cellAt p k = c at z0 z1 z2 z3 z4 z5 z6 HK
  clear hx
  go_wp2
  all_goals exact HK.out _ _ _ _ _ ⟨by exact blkd, by (try simp); try omega, by exact kpta⟩
  
theorem tg_41 {s0 s1 s2 s3 s4 s5 s6 s7 s8 s9 s10 s11 s12 s13 s14 s15 s16 s17 s18 s19 s20 s21 s23 s24 s25 s26 s27 s28 s29 s30 s31 s32 s33 s34 s35 s36 s40 s41 s42 s43 s44 s45 s46 s47 s48 s49 s50 s51 s52 s53 s54 s55 s56 s57 s58 s59 s60 s61 s62 s63 s64 s65 s66 s67 s68 s69 s70 s71 s72 s73 s74 s75 s76 s77 s78 s79 s80 s81 s82 s83 s84 s85 s86 s87 s88 s89 s90 s91 s92 s93 s94 s95 s96 s97 s98 s99 s100 s101 s102 s103 s104 s105 s106 s107 s108 s109 s110 s111 s112 s113 s114 s115 s116 s117 s118 s119 s120 s121 s122 s123 s124 s125 s126 s127 s128 s129 s130 s131 s132 s133 s134 s135 s136 s137 s138 s139 s140 s141 s142 s143 s144 s145 s146 s147 s148 s149 s150 s151 s152 s153 s154 s155 s156 s157 s158 s159 s160 s161 s162 s163 s164 s165 s166 s167 s168 s169 s170 s171 s172 s173 s174 s175 s176 s177 s178 s179 s180 s181 s182 s183 s184 s185 s186 s187 s188 s189 s190 s191 s192 s193 s194 s195 s196 s197 s198 s199 s200 s201 s202 s203 s204 s205 s206 s207 s208 s209 s210 s211 s212 s213 s214 s215 s216 s217 s218 s219 s220 s221 s222 s223 s224 s225 s226 s227 s228 s229 s230 s231 s232 s233 s234 s235 s236 s237 s238 s239 s240 s241 s242 s243 s244 s245 s246 s247 s248 s249 s250 s251 s252 s253 s254 s255 s256 s257 s258 s259 s260 s261 s262 s263 s264 s265 s266 s267 s268 s269 s270 s271 s272 s273 s274 s275 s276 s277 s278 s279 s280 s281 s282 s283 s284 s285 s286 s287 s288 s289 s290 s291 s292 s293 s294 s295 s296 s297 s298 s299 s300 s301 s302 s303 s304 s305 s306 s307 s308 s309 s310 s311 s312 s313 s314 s315 s316 s317 s318 s319 s320 s321 s322 s323 s324 s325 s326 s327 s328 s329 s330 s331 s332 s333 s334 s335 s336 s337 s338 s339 s340 s341 s342 s343 s344 s345 s346 s347 s348 s349 s350 : Value} {n22 nc nl N k cp : Nat} {ad : Option Addr} {p : Plant} {c : Cell} {lo : List Int} {w9 : World} (C : Code) (hC : (Try.f3.body.bind fun c => regOf c 41) = some C) (Q : Exit → Act → World → Prop) (bc : Blk w9 nc #[.int .i64 c.room, .int .i64 c.helium, .int .i64 c.air, .int .i64 c.wlo, .int .i64 c.whi, .int .i64 c.leak, .int .i64 c.owed] 54) (b22 : Blk w9 n22 #[.slice ad p.cells.length cp, .int .i64 p.bottles, .int .i64 p.inH, .int .i64 p.inA, .int .i64 p.vH, .int .i64 p.vA, .int .i64 p.lH, .int .i64 p.lA, .int .i64 p.pH, .int .i64 p.pA] 26) (hq : Row Cell.cells 7 w9.heap.size w9 ad p.cells) (hi : k < p.cells.length) (bl : Blk w9 nl (ints (lo)) 3) (hN : lo.length = N) (hl : k < lo.length) (hc : cellB c = true) (hd : cellB (cellAt p k) = true)
    (hK : ∀  (u248 u249 u250 u251 u252 u253 u254 u255 u256 u257 u258 u259 u260 u261 u262 u263 u264 u265 u266 u267 u268 u269 : Value) (wc : World), (Blk wc nl (ints (lo.set k (c.helium + c.air - (cellAt p k).helium - (cellAt p k).air))) 3 ∧ But nl w9 wc) → Q .normal ⟨#[s0, s1, s2, s3, s4, s5, s6, s7, s8, s9, s10, s11, s12, s13, s14, s15, s16, s17, s18, s19, s20, s21, .pointer (some ⟨n22, 0, none⟩), s23, s24, s25, s26, s27, s28, s29, s30, s31, s32, s33, s34, s35, s36, .slice (some ⟨nl, 0, none⟩) N N, .int .i64 ((k : Int)), .pointer (some ⟨nc, 0, none⟩), s40, s41, s42, s43, s44, s45, s46, s47, s48, s49, s50, s51, s52, s53, s54, s55, s56, s57, s58, s59, s60, s61, s62, s63, s64, s65, s66, s67, s68, s69, s70, s71, s72, s73, s74, s75, s76, s77, s78, s79, s80, s81, s82, s83, s84, s85, s86, s87, s88, s89, s90, s91, s92, s93, s94, s95, s96, s97, s98, s99, s100, s101, s102, s103, s104, s105, s106, s107, s108, s109, s110, s111, s112, s113, s114, s115, s116, s117, s118, s119, s120, s121, s122, s123, s124, s125, s126, s127, s128, s129, s130, s131, s132, s133, s134, s135, s136, s137, s138, s139, s140, s141, s142, s143, s144, s145, s146, s147, s148, s149, s150, s151, s152, s153, s154, s155, s156, s157, s158, s159, s160, s161, s162, s163, s164, s165, s166, s167, s168, s169, s170, s171, s172, s173, s174, s175, s176, s177, s178, s179, s180, s181, s182, s183, s184, s185, s186, s187, s188, s189, s190, s191, s192, s193, s194, s195, s196, s197, s198, s199, s200, s201, s202, s203, s204, s205, s206, s207, s208, s209, s210, s211, s212, s213, s214, s215, s216, s217, s218, s219, s220, s221, s222, s223, s224, s225, s226, s227, s228, s229, s230, s231, s232, s233, s234, s235, s236, s237, s238, s239, s240, s241, s242, s243, s244, s245, s246, s247, u248, u249, u250, u251, u252, u253, u254, u255, u256, u257, u258, u259, u260, u261, u262, u263, u264, u265, u266, u267, u268, u269, s270, s271, s272, s273, s274, s275, s276, s277, s278, s279, s280, s281, s282, s283, s284, s285, s286, s287, s288, s289, s290, s291, s292, s293, s294, s295, s296, s297, s298, s299, s300, s301, s302, s303, s304, s305, s306, s307, s308, s309, s310, s311, s312, s313, s314, s315, s316, s317, s318, s319, s320, s321, s322, s323, s324, s325, s326, s327, s328, s329, s330, s331, s332, s333, s334, s335, s336, s337, s338, s339, s340, s341, s342, s343, s344, s345, s346, s347, s348, s349, s350], []⟩ wc) : C.wp Try.prog Q ⟨#[s0, s1, s2, s3, s4, s5, s6, s7, s8, s9, s10, s11, s12, s13, s14, s15, s16, s17, s18, s19, s20, s21, .pointer (some ⟨n22, 0, none⟩), s23, s24, s25, s26, s27, s28, s29, s30, s31, s32, s33, s34, s35, s36, .slice (some ⟨nl, 0, none⟩) N N, .int .i64 ((k : Int)), .pointer (some ⟨nc, 0, none⟩), s40, s41, s42, s43, s44, s45, s46, s47, s48, s49, s50, s51, s52, s53, s54, s55, s56, s57, s58, s59, s60, s61, s62, s63, s64, s65, s66, s67, s68, s69, s70, s71, s72, s73, s74, s75, s76, s77, s78, s79, s80, s81, s82, s83, s84, s85, s86, s87, s88, s89, s90, s91, s92, s93, s94, s95, s96, s97, s98, s99, s100, s101, s102, s103, s104, s105, s106, s107, s108, s109, s110, s111, s112, s113, s114, s115, s116, s117, s118, s119, s120, s121, s122, s123, s124, s125, s126, s127, s128, s129, s130, s131, s132, s133, s134, s135, s136, s137, s138, s139, s140, s141, s142, s143, s144, s145, s146, s147, s148, s149, s150, s151, s152, s153, s154, s155, s156, s157, s158, s159, s160, s161, s162, s163, s164, s165, s166, s167, s168, s169, s170, s171, s172, s173, s174, s175, s176, s177, s178, s179, s180, s181, s182, s183, s184, s185, s186, s187, s188, s189, s190, s191, s192, s193, s194, s195, s196, s197, s198, s199, s200, s201, s202, s203, s204, s205, s206, s207, s208, s209, s210, s211, s212, s213, s214, s215, s216, s217, s218, s219, s220, s221, s222, s223, s224, s225, s226, s227, s228, s229, s230, s231, s232, s233, s234, s235, s236, s237, s238, s239, s240, s241, s242, s243, s244, s245, s246, s247, s248, s249, s250, s251, s252, s253, s254, s255, s256, s257, s258, s259, s260, s261, s262, s263, s264, s265, s266, s267, s268, s269, s270, s271, s272, s273, s274, s275, s276, s277, s278, s279, s280, s281, s282, s283, s284, s285, s286, s287, s288, s289, s290, s291, s292, s293, s294, s295, s296, s297, s298, s299, s300, s301, s302, s303, s304, s305, s306, s307, s308, s309, s310, s311, s312, s313, s314, s315, s316, s317, s318, s319, s320, s321, s322, s323, s324, s325, s326, s327, s328, s329, s330, s331, s332, s333, s334, s335, s336, s337, s338, s339, s340, s341, s342, s343, s344, s345, s346, s347, s348, s349, s350], []⟩ w9 := by
  have e0 : (Try.f3.body.bind fun c => regOf c 41) = some (.region 41 _ _) := rfl
  rw [e0] at hC
  cases hC
  clear e0
  try dsimp only at hK ⊢
  have HK := Lib.hid hK
  clear hK
  have i0 : (0 : Int) ≤ (k : Int) := by omega
  have i1 : (k : Int) < (p.cells.length : Int) := by omega
  obtain ⟨b1, o1, rfl, hb1_, z0, z1, z2, z3, z4, z5, z6⟩ := Cell.row hq k hi
  rw [show p.cells[k] = cellAt p k by simp [cellAt, hi]] at z0 z1 z2 z3 z4 z5 z6
  generalize cellAt p k = d at z1 z2 hd HK
  obtain ⟨u0, u1, u2, u3, u4, u5, u6, u7⟩ := cellB_iff.1 hc
  obtain ⟨v0, v1, v2, v3, v4, v5, v6, v7⟩ := cellB_iff.1 hd
  have wA := i64_w (n := c.helium + c.air) (by omega)
  have wB := i64_w (n := c.helium + c.air - d.helium) (by omega)
  have wC := i64_w (n := c.helium + c.air - d.helium - d.air) (by omega)
  have y1 := fun g_ : Later w9 => g_.some z1
  have y2 := fun g_ : Later w9 => g_.some z2
  clear z0 z1 z2 z3 z4 z5 z6 hq hc hd u0 v0 u1 v1 u2 v2 u3 v3 u4 v4 u5 v5 u6 v6 u7 v7
  have bcc0 := fun g : Later w9 => (bc.later g).cell 0
  have bcf0 := fun g : Later w9 => (bc.later g).free 0
  have bcc1 := fun g : Later w9 => (bc.later g).cell 1
  have bcf1 := fun g : Later w9 => (bc.later g).free 1
  have bcc2 := fun g : Later w9 => (bc.later g).cell 2
  have bcf2 := fun g : Later w9 => (bc.later g).free 2
  have bcc3 := fun g : Later w9 => (bc.later g).cell 3
  have bcf3 := fun g : Later w9 => (bc.later g).free 3
  have bcc4 := fun g : Later w9 => (bc.later g).cell 4
  have bcf4 := fun g : Later w9 => (bc.later g).free 4
  have bcc5 := fun g : Later w9 => (bc.later g).cell 5
  have bcf5 := fun g : Later w9 => (bc.later g).free 5
  have bcc6 := fun g : Later w9 => (bc.later g).cell 6
  have bcf6 := fun g : Later w9 => (bc.later g).free 6
  have bcl := fun g : Later w9 => (bc.later g).lt
  simp at bcc0 bcc1 bcc2 bcc3 bcc4 bcc5 bcc6
  have b22c0 := fun g : Later w9 => (b22.later g).cell 0
  have b22f0 := fun g : Later w9 => (b22.later g).free 0
  have b22l := fun g : Later w9 => (b22.later g).lt
  simp at b22c0
  have i2 : (k : Int) < (N : Int) := by omega
  refine Later.tail 22 (by kernel_rfl) (by kernel_rfl) ?_
  simp only [List.take_succ_cons, List.take_zero, List.drop_succ_cons, List.drop_zero]
  repeat (first | go_big_quiet_skip | (go_big_quiet_want; go_big_quiet_op; first | go_big_quiet_on | (apply Exists.intro; refine ⟨fun g_ => ?_, ?_⟩; (focus (first | fail)); go_big_quiet_on)))
  refine wpQuiet_nil ?_
  intro gg
  refine wpList_plain rfl fun K1 hK1 => ?_
  have m := bl.later gg
  have e0 := (m.cell k).trans (intsG_get hl)
  have ef := m.free k
  have el := m.lt
  have hg9 := gg.ok
  go_wp2
  refine NoPanic.normal ?_
  all_goals exact HK.out  _ _ _ _ _ _ _ _ _ _ _ _ _ _ _ _ _ _ _ _ _ _ _ ⟨(m.set _ _).cast (intsG_put _ _ _), (But.kept hg9 (Nat.le_of_lt bl.lt)).set _ _⟩
  
theorem tg_43 {s0 s1 s2 s3 s4 s5 s6 s7 s8 s9 s10 s11 s12 s13 s14 s15 s16 s17 s18 s19 s20 s21 s22 s23 s25 s26 s27 s28 s29 s30 s31 s32 s33 s34 s35 s36 s39 s40 s41 s42 s43 s44 s45 s46 s47 s48 s49 s50 s51 s52 s53 s54 s55 s56 s57 s58 s59 s60 s61 s62 s63 s64 s65 s66 s67 s68 s69 s70 s71 s72 s73 s74 s75 s76 s77 s78 s79 s80 s81 s82 s83 s84 s85 s86 s87 s88 s89 s90 s91 s92 s93 s94 s95 s96 s97 s98 s99 s100 s101 s102 s103 s104 s105 s106 s107 s108 s109 s110 s111 s112 s113 s114 s115 s116 s117 s118 s119 s120 s121 s122 s123 s124 s125 s126 s127 s128 s129 s130 s131 s132 s133 s134 s135 s136 s137 s138 s139 s140 s141 s142 s143 s144 s145 s146 s147 s148 s149 s150 s151 s152 s153 s154 s155 s156 s157 s158 s159 s160 s161 s162 s163 s164 s165 s166 s167 s168 s169 s170 s171 s172 s173 s174 s175 s176 s177 s178 s179 s180 s181 s182 s183 s184 s185 s186 s187 s188 s189 s190 s191 s192 s193 s194 s195 s196 s197 s198 s199 s200 s201 s202 s203 s204 s205 s206 s207 s208 s209 s210 s211 s212 s213 s214 s215 s216 s217 s218 s219 s220 s221 s222 s223 s224 s225 s226 s227 s228 s229 s230 s231 s232 s233 s234 s235 s236 s237 s238 s239 s240 s241 s242 s243 s244 s245 s246 s247 s248 s249 s250 s251 s252 s253 s254 s255 s256 s257 s258 s259 s260 s261 s262 s263 s264 s265 s266 s267 s268 s269 s270 s271 s272 s273 s274 s275 s276 s277 s278 s279 s280 s281 s282 s283 s284 s285 s286 s287 s288 s289 s290 s291 s292 s293 s294 s295 s296 s297 s298 s299 s300 s301 s302 s303 s304 s305 s306 s307 s308 s309 s310 s311 s312 s313 s314 s315 s316 s317 s318 s319 s320 s321 s322 s323 s324 s325 s326 s327 s328 s329 s330 s331 s332 s333 s334 s335 s336 s337 s338 s339 s340 s341 s342 s343 s344 s345 s346 s347 s348 s349 s350 : Value} {nl N k : Nat} {g : Int} {lo : List Int} {w9 : World} (C : Code) (hC : (Try.f3.body.bind fun c => regOf c 43) = some C) (Q : Exit → Act → World → Prop) (bl : Blk w9 nl (ints (lo)) 3) (hN : lo.length = N) (hl : k < lo.length) (h0 : -100000000 ≤ lo[k] ∧ lo[k] ≤ 100000000) (h1 : 0 ≤ g ∧ g ≤ 100000000)
    (hK : ∀  (u273 u274 u275 u276 u277 u278 u279 : Value) (wc : World), (Blk wc nl (ints (lo.set k (lo[k] - g))) 3 ∧ But nl w9 wc) → Q .normal ⟨#[s0, s1, s2, s3, s4, s5, s6, s7, s8, s9, s10, s11, s12, s13, s14, s15, s16, s17, s18, s19, s20, s21, s22, s23, .int .i64 (g), s25, s26, s27, s28, s29, s30, s31, s32, s33, s34, s35, s36, .slice (some ⟨nl, 0, none⟩) N N, .int .i64 ((k : Int)), s39, s40, s41, s42, s43, s44, s45, s46, s47, s48, s49, s50, s51, s52, s53, s54, s55, s56, s57, s58, s59, s60, s61, s62, s63, s64, s65, s66, s67, s68, s69, s70, s71, s72, s73, s74, s75, s76, s77, s78, s79, s80, s81, s82, s83, s84, s85, s86, s87, s88, s89, s90, s91, s92, s93, s94, s95, s96, s97, s98, s99, s100, s101, s102, s103, s104, s105, s106, s107, s108, s109, s110, s111, s112, s113, s114, s115, s116, s117, s118, s119, s120, s121, s122, s123, s124, s125, s126, s127, s128, s129, s130, s131, s132, s133, s134, s135, s136, s137, s138, s139, s140, s141, s142, s143, s144, s145, s146, s147, s148, s149, s150, s151, s152, s153, s154, s155, s156, s157, s158, s159, s160, s161, s162, s163, s164, s165, s166, s167, s168, s169, s170, s171, s172, s173, s174, s175, s176, s177, s178, s179, s180, s181, s182, s183, s184, s185, s186, s187, s188, s189, s190, s191, s192, s193, s194, s195, s196, s197, s198, s199, s200, s201, s202, s203, s204, s205, s206, s207, s208, s209, s210, s211, s212, s213, s214, s215, s216, s217, s218, s219, s220, s221, s222, s223, s224, s225, s226, s227, s228, s229, s230, s231, s232, s233, s234, s235, s236, s237, s238, s239, s240, s241, s242, s243, s244, s245, s246, s247, s248, s249, s250, s251, s252, s253, s254, s255, s256, s257, s258, s259, s260, s261, s262, s263, s264, s265, s266, s267, s268, s269, s270, s271, s272, u273, u274, u275, u276, u277, u278, u279, s280, s281, s282, s283, s284, s285, s286, s287, s288, s289, s290, s291, s292, s293, s294, s295, s296, s297, s298, s299, s300, s301, s302, s303, s304, s305, s306, s307, s308, s309, s310, s311, s312, s313, s314, s315, s316, s317, s318, s319, s320, s321, s322, s323, s324, s325, s326, s327, s328, s329, s330, s331, s332, s333, s334, s335, s336, s337, s338, s339, s340, s341, s342, s343, s344, s345, s346, s347, s348, s349, s350], []⟩ wc) : C.wp Try.prog Q ⟨#[s0, s1, s2, s3, s4, s5, s6, s7, s8, s9, s10, s11, s12, s13, s14, s15, s16, s17, s18, s19, s20, s21, s22, s23, .int .i64 (g), s25, s26, s27, s28, s29, s30, s31, s32, s33, s34, s35, s36, .slice (some ⟨nl, 0, none⟩) N N, .int .i64 ((k : Int)), s39, s40, s41, s42, s43, s44, s45, s46, s47, s48, s49, s50, s51, s52, s53, s54, s55, s56, s57, s58, s59, s60, s61, s62, s63, s64, s65, s66, s67, s68, s69, s70, s71, s72, s73, s74, s75, s76, s77, s78, s79, s80, s81, s82, s83, s84, s85, s86, s87, s88, s89, s90, s91, s92, s93, s94, s95, s96, s97, s98, s99, s100, s101, s102, s103, s104, s105, s106, s107, s108, s109, s110, s111, s112, s113, s114, s115, s116, s117, s118, s119, s120, s121, s122, s123, s124, s125, s126, s127, s128, s129, s130, s131, s132, s133, s134, s135, s136, s137, s138, s139, s140, s141, s142, s143, s144, s145, s146, s147, s148, s149, s150, s151, s152, s153, s154, s155, s156, s157, s158, s159, s160, s161, s162, s163, s164, s165, s166, s167, s168, s169, s170, s171, s172, s173, s174, s175, s176, s177, s178, s179, s180, s181, s182, s183, s184, s185, s186, s187, s188, s189, s190, s191, s192, s193, s194, s195, s196, s197, s198, s199, s200, s201, s202, s203, s204, s205, s206, s207, s208, s209, s210, s211, s212, s213, s214, s215, s216, s217, s218, s219, s220, s221, s222, s223, s224, s225, s226, s227, s228, s229, s230, s231, s232, s233, s234, s235, s236, s237, s238, s239, s240, s241, s242, s243, s244, s245, s246, s247, s248, s249, s250, s251, s252, s253, s254, s255, s256, s257, s258, s259, s260, s261, s262, s263, s264, s265, s266, s267, s268, s269, s270, s271, s272, s273, s274, s275, s276, s277, s278, s279, s280, s281, s282, s283, s284, s285, s286, s287, s288, s289, s290, s291, s292, s293, s294, s295, s296, s297, s298, s299, s300, s301, s302, s303, s304, s305, s306, s307, s308, s309, s310, s311, s312, s313, s314, s315, s316, s317, s318, s319, s320, s321, s322, s323, s324, s325, s326, s327, s328, s329, s330, s331, s332, s333, s334, s335, s336, s337, s338, s339, s340, s341, s342, s343, s344, s345, s346, s347, s348, s349, s350], []⟩ w9 := by
  have e0 : (Try.f3.body.bind fun c => regOf c 43) = some (.region 43 _ _) := rfl
  rw [e0] at hC
  cases hC
  clear e0
  try dsimp only at hK ⊢
  have HK := Lib.hid hK
  clear hK
  have e0 := (bl.cell k).trans (intsG_get hl)
  have ef := bl.free k
  have el := bl.lt
  have i2 : (0 : Int) ≤ (k : Int) := by omega
  have i3 : (k : Int) < (N : Int) := by omega
  generalize lo[k] = z at e0 h0 HK
  have wA := i64_w (n := z - g) (by omega)
  clear h0 h1
  go_wp2
  all_goals exact HK.out  _ _ _ _ _ _ _ _ ⟨(bl.set _ _).cast (intsG_put _ _ _), (But.refl _ _).set _ _⟩
  
theorem tg_44 {s0 s1 s2 s3 s4 s5 s6 s7 s8 s9 s10 s11 s12 s13 s14 s15 s16 s17 s18 s19 s20 s21 s22 s23 s24 s25 s26 s27 s28 s29 s30 s31 s32 s33 s34 s35 s39 s40 s41 s42 s43 s44 s45 s46 s47 s48 s49 s50 s51 s52 s53 s54 s55 s56 s57 s58 s59 s60 s61 s62 s63 s64 s65 s66 s67 s68 s69 s70 s71 s72 s73 s74 s75 s76 s77 s78 s79 s80 s81 s82 s83 s84 s85 s86 s87 s88 s89 s90 s91 s92 s93 s94 s95 s96 s97 s98 s99 s100 s101 s102 s103 s104 s105 s106 s107 s108 s109 s110 s111 s112 s113 s114 s115 s116 s117 s118 s119 s120 s121 s122 s123 s124 s125 s126 s127 s128 s129 s130 s131 s132 s133 s134 s135 s136 s137 s138 s139 s140 s141 s142 s143 s144 s145 s146 s147 s148 s149 s150 s151 s152 s153 s154 s155 s156 s157 s158 s159 s160 s161 s162 s163 s164 s165 s166 s167 s168 s169 s170 s171 s172 s173 s174 s175 s176 s177 s178 s179 s180 s181 s182 s183 s184 s185 s186 s187 s188 s189 s190 s191 s192 s193 s194 s195 s196 s197 s198 s199 s200 s201 s202 s203 s204 s205 s206 s207 s208 s209 s210 s211 s212 s213 s214 s215 s216 s217 s218 s219 s220 s221 s222 s223 s224 s225 s226 s227 s228 s229 s230 s231 s232 s233 s234 s235 s236 s237 s238 s239 s240 s241 s242 s243 s244 s245 s246 s247 s248 s249 s250 s251 s252 s253 s254 s255 s256 s257 s258 s259 s260 s261 s262 s263 s264 s265 s266 s267 s268 s269 s270 s271 s272 s273 s274 s275 s276 s277 s278 s279 s280 s281 s282 s283 s284 s285 s286 s287 s288 s289 s290 s291 s292 s293 s294 s295 s296 s297 s298 s299 s300 s301 s302 s303 s304 s305 s306 s307 s308 s309 s310 s311 s312 s313 s314 s315 s316 s317 s318 s319 s320 s321 s322 s323 s324 s325 s326 s327 s328 s329 s330 s331 s332 s333 s334 s335 s336 s337 s338 s339 s340 s341 s342 s343 s344 s345 s346 s347 s348 s349 s350 : Value} {nl N k : Nat} {all : Int} {lo : List Int} {w9 : World} (C : Code) (hC : (Try.f3.body.bind fun c => regOf c 44) = some C) (Q : Exit → Act → World → Prop) (bl : Blk w9 nl (ints (lo)) 3) (hN : lo.length = N) (hl : k < lo.length) (h0 : -100000000 ≤ lo[k] ∧ lo[k] ≤ 100000000) (h1 : -10000000000 ≤ all ∧ all ≤ 10000000000)
    (hK : ∀  (u280 u281 u282 u283 u284 u285 : Value) (wc : World), (Kept w9 wc) → Q .normal ⟨#[s0, s1, s2, s3, s4, s5, s6, s7, s8, s9, s10, s11, s12, s13, s14, s15, s16, s17, s18, s19, s20, s21, s22, s23, s24, s25, s26, s27, s28, s29, s30, s31, s32, s33, s34, s35, .int .i64 (all + lo[k]), .slice (some ⟨nl, 0, none⟩) N N, .int .i64 ((k : Int)), s39, s40, s41, s42, s43, s44, s45, s46, s47, s48, s49, s50, s51, s52, s53, s54, s55, s56, s57, s58, s59, s60, s61, s62, s63, s64, s65, s66, s67, s68, s69, s70, s71, s72, s73, s74, s75, s76, s77, s78, s79, s80, s81, s82, s83, s84, s85, s86, s87, s88, s89, s90, s91, s92, s93, s94, s95, s96, s97, s98, s99, s100, s101, s102, s103, s104, s105, s106, s107, s108, s109, s110, s111, s112, s113, s114, s115, s116, s117, s118, s119, s120, s121, s122, s123, s124, s125, s126, s127, s128, s129, s130, s131, s132, s133, s134, s135, s136, s137, s138, s139, s140, s141, s142, s143, s144, s145, s146, s147, s148, s149, s150, s151, s152, s153, s154, s155, s156, s157, s158, s159, s160, s161, s162, s163, s164, s165, s166, s167, s168, s169, s170, s171, s172, s173, s174, s175, s176, s177, s178, s179, s180, s181, s182, s183, s184, s185, s186, s187, s188, s189, s190, s191, s192, s193, s194, s195, s196, s197, s198, s199, s200, s201, s202, s203, s204, s205, s206, s207, s208, s209, s210, s211, s212, s213, s214, s215, s216, s217, s218, s219, s220, s221, s222, s223, s224, s225, s226, s227, s228, s229, s230, s231, s232, s233, s234, s235, s236, s237, s238, s239, s240, s241, s242, s243, s244, s245, s246, s247, s248, s249, s250, s251, s252, s253, s254, s255, s256, s257, s258, s259, s260, s261, s262, s263, s264, s265, s266, s267, s268, s269, s270, s271, s272, s273, s274, s275, s276, s277, s278, s279, u280, u281, u282, u283, u284, u285, s286, s287, s288, s289, s290, s291, s292, s293, s294, s295, s296, s297, s298, s299, s300, s301, s302, s303, s304, s305, s306, s307, s308, s309, s310, s311, s312, s313, s314, s315, s316, s317, s318, s319, s320, s321, s322, s323, s324, s325, s326, s327, s328, s329, s330, s331, s332, s333, s334, s335, s336, s337, s338, s339, s340, s341, s342, s343, s344, s345, s346, s347, s348, s349, s350], []⟩ wc) : C.wp Try.prog Q ⟨#[s0, s1, s2, s3, s4, s5, s6, s7, s8, s9, s10, s11, s12, s13, s14, s15, s16, s17, s18, s19, s20, s21, s22, s23, s24, s25, s26, s27, s28, s29, s30, s31, s32, s33, s34, s35, .int .i64 (all), .slice (some ⟨nl, 0, none⟩) N N, .int .i64 ((k : Int)), s39, s40, s41, s42, s43, s44, s45, s46, s47, s48, s49, s50, s51, s52, s53, s54, s55, s56, s57, s58, s59, s60, s61, s62, s63, s64, s65, s66, s67, s68, s69, s70, s71, s72, s73, s74, s75, s76, s77, s78, s79, s80, s81, s82, s83, s84, s85, s86, s87, s88, s89, s90, s91, s92, s93, s94, s95, s96, s97, s98, s99, s100, s101, s102, s103, s104, s105, s106, s107, s108, s109, s110, s111, s112, s113, s114, s115, s116, s117, s118, s119, s120, s121, s122, s123, s124, s125, s126, s127, s128, s129, s130, s131, s132, s133, s134, s135, s136, s137, s138, s139, s140, s141, s142, s143, s144, s145, s146, s147, s148, s149, s150, s151, s152, s153, s154, s155, s156, s157, s158, s159, s160, s161, s162, s163, s164, s165, s166, s167, s168, s169, s170, s171, s172, s173, s174, s175, s176, s177, s178, s179, s180, s181, s182, s183, s184, s185, s186, s187, s188, s189, s190, s191, s192, s193, s194, s195, s196, s197, s198, s199, s200, s201, s202, s203, s204, s205, s206, s207, s208, s209, s210, s211, s212, s213, s214, s215, s216, s217, s218, s219, s220, s221, s222, s223, s224, s225, s226, s227, s228, s229, s230, s231, s232, s233, s234, s235, s236, s237, s238, s239, s240, s241, s242, s243, s244, s245, s246, s247, s248, s249, s250, s251, s252, s253, s254, s255, s256, s257, s258, s259, s260, s261, s262, s263, s264, s265, s266, s267, s268, s269, s270, s271, s272, s273, s274, s275, s276, s277, s278, s279, s280, s281, s282, s283, s284, s285, s286, s287, s288, s289, s290, s291, s292, s293, s294, s295, s296, s297, s298, s299, s300, s301, s302, s303, s304, s305, s306, s307, s308, s309, s310, s311, s312, s313, s314, s315, s316, s317, s318, s319, s320, s321, s322, s323, s324, s325, s326, s327, s328, s329, s330, s331, s332, s333, s334, s335, s336, s337, s338, s339, s340, s341, s342, s343, s344, s345, s346, s347, s348, s349, s350], []⟩ w9 := by
  have e0 : (Try.f3.body.bind fun c => regOf c 44) = some (.region 44 _ _) := rfl
  rw [e0] at hC
  cases hC
  clear e0
  try dsimp only at hK ⊢
  have HK := Lib.hid hK
  clear hK
  have e0 := (bl.cell k).trans (intsG_get hl)
  have ef := bl.free k
  have el := bl.lt
  have i2 : (0 : Int) ≤ (k : Int) := by omega
  have i3 : (k : Int) < (N : Int) := by omega
  generalize lo[k] = z at e0 h0 HK
  have wA := i64_w (n := all + z) (by omega)
  clear h0 h1
  go_wp2
  all_goals exact HK.out  _ _ _ _ _ _ _ (by exact kpta)
  
theorem tg_45 {s0 s1 s2 s3 s4 s5 s6 s7 s8 s9 s10 s11 s12 s13 s14 s15 s16 s17 s18 s19 s20 s21 s22 s23 s24 s25 s26 s27 s28 s29 s30 s31 s32 s33 s35 s36 s39 s40 s41 s42 s43 s44 s45 s46 s47 s48 s49 s50 s51 s52 s53 s54 s55 s56 s57 s58 s59 s60 s61 s62 s63 s64 s65 s66 s67 s68 s69 s70 s71 s72 s73 s74 s75 s76 s77 s78 s79 s80 s81 s82 s83 s84 s85 s86 s87 s88 s89 s90 s91 s92 s93 s94 s95 s96 s97 s98 s99 s100 s101 s102 s103 s104 s105 s106 s107 s108 s109 s110 s111 s112 s113 s114 s115 s116 s117 s118 s119 s120 s121 s122 s123 s124 s125 s126 s127 s128 s129 s130 s131 s132 s133 s134 s135 s136 s137 s138 s139 s140 s141 s142 s143 s144 s145 s146 s147 s148 s149 s150 s151 s152 s153 s154 s155 s156 s157 s158 s159 s160 s161 s162 s163 s164 s165 s166 s167 s168 s169 s170 s171 s172 s173 s174 s175 s176 s177 s178 s179 s180 s181 s182 s183 s184 s185 s186 s187 s188 s189 s190 s191 s192 s193 s194 s195 s196 s197 s198 s199 s200 s201 s202 s203 s204 s205 s206 s207 s208 s209 s210 s211 s212 s213 s214 s215 s216 s217 s218 s219 s220 s221 s222 s223 s224 s225 s226 s227 s228 s229 s230 s231 s232 s233 s234 s235 s236 s237 s238 s239 s240 s241 s242 s243 s244 s245 s246 s247 s248 s249 s250 s251 s252 s253 s254 s255 s256 s257 s258 s259 s260 s261 s262 s263 s264 s265 s266 s267 s268 s269 s270 s271 s272 s273 s274 s275 s276 s277 s278 s279 s280 s281 s282 s283 s284 s285 s286 s287 s288 s289 s290 s291 s292 s293 s294 s295 s296 s297 s298 s299 s300 s301 s302 s303 s304 s305 s306 s307 s308 s309 s310 s311 s312 s313 s314 s315 s316 s317 s318 s319 s320 s321 s322 s323 s324 s325 s326 s327 s328 s329 s330 s331 s332 s333 s334 s335 s336 s337 s338 s339 s340 s341 s342 s343 s344 s345 s346 s347 s348 s349 s350 : Value} {nl N k cl : Nat} {al : Option Addr} {lo : List Int} {L : List Sp} {w9 : World} (C : Code) (hC : (Try.f3.body.bind fun c => regOf c 45) = some C) (Q : Exit → Act → World → Prop) (bl : Blk w9 nl (ints (lo)) 3) (hN : lo.length = N) (hl : k < lo.length) (hr : Row Sp.cells 2 w9.heap.size w9 al L) (hL : k < L.length) (hg : L[k].lo ≤ lo[k] ∧ lo[k] ≤ L[k].hi)
    (hK : ∀  (u286 u287 u288 u289 u290 u291 u292 u293 u294 u295 u296 u297 u298 u299 u300 u301 u302 u303 u304 u305 u306 : Value) (wc : World), (Kept w9 wc) → Q .normal ⟨#[s0, s1, s2, s3, s4, s5, s6, s7, s8, s9, s10, s11, s12, s13, s14, s15, s16, s17, s18, s19, s20, s21, s22, s23, s24, s25, s26, s27, s28, s29, s30, s31, s32, s33, .slice al L.length cl, s35, s36, .slice (some ⟨nl, 0, none⟩) N N, .int .i64 ((k : Int)), s39, s40, s41, s42, s43, s44, s45, s46, s47, s48, s49, s50, s51, s52, s53, s54, s55, s56, s57, s58, s59, s60, s61, s62, s63, s64, s65, s66, s67, s68, s69, s70, s71, s72, s73, s74, s75, s76, s77, s78, s79, s80, s81, s82, s83, s84, s85, s86, s87, s88, s89, s90, s91, s92, s93, s94, s95, s96, s97, s98, s99, s100, s101, s102, s103, s104, s105, s106, s107, s108, s109, s110, s111, s112, s113, s114, s115, s116, s117, s118, s119, s120, s121, s122, s123, s124, s125, s126, s127, s128, s129, s130, s131, s132, s133, s134, s135, s136, s137, s138, s139, s140, s141, s142, s143, s144, s145, s146, s147, s148, s149, s150, s151, s152, s153, s154, s155, s156, s157, s158, s159, s160, s161, s162, s163, s164, s165, s166, s167, s168, s169, s170, s171, s172, s173, s174, s175, s176, s177, s178, s179, s180, s181, s182, s183, s184, s185, s186, s187, s188, s189, s190, s191, s192, s193, s194, s195, s196, s197, s198, s199, s200, s201, s202, s203, s204, s205, s206, s207, s208, s209, s210, s211, s212, s213, s214, s215, s216, s217, s218, s219, s220, s221, s222, s223, s224, s225, s226, s227, s228, s229, s230, s231, s232, s233, s234, s235, s236, s237, s238, s239, s240, s241, s242, s243, s244, s245, s246, s247, s248, s249, s250, s251, s252, s253, s254, s255, s256, s257, s258, s259, s260, s261, s262, s263, s264, s265, s266, s267, s268, s269, s270, s271, s272, s273, s274, s275, s276, s277, s278, s279, s280, s281, s282, s283, s284, s285, u286, u287, u288, u289, u290, u291, u292, u293, u294, u295, u296, u297, u298, u299, u300, u301, u302, u303, u304, u305, u306, .bool false, s308, s309, s310, s311, s312, s313, s314, s315, s316, s317, s318, s319, s320, s321, s322, s323, s324, s325, s326, s327, s328, s329, s330, s331, s332, s333, s334, s335, s336, s337, s338, s339, s340, s341, s342, s343, s344, s345, s346, s347, s348, s349, s350], []⟩ wc) : C.wp Try.prog Q ⟨#[s0, s1, s2, s3, s4, s5, s6, s7, s8, s9, s10, s11, s12, s13, s14, s15, s16, s17, s18, s19, s20, s21, s22, s23, s24, s25, s26, s27, s28, s29, s30, s31, s32, s33, .slice al L.length cl, s35, s36, .slice (some ⟨nl, 0, none⟩) N N, .int .i64 ((k : Int)), s39, s40, s41, s42, s43, s44, s45, s46, s47, s48, s49, s50, s51, s52, s53, s54, s55, s56, s57, s58, s59, s60, s61, s62, s63, s64, s65, s66, s67, s68, s69, s70, s71, s72, s73, s74, s75, s76, s77, s78, s79, s80, s81, s82, s83, s84, s85, s86, s87, s88, s89, s90, s91, s92, s93, s94, s95, s96, s97, s98, s99, s100, s101, s102, s103, s104, s105, s106, s107, s108, s109, s110, s111, s112, s113, s114, s115, s116, s117, s118, s119, s120, s121, s122, s123, s124, s125, s126, s127, s128, s129, s130, s131, s132, s133, s134, s135, s136, s137, s138, s139, s140, s141, s142, s143, s144, s145, s146, s147, s148, s149, s150, s151, s152, s153, s154, s155, s156, s157, s158, s159, s160, s161, s162, s163, s164, s165, s166, s167, s168, s169, s170, s171, s172, s173, s174, s175, s176, s177, s178, s179, s180, s181, s182, s183, s184, s185, s186, s187, s188, s189, s190, s191, s192, s193, s194, s195, s196, s197, s198, s199, s200, s201, s202, s203, s204, s205, s206, s207, s208, s209, s210, s211, s212, s213, s214, s215, s216, s217, s218, s219, s220, s221, s222, s223, s224, s225, s226, s227, s228, s229, s230, s231, s232, s233, s234, s235, s236, s237, s238, s239, s240, s241, s242, s243, s244, s245, s246, s247, s248, s249, s250, s251, s252, s253, s254, s255, s256, s257, s258, s259, s260, s261, s262, s263, s264, s265, s266, s267, s268, s269, s270, s271, s272, s273, s274, s275, s276, s277, s278, s279, s280, s281, s282, s283, s284, s285, s286, s287, s288, s289, s290, s291, s292, s293, s294, s295, s296, s297, s298, s299, s300, s301, s302, s303, s304, s305, s306, s307, s308, s309, s310, s311, s312, s313, s314, s315, s316, s317, s318, s319, s320, s321, s322, s323, s324, s325, s326, s327, s328, s329, s330, s331, s332, s333, s334, s335, s336, s337, s338, s339, s340, s341, s342, s343, s344, s345, s346, s347, s348, s349, s350], []⟩ w9 := by
  have e0 : (Try.f3.body.bind fun c => regOf c 45) = some (.region 45 _ _) := rfl
  rw [e0] at hC
  cases hC
  clear e0
  try dsimp only at hK ⊢
  have HK := Lib.hid hK
  clear hK
  have i2 : (0 : Int) ≤ (k : Int) := by omega
  have i3 : (k : Int) < (N : Int) := by omega
  have i4 : (k : Int) < (L.length : Int) := by omega
  have e0 := (bl.cell k).trans (intsG_get hl)
  obtain ⟨bz, oz, rfl, _, c0, c1⟩ := Sp.row hr k hL
  generalize lo[k] = u at e0 hg
  generalize L[k] = z at c0 c1 hg
  have d1 : decide (u < z.lo) = false := by simp; omega
  have d2 : decide (z.hi < u) = false := by simp; omega
  have q0 := fun g_ : Later w9 => g_.some e0
  have q1 := fun g_ : Later w9 => g_.some c0
  have q2 := fun g_ : Later w9 => g_.some c1
  clear e0 c0 c1 hg hr bl
  refine Later.region (by kernel_rfl) (by kernel_rfl) ?_
  repeat (first | go_big_quiet_skip | (go_big_quiet_want; go_big_quiet_op; first | go_big_quiet_on | (apply Exists.intro; refine ⟨fun g => ?_, ?_⟩; (focus (first | fail)); go_big_quiet_on)))
  refine wpQuiet_nil ?_
  intro gg
  have hg9 := gg.ok
  all_goals exact HK.out  _ _ _ _ _ _ _ _ _ _ _ _ _ _ _ _ _ _ _ _ _ _ hg9
  
end Go.Proofs.Ytnfhcpnpjkefmaa

/-
  TopGauged by segments: the loops.
-/
namespace Go.Proofs.Ytnfhcpnpjkefmaa
open Go.RowKit Bal Bal.Trim Bal.Gas Bal.Wx
set_option linter.unusedVariables false
set_option linter.unusedSimpArgs false
set_option maxHeartbeats 8000000
set_option maxRecDepth 100000

theorem take_map_next {β : Type} (f : Cell → β) (l : List Cell) {k : Nat} (h : k < l.length) : (l.take (k + 1)).map f = (l.take k).map f ++ [f (l.getD k default)] := by
  rw [List.take_add_one, List.map_append, List.getD_eq_getElem?_getD, List.getElem?_eq_getElem h]
  simp
/-- what is told of the first k cells -/
def lostL (f : Nat → Int) (N k : Nat) : List Int := (List.range N).map fun i => if i < k then f i else 0
theorem lostL_len (f : Nat → Int) (N k : Nat) : (lostL f N k).length = N := by simp [lostL]
theorem lostL_zero (f : Nat → Int) (N : Nat) : lostL f N 0 = List.replicate N 0 := by
  refine List.ext_getElem (by simp [lostL]) fun i h1 h2 => ?_
  simp [lostL]
theorem lostL_get (f : Nat → Int) (N k : Nat) {i : Nat} (h : i < (lostL f N k).length) (hk : i < k) : (lostL f N k)[i] = f i := by simp [lostL, hk]
theorem lostL_set (f : Nat → Int) (N k : Nat) : (lostL f N k).set k (f k) = lostL f N (k + 1) := by
  refine List.ext_getElem (by simp [lostL]) fun i h1 h2 => ?_
  rw [List.getElem_set]
  by_cases e : k = i
  · subst e; simp [lostL]
  · rw [if_neg e]
    have : i < k ↔ i < k + 1 := by omega
    simp [lostL, this]
theorem lostL_full (f : Nat → Int) (N : Nat) {i : Nat} (h : i < (lostL f N N).length) : (lostL f N N)[i] = f i := lostL_get f N N h (by simpa [lostL] using h)

theorem tg_b0 {s0 s1 s2 s3 s4 s5 s6 s7 s8 s9 s10 s11 s12 s13 s14 s17 s19 s20 s21 s23 s24 s25 s26 s28 s29 s30 s31 s32 s33 s34 s35 s36 s37 s38 s39 s40 s41 s42 s43 s44 s45 s46 s47 s48 s49 s50 s51 s52 s53 s54 s55 s56 s57 s58 s59 s60 s61 s62 s63 s64 s65 s66 s67 s68 s69 s70 s71 s72 s73 s74 s75 s76 s77 s78 s79 s80 s81 s82 s83 s84 s85 s86 s87 s88 s89 s90 s91 s92 s93 s94 s95 s96 s97 s98 s99 s100 s101 s102 s103 s104 s105 s106 s107 s108 s109 s110 s111 s112 s113 s114 s115 s116 s117 s118 s119 s120 s121 s122 s123 s124 s125 s126 s127 s128 s129 s130 s131 s132 s133 s134 s135 s136 s137 s138 s139 s140 s144 s145 s146 s147 s148 s149 s150 s151 s152 s153 s154 s155 s156 s157 s158 s159 s160 s161 s162 s163 s164 s165 s166 s167 s168 s169 s170 s171 s172 s173 s174 s175 s176 s177 s178 s179 s180 s181 s182 s183 s184 s185 s186 s187 s188 s189 s190 s191 s192 s193 s194 s195 s196 s197 s198 s199 s200 s201 s202 s203 s204 s205 s206 s207 s208 s209 s210 s211 s212 s213 s214 s215 s216 s217 s218 s219 s220 s221 s222 s223 s224 s225 s226 s227 s228 s229 s230 s231 s232 s233 s234 s235 s236 s237 s238 s239 s240 s241 s242 s243 s244 s245 s246 s247 s248 s249 s250 s251 s252 s253 s254 s255 s256 s257 s258 s259 s260 s261 s262 s263 s264 s265 s266 s267 s268 s269 s270 s271 s272 s273 s274 s275 s276 s277 s278 s279 s280 s281 s282 s283 s284 s285 s286 s287 s288 s289 s290 s291 s292 s293 s294 s295 s296 s297 s298 s299 s300 s301 s302 s303 s304 s305 s306 s307 s308 s309 s310 s311 s312 s313 s314 s315 s316 s317 s318 s319 s320 s321 s322 s323 s324 s325 s326 s327 s328 s329 s330 s331 s332 s333 s334 s335 s336 s337 s338 s339 s340 s341 s342 s343 s344 s345 s346 s347 s348 s349 s350 : Value} {n16 n18 n22 nh ng nf B cap cp : Nat} {ap aq : Option Addr} {p q : Plant} {a b : Air} {n : Int} {fa : Array Value} {w0 : World} {w9 : World} (C : Code) (hC : (Try.f3.body.bind fun c => blkOf c 0) = some C) (Q : Exit → Act → World → Prop) (hQ : ∀ c a d v w, Q (.panic c) (Act.put a d v) w → Q (.panic c) a w) (hR : ∀ (u28 u29 u30 u31 u32 u33 u143 u144 u145 u146 u147 u148 u149 u150 u151 u152 u153 u154 u155 u156 u157 u158 u159 u160 u161 u162 u163 u164 u165 u166 u167 u168 u169 u170 u171 u172 u173 u174 u175 u176 u177 u178 u179 u180 u181 u182 u183 u184 u185 u186 u187 u188 u189 u190 u191 u192 u193 u194 u195 u196 u197 u198 u199 u200 u201 u202 u203 u204 u205 u206 u207 u208 u209 u210 : Value) (wc : World), Kept w0 wc → Q .ret ⟨#[s0, s1, s2, s3, s4, s5, s6, s7, s8, s9, s10, s11, s12, s13, .bool true, .bool true, .pointer (some ⟨n16, 0, none⟩), s17, .pointer (some ⟨n18, 0, none⟩), s19, s20, s21, .pointer (some ⟨n22, 0, none⟩), s23, s24, s25, s26, .pointer (some ⟨nh, 0, none⟩), u28, u29, u30, u31, u32, u33, s34, s35, s36, s37, s38, s39, s40, s41, s42, s43, s44, s45, s46, s47, s48, s49, s50, s51, s52, s53, s54, s55, s56, s57, s58, s59, s60, s61, s62, s63, s64, s65, s66, s67, s68, s69, s70, s71, s72, s73, s74, s75, s76, s77, s78, s79, s80, s81, s82, s83, s84, s85, s86, s87, s88, s89, s90, s91, s92, s93, s94, s95, s96, s97, s98, s99, s100, s101, s102, s103, s104, s105, s106, s107, s108, s109, s110, s111, s112, s113, s114, s115, s116, s117, s118, s119, s120, s121, s122, s123, s124, s125, s126, s127, s128, s129, s130, s131, s132, s133, s134, s135, s136, s137, s138, s139, s140, .slice ap p.cells.length cap, .int .i64 (p.cells.length), u143, u144, u145, u146, u147, u148, u149, u150, u151, u152, u153, u154, u155, u156, u157, u158, u159, u160, u161, u162, u163, u164, u165, u166, u167, u168, u169, u170, u171, u172, u173, u174, u175, u176, u177, u178, u179, u180, u181, u182, u183, u184, u185, u186, u187, u188, u189, u190, u191, u192, u193, u194, u195, u196, u197, u198, u199, u200, u201, u202, u203, u204, u205, u206, u207, u208, u209, u210, s211, s212, s213, s214, s215, s216, s217, s218, s219, s220, s221, s222, s223, s224, s225, s226, s227, s228, s229, s230, s231, s232, s233, s234, s235, s236, s237, s238, s239, s240, s241, s242, s243, s244, s245, s246, s247, s248, s249, s250, s251, s252, s253, s254, s255, s256, s257, s258, s259, s260, s261, s262, s263, s264, s265, s266, s267, s268, s269, s270, s271, s272, s273, s274, s275, s276, s277, s278, s279, s280, s281, s282, s283, s284, s285, s286, s287, s288, s289, s290, s291, s292, s293, s294, s295, s296, s297, s298, s299, s300, s301, s302, s303, s304, s305, s306, s307, s308, s309, s310, s311, s312, s313, s314, s315, s316, s317, s318, s319, s320, s321, s322, s323, s324, s325, s326, s327, s328, s329, s330, s331, s332, s333, s334, s335, s336, s337, s338, s339, s340, s341, s342, s343, s344, s345, s346, s347, s348, s349, s350], []⟩ wc) (hx : Row Cell.cells 7 w0.heap.size w0 ap p.cells) (hq : Row Cell.cells 7 w0.heap.size w0 aq q.cells) (hcp : q.cells.length ≤ cp) (b22 : Blk w0 n22 #[.slice aq q.cells.length cp, .int .i64 q.bottles, .int .i64 q.inH, .int .i64 q.inA, .int .i64 q.vH, .int .i64 q.vA, .int .i64 q.lH, .int .i64 q.lA, .int .i64 q.pH, .int .i64 q.pA] 26) (b16 : Blk w0 n16 #[.int .i64 a.plo, .int .i64 a.phi, .int .i64 a.tlo, .int .i64 a.thi] 35) (b18 : Blk w0 n18 #[.int .i64 b.plo, .int .i64 b.phi, .int .i64 b.tlo, .int .i64 b.thi] 35) (hlen : q.cells.length = p.cells.length) (h12 : p.cells.length ≤ 12) (hcs : ∀ i, i < p.cells.length → cellB (cellAt p i) = true) (hds : ∀ i, i < p.cells.length → cellB (cellAt q i) = true) (ha : airB a = true) (hb : airB b = true) (h : LSt 29 46 52 49 B nh ng nf a b n fa w0 w9 ((.slice none 0 0)) ((.slice none 0 0)) ((.slice none 0 0)) ([]) ([]) ([]))
    (hK : ∀ (vw va vb : Value) (u14 u28 u29 u30 u31 u32 u33 u143 u144 u145 u146 u147 u148 u149 u150 u151 u152 u153 u154 u155 u156 u157 u158 u159 u160 u161 u162 u163 u164 u165 u166 u167 u168 u169 u170 u171 u172 u173 u174 u175 u176 u177 u178 u179 u180 u181 u182 u183 u184 u185 u186 u187 u188 u189 u190 u191 u192 u193 u194 u195 u196 u197 u198 u199 u200 u201 u202 u203 u204 u205 u206 u207 u208 u209 u210 : Value) (wc : World), (LSt 29 46 52 49 B nh ng nf a b n fa w0 wc (vw) (va) (vb) ((p.cells.map fun c => ⟨c.wlo, c.whi⟩)) ((p.cells.map (volG a))) ((q.cells.map (volG b))) ∧ (∀ j, j < p.cells.length → volHi (cellAt p j) a ≤ 10000000 ∧ volHi (cellAt q j) b ≤ 10000000)) → Q .normal ⟨#[s0, s1, s2, s3, s4, s5, s6, s7, s8, s9, s10, s11, s12, s13, u14, .bool true, .pointer (some ⟨n16, 0, none⟩), s17, .pointer (some ⟨n18, 0, none⟩), s19, s20, s21, .pointer (some ⟨n22, 0, none⟩), s23, s24, s25, s26, .pointer (some ⟨nh, 0, none⟩), u28, u29, u30, u31, u32, u33, s34, s35, s36, s37, s38, s39, s40, s41, s42, s43, s44, s45, s46, s47, s48, s49, s50, s51, s52, s53, s54, s55, s56, s57, s58, s59, s60, s61, s62, s63, s64, s65, s66, s67, s68, s69, s70, s71, s72, s73, s74, s75, s76, s77, s78, s79, s80, s81, s82, s83, s84, s85, s86, s87, s88, s89, s90, s91, s92, s93, s94, s95, s96, s97, s98, s99, s100, s101, s102, s103, s104, s105, s106, s107, s108, s109, s110, s111, s112, s113, s114, s115, s116, s117, s118, s119, s120, s121, s122, s123, s124, s125, s126, s127, s128, s129, s130, s131, s132, s133, s134, s135, s136, s137, s138, s139, s140, .slice ap p.cells.length cap, .int .i64 (p.cells.length), u143, u144, u145, u146, u147, u148, u149, u150, u151, u152, u153, u154, u155, u156, u157, u158, u159, u160, u161, u162, u163, u164, u165, u166, u167, u168, u169, u170, u171, u172, u173, u174, u175, u176, u177, u178, u179, u180, u181, u182, u183, u184, u185, u186, u187, u188, u189, u190, u191, u192, u193, u194, u195, u196, u197, u198, u199, u200, u201, u202, u203, u204, u205, u206, u207, u208, u209, u210, s211, s212, s213, s214, s215, s216, s217, s218, s219, s220, s221, s222, s223, s224, s225, s226, s227, s228, s229, s230, s231, s232, s233, s234, s235, s236, s237, s238, s239, s240, s241, s242, s243, s244, s245, s246, s247, s248, s249, s250, s251, s252, s253, s254, s255, s256, s257, s258, s259, s260, s261, s262, s263, s264, s265, s266, s267, s268, s269, s270, s271, s272, s273, s274, s275, s276, s277, s278, s279, s280, s281, s282, s283, s284, s285, s286, s287, s288, s289, s290, s291, s292, s293, s294, s295, s296, s297, s298, s299, s300, s301, s302, s303, s304, s305, s306, s307, s308, s309, s310, s311, s312, s313, s314, s315, s316, s317, s318, s319, s320, s321, s322, s323, s324, s325, s326, s327, s328, s329, s330, s331, s332, s333, s334, s335, s336, s337, s338, s339, s340, s341, s342, s343, s344, s345, s346, s347, s348, s349, s350], []⟩ wc) : C.wp Try.prog Q ⟨#[s0, s1, s2, s3, s4, s5, s6, s7, s8, s9, s10, s11, s12, s13, s14, .bool true, .pointer (some ⟨n16, 0, none⟩), s17, .pointer (some ⟨n18, 0, none⟩), s19, s20, s21, .pointer (some ⟨n22, 0, none⟩), s23, s24, s25, s26, .pointer (some ⟨nh, 0, none⟩), s28, s29, s30, s31, s32, s33, s34, s35, s36, s37, s38, s39, s40, s41, s42, s43, s44, s45, s46, s47, s48, s49, s50, s51, s52, s53, s54, s55, s56, s57, s58, s59, s60, s61, s62, s63, s64, s65, s66, s67, s68, s69, s70, s71, s72, s73, s74, s75, s76, s77, s78, s79, s80, s81, s82, s83, s84, s85, s86, s87, s88, s89, s90, s91, s92, s93, s94, s95, s96, s97, s98, s99, s100, s101, s102, s103, s104, s105, s106, s107, s108, s109, s110, s111, s112, s113, s114, s115, s116, s117, s118, s119, s120, s121, s122, s123, s124, s125, s126, s127, s128, s129, s130, s131, s132, s133, s134, s135, s136, s137, s138, s139, s140, .slice ap p.cells.length cap, .int .i64 (p.cells.length), .int .i64 (0), s144, s145, s146, s147, s148, s149, s150, s151, s152, s153, s154, s155, s156, s157, s158, s159, s160, s161, s162, s163, s164, s165, s166, s167, s168, s169, s170, s171, s172, s173, s174, s175, s176, s177, s178, s179, s180, s181, s182, s183, s184, s185, s186, s187, s188, s189, s190, s191, s192, s193, s194, s195, s196, s197, s198, s199, s200, s201, s202, s203, s204, s205, s206, s207, s208, s209, s210, s211, s212, s213, s214, s215, s216, s217, s218, s219, s220, s221, s222, s223, s224, s225, s226, s227, s228, s229, s230, s231, s232, s233, s234, s235, s236, s237, s238, s239, s240, s241, s242, s243, s244, s245, s246, s247, s248, s249, s250, s251, s252, s253, s254, s255, s256, s257, s258, s259, s260, s261, s262, s263, s264, s265, s266, s267, s268, s269, s270, s271, s272, s273, s274, s275, s276, s277, s278, s279, s280, s281, s282, s283, s284, s285, s286, s287, s288, s289, s290, s291, s292, s293, s294, s295, s296, s297, s298, s299, s300, s301, s302, s303, s304, s305, s306, s307, s308, s309, s310, s311, s312, s313, s314, s315, s316, s317, s318, s319, s320, s321, s322, s323, s324, s325, s326, s327, s328, s329, s330, s331, s332, s333, s334, s335, s336, s337, s338, s339, s340, s341, s342, s343, s344, s345, s346, s347, s348, s349, s350], []⟩ w9 := by
  have e0 : (Try.f3.body.bind fun c => blkOf c 0) = some (.block 0 _) := rfl
  rw [e0] at hC
  cases hC
  clear e0
  try dsimp only at hK ⊢
  have HK := Lib.hid hK
  clear hK
  have HR := Lib.hid hR
  have HP := Lib.hid hQ
  have HX := Lib.hid hx
  have HQ := Lib.hid hq
  have K22 := Lib.hid b22
  have K16 := Lib.hid b16
  have K18 := Lib.hid b18
  have HCP := Lib.hid hcs
  have HCQ := Lib.hid hds
  have HA := Lib.hid ha
  have HB := Lib.hid hb
  clear hR hQ hx hq b22 b16 b18 hcs hds ha hb
  go_wp2
  go_loopw [143] (fun i wr => ∃ (k : Nat) (vw va vb : Value), k ≤ p.cells.length ∧ i = .int .i64 k ∧ (LSt 29 46 52 49 B nh ng nf a b n fa w0 wr (vw) (va) (vb) (((p.cells.take (k)).map fun c => ⟨c.wlo, c.whi⟩)) (((p.cells.take (k)).map (volG a))) (((q.cells.take (k)).map (volG b)))) ∧ (∀ j, j < k → volHi (cellAt p j) a ≤ 10000000 ∧ volHi (cellAt q j) b ≤ 10000000)) (fun i _ => p.cells.length - (intOf i).toNat)
  case atStart => exact ⟨0, _, _, _, Nat.zero_le _, rfl, h, fun j hj => absurd hj (by omega)⟩
  case round =>
    clear h
    obtain ⟨k, vw, va, vb, hk, rfl, h, hv⟩ := hrel
    have hkw := h.kept
    by_cases hlt : k < p.cells.length
    · have d1 : decide ((k : Int) < (p.cells.length : Int)) = true := by simp; omega
      have wk := i64_w (n := (k : Int) + 1) (by omega)
      go_upto_region 21 with fail
      refine tg_21 _ rfl _ (HX.out.later hkw (Nat.le_refl _)) hlt ?_
      rintro nc _ _ _ wc ⟨bc, hnc, hk1⟩
      go_upto_region 22 with fail
      refine tg_22 _ rfl _ bc ((K16.out.keep hkw).keep hk1) (HCP.out k hlt) HA.out ?_
      rintro nA _ _ _ _ _ _ wd ⟨bA, hnA, hk2⟩
      go_upto_region 23 with fail
      refine tg_23 _ rfl _ (((K22.out.keep hkw).keep hk1).keep hk2) (((K18.out.keep hkw).keep hk1).keep hk2) (((HQ.out.later hkw (Nat.le_refl _)).later hk1 (Nat.le_refl _)).later hk2 (Nat.le_refl _)) hcp (by omega) (HCQ.out k hlt) HB.out ?_
      rintro nB _ _ _ _ _ _ _ _ _ _ we ⟨bB, hnB, hk3⟩
      go_upto_region 26 with fail
      refine tg_26 _ rfl _ (bA.keep hk3) bB ?_
      rintro v _ _ _ _ _ _ _ wf ⟨hv6, hk4⟩
      have q1 := hk1.size
      have q2 := hk2.size
      have q3 := hk3.size
      have q4 := hk4.size
      have hkf : Kept wr wf := Kept.drop (Kept.drop (Kept.drop hk1 hk2) hk3) hk4
      cases v with
      | true =>
        go_wp2
        exact HR.out _ _ _ _ _ _ _ _ _ _ _ _ _ _ _ _ _ _ _ _ _ _ _ _ _ _ _ _ _ _ _ _ _ _ _ _ _ _ _ _ _ _ _ _ _ _ _ _ _ _ _ _ _ _ _ _ _ _ _ _ _ _ _ _ _ _ _ _ _ _ _ _ _ _ _ (Kept.drop hkw hkf)
      | false =>
        have h4 := h.keep hkf
        have hB4 := h.hB
        have hh4 := h.lh
        have hg4 := h.lg
        go_upto_region 28 with fail
        refine tg_28 _ rfl _ h4 (((bc.keep hk2).keep hk3).keep hk4) (by simp; omega) ?_
        rintro vw2 _ _ _ _ _ _ _ wg ⟨h5, hm5, hb5, hs5⟩
        have bA5 := hb5 nA _ _ (by omega) (own_lt h.ow (by omega)) ((bA.keep hk3).keep hk4)
        have bB5 := hb5 nB _ _ (by omega) (own_lt h.ow (by omega)) (bB.keep hk4)
        go_upto_region 29 with fail
        refine tg_29 _ rfl _ (fun c a d v w h => HP.out c a d v w h) (s := volG a (cellAt p k)) h5 bA5 (by simp; omega) (own_lt h.oa (by omega)) ?_
        rintro va2 _ _ _ _ _ _ _ _ _ _ _ _ wh ⟨h6, hm6, hb6, hs6⟩
        have bB6 := hb6 nB _ _ (by omega) (own_lt h.oa (by omega)) bB5
        go_upto_region 30 with fail
        refine tg_30 _ rfl _ (fun c a d v w h => HP.out c a d v w h) (s := volG b (cellAt q k)) h6 bB6 (by simp; omega) (own_lt h.ob (by omega)) ?_
        rintro vb2 _ _ _ _ _ _ _ _ _ _ _ _ wi ⟨h7, hm7, hb7, hs7⟩
        have e1 := take_map_next (fun c => (⟨c.wlo, c.whi⟩ : Sp)) p.cells hlt
        have e2 := take_map_next (volG a) p.cells hlt
        have e3 := take_map_next (volG b) q.cells (k := k) (by omega)
        have h8 := h7
        rw [show p.cells.getD k default = cellAt p k from rfl] at e1 e2
        rw [show q.cells.getD k default = cellAt q k from rfl] at e3
        rw [← e1, ← e2, ← e3] at h8
        have hv8 : (∀ j, j < k + 1 → volHi (cellAt p j) a ≤ 10000000 ∧ volHi (cellAt q j) b ≤ 10000000) := fun j hj => by
          by_cases e : j = k
          · subst e; exact hv6 rfl
          · exact hv j (by omega)
        clear e1 e2 e3 h7 hv6 hv h4 h5 h6 bA5 bB5 bB6 bc bA bB
        have H8 := Lib.hid h8
        have HV8 := Lib.hid hv8
        clear h8 hv8 hb5 hb6 hb7 hm5 hm6 hm7
        go_wp2
        go_round
        case rel => exact ⟨k + 1, vw2, va2, vb2, by omega, by go_num, H8.out, HV8.out⟩
        case measure => simp [intOf]; omega
    · obtain rfl : k = p.cells.length := by omega
      have d1 : decide ((p.cells.length : Int) < (p.cells.length : Int)) = false := by simp
      have h8 := h
      rw [List.take_length, show q.cells.take p.cells.length = q.cells by rw [← hlen, List.take_length]] at h8
      have H8 := Lib.hid h8
      have HV8 := Lib.hid hv
      clear h h8 hv
      go_wp2
      exact HK.out _ _ _ _ _ _ _ _ _ _ _ _ _ _ _ _ _ _ _ _ _ _ _ _ _ _ _ _ _ _ _ _ _ _ _ _ _ _ _ _ _ _ _ _ _ _ _ _ _ _ _ _ _ _ _ _ _ _ _ _ _ _ _ _ _ _ _ _ _ _ _ _ _ _ _ _ _ _ _ ⟨H8.out, HV8.out⟩
  
theorem tg_b2 {s0 s1 s2 s3 s4 s5 s6 s7 s8 s9 s10 s11 s12 s13 s14 s15 s16 s17 s18 s19 s21 s23 s25 s26 s27 s28 s29 s30 s31 s32 s33 s35 s38 s39 s40 s41 s42 s43 s44 s45 s46 s47 s48 s49 s50 s51 s52 s53 s54 s55 s56 s57 s58 s59 s60 s61 s62 s63 s64 s65 s66 s67 s68 s69 s70 s71 s72 s73 s74 s75 s76 s77 s78 s79 s80 s81 s82 s83 s84 s85 s86 s87 s88 s89 s90 s91 s92 s93 s94 s95 s96 s97 s98 s99 s100 s101 s102 s103 s104 s105 s106 s107 s108 s109 s110 s111 s112 s113 s114 s115 s116 s117 s118 s119 s120 s121 s122 s123 s124 s125 s126 s127 s128 s129 s130 s131 s132 s133 s134 s135 s136 s137 s138 s139 s140 s141 s142 s143 s144 s145 s146 s147 s148 s149 s150 s151 s152 s153 s154 s155 s156 s157 s158 s159 s160 s161 s162 s163 s164 s165 s166 s167 s168 s169 s170 s171 s172 s173 s174 s175 s176 s177 s178 s179 s180 s181 s182 s183 s184 s185 s186 s187 s188 s189 s190 s191 s192 s193 s194 s195 s196 s197 s198 s199 s200 s201 s202 s203 s204 s205 s206 s207 s208 s209 s210 s211 s212 s213 s214 s215 s216 s217 s218 s219 s220 s221 s222 s223 s224 s225 s226 s227 s228 s229 s230 s231 s232 s233 s234 s235 s236 s237 s238 s239 s240 s244 s245 s246 s247 s248 s249 s250 s251 s252 s253 s254 s255 s256 s257 s258 s259 s260 s261 s262 s263 s264 s265 s266 s267 s268 s269 s270 s271 s272 s273 s274 s275 s276 s277 s278 s279 s280 s281 s282 s283 s284 s285 s286 s287 s288 s289 s290 s291 s292 s293 s294 s295 s296 s297 s298 s299 s300 s301 s302 s303 s304 s305 s306 s307 s308 s309 s310 s311 s312 s313 s314 s315 s316 s317 s318 s319 s320 s321 s322 s323 s324 s325 s326 s327 s328 s329 s330 s331 s332 s333 s334 s335 s336 s337 s338 s339 s340 s341 s342 s343 s344 s345 s346 s347 s348 s349 s350 : Value} {n22 nl N cap cp cl m : Nat} {ap aq al : Option Addr} {p q : Plant} {g : Int} {L : List Sp} {w0 : World} {w9 : World} (C : Code) (hC : (Try.f3.body.bind fun c => blkOf c 2) = some C) (Q : Exit → Act → World → Prop) (hN : N = p.cells.length) (hk0 : Kept w0 w9) (hnl : w0.heap.size ≤ nl) (hx : Row Cell.cells 7 w0.heap.size w0 ap p.cells) (hq : Row Cell.cells 7 w0.heap.size w0 aq q.cells) (b22 : Blk w0 n22 #[.slice aq q.cells.length cp, .int .i64 q.bottles, .int .i64 q.inH, .int .i64 q.inA, .int .i64 q.vH, .int .i64 q.vA, .int .i64 q.lH, .int .i64 q.lA, .int .i64 q.pH, .int .i64 q.pA] 26) (hl : Row Sp.cells 2 w0.heap.size w0 al L) (bl : Blk w9 nl (ints (List.replicate N 0)) 3) (hlen : q.cells.length = p.cells.length) (h12 : p.cells.length ≤ 12) (hcs : ∀ i, i < p.cells.length → cellB (cellAt p i) = true) (hds : ∀ i, i < p.cells.length → cellB (cellAt q i) = true) (hlc : ∀ i, i < p.cells.length → 0 ≤ (lostC p.cells q.cells m g) i ∧ (lostC p.cells q.cells m g) i ≤ 20000000) (hal : ∀ i, i ≤ p.cells.length → 0 ≤ lostAll p.cells q.cells m g i ∧ lostAll p.cells q.cells m g i ≤ 20000000 * i) (hg : 0 ≤ g ∧ g ≤ 10000000) (hLN : L.length = p.cells.length) (hLi : ∀ c (hc : c < L.length), L[c].lo ≤ (lostC p.cells q.cells m g) c ∧ (lostC p.cells q.cells m g) c ≤ L[c].hi)
    (hK : ∀  (u14 u38 u39 u243 u244 u245 u246 u247 u248 u249 u250 u251 u252 u253 u254 u255 u256 u257 u258 u259 u260 u261 u262 u263 u264 u265 u266 u267 u268 u269 u270 u271 u272 u273 u274 u275 u276 u277 u278 u279 u280 u281 u282 u283 u284 u285 u286 u287 u288 u289 u290 u291 u292 u293 u294 u295 u296 u297 u298 u299 u300 u301 u302 u303 u304 u305 u306 u307 u308 : Value) (wc : World), (Blk wc nl (ints (lostL (lostC p.cells q.cells m g) p.cells.length p.cells.length)) 3 ∧ Kept w0 wc) → Q .normal ⟨#[s0, s1, s2, s3, s4, s5, s6, s7, s8, s9, s10, s11, s12, s13, u14, s15, s16, s17, s18, s19, .int .i64 ((m : Int)), s21, .pointer (some ⟨n22, 0, none⟩), s23, .int .i64 (g), s25, s26, s27, s28, s29, s30, s31, s32, s33, .slice al L.length cl, s35, .int .i64 (lostAll p.cells q.cells m g p.cells.length), .slice (some ⟨nl, 0, none⟩) N N, u38, u39, s40, s41, s42, s43, s44, s45, s46, s47, s48, s49, s50, s51, s52, s53, s54, s55, s56, s57, s58, s59, s60, s61, s62, s63, s64, s65, s66, s67, s68, s69, s70, s71, s72, s73, s74, s75, s76, s77, s78, s79, s80, s81, s82, s83, s84, s85, s86, s87, s88, s89, s90, s91, s92, s93, s94, s95, s96, s97, s98, s99, s100, s101, s102, s103, s104, s105, s106, s107, s108, s109, s110, s111, s112, s113, s114, s115, s116, s117, s118, s119, s120, s121, s122, s123, s124, s125, s126, s127, s128, s129, s130, s131, s132, s133, s134, s135, s136, s137, s138, s139, s140, s141, s142, s143, s144, s145, s146, s147, s148, s149, s150, s151, s152, s153, s154, s155, s156, s157, s158, s159, s160, s161, s162, s163, s164, s165, s166, s167, s168, s169, s170, s171, s172, s173, s174, s175, s176, s177, s178, s179, s180, s181, s182, s183, s184, s185, s186, s187, s188, s189, s190, s191, s192, s193, s194, s195, s196, s197, s198, s199, s200, s201, s202, s203, s204, s205, s206, s207, s208, s209, s210, s211, s212, s213, s214, s215, s216, s217, s218, s219, s220, s221, s222, s223, s224, s225, s226, s227, s228, s229, s230, s231, s232, s233, s234, s235, s236, s237, s238, s239, s240, .slice ap p.cells.length cap, .int .i64 (p.cells.length), u243, u244, u245, u246, u247, u248, u249, u250, u251, u252, u253, u254, u255, u256, u257, u258, u259, u260, u261, u262, u263, u264, u265, u266, u267, u268, u269, u270, u271, u272, u273, u274, u275, u276, u277, u278, u279, u280, u281, u282, u283, u284, u285, u286, u287, u288, u289, u290, u291, u292, u293, u294, u295, u296, u297, u298, u299, u300, u301, u302, u303, u304, u305, u306, u307, u308, s309, s310, s311, s312, s313, s314, s315, s316, s317, s318, s319, s320, s321, s322, s323, s324, s325, s326, s327, s328, s329, s330, s331, s332, s333, s334, s335, s336, s337, s338, s339, s340, s341, s342, s343, s344, s345, s346, s347, s348, s349, s350], []⟩ wc) : C.wp Try.prog Q ⟨#[s0, s1, s2, s3, s4, s5, s6, s7, s8, s9, s10, s11, s12, s13, s14, s15, s16, s17, s18, s19, .int .i64 ((m : Int)), s21, .pointer (some ⟨n22, 0, none⟩), s23, .int .i64 (g), s25, s26, s27, s28, s29, s30, s31, s32, s33, .slice al L.length cl, s35, .int .i64 (0), .slice (some ⟨nl, 0, none⟩) N N, s38, s39, s40, s41, s42, s43, s44, s45, s46, s47, s48, s49, s50, s51, s52, s53, s54, s55, s56, s57, s58, s59, s60, s61, s62, s63, s64, s65, s66, s67, s68, s69, s70, s71, s72, s73, s74, s75, s76, s77, s78, s79, s80, s81, s82, s83, s84, s85, s86, s87, s88, s89, s90, s91, s92, s93, s94, s95, s96, s97, s98, s99, s100, s101, s102, s103, s104, s105, s106, s107, s108, s109, s110, s111, s112, s113, s114, s115, s116, s117, s118, s119, s120, s121, s122, s123, s124, s125, s126, s127, s128, s129, s130, s131, s132, s133, s134, s135, s136, s137, s138, s139, s140, s141, s142, s143, s144, s145, s146, s147, s148, s149, s150, s151, s152, s153, s154, s155, s156, s157, s158, s159, s160, s161, s162, s163, s164, s165, s166, s167, s168, s169, s170, s171, s172, s173, s174, s175, s176, s177, s178, s179, s180, s181, s182, s183, s184, s185, s186, s187, s188, s189, s190, s191, s192, s193, s194, s195, s196, s197, s198, s199, s200, s201, s202, s203, s204, s205, s206, s207, s208, s209, s210, s211, s212, s213, s214, s215, s216, s217, s218, s219, s220, s221, s222, s223, s224, s225, s226, s227, s228, s229, s230, s231, s232, s233, s234, s235, s236, s237, s238, s239, s240, .slice ap p.cells.length cap, .int .i64 (p.cells.length), .int .i64 (0), s244, s245, s246, s247, s248, s249, s250, s251, s252, s253, s254, s255, s256, s257, s258, s259, s260, s261, s262, s263, s264, s265, s266, s267, s268, s269, s270, s271, s272, s273, s274, s275, s276, s277, s278, s279, s280, s281, s282, s283, s284, s285, s286, s287, s288, s289, s290, s291, s292, s293, s294, s295, s296, s297, s298, s299, s300, s301, s302, s303, s304, s305, s306, s307, s308, s309, s310, s311, s312, s313, s314, s315, s316, s317, s318, s319, s320, s321, s322, s323, s324, s325, s326, s327, s328, s329, s330, s331, s332, s333, s334, s335, s336, s337, s338, s339, s340, s341, s342, s343, s344, s345, s346, s347, s348, s349, s350], []⟩ w9 := by
  have e0 : (Try.f3.body.bind fun c => blkOf c 2) = some (.block 2 _) := rfl
  rw [e0] at hC
  cases hC
  clear e0
  try dsimp only at hK ⊢
  have HK := Lib.hid hK
  clear hK
  subst hN
  have HX := Lib.hid hx
  have HQ := Lib.hid hq
  have K22 := Lib.hid b22
  have HL := Lib.hid hl
  have HCP := Lib.hid hcs
  have HCQ := Lib.hid hds
  have HLC := Lib.hid hlc
  have HAL := Lib.hid hal
  have HLI := Lib.hid hLi
  rw [← lostL_zero (lostC p.cells q.cells m g)] at bl
  clear hx hq b22 hl hcs hds hlc hal hLi
  go_wp2
  go_loopw [243, 36] (fun i al_ wr => ∃ k : Nat, k ≤ p.cells.length ∧ i = .int .i64 k ∧ al_ = .int .i64 (lostAll p.cells q.cells m g k) ∧ Blk wr nl (ints (lostL (lostC p.cells q.cells m g) p.cells.length k)) 3 ∧ Kept w0 wr) (fun i _ _ => p.cells.length - (intOf i).toNat)
  case atStart => exact ⟨0, Nat.zero_le _, rfl, rfl, bl, hk0⟩
  case round =>
    clear bl hk0
    obtain ⟨k, hk, rfl, rfl, bl, hkw⟩ := hrel
    by_cases hlt : k < p.cells.length
    · have d1 : decide ((k : Int) < (p.cells.length : Int)) = true := by simp; omega
      have wk := i64_w (n := (k : Int) + 1) (by omega)
      go_upto_region 40 with fail
      refine tg_40 _ rfl _ (HX.out.later hkw (Nat.le_refl _)) hlt ?_
      rintro nc _ _ _ wc ⟨bc, hnc, hk1⟩
      have bl1 := bl.keep hk1
      go_upto_region 41 with fail
      refine tg_41 _ rfl _ bc ((K22.out.keep hkw).keep hk1) ((HQ.out.later hkw (Nat.le_refl _)).later hk1 (Nat.le_refl _)) (by omega) bl1 (lostL_len _ _ _) (by rw [lostL_len]; exact hlt) (HCP.out k hlt) (HCQ.out k hlt) ?_
      rintro _ _ _ _ _ _ _ _ _ _ _ _ _ _ _ _ _ _ _ _ _ _ wd ⟨bl2, hbt2⟩
      have q1 := hk1.size
      have hkd : Kept w0 wd := But.under (Kept.drop hkw hk1) hbt2 hnl
      have hlb := HLC.out k hlt
      have hab := HAL.out k hk
      have hLk : k < L.length := by omega
      have hF : (lostC p.cells q.cells m g) k = (cellAt p k).helium + (cellAt p k).air - (cellAt q k).helium - (cellAt q k).air - (if k = m then g else 0) := by
        simp only [lostC, amount, cAt_cell]; omega
      by_cases hm : k = m
      · rw [if_pos hm] at hF
        have dm : ((k : Int) == (m : Int)) = true := by rw [hm]; simp
        have dm2 : decide ((k : Int) = (m : Int)) = true := by rw [hm]; simp
        go_upto_region 43 with fail
        refine tg_43 _ rfl _ bl2 (by simp [lostL_len]) (by simp [lostL_len]; exact hlt) (by simp; omega) (by omega) ?_
        rintro _ _ _ _ _ _ _ we ⟨bl3, hbt3⟩
        rw [List.getElem_set_self, List.set_set, ← hF, lostL_set] at bl3
        have hKx : Kept w0 we := But.under hkd hbt3 hnl
        have hlN := lostL_len (lostC p.cells q.cells m g) p.cells.length (k + 1)
        have hlx : k < (lostL (lostC p.cells q.cells m g) p.cells.length (k + 1)).length := by omega
        have hget := lostL_get (lostC p.cells q.cells m g) p.cells.length (k + 1) hlx (by omega)
        clear bl1 bl2 bc hbt2 hbt3 hF dm2
        go_upto_region 44 with fail
        refine tg_44 _ rfl _ bl3 hlN hlx (by rw [hget]; omega) (by omega) ?_
        rintro _ _ _ _ _ _ wg hk5
        go_upto_region 45 with fail
        refine tg_45 _ rfl _ (bl3.keep hk5) hlN hlx (HL.out.later (Kept.drop hKx hk5) (Nat.le_refl _)) hLk (by rw [hget]; exact HLI.out k hLk) ?_
        rintro _ _ _ _ _ _ _ _ _ _ _ _ _ _ _ _ _ _ _ _ _ wh hk6
        have b8 := (bl3.keep hk5).keep hk6
        have k8 := Kept.drop (Kept.drop hKx hk5) hk6
        rw [hget]
        rw [← lostAll_succ]
        clear bl3 hk5 hk6
        go_wp2
        go_round
        case rel => exact ⟨k + 1, by omega, by go_num, rfl, b8, k8⟩
        case measure => simp [intOf]; omega
      · rw [if_neg hm] at hF
        have dm : ((k : Int) == (m : Int)) = false := by simp; omega
        have dm2 : decide ((k : Int) = (m : Int)) = false := by simp; omega
        rw [← show (lostC p.cells q.cells m g) k = (cellAt p k).helium + (cellAt p k).air - (cellAt q k).helium - (cellAt q k).air by omega, lostL_set] at bl2
        have hKx := hkd
        have hlN := lostL_len (lostC p.cells q.cells m g) p.cells.length (k + 1)
        have hlx : k < (lostL (lostC p.cells q.cells m g) p.cells.length (k + 1)).length := by omega
        have hget := lostL_get (lostC p.cells q.cells m g) p.cells.length (k + 1) hlx (by omega)
        clear bl1 bc hbt2 hF
        go_upto_region 44 with fail
        refine tg_44 _ rfl _ bl2 hlN hlx (by rw [hget]; omega) (by omega) ?_
        rintro _ _ _ _ _ _ wg hk5
        go_upto_region 45 with fail
        refine tg_45 _ rfl _ (bl2.keep hk5) hlN hlx (HL.out.later (Kept.drop hKx hk5) (Nat.le_refl _)) hLk (by rw [hget]; exact HLI.out k hLk) ?_
        rintro _ _ _ _ _ _ _ _ _ _ _ _ _ _ _ _ _ _ _ _ _ wh hk6
        have b8 := (bl2.keep hk5).keep hk6
        have k8 := Kept.drop (Kept.drop hKx hk5) hk6
        rw [hget]
        rw [← lostAll_succ]
        clear bl2 hk5 hk6
        go_wp2
        go_round
        case rel => exact ⟨k + 1, by omega, by go_num, rfl, b8, k8⟩
        case measure => simp [intOf]; omega
    · obtain rfl : k = p.cells.length := by omega
      have d1 : decide ((p.cells.length : Int) < (p.cells.length : Int)) = false := by simp
      go_wp2
      exact HK.out _ _ _ _ _ _ _ _ _ _ _ _ _ _ _ _ _ _ _ _ _ _ _ _ _ _ _ _ _ _ _ _ _ _ _ _ _ _ _ _ _ _ _ _ _ _ _ _ _ _ _ _ _ _ _ _ _ _ _ _ _ _ _ _ _ _ _ _ _ _ ⟨bl, hkw⟩
  
theorem tg_b4 {s0 s1 s2 s3 s4 s5 s6 s7 s8 s9 s10 s11 s12 s13 s14 s15 s16 s17 s18 s19 s20 s21 s22 s23 s24 s25 s26 s27 s28 s29 s30 s31 s32 s33 s34 s35 s36 s38 s39 s40 s41 s42 s43 s44 s45 s46 s47 s48 s49 s50 s51 s52 s53 s54 s55 s56 s57 s58 s59 s60 s61 s62 s63 s64 s65 s66 s67 s68 s69 s70 s71 s72 s73 s74 s75 s76 s77 s78 s79 s80 s81 s82 s83 s84 s85 s86 s87 s88 s89 s90 s91 s92 s93 s94 s95 s96 s97 s98 s99 s100 s101 s102 s103 s104 s105 s106 s107 s108 s109 s110 s111 s112 s113 s114 s115 s116 s117 s118 s119 s120 s121 s122 s123 s124 s125 s126 s127 s128 s129 s130 s131 s132 s133 s134 s135 s136 s137 s138 s139 s140 s141 s142 s143 s144 s145 s146 s147 s148 s149 s150 s151 s152 s153 s154 s155 s156 s157 s158 s159 s160 s161 s162 s163 s164 s165 s166 s167 s168 s169 s170 s171 s172 s173 s174 s175 s176 s177 s178 s179 s180 s181 s182 s183 s184 s185 s186 s187 s188 s189 s190 s191 s192 s193 s194 s195 s196 s197 s198 s199 s200 s201 s202 s203 s204 s205 s206 s207 s208 s209 s210 s211 s212 s213 s214 s215 s216 s217 s218 s219 s220 s221 s222 s223 s224 s225 s226 s227 s228 s229 s230 s231 s232 s233 s234 s235 s236 s237 s238 s239 s240 s241 s242 s243 s244 s245 s246 s247 s248 s249 s250 s251 s252 s253 s254 s255 s256 s257 s258 s259 s260 s261 s262 s263 s264 s265 s266 s267 s268 s269 s270 s271 s272 s273 s274 s275 s276 s277 s278 s279 s280 s281 s282 s283 s284 s285 s286 s287 s288 s289 s290 s291 s292 s293 s294 s295 s296 s297 s298 s299 s300 s301 s302 s303 s304 s305 s306 s307 s308 s312 s313 s314 s315 s316 s317 s318 s319 s320 s321 s322 s323 s324 s325 s326 s327 s328 s329 s330 s331 s332 s333 s334 s335 s336 s337 s338 s339 s340 s341 s342 s343 s344 s345 s346 s347 s348 s349 s350 : Value} {nl N cn : Nat} {an : Option Addr} {M LO : List Int} {w9 : World} (C : Code) (hC : (Try.f3.body.bind fun c => blkOf c 4) = some C) (Q : Exit → Act → World → Prop) (hLO : LO.length = N) (h12 : N ≤ 12) (hNM : ∀ i (hi : i < M.length), ∃ m : Nat, ∃ hm : m < LO.length, M[i] = m ∧ LO[m] ≠ 0) (hcN : M.length ≤ cn) (hmN : cn ≤ maxLen) (hr : Row icell 1 w9.heap.size w9 an M) (bl : Blk w9 nl (ints (LO)) 3)
    (hK : ∀  (u14 u41 u311 u312 u313 u314 u315 u316 u317 u318 u319 u320 u321 u322 u323 u324 u325 u326 u327 u328 u329 u330 : Value) (wc : World), (Blk wc nl (ints (LO)) 3 ∧ Kept w9 wc) → Q .normal ⟨#[s0, s1, s2, s3, s4, s5, s6, s7, s8, s9, s10, s11, s12, s13, u14, s15, s16, s17, s18, s19, s20, s21, s22, s23, s24, s25, s26, s27, s28, s29, s30, s31, s32, s33, s34, s35, s36, .slice (some ⟨nl, 0, none⟩) N N, s38, s39, s40, u41, s42, s43, s44, s45, s46, s47, s48, s49, s50, s51, s52, s53, s54, s55, s56, s57, s58, s59, s60, s61, s62, s63, s64, s65, s66, s67, s68, s69, s70, s71, s72, s73, s74, s75, s76, s77, s78, s79, s80, s81, s82, s83, s84, s85, s86, s87, s88, s89, s90, s91, s92, s93, s94, s95, s96, s97, s98, s99, s100, s101, s102, s103, s104, s105, s106, s107, s108, s109, s110, s111, s112, s113, s114, s115, s116, s117, s118, s119, s120, s121, s122, s123, s124, s125, s126, s127, s128, s129, s130, s131, s132, s133, s134, s135, s136, s137, s138, s139, s140, s141, s142, s143, s144, s145, s146, s147, s148, s149, s150, s151, s152, s153, s154, s155, s156, s157, s158, s159, s160, s161, s162, s163, s164, s165, s166, s167, s168, s169, s170, s171, s172, s173, s174, s175, s176, s177, s178, s179, s180, s181, s182, s183, s184, s185, s186, s187, s188, s189, s190, s191, s192, s193, s194, s195, s196, s197, s198, s199, s200, s201, s202, s203, s204, s205, s206, s207, s208, s209, s210, s211, s212, s213, s214, s215, s216, s217, s218, s219, s220, s221, s222, s223, s224, s225, s226, s227, s228, s229, s230, s231, s232, s233, s234, s235, s236, s237, s238, s239, s240, s241, s242, s243, s244, s245, s246, s247, s248, s249, s250, s251, s252, s253, s254, s255, s256, s257, s258, s259, s260, s261, s262, s263, s264, s265, s266, s267, s268, s269, s270, s271, s272, s273, s274, s275, s276, s277, s278, s279, s280, s281, s282, s283, s284, s285, s286, s287, s288, s289, s290, s291, s292, s293, s294, s295, s296, s297, s298, s299, s300, s301, s302, s303, s304, s305, s306, s307, s308, .slice an M.length cn, .int .i64 (M.length), u311, u312, u313, u314, u315, u316, u317, u318, u319, u320, u321, u322, u323, u324, u325, u326, u327, u328, u329, u330, s331, s332, s333, s334, s335, s336, s337, s338, s339, s340, s341, s342, s343, s344, s345, s346, s347, s348, s349, s350], []⟩ wc) : C.wp Try.prog Q ⟨#[s0, s1, s2, s3, s4, s5, s6, s7, s8, s9, s10, s11, s12, s13, s14, s15, s16, s17, s18, s19, s20, s21, s22, s23, s24, s25, s26, s27, s28, s29, s30, s31, s32, s33, s34, s35, s36, .slice (some ⟨nl, 0, none⟩) N N, s38, s39, s40, s41, s42, s43, s44, s45, s46, s47, s48, s49, s50, s51, s52, s53, s54, s55, s56, s57, s58, s59, s60, s61, s62, s63, s64, s65, s66, s67, s68, s69, s70, s71, s72, s73, s74, s75, s76, s77, s78, s79, s80, s81, s82, s83, s84, s85, s86, s87, s88, s89, s90, s91, s92, s93, s94, s95, s96, s97, s98, s99, s100, s101, s102, s103, s104, s105, s106, s107, s108, s109, s110, s111, s112, s113, s114, s115, s116, s117, s118, s119, s120, s121, s122, s123, s124, s125, s126, s127, s128, s129, s130, s131, s132, s133, s134, s135, s136, s137, s138, s139, s140, s141, s142, s143, s144, s145, s146, s147, s148, s149, s150, s151, s152, s153, s154, s155, s156, s157, s158, s159, s160, s161, s162, s163, s164, s165, s166, s167, s168, s169, s170, s171, s172, s173, s174, s175, s176, s177, s178, s179, s180, s181, s182, s183, s184, s185, s186, s187, s188, s189, s190, s191, s192, s193, s194, s195, s196, s197, s198, s199, s200, s201, s202, s203, s204, s205, s206, s207, s208, s209, s210, s211, s212, s213, s214, s215, s216, s217, s218, s219, s220, s221, s222, s223, s224, s225, s226, s227, s228, s229, s230, s231, s232, s233, s234, s235, s236, s237, s238, s239, s240, s241, s242, s243, s244, s245, s246, s247, s248, s249, s250, s251, s252, s253, s254, s255, s256, s257, s258, s259, s260, s261, s262, s263, s264, s265, s266, s267, s268, s269, s270, s271, s272, s273, s274, s275, s276, s277, s278, s279, s280, s281, s282, s283, s284, s285, s286, s287, s288, s289, s290, s291, s292, s293, s294, s295, s296, s297, s298, s299, s300, s301, s302, s303, s304, s305, s306, s307, s308, .slice an M.length cn, .int .i64 (M.length), .int .i64 (0), s312, s313, s314, s315, s316, s317, s318, s319, s320, s321, s322, s323, s324, s325, s326, s327, s328, s329, s330, s331, s332, s333, s334, s335, s336, s337, s338, s339, s340, s341, s342, s343, s344, s345, s346, s347, s348, s349, s350], []⟩ w9 := by
  have e0 : (Try.f3.body.bind fun c => blkOf c 4) = some (.block 4 _) := rfl
  rw [e0] at hC
  cases hC
  clear e0
  try dsimp only at hK ⊢
  have HK := Lib.hid hK
  clear hK
  have HNM := Lib.hid hNM
  have hn : M.length ≤ 9223372036854775807 := by unfold maxLen at hmN; omega
  have LOH := Lib.hid hLO
  clear hNM hLO
  go_wp2
  go_loopw [311] (fun i wr => ∃ c : Nat, c ≤ M.length ∧ i = .int .i64 c ∧ Blk wr nl (ints (LO)) 3 ∧ Kept w9 wr) (fun i _ => M.length - (intOf i).toNat)
  case atStart => exact ⟨0, Nat.zero_le _, rfl, bl, Below.refl _ _⟩
  case round =>
    clear bl
    obtain ⟨c, hc, rfl, bl, hk⟩ := hrel
    by_cases hlt : c < M.length
    · obtain ⟨m, hm, hme, hm0⟩ := HNM.out c hlt
      obtain ⟨bz, oz, rfl, _, c0⟩ := int_row (hr.later hk (Nat.le_refl _)) c hlt
      rw [hme] at c0
      have e0 := (bl.cell m).trans (intsG_get hm)
      generalize LO[m] = u at e0 hm0
      have hmN_ : m < N := by rw [← LOH.out]; exact hm
      have d0 : decide ((c : Int) < (M.length : Int)) = true := by simp; omega
      have d1 : decide ((m : Int) < 0) = false := by simp
      have d2 : decide ((N : Int) ≤ (m : Int)) = false := by simp; omega
      have d2' : decide (N ≤ m) = false := by simp; omega
      have d3 : (u == 0) = false := by simp [hm0]
      have d4 : decide (u = 0) = false := by simp [hm0]
      have i0 : (0 : Int) ≤ (m : Int) := by omega
      have i1 : (m : Int) < (N : Int) := by omega
      have j0 : (0 : Int) ≤ (c : Int) := by omega
      have j1 : (c : Int) < (M.length : Int) := by omega
      have w2 := i64_w (n := (c : Int) + 1) (by omega)
      clear hme hm0 hm hmN_
      go_wp2
      go_round
      case rel => exact ⟨c + 1, by omega, by go_num, bl, hk⟩
      case measure => simp [intOf]; omega
    · obtain rfl : c = M.length := by omega
      have d1 : decide ((M.length : Int) < (M.length : Int)) = false := by simp
      go_wp2
      exact HK.out _ _ _ _ _ _ _ _ _ _ _ _ _ _ _ _ _ _ _ _ _ _ _ ⟨bl, hk⟩

end Go.Proofs.Ytnfhcpnpjkefmaa
