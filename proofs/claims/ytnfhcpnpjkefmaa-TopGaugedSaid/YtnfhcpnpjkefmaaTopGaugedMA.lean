/-
  TopGauged, the statement: for every input the call returns true and leaves the input alone.
-/
import Derived.Test.YtnfhcpnpjkefmaaTopGBaseM
import Derived.WalkKit
import Derived.WalkSpells
import Derived.WalkLawsBesides
import Derived.Lib.Hide
import Derived.ProofKit
import Derived.OpenShut
import Derived.ChangeOld
import Derived.Below
import Derived.Deep.Slices
import Derived.Deep.Fields
import Derived.Deep.Quiet
import Derived.Laws.AppendOwn
import Derived.Laws.AppendOwnNone
import Derived.Test.YtnfhcpnpjkefmaaProg
import Derived.Deep.RegionHeld3
import Derived.Deep.DeepCutAuto
import Derived.Deep.LoopGhost
import Derived.BigQuiet
import Derived.BigRegion
import Derived.Deep.RegionWith
import Derived.Lib.SliceRun
import Derived.Laws.EntriesVeiled
import Derived.Deep.CutBlock
set_option linter.unusedVariables false
set_option linter.unusedSimpArgs false
namespace Bal
open Go Go.RowKit Go.ChangeShapes Go.WideShapes

theorem bcell {W w1 : World} (hb : Below W.heap.size W w1) : (∀ b o, b < W.heap.size → w1.cell? ⟨b, o, none⟩ = W.cell? ⟨b, o, none⟩) ∧ (∀ b o, b < W.heap.size → w1.frozen? ⟨b, o, none⟩ = W.frozen? ⟨b, o, none⟩) :=
  ⟨fun b o h => hb.cell (p := ⟨b, o, none⟩) h, fun b o h => hb.frozen (p := ⟨b, o, none⟩) h⟩

/-! ### Slices that a call has made itself, element by element -/
/-! ### A block of the call's own, known whole -/
/-! ### Cells that are numbers or bools, whatever structs they lie in -/
section
variable {H : Type} {enc : TypeId × Value → H} {P : Program} {w : World} {base : Nat} {spare : Nat → Bool} {held : Bool}

end

/-! ### Regions that draw their order and only read or call: one walk of the text's order -/
instance {w : World} : Nonempty (Later w) := ⟨⟨w, Below.refl _ _⟩⟩

end Bal

namespace Bal.Gas
open Go Go.RowKit Bal Bal.Trim
set_option linter.unusedVariables false
end Bal.Gas
namespace Bal
open Go Go.RowKit
end Bal
namespace Bal.Gas
open Go Go.RowKit Bal Bal.Trim
theorem owns_setLt {w : World} {b base k n i : Nat} {e : TypeId} {v u : Value} {xs : List Value} (hb : b < base) (ho : w.ownsRow base e k v n xs) : (w.setCell ⟨b, i, none⟩ u).ownsRow base e k v n xs := by
  refine owns_setB ho fun he => ?_
  obtain ⟨_, ⟨rfl, _⟩ | ⟨g, cap, cur, rfl, hbg, _, _⟩⟩ := ho
  · cases he
  · simp only [Value.ownBlock, Option.some.injEq] at he
    omega
section
variable {TA TS TH TI TG TF : TypeId} {B b7 b8 b13 bA bL : Nat} {x : Air} {wl wh : Int} {w wr : World} {vw vg vf : Value} {am lo : List Int} {W : List Sp} {G : List Gauge} {F : List Flow}
/-- behind an append to the superheats -/
theorem NSt.appW (h : NSt TA TS TH TI TG TF B b7 b8 b13 bA bL x wl wh w wr vw vg vf am lo W [] []) (hG : TG ≠ TS) (hF : TF ≠ TS) {w' : World} {v' : Value} {s : Sp} (ho : w'.ownsRow B TS 2 v' (W.length + 1) (W.flatMap Sp.cells ++ s.cells)) (hg : wr.grownBy w' vw.ownBlock) :
    NSt TA TS TH TI TG TF B b7 b8 b13 bA bL x wl wh w (w'.setCell ⟨b13, 0, none⟩ v') v' vg vf am lo (W ++ [s]) [] [] := by
  have hk : Kept w w' := Kept.grown h.kept h.ow (Nat.le_trans h.b0.1 (Nat.le_of_lt h.l13)) hg
  refine ⟨h.l7, h.l8, h.l13, h.lA, h.lL, h.n7, h.n8, h.n13, h.nA, h.b0, by simpa using Nat.le_trans h.hB hg.size, (h.air.grownLt h.l7 h.ow hg).other (Ne.symm h.n7.1) _, (h.wm.grownLt h.l8 h.ow hg).other (Ne.symm h.n8.1) _, (h.hist.grownLt h.l13 h.ow hg).set 0 v',
    (h.am.grownLt h.lA h.ow hg).other h.n13.1 _, (h.lo.grownLt h.lL h.ow hg).other h.n13.2 _, ?_, owns_setLt h.l13 (owns_grownT h.og h.ow hG hg), owns_setLt h.l13 (owns_grownT h.of h.ow hF hg), fun g hg => (by cases hg), hk.setCell h.b0.1 _⟩
  rw [List.length_append, List.flatMap_append, List.length_singleton, List.flatMap_singleton]
  exact owns_setLt h.l13 ho
end
end Bal.Gas

/-
  Soundings and how they settle: plain Lean, no program in sight.
-/
namespace Bal.Wx
open Bal.Trim
structure Lev where
  ht : Int
  plo : Int
  phi : Int
  tlo : Int
  thi : Int
  deriving DecidableEq, Inhabited
/-- what a pressure may be above, or below: c and w are the temperatures, s the climb -/
def upLo (c s p : Int) : Int := p * (c - s) / c
def upHi (w s p : Int) : Int := (p * w + w + s - 1) / (w + s)
def dnLo (w s p : Int) : Int := p * (w + s) / w
def dnHi (c s p : Int) : Int := (p * c + c - s - 1) / (c - s)
def coldOf (a b : Lev) : Int := 1000000 * min a.tlo b.tlo
def warmOf (a b : Lev) : Int := 1000000 * max a.thi b.thi
def fallOf (a b : Lev) : Int := 341632 * (b.ht - a.ht)
/-- what the level a below says of b -/
def upL (a b : Lev) : Lev := { b with plo := max b.plo (upLo (coldOf a b) (fallOf a b) a.plo), phi := min b.phi (upHi (warmOf a b) (fallOf a b) a.phi) }
/-- what the level b above says of a -/
def dnL (a b : Lev) : Lev := { a with plo := max a.plo (dnLo (warmOf a b) (fallOf a b) b.plo), phi := min a.phi (dnHi (coldOf a b) (fallOf a b) b.phi) }
def lAt (l : List Lev) (i : Nat) : Lev := l.getD i default
def fwdK (l : List Lev) : Nat → List Lev
  | 0 => l
  | k + 1 => (fwdK l k).set (k + 1) (upL (lAt (fwdK l k) k) (lAt (fwdK l k) (k + 1)))
def bwdK (l : List Lev) : Nat → List Lev
  | 0 => l
  | k + 1 => (bwdK l k).set (l.length - 2 - k) (dnL (lAt (bwdK l k) (l.length - 2 - k)) (lAt (bwdK l k) (l.length - 1 - k)))
def sweep (l : List Lev) : List Lev := bwdK (fwdK l (l.length - 1)) (l.length - 1)
/-- a valid sounding -/
structure Snd (l : List Lev) : Prop where
  n2 : 2 ≤ l.length
  n16 : l.length ≤ 16
  ht : ∀ i, i < l.length → -500 ≤ (lAt l i).ht ∧ (lAt l i).ht ≤ 9000
  up : ∀ i, i + 1 < l.length → 1 ≤ (lAt l (i + 1)).ht - (lAt l i).ht ∧ (lAt l (i + 1)).ht - (lAt l i).ht ≤ 2000
  pr : ∀ i, i < l.length → 1000 ≤ (lAt l i).plo ∧ (lAt l i).plo ≤ (lAt l i).phi ∧ (lAt l i).phi ≤ 12000
  te : ∀ i, i < l.length → 1500 ≤ (lAt l i).tlo ∧ (lAt l i).tlo ≤ (lAt l i).thi ∧ (lAt l i).thi ≤ 3500
/-- the same levels, with other pressures of at most B -/
structure Near (l : List Lev) (B : Int) (m : List Lev) : Prop where
  len : m.length = l.length
  ht : ∀ i, i < l.length → (lAt m i).ht = (lAt l i).ht
  tlo : ∀ i, i < l.length → (lAt m i).tlo = (lAt l i).tlo
  thi : ∀ i, i < l.length → (lAt m i).thi = (lAt l i).thi
  lo : ∀ i, i < l.length → 1000 ≤ (lAt m i).plo ∧ (lAt m i).plo ≤ B
  hi : ∀ i, i < l.length → 0 ≤ (lAt m i).phi ∧ (lAt m i).phi ≤ 12000
theorem lAt_set (l : List Lev) (i j : Nat) (x : Lev) (hi : i < l.length) : lAt (l.set i x) j = if i = j then x else lAt l j := by
  unfold lAt
  by_cases e : i = j
  · subst e; simp [List.getD_eq_getElem?_getD, hi]
  · simp [List.getD_eq_getElem?_getD, e]
theorem lAt_get {l : List Lev} {i : Nat} (hi : i < l.length) : lAt l i = l[i] := by simp [lAt, hi]
theorem lev_ext {l m : List Lev} (hl : l.length = m.length) (h : ∀ i, i < l.length → lAt l i = lAt m i) : l = m := by
  refine List.ext_getElem hl fun i h1 h2 => ?_
  have := h i h1
  rwa [lAt_get h1, lAt_get h2] at this
theorem fwdK_len (l : List Lev) : ∀ k, (fwdK l k).length = l.length
  | 0 => rfl
  | k + 1 => by simp only [fwdK, List.length_set]; exact fwdK_len l k
theorem bwdK_len (l : List Lev) : ∀ k, (bwdK l k).length = l.length
  | 0 => rfl
  | k + 1 => by simp only [bwdK, List.length_set]; exact bwdK_len l k
theorem sweep_len (l : List Lev) : (sweep l).length = l.length := by unfold sweep; rw [bwdK_len, fwdK_len]
/-- the numbers of a pair of neighbours -/
structure Pair (c w s : Int) : Prop where
  c0 : 1500000000 ≤ c
  cw : c ≤ w
  w1 : w ≤ 3500000000
  s0 : 0 < s
  s1 : s ≤ 683264000
theorem Near.pair {l m : List Lev} {B : Int} (hl : Snd l) (hm : Near l B m) {i : Nat} (hi : i + 1 < l.length) : Pair (coldOf (lAt m i) (lAt m (i + 1))) (warmOf (lAt m i) (lAt m (i + 1))) (fallOf (lAt m i) (lAt m (i + 1))) ∧
    coldOf (lAt m i) (lAt m (i + 1)) = coldOf (lAt l i) (lAt l (i + 1)) ∧ warmOf (lAt m i) (lAt m (i + 1)) = warmOf (lAt l i) (lAt l (i + 1)) ∧ fallOf (lAt m i) (lAt m (i + 1)) = fallOf (lAt l i) (lAt l (i + 1)) := by
  have t0 := hl.te i (by omega)
  have t1 := hl.te (i + 1) hi
  have u := hl.up i hi
  have e1 := hm.ht i (by omega)
  have e2 := hm.ht (i + 1) hi
  have e3 := hm.tlo i (by omega)
  have e4 := hm.tlo (i + 1) hi
  have e5 := hm.thi i (by omega)
  have e6 := hm.thi (i + 1) hi
  unfold coldOf warmOf fallOf
  rw [e1, e2, e3, e4, e5, e6]
  exact ⟨⟨by omega, by omega, by omega, by omega, by omega⟩, rfl, rfl, rfl⟩
variable {c w s p : Int}
theorem Pair.mul (h : Pair c w s) : (w + s) * (c - s) ≤ w * c := by
  have h1 := h.cw
  have h2 := h.s0
  have e : (w + s) * (c - s) = w * c - w * s + (s * c - s * s) := by rw [Int.add_mul, Int.mul_sub, Int.mul_sub]
  have e2 : s * (w - c) = s * w - s * c := Int.mul_sub ..
  have e3 : w * s = s * w := Int.mul_comm ..
  have m1 := Int.mul_nonneg (show 0 ≤ s by omega) (show 0 ≤ w - c by omega)
  have m2 := Int.mul_nonneg (show 0 ≤ s by omega) (show 0 ≤ s by omega)
  omega
theorem upLo_bd (h : Pair c w s) (hp : 0 ≤ p) : 0 ≤ upLo c s p ∧ upLo c s p ≤ p := by
  have h1 := h.c0; have h2 := h.s0; have h3 := h.s1
  unfold upLo
  refine ⟨Int.ediv_nonneg (Int.mul_nonneg hp (by omega)) (by omega), Int.ediv_le_of_le_mul (by omega) ?_⟩
  exact Int.mul_le_mul_of_nonneg_left (by omega) hp
theorem upHi_nonneg (h : Pair c w s) (hp : 0 ≤ p) : 0 ≤ upHi w s p := by
  have h1 := h.c0; have h2 := h.s0; have h3 := h.cw
  have m := Int.mul_nonneg hp (show 0 ≤ w by omega)
  exact Int.ediv_nonneg (by omega) (by omega)
theorem dnHi_nonneg (h : Pair c w s) (hp : 0 ≤ p) : 0 ≤ dnHi c s p := by
  have h1 := h.c0; have h2 := h.s0; have h3 := h.s1
  have m := Int.mul_nonneg hp (show 0 ≤ c by omega)
  exact Int.ediv_nonneg (by omega) (by omega)
theorem dnLo_bd (h : Pair c w s) (hp : 0 ≤ p) : 0 ≤ dnLo w s p ∧ dnLo w s p ≤ 2 * p := by
  have h1 := h.c0; have h2 := h.s0; have h3 := h.s1; have h4 := h.cw
  unfold dnLo
  refine ⟨Int.ediv_nonneg (Int.mul_nonneg hp (by omega)) (by omega), Int.ediv_le_of_le_mul (by omega) ?_⟩
  have := Int.mul_le_mul_of_nonneg_left (show w + s ≤ 2 * w by omega) hp
  rw [Int.mul_comm 2 p, Int.mul_assoc]
  exact this
theorem lo_back (h : Pair c w s) (hp : 0 ≤ p) : upLo c s (dnLo w s p) ≤ p := by
  have h1 := h.c0; have h2 := h.s0; have h3 := h.s1; have h4 := h.cw
  unfold upLo
  refine Int.ediv_le_of_le_mul (by omega) ?_
  have q1 : dnLo w s p * w ≤ p * (w + s) := Int.ediv_mul_le _ (by omega)
  have q2 : dnLo w s p * w * (c - s) ≤ p * (w + s) * (c - s) := Int.mul_le_mul_of_nonneg_right q1 (by omega)
  have q3 : p * ((w + s) * (c - s)) ≤ p * (w * c) := Int.mul_le_mul_of_nonneg_left h.mul hp
  rw [Int.mul_assoc p] at q2
  have q4 : w * (dnLo w s p * (c - s)) ≤ w * (p * c) := by
    have e1 : w * (dnLo w s p * (c - s)) = dnLo w s p * w * (c - s) := by rw [Int.mul_comm (dnLo w s p) w, Int.mul_assoc]
    have e2 : w * (p * c) = p * (w * c) := by rw [← Int.mul_assoc, Int.mul_comm w p, Int.mul_assoc]
    omega
  exact Int.le_of_mul_le_mul_left q4 (by omega)
theorem hi_back (h : Pair c w s) (hp : 0 ≤ p) : p ≤ upHi w s (dnHi c s p) := by
  have h1 := h.c0; have h2 := h.s0; have h3 := h.s1; have h4 := h.cw
  have d1 := Int.lt_mul_ediv_self_add (x := p * c + c - s - 1) (k := c - s) (by omega)
  have q1 : p * c ≤ dnHi c s p * (c - s) := by
    unfold dnHi
    rw [Int.mul_comm (_ / _)]
    omega
  have q2 : p * c * w ≤ dnHi c s p * (c - s) * w := Int.mul_le_mul_of_nonneg_right q1 (by omega)
  have q3 : p * ((w + s) * (c - s)) ≤ p * (w * c) := Int.mul_le_mul_of_nonneg_left h.mul hp
  have q4 : (c - s) * (p * (w + s)) ≤ (c - s) * (dnHi c s p * w) := by
    have e1 : (c - s) * (p * (w + s)) = p * ((w + s) * (c - s)) := by rw [← Int.mul_assoc, Int.mul_comm (c - s) p, Int.mul_assoc, Int.mul_comm (c - s)]
    have e2 : (c - s) * (dnHi c s p * w) = dnHi c s p * (c - s) * w := by rw [← Int.mul_assoc, Int.mul_comm (c - s)]
    have e3 : p * (w * c) = p * c * w := by rw [Int.mul_comm w c, Int.mul_assoc]
    omega
  have q5 := Int.le_of_mul_le_mul_left q4 (by omega)
  unfold upHi
  rw [Int.le_ediv_iff_mul_le (by omega)]
  omega
variable {l m : List Lev} {B : Int}
theorem Near.self (hl : Snd l) : Near l 12000 l := ⟨rfl, fun _ _ => rfl, fun _ _ => rfl, fun _ _ => rfl, fun i hi => by have := hl.pr i hi; omega, fun i hi => by have := hl.pr i hi; omega⟩
theorem Near.mono (h : Near l B m) {B' : Int} (hB : B ≤ B') : Near l B' m := ⟨h.len, h.ht, h.tlo, h.thi, fun i hi => by have := h.lo i hi; omega, h.hi⟩
theorem Near.set (h : Near l B m) {i : Nat} (hi : i < l.length) {x : Lev} (h1 : x.ht = (lAt m i).ht) (h2 : x.tlo = (lAt m i).tlo) (h3 : x.thi = (lAt m i).thi) {B' : Int} (hB : B ≤ B') (h4 : 1000 ≤ x.plo ∧ x.plo ≤ B') (h5 : 0 ≤ x.phi ∧ x.phi ≤ 12000) : Near l B' (m.set i x) := by
  have hl := h.len
  refine ⟨by rw [List.length_set]; exact hl, fun j hj => ?_, fun j hj => ?_, fun j hj => ?_, fun j hj => ?_, fun j hj => ?_⟩ <;> rw [lAt_set _ _ _ _ (by omega)] <;> split
  · rename_i e; subst e; rw [h1]; exact h.ht _ hj
  · exact h.ht _ hj
  · rename_i e; subst e; rw [h2]; exact h.tlo _ hj
  · exact h.tlo _ hj
  · rename_i e; subst e; rw [h3]; exact h.thi _ hj
  · exact h.thi _ hj
  · exact h4
  · have := h.lo j hj; omega
  · exact h5
  · exact h.hi j hj
theorem Near.up (hl : Snd l) (h : Near l B m) {i : Nat} (hi : i + 1 < l.length) : Near l B (m.set (i + 1) (upL (lAt m i) (lAt m (i + 1)))) := by
  obtain ⟨q, _⟩ := h.pair hl hi
  have a := h.lo i (by omega)
  have b := h.lo (i + 1) hi
  have c := h.hi i (by omega)
  have d := h.hi (i + 1) hi
  have u := upLo_bd q (p := (lAt m i).plo) (by omega)
  have v := upHi_nonneg q (p := (lAt m i).phi) (by omega)
  refine h.set (x := upL (lAt m i) (lAt m (i + 1))) hi rfl rfl rfl (Int.le_refl _) ?_ ?_ <;> simp only [upL] <;> omega
theorem Near.dn (hl : Snd l) (h : Near l B m) {i : Nat} (hi : i + 1 < l.length) (hB : 1000 ≤ B) : Near l (2 * B) (m.set i (dnL (lAt m i) (lAt m (i + 1)))) := by
  obtain ⟨q, _⟩ := h.pair hl hi
  have a := h.lo i (by omega)
  have b := h.lo (i + 1) hi
  have c := h.hi i (by omega)
  have d := h.hi (i + 1) hi
  have u := dnLo_bd q (p := (lAt m (i + 1)).plo) (by omega)
  have v := dnHi_nonneg q (p := (lAt m (i + 1)).phi) (by omega)
  refine h.set (x := dnL (lAt m i) (lAt m (i + 1))) (by omega) rfl rfl rfl (by omega) ?_ ?_ <;> simp only [dnL] <;> omega
theorem fwdK_near (hl : Snd l) (h : Near l B m) : ∀ k, k < l.length → Near l B (fwdK m k)
  | 0, _ => h
  | k + 1, hk => (fwdK_near hl h k (by omega)).up hl hk
theorem bwdK_near (hl : Snd l) (h : Near l B m) (hB : 1000 ≤ B) : ∀ k, k < l.length → Near l (2 ^ k * B) (bwdK m k)
  | 0, _ => h.mono (by omega)
  | k + 1, hk => by
    have ih := bwdK_near hl h hB k (by omega)
    have hp : (1 : Int) ≤ 2 ^ k := by
      have : (0 : Int) < 2 ^ k := Int.pow_pos (by decide)
      omega
    have hb : 1 * B ≤ 2 ^ k * B := Int.mul_le_mul_of_nonneg_right hp (by omega)
    have := ih.dn hl (i := l.length - 2 - k) (by omega) (by omega)
    rw [show l.length - 2 - k + 1 = l.length - 1 - k by omega] at this
    have e : 2 ^ (k + 1) * B = 2 * (2 ^ k * B) := by rw [Int.pow_succ, Int.mul_comm (2 ^ k) 2, Int.mul_assoc]
    rw [e]
    simp only [bwdK, h.len]
    exact this
theorem pow_small : ∀ k, k < 16 → (2 : Int) ^ k * 12000 ≤ 393216000 := by decide
/-- what is settled between two neighbours -/
def UpOk (m : List Lev) (i : Nat) : Prop := upL (lAt m i) (lAt m (i + 1)) = lAt m (i + 1)
def DnOk (m : List Lev) (i : Nat) : Prop := dnL (lAt m i) (lAt m (i + 1)) = lAt m i
theorem upL_eq {a b : Lev} : upL a b = b ↔ upLo (coldOf a b) (fallOf a b) a.plo ≤ b.plo ∧ b.phi ≤ upHi (warmOf a b) (fallOf a b) a.phi := by
  constructor
  · intro h
    have h1 := congrArg Lev.plo h
    have h2 := congrArg Lev.phi h
    simp only [upL] at h1 h2
    omega
  · rintro ⟨h1, h2⟩
    cases b
    simp only [upL] at *
    congr <;> omega
theorem dnL_eq {a b : Lev} : dnL a b = a ↔ dnLo (warmOf a b) (fallOf a b) b.plo ≤ a.plo ∧ a.phi ≤ dnHi (coldOf a b) (fallOf a b) b.phi := by
  constructor
  · intro h
    have h1 := congrArg Lev.plo h
    have h2 := congrArg Lev.phi h
    simp only [dnL] at h1 h2
    omega
  · rintro ⟨h1, h2⟩
    cases a
    simp only [dnL] at *
    congr <;> omega
def Fix (m : List Lev) : Prop := ∀ i, i + 1 < m.length → UpOk m i ∧ DnOk m i
theorem fwd_ok (hl : Snd l) (h : Near l B m) : ∀ k, k < l.length → ∀ i, i < k → UpOk (fwdK m k) i
  | 0, _, i, hi => by omega
  | k + 1, hk, i, hi => by
    have ih := fwd_ok hl h k (by omega)
    have hn := fwdK_near hl h k (by omega)
    unfold UpOk
    simp only [fwdK]
    rw [lAt_set _ _ _ _ (by rw [hn.len]; omega), lAt_set _ _ _ _ (by rw [hn.len]; omega)]
    rw [if_neg (by omega)]
    by_cases e : i = k
    · subst e
      rw [if_pos rfl, upL_eq]
      simp only [upL, coldOf, warmOf, fallOf]
      omega
    · rw [if_neg (by omega)]
      exact ih i (by omega)
theorem bwd_ok (hl : Snd l) (h : Near l B m) (hB : 1000 ≤ B) (hu : ∀ i, i + 1 < l.length → UpOk m i) : ∀ k, k < l.length → (∀ i, i + 1 < l.length → UpOk (bwdK m k) i) ∧ ∀ i, i + 1 < l.length → l.length - 1 - k ≤ i → DnOk (bwdK m k) i
  | 0, _ => ⟨hu, fun i hi hi2 => by omega⟩
  | k + 1, hk => by
    obtain ⟨ih1, ih2⟩ := bwd_ok hl h hB hu k (by omega)
    have hn := bwdK_near hl h hB k (by omega)
    obtain ⟨x, hx⟩ : ∃ x, x = l.length - 2 - k := ⟨_, rfl⟩
    have hx1 : l.length - 1 - k = x + 1 := by omega
    have hxl : x + 1 < l.length := by omega
    obtain ⟨q, _⟩ := hn.pair hl hxl
    have e0 : bwdK m (k + 1) = (bwdK m k).set x (dnL (lAt (bwdK m k) x) (lAt (bwdK m k) (x + 1))) := by
      simp only [bwdK, h.len]
      rw [← hx, hx1]
    rw [e0]
    have a := hn.lo x (by omega)
    have b := hn.lo (x + 1) hxl
    have c := hn.hi x (by omega)
    have d := hn.hi (x + 1) hxl
    have u0 := upL_eq.1 (ih1 x hxl)
    refine ⟨fun i hi => ?_, fun i hi hi2 => ?_⟩
    · unfold UpOk
      rw [lAt_set _ _ _ _ (by rw [hn.len]; omega), lAt_set _ _ _ _ (by rw [hn.len]; omega)]
      by_cases e : x = i
      · subst e
        rw [if_pos rfl, if_neg (by omega), upL_eq]
        have k1 := lo_back q (p := (lAt (bwdK m k) (x + 1)).plo) (by omega)
        have k2 := hi_back q (p := (lAt (bwdK m k) (x + 1)).phi) (by omega)
        simp only [dnL, coldOf, warmOf, fallOf] at *
        constructor
        · by_cases h1 : (lAt (bwdK m k) x).plo ≤ dnLo (1000000 * max (lAt (bwdK m k) x).thi (lAt (bwdK m k) (x + 1)).thi) (341632 * ((lAt (bwdK m k) (x + 1)).ht - (lAt (bwdK m k) x).ht)) (lAt (bwdK m k) (x + 1)).plo
          · rw [Int.max_eq_right h1]; exact k1
          · rw [Int.max_eq_left (by omega)]; exact u0.1
        · by_cases h1 : (lAt (bwdK m k) x).phi ≤ dnHi (1000000 * min (lAt (bwdK m k) x).tlo (lAt (bwdK m k) (x + 1)).tlo) (341632 * ((lAt (bwdK m k) (x + 1)).ht - (lAt (bwdK m k) x).ht)) (lAt (bwdK m k) (x + 1)).phi
          · rw [Int.min_eq_left h1]; exact u0.2
          · rw [Int.min_eq_right (by omega)]; exact k2
      · rw [if_neg e]
        by_cases e2 : x = i + 1
        · subst e2
          rw [if_pos rfl, upL_eq]
          have u1 := upL_eq.1 (ih1 i hi)
          simp only [dnL, coldOf, warmOf, fallOf] at *
          omega
        · rw [if_neg e2]; exact ih1 i hi
    · unfold DnOk
      rw [lAt_set _ _ _ _ (by rw [hn.len]; omega), lAt_set _ _ _ _ (by rw [hn.len]; omega)]
      by_cases e : x = i
      · subst e
        rw [if_pos rfl, if_neg (by omega), dnL_eq]
        simp only [dnL, coldOf, warmOf, fallOf]
        omega
      · rw [if_neg e, if_neg (by omega)]
        exact ih2 i hi (by omega)
theorem set_self (m : List Lev) (i : Nat) (hi : i < m.length) : m.set i (lAt m i) = m := by
  refine lev_ext (by simp) fun j hj => ?_
  rw [lAt_set _ _ _ _ hi]
  split
  · rename_i e; subst e; rfl
  · rfl
theorem Fix.fwd (h : Fix m) : ∀ k, k < m.length → fwdK m k = m
  | 0, _ => rfl
  | k + 1, hk => by
    simp only [fwdK]
    rw [h.fwd k (by omega), (h k hk).1]
    exact set_self m (k + 1) hk
theorem Fix.bwd (h : Fix m) : ∀ k, k < m.length → bwdK m k = m
  | 0, _ => rfl
  | k + 1, hk => by
    simp only [bwdK]
    rw [h.bwd k (by omega)]
    have := (h (m.length - 2 - k) (by omega)).2
    unfold DnOk at this
    rw [show m.length - 2 - k + 1 = m.length - 1 - k by omega] at this
    rw [this]
    exact set_self m _ (by omega)
theorem Fix.sweep (h : Fix m) (hm : 0 < m.length) : sweep m = m := by
  unfold Bal.Wx.sweep
  rw [h.fwd _ (by omega), h.bwd _ (by omega)]
/-- one round settles a sounding -/
theorem sweep_fix (hl : Snd l) : Fix (sweep l) ∧ Near l 393216000 (sweep l) := by
  have n2 := hl.n2
  have n16 := hl.n16
  have h0 := Near.self hl
  have h1 := fwdK_near hl h0 (l.length - 1) (by omega)
  have u1 := fwd_ok hl h0 (l.length - 1) (by omega)
  have hf := fwdK_len l (l.length - 1)
  have h2 := bwdK_near hl h1 (by decide) (l.length - 1) (by omega)
  have o := bwd_ok hl h1 (by decide) (fun i hi => u1 i (by omega)) (l.length - 1) (by omega)
  unfold sweep
  refine ⟨fun i hi => ?_, h2.mono (pow_small _ (by omega))⟩
  rw [bwdK_len, hf] at hi
  exact ⟨o.1 i hi, o.2 i hi (by omega)⟩
/-- all states of a pass are near, if it starts from a sounding or from a settled one -/
theorem pass_near (hl : Snd l) (h : m = l ∨ (Fix m ∧ Near l 393216000 m)) : (∀ k, k < l.length → Near l 393216000 (fwdK m k)) ∧ (∀ k, k < l.length → Near l 393216000 (bwdK (fwdK m (m.length - 1)) k)) ∧ Fix (sweep m) ∧ Near l 393216000 (sweep m) := by
  have n2 := hl.n2
  have n16 := hl.n16
  rcases h with rfl | ⟨hf, hn⟩
  · refine ⟨fun k hk => (fwdK_near hl (Near.self hl) k hk).mono (by decide), fun k hk => ?_, sweep_fix hl⟩
    exact (bwdK_near hl (fwdK_near hl (Near.self hl) (m.length - 1) (by omega)) (by decide) k hk).mono (pow_small k (by omega))
  · have hm := hn.len
    have e := hf.fwd (m.length - 1) (by omega)
    refine ⟨fun k hk => by rw [hf.fwd k (by omega)]; exact hn, fun k hk => by rw [e, hf.bwd k (by omega)]; exact hn, ?_⟩
    rw [hf.sweep (by omega)]
    exact ⟨hf, hn⟩
end Bal.Wx

/-
  Tables and what they say between two knots: plain Lean, no program in sight.
-/
namespace Bal.Wx
open Bal.Trim
structure Kn where
  pos : Int
  lo : Int
  hi : Int
  deriving DecidableEq, Inhabited
def kAt (t : List Kn) (i : Nat) : Kn := t.getD i default
/-- a valid table whose values are from A to B -/
structure Tab (t : List Kn) (A B : Int) : Prop where
  n2 : 2 ≤ t.length
  n16 : t.length ≤ 16
  pos : ∀ i, i < t.length → -10000 ≤ (kAt t i).pos ∧ (kAt t i).pos ≤ 10000
  up : ∀ i, i + 1 < t.length → (kAt t i).pos < (kAt t (i + 1)).pos
  val : ∀ i, i < t.length → A ≤ (kAt t i).lo ∧ (kAt t i).lo ≤ (kAt t i).hi ∧ (kAt t i).hi ≤ B
variable {t : List Kn} {A B : Int}
theorem Tab.mono (h : Tab t A B) : ∀ j i, i < j → j < t.length → (kAt t i).pos < (kAt t j).pos
  | 0, i, hi, _ => by omega
  | j + 1, i, hi, hj => by
    have := h.up j hj
    by_cases e : i = j
    · subst e; exact this
    · have := h.mono j i (by omega) (by omega); omega
/-- what is between two knots -/
def midLo (a b : Kn) (x : Int) : Int := a.lo + (x - a.pos) * (b.lo - a.lo) / (b.pos - a.pos)
def midHi (a b : Kn) (x : Int) : Int := a.hi - (x - a.pos) * (a.hi - b.hi) / (b.pos - a.pos)
theorem part_bd {m n d : Int} (hn : 0 < n) (h0 : 0 ≤ m) (h1 : m ≤ n) : (0 ≤ d → 0 ≤ m * d / n ∧ m * d / n ≤ d) ∧ (d ≤ 0 → d ≤ m * d / n ∧ m * d / n ≤ 0) := by
  refine ⟨fun hd => ⟨Int.ediv_nonneg (Int.mul_nonneg h0 hd) (by omega), ?_⟩, fun hd => ⟨?_, ?_⟩⟩
  · refine Int.ediv_le_of_le_mul hn ?_
    rw [Int.mul_comm d n]
    exact Int.mul_le_mul_of_nonneg_right h1 hd
  · rw [Int.le_ediv_iff_mul_le hn, Int.mul_comm d n]
    exact Int.mul_le_mul_of_nonpos_right h1 hd
  · have : m * d ≤ 0 := Int.mul_nonpos_of_nonneg_of_nonpos h0 hd
    exact Int.ediv_nonpos_of_nonpos_of_neg this (by omega)
theorem mid_bd {a b : Kn} {x : Int} (h : a.pos < b.pos) (h0 : a.pos ≤ x) (h1 : x ≤ b.pos) : (min a.lo b.lo ≤ midLo a b x ∧ midLo a b x ≤ max a.lo b.lo) ∧ min a.hi b.hi ≤ midHi a b x ∧ midHi a b x ≤ max a.hi b.hi := by
  have p1 := part_bd (m := x - a.pos) (n := b.pos - a.pos) (d := b.lo - a.lo) (by omega) (by omega) (by omega)
  have p2 := part_bd (m := x - a.pos) (n := b.pos - a.pos) (d := a.hi - b.hi) (by omega) (by omega) (by omega)
  unfold midLo midHi
  constructor
  · by_cases hd : 0 ≤ b.lo - a.lo
    · have := p1.1 hd; omega
    · have := p1.2 (by omega); omega
  · by_cases hd : 0 ≤ a.hi - b.hi
    · have := p2.1 hd; omega
    · have := p2.2 (by omega); omega
/-- i is the edge on which x lies -/
def OnEdge (t : List Kn) (x : Int) (i : Nat) : Prop := i + 1 < t.length ∧ (kAt t i).pos ≤ x ∧ x ≤ (kAt t (i + 1)).pos
theorem OnEdge.bd (h : Tab t A B) {x : Int} {i : Nat} (hi : OnEdge t x i) : (A ≤ midLo (kAt t i) (kAt t (i + 1)) x ∧ midLo (kAt t i) (kAt t (i + 1)) x ≤ B) ∧ A ≤ midHi (kAt t i) (kAt t (i + 1)) x ∧ midHi (kAt t i) (kAt t (i + 1)) x ≤ B := by
  obtain ⟨h1, h2, h3⟩ := hi
  have m := mid_bd (h.up i h1) h2 h3
  have a := h.val i (by omega)
  have b := h.val (i + 1) h1
  omega
theorem OnEdge.knot (h : Tab t A B) {i j : Nat} (hj : j < t.length) (hi : OnEdge t (kAt t j).pos i) : midLo (kAt t i) (kAt t (i + 1)) (kAt t j).pos = (kAt t j).lo ∧ midHi (kAt t i) (kAt t (i + 1)) (kAt t j).pos = (kAt t j).hi := by
  obtain ⟨h1, h2, h3⟩ := hi
  have hu := h.up i h1
  have e : j = i ∨ j = i + 1 := by
    have k1 : ¬ j < i := fun hlt => by have := h.mono i j hlt (by omega); omega
    have k2 : ¬ i + 1 < j := fun hlt => by have := h.mono j (i + 1) hlt hj; omega
    omega
  unfold midLo midHi
  rcases e with rfl | rfl
  · simp
  · rw [Int.mul_ediv_cancel_left _ (by omega), Int.mul_ediv_cancel_left _ (by omega)]
    omega
/-- what a table says of a span of places -/
structure VRel (t : List Kn) (A B x0 x1 lo hi : Int) : Prop where
  lo0 : A ≤ lo
  lo1 : lo ≤ B
  hi0 : A ≤ hi
  hi1 : hi ≤ B
  near : ∀ i, i + 1 < t.length → x0 = (kAt t i).pos → x1 = (kAt t (i + 1)).pos → lo = min (kAt t i).lo (kAt t (i + 1)).lo ∧ hi = max (kAt t i).hi (kAt t (i + 1)).hi
theorem VRel.start (h : Tab t A B) {x0 x1 : Int} {i j : Nat} (hi : OnEdge t x0 i) (hj : OnEdge t x1 j) :
    VRel t A B x0 x1 (min (midLo (kAt t i) (kAt t (i + 1)) x0) (midLo (kAt t j) (kAt t (j + 1)) x1)) (max (midHi (kAt t i) (kAt t (i + 1)) x0) (midHi (kAt t j) (kAt t (j + 1)) x1)) := by
  have b1 := hi.bd h
  have b2 := hj.bd h
  refine ⟨by omega, by omega, by omega, by omega, fun k hk e0 e1 => ?_⟩
  subst e0
  subst e1
  have k1 := hi.knot h (by omega)
  have k2 := hj.knot h hk
  rw [k1.1, k1.2, k2.1, k2.2]
  exact ⟨rfl, rfl⟩
theorem VRel.step (h : Tab t A B) {x0 x1 lo hi : Int} (r : VRel t A B x0 x1 lo hi) {k : Nat} (hk : k < t.length) (h0 : x0 < (kAt t k).pos) (h1 : (kAt t k).pos < x1) : VRel t A B x0 x1 (min lo (kAt t k).lo) (max hi (kAt t k).hi) := by
  have v := h.val k hk
  obtain ⟨r1, r2, r3, r4, r5⟩ := r
  refine ⟨by omega, by omega, by omega, by omega, fun i hi e0 e1 => ?_⟩
  exfalso
  subst e0
  subst e1
  have k1 : i < k := by
    apply Classical.byContradiction; intro hc
    by_cases e : k = i
    · subst e; omega
    · have := h.mono i k (by omega) (by omega); omega
  have k2 : k < i + 1 := by
    apply Classical.byContradiction; intro hc
    by_cases e : k = i + 1
    · subst e; omega
    · have := h.mono k (i + 1) (by omega) hk; omega
  omega
/-- Go's quotient rounded down -/
theorem down_is {a b : Int} (hb : 0 < b) : (if a < a.tdiv b * b then a.tdiv b - 1 else a.tdiv b) = a / b := by
  have h1 := Int.mul_tdiv_add_tmod a b
  have h2 : a.tmod b < b := Int.tmod_lt_of_pos a hb
  have h3 : -b < a.tmod b := by
    by_cases ha : 0 ≤ a
    · have := Int.tmod_nonneg b ha; omega
    · have := Int.neg_tmod a b
      have h4 : (-a).tmod b < b := Int.tmod_lt_of_pos (-a) hb
      omega
  have h5 := Int.mul_ediv_self_le (x := a) (k := b) (by omega)
  have h6 := Int.lt_mul_ediv_self_add (x := a) (k := b) hb
  have e1 : a.tdiv b * b = b * a.tdiv b := Int.mul_comm ..
  generalize hq : a.tdiv b = q at *
  generalize hr : a.tmod b = r at *
  generalize hz : a / b = z at *
  split
  · have l1 : b * (q - 1) < b * (z + 1) := by rw [Int.mul_sub, Int.mul_add]; omega
    have l2 : b * z < b * q := by omega
    have := Int.lt_of_mul_lt_mul_left l1 (by omega)
    have := Int.lt_of_mul_lt_mul_left l2 (by omega)
    omega
  · have l1 : b * q < b * (z + 1) := by rw [Int.mul_add]; omega
    have l2 : b * z < b * (q + 1) := by rw [Int.mul_add]; omega
    have := Int.lt_of_mul_lt_mul_left l1 (by omega)
    have := Int.lt_of_mul_lt_mul_left l2 (by omega)
    omega
end Bal.Wx

/-
  Levels, knots and spans in memory; rows that may be written. No program in sight.
-/
namespace Bal.Wx
open Go Go.RowKit Bal Bal.Trim
set_option linter.unusedVariables false
theorem i64_w {n : Int} (h : -9223372036854775808 ≤ n ∧ n ≤ 9223372036854775807) : IntKind.i64.wrap n = n := by rw [IntKind.wrap_i64]; omega
structure Sn where
  lo : Int
  hi : Int
  deriving DecidableEq, Inhabited
def Sn.cells (x : Sn) : List Value := [.int .i64 x.lo, .int .i64 x.hi]
def Kn.cells (x : Kn) : List Value := [.int .i64 x.pos, .int .i64 x.lo, .int .i64 x.hi]
def Lev.cells (x : Lev) : List Value := [.int .i64 x.ht, .int .i64 x.plo, .int .i64 x.phi, .int .i64 x.tlo, .int .i64 x.thi]
theorem Sn.len (x : Sn) : x.cells.length = 2 := rfl
theorem Kn.len (x : Kn) : x.cells.length = 3 := rfl
theorem Lev.len (x : Lev) : x.cells.length = 5 := rfl
theorem Kn.row {B : Nat} {w : World} {a : Option Addr} {xs : List Kn} (h : Row Kn.cells 3 B w a xs) (i : Nat) (hi : i < xs.length) :
    ∃ b off, a = some ⟨b, off, none⟩ ∧ b < B ∧ w.cell? ⟨b, off + i * 3, none⟩ = some (.int .i64 (kAt xs i).pos) ∧ w.cell? ⟨b, off + i * 3 + 1, none⟩ = some (.int .i64 (kAt xs i).lo) ∧ w.cell? ⟨b, off + i * 3 + 2, none⟩ = some (.int .i64 (kAt xs i).hi) := by
  obtain ⟨b, off, ha, hb, hc⟩ := h i xs[i] (by simp [hi])
  rw [show kAt xs i = xs[i] by simp [kAt, hi]]
  exact ⟨b, off, ha, hb, by simpa using hc 0 _ rfl, by simpa using hc 1 _ rfl, by simpa using hc 2 _ rfl⟩
theorem Lev.row {B : Nat} {w : World} {a : Option Addr} {xs : List Lev} (h : Row Lev.cells 5 B w a xs) (i : Nat) (hi : i < xs.length) :
    ∃ b off, a = some ⟨b, off, none⟩ ∧ b < B ∧ w.cell? ⟨b, off + i * 5, none⟩ = some (.int .i64 (lAt xs i).ht) ∧ w.cell? ⟨b, off + i * 5 + 1, none⟩ = some (.int .i64 (lAt xs i).plo) ∧ w.cell? ⟨b, off + i * 5 + 2, none⟩ = some (.int .i64 (lAt xs i).phi) ∧
      w.cell? ⟨b, off + i * 5 + 3, none⟩ = some (.int .i64 (lAt xs i).tlo) ∧ w.cell? ⟨b, off + i * 5 + 4, none⟩ = some (.int .i64 (lAt xs i).thi) := by
  obtain ⟨b, off, ha, hb, hc⟩ := h i xs[i] (by simp [hi])
  rw [show lAt xs i = xs[i] by simp [lAt, hi]]
  exact ⟨b, off, ha, hb, by simpa using hc 0 _ rfl, by simpa using hc 1 _ rfl, by simpa using hc 2 _ rfl, by simpa using hc 3 _ rfl, by simpa using hc 4 _ rfl⟩
theorem flatMap_put {α : Type} {enc : α → List Value} {k : Nat} (he : ∀ x, (enc x).length = k) : ∀ (xs : List α) (i : Nat) (c c' : α) (j : Nat) (u : Value), xs[i]? = some c → j < k → enc c' = (enc c).set j u →
    (xs.set i c').flatMap enc = (xs.flatMap enc).set (i * k + j) u
  | [], i, c, c', j, u, h, _, _ => by simp at h
  | y :: ys, 0, c, c', j, u, h, hj, hc => by
    simp at h
    subst h
    rw [List.set_cons_zero, List.flatMap_cons, List.flatMap_cons, hc, Nat.zero_mul, Nat.zero_add, List.set_append_left _ _ (by rw [he]; exact hj)]
  | y :: ys, i + 1, c, c', j, u, h, hj, hc => by
    have ih := flatMap_put he ys i c c' j u (by simpa using h) hj hc
    rw [List.set_cons_succ, List.flatMap_cons, List.flatMap_cons, ih, List.set_append_right _ _ (by rw [he, Nat.succ_mul]; omega), he]
    congr 2
    rw [Nat.succ_mul]; omega
/-- the levels m at the head of block g -/
def LevB (T : TypeId) (w : World) (g : Nat) (m : List Lev) : Prop := ∃ cur, Blk w g cur T ∧ cur.toList.take (m.length * 5) = m.flatMap Lev.cells
variable {T : TypeId} {w w' : World} {g : Nat} {m : List Lev}
theorem LevB.lt (h : LevB T w g m) : g < w.heap.size := by obtain ⟨cur, h, _⟩ := h; exact h.lt
theorem LevB.keep (h : LevB T w g m) (hb : Kept w w') : LevB T w' g m := by
  obtain ⟨cur, h, ht⟩ := h
  exact ⟨cur, h.keep hb, ht⟩
theorem LevB.of_block (h : LevB T w g m) (he : w'.heap[g]? = w.heap[g]?) : LevB T w' g m := by
  obtain ⟨cur, h, ht⟩ := h
  exact ⟨cur, by unfold Blk at *; rw [he]; exact h, ht⟩
theorem LevB.row (h : LevB T w g m) : Row Lev.cells 5 w.heap.size w (some ⟨g, 0, none⟩) m := by
  obtain ⟨cur, hk, ht⟩ := h
  intro i x hx
  refine ⟨g, 0, rfl, hk.lt, fun j v hj => ?_⟩
  have hjk : j < 5 := by have := (List.getElem?_eq_some_iff.1 hj).1; simpa [Lev.len] using this
  have h1 := flatMap_get Lev.len m i x hx j hjk
  rw [← ht, List.getElem?_take] at h1
  rw [hk.cell, Nat.zero_add, ← Array.getElem?_toList]
  split at h1
  · rw [h1]; exact hj
  · rw [hj] at h1; cases h1
theorem LevB.free (h : LevB T w g m) (i : Nat) : w.frozen? ⟨g, i, none⟩ = false := by obtain ⟨cur, h, _⟩ := h; exact h.free i
theorem LevB.put (h : LevB T w g m) {i j : Nat} {c : Lev} {u : Value} (c' : Lev) (hx : m[i]? = some c) (hj : j < 5) (hc : c'.cells = c.cells.set j u) : LevB T (w.setCell ⟨g, i * 5 + j, none⟩ u) g (m.set i c') := by
  obtain ⟨cur, hk, ht⟩ := h
  refine ⟨cur.setIfInBounds (i * 5 + j) u, hk.set _ _, ?_⟩
  rw [flatMap_put Lev.len m i c c' j u hx hj hc, ← ht, List.length_set, Array.toList_setIfInBounds, List.take_set]
/-- a span stored into a level -/
theorem LevB.press (h : LevB T w g m) {i : Nat} (hi : i < m.length) (lo hi_ : Int) : LevB T ((w.setCell ⟨g, i * 5 + 1, none⟩ (.int .i64 lo)).setCell ⟨g, i * 5 + 2, none⟩ (.int .i64 hi_)) g (m.set i { lAt m i with plo := lo, phi := hi_ }) := by
  have e : m[i]? = some (lAt m i) := by simp [lAt, hi]
  have h1 := h.put { lAt m i with plo := lo } (j := 1) (u := .int .i64 lo) e (by decide) rfl
  have h2 := h1.put (i := i) (c := { lAt m i with plo := lo }) { lAt m i with plo := lo, phi := hi_ } (j := 2) (u := .int .i64 hi_) (by simp [hi]) (by decide) rfl
  rw [List.set_set] at h2
  exact h2
theorem lev_at (h : LevB T w g m) {i : Nat} (hi : i < m.length) : w.cell? ⟨g, i * 5 + 1, none⟩ = some (.int .i64 (lAt m i).plo) ∧ w.cell? ⟨g, i * 5 + 2, none⟩ = some (.int .i64 (lAt m i).phi) := by
  obtain ⟨b, o, he, _, _, h1, h2, _, _⟩ := Lev.row h.row i hi
  injection he with he
  injection he with e1 e2 _
  subst e1 e2
  simp only [Nat.zero_add] at h1 h2
  exact ⟨h1, h2⟩
theorem LevB.other (h : LevB T w g m) {a : Addr} (hne : a.block ≠ g) (u : Value) : LevB T (w.setCell a u) g m := by
  obtain ⟨cur, hk, ht⟩ := h
  exact ⟨cur, hk.other hne u, ht⟩
theorem info_partsW {P : Program} {e : TypeId} {z : Value} {s b : Nat} (h : (P.info? e).map (fun i => (i.zero, i.size, i.bytes)) = some (some z, s, b)) : ∃ i, P.info? e = some i ∧ i.zero = some z ∧ i.size = s ∧ i.bytes = b := by
  cases hi : P.info? e with
  | none => rw [hi] at h; cases h
  | some i =>
    rw [hi] at h
    simp only [Option.map_some, Option.some.injEq, Prod.mk.injEq] at h
    exact ⟨i, rfl, h.1, h.2.1, h.2.2⟩
theorem owns_shapeW {w : World} {base k n : Nat} {e : TypeId} {v : Value} {xs : List Value} (h : w.ownsRow base e k v n xs) : ∃ ad cp, v = .slice ad n cp := by
  obtain ⟨_, ⟨rfl, rfl⟩ | ⟨g, cap, cur, rfl, _⟩⟩ := h
  · exact ⟨none, 0, rfl⟩
  · exact ⟨_, _, rfl⟩
theorem cells_atW {w : World} {n : Nat} (h : n = w.heap.size) (l : List Value) (t : TypeId) : ∀ j u, l[j]? = some u → (w.alloc (.cells l.toArray t)).cell? ((⟨n, 0, none⟩ : Addr).add j) = some u := by
  intro j u hj
  subst h
  have e : (⟨w.heap.size, 0, none⟩ : Addr).add j = ⟨w.heap.size, j, none⟩ := by unfold Addr.add; split <;> simp_all
  rw [e, (Blk.new (w := w) (arr := l.toArray) (t := t)).cell]
  simpa using hj
theorem owns_first {α : Type} {enc : α → List Value} {k base : Nat} {e : TypeId} {w : World} {v : Value} {xs : List α} (h : w.ownsRow base e k v xs.length (xs.flatMap enc)) (hn : 0 < xs.length) :
    ∃ g cp cur, v = .slice (some ⟨g, 0, none⟩) xs.length cp ∧ base ≤ g ∧ xs.length ≤ cp ∧ cp ≤ maxLen ∧ Blk w g cur e ∧ cur.toList.take (xs.length * k) = xs.flatMap enc := by
  obtain ⟨_, ⟨rfl, hz⟩ | ⟨g, cap, cur, rfl, hb, hh, h1, h2, _, h4⟩⟩ := h
  · omega
  · exact ⟨g, cap, cur, rfl, hb, h1, h2, hh, h4⟩
theorem first_row {α : Type} {enc : α → List Value} {k : Nat} (he : ∀ x, (enc x).length = k) {w : World} {g : Nat} {cur : Array Value} {e : TypeId} {xs : List α} (h : Blk w g cur e) (ht : cur.toList.take (xs.length * k) = xs.flatMap enc) : Row enc k w.heap.size w (some ⟨g, 0, none⟩) xs := by
  intro i x hx
  refine ⟨g, 0, rfl, h.lt, fun j v hj => ?_⟩
  have hjk : j < k := by have := (List.getElem?_eq_some_iff.1 hj).1; simpa [he] using this
  have h1 := flatMap_get he xs i x hx j hjk
  rw [← ht, List.getElem?_take] at h1
  rw [h.cell, Nat.zero_add, ← Array.getElem?_toList]
  split at h1
  · rw [h1]; exact hj
  · rw [hj] at h1; cases h1
theorem owns_setW {base : Nat} {e : TypeId} {k n : Nat} {w : World} {v : Value} {xs : List Value} (h : w.ownsRow base e k v n xs) {b : Nat} (hb : b < base) (i : Nat) (u : Value) : (w.setCell ⟨b, i, none⟩ u).ownsRow base e k v n xs := by
  obtain ⟨h1, h2 | ⟨g, cap, cur, hv, hg, hh, r⟩⟩ := h
  · exact ⟨h1, .inl h2⟩
  · refine ⟨h1, .inr ⟨g, cap, cur, hv, hg, ?_, r⟩⟩
    rw [Below.heap_setCell _ _ _ _ (show g ≠ b by omega)]
    exact hh
def knOf (x : Lev) : Kn := ⟨x.ht, x.tlo, x.thi⟩
theorem kAt_map {l : List Lev} {i : Nat} (hi : i < l.length) : kAt (l.map knOf) i = knOf (lAt l i) := by simp [kAt, lAt, List.getD_eq_getElem?_getD, hi]
theorem Near.kn {l s : List Lev} {B : Int} (h : Near l B s) : s.map knOf = l.map knOf := by
  have hl := h.len
  refine List.ext_getElem (by simp [hl]) fun i h1 h2 => ?_
  rw [List.length_map] at h1 h2
  have e1 := h.ht i h2
  have e2 := h.tlo i h2
  have e3 := h.thi i h2
  rw [lAt_get h1, lAt_get h2] at e1 e2 e3
  simp only [List.getElem_map, knOf, e1, e2, e3]
/-- a sounding's table -/
theorem Snd.tab {l : List Lev} (h : Snd l) : Tab (l.map knOf) 1500 3500 := by
  refine ⟨by simpa using h.n2, by simpa using h.n16, fun i hi => ?_, fun i hi => ?_, fun i hi => ?_⟩ <;> rw [List.length_map] at hi
  · rw [kAt_map hi]; have := h.ht i hi; simp only [knOf]; omega
  · rw [kAt_map (by omega), kAt_map hi]; have := h.up i hi; simp only [knOf]; omega
  · rw [kAt_map hi]; have := h.te i hi; simp only [knOf]; omega
/-- nothing but block g has changed -/
structure But (g : Nat) (w w' : World) : Prop where
  below : Below g w w'
  size : w.heap.size ≤ w'.heap.size
  block : ∀ b, b < w.heap.size → b ≠ g → w'.heap[b]? = w.heap[b]?
theorem But.refl (g : Nat) (w : World) : But g w w := ⟨Below.refl _ _, Nat.le_refl _, fun _ _ _ => rfl⟩
theorem But.trans {w'' : World} (h : But g w w') (k : But g w' w'') : But g w w'' :=
  ⟨h.below.trans k.below, Nat.le_trans h.size k.size, fun b hb hg => (k.block b (Nat.lt_of_lt_of_le hb h.size) hg).trans (h.block b hb hg)⟩
theorem But.kept (h : Kept w w') (hg : g ≤ w.heap.size) : But g w w' := ⟨h.mono hg, h.size, fun b hb _ => h.block b hb⟩
theorem But.blk (h : But g w w') {b : Nat} {arr : Array Value} {t : TypeId} (hb : Blk w b arr t) (hne : b ≠ g) : Blk w' b arr t := by
  have := hb.lt
  unfold Blk at *
  rw [h.block b this hne]
  exact hb
theorem But.row {α : Type} {enc : α → List Value} {k : Nat} (h : But g w w') {b o : Nat} {xs : List α} (hr : Row enc k w.heap.size w (some ⟨b, o, none⟩) xs) (hne : b ≠ g) : Row enc k w'.heap.size w' (some ⟨b, o, none⟩) xs := by
  intro i x hx
  obtain ⟨b', off, ha, hlt, hc⟩ := hr i x hx
  cases ha
  refine ⟨_, _, rfl, Nat.lt_of_lt_of_le hlt h.size, fun j v hj => ?_⟩
  have := h.block _ hlt hne
  rw [← hc j v hj]
  simp [World.cell?, this]
theorem But.set (h : But g w w') (i : Nat) (u : Value) : But g w (w'.setCell ⟨g, i, none⟩ u) :=
  ⟨Below.setCell h.below (Nat.le_refl _) _, by simpa using h.size, fun b hb hg => by rw [Below.heap_setCell _ _ _ _ hg]; exact h.block b hb hg⟩
theorem But.drew (h : But g w w') : But g w w'.drew := ⟨h.below.drew, h.size, fun b hb hg => h.block b hb hg⟩
theorem But.alloc (h : But g w w') (hg : g ≤ w.heap.size) (o : Obj) : But g w (w'.alloc o) := h.trans (But.kept ((Below.refl _ _).alloc (Nat.le_refl _) o) (Nat.le_trans hg h.size))
theorem But.drop {w'' : World} (h : But g w w') (hg : g ≤ w.heap.size) (k : Kept w' w'') : But g w w'' := h.trans (But.kept k (Nat.le_trans hg h.size))
theorem But.under {w0 : World} (h0 : Kept w0 w) (h : But g w w') (hg : w0.heap.size ≤ g) : Kept w0 w' := h0.trans (h.below.mono hg)
end Bal.Wx

/-
  A long tactic laid once. No program in sight.
-/
namespace Bal.Wx
open Go Bal
theorem blkx {w : World} {b : Nat} {arr : Array Value} {t : TypeId} (h : Blk w b arr t := by (refine Blk.cast (arr := ?_) ?_ ?_; rotate_left 1; (focus (repeat (first | with_reducible assumption | ((with_reducible refine Blk.new' ?_); first | with_reducible rfl | (simp; done) | (simp [World.drew]; done)) | with_reducible refine Blk.alloc ?_ _ | ((with_reducible refine Blk.set (arr := ?_) ?_ _ _); rotate_left 1) | ((with_reducible refine Blk.other ?_ ?_ _); rotate_left 1; (focus (first | (simp; done) | (simp; omega) | (refine Nat.ne_of_gt (Blk.lt (arr := ?_) (t := ?_) ?_); rotate_left 2; focus (repeat (first | with_reducible assumption | ((with_reducible refine Blk.new' ?_); first | with_reducible rfl | (simp; done) | (simp [World.drew]; done)) | with_reducible refine Blk.alloc ?_ _ | with_reducible refine Blk.keep ?_ (by with_reducible assumption) | with_reducible refine Blk.drew ?_))) | (refine Nat.ne_of_lt (Blk.lt (arr := ?_) (t := ?_) ?_); rotate_left 2; focus (repeat (first | with_reducible assumption | ((with_reducible refine Blk.new' ?_); first | with_reducible rfl | (simp; done) | (simp [World.drew]; done)) | with_reducible refine Blk.alloc ?_ _ | with_reducible refine Blk.keep ?_ (by with_reducible assumption) | with_reducible refine Blk.drew ?_))))); rotate_right 1) | with_reducible refine Blk.keep ?_ (by with_reducible assumption) | with_reducible refine Blk.drew ?_))); (first | rfl | (simp; done)))) : Blk w b arr t := h
theorem blkd {w : World} {b : Nat} {arr : Array Value} {t : TypeId} (h : Blk w b arr t := by (refine Blk.cast (arr := ?_) ?_ ?_; rotate_left 1; (focus (repeat (first | with_reducible assumption | ((with_reducible refine Blk.new' ?_); first | with_reducible rfl | (simp; done) | (simp [World.drew]; done)) | with_reducible refine Blk.alloc ?_ _ | ((with_reducible refine Blk.set (arr := ?_) ?_ _ _); rotate_left 1) | ((with_reducible refine Blk.other ?_ ?_ _); rotate_left 1; (focus (first | (simp; done) | (simp; omega) | (refine Nat.ne_of_gt (Blk.lt (arr := ?_) (t := ?_) ?_); rotate_left 2; focus (repeat (first | with_reducible assumption | ((with_reducible refine Blk.new' ?_); first | with_reducible rfl | (simp; done) | (simp [World.drew]; done)) | with_reducible refine Blk.alloc ?_ _ | with_reducible refine Blk.keep ?_ (by with_reducible assumption) | with_reducible refine Blk.drew ?_))) | (refine Nat.ne_of_lt (Blk.lt (arr := ?_) (t := ?_) ?_); rotate_left 2; focus (repeat (first | with_reducible assumption | ((with_reducible refine Blk.new' ?_); first | with_reducible rfl | (simp; done) | (simp [World.drew]; done)) | with_reducible refine Blk.alloc ?_ _ | with_reducible refine Blk.keep ?_ (by with_reducible assumption) | with_reducible refine Blk.drew ?_)))))) | with_reducible refine Blk.keep ?_ (by with_reducible assumption) | with_reducible refine Blk.drew ?_))); (first | with_reducible rfl | (simp; done) | rfl))) : Blk w b arr t := h
theorem butt {g : Nat} {w w' : World} (h : But g w w' := by (repeat (first | with_reducible assumption | with_reducible exact But.refl _ _ | with_reducible refine But.drew ?_ | with_reducible refine But.set ?_ _ _))) : But g w w' := h
theorem kpta {w w' : World} (h : Kept w w' := by (repeat (first | with_reducible exact Below.refl _ _ | with_reducible assumption | with_reducible refine Kept.drop ?_ (by with_reducible assumption) | with_reducible refine Kept.alloc ?_ _ | ((with_reducible refine Below.setCell ?_ ?_ _); rotate_left 1; (focus (first | exact Nat.le_refl _ | (simp; done) | (simp; omega) | exact Below.size (by with_reducible assumption) | (refine Nat.le_trans (Kept.size ?_) (Nat.le_succ _); (focus (repeat (first | with_reducible exact Below.refl _ _ | with_reducible assumption | with_reducible refine Kept.drop ?_ (by with_reducible assumption) | with_reducible refine Kept.alloc ?_ _ | with_reducible refine Below.drew ?_)))) | (refine Kept.size ?_; (repeat (first | with_reducible exact Below.refl _ _ | with_reducible assumption | with_reducible refine Kept.drop ?_ (by with_reducible assumption) | with_reducible refine Kept.alloc ?_ _ | with_reducible refine Below.drew ?_)))))) | with_reducible refine Below.drew ?_))) : Kept w w' := h
theorem butq {g : Nat} {w w' : World} (h : But g w w' := by (repeat (first | with_reducible assumption | with_reducible exact But.refl _ _ | with_reducible refine But.drew ?_ | with_reducible refine But.set ?_ _ _ | with_reducible refine But.alloc ?_ (by with_reducible assumption) _))) : But g w w' := h
theorem at_worldQ {Q : Exit → Act → World → Prop} {e : Exit} {a : Act} {S : World → Prop} {W : World} (h : S W) (k : ∀ W, S W → Q e a W) : Q e a W := k W h
end Bal.Wx

/-
  Appending to a row of the call's own: where the row lies behind it. No program in sight.
-/
namespace Bal
open Go
set_option linter.unusedVariables false
/-- a row lies where it lay, or in a new block -/
def Moved (w : World) (v v' : Value) : Prop := v'.ownBlock = v.ownBlock ∨ ∀ k, v'.ownBlock = some k → w.heap.size ≤ k
/-- two rows lie in blocks of their own -/
def Apart (v u : Value) : Prop := ∀ k, v.ownBlock = some k → u.ownBlock ≠ some k
theorem Apart.symm {v u : Value} (h : Apart v u) : Apart u v := fun k hk he => h k he hk
theorem Apart.none {v u : Value} (h : v.ownBlock = none) : Apart v u := fun k hk => by rw [h] at hk; cases hk
theorem Apart.moved {w : World} {v v' u : Value} (h : Apart v u) (hm : Moved w v v') {base k n : Nat} {e : TypeId} {xs : List Value} (hu : w.ownsRow base e k u n xs) : Apart v' u := by
  intro j hj he
  rcases hm with h1 | h1
  · exact h j (by rw [← h1]; exact hj) he
  · have := h1 j hj
    have := (hu.lt j he).2
    omega
theorem Apart.keep {w w' : World} {v u : Value} (h : Apart v u) {base k n : Nat} {e : TypeId} {xs : List Value} (hu : w.ownsRow base e k u n xs) (hg : w.grownBy w' v.ownBlock) : w'.ownsRow base e k u n xs := by
  refine hu.kept hg ?_
  cases hv : u.ownBlock with
  | none => exact .inl rfl
  | some b => exact .inr fun he => h b he.symm hv
section
variable {P : Program} (w : World)
theorem run_append_where (base : Nat) (t ty e : TypeId) (i : TypeInfo) (z : Value) (size bytes : Nat) (ht : P.underlying t = some (.slice e)) (hi : P.info? e = some i) (hz : i.zero = some z)
    (hsize : i.size = size) (hby : i.bytes = bytes) (hzs : z.cells.size = size) (hsz : 0 < size)
    (v : Value) (n : Nat) (xs : List Value) (hown : w.ownsRow base e size v n xs)
    (a : Addr) (m c : Nat) (hm : 0 < m) (news : List Value) (hl : news.length = m * size) (hnews : ∀ j u, news[j]? = some u → w.cell? (a.add j) = some u) (h1 : ∀ u ∈ news, u.oneCell' = true)
    (h63 : n + m ≤ maxLen) (hbytes : (n + m) * bytes ≤ 140737488355328) (hbase : base ≤ w.heap.size) :
    ∃ v' w', (Builtin.append_ #[t, t] ty #[v, .slice (some a) m c]).run P w = .ok v' w' ∧ w'.ownsRow base e size v' (n + m) (xs ++ news) ∧ w.grownBy w' v.ownBlock ∧ Moved w v v' := by
  obtain ⟨v', w', hr, h2, h3, _⟩ := run_append_own (P := P) w base t ty e i z size bytes ht hi hz hsize hby hzs hsz v n xs hown a m c news hl hnews h1 h63 hbytes hbase
  refine ⟨v', w', hr, h2, h3, ?_⟩
  subst hsize
  subst hby
  have hsmall : n + m ≤ 9223372036854775807 := by simp only [maxLen] at h63; omega
  rcases hown.2 with ⟨rfl, rfl⟩ | ⟨g, cap, cur, rfl, hbg, hg, hnc, hcm, hcs, htake⟩
  · have hr2 := run_append_nil (P := P) w t ty e i z ht hi hz a m c news hl hnews (by omega) (by omega) (by have hb := hbytes; simp only [Nat.zero_add] at hb; omega)
    rw [hr2] at hr
    injection hr with e1 e2
    subst e1
    refine .inr fun k hk => ?_
    simp [Value.ownBlock] at hk
    omega
  · by_cases hroom : n + m ≤ cap
    · have hfit : n * i.size + news.length ≤ cur.size := by rw [hl, hcs, ← Nat.add_mul]; exact Nat.mul_le_mul_right _ hroom
      have hr2 := run_append_room (P := P) w t ty e i ht hi g n cap cur hg a m c news hl hnews h1 hroom hfit
      rw [hr2] at hr
      injection hr with e1 e2
      subst e1
      exact .inl rfl
    · have holds : ∀ j u, xs[j]? = some u → w.cell? ((⟨g, 0, none⟩ : Addr).add j) = some u := hown.cells (g := g) rfl
      have hr2 := run_append_grow (P := P) w t ty e i z ht hi hz ⟨g, 0, none⟩ n cap xs hown.1 holds a m c news hl hnews (by omega) (by omega) (growslice_fits (by omega) hbytes)
      rw [hr2] at hr
      injection hr with e1 e2
      subst e1
      refine .inr fun k hk => ?_
      simp [Value.ownBlock] at hk
      omega
theorem wpList_append_where {ops : Array Oper} {rest : List Oper} {o : Oper} {a : Act} {Q : Exit → Act → World → Prop} (hgd : o.guard = none) (s x : Operand) (t : TypeId)
    (ho : o.op = .call { callee := .builtin .append, args := #[s, x], argTypes := #[t, t] })
    (base : Nat) (e : TypeId) (i : TypeInfo) (z : Value) (size bytes : Nat) (ht : P.underlying t = some (.slice e)) (hi : P.info? e = some i) (hz : i.zero = some z)
    (hsize : i.size = size) (hby : i.bytes = bytes) (hzs : z.cells.size = size) (hsz : 0 < size)
    (v : Value) (n : Nat) (xs : List Value) (hs : a.eval s = v) (hown : w.ownsRow base e size v n xs)
    (ad : Addr) (m c : Nat) (hm : 0 < m) (news : List Value) (hx : a.eval x = .slice (some ad) m c) (hl : news.length = m * size) (hnews : ∀ j u, news[j]? = some u → w.cell? (ad.add j) = some u) (h1 : ∀ u ∈ news, u.oneCell' = true)
    (h63 : n + m ≤ maxLen) (hbytes : (n + m) * bytes ≤ 140737488355328) (hbase : base ≤ w.heap.size)
    (h : ∀ v' w', w'.ownsRow base e size v' (n + m) (xs ++ news) → w.grownBy w' v.ownBlock → Moved w v v' → wpList P ops Q rest (a.put o.dst v') w') : wpList P ops Q (o :: rest) a w := by
  refine wpList_plain hgd fun K hK => ?_
  obtain ⟨v', w', hr, h2, h3, h4⟩ := run_append_where (P := P) w base t o.type e i z size bytes ht hi hz hsize hby hzs hsz v n xs hown ad m c hm news hl hnews h1 h63 hbytes hbase
  unfold Oper.wp execOp
  simp only [ho, resolve, invoke, builtin, Sem.run_bind, Sem.run_pure, Result.andThen_ok, List.map_toArray, List.map_cons, List.map_nil, hs, hx, hr]
  exact hK _ _ (h v' w' h2 h3 h4)
end
end Bal

/-
  Layer 1 as the air asks it: spans and tables.
-/
namespace Go.Proofs.Ytnfhcpnpjkefmaa
open Go.RowKit Bal Bal.Trim Bal.Wx
set_option linter.unusedVariables false
set_option linter.unusedSimpArgs false
set_option maxHeartbeats 4000000
set_option maxRecDepth 100000

/-- a span that is valid for layer 1 -/
def snB (lo hi : Int) : Bool := decide (lo ≤ hi) && decide (-1099511627776 ≤ lo) && decide (hi ≤ 1099511627776)

theorem f_fine1 (n : Nat) (lo hi : Int) (w : World) (h : Blk w n #[.int .i64 (lo), .int .i64 (hi)] 29) : Calls Try.prog 52 #[.slice (some ⟨n, 0, none⟩) 1 1] w fun e w' => e = .returned (.bool (snB lo hi)) ∧ Kept w w' := by
  go_enter Try.func52, Try.ntmps52
  go_wp2
  go_loopw [7] (fun i wr => (i = .int .i64 0 ∨ i = .int .i64 1 ∧ snB lo hi = true) ∧ Blk wr n #[.int .i64 (lo), .int .i64 (hi)] 29 ∧ Kept w wr) (fun i _ => (1 - intOf i).toNat)
  case atStart => exact ⟨.inl rfl, h, by exact kpt⟩
  case round =>
    clear h
    obtain ⟨rfl | ⟨rfl, hs⟩, h, hk⟩ := hrel
    · have hc0 := h.cell 0
      have hf0 := h.free 0
      have hc1 := h.cell 1
      have hf1 := h.free 1
      have hl := h.lt
      simp at hc0 hc1
      by_cases h1 : hi < lo
      · have d1 : decide (hi < lo) = true := by simp [h1]
        go_wp2
        go_ret
        exact ⟨ret_bool (by simp [snB]; omega), by exact kpt⟩
      · have d1 : decide (hi < lo) = false := by simp; omega
        by_cases h2 : lo < -1099511627776
        · have d2 : decide (lo < -1099511627776) = true := by simp [h2]
          go_wp2
          go_ret
          exact ⟨ret_bool (by simp [snB]; omega), by exact kpt⟩
        · have d2 : decide (lo < -1099511627776) = false := by simp; omega
          by_cases h3 : 1099511627776 < hi
          · have d3 : decide (1099511627776 < hi) = true := by simp [h3]
            go_wp2
            go_ret
            exact ⟨ret_bool (by simp [snB]; omega), by exact kpt⟩
          · have d3 : decide (1099511627776 < hi) = false := by simp; omega
            go_wp2
            go_round
            case rel => exact ⟨.inr ⟨rfl, by simp [snB]; omega⟩, by exact blkd, by exact kpt⟩
            case measure => simp [intOf]
    · go_wp2
      go_ret
      exact ⟨ret_bool hs.symm, by exact kpt⟩

theorem f_snCheck (lo hi : Int) (w : World) : Calls Try.prog 18 #[.agg #[.int .i64 (lo), .int .i64 (hi)]] w fun e w' => e = .returned (.int .i64 (if snB lo hi then 0 else 10)) ∧ Kept w w' := by
  cases hb : snB lo hi
  · go_enter Try.func18, Try.ntmps18
    go_wp2_with (go_at_call 52; (with_reducible refine (f_fine1 _ lo hi _ (by exact blkd)).mono ?_); rw [hb]; rintro e w1 ⟨rfl, hb1⟩)
    go_ret
    exact ⟨rfl, by exact kpt⟩
  · go_enter Try.func18, Try.ntmps18
    go_wp2_with (go_at_call 52; (with_reducible refine (f_fine1 _ lo hi _ (by exact blkd)).mono ?_); rw [hb]; rintro e w1 ⟨rfl, hb1⟩)
    go_ret
    exact ⟨rfl, by exact kpt⟩

theorem f_bdown (x y : Int) (w : World) (hy : 0 < y) (hy1 : y ≤ 1000000000) (hx : -1000000000000 ≤ x ∧ x ≤ 1000000000000) : Calls Try.prog 89 #[.int .i64 (x), .int .i64 (y)] w fun e w' => e = .returned (.int .i64 (x / y)) ∧ w = w' := by
  have hd := down_is (a := x) hy
  have hq : -1000000000000 ≤ x.tdiv y ∧ x.tdiv y ≤ 1000000000000 := by
    have h1 := Int.natAbs_tdiv_le_natAbs x y
    omega
  have hm : -1000000000000 ≤ x.tdiv y * y ∧ x.tdiv y * y ≤ 1000000000000 := by
    have h1 := Int.mul_tdiv_add_tmod x y
    have h2 : (x.tmod y).natAbs ≤ x.natAbs := by rw [Int.natAbs_tmod]; exact Nat.mod_le _ _
    have h3 : (x.tdiv y * y).natAbs ≤ x.natAbs := by rw [Int.natAbs_mul, Int.natAbs_tdiv]; exact Nat.div_mul_le_self _ _
    omega
  have hy0 : (y == 0) = false := by simp; omega
  have hyn : ¬ y = 0 := by omega
  obtain ⟨q, hQ⟩ : ∃ q, q = x.tdiv y := ⟨_, rfl⟩
  rw [← hQ] at hd hq hm
  have wq : IntKind.i64.wrap (x.tdiv y) = q := by rw [← hQ]; exact i64_w (by omega)
  have wm := i64_w (n := q * y) (by omega)
  have w1 := i64_w (n := q - 1) (by omega)
  clear hQ
  by_cases hlt : x < q * y
  · have d1 : decide (x < q * y) = true := by simp [hlt]
    rw [if_pos hlt] at hd
    rw [← hd]
    clear hd
    go_enter Try.func89, Try.ntmps89
    go_wp2
    go_ret
    exact ⟨rfl, rfl⟩
  · have d1 : decide (x < q * y) = false := by simp; omega
    rw [if_neg hlt] at hd
    rw [← hd]
    clear hd
    go_enter Try.func89, Try.ntmps89
    go_wp2
    go_ret
    exact ⟨rfl, rfl⟩

end Go.Proofs.Ytnfhcpnpjkefmaa

/-
  Layer 2: numbers in their range.
-/
namespace Go.Proofs.Ytnfhcpnpjkefmaa
open Go.RowKit Bal Bal.Trim Bal.Wx
set_option linter.unusedVariables false
set_option linter.unusedSimpArgs false
set_option maxHeartbeats 4000000
set_option maxRecDepth 100000

/-- whether a number is out of a range -/
def offB (lo hi x : Int) : Bool := decide (x < lo) || decide (hi < x)
theorem f_from1 (lo hi x : Int) (n3 n4 : Nat) (w : World) (h3 : Blk w n3 #[.int .i64 lo] 3) (h4 : Blk w n4 #[.int .i64 hi] 3) : Calls Try.prog 54 #[.int .i64 x, .pointer (some ⟨n3, 0, none⟩), .pointer (some ⟨n4, 0, none⟩)] w fun e w' => e = .returned (.bool (offB lo hi x)) ∧ Kept w w' := by
  have h3c0 := h3.cell 0
  have h3f0 := h3.free 0
  have h3l := h3.lt
  simp at h3c0
  have h4c0 := h4.cell 0
  have h4f0 := h4.free 0
  have h4l := h4.lt
  simp at h4c0
  unfold offB
  cases hd : decide (x < lo) <;> cases he : decide (hi < x)
  all_goals go_enter Try.func54, Try.ntmps54
  all_goals go_wp2
  all_goals go_ret
  all_goals exact ⟨rfl, by exact kpt⟩

theorem s_IndexN (a : Option Addr) (cap : Nat) (xs : List Int) (w : World) (hx : Row icell 1 w.heap.size w a xs) (hl : xs.length ≤ 1000) (lo hi : Int) (n3 n4 : Nat) (h3 : Blk w n3 #[.int .i64 lo] 3) (h4 : Blk w n4 #[.int .i64 hi] 3) : Calls Try.prog 74 #[.slice a xs.length cap, .func (.func 54) #[] #[.pointer (some ⟨n3, 0, none⟩), .pointer (some ⟨n4, 0, none⟩)]] w fun e w' => (∃ r : Int, e = .returned (.int .i64 r) ∧ decide (0 ≤ r) = xs.any (offB lo hi) ∧ -1 ≤ r ∧ r ≤ xs.length) ∧ Kept w w' := by
  obtain ⟨R, hR⟩ : ∃ R, R = xs.any (offB lo hi) := ⟨_, rfl⟩
  have HR := Lib.hid hR
  rw [← hR]
  clear hR
  go_enter Try.func74, Try.ntmps74
  go_wp2
  go_loopw [8] (fun i wr => ∃ k : Nat, k ≤ xs.length ∧ i = .int .i64 k ∧ (xs.take k).any (offB lo hi) = false ∧ Kept w wr) (fun i _ => xs.length - (intOf i).toNat)
  case atStart => exact ⟨0, Nat.zero_le _, rfl, by simp, Below.refl _ _⟩
  case round =>
    obtain ⟨k, hk, rfl, ha', hb⟩ := hrel
    have ha := Lib.hid ha'
    clear ha'
    by_cases hlt : k < xs.length
    · obtain ⟨b0, off0, rfl, hbl0, g0⟩ := int_row (hx.later hb (Nat.le_refl _)) k hlt
      have HB := Lib.hid (show (offB lo hi) xs[k] = true → R = true from fun hv => by rw [HR.out]; exact List.any_eq_true.2 ⟨_, List.getElem_mem hlt, hv⟩)
      have HT := Lib.hid (show (offB lo hi) xs[k] = false → (xs.take (k + 1)).any (offB lo hi) = false from fun hv => by rw [List.take_succ_eq_append_getElem hlt, List.any_append, ha.out]; simp [hv])
      have hcall := fun (W : World) (hk : Kept w W) => f_from1 lo hi xs[k] n3 n4 W (h3.keep hk) (h4.keep hk)
      obtain ⟨V, hV⟩ : ∃ V, V = (offB lo hi) xs[k] := ⟨_, rfl⟩
      rw [← hV] at hcall HB HT
      clear hV
      have k0 : (0 : Int) ≤ (k : Int) := by omega
      have k1 : (k : Int) < (xs.length : Int) := by omega
      cases V with
      | true =>
        have HF := Lib.hid (HB.out rfl)
        clear HB HT
        go_wp2_with (go_at_call 54; (with_reducible refine (hcall _ (by exact kpt)).mono ?_); rintro e w1 ⟨rfl, hb1⟩)
        go_ret
        refine ⟨⟨k, rfl, ?_, by omega, by omega⟩, by exact kpt⟩
        rw [HF.out, decide_eq_true_eq]; omega
      | false =>
        have HF := Lib.hid (HT.out rfl)
        clear HB HT
        go_wp2_with (go_at_call 54; (with_reducible refine (hcall _ (by exact kpt)).mono ?_); rintro e w1 ⟨rfl, hb1⟩)
        go_roundw
        case rel => exact ⟨k + 1, by omega, by go_num, HF.out, by exact kpt⟩
        case measure => simp [intOf]; omega
    · obtain rfl : k = xs.length := by omega
      have HF := Lib.hid (show R = false by rw [HR.out, ← ha.out, List.take_length])
      go_wp2
      go_ret
      refine ⟨⟨-1, rfl, ?_, by omega, by omega⟩, hb⟩
      rw [HF.out]; rfl

theorem s_ContainsN (a : Option Addr) (cap : Nat) (xs : List Int) (w : World) (hx : Row icell 1 w.heap.size w a xs) (hl : xs.length ≤ 1000) (lo hi : Int) (n3 n4 : Nat) (h3 : Blk w n3 #[.int .i64 lo] 3) (h4 : Blk w n4 #[.int .i64 hi] 3) : Calls Try.prog 53 #[.slice a xs.length cap, .func (.func 54) #[] #[.pointer (some ⟨n3, 0, none⟩), .pointer (some ⟨n4, 0, none⟩)]] w fun e w' => e = .returned (.bool (xs.any (offB lo hi))) ∧ Kept w w' := by
  obtain ⟨R, hR⟩ : ∃ R, R = xs.any (offB lo hi) := ⟨_, rfl⟩
  have hcall := s_IndexN a cap xs w hx hl lo hi n3 n4 h3 h4
  rw [← hR] at hcall ⊢
  clear hR
  go_enter Try.func53, Try.ntmps53
  go_wp2_with (go_at_call 74; (with_reducible refine hcall.mono ?_); rintro e w1 ⟨⟨r, rfl, hr1, hr2, hr3⟩, hb1⟩)
  go_ret
  refine ⟨ret_bool ?_, hb1⟩
  rw [← hr1]

theorem f_from (lo hi : Int) (a : Option Addr) (cap : Nat) (xs : List Int) (w : World) (hx : Row icell 1 w.heap.size w a xs) (hl : xs.length ≤ 1000) : Calls Try.prog 19 #[.int .i64 (lo), .int .i64 (hi), .slice a xs.length cap] w fun e w' => e = .returned (.bool (!xs.any (offB lo hi))) ∧ Kept w w' := by
  go_enter Try.func19, Try.ntmps19
  go_wp2_with (go_at_call 53; (with_reducible refine (s_ContainsN a cap xs _ (hx.later (by exact kpt) (Nat.le_refl _)) hl lo hi w.heap.size (w.heap.size + 1) (by exact blkd) (by exact blkd)).mono ?_); rintro e w1 ⟨rfl, hb1⟩)
  go_ret
  exact ⟨rfl, by exact kpt⟩

theorem f_fromOne (lo hi x : Int) (n : Nat) (w : World) (h : Blk w n #[.int .i64 x] 3) (hx : lo ≤ x ∧ x ≤ hi) : Calls Try.prog 19 #[.int .i64 (lo), .int .i64 (hi), .slice (some ⟨n, 0, none⟩) 1 1] w fun e w' => e = .returned (.bool true) ∧ Kept w w' := by
  have k := f_from lo hi (some ⟨n, 0, none⟩) 1 [x] w (Row.block (fun _ => rfl) h rfl) (by simp)
  have e : (!([x] : List Int).any (offB lo hi)) = true := by simp [offB]; omega
  rw [e] at k
  exact k

theorem f_fromTwo (lo hi x y : Int) (n : Nat) (w : World) (h : Blk w n #[.int .i64 x, .int .i64 y] 3) (h0 : lo ≤ x ∧ x ≤ hi) (h1 : lo ≤ y ∧ y ≤ hi) : Calls Try.prog 19 #[.int .i64 (lo), .int .i64 (hi), .slice (some ⟨n, 0, none⟩) 2 2] w fun e w' => e = .returned (.bool true) ∧ Kept w w' := by
  have k := f_from lo hi (some ⟨n, 0, none⟩) 2 [x, y] w (Row.block (fun _ => rfl) h rfl) (by simp)
  have e : (!([x, y] : List Int).any (offB lo hi)) = true := by simp [offB]; omega
  rw [e] at k
  exact k

theorem f_inside (x y lo hi : Int) (w : World) (h : x ≤ y) (h0 : lo ≤ x) (h1 : y ≤ hi) : Calls Try.prog 48 #[.agg #[.int .i64 (x), .int .i64 (y)], .int .i64 (lo), .int .i64 (hi)] w fun e w' => e = .returned (.bool true) ∧ Kept w w' := by
  have d1 : decide (x ≤ y) = true := by simp [h]
  have HF := Lib.hid (show (lo ≤ x ∧ x ≤ hi) ∧ lo ≤ y ∧ y ≤ hi by omega)
  clear h h0 h1
  go_enter Try.func48, Try.ntmps48
  go_wp2_with (go_at_call 19; (with_reducible refine (f_fromTwo lo hi x y _ _ (by exact blkd) HF.out.1 HF.out.2).mono ?_); rintro e w1 ⟨rfl, hb1⟩)
  go_ret
  exact ⟨rfl, by exact kpt⟩

end Go.Proofs.Ytnfhcpnpjkefmaa

/-
  Layer 2: a valid sounding.
-/
namespace Go.Proofs.Ytnfhcpnpjkefmaa
open Go.RowKit Bal Bal.Trim Bal.Wx
set_option linter.unusedVariables false
set_option linter.unusedSimpArgs false
set_option maxHeartbeats 4000000
set_option maxRecDepth 100000

theorem f_height (x : Lev) (w : World) : Calls Try.prog 50 #[.agg #[.int .i64 x.ht, .int .i64 x.plo, .int .i64 x.phi, .int .i64 x.tlo, .int .i64 x.thi]] w fun e w' => e = .returned (.int .i64 x.ht) ∧ Kept w w' := by
  go_enter Try.func50, Try.ntmps50
  go_wp2
  go_ret
  exact ⟨rfl, by exact kpt⟩

theorem f_odd (x : Lev) (w : World) (h : (x.plo ≤ x.phi ∧ 1000 ≤ x.plo ∧ x.phi ≤ 12000) ∧ x.tlo ≤ x.thi ∧ 1500 ≤ x.tlo ∧ x.thi ≤ 3500) : Calls Try.prog 47 #[.agg #[.int .i64 x.ht, .int .i64 x.plo, .int .i64 x.phi, .int .i64 x.tlo, .int .i64 x.thi]] w fun e w' => e = .returned (.bool false) ∧ Kept w w' := by
  have HX := Lib.hid h
  clear h
  go_enter Try.func47, Try.ntmps47
  go_wp2_with (first | (go_at_call 48; (with_reducible refine (f_inside _ _ _ _ _ HX.out.1.1 HX.out.1.2.1 HX.out.1.2.2).mono ?_); rintro e w1 ⟨rfl, hb1⟩; refine Blk.thru (b := w.heap.size) (arr := ?_) (t := ?_) ?_ hb1 ?_; rotate_left 2; (focus (exact blk)); intro o1; have o1c0 := o1.cell 0; have o1f0 := o1.free 0; have o1c1 := o1.cell 1; have o1f1 := o1.free 1; have o1c2 := o1.cell 2; have o1f2 := o1.free 2; have o1c3 := o1.cell 3; have o1f3 := o1.free 3; have o1c4 := o1.cell 4; have o1f4 := o1.free 4; have o1l := o1.lt; simp at o1c0 o1c1 o1c2 o1c3 o1c4) | (go_at_call 48; (with_reducible refine (f_inside _ _ _ _ _ HX.out.2.1 HX.out.2.2.1 HX.out.2.2.2).mono ?_); rintro e w1 ⟨rfl, hb1⟩; refine Blk.thru (b := w.heap.size) (arr := ?_) (t := ?_) ?_ hb1 ?_; rotate_left 2; (focus (exact blk)); intro o1; have o1c0 := o1.cell 0; have o1f0 := o1.free 0; have o1c1 := o1.cell 1; have o1f1 := o1.free 1; have o1c2 := o1.cell 2; have o1f2 := o1.free 2; have o1c3 := o1.cell 3; have o1f3 := o1.free 3; have o1c4 := o1.cell 4; have o1f4 := o1.free 4; have o1l := o1.lt; simp at o1c0 o1c1 o1c2 o1c3 o1c4))
  go_ret
  exact ⟨rfl, by exact kpt⟩

/-- whether a level is odd -/
def oddB (x : Lev) : Bool := !(decide (x.plo ≤ x.phi ∧ 1000 ≤ x.plo ∧ x.phi ≤ 12000) && decide (x.tlo ≤ x.thi ∧ 1500 ≤ x.tlo ∧ x.thi ≤ 3500))
theorem oddB_no {x : Lev} : oddB x = false ↔ (x.plo ≤ x.phi ∧ 1000 ≤ x.plo ∧ x.phi ≤ 12000) ∧ x.tlo ≤ x.thi ∧ 1500 ≤ x.tlo ∧ x.thi ≤ 3500 := by
  simp [oddB]

theorem s_IndexL (a : Option Addr) (cap : Nat) (xs : List Lev) (w : World) (hx : Row Lev.cells 5 w.heap.size w a xs) (hl : xs.length ≤ 1000) (hv : ∀ x ∈ xs, oddB x = false) : Calls Try.prog 73 #[.slice a xs.length cap, .func (.func 47) #[] #[]] w fun e w' => (∃ r : Int, e = .returned (.int .i64 r) ∧ decide (0 ≤ r) = xs.any (oddB) ∧ -1 ≤ r ∧ r ≤ xs.length) ∧ Kept w w' := by
  obtain ⟨R, hR⟩ : ∃ R, R = xs.any (oddB) := ⟨_, rfl⟩
  have HR := Lib.hid hR
  rw [← hR]
  clear hR
  go_enter Try.func73, Try.ntmps73
  go_wp2
  go_loopw [8] (fun i wr => ∃ k : Nat, k ≤ xs.length ∧ i = .int .i64 k ∧ (xs.take k).any (oddB) = false ∧ Kept w wr) (fun i _ => xs.length - (intOf i).toNat)
  case atStart => exact ⟨0, Nat.zero_le _, rfl, by simp, Below.refl _ _⟩
  case round =>
    obtain ⟨k, hk, rfl, ha', hb⟩ := hrel
    have ha := Lib.hid ha'
    clear ha'
    by_cases hlt : k < xs.length
    · obtain ⟨b0, off0, rfl, hbl0, g0, g1, g2, g3, g4⟩ := Lev.row (hx.later hb (Nat.le_refl _)) k hlt
      have HB := Lib.hid (show (oddB) xs[k] = true → R = true from fun hv => by rw [HR.out]; exact List.any_eq_true.2 ⟨_, List.getElem_mem hlt, hv⟩)
      have HT := Lib.hid (show (oddB) xs[k] = false → (xs.take (k + 1)).any (oddB) = false from fun hv => by rw [List.take_succ_eq_append_getElem hlt, List.any_append, ha.out]; simp [hv])
      have hcall := fun (W : World) (hk : Kept w W) => (by have := f_odd xs[k] W (oddB_no.1 (hv _ (List.getElem_mem hlt))); rw [← hv _ (List.getElem_mem hlt)] at this; exact this : Calls Try.prog 47 #[.agg #[.int .i64 xs[k].ht, .int .i64 xs[k].plo, .int .i64 xs[k].phi, .int .i64 xs[k].tlo, .int .i64 xs[k].thi]] W fun e w' => e = .returned (.bool (oddB xs[k])) ∧ Kept W w')
      rw [lAt_get hlt] at g0 g1 g2 g3 g4
      obtain ⟨V, hV⟩ : ∃ V, V = (oddB) xs[k] := ⟨_, rfl⟩
      rw [← hV] at hcall HB HT
      clear hV
      have k0 : (0 : Int) ≤ (k : Int) := by omega
      have k1 : (k : Int) < (xs.length : Int) := by omega
      cases V with
      | true =>
        have HF := Lib.hid (HB.out rfl)
        clear HB HT
        go_wp2_with (go_at_call 47; (with_reducible refine (hcall _ (by exact kpt)).mono ?_); rintro e w1 ⟨rfl, hb1⟩)
        go_ret
        refine ⟨⟨k, rfl, ?_, by omega, by omega⟩, by exact kpt⟩
        rw [HF.out, decide_eq_true_eq]; omega
      | false =>
        have HF := Lib.hid (HT.out rfl)
        clear HB HT
        go_wp2_with (go_at_call 47; (with_reducible refine (hcall _ (by exact kpt)).mono ?_); rintro e w1 ⟨rfl, hb1⟩)
        go_roundw
        case rel => exact ⟨k + 1, by omega, by go_num, HF.out, by exact kpt⟩
        case measure => simp [intOf]; omega
    · obtain rfl : k = xs.length := by omega
      have HF := Lib.hid (show R = false by rw [HR.out, ← ha.out, List.take_length])
      go_wp2
      go_ret
      refine ⟨⟨-1, rfl, ?_, by omega, by omega⟩, hb⟩
      rw [HF.out]; rfl

theorem s_ContainsL (a : Option Addr) (cap : Nat) (xs : List Lev) (w : World) (hx : Row Lev.cells 5 w.heap.size w a xs) (hl : xs.length ≤ 1000) (hv : ∀ x ∈ xs, oddB x = false) : Calls Try.prog 51 #[.slice a xs.length cap, .func (.func 47) #[] #[]] w fun e w' => e = .returned (.bool (xs.any (oddB))) ∧ Kept w w' := by
  obtain ⟨R, hR⟩ : ∃ R, R = xs.any (oddB) := ⟨_, rfl⟩
  have hcall := s_IndexL a cap xs w hx hl hv
  rw [← hR] at hcall ⊢
  clear hR
  go_enter Try.func51, Try.ntmps51
  go_wp2_with (go_at_call 73; (with_reducible refine hcall.mono ?_); rintro e w1 ⟨⟨r, rfl, hr1, hr2, hr3⟩, hb1⟩)
  go_ret
  refine ⟨ret_bool ?_, hb1⟩
  rw [← hr1]

end Go.Proofs.Ytnfhcpnpjkefmaa

/-
  Layer 2: copies of levels, and levels that are the same.
-/
namespace Go.Proofs.Ytnfhcpnpjkefmaa
open Go.RowKit Bal Bal.Trim Bal.Wx
set_option linter.unusedVariables false
set_option linter.unusedSimpArgs false
set_option maxHeartbeats 4000000
set_option maxRecDepth 100000

theorem infoLv : (Try.prog.info? 72).map (fun i => (i.zero, i.size, i.bytes)) = some (some (.agg #[.int .i64 0, .int .i64 0, .int .i64 0, .int .i64 0, .int .i64 0]), 5, 40) := by kernel_rfl
theorem s_CloneL (ad : Addr) (cap : Nat) (l : List Lev) (w : World) (hx : Row Lev.cells 5 w.heap.size w (some ad) l) (h0 : 0 < l.length) (hn : l.length ≤ 1000) : Calls Try.prog 75 #[.slice (some ad) l.length cap] w fun e w' => (∃ g cp, e = .returned (.slice (some ⟨g, 0, none⟩) l.length cp) ∧ w.heap.size ≤ g ∧ LevB 72 w' g l ∧ l.length ≤ cp) ∧ Kept w w' := by
  have HO := Lib.hid (owns_made (α := Lev) (enc := Lev.cells) (base := w.heap.size) (k := 5) (n := w.heap.size) (e := 72) (w := w) rfl (Nat.le_refl _))
  have hs0 : ∀ w, (binOp .eql 27 (.slice (some ad) l.length cap) (.slice none 0 0)).run Try.prog w = .ok (.bool false) w := fun w => Lib.run_eql_slice_nil w _ _ _ _ _ _ _ Try.underlying27
  go_enter Try.func75, Try.ntmps75
  go_wp2_with (at_builtin; obtain ⟨i0, hi, hz0, hz1, hz2⟩ := info_partsW infoLv; refine wpList_append_list (enc := Lev.cells) rfl _ _ 27 rfl w.heap.size 72 i0 (.agg #[.int .i64 0, .int .i64 0, .int .i64 0, .int .i64 0, .int .i64 0]) 5 40 Try.underlying27 hi hz0 hz1 hz2 rfl (by decide) Lev.len (fun x u hu => by simp [Lev.cells] at hu; rcases hu with rfl | rfl | rfl | rfl | rfl <;> rfl) _ [] rfl HO.out (some ad) cap l rfl (by simp) (B := w.heap.size) (hx.keep (by exact kpt) (Nat.le_refl _)) (by simp [maxLen]; omega) (by simp; omega) (by simp) ?_; intro v' w9 hown' hgrow; clear hi hz0 hz1 hz2)
  have hk : Kept w w9 := Kept.grown (Kept.alloc (Below.refl _ _) _) HO.out (Nat.le_refl _) hgrow
  rw [List.nil_append] at hown'
  obtain ⟨g, cp, cur, rfl, hg, hc1, _, hb, ht⟩ := owns_first hown' h0
  exact bodyPost_ret (v := .slice (some ⟨g, 0, none⟩) l.length cp) (by simp [results, Try.results75, go_sem]) rfl ⟨⟨g, cp, rfl, hg, ⟨cur, hb, ht⟩, hc1⟩, hk⟩

theorem neq_lev (x y : Lev) {z : Bool} (hz : decide (x = y) = z) (w : World) : (binOp .neq 72 (.agg #[.int .i64 x.ht, .int .i64 x.plo, .int .i64 x.phi, .int .i64 x.tlo, .int .i64 x.thi]) (.agg #[.int .i64 y.ht, .int .i64 y.plo, .int .i64 y.phi, .int .i64 y.tlo, .int .i64 y.thi])).run Try.prog w = .ok (.bool (!z)) w := by
  have e : decide (x = y) = (decide (x.ht = y.ht) && decide (x.plo = y.plo) && decide (x.phi = y.phi) && decide (x.tlo = y.tlo) && decide (x.thi = y.thi)) := by
    cases x; cases y; simp [Bool.and_assoc]
  rw [← hz, e]
  simp [go_sem]
  by_cases h1 : x.ht = y.ht <;> by_cases h2 : x.plo = y.plo <;> by_cases h3 : x.phi = y.phi <;> by_cases h4 : x.tlo = y.tlo <;> by_cases h5 : x.thi = y.thi <;> simp [h1, h2, h3, h4, h5]

theorem s_EqualNil (a : Option Addr) (cp : Nat) (l : List Lev) (w : World) (h0 : 0 < l.length) : Calls Try.prog 78 #[.slice none 0 0, .slice a l.length cp] w fun e w' => e = .returned (.bool false) ∧ Kept w w' := by
  have d1 : ((0 : Int) != (l.length : Int)) = true := by simp; omega
  have d1' : ((0 : Int) == (l.length : Int)) = false := by simp; omega
  go_enter Try.func78, Try.ntmps78
  go_wp2
  go_ret
  exact ⟨rfl, by exact kpt⟩

theorem s_EqualL (a b : Option Addr) (ca cb : Nat) (l m : List Lev) (w : World) (ha : Row Lev.cells 5 w.heap.size w a l) (hb : Row Lev.cells 5 w.heap.size w b m) (hl : m.length = l.length) (h16 : l.length ≤ 1000) : Calls Try.prog 78 #[.slice a l.length ca, .slice b l.length cb] w fun e w' => e = .returned (.bool (decide (l = m))) ∧ Kept w w' := by
  obtain ⟨R, hR⟩ : ∃ R, R = decide (l = m) := ⟨_, rfl⟩
  have HR := Lib.hid hR
  rw [← hR]
  clear hR
  go_enter Try.func78, Try.ntmps78
  go_wp2
  go_loopw [13] (fun i wr => ∃ k : Nat, k ≤ l.length ∧ i = .int .i64 k ∧ (∀ j, j < k → lAt l j = lAt m j) ∧ Kept w wr) (fun i _ => l.length - (intOf i).toNat)
  case atStart => exact ⟨0, Nat.zero_le _, rfl, fun j hj => by omega, by exact kpt⟩
  case round =>
    obtain ⟨k, hkn, rfl, hall, hk⟩ := hrel
    have HAL := Lib.hid hall
    clear hall
    by_cases hlt : k < l.length
    · obtain ⟨b1, o1, rfl, hb1, c0, c1, c2, c3, c4⟩ := Lev.row (ha.later hk (Nat.le_refl _)) k hlt
      obtain ⟨b2, o2, rfl, hb2, e0, e1, e2, e3, e4⟩ := Lev.row (hb.later hk (Nat.le_refl _)) k (by omega)
      have k0 : (0 : Int) ≤ (k : Int) := by omega
      have k1 : (k : Int) < (l.length : Int) := by omega
      have HT := Lib.hid (show lAt l k = lAt m k → ∀ j, j < k + 1 → lAt l j = lAt m j from fun h j hj => by
        by_cases e : j = k
        · subst e; exact h
        · exact HAL.out j (by omega))
      have HF := Lib.hid (show lAt l k ≠ lAt m k → R = false from fun h => by
        rw [HR.out]
        simp only [decide_eq_false_iff_not]
        exact fun e => h (by rw [e]))
      cases hd : decide (lAt l k = lAt m k)
      · have hne := neq_lev (lAt l k) (lAt m k) hd
        have HFF := Lib.hid (HF.out (by simpa using hd))
        clear HT HF hd
        go_upto_region 6 with fail
        go_region
        all_goals go_wp2
        all_goals go_ret
        all_goals exact ⟨ret_bool HFF.out.symm, by exact kpt⟩
      · have hne := neq_lev (lAt l k) (lAt m k) hd
        have HTT := Lib.hid (HT.out (by simpa using hd))
        clear HT HF hd
        go_upto_region 6 with fail
        go_region
        all_goals go_wp2
        all_goals go_round
        case rel => exact ⟨k + 1, by omega, by go_num, HTT.out, by exact kpt⟩
        case measure => simp [intOf]; omega
    · obtain rfl : k = l.length := by omega
      have HF := Lib.hid (show R = true by rw [HR.out, decide_eq_true_eq]; exact lev_ext hl.symm HAL.out)
      go_wp2
      go_ret
      exact ⟨ret_bool HF.out.symm, by exact kpt⟩

end Go.Proofs.Ytnfhcpnpjkefmaa

/-
  Layer 2: a valid sounding is taken.
-/
namespace Go.Proofs.Ytnfhcpnpjkefmaa
open Go.RowKit Bal Bal.Trim Bal.Wx
set_option linter.unusedVariables false
set_option linter.unusedSimpArgs false
set_option maxHeartbeats 4000000
set_option maxRecDepth 100000

theorem f_climbs (ad : Option Addr) (cap : Nat) (l : List Lev) (w : World) (hs : Snd l) (hr : Row Lev.cells 5 w.heap.size w ad l) (hcp : l.length ≤ cap) : Calls Try.prog 49 #[.slice ad l.length cap, .func (.func 50) #[] #[]] w fun e w' => e = .returned (.bool true) ∧ Kept w w' := by
  have n2 := hs.n2
  have n16 := hs.n16
  have HS := Lib.hid hs
  have HN := Lib.hid (show (2 : Int) ≤ (l.length : Int) ∧ (l.length : Int) ≤ 16 by omega)
  clear hs
  go_enter Try.func49, Try.ntmps49
  go_wp2
  go_loopw [10] (fun i wr => ∃ k : Nat, k ≤ l.length ∧ i = .int .i64 k ∧ Kept w wr) (fun i _ => l.length - (intOf i).toNat)
  case atStart => exact ⟨0, Nat.zero_le _, rfl, by exact kpt⟩
  case round =>
    obtain ⟨k, hkn, rfl, hk⟩ := hrel
    by_cases hlt : k < l.length
    · obtain ⟨b, off, rfl, hb, c0, c1, c2, c3, c4⟩ := Lev.row (hr.later hk (Nat.le_refl _)) k hlt
      have HH := Lib.hid (HS.out.ht k hlt)
      have k0 : (0 : Int) ≤ (k : Int) := by omega
      have k1 : (k : Int) < (l.length : Int) := by omega
      by_cases h0 : k = 0
      · have e4 : decide ((0 : Int) < (k : Int)) = false := by simp; omega
        have e4' : decide (0 < k) = false := by simp; omega
        have wk := i64_w (n := (k : Int) + 1) (by omega)
        clear h0
        go_wp2_with (first | (go_at_call 50; (with_reducible refine (f_height (lAt l k) _).mono ?_); rintro e w1 ⟨rfl, hb1⟩; obtain ⟨hc1, hf1, hl1⟩ := bcell3 hb1) | (go_at_call 19; (with_reducible refine (f_fromOne (-500) 9000 ((lAt l k).ht) _ _ (by exact blkd) HH.out).mono ?_); rintro e w2 ⟨rfl, hb2⟩; obtain ⟨hc2, hf2, hl2⟩ := bcell3 hb2))
        go_roundw
        case rel => exact ⟨k + 1, by omega, by go_num, by exact kpt⟩
        case measure => simp [intOf]; omega
      · obtain ⟨j, hj⟩ : ∃ j, j = k - 1 := ⟨_, rfl⟩
        obtain ⟨b', off', ha', hb', e0, e1, e2, e3, e5⟩ := Lev.row (hr.later hk (Nat.le_refl _)) j (by omega)
        obtain ⟨rfl, rfl⟩ : b = b' ∧ off = off' := by simpa using ha'
        have hu := HS.out.up j (by omega)
        rw [show j + 1 = k by omega] at hu
        have hjk : k - 1 = j := hj.symm
        have ht1 := HS.out.ht j (by omega)
        have ht2 := HH.out
        have HU := Lib.hid hu
        have e4 : decide ((0 : Int) < (k : Int)) = true := by first | (simp; done) | (simp; omega)
        have e4' : decide (0 < k) = true := by first | (simp; done) | (simp; omega)
        have wj := i64_w (n := (k : Int) - 1) (by omega)
        have wh := i64_w (n := (lAt l k).ht - (lAt l j).ht) (by omega)
        have j0 : (0 : Int) ≤ (k : Int) - 1 := by omega
        have j1 : (k : Int) - 1 < (l.length : Int) := by omega
        have jt : ((k : Int) - 1).toNat = j := by omega
        rw [hj] at e0 e1 e2 e3 e5
        clear ha' hu ht1 ht2 h0
        subst hj
        go_wp2_with (first | (go_at_call 50; (with_reducible refine (f_height (lAt l k) _).mono ?_); rintro e w1 ⟨rfl, hb1⟩) | (go_at_call 50; (with_reducible refine (f_height (lAt l (k - 1)) _).mono ?_); rintro e w1 ⟨rfl, hb1⟩; obtain ⟨hc1, hf1, hl1⟩ := bcell3 hb1) | (go_at_call 19; (with_reducible refine (f_fromOne (-500) 9000 ((lAt l k).ht) _ _ (by exact blkd) HH.out).mono ?_); rintro e w2 ⟨rfl, hb2⟩; have z0 := ((bcell (show Kept wr w2 by exact kpt)).1 b _ hb).trans e0; have z1 := ((bcell (show Kept wr w2 by exact kpt)).1 b _ hb).trans e1; have z2 := ((bcell (show Kept wr w2 by exact kpt)).1 b _ hb).trans e2; have z3 := ((bcell (show Kept wr w2 by exact kpt)).1 b _ hb).trans e3; have z4 := ((bcell (show Kept wr w2 by exact kpt)).1 b _ hb).trans e5) | (go_at_call 19; (with_reducible refine (f_fromOne 1 2000 ((lAt l k).ht - (lAt l (k - 1)).ht) _ _ (by exact blkd) HU.out).mono ?_); rintro e w2 ⟨rfl, hb2⟩; obtain ⟨hc2, hf2, hl2⟩ := bcell3 hb2))
        go_roundw
        case rel => exact ⟨k + 1, by omega, by go_num, by exact kpt⟩
        case measure => simp [intOf]; omega
    · obtain rfl : k = l.length := by omega
      go_wp2_with (go_at_call 19; (with_reducible refine (f_fromOne 2 16 ((l.length : Int)) _ _ (by exact blkd) HN.out).mono ?_); rintro e w2 ⟨rfl, hb2⟩; obtain ⟨hc2, hf2, hl2⟩ := bcell3 hb2)
      go_ret
      exact ⟨rfl, by exact kpt⟩

theorem f_airCheck (ad : Option Addr) (cap : Nat) (l : List Lev) (w : World) (hs : Snd l) (hr : Row Lev.cells 5 w.heap.size w ad l) (hcp : l.length ≤ cap) : Calls Try.prog 17 #[.slice ad l.length cap] w fun e w' => e = .returned (.int .i64 0) ∧ Kept w w' := by
  have hv : ∀ x ∈ l, oddB x = false := fun x hx => by
    obtain ⟨i, hi, rfl⟩ := List.mem_iff_getElem.1 hx
    have h1 := hs.pr i hi
    have h2 := hs.te i hi
    rw [lAt_get hi] at h1 h2
    rw [oddB_no]
    omega
  have HA := Lib.hid (show l.any oddB = false by rw [List.any_eq_false]; intro x hx; simp [hv x hx])
  have hl : l.length ≤ 1000 := by have := hs.n16; omega
  have HV := Lib.hid hv
  clear hv
  go_enter Try.func17, Try.ntmps17
  go_wp2_with (first | (go_at_call 49; (with_reducible refine (f_climbs ad cap l _ hs (hr.later (by exact kpt) (Nat.le_refl _)) hcp).mono ?_); rintro e w1 ⟨rfl, hb1⟩) | (go_at_call 51; (with_reducible refine (s_ContainsL ad cap l _ (hr.later (by exact kpt) (Nat.le_refl _)) hl HV.out).mono ?_); rw [HA.out]; rintro e w2 ⟨rfl, hb2⟩))
  go_ret
  exact ⟨rfl, by exact kpt⟩

end Go.Proofs.Ytnfhcpnpjkefmaa

/-
  Layer 1 as the air asks it: what a table says.
-/
namespace Go.Proofs.Ytnfhcpnpjkefmaa
open Go.RowKit Bal Bal.Trim Bal.Wx
set_option linter.unusedVariables false
set_option linter.unusedSimpArgs false
set_option maxHeartbeats 4000000
set_option maxRecDepth 100000

theorem f_at1 {n2 n3 cap : Nat} {ad : Option Addr} {t : List Kn} {x : Int} {w : World} (h2 : Blk w n2 #[.slice ad t.length cap] 120) (h3 : Blk w n3 #[.int .i64 x] 3) (hr : Row Kn.cells 3 w.heap.size w ad t) (i : Nat) (hi : i < t.length) : Calls Try.prog 88 #[.int .i64 i, .pointer (some ⟨n2, 0, none⟩), .pointer (some ⟨n3, 0, none⟩)] w fun e w' => e = .returned (.bool (decide (x < (kAt t i).pos))) ∧ Kept w w' := by
  obtain ⟨b, off, rfl, hb, c0, _, _⟩ := Kn.row hr i hi
  have y2 := fun g_ : Later w => (h2.later g_).cell 0
  have y3 := fun g_ : Later w => (h3.later g_).cell 0
  have y4 := fun g_ : Later w => g_.some c0
  have i0 : (0 : Int) ≤ (i : Int) := by omega
  have i1 : (i : Int) < (t.length : Int) := by omega
  simp at y2 y3
  obtain ⟨V, hV⟩ : ∃ V, V = decide (x < (kAt t i).pos) := ⟨_, rfl⟩
  have HV := Lib.hid hV
  rw [← hV]
  clear hV c0
  go_enter Try.func88, Try.ntmps88
  go_wp2
  go_upto_region 1 with fail
  refine Later.region (by kernel_rfl) (by kernel_rfl) ?_
  repeat (first | go_big_quiet_skip | (go_big_quiet_want; go_big_quiet_op; first | go_big_quiet_on | (apply Exists.intro; refine ⟨fun g_ => ?_, ?_⟩; (focus (first | fail)); go_big_quiet_on)))
  refine wpQuiet_nil ?_
  intro gg
  go_wp2
  go_ret
  exact ⟨ret_bool HV.out.symm, gg.ok⟩

theorem s_Search {n2 n3 cap : Nat} {ad : Option Addr} {t : List Kn} {x : Int} {w : World} (h2 : Blk w n2 #[.slice ad t.length cap] 120) (h3 : Blk w n3 #[.int .i64 x] 3) (hr : Row Kn.cells 3 w.heap.size w ad t) (hl : t.length ≤ 1000) : Calls Try.prog 87 #[.int .i64 t.length, .func (.func 88) #[] #[.pointer (some ⟨n2, 0, none⟩), .pointer (some ⟨n3, 0, none⟩)]] w fun e w' => (∃ r : Nat, e = .returned (.int .i64 r) ∧ r ≤ t.length ∧ (0 < r → (kAt t (r - 1)).pos ≤ x) ∧ (r < t.length → x < (kAt t r).pos)) ∧ Kept w w' := by
  go_enter Try.func87, Try.ntmps87
  go_wp2
  go_loopw [5, 6] (fun iv jv wr => ∃ i j : Nat, iv = .int .i64 i ∧ jv = .int .i64 j ∧ i ≤ j ∧ j ≤ t.length ∧ (0 < i → (kAt t (i - 1)).pos ≤ x) ∧ (j < t.length → x < (kAt t j).pos) ∧ Kept w wr) (fun iv jv _ => (intOf jv - intOf iv).toNat)
  case atStart => exact ⟨0, t.length, rfl, rfl, by omega, by omega, fun h => by omega, fun h => by omega, by exact kpt⟩
  case round =>
    obtain ⟨i, j, rfl, rfl, h01, h1, hI, hJ, hk⟩ := hrel
    have HI := Lib.hid hI
    have HJ := Lib.hid hJ
    clear hI hJ
    by_cases hij : i < j
    · obtain ⟨m, hm0⟩ : ∃ m, m = (i + j) / 2 := ⟨_, rfl⟩
      have hm : m < t.length := by omega
      have hmi : i ≤ m := by omega
      have hmj : m < j := by omega
      have d0 : decide ((i : Int) < (j : Int)) = true := by simp; omega
      have w1_ := i64_w (n := (i : Int) + j) (by omega)
      have w2_ : IntKind.u64.wrap ((i : Int) + j) = (i : Int) + j := by rw [IntKind.wrap_u64]; omega
      have w3_ := i64_w (n := (m : Int)) (by omega)
      have w4_ := i64_w (n := (m : Int) + 1) (by omega)
      have e1_ : ((i : Int) + j) / 2 = m := by omega
      have HM := Lib.hid hm0
      clear hm0
      cases hc : decide (x < (kAt t m).pos)
      · have HC := Lib.hid hc
        have hx : (kAt t m).pos ≤ x := by simp at hc; omega
        have HX := Lib.hid hx
        clear hc hx
        go_wp2_with (go_at_call 88; (with_reducible refine (f_at1 (h2.keep (by exact kpt)) (h3.keep (by exact kpt)) (hr.later (by exact kpt) (Nat.le_refl _)) m hm).mono ?_); rw [HC.out]; rintro e w1 ⟨rfl, hb1⟩)
        go_roundw
        case rel => exact ⟨m + 1, j, by go_num, rfl, by omega, by omega, fun _ => HX.out, HJ.out, by exact kpt⟩
        case measure => simp [intOf]; omega
      · have HC := Lib.hid hc
        have hx : x < (kAt t m).pos := by simpa using hc
        have HX := Lib.hid hx
        clear hc hx
        go_wp2_with (go_at_call 88; (with_reducible refine (f_at1 (h2.keep (by exact kpt)) (h3.keep (by exact kpt)) (hr.later (by exact kpt) (Nat.le_refl _)) m hm).mono ?_); rw [HC.out]; rintro e w1 ⟨rfl, hb1⟩)
        go_roundw
        case rel => exact ⟨i, m, rfl, by go_num, by omega, by omega, HI.out, fun _ => HX.out, by exact kpt⟩
        case measure => simp [intOf]; omega
    · obtain rfl : i = j := by omega
      go_wp2
      go_ret
      exact ⟨⟨i, rfl, h1, HI.out, HJ.out⟩, by exact kpt⟩

attribute [local go_sem] ite_min ite_max

theorem f_at (ad : Option Addr) (cap : Nat) (t : List Kn) (x A B : Int) (w : World) (ht : Tab t A B) (hA : -1000000 ≤ A) (hB : B ≤ 1000000) (hcp : t.length ≤ cap) (hr : Row Kn.cells 3 w.heap.size w ad t) (h0 : (kAt t 0).pos ≤ x) (h1 : x ≤ (kAt t (t.length - 1)).pos) : Calls Try.prog 82 #[.slice ad t.length cap, .int .i64 (x)] w fun e w' => (∃ i, OnEdge t x i ∧ e = .returned (.agg #[.int .i64 (midLo (kAt t i) (kAt t (i + 1)) x), .int .i64 (midHi (kAt t i) (kAt t (i + 1)) x)])) ∧ Kept w w' := by
  have n2 := ht.n2
  have n16 := ht.n16
  have HT := Lib.hid ht
  have hl : t.length ≤ 1000 := by omega
  have w1_ := i64_w (n := (t.length : Int) - 1) (by omega)
  have H0 := Lib.hid h0
  have H1 := Lib.hid h1
  clear ht h0 h1
  go_enter Try.func82, Try.ntmps82
  go_upto_region 2 with (go_at_call 87; (with_reducible refine (s_Search (n2 := w.heap.size) (n3 := w.heap.size + 1) (by exact blkd) (by exact blkd) (hr.later (by exact kpt) (Nat.le_refl _)) hl).mono ?_); rintro e w1 ⟨⟨r, rfl, hr1, hr2, hr3⟩, hb1⟩; refine Blk.thru (b := w.heap.size) (arr := ?_) (t := ?_) ?_ hb1 ?_; rotate_left 2; (focus (exact blk)); intro o2; have o2c0 := o2.cell 0; have o2f0 := o2.free 0; have o2l := o2.lt; simp at o2c0; refine Blk.thru (b := (w.heap.size + 1)) (arr := ?_) (t := ?_) ?_ hb1 ?_; rotate_left 2; (focus (exact blk)); intro o3; have o3c0 := o3.cell 0; have o3f0 := o3.free 0; have o3l := o3.lt; simp at o3c0; refine Blk.thru (b := (w.heap.size + 1 + 1)) (arr := ?_) (t := ?_) ?_ hb1 ?_; rotate_left 2; (focus (exact blk)); intro o4; have o4c0 := o4.cell 0; have o4f0 := o4.free 0; have o4c1 := o4.cell 1; have o4f1 := o4.free 1; have o4l := o4.lt; simp at o4c0 o4c1)
  obtain ⟨i, hi⟩ : ∃ i, i = min (max r 1) (t.length - 1) - 1 := ⟨_, rfl⟩
  have hin : i + 1 < t.length := by omega
  have he : OnEdge t x i := by
    have hx0 := H0.out
    have hx1 := H1.out
    refine ⟨hin, ?_, ?_⟩
    · by_cases e : r = t.length
      · have e2 : i + 1 = r - 1 := by omega
        have := hr2 (by omega)
        rw [← e2] at this
        have := HT.out.up i hin
        omega
      · by_cases e0 : r = 0
        · have := hr3 (by omega); rw [e0] at this; omega
        · have := hr2 (by omega)
          rw [show i = r - 1 by omega]; exact this
    · by_cases e : r = t.length
      · rw [show i + 1 = t.length - 1 by omega]; exact hx1
      · by_cases e0 : r = 0
        · have := hr3 (by omega); rw [e0] at this; omega
        · have := hr3 (by omega)
          rw [show i + 1 = r by omega]; omega
  have em : min (max (r : Int) 1) ((t.length : Int) - 1) = (i : Int) + 1 := by omega
  have HE := Lib.hid he
  have wi := i64_w (n := (i : Int) + 1 - 1) (by omega)
  have wi' := i64_w (n := (i : Int)) (by omega)
  have i0 : (0 : Int) ≤ (i : Int) := by omega
  have i1 : (i : Int) < (t.length : Int) := by omega
  have j0 : (0 : Int) ≤ (i : Int) + 1 := by omega
  have j1 : (i : Int) + 1 < (t.length : Int) := by omega
  have ei : (i : Int) + 1 - 1 = i := by omega
  clear hr1 hr2 hr3 hi he
  go_upto_region 3 with fail
  clear em
  refine at_world (S := fun V => Blk V w.heap.size #[.slice ad t.length cap] 120 ∧ Blk V (w.heap.size + 1) #[.int .i64 x] 3 ∧ Blk V (w.heap.size + 1 + 1) #[.int .i64 0, .int .i64 0] 29 ∧ Kept w V) ⟨by exact blkd, by exact blkd, by exact blkd, by exact kpt⟩ ?_
  clear hb1 o2 o3 o4 o2c0 o2f0 o2l o3c0 o3f0 o3l o4c0 o4f0 o4c1 o4f1 o4l
  rintro V ⟨y2, y3, y4, hk⟩
  obtain ⟨b, off, had, hb, c0, c1, c2⟩ := Kn.row (hr.later hk (Nat.le_refl _)) i (by omega)
  obtain ⟨b', off', had', hb', e0, e1, e2⟩ := Kn.row (hr.later hk (Nat.le_refl _)) (i + 1) hin
  obtain ⟨rfl, rfl⟩ : b = b' ∧ off = off' := by rw [had] at had'; simpa using had'
  clear had'
  subst had
  have PQ := HE.out
  have tu := HT.out.up i hin
  have v0 := HT.out.val i (by omega)
  have v1 := HT.out.val (i + 1) hin
  have p0_ := HT.out.pos i (by omega)
  have p1_ := HT.out.pos (i + 1) hin
  obtain ⟨_, k0_, k1_⟩ := PQ
  have HR := Lib.hid (show ∀ u v, u = midLo (kAt t i) (kAt t (i + 1)) x → v = midHi (kAt t i) (kAt t (i + 1)) x → ∃ i, OnEdge t x i ∧ Ending.returned (.agg #[.int .i64 u, .int .i64 v]) = .returned (.agg #[.int .i64 (midLo (kAt t i) (kAt t (i + 1)) x), .int .i64 (midHi (kAt t i) (kAt t (i + 1)) x)]) from fun u v hu hv => ⟨i, HE.out, by rw [hu, hv]⟩)
  unfold midLo midHi at HR
  obtain ⟨p0, hp0⟩ : ∃ n, n = (kAt t i).pos := ⟨_, rfl⟩
  obtain ⟨p1, hp1⟩ : ∃ n, n = (kAt t i).lo := ⟨_, rfl⟩
  obtain ⟨p2, hp2⟩ : ∃ n, n = (kAt t i).hi := ⟨_, rfl⟩
  obtain ⟨q0, hq0⟩ : ∃ n, n = (kAt t (i + 1)).pos := ⟨_, rfl⟩
  obtain ⟨q1, hq1⟩ : ∃ n, n = (kAt t (i + 1)).lo := ⟨_, rfl⟩
  obtain ⟨q2, hq2⟩ : ∃ n, n = (kAt t (i + 1)).hi := ⟨_, rfl⟩
  rw [← hp0] at c0 tu p0_ k0_ HR
  rw [← hp1] at c1 v0 HR
  rw [← hp2] at c2 v0 HR
  rw [← hq0] at e0 tu p1_ k1_ HR
  rw [← hq1] at e1 v1 HR
  rw [← hq2] at e2 v1 HR
  clear hp0 hp1 hp2 hq0 hq1 hq2
  have y2k0 : ∀ w', Kept V w' → w'.cell? ⟨w.heap.size, 0, none⟩ = _ := fun w' h => (y2.keep h).cell 0
  simp at y2k0
  have y2l_ := y2.lt
  have z0 : ∀ w', Kept V w' → w'.cell? ⟨b, off + i * 3, none⟩ = some (.int .i64 p0) := fun w' h => by rw [(bcell h).1 b _ hb]; exact c0
  have z1 : ∀ w', Kept V w' → w'.cell? ⟨b, off + i * 3 + 1, none⟩ = some (.int .i64 p1) := fun w' h => by rw [(bcell h).1 b _ hb]; exact c1
  have z2 : ∀ w', Kept V w' → w'.cell? ⟨b, off + i * 3 + 2, none⟩ = some (.int .i64 p2) := fun w' h => by rw [(bcell h).1 b _ hb]; exact c2
  have z3 : ∀ w', Kept V w' → w'.cell? ⟨b, off + (i + 1) * 3, none⟩ = some (.int .i64 q0) := fun w' h => by rw [(bcell h).1 b _ hb]; exact e0
  have z4 : ∀ w', Kept V w' → w'.cell? ⟨b, off + (i + 1) * 3 + 1, none⟩ = some (.int .i64 q1) := fun w' h => by rw [(bcell h).1 b _ hb]; exact e1
  have z5 : ∀ w', Kept V w' → w'.cell? ⟨b, off + (i + 1) * 3 + 2, none⟩ = some (.int .i64 q2) := fun w' h => by rw [(bcell h).1 b _ hb]; exact e2
  clear c0 c1 c2 e0 e1 e2
  go_cut [6, 7] (fun s6 s7 wx => ∃ n6 n7, s6 = .pointer (some ⟨n6, 0, none⟩) ∧ s7 = .pointer (some ⟨n7, 0, none⟩) ∧ w.heap.size + 1 + 1 < n6 ∧ w.heap.size + 1 + 1 < n7 ∧ Blk wx n6 #[.int .i64 p0, .int .i64 p1, .int .i64 p2] 122 ∧ Blk wx n7 #[.int .i64 q0, .int .i64 q1, .int .i64 q2] 122 ∧ Blk wx (w.heap.size + 1) #[.int .i64 x] 3 ∧ Blk wx (w.heap.size + 1 + 1) #[.int .i64 0, .int .i64 0] 29 ∧ Kept w wx)
  case first => as_aux_lemma =>
    go_region_held3 (fun w' => Kept V w') (exact kpt) (first | fail)
    all_goals (go_wp2_with fail; go_meet)
    all_goals have y4l_ := y4.lt
    all_goals refine ⟨_, _, rfl, rfl, by omega, by omega, ?_, ?_, by exact blkx, by exact blkx, by exact kpt⟩
    all_goals first | exact (Blk.new.alloc _).drew | exact (Blk.new' (by simp)).drew
  obtain ⟨n6, n7, rfl, rfl, g6_, g7_, x6, x7, x3, x4, hk⟩ := hcut
  clear y2k0 y2l_ z0 z1 z2 z3 z4 z5
  go_upto_region 4 with fail
  refine at_world (S := fun X => Blk X n6 #[.int .i64 p0, .int .i64 p1, .int .i64 p2] 122 ∧ Blk X n7 #[.int .i64 q0, .int .i64 q1, .int .i64 q2] 122 ∧ Blk X (w.heap.size + 1) #[.int .i64 x] 3 ∧ Blk X (w.heap.size + 1 + 1) #[.int .i64 0, .int .i64 0] 29 ∧ Kept w X) ⟨by exact blkd, by exact blkd, by exact blkd, by exact blkd, by exact kpt⟩ ?_
  clear x6 x7 x3 x4 y2 y3 y4 hk
  rintro X ⟨x6, x7, x3, x4, hk⟩
  have g6 := fun g_ : Later X => (x6.later g_).cell 0
  have g7 := fun g_ : Later X => (x7.later g_).cell 0
  have g3 := fun g_ : Later X => (x3.later g_).cell 0
  simp at g6 g7 g3
  have wa := i64_w (n := x - p0) (by omega)
  have wb := i64_w (n := q0 - p0) (by omega)
  refine Later.region (by kernel_rfl) (by kernel_rfl) ?_
  repeat (first | go_big_quiet_skip | (go_big_quiet_want; go_big_quiet_op; first | go_big_quiet_on | (apply Exists.intro; refine ⟨fun g_ => ?_, ?_⟩; (focus (first | fail)); go_big_quiet_on)))
  refine wpQuiet_nil ?_
  intro gg
  have x6 := x6.later gg
  have x7 := x7.later gg
  have x4 := x4.later gg
  have hk := Kept.drop hk gg.ok
  clear g6 g7 g3
  go_upto_region 5 with fail
  refine at_world (S := fun Y => Blk Y n6 #[.int .i64 p0, .int .i64 p1, .int .i64 p2] 122 ∧ Blk Y n7 #[.int .i64 q0, .int .i64 q1, .int .i64 q2] 122 ∧ Blk Y (w.heap.size + 1 + 1) #[.int .i64 0, .int .i64 0] 29 ∧ Kept w Y) ⟨x6, x7, x4, by exact kpt⟩ ?_
  clear x6 x7 x4 hk
  rintro Y ⟨x6, x7, x4, hk⟩
  obtain ⟨m, hm⟩ : ∃ m, m = x - p0 := ⟨_, rfl⟩
  obtain ⟨n, hn⟩ : ∃ n, n = q0 - p0 := ⟨_, rfl⟩
  rw [← hm, ← hn]
  rw [← hm, ← hn] at HR
  have l1 := mul_bd (A := 20000) (B := 2000000) (x := m) (y := q1 - p1) (by omega) (by omega) (by omega) (by omega)
  have l2 := mul_bd (A := 20000) (B := 2000000) (x := m) (y := p2 - q2) (by omega) (by omega) (by omega) (by omega)
  have r1 := (part_bd (m := m) (n := n) (d := q1 - p1) (by omega) (by omega) (by omega))
  have r2 := (part_bd (m := m) (n := n) (d := p2 - q2) (by omega) (by omega) (by omega))
  have r1' : -2000000 ≤ m * (q1 - p1) / n ∧ m * (q1 - p1) / n ≤ 2000000 := by
    by_cases hd : 0 ≤ q1 - p1
    · have := r1.1 hd; omega
    · have := r1.2 (by omega); omega
  have r2' : -2000000 ≤ m * (p2 - q2) / n ∧ m * (p2 - q2) / n ≤ 2000000 := by
    by_cases hd : 0 ≤ p2 - q2
    · have := r2.1 hd; omega
    · have := r2.2 (by omega); omega
  have wc1 := i64_w (n := q1 - p1) (by omega)
  have wc2 := i64_w (n := m * (q1 - p1)) (by omega)
  have wc3 := i64_w (n := p1 + m * (q1 - p1) / n) (by omega)
  have wd1 := i64_w (n := p2 - q2) (by omega)
  have wd2 := i64_w (n := m * (p2 - q2)) (by omega)
  have wd3 := i64_w (n := p2 - m * (p2 - q2) / n) (by omega)
  have HN := Lib.hid (show 0 < n ∧ n ≤ 1000000000 from ⟨by omega, by omega⟩)
  have HL1 := Lib.hid (show -1000000000000 ≤ m * (q1 - p1) ∧ m * (q1 - p1) ≤ 1000000000000 from ⟨by omega, by omega⟩)
  have HL2 := Lib.hid (show -1000000000000 ≤ m * (p2 - q2) ∧ m * (p2 - q2) ≤ 1000000000000 from ⟨by omega, by omega⟩)
  clear r1 r2 r1' r2' l1 l2 hm hn
  have x6k0 : ∀ w', But (w.heap.size + 1 + 1) Y w' → w'.cell? ⟨n6, 0, none⟩ = _ := fun w' h => (h.blk x6 (by omega)).cell 0
  have x6k1 : ∀ w', But (w.heap.size + 1 + 1) Y w' → w'.cell? ⟨n6, 1, none⟩ = _ := fun w' h => (h.blk x6 (by omega)).cell 1
  have x6k2 : ∀ w', But (w.heap.size + 1 + 1) Y w' → w'.cell? ⟨n6, 2, none⟩ = _ := fun w' h => (h.blk x6 (by omega)).cell 2
  simp at x6k0 x6k1 x6k2
  have x6l_ := x6.lt
  have x7k0 : ∀ w', But (w.heap.size + 1 + 1) Y w' → w'.cell? ⟨n7, 0, none⟩ = _ := fun w' h => (h.blk x7 (by omega)).cell 0
  have x7k1 : ∀ w', But (w.heap.size + 1 + 1) Y w' → w'.cell? ⟨n7, 1, none⟩ = _ := fun w' h => (h.blk x7 (by omega)).cell 1
  have x7k2 : ∀ w', But (w.heap.size + 1 + 1) Y w' → w'.cell? ⟨n7, 2, none⟩ = _ := fun w' h => (h.blk x7 (by omega)).cell 2
  simp at x7k0 x7k1 x7k2
  have x7l_ := x7.lt
  have x4c0 := x4.cell 0
  have x4f0 := x4.free 0
  have x4c1 := x4.cell 1
  have x4f1 := x4.free 1
  have x4l := x4.lt
  simp at x4c0 x4c1
  go_cut [4] (fun s4 wx => s4 = .pointer (some ⟨w.heap.size + 1 + 1, 0, none⟩) ∧ Blk wx (w.heap.size + 1 + 1) #[.int .i64 (p1 + m * (q1 - p1) / n), .int .i64 (p2 - m * (p2 - q2) / n)] 29 ∧ Kept w wx)
  case first => as_aux_lemma =>
    go_region_held3 (fun w' => But (w.heap.size + 1 + 1) Y w') (exact butt) (first | (go_at_call 89; (with_reducible refine (f_bdown _ _ _ HN.out.1 HN.out.2 HL1.out).mono ?_); rintro e w1 ⟨rfl, rfl⟩) | (go_at_call 89; (with_reducible refine (f_bdown _ _ _ HN.out.1 HN.out.2 HL2.out).mono ?_); rintro e w1 ⟨rfl, rfl⟩) | fail)
    all_goals (go_wp2_with fail; go_meet)
    all_goals exact ⟨rfl, (x4.set 0 _).set 1 _, But.under hk (by exact butt) (by omega)⟩
  obtain ⟨rfl, x4, hk⟩ := hcut
  have x4c0 := x4.cell 0
  have x4c1 := x4.cell 1
  simp at x4c0 x4c1
  clear x6 x7
  go_wp2
  exact bodyPost_ret (v := .agg #[.int .i64 (p1 + m * (q1 - p1) / n), .int .i64 (p2 - m * (p2 - q2) / n)]) (by simp [results, Try.results82, go_sem, x4c0, x4c1]) rfl ⟨HR.out _ _ (by first | rfl | simp) (by first | rfl | simp), hk⟩

end Go.Proofs.Ytnfhcpnpjkefmaa

/-
  Two spans around each other, and together.
-/
namespace Go.Proofs.Ytnfhcpnpjkefmaa
open Go.RowKit Bal Bal.Trim Bal.Wx
set_option linter.unusedVariables false
set_option linter.unusedSimpArgs false
set_option maxHeartbeats 4000000
set_option maxRecDepth 100000
attribute [local go_sem] ite_min ite_max

theorem f_around2 (n : Nat) (a0 a1 b0 b1 : Int) (w : World) (h : Blk w n #[.int .i64 a0, .int .i64 a1, .int .i64 b0, .int .i64 b1] 29) : Calls Try.prog 81 #[.slice (some ⟨n, 0, none⟩) 2 2] w fun e w' => e = .returned (.agg #[.int .i64 (min a0 b0), .int .i64 (max a1 b1)]) ∧ Kept w w' := by
  have hn := h.lt
  have hc0 := h.cell 0
  have hc1 := h.cell 1
  have hc2 := h.cell 2
  have hc3 := h.cell 3
  simp at hc0 hc1 hc2 hc3
  go_enter Try.func81, Try.ntmps81
  go_wp2_with fail
  go_loopw [12] (fun i wr => (i = .int .i64 0 ∧ Blk wr (w.heap.size + 1) #[.int .i64 (a0), .int .i64 (a1)] 29 ∨ i = .int .i64 1 ∧ Blk wr (w.heap.size + 1) #[.int .i64 (min a0 b0), .int .i64 (max a1 b1)] 29) ∧ Blk wr w.heap.size #[.int .i64 (0), .int .i64 (0)] 29 ∧ Kept w wr) (fun i _ => (1 - intOf i).toNat)
  case atStart => exact ⟨.inl ⟨rfl, by exact blkd⟩, by exact blkd, by exact kpt⟩
  case round =>
    obtain ⟨⟨rfl, o3⟩ | ⟨rfl, o3⟩, z2, hk⟩ := hrel
    all_goals have hw := h.keep hk
    all_goals have hc0 := hw.cell 0
    all_goals have hc1 := hw.cell 1
    all_goals have hc2 := hw.cell 2
    all_goals have hc3 := hw.cell 3
    all_goals simp at hc0 hc1 hc2 hc3
    all_goals have hsz_ := hk.size
    all_goals clear hw
    · go_upto_region 5 with fail
      refine at_world (S := fun V => Blk V wr.heap.size #[.int .i64 (b0), .int .i64 (b1)] 29 ∧ Blk V (w.heap.size + 1) #[.int .i64 (a0), .int .i64 (a1)] 29 ∧ Blk V w.heap.size #[.int .i64 (0), .int .i64 (0)] 29 ∧ Kept w V) ⟨by exact blkd, by exact blkd, by exact blkd, by exact kpt⟩ ?_
      have hsz := o3.lt
      generalize wr.heap.size = n5 at hsz ⊢
      clear z2 o3 hk hc0 hc1 hc2 hc3
      rintro V ⟨x5, o3, z2, hk⟩
      have x5c0 := x5.cell 0
      have x5f0 := x5.free 0
      have x5c1 := x5.cell 1
      have x5f1 := x5.free 1
      have x5l := x5.lt
      simp at x5c0 x5c1
      have o3c0 := o3.cell 0
      have o3f0 := o3.free 0
      have o3c1 := o3.cell 1
      have o3f1 := o3.free 1
      have o3l := o3.lt
      simp at o3c0 o3c1
      go_region
      all_goals go_wp2
      all_goals go_round
      case rel => exact ⟨.inr ⟨rfl, (by exact blkd)⟩, by exact blkd, by exact kpt⟩
      case measure => simp [intOf]
    · have o3c0 := o3.cell 0
      have o3f0 := o3.free 0
      have o3c1 := o3.cell 1
      have o3f1 := o3.free 1
      have o3l := o3.lt
      simp at o3c0 o3c1
      have z2c0 := z2.cell 0
      have z2f0 := z2.free 0
      have z2c1 := z2.cell 1
      have z2f1 := z2.free 1
      have z2l := z2.lt
      simp at z2c0 z2c1
      go_wp2
      exact bodyPost_ret (v := .agg #[.int .i64 (min a0 b0), .int .i64 (max a1 b1)]) (by simp [results, Try.results81, go_sem, o3c0, o3c1, z2c0, z2c1, z2f0, z2f1]) rfl ⟨rfl, by exact kpt⟩

theorem f_together2 (n : Nat) (a0 a1 b0 b1 : Int) (w : World) (h : Blk w n #[.int .i64 a0, .int .i64 a1, .int .i64 b0, .int .i64 b1] 29) : Calls Try.prog 77 #[.slice (some ⟨n, 0, none⟩) 2 2] w fun e w' => e = .returned (.agg #[.int .i64 (max a0 b0), .int .i64 (min a1 b1)]) ∧ Kept w w' := by
  have hn := h.lt
  have hc0 := h.cell 0
  have hc1 := h.cell 1
  have hc2 := h.cell 2
  have hc3 := h.cell 3
  simp at hc0 hc1 hc2 hc3
  go_enter Try.func77, Try.ntmps77
  go_wp2_with fail
  go_loopw [11] (fun i wr => (i = .int .i64 0 ∧ Blk wr (w.heap.size + 1) #[.int .i64 (a0), .int .i64 (a1)] 29 ∨ i = .int .i64 1 ∧ Blk wr (w.heap.size + 1) #[.int .i64 (max a0 a0), .int .i64 (min a1 a1)] 29 ∨ i = .int .i64 2 ∧ Blk wr (w.heap.size + 1) #[.int .i64 (max (max a0 a0) b0), .int .i64 (min (min a1 a1) b1)] 29) ∧ Blk wr w.heap.size #[.int .i64 (0), .int .i64 (0)] 29 ∧ Kept w wr) (fun i _ => (2 - intOf i).toNat)
  case atStart => exact ⟨.inl ⟨rfl, by exact blkd⟩, by exact blkd, by exact kpt⟩
  case round =>
    obtain ⟨⟨rfl, o3⟩ | ⟨rfl, o3⟩ | ⟨rfl, o3⟩, z2, hk⟩ := hrel
    all_goals have hw := h.keep hk
    all_goals have hc0 := hw.cell 0
    all_goals have hc1 := hw.cell 1
    all_goals have hc2 := hw.cell 2
    all_goals have hc3 := hw.cell 3
    all_goals simp at hc0 hc1 hc2 hc3
    all_goals have hsz_ := hk.size
    all_goals clear hw
    · go_upto_region 5 with fail
      refine at_world (S := fun V => Blk V wr.heap.size #[.int .i64 (a0), .int .i64 (a1)] 29 ∧ Blk V (w.heap.size + 1) #[.int .i64 (a0), .int .i64 (a1)] 29 ∧ Blk V w.heap.size #[.int .i64 (0), .int .i64 (0)] 29 ∧ Kept w V) ⟨by exact blkd, by exact blkd, by exact blkd, by exact kpt⟩ ?_
      have hsz := o3.lt
      generalize wr.heap.size = n5 at hsz ⊢
      clear z2 o3 hk hc0 hc1 hc2 hc3
      rintro V ⟨x5, o3, z2, hk⟩
      have x5c0 := x5.cell 0
      have x5f0 := x5.free 0
      have x5c1 := x5.cell 1
      have x5f1 := x5.free 1
      have x5l := x5.lt
      simp at x5c0 x5c1
      have o3c0 := o3.cell 0
      have o3f0 := o3.free 0
      have o3c1 := o3.cell 1
      have o3f1 := o3.free 1
      have o3l := o3.lt
      simp at o3c0 o3c1
      go_region
      all_goals go_wp2
      all_goals go_round
      case rel => exact ⟨.inr (.inl ⟨rfl, (by exact blkd)⟩), by exact blkd, by exact kpt⟩
      case measure => simp [intOf]
    · go_upto_region 5 with fail
      refine at_world (S := fun V => Blk V wr.heap.size #[.int .i64 (b0), .int .i64 (b1)] 29 ∧ Blk V (w.heap.size + 1) #[.int .i64 (max a0 a0), .int .i64 (min a1 a1)] 29 ∧ Blk V w.heap.size #[.int .i64 (0), .int .i64 (0)] 29 ∧ Kept w V) ⟨by exact blkd, by exact blkd, by exact blkd, by exact kpt⟩ ?_
      have hsz := o3.lt
      generalize wr.heap.size = n5 at hsz ⊢
      clear z2 o3 hk hc0 hc1 hc2 hc3
      rintro V ⟨x5, o3, z2, hk⟩
      have x5c0 := x5.cell 0
      have x5f0 := x5.free 0
      have x5c1 := x5.cell 1
      have x5f1 := x5.free 1
      have x5l := x5.lt
      simp at x5c0 x5c1
      have o3c0 := o3.cell 0
      have o3f0 := o3.free 0
      have o3c1 := o3.cell 1
      have o3f1 := o3.free 1
      have o3l := o3.lt
      simp at o3c0 o3c1
      go_region
      all_goals go_wp2
      all_goals go_round
      case rel => exact ⟨.inr (.inr ⟨rfl, (by exact blkd)⟩), by exact blkd, by exact kpt⟩
      case measure => simp [intOf]
    · have o3c0 := o3.cell 0
      have o3f0 := o3.free 0
      have o3c1 := o3.cell 1
      have o3f1 := o3.free 1
      have o3l := o3.lt
      simp at o3c0 o3c1
      have z2c0 := z2.cell 0
      have z2f0 := z2.free 0
      have z2c1 := z2.cell 1
      have z2f1 := z2.free 1
      have z2l := z2.lt
      simp at z2c0 z2c1
      go_wp2
      exact bodyPost_ret (v := .agg #[.int .i64 (max (max a0 a0) b0), .int .i64 (min (min a1 a1) b1)]) (by simp [results, Try.results77, go_sem, o3c0, o3c1, z2c0, z2c1, z2f0, z2f1]) rfl ⟨by rw [show max (max a0 a0) b0 = max a0 b0 by omega, show min (min a1 a1) b1 = min a1 b1 by omega], by exact kpt⟩

end Go.Proofs.Ytnfhcpnpjkefmaa

/-
  Layer 1 as the air asks it: a valid table, and what it says of a span.
-/
namespace Go.Proofs.Ytnfhcpnpjkefmaa
open Go.RowKit Bal Bal.Trim Bal.Wx
set_option linter.unusedVariables false
set_option linter.unusedSimpArgs false
set_option maxHeartbeats 4000000
set_option maxRecDepth 100000
attribute [local go_sem] ite_min ite_max

theorem f_CheckTable (ad : Option Addr) (cap : Nat) (t : List Kn) (A B : Int) (w : World) (ht : Tab t A B) (hA : -1000000 ≤ A) (hB : B ≤ 1000000) (hcp : t.length ≤ cap) (hr : Row Kn.cells 3 w.heap.size w ad t) : Calls Try.prog 80 #[.slice ad t.length cap] w fun e w' => e = .returned (.int .i64 0) ∧ Kept w w' := by
  have n2 := ht.n2
  have n16 := ht.n16
  have HT := Lib.hid ht
  have d1 : decide ((t.length : Int) < 2) = false := by simp; omega
  have d2 : decide ((32 : Int) < (t.length : Int)) = false := by simp; omega
  clear ht
  go_enter Try.func80, Try.ntmps80
  go_wp2
  go_loopw [15] (fun i wr => ∃ k : Nat, k ≤ t.length ∧ i = .int .i64 k ∧ Kept w wr) (fun i _ => t.length - (intOf i).toNat)
  case atStart => exact ⟨0, Nat.zero_le _, rfl, by exact kpt⟩
  case round =>
    obtain ⟨k, hkn, rfl, hk⟩ := hrel
    by_cases hlt : k < t.length
    · obtain ⟨b, off, rfl, hb, c0, c1, c2⟩ := Kn.row (hr.later hk (Nat.le_refl _)) k hlt
      have v := HT.out.val k hlt
      have ps := HT.out.pos k hlt
      obtain ⟨p0, hp0⟩ : ∃ n, n = (kAt t k).pos := ⟨_, rfl⟩
      obtain ⟨p1, hp1⟩ : ∃ n, n = (kAt t k).lo := ⟨_, rfl⟩
      obtain ⟨p2, hp2⟩ : ∃ n, n = (kAt t k).hi := ⟨_, rfl⟩
      rw [← hp0] at c0 ps
      rw [← hp1] at c1 v
      rw [← hp2] at c2 v
      have HP := Lib.hid hp0
      clear hp0 hp1 hp2
      go_upto_region 6 with fail
      refine at_world (S := fun V => Blk V wr.heap.size #[.int .i64 p0, .int .i64 p1, .int .i64 p2] 122 ∧ Kept w V) ⟨by exact blkd, by exact kpt⟩ ?_
      clear c0 c1 c2 hk
      rintro V ⟨x4, hk⟩
      generalize wr.heap.size = n4 at x4 ⊢
      have x4c0 := x4.cell 0
      have x4f0 := x4.free 0
      have x4c1 := x4.cell 1
      have x4f1 := x4.free 1
      have x4c2 := x4.cell 2
      have x4f2 := x4.free 2
      have x4l := x4.lt
      simp at x4c0 x4c1 x4c2
      have e1 : decide (min p0 p1 < -1073741824) = false := by simp; omega
      have e2 : decide (1073741824 < max p0 p2) = false := by simp; omega
      have e3 : decide (p2 < p1) = false := by simp; omega
      have e1' : decide (p0 < -1073741824) = false := by simp; omega
      have e2' : decide (p1 < -1073741824) = false := by simp; omega
      have e3' : decide (1073741824 < p0) = false := by simp; omega
      have e4' : decide (1073741824 < p2) = false := by simp; omega
      by_cases h0 : k = 0
      · subst h0
        have e4 : decide ((0 : Int) < ((0 : Nat) : Int)) = false := by simp
        go_region
        all_goals go_wp2
        all_goals go_round
        case rel => exact ⟨1, by omega, rfl, by exact kpt⟩
        case measure => simp [intOf]; omega
      · obtain ⟨j, rfl⟩ : ∃ j, k = j + 1 := ⟨k - 1, by omega⟩
        obtain ⟨b', off', ha', hb', e0, _, _⟩ := Kn.row (hr.later hk (Nat.le_refl _)) j (by omega)
        obtain ⟨rfl, rfl⟩ : b = b' ∧ off = off' := by simpa using ha'
        have hu := HT.out.up j hlt
        rw [← HP.out] at hu
        have e4 : decide ((0 : Int) < ((j + 1 : Nat) : Int)) = true := by first | (simp; done) | (simp; omega)
        have e5 : decide (p0 ≤ (kAt t j).pos) = false := by simp; omega
        have wj := i64_w (n := ((j + 1 : Nat) : Int) - 1) (by omega)
        have j0 : (0 : Int) ≤ ((j + 1 : Nat) : Int) - 1 := by omega
        have j1 : ((j + 1 : Nat) : Int) - 1 < (t.length : Int) := by omega
        have jt : (((j + 1 : Nat) : Int) - 1).toNat = j := by omega
        clear ha' hu
        go_region
        all_goals go_wp2
        all_goals go_round
        case rel => exact ⟨j + 1 + 1, by omega, by go_num, by exact kpt⟩
        case measure => simp [intOf]; omega
    · obtain rfl : k = t.length := by omega
      go_wp2
      go_ret
      exact ⟨rfl, hk⟩

end Go.Proofs.Ytnfhcpnpjkefmaa

/-
  Layer 1 as the air asks it: what a table says of a span.
-/
namespace Go.Proofs.Ytnfhcpnpjkefmaa
open Go.RowKit Bal Bal.Trim Bal.Wx
set_option linter.unusedVariables false
set_option linter.unusedSimpArgs false
set_option maxHeartbeats 4000000
set_option maxRecDepth 100000
attribute [local go_sem] ite_min ite_max

theorem f_Value (ad : Option Addr) (cap : Nat) (t : List Kn) (A B : Int) (x0 x1 : Int) (w : World) (ht : Tab t A B) (hA : -1000000 ≤ A) (hB : B ≤ 1000000) (hcp : t.length ≤ cap) (hr : Row Kn.cells 3 w.heap.size w ad t) (h01 : x0 ≤ x1) (h0 : (kAt t 0).pos ≤ x0) (h1 : x1 ≤ (kAt t (t.length - 1)).pos) : Calls Try.prog 61 #[.slice ad t.length cap, .agg #[.int .i64 x0, .int .i64 x1]] w fun e w' => (∃ lo hi, VRel t A B x0 x1 lo hi ∧ e = .returned (.tuple #[.agg #[.int .i64 lo, .int .i64 hi], .int .i64 0])) ∧ Kept w w' := by
  have n2 := ht.n2
  have n16 := ht.n16
  have HT := Lib.hid ht
  have p0_ := ht.pos 0 (by omega)
  have pl_ := ht.pos (t.length - 1) (by omega)
  have HS := Lib.hid (show (if snB x0 x1 then (0 : Int) else 10) = 0 by rw [if_pos]; simp [snB]; omega)
  have Hx0 := Lib.hid (show (kAt t 0).pos ≤ x0 ∧ x0 ≤ (kAt t (t.length - 1)).pos from ⟨h0, by omega⟩)
  have Hx1 := Lib.hid (show (kAt t 0).pos ≤ x1 ∧ x1 ≤ (kAt t (t.length - 1)).pos from ⟨by omega, h1⟩)
  obtain ⟨y0, hy0⟩ : ∃ n, n = (kAt t 0).pos := ⟨_, rfl⟩
  obtain ⟨y1, hy1⟩ : ∃ n, n = (kAt t (t.length - 1)).pos := ⟨_, rfl⟩
  have HY0 := Lib.hid hy0
  have HY1 := Lib.hid hy1
  have d1 : decide (x0 < y0) = false := by simp; omega
  have d2 : decide (y1 < x1) = false := by simp; omega
  have wl := i64_w (n := (t.length : Int) - 1) (by omega)
  have l0 : (0 : Int) ≤ (t.length : Int) - 1 := by omega
  have l1 : (t.length : Int) - 1 < (t.length : Int) := by omega
  have l2 : (0 : Int) < (t.length : Int) := by omega
  have lt_ : ((t.length : Int) - 1).toNat = t.length - 1 := by omega
  clear ht h01 h0 h1 hy0 hy1
  go_enter Try.func61, Try.ntmps61
  go_upto_region 7 with (first | (go_at_call 80; (with_reducible refine (f_CheckTable ad cap t A B _ HT.out hA hB hcp (hr.later (by exact kpt) (Nat.le_refl _))).mono ?_); rintro e w1 ⟨rfl, hb1⟩; refine Blk.thru (b := w.heap.size) (arr := ?_) (t := ?_) ?_ hb1 ?_; rotate_left 2; (focus (exact blk)); intro ux; have uxc0 := ux.cell 0; have uxf0 := ux.free 0; have uxc1 := ux.cell 1; have uxf1 := ux.free 1; have uxl := ux.lt; simp at uxc0 uxc1; refine Blk.thru (b := (w.heap.size + 1)) (arr := ?_) (t := ?_) ?_ hb1 ?_; rotate_left 2; (focus (exact blk)); intro uz; have uzc0 := uz.cell 0; have uzf0 := uz.free 0; have uzc1 := uz.cell 1; have uzf1 := uz.free 1; have uzl := uz.lt; simp at uzc0 uzc1) | (go_at_call 18; (with_reducible refine (f_snCheck x0 x1 _).mono ?_); rw [HS.out]; rintro e w2 ⟨rfl, hb2⟩; refine Blk.thru (b := w.heap.size) (arr := ?_) (t := ?_) ?_ hb2 ?_; rotate_left 2; (focus (exact blk)); intro vx; have vxc0 := vx.cell 0; have vxf0 := vx.free 0; have vxc1 := vx.cell 1; have vxf1 := vx.free 1; have vxl := vx.lt; simp at vxc0 vxc1; refine Blk.thru (b := (w.heap.size + 1)) (arr := ?_) (t := ?_) ?_ hb2 ?_; rotate_left 2; (focus (exact blk)); intro vz; have vzc0 := vz.cell 0; have vzf0 := vz.free 0; have vzc1 := vz.cell 1; have vzf1 := vz.free 1; have vzl := vz.lt; simp at vzc0 vzc1))
  refine at_world (S := fun U => Blk U w.heap.size #[.int .i64 x0, .int .i64 x1] 29 ∧ Blk U (w.heap.size + 1) #[.int .i64 0, .int .i64 0] 29 ∧ Kept w U) ⟨by exact blkd, by exact blkd, by exact kpt⟩ ?_
  clear ux uz vx vz
  rintro U ⟨bx, bz, hk⟩
  obtain ⟨b, off, had, hb, c0, _, _⟩ := Kn.row (hr.later hk (Nat.le_refl _)) 0 (by omega)
  obtain ⟨b', off', ha', hb', e0, _, _⟩ := Kn.row (hr.later hk (Nat.le_refl _)) (t.length - 1) (by omega)
  obtain ⟨rfl, rfl⟩ : b = b' ∧ off = off' := by rw [had] at ha'; simpa using ha'
  subst had
  rw [← HY0.out] at c0
  rw [← HY1.out] at e0
  simp at c0
  have bxc0 := bx.cell 0
  have bxf0 := bx.free 0
  have bxc1 := bx.cell 1
  have bxf1 := bx.free 1
  have bxl := bx.lt
  simp at bxc0 bxc1
  go_upto_region 7 with fail
  go_region
  all_goals go_upto_region 9 with fail
  refine at_world (S := fun V => Blk V w.heap.size #[.int .i64 x0, .int .i64 x1] 29 ∧ Blk V (w.heap.size + 1) #[.int .i64 0, .int .i64 0] 29 ∧ Kept w V) ⟨by exact blkd, by exact blkd, by exact kpt⟩ ?_
  clear bx bz hk c0 e0 bxc0 bxf0 bxc1 bxf1 bxl
  rintro V ⟨bx, bz, hk⟩
  have bxk0 : ∀ w', Kept V w' → w'.cell? ⟨w.heap.size, 0, none⟩ = _ := fun w' h => (bx.keep h).cell 0
  have bxk1 : ∀ w', Kept V w' → w'.cell? ⟨w.heap.size, 1, none⟩ = _ := fun w' h => (bx.keep h).cell 1
  simp at bxk0 bxk1
  have bxl_ := bx.lt
  have bzl_ := bz.lt
  go_cut [8] (fun s8 wx => ∃ n8 lo hi, s8 = .pointer (some ⟨n8, 0, none⟩) ∧ VRel t A B x0 x1 lo hi ∧ w.heap.size + 1 < n8 ∧ Blk wx n8 #[.int .i64 lo, .int .i64 hi] 29 ∧ Blk wx w.heap.size #[.int .i64 x0, .int .i64 x1] 29 ∧ Blk wx (w.heap.size + 1) #[.int .i64 0, .int .i64 0] 29 ∧ Kept w wx)
  case first => as_aux_lemma =>
    go_region_held3 (fun w' => Kept V w') (exact kpta) (first | (go_at_call 82; (with_reducible refine (f_at _ cap t x0 A B _ HT.out hA hB hcp (hr.later (by exact kpt) (Nat.le_refl _)) Hx0.out.1 Hx0.out.2).mono ?_); rintro e wP ⟨⟨iwP, hiwP, rfl⟩, hbwP⟩; (first | (refine Blk.thru (b := V.heap.size) (arr := #[.int .i64 0, .int .i64 0]) (t := 29) ?_ hbwP ?_; (focus (first | with_reducible assumption | (refine Blk.new' ?_; (focus (simp; done))) | (refine Blk.drew (Blk.new' ?_); (focus (simp; done))) | (refine Blk.alloc (Blk.new' ?_) _; (focus (simp; done))) | (refine Blk.drew (Blk.alloc (Blk.new' ?_) _); (focus (simp; done))) | (refine Blk.alloc (Blk.drew (Blk.new' ?_)) _; (focus (simp; done))) | (refine Blk.alloc ?_ _; with_reducible assumption) | (refine Blk.drew ?_; with_reducible assumption) | (refine Blk.drew (Blk.alloc ?_ _); with_reducible assumption) | fail)); intro tz0; have tz0c0 := tz0.cell 0; have tz0f0 := tz0.free 0; have tz0c1 := tz0.cell 1; have tz0f1 := tz0.free 1; have tz0l := tz0.lt; simp at tz0c0 tz0c1) | skip); (first | (refine Blk.thru (b := wQ.heap.size) (arr := #[.int .i64 0, .int .i64 0]) (t := 29) ?_ hbwP ?_; (focus (first | with_reducible assumption | (refine Blk.new' ?_; (focus (simp; done))) | (refine Blk.drew (Blk.new' ?_); (focus (simp; done))) | (refine Blk.alloc (Blk.new' ?_) _; (focus (simp; done))) | (refine Blk.drew (Blk.alloc (Blk.new' ?_) _); (focus (simp; done))) | (refine Blk.alloc (Blk.drew (Blk.new' ?_)) _; (focus (simp; done))) | (refine Blk.alloc ?_ _; with_reducible assumption) | (refine Blk.drew ?_; with_reducible assumption) | (refine Blk.drew (Blk.alloc ?_ _); with_reducible assumption) | fail)); intro tz1; have tz1c0 := tz1.cell 0; have tz1f0 := tz1.free 0; have tz1c1 := tz1.cell 1; have tz1f1 := tz1.free 1; have tz1l := tz1.lt; simp at tz1c0 tz1c1) | skip)) | (go_at_call 82; (with_reducible refine (f_at _ cap t x1 A B _ HT.out hA hB hcp (hr.later (by exact kpt) (Nat.le_refl _)) Hx1.out.1 Hx1.out.2).mono ?_); rintro e wQ ⟨⟨iwQ, hiwQ, rfl⟩, hbwQ⟩; (first | (refine Blk.thru (b := V.heap.size) (arr := #[.int .i64 0, .int .i64 0]) (t := 29) ?_ hbwQ ?_; (focus (first | with_reducible assumption | (refine Blk.new' ?_; (focus (simp; done))) | (refine Blk.drew (Blk.new' ?_); (focus (simp; done))) | (refine Blk.alloc (Blk.new' ?_) _; (focus (simp; done))) | (refine Blk.drew (Blk.alloc (Blk.new' ?_) _); (focus (simp; done))) | (refine Blk.alloc (Blk.drew (Blk.new' ?_)) _; (focus (simp; done))) | (refine Blk.alloc ?_ _; with_reducible assumption) | (refine Blk.drew ?_; with_reducible assumption) | (refine Blk.drew (Blk.alloc ?_ _); with_reducible assumption) | fail)); intro tz0; have tz0c0 := tz0.cell 0; have tz0f0 := tz0.free 0; have tz0c1 := tz0.cell 1; have tz0f1 := tz0.free 1; have tz0l := tz0.lt; simp at tz0c0 tz0c1) | skip); (first | (refine Blk.thru (b := wP.heap.size) (arr := #[.int .i64 0, .int .i64 0]) (t := 29) ?_ hbwQ ?_; (focus (first | with_reducible assumption | (refine Blk.new' ?_; (focus (simp; done))) | (refine Blk.drew (Blk.new' ?_); (focus (simp; done))) | (refine Blk.alloc (Blk.new' ?_) _; (focus (simp; done))) | (refine Blk.drew (Blk.alloc (Blk.new' ?_) _); (focus (simp; done))) | (refine Blk.alloc (Blk.drew (Blk.new' ?_)) _; (focus (simp; done))) | (refine Blk.alloc ?_ _; with_reducible assumption) | (refine Blk.drew ?_; with_reducible assumption) | (refine Blk.drew (Blk.alloc ?_ _); with_reducible assumption) | fail)); intro tz1; have tz1c0 := tz1.cell 0; have tz1f0 := tz1.free 0; have tz1c1 := tz1.cell 1; have tz1f1 := tz1.free 1; have tz1l := tz1.lt; simp at tz1c0 tz1c1) | skip)) | (go_at_call 81; (with_reducible refine (f_around2 _ _ _ _ _ _ (by exact blkd)).mono ?_); rintro e wR ⟨rfl, hbwR⟩; (first | (refine Blk.thru (b := V.heap.size) (arr := #[.int .i64 0, .int .i64 0]) (t := 29) ?_ hbwR ?_; (focus (first | with_reducible assumption | (refine Blk.new' ?_; (focus (simp; done))) | (refine Blk.drew (Blk.new' ?_); (focus (simp; done))) | (refine Blk.alloc (Blk.new' ?_) _; (focus (simp; done))) | (refine Blk.drew (Blk.alloc (Blk.new' ?_) _); (focus (simp; done))) | (refine Blk.alloc (Blk.drew (Blk.new' ?_)) _; (focus (simp; done))) | (refine Blk.alloc ?_ _; with_reducible assumption) | (refine Blk.drew ?_; with_reducible assumption) | (refine Blk.drew (Blk.alloc ?_ _); with_reducible assumption) | fail)); intro tz0; have tz0c0 := tz0.cell 0; have tz0f0 := tz0.free 0; have tz0c1 := tz0.cell 1; have tz0f1 := tz0.free 1; have tz0l := tz0.lt; simp at tz0c0 tz0c1) | skip); (first | (refine Blk.thru (b := wP.heap.size) (arr := #[.int .i64 0, .int .i64 0]) (t := 29) ?_ hbwR ?_; (focus (first | with_reducible assumption | (refine Blk.new' ?_; (focus (simp; done))) | (refine Blk.drew (Blk.new' ?_); (focus (simp; done))) | (refine Blk.alloc (Blk.new' ?_) _; (focus (simp; done))) | (refine Blk.drew (Blk.alloc (Blk.new' ?_) _); (focus (simp; done))) | (refine Blk.alloc (Blk.drew (Blk.new' ?_)) _; (focus (simp; done))) | (refine Blk.alloc ?_ _; with_reducible assumption) | (refine Blk.drew ?_; with_reducible assumption) | (refine Blk.drew (Blk.alloc ?_ _); with_reducible assumption) | fail)); intro tz1; have tz1c0 := tz1.cell 0; have tz1f0 := tz1.free 0; have tz1c1 := tz1.cell 1; have tz1f1 := tz1.free 1; have tz1l := tz1.lt; simp at tz1c0 tz1c1) | skip); (first | (refine Blk.thru (b := wQ.heap.size) (arr := #[.int .i64 0, .int .i64 0]) (t := 29) ?_ hbwR ?_; (focus (first | with_reducible assumption | (refine Blk.new' ?_; (focus (simp; done))) | (refine Blk.drew (Blk.new' ?_); (focus (simp; done))) | (refine Blk.alloc (Blk.new' ?_) _; (focus (simp; done))) | (refine Blk.drew (Blk.alloc (Blk.new' ?_) _); (focus (simp; done))) | (refine Blk.alloc (Blk.drew (Blk.new' ?_)) _; (focus (simp; done))) | (refine Blk.alloc ?_ _; with_reducible assumption) | (refine Blk.drew ?_; with_reducible assumption) | (refine Blk.drew (Blk.alloc ?_ _); with_reducible assumption) | fail)); intro tz2; have tz2c0 := tz2.cell 0; have tz2f0 := tz2.free 0; have tz2c1 := tz2.cell 1; have tz2f1 := tz2.free 1; have tz2l := tz2.lt; simp at tz2c0 tz2c1) | skip); (first | (refine Blk.thru (b := (wP.heap.size + 1)) (arr := #[.int .i64 0, .int .i64 0]) (t := 29) ?_ hbwR ?_; (focus (first | with_reducible assumption | (refine Blk.new' ?_; (focus (simp; done))) | (refine Blk.drew (Blk.new' ?_); (focus (simp; done))) | (refine Blk.alloc (Blk.new' ?_) _; (focus (simp; done))) | (refine Blk.drew (Blk.alloc (Blk.new' ?_) _); (focus (simp; done))) | (refine Blk.alloc (Blk.drew (Blk.new' ?_)) _; (focus (simp; done))) | (refine Blk.alloc ?_ _; with_reducible assumption) | (refine Blk.drew ?_; with_reducible assumption) | (refine Blk.drew (Blk.alloc ?_ _); with_reducible assumption) | fail)); intro tz3; have tz3c0 := tz3.cell 0; have tz3f0 := tz3.free 0; have tz3c1 := tz3.cell 1; have tz3f1 := tz3.free 1; have tz3l := tz3.lt; simp at tz3c0 tz3c1) | skip); (first | (refine Blk.thru (b := (wQ.heap.size + 1)) (arr := #[.int .i64 0, .int .i64 0]) (t := 29) ?_ hbwR ?_; (focus (first | with_reducible assumption | (refine Blk.new' ?_; (focus (simp; done))) | (refine Blk.drew (Blk.new' ?_); (focus (simp; done))) | (refine Blk.alloc (Blk.new' ?_) _; (focus (simp; done))) | (refine Blk.drew (Blk.alloc (Blk.new' ?_) _); (focus (simp; done))) | (refine Blk.alloc (Blk.drew (Blk.new' ?_)) _; (focus (simp; done))) | (refine Blk.alloc ?_ _; with_reducible assumption) | (refine Blk.drew ?_; with_reducible assumption) | (refine Blk.drew (Blk.alloc ?_ _); with_reducible assumption) | fail)); intro tz4; have tz4c0 := tz4.cell 0; have tz4f0 := tz4.free 0; have tz4c1 := tz4.cell 1; have tz4f1 := tz4.free 1; have tz4l := tz4.lt; simp at tz4c0 tz4c1) | skip)) | fail)
    all_goals (go_wp2_with fail; go_meet)
    all_goals have hzl_ := bz.lt
    all_goals (rename_i hHeld_; clear hHeld_)
    all_goals (have a1 := Kept.size hbwP; have a2 := Kept.size hbwQ; have a3 := Kept.size hbwR; (try simp at a1 a2 a3))
    all_goals refine ⟨_, _, _, rfl, VRel.start HT.out hiwP hiwQ, by omega, ?_, ?_, ?_, by exact kpta⟩
    all_goals (first | exact blkx | exact (tz0.set 0 _).set 1 _ | exact (tz1.set 0 _).set 1 _ | exact (tz2.set 0 _).set 1 _ | exact (tz3.set 0 _).set 1 _ | exact (tz4.set 0 _).set 1 _ | trace_state)
  obtain ⟨n8, lo, hi, rfl, hv, hn8, b8, bx, bz, hk⟩ := hcut
  clear bxk0 bxk1 bxl_ bzl_
  go_upto_region 10 with fail
  go_wp2
  go_loopw [55] (fun iv wr => ∃ k : Nat, ∃ lo hi, k ≤ t.length ∧ iv = .int .i64 k ∧ VRel t A B x0 x1 lo hi ∧ Blk wr n8 #[.int .i64 lo, .int .i64 hi] 29 ∧ Blk wr w.heap.size #[.int .i64 x0, .int .i64 x1] 29 ∧ Blk wr (w.heap.size + 1) #[.int .i64 0, .int .i64 0] 29 ∧ Kept w wr) (fun iv _ => t.length - (intOf iv).toNat)
  case atStart => exact ⟨0, lo, hi, Nat.zero_le _, rfl, hv, b8, bx, bz, hk⟩
  case round =>
    clear hv b8 bx bz hk
    obtain ⟨k, lo, hi, hkn, rfl, hv, b8, bx, bz, hk⟩ := hrel
    have HV := Lib.hid hv
    clear hv
    by_cases hlt : k < t.length
    · obtain ⟨b', off', ha', hb', c0, c1, c2⟩ := Kn.row (hr.later hk (Nat.le_refl _)) k hlt
      obtain ⟨rfl, rfl⟩ : b = b' ∧ off = off' := by simpa using ha'
      clear ha'
      have HST := Lib.hid (fun h0 h1 => VRel.step HT.out HV.out hlt h0 h1)
      obtain ⟨p0, hp0⟩ : ∃ n, n = (kAt t k).pos := ⟨_, rfl⟩
      obtain ⟨p1, hp1⟩ : ∃ n, n = (kAt t k).lo := ⟨_, rfl⟩
      obtain ⟨p2, hp2⟩ : ∃ n, n = (kAt t k).hi := ⟨_, rfl⟩
      rw [← hp0, ← hp1, ← hp2] at HST
      rw [← hp0] at c0
      rw [← hp1] at c1
      rw [← hp2] at c2
      clear hp0 hp1 hp2
      go_upto_region 13 with fail
      refine at_world (S := fun Y => Blk Y wr.heap.size #[.int .i64 p0, .int .i64 p1, .int .i64 p2] 122 ∧ Blk Y n8 #[.int .i64 lo, .int .i64 hi] 29 ∧ Blk Y w.heap.size #[.int .i64 x0, .int .i64 x1] 29 ∧ Blk Y (w.heap.size + 1) #[.int .i64 0, .int .i64 0] 29 ∧ w.heap.size + 1 < wr.heap.size ∧ n8 < wr.heap.size ∧ Kept w Y) ⟨by exact blkd, by exact blkd, by exact blkd, by exact blkd, bz.lt, b8.lt, by exact kpt⟩ ?_
      clear c0 c1 c2 hk b8 bx bz
      rintro Y ⟨x10, b8, bx, bz, hn10, hn11, hk⟩
      generalize wr.heap.size = n10 at x10 hn10 hn11 ⊢
      have b8c0 := b8.cell 0
      have b8f0 := b8.free 0
      have b8c1 := b8.cell 1
      have b8f1 := b8.free 1
      have b8l := b8.lt
      simp at b8c0 b8c1
      have bxc0 := bx.cell 0
      have bxf0 := bx.free 0
      have bxc1 := bx.cell 1
      have bxf1 := bx.free 1
      have bxl := bx.lt
      simp at bxc0 bxc1
      have x10c0 := x10.cell 0
      have x10f0 := x10.free 0
      have x10c1 := x10.cell 1
      have x10f1 := x10.free 1
      have x10c2 := x10.cell 2
      have x10f2 := x10.free 2
      have x10l := x10.lt
      simp at x10c0 x10c1 x10c2
      by_cases h0 : x0 < p0
      · have e1 : decide (x0 < p0) = true := by simp [h0]
        by_cases h1 : p0 < x1
        · have e2 : decide (p0 < x1) = true := by simp [h1]
          have HR := Lib.hid (HST.out h0 h1)
          clear h0 h1
          go_upto_region 15 with (go_at_call 81; (with_reducible refine (f_around2 _ _ _ _ _ _ (by exact blkd)).mono ?_); rintro e wR ⟨rfl, hbwR⟩; refine Blk.thru (b := n8) (arr := ?_) (t := ?_) ?_ hbwR ?_; rotate_left 2; (focus (exact blk)); intro o8; have o8c0 := o8.cell 0; have o8f0 := o8.free 0; have o8c1 := o8.cell 1; have o8f1 := o8.free 1; have o8l := o8.lt; simp at o8c0 o8c1)
          go_wp2
          go_round
          case rel => exact ⟨k + 1, _, _, by omega, by go_num, HR.out, (o8.set 0 _).set 1 _, by exact blkx, by exact blkx, by exact kpta⟩
          case measure => simp [intOf]; omega
        · have e2 : decide (p0 < x1) = false := by simp; omega
          go_wp2
          go_round
          case rel => exact ⟨k + 1, lo, hi, by omega, by go_num, HV.out, b8, bx, bz, hk⟩
          case measure => simp [intOf]; omega
      · have e1 : decide (x0 < p0) = false := by simp; omega
        go_wp2
        go_round
        case rel => exact ⟨k + 1, lo, hi, by omega, by go_num, HV.out, b8, bx, bz, hk⟩
        case measure => simp [intOf]; omega
    · obtain rfl : k = t.length := by omega
      have b8c0 := b8.cell 0
      have b8f0 := b8.free 0
      have b8c1 := b8.cell 1
      have b8f1 := b8.free 1
      have b8l := b8.lt
      simp at b8c0 b8c1
      have bzc0 := bz.cell 0
      have bzf0 := bz.free 0
      have bzc1 := bz.cell 1
      have bzf1 := bz.free 1
      have bzl := bz.lt
      simp at bzc0 bzc1
      go_wp2
      refine at_worldQ (S := fun Z => Blk Z (w.heap.size + 1) #[.int .i64 lo, .int .i64 hi] 29 ∧ Kept w Z) ⟨(bz.set 0 _).set 1 _, by exact kpta⟩ ?_
      rintro Z ⟨yz, hkz⟩
      have yz0 := yz.cell 0
      have yz1 := yz.cell 1
      simp at yz0 yz1
      exact bodyPost_ret (v := .tuple #[.agg #[.int .i64 lo, .int .i64 hi], .int .i64 0]) (by simp [results, Try.results61, go_sem, yz0, yz1]) rfl ⟨⟨lo, hi, HV.out, rfl⟩, hkz⟩

end Go.Proofs.Ytnfhcpnpjkefmaa

/-
  Layer 2: what tells the temperature.
-/
namespace Go.Proofs.Ytnfhcpnpjkefmaa
open Go.RowKit Bal Bal.Trim Bal.Wx
set_option linter.unusedVariables false
set_option linter.unusedSimpArgs false
set_option maxHeartbeats 4000000
set_option maxRecDepth 100000

theorem infoKn : (Try.prog.info? 122).map (fun i => (i.zero, i.size, i.bytes)) = some (some (.agg #[.int .i64 0, .int .i64 0, .int .i64 0]), 3, 24) := by kernel_rfl
theorem f_thermoN (ad : Option Addr) (cap : Nat) (l : List Lev) (w : World) (n2 : 2 ≤ l.length) (n16 : l.length ≤ 16) (hr : Row Lev.cells 5 w.heap.size w ad l) (hcp : l.length ≤ cap) : Calls Try.prog 21 #[.slice ad l.length cap] w fun e w' => (∃ nt gt ct, e = .returned (.func (.func 60) #[] #[.pointer (some ⟨nt, 0, none⟩)]) ∧ w.heap.size ≤ nt ∧ w.heap.size ≤ gt ∧ Blk w' nt #[.slice (some ⟨gt, 0, none⟩) l.length ct] 120 ∧ Row Kn.cells 3 w'.heap.size w' (some ⟨gt, 0, none⟩) (l.map knOf) ∧ l.length ≤ ct) ∧ Kept w w' := by
  have hmf : ∀ (fn : Fn) (first cap : Array Value) (w : World), (Instr.makeFunc fn first cap).run Try.prog w = .ok (.func fn first cap) w := fun _ _ _ _ => rfl
  go_enter Try.func21, Try.ntmps21
  go_wp2
  go_loopw [8] (fun i wr => ∃ k : Nat, k ≤ l.length ∧ i = .int .i64 k ∧ ∃ v, Blk wr w.heap.size #[v] 120 ∧ wr.ownsRow (w.heap.size + 1) 122 3 v k (((l.take k).map knOf).flatMap Kn.cells) ∧ w.heap.size < wr.heap.size ∧ Kept w wr) (fun i _ => l.length - (intOf i).toNat)
  case atStart => exact ⟨0, Nat.zero_le _, rfl, .slice none 0 0, by exact blkd, owns_nil (α := Kn) (enc := Kn.cells), by simp, by exact kpt⟩
  case round =>
    obtain ⟨k, hkn, rfl, v, bt, hown, hsz, hk⟩ := hrel
    obtain ⟨ad_, cp_, rfl⟩ := owns_shapeW hown
    by_cases hlt : k < l.length
    · obtain ⟨b, off, rfl, hb, c0, c1, c2, c3, c4⟩ := Lev.row (hr.later hk (Nat.le_refl _)) k hlt
      have HEQ := Lib.hid (show (((l.take (k + 1)).map knOf).flatMap Kn.cells) = (((l.take k).map knOf).flatMap Kn.cells) ++ [.int .i64 (lAt l k).ht, .int .i64 (lAt l k).tlo, .int .i64 (lAt l k).thi] by rw [List.take_succ_eq_append_getElem hlt, List.map_append, List.flatMap_append, lAt_get hlt]; rfl)
      have k0 : (0 : Int) ≤ (k : Int) := by omega
      have k1 : (k : Int) < (l.length : Int) := by omega
      have btc0 := bt.cell 0
      have btf0 := bt.free 0
      have btl := bt.lt
      simp at btc0
      go_wp2_with (at_builtin; (obtain ⟨i0, hi, hz0, hz1, hz2⟩ := info_partsW infoKn; refine wpList_append_own _ rfl _ _ 120 rfl (w.heap.size + 1) 122 i0 (.agg #[.int .i64 0, .int .i64 0, .int .i64 0]) 3 24 Try.underlying120 hi hz0 hz1 hz2 rfl (by decide) _ _ _ rfl ((owns_keep hown (by exact kpt))) ⟨_, 0, none⟩ 1 1 [.int .i64 (lAt l k).ht, .int .i64 (lAt l k).tlo, .int .i64 (lAt l k).thi] rfl rfl (cells_atW (by simp) _ _) (fun x hx => by simp at hx; rcases hx with rfl | rfl | rfl <;> rfl) (by unfold maxLen; omega) (by omega) (by simp; omega) ?_; intro v9 w9 hown9 hgrow9 hnil9; clear hi hz0 hz1 hz2 hnil9; obtain ⟨ad9, cp9, rfl⟩ := owns_shapeW hown9; have bt9 := Blk.grown (b := w.heap.size) (arr := #[.slice ad_ k cp_]) (t := 120) (by exact blkd) (owns_keep hown (by exact kpt)) (by decide) hgrow9; have bt9c := bt9.cell 0; have bt9f := bt9.free 0; have bt9l := bt9.lt; simp at bt9c; have hk9 : Kept w w9 := Kept.grown (by exact kpt) (owns_keep hown (by exact kpt)) (by omega) hgrow9; have hs9 := hgrow9.size))
      go_roundw
      case rel => exact ⟨k + 1, by omega, by go_num, _, bt9.set 0 _, by rw [HEQ.out]; exact owns_setW hown9 (Nat.lt_succ_self _) _ _, by simp at hs9 ⊢; omega, by exact kpt⟩
      case measure => simp [intOf]; omega
    · obtain rfl : k = l.length := by omega
      rw [List.take_length] at hown
      have hown' : wr.ownsRow (w.heap.size + 1) 122 3 (.slice ad_ l.length cp_) (l.map knOf).length ((l.map knOf).flatMap Kn.cells) := by rw [List.length_map]; exact hown
      obtain ⟨g, cp, cur, hv, hg, hc1, _, hb, ht⟩ := owns_first hown' (by rw [List.length_map]; omega)
      rw [List.length_map] at hc1
      injection hv with e1 e2 e3
      subst e1 e3
      have hrow := first_row Kn.len hb ht
      clear hown hown' ht e2
      go_wp2
      go_ret
      exact ⟨⟨w.heap.size, g, cp_, rfl, Nat.le_refl _, by omega, bt, hrow, hc1⟩, hk⟩

theorem f_thermo (ad : Option Addr) (cap : Nat) (l : List Lev) (w : World) (hs : Snd l) (hr : Row Lev.cells 5 w.heap.size w ad l) (hcp : l.length ≤ cap) : Calls Try.prog 21 #[.slice ad l.length cap] w fun e w' => (∃ nt gt ct, e = .returned (.func (.func 60) #[] #[.pointer (some ⟨nt, 0, none⟩)]) ∧ w.heap.size ≤ nt ∧ w.heap.size ≤ gt ∧ Blk w' nt #[.slice (some ⟨gt, 0, none⟩) l.length ct] 120 ∧ Row Kn.cells 3 w'.heap.size w' (some ⟨gt, 0, none⟩) (l.map knOf) ∧ l.length ≤ ct) ∧ Kept w w' := f_thermoN ad cap l w hs.n2 hs.n16 hr hcp
end Go.Proofs.Ytnfhcpnpjkefmaa

/-
  Layer 2: what the thermometer tells.
-/
namespace Go.Proofs.Ytnfhcpnpjkefmaa
open Go.RowKit Bal Bal.Trim Bal.Wx
set_option linter.unusedVariables false
set_option linter.unusedSimpArgs false
set_option maxHeartbeats 4000000
set_option maxRecDepth 100000
attribute [local go_sem] ite_min ite_max

theorem f_temp (nt gt ct : Nat) (l : List Lev) (A B x0 x1 : Int) (w : World) (ht : Tab (l.map knOf) A B) (hA : -1000000 ≤ A) (hB : B ≤ 1000000) (hb : Blk w nt #[.slice (some ⟨gt, 0, none⟩) l.length ct] 120) (hr : Row Kn.cells 3 w.heap.size w (some ⟨gt, 0, none⟩) (l.map knOf)) (hc : l.length ≤ ct) (h0 : (lAt l 0).ht ≤ min x0 x1) (h1 : max x0 x1 ≤ (lAt l (l.length - 1)).ht) : Calls Try.prog 60 #[.int .i64 (x0), .int .i64 (x1), .pointer (some ⟨nt, 0, none⟩)] w fun e w' => (∃ lo hi, VRel (l.map knOf) A B (min x0 x1) (max x0 x1) lo hi ∧ e = .returned (.agg #[.int .i64 lo, .int .i64 hi])) ∧ Kept w w' := by
  have n2 : 2 ≤ l.length := by have := ht.n2; rwa [List.length_map] at this
  have KV := Lib.hid (show ∀ W, Kept w W → Calls Try.prog 61 #[.slice (some ⟨gt, 0, none⟩) l.length ct, .agg #[.int .i64 (min x0 x1), .int .i64 (max x0 x1)]] W fun e w' => (∃ lo hi, VRel (l.map knOf) A B (min x0 x1) (max x0 x1) lo hi ∧ e = .returned (.tuple #[.agg #[.int .i64 lo, .int .i64 hi], .int .i64 0])) ∧ Kept W w' from fun W hW => by
    have := f_Value (some ⟨gt, 0, none⟩) ct (l.map knOf) A B (min x0 x1) (max x0 x1) W ht hA hB (by rw [List.length_map]; exact hc) (hr.later hW (Nat.le_refl _)) (by omega) (by rw [kAt_map (by omega)]; exact h0) (by rw [List.length_map, kAt_map (by omega)]; exact h1)
    rw [List.length_map] at this
    exact this)
  have hbc := hb.cell 0
  have hbl := hb.lt
  simp at hbc
  clear ht hr h0 h1
  go_enter Try.func60, Try.ntmps60
  go_wp2_with (go_at_call 61; (with_reducible refine (KV.out _ (by exact kpt)).mono ?_); rintro e w1 ⟨⟨lo, hi, hv, rfl⟩, hb1⟩; refine Blk.thru (b := w.heap.size) (arr := ?_) (t := ?_) ?_ hb1 ?_; rotate_left 2; (focus (exact blk)); intro o5; have o5c0 := o5.cell 0; have o5f0 := o5.free 0; have o5c1 := o5.cell 1; have o5f1 := o5.free 1; have o5l := o5.lt; simp at o5c0 o5c1)
  refine at_worldQ (S := fun Z => Blk Z w.heap.size #[.int .i64 lo, .int .i64 hi] 29 ∧ Kept w Z) ⟨by exact blkd, by exact kpt⟩ ?_
  rintro Z ⟨yz, hkz⟩
  have yz0 := yz.cell 0
  have yz1 := yz.cell 1
  simp at yz0 yz1
  exact bodyPost_ret (v := .agg #[.int .i64 lo, .int .i64 hi]) (by simp [results, Try.results60, go_sem, yz0, yz1]) rfl ⟨⟨lo, hi, hv, rfl⟩, hkz⟩

end Go.Proofs.Ytnfhcpnpjkefmaa

/-
  Layer 2: what a pressure may be at another height.
-/
namespace Go.Proofs.Ytnfhcpnpjkefmaa
open Go.RowKit Bal Bal.Trim Bal.Wx
set_option linter.unusedVariables false
set_option linter.unusedSimpArgs false
set_option maxHeartbeats 4000000
set_option maxRecDepth 100000
attribute [local go_sem] ite_min ite_max

theorem f_carry_up (lo hi d tlo thi : Int) (w : World) (h : Pair (1000000 * tlo) (1000000 * thi) (341632 * d)) (hlo : 0 ≤ lo ∧ lo ≤ 393216000) (hhi : 0 ≤ hi ∧ hi ≤ 12000) : Calls Try.prog 59 #[.agg #[.int .i64 (lo), .int .i64 (hi)], .int .i64 (d), .agg #[.int .i64 (tlo), .int .i64 (thi)]] w fun e w' => e = .returned (.agg #[.int .i64 (upLo (1000000 * tlo) (341632 * d) lo), .int .i64 (upHi (1000000 * thi) (341632 * d) hi)]) ∧ Kept w w' := by
  obtain ⟨p1, p2, p3, p4, p5⟩ := h
  have d0 : 0 < d ∧ d ≤ 2000 := by omega
  have m0 : IntKind.i64.wrap (-(d)) = -d := i64_w (by omega)
  have m0' : IntKind.i64.wrap (-(-d)) = d := by rw [Int.neg_neg]; exact i64_w (by omega)
  have md : IntKind.i64.wrap d = d := i64_w (by omega)
  have m1 : max d (-d) = d := by omega
  have m1' : max (-d) d = d := by omega
  have dg : decide ((0 : Int) < d) = true := by simp; omega
  generalize hs : 341632 * d = s at p4 p5 ⊢
  generalize hc : 1000000 * tlo = c at p1 p2 ⊢
  generalize hv : 1000000 * thi = v at p2 p3 ⊢
  have ws : IntKind.i64.wrap (341632 * d) = s := by rw [hs]; exact i64_w (by omega)
  have wc : IntKind.i64.wrap (1000000 * tlo) = c := by rw [hc]; exact i64_w (by omega)
  have wv : IntKind.i64.wrap (1000000 * thi) = v := by rw [hv]; exact i64_w (by omega)
  have HD := Lib.hid d0
  clear hs hc hv d0
  have b1 : 0 ≤ lo * (c - s) ∧ lo * (c - s) ≤ 393216000 * 5000000000 := ⟨Int.mul_nonneg hlo.1 (by omega), Int.mul_le_mul hlo.2 (by omega) (by omega) (by omega)⟩
  have b2 : 0 ≤ hi * v ∧ hi * v ≤ 12000 * 5000000000 := ⟨Int.mul_nonneg hhi.1 (by omega), Int.mul_le_mul hhi.2 (by omega) (by omega) (by omega)⟩
  have w1 := i64_w (n := c - s) (by omega)
  have w2 := i64_w (n := lo * (c - s)) (by omega)
  have w3 := i64_w (n := hi * v) (by omega)
  have w4 := i64_w (n := hi * v + v) (by omega)
  have w5 := i64_w (n := hi * v + v + s) (by omega)
  have w6 := i64_w (n := hi * v + v + s - 1) (by omega)
  have w7 := i64_w (n := v + s) (by omega)
  have q1 : (lo * (c - s)).tdiv (c) = upLo c s lo := by unfold upLo; exact Int.tdiv_eq_ediv_of_nonneg b1.1
  have q2 : (hi * v + v + s - 1).tdiv (v + s) = upHi v s hi := by unfold upHi; exact Int.tdiv_eq_ediv_of_nonneg (by omega)
  have r1 : 0 ≤ upLo c s lo ∧ upLo c s lo ≤ 393216000 * 5000000000 := by
    unfold upLo
    exact ⟨Int.ediv_nonneg b1.1 (by omega), Int.le_trans (Int.ediv_le_self _ b1.1) b1.2⟩
  have r2 : 0 ≤ upHi v s hi ∧ upHi v s hi ≤ 12000 * 5000000000 + 5000000000 := by
    unfold upHi
    exact ⟨Int.ediv_nonneg (by omega) (by omega), Int.le_trans (Int.ediv_le_self _ (by omega)) (by omega)⟩
  obtain ⟨L, hL⟩ : ∃ n, n = upLo c s lo := ⟨_, rfl⟩
  obtain ⟨H, hH⟩ : ∃ n, n = upHi v s hi := ⟨_, rfl⟩
  rw [← hL] at q1 r1 ⊢
  rw [← hH] at q2 r2 ⊢
  have w8 : IntKind.i64.wrap ((lo * (c - s)).tdiv (c)) = L := by rw [q1]; exact i64_w (by omega)
  have w9 : IntKind.i64.wrap ((hi * v + v + s - 1).tdiv (v + s)) = H := by rw [q2]; exact i64_w (by omega)
  have z1 : ((c) == 0) = false := by simp; omega
  have z1' : ¬ (c) = 0 := by omega
  have z2 : ((v + s) == 0) = false := by simp; omega
  have z2' : ¬ (v + s) = 0 := by omega
  clear hL hH q1 q2 r1 r2 b1 b2 p1 p2 p3 p4 p5
  go_enter Try.func59, Try.ntmps59
  go_upto_region 2 with fail
  go_region
  all_goals go_upto_region 4 with fail
  all_goals go_region
  all_goals go_wp2
  all_goals refine at_worldQ (S := fun Z => Blk Z (w.heap.size + 1 + 1) #[.int .i64 L, .int .i64 H] 29 ∧ Kept w Z) ⟨by exact blkd, by exact kpt⟩ ?_
  all_goals rintro Z ⟨yz, hkz⟩
  all_goals have yz0 := yz.cell 0
  all_goals have yz1 := yz.cell 1
  all_goals simp at yz0 yz1
  all_goals exact bodyPost_ret (v := .agg #[.int .i64 L, .int .i64 H]) (by simp [results, Try.results59, go_sem, yz0, yz1]) rfl ⟨rfl, hkz⟩

theorem f_carry_dn (lo hi d tlo thi : Int) (w : World) (h : Pair (1000000 * tlo) (1000000 * thi) (341632 * d)) (hlo : 0 ≤ lo ∧ lo ≤ 393216000) (hhi : 0 ≤ hi ∧ hi ≤ 12000) : Calls Try.prog 59 #[.agg #[.int .i64 (lo), .int .i64 (hi)], .int .i64 (-d), .agg #[.int .i64 (tlo), .int .i64 (thi)]] w fun e w' => e = .returned (.agg #[.int .i64 (dnLo (1000000 * thi) (341632 * d) lo), .int .i64 (dnHi (1000000 * tlo) (341632 * d) hi)]) ∧ Kept w w' := by
  obtain ⟨p1, p2, p3, p4, p5⟩ := h
  have d0 : 0 < d ∧ d ≤ 2000 := by omega
  have m0 : IntKind.i64.wrap (-(d)) = -d := i64_w (by omega)
  have m0' : IntKind.i64.wrap (-(-d)) = d := by rw [Int.neg_neg]; exact i64_w (by omega)
  have md : IntKind.i64.wrap d = d := i64_w (by omega)
  have m1 : max d (-d) = d := by omega
  have m1' : max (-d) d = d := by omega
  have dg : decide ((0 : Int) < -d) = false := by simp; omega
  generalize hs : 341632 * d = s at p4 p5 ⊢
  generalize hc : 1000000 * tlo = c at p1 p2 ⊢
  generalize hv : 1000000 * thi = v at p2 p3 ⊢
  have ws : IntKind.i64.wrap (341632 * d) = s := by rw [hs]; exact i64_w (by omega)
  have wc : IntKind.i64.wrap (1000000 * tlo) = c := by rw [hc]; exact i64_w (by omega)
  have wv : IntKind.i64.wrap (1000000 * thi) = v := by rw [hv]; exact i64_w (by omega)
  have HD := Lib.hid d0
  clear hs hc hv d0
  have b1 : 0 ≤ lo * (v + s) ∧ lo * (v + s) ≤ 393216000 * 5000000000 := ⟨Int.mul_nonneg hlo.1 (by omega), Int.mul_le_mul hlo.2 (by omega) (by omega) (by omega)⟩
  have b2 : 0 ≤ hi * c ∧ hi * c ≤ 12000 * 5000000000 := ⟨Int.mul_nonneg hhi.1 (by omega), Int.mul_le_mul hhi.2 (by omega) (by omega) (by omega)⟩
  have w1 := i64_w (n := v + s) (by omega)
  have w2 := i64_w (n := lo * (v + s)) (by omega)
  have w3 := i64_w (n := hi * c) (by omega)
  have w4 := i64_w (n := hi * c + c) (by omega)
  have w5 := i64_w (n := hi * c + c - s) (by omega)
  have w6 := i64_w (n := hi * c + c - s - 1) (by omega)
  have w7 := i64_w (n := c - s) (by omega)
  have q1 : (lo * (v + s)).tdiv (v) = dnLo v s lo := by unfold dnLo; exact Int.tdiv_eq_ediv_of_nonneg b1.1
  have q2 : (hi * c + c - s - 1).tdiv (c - s) = dnHi c s hi := by unfold dnHi; exact Int.tdiv_eq_ediv_of_nonneg (by omega)
  have r1 : 0 ≤ dnLo v s lo ∧ dnLo v s lo ≤ 393216000 * 5000000000 := by
    unfold dnLo
    exact ⟨Int.ediv_nonneg b1.1 (by omega), Int.le_trans (Int.ediv_le_self _ b1.1) b1.2⟩
  have r2 : 0 ≤ dnHi c s hi ∧ dnHi c s hi ≤ 12000 * 5000000000 + 5000000000 := by
    unfold dnHi
    exact ⟨Int.ediv_nonneg (by omega) (by omega), Int.le_trans (Int.ediv_le_self _ (by omega)) (by omega)⟩
  obtain ⟨L, hL⟩ : ∃ n, n = dnLo v s lo := ⟨_, rfl⟩
  obtain ⟨H, hH⟩ : ∃ n, n = dnHi c s hi := ⟨_, rfl⟩
  rw [← hL] at q1 r1 ⊢
  rw [← hH] at q2 r2 ⊢
  have w8 : IntKind.i64.wrap ((lo * (v + s)).tdiv (v)) = L := by rw [q1]; exact i64_w (by omega)
  have w9 : IntKind.i64.wrap ((hi * c + c - s - 1).tdiv (c - s)) = H := by rw [q2]; exact i64_w (by omega)
  have z1 : ((v) == 0) = false := by simp; omega
  have z1' : ¬ (v) = 0 := by omega
  have z2 : ((c - s) == 0) = false := by simp; omega
  have z2' : ¬ (c - s) = 0 := by omega
  clear hL hH q1 q2 r1 r2 b1 b2 p1 p2 p3 p4 p5
  go_enter Try.func59, Try.ntmps59
  go_upto_region 2 with fail
  go_region
  all_goals go_upto_region 5 with fail
  all_goals go_region
  all_goals go_wp2
  all_goals refine at_worldQ (S := fun Z => Blk Z (w.heap.size + 1 + 1) #[.int .i64 L, .int .i64 H] 29 ∧ Kept w Z) ⟨by exact blkd, by exact kpt⟩ ?_
  all_goals rintro Z ⟨yz, hkz⟩
  all_goals have yz0 := yz.cell 0
  all_goals have yz1 := yz.cell 1
  all_goals simp at yz0 yz1
  all_goals exact bodyPost_ret (v := .agg #[.int .i64 L, .int .i64 H]) (by simp [results, Try.results59, go_sem, yz0, yz1]) rfl ⟨rfl, hkz⟩

end Go.Proofs.Ytnfhcpnpjkefmaa

/-
  Layer 2: one level takes what another says.
-/
namespace Go.Proofs.Ytnfhcpnpjkefmaa
open Go.RowKit Bal Bal.Trim Bal.Wx
set_option linter.unusedVariables false
set_option linter.unusedSimpArgs false
set_option maxHeartbeats 8000000
set_option maxRecDepth 100000

/-- whether a level has nothing left -/
def unfitB (x : Lev) : Bool := decide (x.phi < x.plo)
theorem f_unfit (x : Lev) (w : World) : Calls Try.prog 79 #[.agg #[.int .i64 x.ht, .int .i64 x.plo, .int .i64 x.phi, .int .i64 x.tlo, .int .i64 x.thi]] w fun e w' => e = .returned (.bool (unfitB x)) ∧ Kept w w' := by
  unfold unfitB
  cases hd : decide (x.phi < x.plo)
  all_goals go_enter Try.func79, Try.ntmps79
  all_goals go_wp2
  all_goals go_ret
  all_goals exact ⟨rfl, by exact kpt⟩

theorem s_IndexU (a : Option Addr) (cap : Nat) (xs : List Lev) (w : World) (hx : Row Lev.cells 5 w.heap.size w a xs) (hl : xs.length ≤ 1000) (hv : 0 = 0) : Calls Try.prog 73 #[.slice a xs.length cap, .func (.func 79) #[] #[]] w fun e w' => (∃ r : Int, e = .returned (.int .i64 r) ∧ decide (0 ≤ r) = xs.any (unfitB) ∧ -1 ≤ r ∧ r ≤ xs.length) ∧ Kept w w' := by
  obtain ⟨R, hR⟩ : ∃ R, R = xs.any (unfitB) := ⟨_, rfl⟩
  have HR := Lib.hid hR
  rw [← hR]
  clear hR
  go_enter Try.func73, Try.ntmps73
  go_wp2
  go_loopw [8] (fun i wr => ∃ k : Nat, k ≤ xs.length ∧ i = .int .i64 k ∧ (xs.take k).any (unfitB) = false ∧ Kept w wr) (fun i _ => xs.length - (intOf i).toNat)
  case atStart => exact ⟨0, Nat.zero_le _, rfl, by simp, Below.refl _ _⟩
  case round =>
    obtain ⟨k, hk, rfl, ha', hb⟩ := hrel
    have ha := Lib.hid ha'
    clear ha'
    by_cases hlt : k < xs.length
    · obtain ⟨b0, off0, rfl, hbl0, g0, g1, g2, g3, g4⟩ := Lev.row (hx.later hb (Nat.le_refl _)) k hlt
      have HB := Lib.hid (show (unfitB) xs[k] = true → R = true from fun hv => by rw [HR.out]; exact List.any_eq_true.2 ⟨_, List.getElem_mem hlt, hv⟩)
      have HT := Lib.hid (show (unfitB) xs[k] = false → (xs.take (k + 1)).any (unfitB) = false from fun hv => by rw [List.take_succ_eq_append_getElem hlt, List.any_append, ha.out]; simp [hv])
      have hcall := fun (W : World) (hk : Kept w W) => f_unfit xs[k] W
      rw [lAt_get hlt] at g0 g1 g2 g3 g4
      obtain ⟨V, hV⟩ : ∃ V, V = (unfitB) xs[k] := ⟨_, rfl⟩
      rw [← hV] at hcall HB HT
      clear hV
      have k0 : (0 : Int) ≤ (k : Int) := by omega
      have k1 : (k : Int) < (xs.length : Int) := by omega
      cases V with
      | true =>
        have HF := Lib.hid (HB.out rfl)
        clear HB HT
        go_wp2_with (go_at_call 79; (with_reducible refine (hcall _ (by exact kpt)).mono ?_); rintro e w1 ⟨rfl, hb1⟩)
        go_ret
        refine ⟨⟨k, rfl, ?_, by omega, by omega⟩, by exact kpt⟩
        rw [HF.out, decide_eq_true_eq]; omega
      | false =>
        have HF := Lib.hid (HT.out rfl)
        clear HB HT
        go_wp2_with (go_at_call 79; (with_reducible refine (hcall _ (by exact kpt)).mono ?_); rintro e w1 ⟨rfl, hb1⟩)
        go_roundw
        case rel => exact ⟨k + 1, by omega, by go_num, HF.out, by exact kpt⟩
        case measure => simp [intOf]; omega
    · obtain rfl : k = xs.length := by omega
      have HF := Lib.hid (show R = false by rw [HR.out, ← ha.out, List.take_length])
      go_wp2
      go_ret
      refine ⟨⟨-1, rfl, ?_, by omega, by omega⟩, hb⟩
      rw [HF.out]; rfl

theorem s_ContainsU (a : Option Addr) (cap : Nat) (xs : List Lev) (w : World) (hx : Row Lev.cells 5 w.heap.size w a xs) (hl : xs.length ≤ 1000) (hv : 0 = 0) : Calls Try.prog 51 #[.slice a xs.length cap, .func (.func 79) #[] #[]] w fun e w' => e = .returned (.bool (xs.any (unfitB))) ∧ Kept w w' := by
  obtain ⟨R, hR⟩ : ∃ R, R = xs.any (unfitB) := ⟨_, rfl⟩
  have hcall := s_IndexU a cap xs w hx hl hv
  rw [← hR] at hcall ⊢
  clear hR
  go_enter Try.func51, Try.ntmps51
  go_wp2_with (go_at_call 73; (with_reducible refine hcall.mono ?_); rintro e w1 ⟨⟨r, rfl, hr1, hr2, hr3⟩, hb1⟩)
  go_ret
  refine ⟨ret_bool ?_, hb1⟩
  rw [← hr1]

theorem f_take_up (n6 n7 nt gt ct g cp : Nat) (l m : List Lev) (i : Nat) (w : World) (hs : Snd l) (hm : Near l 393216000 m) (hi : i + 1 < l.length) (h6 : Blk w n6 #[.slice (some ⟨g, 0, none⟩) l.length cp] 27) (h7 : Blk w n7 #[.func (.func 60) #[] #[.pointer (some ⟨nt, 0, none⟩)]] 76) (hb : Blk w nt #[.slice (some ⟨gt, 0, none⟩) l.length ct] 120) (hr : Row Kn.cells 3 w.heap.size w (some ⟨gt, 0, none⟩) (l.map knOf)) (hc : l.length ≤ ct) (hg : LevB 72 w g m) (hcg : l.length ≤ cp) (e6 : n6 ≠ g) (e7 : n7 ≠ g) (et : nt ≠ g) (eg : gt ≠ g) : Calls Try.prog 76 #[.int .i64 ((i + 1 : Nat) : Int), .int .i64 ((i : Nat) : Int), .pointer (some ⟨n6, 0, none⟩), .pointer (some ⟨n7, 0, none⟩)] w fun e w' => e = .returned (.tuple #[]) ∧ LevB 72 w' g (m.set (i + 1) (upL (lAt m i) (lAt m (i + 1)))) ∧ But g w w' := by
  obtain ⟨pq, pc, pw, pf⟩ := hm.pair hs hi
  have hml := hm.len
  have hrow := hg.row
  obtain ⟨b1, o1, he1, hbl1, x0, x1, x2, x3, x4⟩ := Lev.row hrow i (by omega)
  obtain ⟨b2, o2, he2, hbl2, y0, y1, y2, y3, y4⟩ := Lev.row hrow (i + 1) (by omega)
  obtain ⟨rfl, rfl⟩ : g = b1 ∧ 0 = o1 := by simpa using he1
  obtain ⟨rfl, rfl⟩ : g = b2 ∧ 0 = o2 := by simpa using he2
  clear he1 he2
  simp only [Nat.zero_add] at x0 x1 x2 x3 x4 y0 y1 y2 y3 y4
  have la := hm.lo i (by omega)
  have lb := hm.lo (i + 1) (by omega)
  have ha := hm.hi i (by omega)
  have hb_ := hm.hi (i + 1) (by omega)
  have t1 := hm.tlo i (by omega)
  have t2 := hm.thi i (by omega)
  have t3 := hm.tlo (i + 1) (by omega)
  have t4 := hm.thi (i + 1) (by omega)
  have t5 := hm.ht i (by omega)
  have t6 := hm.ht (i + 1) (by omega)
  have hu := hs.up i hi
  have hh0 := hs.ht i (by omega)
  have hh1 := hs.ht (i + 1) (by omega)
  have k0_ := Snd.tab hs
  have kl : (lAt l 0).ht ≤ (lAt l i).ht := by
    have := k0_.mono i 0
    by_cases e : i = 0
    · subst e; exact Int.le_refl _
    · have := this (by omega) (by rw [List.length_map]; omega)
      rw [kAt_map (by omega), kAt_map (by omega)] at this
      simp only [knOf] at this; omega
  have kr : (lAt l (i + 1)).ht ≤ (lAt l (l.length - 1)).ht := by
    have := k0_.mono (l.length - 1) (i + 1)
    by_cases e : i + 1 = l.length - 1
    · rw [e]; exact Int.le_refl _
    · have := this (by omega) (by rw [List.length_map]; omega)
      rw [kAt_map (by omega), kAt_map (by omega)] at this
      simp only [knOf] at this; omega
  have KT := Lib.hid (show ∀ W, But g w W → Calls Try.prog 60 #[.int .i64 (lAt m (i)).ht, .int .i64 (lAt m (i + 1)).ht, .pointer (some ⟨nt, 0, none⟩)] W fun e w' => e = .returned (.agg #[.int .i64 (min (lAt m i).tlo (lAt m (i + 1)).tlo), .int .i64 (max (lAt m i).thi (lAt m (i + 1)).thi)]) ∧ Kept W w' from fun W hW => by
    have := f_temp nt gt ct l 1500 3500 (lAt m (i)).ht (lAt m (i + 1)).ht W k0_ (by decide) (by decide) (hW.blk hb et) (hW.row hr eg) hc (by omega) (by omega)
    refine this.mono ?_
    rintro e w' ⟨⟨lo, hi_, hv, rfl⟩, hk⟩
    have h2 := hv.near i (by rw [List.length_map]; exact hi) (by rw [kAt_map (by omega)]; simp only [knOf]; omega) (by rw [kAt_map (by omega)]; simp only [knOf]; omega)
    rw [kAt_map (by omega), kAt_map (by omega)] at h2
    simp only [knOf] at h2
    rw [h2.1, h2.2, t1, t2, t3, t4]
    exact ⟨rfl, hk⟩)
  have HG := Lib.hid hg
  have HNEW := Lib.hid (show ∀ V lo hi_, LevB 72 V g m → { lAt m (i + 1) with plo := lo, phi := hi_ } = upL (lAt m i) (lAt m (i + 1)) → LevB 72 ((V.setCell ⟨g, (i + 1) * 5 + 1, none⟩ (.int .i64 lo)).setCell ⟨g, (i + 1) * 5 + 2, none⟩ (.int .i64 hi_)) g (m.set (i + 1) (upL (lAt m i) (lAt m (i + 1)))) from fun V lo hi_ hV he => by
    have := hV.press (i := i + 1) (by omega) lo hi_
    rw [he] at this
    exact this)
  unfold coldOf warmOf fallOf at pq
  obtain ⟨pc0, pcw, pw1, ps0, ps1⟩ := pq
  have HP := Lib.hid (show Pair (1000000 * min (lAt m i).tlo (lAt m (i + 1)).tlo) (1000000 * max (lAt m i).thi (lAt m (i + 1)).thi) (341632 * ((lAt m (i + 1)).ht - (lAt m i).ht)) from ⟨pc0, pcw, pw1, ps0, ps1⟩)
  have HLA := Lib.hid (show 0 ≤ (lAt m (i)).plo ∧ (lAt m (i)).plo ≤ 393216000 by omega)
  have HHA := Lib.hid (show 0 ≤ (lAt m (i)).phi ∧ (lAt m (i)).phi ≤ 12000 by omega)
  have wd : IntKind.i64.wrap ((lAt m (i + 1)).ht - (lAt m (i)).ht) = (lAt m (i + 1)).ht - (lAt m i).ht := by rw [i64_w (by omega)]
  have hgl := hg.lt
  have i0 : (0 : Int) ≤ (i : Int) := by omega
  have i1 : (i : Int) < (l.length : Int) := by omega
  have j0 : (0 : Int) ≤ (i : Int) + 1 := by omega
  have j1 : (i : Int) + 1 < (l.length : Int) := by omega
  clear la lb ha hb_ t1 t2 t3 t4 t5 t6 hu hh0 hh1 k0_ kl kr pc0 pcw pw1 ps0 ps1 pc pw pf hrow hr
  have h6k0 : ∀ w', Kept w w' → w'.cell? ⟨n6, 0, none⟩ = _ := fun w' h => (h6.keep h).cell 0
  simp at h6k0
  have zx0 : ∀ w', Kept w w' → w'.cell? ⟨g, i * 5, none⟩ = some (.int .i64 (lAt m i).ht) := fun w' h => by rw [(bcell h).1 g _ hgl]; exact x0
  have zx1 : ∀ w', Kept w w' → w'.cell? ⟨g, i * 5 + 1, none⟩ = some (.int .i64 (lAt m i).plo) := fun w' h => by rw [(bcell h).1 g _ hgl]; exact x1
  have zx2 : ∀ w', Kept w w' → w'.cell? ⟨g, i * 5 + 2, none⟩ = some (.int .i64 (lAt m i).phi) := fun w' h => by rw [(bcell h).1 g _ hgl]; exact x2
  have zx3 : ∀ w', Kept w w' → w'.cell? ⟨g, i * 5 + 3, none⟩ = some (.int .i64 (lAt m i).tlo) := fun w' h => by rw [(bcell h).1 g _ hgl]; exact x3
  have zx4 : ∀ w', Kept w w' → w'.cell? ⟨g, i * 5 + 4, none⟩ = some (.int .i64 (lAt m i).thi) := fun w' h => by rw [(bcell h).1 g _ hgl]; exact x4
  have zy0 : ∀ w', Kept w w' → w'.cell? ⟨g, (i + 1) * 5, none⟩ = some (.int .i64 (lAt m (i + 1)).ht) := fun w' h => by rw [(bcell h).1 g _ hgl]; exact y0
  have zy1 : ∀ w', Kept w w' → w'.cell? ⟨g, (i + 1) * 5 + 1, none⟩ = some (.int .i64 (lAt m (i + 1)).plo) := fun w' h => by rw [(bcell h).1 g _ hgl]; exact y1
  have zy2 : ∀ w', Kept w w' → w'.cell? ⟨g, (i + 1) * 5 + 2, none⟩ = some (.int .i64 (lAt m (i + 1)).phi) := fun w' h => by rw [(bcell h).1 g _ hgl]; exact y2
  have zy3 : ∀ w', Kept w w' → w'.cell? ⟨g, (i + 1) * 5 + 3, none⟩ = some (.int .i64 (lAt m (i + 1)).tlo) := fun w' h => by rw [(bcell h).1 g _ hgl]; exact y3
  have zy4 : ∀ w', Kept w w' → w'.cell? ⟨g, (i + 1) * 5 + 4, none⟩ = some (.int .i64 (lAt m (i + 1)).thi) := fun w' h => by rw [(bcell h).1 g _ hgl]; exact y4
  have h6l := h6.lt
  have h7l := h7.lt
  clear x0 x1 x2 x3 x4 y0 y1 y2 y3 y4
  go_enter Try.func76, Try.ntmps76
  go_upto_region 0 with fail
  go_cut [6, 7] (fun s6 s7 wx => ∃ a6 a7, s6 = .pointer (some ⟨a6, 0, none⟩) ∧ s7 = .pointer (some ⟨a7, 0, none⟩) ∧ g < a6 ∧ g < a7 ∧ Blk wx a6 #[.int .i64 (lAt m (i)).ht, .int .i64 (lAt m (i)).plo, .int .i64 (lAt m (i)).phi, .int .i64 (lAt m (i)).tlo, .int .i64 (lAt m (i)).thi] 72 ∧ Blk wx a7 #[.int .i64 (lAt m (i + 1)).ht, .int .i64 (lAt m (i + 1)).plo, .int .i64 (lAt m (i + 1)).phi, .int .i64 (lAt m (i + 1)).tlo, .int .i64 (lAt m (i + 1)).thi] 72 ∧ Kept w wx)
  case first => as_aux_lemma =>
    go_region_held3 (fun w' => Kept w w') (exact kpt) (first | fail)
    all_goals (go_wp2_with fail; go_meet)
    all_goals refine ⟨_, _, rfl, rfl, by omega, by omega, ?_, ?_, by exact kpt⟩
    all_goals first | exact (Blk.new.alloc _).drew | exact (Blk.new' (by simp)).drew
  obtain ⟨a6, a7, rfl, rfl, g6, g7, q6, q7, hk⟩ := hcut
  go_upto_region 1 with fail
  refine at_world (S := fun V => Blk V a6 #[.int .i64 (lAt m (i)).ht, .int .i64 (lAt m (i)).plo, .int .i64 (lAt m (i)).phi, .int .i64 (lAt m (i)).tlo, .int .i64 (lAt m (i)).thi] 72 ∧ Blk V a7 #[.int .i64 (lAt m (i + 1)).ht, .int .i64 (lAt m (i + 1)).plo, .int .i64 (lAt m (i + 1)).phi, .int .i64 (lAt m (i + 1)).tlo, .int .i64 (lAt m (i + 1)).thi] 72 ∧ Kept w V) ⟨by exact blkd, by exact blkd, by exact kpt⟩ ?_
  clear q6 q7 hk h6k0 zx0 zx1 zx2 zx3 zx4 zy0 zy1 zy2 zy3 zy4
  rintro V ⟨q6, q7, hk⟩
  have v6 := h6.keep hk
  have v7 := h7.keep hk
  have hgV : g ≤ V.heap.size := by have := hk.size; omega
  have hBV : But g w V := But.kept hk (by omega)
  have HGV := Lib.hid (show ∀ W, Kept V W → LevB 72 W g m from fun W hW => (HG.out.keep hk).keep hW)
  have v6k0 : ∀ w', But g V w' → w'.cell? ⟨n6, 0, none⟩ = _ := fun w' h => (h.blk v6 e6).cell 0
  simp at v6k0
  have v7k0 : ∀ w', But g V w' → w'.cell? ⟨n7, 0, none⟩ = _ := fun w' h => (h.blk v7 e7).cell 0
  simp at v7k0
  have q6k0 : ∀ w', But g V w' → w'.cell? ⟨a6, 0, none⟩ = _ := fun w' h => (h.blk q6 (by omega)).cell 0
  have q6k1 : ∀ w', But g V w' → w'.cell? ⟨a6, 1, none⟩ = _ := fun w' h => (h.blk q6 (by omega)).cell 1
  have q6k2 : ∀ w', But g V w' → w'.cell? ⟨a6, 2, none⟩ = _ := fun w' h => (h.blk q6 (by omega)).cell 2
  have q6k3 : ∀ w', But g V w' → w'.cell? ⟨a6, 3, none⟩ = _ := fun w' h => (h.blk q6 (by omega)).cell 3
  have q6k4 : ∀ w', But g V w' → w'.cell? ⟨a6, 4, none⟩ = _ := fun w' h => (h.blk q6 (by omega)).cell 4
  simp at q6k0 q6k1 q6k2 q6k3 q6k4
  have q7k0 : ∀ w', But g V w' → w'.cell? ⟨a7, 0, none⟩ = _ := fun w' h => (h.blk q7 (by omega)).cell 0
  have q7k1 : ∀ w', But g V w' → w'.cell? ⟨a7, 1, none⟩ = _ := fun w' h => (h.blk q7 (by omega)).cell 1
  have q7k2 : ∀ w', But g V w' → w'.cell? ⟨a7, 2, none⟩ = _ := fun w' h => (h.blk q7 (by omega)).cell 2
  have q7k3 : ∀ w', But g V w' → w'.cell? ⟨a7, 3, none⟩ = _ := fun w' h => (h.blk q7 (by omega)).cell 3
  have q7k4 : ∀ w', But g V w' → w'.cell? ⟨a7, 4, none⟩ = _ := fun w' h => (h.blk q7 (by omega)).cell 4
  simp at q7k0 q7k1 q7k2 q7k3 q7k4
  have l6_ := v6.lt
  have l7_ := v7.lt
  have l8_ := q6.lt
  have l9_ := q7.lt
  go_region_held3 (fun w' => But g V w') (exact butq) (first | (go_at_call 60; (with_reducible refine (KT.out _ (hBV.trans (by exact butq))).mono ?_); rintro e w1 ⟨rfl, hb1⟩; have hB1 : But g V w1 := But.kept (by exact kpta) hgV) | (go_at_call 59; (with_reducible refine (f_carry_up (lAt m (i)).plo (lAt m (i)).phi ((lAt m (i + 1)).ht - (lAt m i).ht) _ _ _ HP.out HLA.out HHA.out).mono ?_); rintro e w2 ⟨rfl, hb2⟩; have hB2 : But g V w2 := But.kept (by exact kpta) hgV) | (go_at_call 77; (with_reducible refine (f_together2 _ (lAt m (i + 1)).plo (lAt m (i + 1)).phi _ _ _ (by exact blkx)).mono ?_); rintro e w3 ⟨rfl, hb3⟩; have hB3 : But g V w3 := But.kept (by exact kpta) hgV; have hg3 := HGV.out _ (show Kept V w3 by exact kpta); have f1_ := hg3.free ((i + 1) * 5 + 1); have f2_ := hg3.free ((i + 1) * 5 + 2); have l3_ := hg3.lt; have hx3 := lev_at hg3 (show i + 1 < m.length by omega); have r1_ := hx3.1; have r2_ := hx3.2) | fail)
  go_wp2
  go_end0
  exact ⟨rfl, HNEW.out _ _ _ hg3 rfl, hBV.trans (by exact butq)⟩

theorem f_take_dn (n6 n7 nt gt ct g cp : Nat) (l m : List Lev) (i : Nat) (w : World) (hs : Snd l) (hm : Near l 393216000 m) (hi : i + 1 < l.length) (h6 : Blk w n6 #[.slice (some ⟨g, 0, none⟩) l.length cp] 27) (h7 : Blk w n7 #[.func (.func 60) #[] #[.pointer (some ⟨nt, 0, none⟩)]] 76) (hb : Blk w nt #[.slice (some ⟨gt, 0, none⟩) l.length ct] 120) (hr : Row Kn.cells 3 w.heap.size w (some ⟨gt, 0, none⟩) (l.map knOf)) (hc : l.length ≤ ct) (hg : LevB 72 w g m) (hcg : l.length ≤ cp) (e6 : n6 ≠ g) (e7 : n7 ≠ g) (et : nt ≠ g) (eg : gt ≠ g) : Calls Try.prog 76 #[.int .i64 ((i : Nat) : Int), .int .i64 ((i + 1 : Nat) : Int), .pointer (some ⟨n6, 0, none⟩), .pointer (some ⟨n7, 0, none⟩)] w fun e w' => e = .returned (.tuple #[]) ∧ LevB 72 w' g (m.set (i) (dnL (lAt m i) (lAt m (i + 1)))) ∧ But g w w' := by
  obtain ⟨pq, pc, pw, pf⟩ := hm.pair hs hi
  have hml := hm.len
  have hrow := hg.row
  obtain ⟨b1, o1, he1, hbl1, x0, x1, x2, x3, x4⟩ := Lev.row hrow i (by omega)
  obtain ⟨b2, o2, he2, hbl2, y0, y1, y2, y3, y4⟩ := Lev.row hrow (i + 1) (by omega)
  obtain ⟨rfl, rfl⟩ : g = b1 ∧ 0 = o1 := by simpa using he1
  obtain ⟨rfl, rfl⟩ : g = b2 ∧ 0 = o2 := by simpa using he2
  clear he1 he2
  simp only [Nat.zero_add] at x0 x1 x2 x3 x4 y0 y1 y2 y3 y4
  have la := hm.lo i (by omega)
  have lb := hm.lo (i + 1) (by omega)
  have ha := hm.hi i (by omega)
  have hb_ := hm.hi (i + 1) (by omega)
  have t1 := hm.tlo i (by omega)
  have t2 := hm.thi i (by omega)
  have t3 := hm.tlo (i + 1) (by omega)
  have t4 := hm.thi (i + 1) (by omega)
  have t5 := hm.ht i (by omega)
  have t6 := hm.ht (i + 1) (by omega)
  have hu := hs.up i hi
  have hh0 := hs.ht i (by omega)
  have hh1 := hs.ht (i + 1) (by omega)
  have k0_ := Snd.tab hs
  have kl : (lAt l 0).ht ≤ (lAt l i).ht := by
    have := k0_.mono i 0
    by_cases e : i = 0
    · subst e; exact Int.le_refl _
    · have := this (by omega) (by rw [List.length_map]; omega)
      rw [kAt_map (by omega), kAt_map (by omega)] at this
      simp only [knOf] at this; omega
  have kr : (lAt l (i + 1)).ht ≤ (lAt l (l.length - 1)).ht := by
    have := k0_.mono (l.length - 1) (i + 1)
    by_cases e : i + 1 = l.length - 1
    · rw [e]; exact Int.le_refl _
    · have := this (by omega) (by rw [List.length_map]; omega)
      rw [kAt_map (by omega), kAt_map (by omega)] at this
      simp only [knOf] at this; omega
  have KT := Lib.hid (show ∀ W, But g w W → Calls Try.prog 60 #[.int .i64 (lAt m (i + 1)).ht, .int .i64 (lAt m (i)).ht, .pointer (some ⟨nt, 0, none⟩)] W fun e w' => e = .returned (.agg #[.int .i64 (min (lAt m i).tlo (lAt m (i + 1)).tlo), .int .i64 (max (lAt m i).thi (lAt m (i + 1)).thi)]) ∧ Kept W w' from fun W hW => by
    have := f_temp nt gt ct l 1500 3500 (lAt m (i + 1)).ht (lAt m (i)).ht W k0_ (by decide) (by decide) (hW.blk hb et) (hW.row hr eg) hc (by omega) (by omega)
    refine this.mono ?_
    rintro e w' ⟨⟨lo, hi_, hv, rfl⟩, hk⟩
    have h2 := hv.near i (by rw [List.length_map]; exact hi) (by rw [kAt_map (by omega)]; simp only [knOf]; omega) (by rw [kAt_map (by omega)]; simp only [knOf]; omega)
    rw [kAt_map (by omega), kAt_map (by omega)] at h2
    simp only [knOf] at h2
    rw [h2.1, h2.2, t1, t2, t3, t4]
    exact ⟨rfl, hk⟩)
  have HG := Lib.hid hg
  have HNEW := Lib.hid (show ∀ V lo hi_, LevB 72 V g m → { lAt m (i) with plo := lo, phi := hi_ } = dnL (lAt m i) (lAt m (i + 1)) → LevB 72 ((V.setCell ⟨g, (i) * 5 + 1, none⟩ (.int .i64 lo)).setCell ⟨g, (i) * 5 + 2, none⟩ (.int .i64 hi_)) g (m.set (i) (dnL (lAt m i) (lAt m (i + 1)))) from fun V lo hi_ hV he => by
    have := hV.press (i := i) (by omega) lo hi_
    rw [he] at this
    exact this)
  unfold coldOf warmOf fallOf at pq
  obtain ⟨pc0, pcw, pw1, ps0, ps1⟩ := pq
  have HP := Lib.hid (show Pair (1000000 * min (lAt m i).tlo (lAt m (i + 1)).tlo) (1000000 * max (lAt m i).thi (lAt m (i + 1)).thi) (341632 * ((lAt m (i + 1)).ht - (lAt m i).ht)) from ⟨pc0, pcw, pw1, ps0, ps1⟩)
  have HLA := Lib.hid (show 0 ≤ (lAt m (i + 1)).plo ∧ (lAt m (i + 1)).plo ≤ 393216000 by omega)
  have HHA := Lib.hid (show 0 ≤ (lAt m (i + 1)).phi ∧ (lAt m (i + 1)).phi ≤ 12000 by omega)
  have wd : IntKind.i64.wrap ((lAt m (i)).ht - (lAt m (i + 1)).ht) = -((lAt m (i + 1)).ht - (lAt m i).ht) := by rw [i64_w (by omega)]; omega
  have hgl := hg.lt
  have i0 : (0 : Int) ≤ (i : Int) := by omega
  have i1 : (i : Int) < (l.length : Int) := by omega
  have j0 : (0 : Int) ≤ (i : Int) + 1 := by omega
  have j1 : (i : Int) + 1 < (l.length : Int) := by omega
  clear la lb ha hb_ t1 t2 t3 t4 t5 t6 hu hh0 hh1 k0_ kl kr pc0 pcw pw1 ps0 ps1 pc pw pf hrow hr
  have h6k0 : ∀ w', Kept w w' → w'.cell? ⟨n6, 0, none⟩ = _ := fun w' h => (h6.keep h).cell 0
  simp at h6k0
  have zx0 : ∀ w', Kept w w' → w'.cell? ⟨g, i * 5, none⟩ = some (.int .i64 (lAt m i).ht) := fun w' h => by rw [(bcell h).1 g _ hgl]; exact x0
  have zx1 : ∀ w', Kept w w' → w'.cell? ⟨g, i * 5 + 1, none⟩ = some (.int .i64 (lAt m i).plo) := fun w' h => by rw [(bcell h).1 g _ hgl]; exact x1
  have zx2 : ∀ w', Kept w w' → w'.cell? ⟨g, i * 5 + 2, none⟩ = some (.int .i64 (lAt m i).phi) := fun w' h => by rw [(bcell h).1 g _ hgl]; exact x2
  have zx3 : ∀ w', Kept w w' → w'.cell? ⟨g, i * 5 + 3, none⟩ = some (.int .i64 (lAt m i).tlo) := fun w' h => by rw [(bcell h).1 g _ hgl]; exact x3
  have zx4 : ∀ w', Kept w w' → w'.cell? ⟨g, i * 5 + 4, none⟩ = some (.int .i64 (lAt m i).thi) := fun w' h => by rw [(bcell h).1 g _ hgl]; exact x4
  have zy0 : ∀ w', Kept w w' → w'.cell? ⟨g, (i + 1) * 5, none⟩ = some (.int .i64 (lAt m (i + 1)).ht) := fun w' h => by rw [(bcell h).1 g _ hgl]; exact y0
  have zy1 : ∀ w', Kept w w' → w'.cell? ⟨g, (i + 1) * 5 + 1, none⟩ = some (.int .i64 (lAt m (i + 1)).plo) := fun w' h => by rw [(bcell h).1 g _ hgl]; exact y1
  have zy2 : ∀ w', Kept w w' → w'.cell? ⟨g, (i + 1) * 5 + 2, none⟩ = some (.int .i64 (lAt m (i + 1)).phi) := fun w' h => by rw [(bcell h).1 g _ hgl]; exact y2
  have zy3 : ∀ w', Kept w w' → w'.cell? ⟨g, (i + 1) * 5 + 3, none⟩ = some (.int .i64 (lAt m (i + 1)).tlo) := fun w' h => by rw [(bcell h).1 g _ hgl]; exact y3
  have zy4 : ∀ w', Kept w w' → w'.cell? ⟨g, (i + 1) * 5 + 4, none⟩ = some (.int .i64 (lAt m (i + 1)).thi) := fun w' h => by rw [(bcell h).1 g _ hgl]; exact y4
  have h6l := h6.lt
  have h7l := h7.lt
  clear x0 x1 x2 x3 x4 y0 y1 y2 y3 y4
  go_enter Try.func76, Try.ntmps76
  go_upto_region 0 with fail
  go_cut [6, 7] (fun s6 s7 wx => ∃ a6 a7, s6 = .pointer (some ⟨a6, 0, none⟩) ∧ s7 = .pointer (some ⟨a7, 0, none⟩) ∧ g < a6 ∧ g < a7 ∧ Blk wx a6 #[.int .i64 (lAt m (i + 1)).ht, .int .i64 (lAt m (i + 1)).plo, .int .i64 (lAt m (i + 1)).phi, .int .i64 (lAt m (i + 1)).tlo, .int .i64 (lAt m (i + 1)).thi] 72 ∧ Blk wx a7 #[.int .i64 (lAt m (i)).ht, .int .i64 (lAt m (i)).plo, .int .i64 (lAt m (i)).phi, .int .i64 (lAt m (i)).tlo, .int .i64 (lAt m (i)).thi] 72 ∧ Kept w wx)
  case first => as_aux_lemma =>
    go_region_held3 (fun w' => Kept w w') (exact kpt) (first | fail)
    all_goals (go_wp2_with fail; go_meet)
    all_goals refine ⟨_, _, rfl, rfl, by omega, by omega, ?_, ?_, by exact kpt⟩
    all_goals first | exact (Blk.new.alloc _).drew | exact (Blk.new' (by simp)).drew
  obtain ⟨a6, a7, rfl, rfl, g6, g7, q6, q7, hk⟩ := hcut
  go_upto_region 1 with fail
  refine at_world (S := fun V => Blk V a6 #[.int .i64 (lAt m (i + 1)).ht, .int .i64 (lAt m (i + 1)).plo, .int .i64 (lAt m (i + 1)).phi, .int .i64 (lAt m (i + 1)).tlo, .int .i64 (lAt m (i + 1)).thi] 72 ∧ Blk V a7 #[.int .i64 (lAt m (i)).ht, .int .i64 (lAt m (i)).plo, .int .i64 (lAt m (i)).phi, .int .i64 (lAt m (i)).tlo, .int .i64 (lAt m (i)).thi] 72 ∧ Kept w V) ⟨by exact blkd, by exact blkd, by exact kpt⟩ ?_
  clear q6 q7 hk h6k0 zx0 zx1 zx2 zx3 zx4 zy0 zy1 zy2 zy3 zy4
  rintro V ⟨q6, q7, hk⟩
  have v6 := h6.keep hk
  have v7 := h7.keep hk
  have hgV : g ≤ V.heap.size := by have := hk.size; omega
  have hBV : But g w V := But.kept hk (by omega)
  have HGV := Lib.hid (show ∀ W, Kept V W → LevB 72 W g m from fun W hW => (HG.out.keep hk).keep hW)
  have v6k0 : ∀ w', But g V w' → w'.cell? ⟨n6, 0, none⟩ = _ := fun w' h => (h.blk v6 e6).cell 0
  simp at v6k0
  have v7k0 : ∀ w', But g V w' → w'.cell? ⟨n7, 0, none⟩ = _ := fun w' h => (h.blk v7 e7).cell 0
  simp at v7k0
  have q6k0 : ∀ w', But g V w' → w'.cell? ⟨a6, 0, none⟩ = _ := fun w' h => (h.blk q6 (by omega)).cell 0
  have q6k1 : ∀ w', But g V w' → w'.cell? ⟨a6, 1, none⟩ = _ := fun w' h => (h.blk q6 (by omega)).cell 1
  have q6k2 : ∀ w', But g V w' → w'.cell? ⟨a6, 2, none⟩ = _ := fun w' h => (h.blk q6 (by omega)).cell 2
  have q6k3 : ∀ w', But g V w' → w'.cell? ⟨a6, 3, none⟩ = _ := fun w' h => (h.blk q6 (by omega)).cell 3
  have q6k4 : ∀ w', But g V w' → w'.cell? ⟨a6, 4, none⟩ = _ := fun w' h => (h.blk q6 (by omega)).cell 4
  simp at q6k0 q6k1 q6k2 q6k3 q6k4
  have q7k0 : ∀ w', But g V w' → w'.cell? ⟨a7, 0, none⟩ = _ := fun w' h => (h.blk q7 (by omega)).cell 0
  have q7k1 : ∀ w', But g V w' → w'.cell? ⟨a7, 1, none⟩ = _ := fun w' h => (h.blk q7 (by omega)).cell 1
  have q7k2 : ∀ w', But g V w' → w'.cell? ⟨a7, 2, none⟩ = _ := fun w' h => (h.blk q7 (by omega)).cell 2
  have q7k3 : ∀ w', But g V w' → w'.cell? ⟨a7, 3, none⟩ = _ := fun w' h => (h.blk q7 (by omega)).cell 3
  have q7k4 : ∀ w', But g V w' → w'.cell? ⟨a7, 4, none⟩ = _ := fun w' h => (h.blk q7 (by omega)).cell 4
  simp at q7k0 q7k1 q7k2 q7k3 q7k4
  have l6_ := v6.lt
  have l7_ := v7.lt
  have l8_ := q6.lt
  have l9_ := q7.lt
  go_region_held3 (fun w' => But g V w') (exact butq) (first | (go_at_call 60; (with_reducible refine (KT.out _ (hBV.trans (by exact butq))).mono ?_); rintro e w1 ⟨rfl, hb1⟩; have hB1 : But g V w1 := But.kept (by exact kpta) hgV) | (go_at_call 59; (with_reducible refine (f_carry_dn (lAt m (i + 1)).plo (lAt m (i + 1)).phi ((lAt m (i + 1)).ht - (lAt m i).ht) _ _ _ HP.out HLA.out HHA.out).mono ?_); rintro e w2 ⟨rfl, hb2⟩; have hB2 : But g V w2 := But.kept (by exact kpta) hgV) | (go_at_call 77; (with_reducible refine (f_together2 _ (lAt m (i)).plo (lAt m (i)).phi _ _ _ (by exact blkx)).mono ?_); rintro e w3 ⟨rfl, hb3⟩; have hB3 : But g V w3 := But.kept (by exact kpta) hgV; have hg3 := HGV.out _ (show Kept V w3 by exact kpta); have f1_ := hg3.free ((i) * 5 + 1); have f2_ := hg3.free ((i) * 5 + 2); have l3_ := hg3.lt; have hx3 := lev_at hg3 (show i < m.length by omega); have r1_ := hx3.1; have r2_ := hx3.2) | fail)
  go_wp2
  go_end0
  exact ⟨rfl, HNEW.out _ _ _ hg3 rfl, hBV.trans (by exact butq)⟩

end Go.Proofs.Ytnfhcpnpjkefmaa

/-
  Layer 2: a sounding settles: the two passes.
-/
namespace Go.Proofs.Ytnfhcpnpjkefmaa
open Go.RowKit Bal Bal.Trim Bal.Wx
set_option linter.unusedVariables false
set_option linter.unusedSimpArgs false
set_option maxHeartbeats 8000000
set_option maxRecDepth 100000

/-- the region of a number, in a code -/
def regOf : Code → Nat → Option Code
  | .region id ops d, n => if id = n then some (.region id ops d) else none
  | .seq a b, n => (regOf a n).or (regOf b n)
  | .cond _ a b, n => (regOf a n).or (regOf b n)
  | .block _ b, n => regOf b n
  | .loop b, n => regOf b n
  | .scope b, n => regOf b n
  | .rangeFunc _ _ a b, n => (regOf a n).or (regOf b n)
  | _, _ => none
/-- the block of a number, in a code -/
def blkOf : Code → Nat → Option Code
  | .seq a b, n => (blkOf a n).or (blkOf b n)
  | .cond _ a b, n => (blkOf a n).or (blkOf b n)
  | .block id b, n => if id = n then some (.block id b) else blkOf b n
  | .loop b, n => blkOf b n
  | .scope b, n => blkOf b n
  | .rangeFunc _ _ a b, n => (blkOf a n).or (blkOf b n)
  | _, _ => none
/-- the 'if' on a slot, in a code -/
def cndOf : Code → Nat → Option Code
  | .seq a b, n => (cndOf a n).or (cndOf b n)
  | .cond (.tmp t) a b, n => if t = n then some (.cond (.tmp t) a b) else (cndOf a n).or (cndOf b n)
  | .cond _ a b, n => (cndOf a n).or (cndOf b n)
  | .block _ b, n => cndOf b n
  | .loop b, n => cndOf b n
  | .scope b, n => cndOf b n
  | .rangeFunc _ _ a b, n => (cndOf a n).or (cndOf b n)
  | _, _ => none

theorem seg_up {s0 s1 s2 s3 s4 s5 s7 s9 s10 s11 s12 s13 s14 s15 s16 s17 s18 s19 s20 s21 s22 s23 s24 s25 s26 s27 s28 s29 s30 s33 s34 s35 s36 s37 s38 s39 s40 s41 s42 s43 s44 s45 s46 s47 s48 s49 s50 s51 s52 s53 s54 s55 s56 s57 s58 : Value} {S : World} {l m : List Lev} {n6 n7 nt gt ct g cp : Nat} {w9 : World} (C : Code) (hC : (Try.f55.body.bind fun c => blkOf c 2) = some C) (Q : Exit → Act → World → Prop) (hs : Snd l) (h6 : Blk S n6 #[.slice (some ⟨g, 0, none⟩) l.length cp] 27) (h7 : Blk S n7 #[.func (.func 60) #[] #[.pointer (some ⟨nt, 0, none⟩)]] 76) (hbt : Blk S nt #[.slice (some ⟨gt, 0, none⟩) l.length ct] 120) (hrt : Row Kn.cells 3 S.heap.size S (some ⟨gt, 0, none⟩) (l.map knOf)) (hct : l.length ≤ ct) (hcg : l.length ≤ cp) (e6 : n6 ≠ g) (e7 : n7 ≠ g) (et : nt ≠ g) (eg : gt ≠ g) (hN : ∀ k, k < l.length → Near l 393216000 (fwdK m k)) (hg : LevB 72 w9 g m) (hB : But g S w9)
    (hK : ∀  (u10 u32 u33 u34 u35 u36 u37 u38 u39 u40 : Value) (wc : World), (LevB 72 wc g (fwdK m (l.length - 1)) ∧ But g w9 wc) → Q .normal ⟨#[s0, s1, s2, s3, s4, s5, .pointer (some ⟨n6, 0, none⟩), s7, .func (.func 76) #[] #[.pointer (some ⟨n6, 0, none⟩), .pointer (some ⟨n7, 0, none⟩)], s9, u10, s11, s12, s13, s14, s15, s16, s17, s18, s19, s20, s21, s22, s23, s24, s25, s26, s27, s28, s29, s30, .int .i64 ((l.length : Int) - 1), u32, u33, u34, u35, u36, u37, u38, u39, u40, s41, s42, s43, s44, s45, s46, s47, s48, s49, s50, s51, s52, s53, s54, s55, s56, s57, s58], []⟩ wc) : C.wp Try.prog Q ⟨#[s0, s1, s2, s3, s4, s5, .pointer (some ⟨n6, 0, none⟩), s7, .func (.func 76) #[] #[.pointer (some ⟨n6, 0, none⟩), .pointer (some ⟨n7, 0, none⟩)], s9, s10, s11, s12, s13, s14, s15, s16, s17, s18, s19, s20, s21, s22, s23, s24, s25, s26, s27, s28, s29, s30, .int .i64 ((l.length : Int) - 1), .int .i64 0, s33, s34, s35, s36, s37, s38, s39, s40, s41, s42, s43, s44, s45, s46, s47, s48, s49, s50, s51, s52, s53, s54, s55, s56, s57, s58], []⟩ w9 := by
  have e0 : (Try.f55.body.bind fun c => blkOf c 2) = some (.block 2 _) := rfl
  rw [e0] at hC
  cases hC
  clear e0
  try dsimp only at hK ⊢
  have n2 := hs.n2
  have n16 := hs.n16
  have HS := Lib.hid hs
  have K6 := Lib.hid h6
  have K7 := Lib.hid h7
  have KTB := Lib.hid hbt
  have KRT := Lib.hid hrt
  have HN := Lib.hid hN
  clear hs h7 hbt hrt hN
  go_wp2
  go_loopw [32] (fun i wr => ∃ k : Nat, k ≤ l.length - 1 ∧ i = .int .i64 k ∧ LevB 72 wr g (fwdK m k) ∧ But g w9 wr) (fun i _ => l.length - 1 - (intOf i).toNat)
  case atStart => exact ⟨0, Nat.zero_le _, rfl, hg, But.refl _ _⟩
  case round =>
    clear hg
    obtain ⟨k, hkn, rfl, hgw, hBw⟩ := hrel
    by_cases hlt : k < l.length - 1
    · have d1 : decide ((k : Int) < (l.length : Int) - 1) = true := by simp; omega
      have wk := i64_w (n := (k : Int) + 1) (by omega)
      have KU := Lib.hid (show ∀ W, But g S W → LevB 72 W g (fwdK m k) → Calls Try.prog 76 #[.int .i64 ((k : Int) + 1), .int .i64 k, .pointer (some ⟨n6, 0, none⟩), .pointer (some ⟨n7, 0, none⟩)] W fun e w' => e = .returned (.tuple #[]) ∧ LevB 72 w' g (fwdK m (k + 1)) ∧ But g W w' from fun W hW hL => by
        have := f_take_up n6 n7 nt gt ct g cp l (fwdK m k) k W HS.out (HN.out k (by omega)) (by omega) (hW.blk K6.out e6) (hW.blk K7.out e7) (hW.blk KTB.out et) (hW.row KRT.out eg) hct hL hcg e6 e7 et eg
        rw [Int.natCast_succ] at this
        exact this)
      go_wp2_with (go_at_call 76; (with_reducible refine (KU.out _ (hB.trans hBw) hgw).mono ?_); rintro e w1 ⟨rfl, hg1, hb1⟩)
      go_round
      case rel => exact ⟨k + 1, by omega, by go_num, hg1, hBw.trans hb1⟩
      case measure => simp [intOf]; omega
    · obtain rfl : k = l.length - 1 := by omega
      have d1 : decide (((l.length - 1 : Nat) : Int) < (l.length : Int) - 1) = false := by simp; omega
      go_wp2
      exact ⟨hgw, hBw⟩

theorem seg_dn {s0 s1 s2 s3 s4 s5 s7 s9 s10 s12 s13 s14 s15 s16 s17 s18 s19 s20 s21 s22 s23 s24 s25 s26 s27 s28 s29 s30 s31 s32 s33 s34 s35 s36 s37 s38 s39 s40 s41 s42 s43 s44 s45 s46 s47 s48 s49 s50 s51 s52 s53 s54 s55 s56 s57 s58 : Value} {S : World} {l m : List Lev} {n6 n7 nt gt ct g cp : Nat} {w9 : World} (C : Code) (hC : (Try.f55.body.bind fun c => blkOf c 4) = some C) (Q : Exit → Act → World → Prop) (hs : Snd l) (h6 : Blk S n6 #[.slice (some ⟨g, 0, none⟩) l.length cp] 27) (h7 : Blk S n7 #[.func (.func 60) #[] #[.pointer (some ⟨nt, 0, none⟩)]] 76) (hbt : Blk S nt #[.slice (some ⟨gt, 0, none⟩) l.length ct] 120) (hrt : Row Kn.cells 3 S.heap.size S (some ⟨gt, 0, none⟩) (l.map knOf)) (hct : l.length ≤ ct) (hcg : l.length ≤ cp) (e6 : n6 ≠ g) (e7 : n7 ≠ g) (et : nt ≠ g) (eg : gt ≠ g) (hml : m.length = l.length) (hN : ∀ k, k < l.length → Near l 393216000 (bwdK m k)) (hg : LevB 72 w9 g m) (hB : But g S w9)
    (hK : ∀  (u11 u44 u45 u46 u47 u48 u49 u50 u51 u52 : Value) (wc : World), (LevB 72 wc g (bwdK m (l.length - 1)) ∧ But g w9 wc) → Q .normal ⟨#[s0, s1, s2, s3, s4, s5, .pointer (some ⟨n6, 0, none⟩), s7, .func (.func 76) #[] #[.pointer (some ⟨n6, 0, none⟩), .pointer (some ⟨n7, 0, none⟩)], s9, s10, u11, s12, s13, s14, s15, s16, s17, s18, s19, s20, s21, s22, s23, s24, s25, s26, s27, s28, s29, s30, s31, s32, s33, s34, s35, s36, s37, s38, s39, s40, s41, s42, s43, u44, u45, u46, u47, u48, u49, u50, u51, u52, s53, s54, s55, s56, s57, s58], []⟩ wc) : C.wp Try.prog Q ⟨#[s0, s1, s2, s3, s4, s5, .pointer (some ⟨n6, 0, none⟩), s7, .func (.func 76) #[] #[.pointer (some ⟨n6, 0, none⟩), .pointer (some ⟨n7, 0, none⟩)], s9, s10, .int .i64 ((l.length : Int) - 1), s12, s13, s14, s15, s16, s17, s18, s19, s20, s21, s22, s23, s24, s25, s26, s27, s28, s29, s30, s31, s32, s33, s34, s35, s36, s37, s38, s39, s40, s41, s42, s43, s44, s45, s46, s47, s48, s49, s50, s51, s52, s53, s54, s55, s56, s57, s58], []⟩ w9 := by
  have e0 : (Try.f55.body.bind fun c => blkOf c 4) = some (.block 4 _) := rfl
  rw [e0] at hC
  cases hC
  clear e0
  try dsimp only at hK ⊢
  have n2 := hs.n2
  have n16 := hs.n16
  have HS := Lib.hid hs
  have K6 := Lib.hid h6
  have K7 := Lib.hid h7
  have KTB := Lib.hid hbt
  have KRT := Lib.hid hrt
  have HN := Lib.hid hN
  clear hs h7 hbt hrt hN
  go_wp2
  go_loopw [11] (fun i wr => ∃ k j : Nat, j + k = l.length - 1 ∧ i = .int .i64 j ∧ LevB 72 wr g (bwdK m k) ∧ But g w9 wr) (fun i _ => (intOf i).toNat)
  case atStart => exact ⟨0, l.length - 1, by omega, by rw [show ((l.length : Int) - 1) = ((l.length - 1 : Nat) : Int) by omega], hg, But.refl _ _⟩
  case round =>
    clear hg
    obtain ⟨k, j, hjk, rfl, hgw, hBw⟩ := hrel
    by_cases hlt : 0 < j
    · have d1 : decide ((0 : Int) < (j : Int)) = true := by first | (simp; done) | (simp; omega)
      have d1' : decide (0 < j) = true := by first | (simp; done) | (simp; omega)
      have wk := i64_w (n := (j : Int) - 1) (by omega)
      have KU := Lib.hid (show ∀ W, But g S W → LevB 72 W g (bwdK m k) → Calls Try.prog 76 #[.int .i64 ((j : Int) - 1), .int .i64 j, .pointer (some ⟨n6, 0, none⟩), .pointer (some ⟨n7, 0, none⟩)] W fun e w' => e = .returned (.tuple #[]) ∧ LevB 72 w' g (bwdK m (k + 1)) ∧ But g W w' from fun W hW hL => by
        have := f_take_dn n6 n7 nt gt ct g cp l (bwdK m k) (j - 1) W HS.out (HN.out k (by omega)) (by omega) (hW.blk K6.out e6) (hW.blk K7.out e7) (hW.blk KTB.out et) (hW.row KRT.out eg) hct hL hcg e6 e7 et eg
        rw [show ((j - 1 + 1 : Nat) : Int) = (j : Int) by omega, show ((j - 1 : Nat) : Int) = (j : Int) - 1 by omega] at this
        simp only [bwdK]
        rw [hml, show l.length - 2 - k = j - 1 by omega, show l.length - 1 - k = j - 1 + 1 by omega]
        exact this)
      go_wp2_with (go_at_call 76; (with_reducible refine (KU.out _ (hB.trans hBw) hgw).mono ?_); rintro e w1 ⟨rfl, hg1, hb1⟩)
      go_round
      case rel => exact ⟨k + 1, j - 1, by omega, by rw [show ((j - 1 : Nat) : Int) = (j : Int) - 1 by omega], hg1, hBw.trans hb1⟩
      case measure => simp [intOf]; omega
    · obtain rfl : j = 0 := by omega
      obtain rfl : k = l.length - 1 := by omega
      have d1 : decide ((0 : Int) < ((0 : Nat) : Int)) = false := by simp
      go_wp2
      exact ⟨hgw, hBw⟩

end Go.Proofs.Ytnfhcpnpjkefmaa

/-
  Layer 2: a sounding settles.
-/
namespace Go.Proofs.Ytnfhcpnpjkefmaa
open Go.RowKit Bal Bal.Trim Bal.Wx
set_option linter.unusedVariables false
set_option linter.unusedSimpArgs false
set_option maxHeartbeats 8000000
set_option maxRecDepth 100000

theorem f_Settle (ad : Addr) (cap : Nat) (l : List Lev) (w : World) (hs : Snd l) (hr : Row Lev.cells 5 w.heap.size w (some ad) l) (hcp : l.length ≤ cap) : Calls Try.prog 55 #[.slice (some ad) l.length cap] w fun e w' => ((∃ g cp, e = .returned (.tuple #[.slice (some ⟨g, 0, none⟩) l.length cp, .int .i64 0, .int .i64 0]) ∧ w.heap.size ≤ g ∧ LevB 72 w' g (sweep l) ∧ l.length ≤ cp ∧ (sweep l).any unfitB = false) ∨ (∃ r : Int, e = .returned (.tuple #[.slice none 0 0, .int .i64 r, .int .i64 21]) ∧ (sweep l).any unfitB = true)) ∧ Kept w w' := by
  have n2 := hs.n2
  have n16 := hs.n16
  have HS := Lib.hid hs
  have hl0 : 0 < l.length := by omega
  have hl1 : l.length ≤ 1000 := by omega
  have hmf : ∀ (fn : Fn) (first cap : Array Value) (w : World), (Instr.makeFunc fn first cap).run Try.prog w = .ok (.func fn first cap) w := fun _ _ _ _ => rfl
  clear hs
  go_enter Try.func55, Try.ntmps55
  go_upto_region 4 with (go_at_call 17; (with_reducible refine (f_airCheck _ cap l _ HS.out (hr.later (by exact kpt) (Nat.le_refl _)) hcp).mono ?_); rintro e w1 ⟨rfl, hb1⟩)
  refine at_world (S := fun U => Kept w U) (by exact kpt) ?_
  clear hb1
  rintro U hkU
  go_upto_region 5 with (first | (go_at_call 75; (with_reducible refine (s_CloneL ad cap l _ (hr.later (by exact kpt) (Nat.le_refl _)) hl0 hl1).mono ?_); rintro e w2 ⟨⟨g, cp, rfl, hg0, hg, hcg⟩, hb2⟩) | (go_at_call 21; (with_reducible refine (f_thermo _ cap l _ HS.out (hr.later (by exact kpt) (Nat.le_refl _)) hcp).mono ?_); rintro e w3 ⟨⟨nt, gt, ct, rfl, hnt, hgt, hbt, hrt, hct⟩, hb3⟩))
  have gl := hg.lt
  have ntl := hbt.lt
  have s23 := hb3.size
  have hgtl : gt < w3.heap.size := by
    obtain ⟨b_, o_, he_, hl_, _⟩ := hrt 0 (knOf (lAt l 0)) (by simp [lAt, hl0])
    injection he_ with he_
    injection he_ with he_ _ _
    omega
  have gw : w.heap.size ≤ g := by have := hkU.size; omega
  refine at_world (S := fun S => LevB 72 S g l ∧ Blk S w3.heap.size #[.slice (some ⟨g, 0, none⟩) l.length cp] 27 ∧ Blk S (w3.heap.size + 1) #[.func (.func 60) #[] #[.pointer (some ⟨nt, 0, none⟩)]] 76 ∧ Blk S nt #[.slice (some ⟨gt, 0, none⟩) l.length ct] 120 ∧ Row Kn.cells 3 S.heap.size S (some ⟨gt, 0, none⟩) (l.map knOf) ∧ Kept w S) ⟨(hg.keep hb3).keep (by exact kpta), by exact blkd, by exact blkd, by exact blkd, hrt.later (by exact kpta) (Nat.le_refl _), by exact kpta⟩ ?_
  have e6 : w3.heap.size ≠ g := by omega
  have e7 : w3.heap.size + 1 ≠ g := by omega
  have et : nt ≠ g := by omega
  have eg : gt ≠ g := by omega
  clear hg hbt hrt hb3 hb2 hkU hgtl
  rintro S ⟨hg, h6, h7, hbt, hrt, hkS⟩
  generalize w3.heap.size = n6 at h6 h7 e6 e7 ⊢
  generalize n6 + 1 = n7 at h7 e7 ⊢
  have gS := hg.lt
  have n6S := h6.lt
  have n7S := h7.lt
  have ntS := hbt.lt
  clear gl ntl s23 hnt hgt hg0
  have PN := Lib.hid (fun m h => pass_near (m := m) HS.out h)
  have K6 := Lib.hid h6
  have K7 := Lib.hid h7
  have KTB := Lib.hid hbt
  have KRT := Lib.hid hrt
  clear h7 hbt hrt
  go_upto_block 0 with fail
  go_wp2
  go_loopg [9] 2 (fun c was wr => ∃ m, LevB 72 wr g m ∧ But g S wr ∧ (c = 2 ∧ was = .slice none 0 0 ∧ m = l ∨ (∃ g1 c1 mw, was = .slice (some ⟨g1, 0, none⟩) l.length c1 ∧ g1 ≠ g ∧ LevB 72 wr g1 mw ∧ mw.length = l.length ∧ m = sweep l ∧ (c = 1 ∨ c = 0 ∧ mw = m))))
  case atStart => exact ⟨l, hg, But.refl _ _, .inl ⟨rfl, rfl, rfl⟩⟩
  case round =>
    clear hg h6
    obtain ⟨m, hg, hB, hcase⟩ := hrel
    have hgR := hg.row
    rcases hcase with ⟨rfl, rfl, hml_⟩ | ⟨g1, c1, mw, rfl, e1, hw, hmw, rfl, hc⟩
    · obtain rfl : l = m := hml_.symm
      have h6w := hB.blk K6.out e6
      have hsl : True := trivial
      have KC := Lib.hid (show ∀ W, Kept wr W → Calls Try.prog 75 #[.slice (some ⟨g, 0, none⟩) l.length cp] W fun e w' => (∃ g2 c2, e = .returned (.slice (some ⟨g2, 0, none⟩) l.length c2) ∧ W.heap.size ≤ g2 ∧ LevB 72 w' g2 (l)) ∧ Kept W w' from fun W hW => by
        have := s_CloneL ⟨g, 0, none⟩ cp (l) W ((hg.keep hW).row) (by omega) (by omega)
        first | rw [hsl] at this | skip
        refine this.mono ?_
        rintro e w' ⟨⟨g2, c2, rfl, h1, h2, _⟩, hk⟩
        exact ⟨⟨g2, c2, rfl, h1, h2⟩, hk⟩)
      have h6wc0 := h6w.cell 0
      have h6wf0 := h6w.free 0
      have h6wl := h6w.lt
      simp at h6wc0
      go_upto_region 9 with (first | (go_at_call 78; (with_reducible refine (s_EqualNil (some ⟨g, 0, none⟩) cp l _ hl0).mono ?_); rintro e w4 ⟨rfl, hb4⟩; refine Blk.thru (b := n6) (arr := ?_) (t := ?_) ?_ hb4 ?_; rotate_left 2; (focus (exact blk)); intro o6; have o6c0 := o6.cell 0; have o6f0 := o6.free 0; have o6l := o6.lt; simp at o6c0) | (go_at_call 75; (with_reducible refine (KC.out _ (by exact kpt)).mono ?_); rintro e w5 ⟨⟨g2, c2, rfl, hg2, hl2⟩, hb5⟩; refine Blk.thru (b := n6) (arr := ?_) (t := ?_) ?_ hb5 ?_; rotate_left 2; (focus (exact blk)); intro o5; have o5c0 := o5.cell 0; have o5f0 := o5.free 0; have o5l := o5.lt; simp at o5c0))
      have hk5 : Kept wr w5 := by exact kpt
      have hB5 : But g S w5 := hB.drop (by omega) hk5
      have hg5 := hg.keep hk5
      have gg2 : g2 ≠ g := by have h1 := hg.lt; have h2 := Kept.size hb4; omega
      have hml : (l).length = l.length := rfl
      obtain ⟨N1, N2, N3, N4⟩ := PN.out (l) (.inl rfl)
      have N2' : ∀ k, k < l.length → Near l 393216000 (bwdK (fwdK (l) (l.length - 1)) k) := by first | exact N2 | (have := N2; rwa [hml] at this)
      have hsw : bwdK (fwdK (l) (l.length - 1)) (l.length - 1) = sweep l := rfl
      clear o6 o6c0 o6f0 o6l KC hb4 N2 N3 N4 hk5
      go_upto_block 2 with fail
      refine seg_up (S := S) (l := l) (m := l) (n6 := n6) (n7 := n7) (nt := nt) (gt := gt) (ct := ct) (g := g) (cp := cp) _ rfl _ HS.out K6.out K7.out KTB.out KRT.out hct hcg e6 e7 et eg N1 hg5 hB5 ?_
      clear hg5 o5 o5c0 o5f0 o5l
      rintro _ _ _ _ _ _ _ _ _ _ wa ⟨hga, hBa⟩
      have h6a := (hB5.trans hBa).blk K6.out e6
      have h6ac0 := h6a.cell 0
      have h6af0 := h6a.free 0
      have h6al := h6a.lt
      simp at h6ac0
      go_upto_block 4 with fail
      refine seg_dn (S := S) (l := l) (m := fwdK (l) (l.length - 1)) (n6 := n6) (n7 := n7) (nt := nt) (gt := gt) (ct := ct) (g := g) (cp := cp) _ rfl _ HS.out K6.out K7.out KTB.out KRT.out hct hcg e6 e7 et eg (by first | exact fwdK_len _ _ | rw [fwdK_len, hsl]) N2' hga (hB5.trans hBa) ?_
      rintro _ _ _ _ _ _ _ _ _ _ wb ⟨hgb, hBb⟩
      go_wp2
      go_roundg 1
      case rel => exact ⟨sweep l, hsw ▸ hgb, (hB5.trans hBa).trans hBb, .inr ⟨g2, c2, l, rfl, gg2, (hl2.of_block ((hBa.trans hBb).block g2 hl2.lt gg2)), rfl, rfl, .inl rfl⟩⟩
      case measure => omega
    · have h6w := hB.blk K6.out e6
      have hsl := sweep_len l
      have KE := Lib.hid (show ∀ W, Kept wr W → Calls Try.prog 78 #[.slice (some ⟨g1, 0, none⟩) l.length c1, .slice (some ⟨g, 0, none⟩) l.length cp] W fun e w' => e = .returned (.bool (decide (mw = sweep l))) ∧ Kept W w' from fun W hW => by
        have := s_EqualL (some ⟨g1, 0, none⟩) (some ⟨g, 0, none⟩) c1 cp mw (sweep l) W ((hw.keep hW).row) ((hg.keep hW).row) (by rw [hsl, hmw]) (by omega)
        rw [hmw] at this
        exact this)
      have h6wc0 := h6w.cell 0
      have h6wf0 := h6w.free 0
      have h6wl := h6w.lt
      simp at h6wc0
      cases hq : decide (mw = sweep l)
      · rw [hq] at KE
        have hne : mw ≠ sweep l := by simpa using hq
        have hc1 : gk = 1 := by
          rcases hc with h | ⟨_, h⟩
          · exact h
          · exact absurd h hne
        clear hq hc hne
        subst hc1
        have KC := Lib.hid (show ∀ W, Kept wr W → Calls Try.prog 75 #[.slice (some ⟨g, 0, none⟩) l.length cp] W fun e w' => (∃ g2 c2, e = .returned (.slice (some ⟨g2, 0, none⟩) l.length c2) ∧ W.heap.size ≤ g2 ∧ LevB 72 w' g2 (sweep l)) ∧ Kept W w' from fun W hW => by
        have := s_CloneL ⟨g, 0, none⟩ cp (sweep l) W ((hg.keep hW).row) (by omega) (by omega)
        first | rw [hsl] at this | skip
        refine this.mono ?_
        rintro e w' ⟨⟨g2, c2, rfl, h1, h2, _⟩, hk⟩
        exact ⟨⟨g2, c2, rfl, h1, h2⟩, hk⟩)
        go_upto_region 9 with (first | (go_at_call 78; (with_reducible refine (KE.out _ (by exact kpt)).mono ?_); rintro e w4 ⟨rfl, hb4⟩; refine Blk.thru (b := n6) (arr := ?_) (t := ?_) ?_ hb4 ?_; rotate_left 2; (focus (exact blk)); intro o6; have o6c0 := o6.cell 0; have o6f0 := o6.free 0; have o6l := o6.lt; simp at o6c0) | (go_at_call 75; (with_reducible refine (KC.out _ (by exact kpt)).mono ?_); rintro e w5 ⟨⟨g2, c2, rfl, hg2, hl2⟩, hb5⟩; refine Blk.thru (b := n6) (arr := ?_) (t := ?_) ?_ hb5 ?_; rotate_left 2; (focus (exact blk)); intro o5; have o5c0 := o5.cell 0; have o5f0 := o5.free 0; have o5l := o5.lt; simp at o5c0))
        have hk5 : Kept wr w5 := by exact kpt
        have hB5 : But g S w5 := hB.drop (by omega) hk5
        have hg5 := hg.keep hk5
        have gg2 : g2 ≠ g := by have h1 := hg.lt; have h2 := Kept.size hb4; omega
        have hml : (sweep l).length = l.length := hsl
        obtain ⟨N1, N2, N3, N4⟩ := PN.out (sweep l) (.inr (sweep_fix HS.out))
        have N2' : ∀ k, k < l.length → Near l 393216000 (bwdK (fwdK (sweep l) (l.length - 1)) k) := by first | exact N2 | (have := N2; rwa [hml] at this)
        have hsw : bwdK (fwdK (sweep l) (l.length - 1)) (l.length - 1) = sweep l := (by have h1 := (sweep_fix HS.out).1.sweep (show 0 < (sweep l).length by omega); unfold sweep at h1; rw [show (bwdK (fwdK l (l.length - 1)) (l.length - 1)) = sweep l from rfl] at h1; rw [hsl] at h1; exact h1)
        clear o6 o6c0 o6f0 o6l KC hb4 N2 N3 N4 hk5
        go_upto_block 2 with fail
        refine seg_up (S := S) (l := l) (m := sweep l) (n6 := n6) (n7 := n7) (nt := nt) (gt := gt) (ct := ct) (g := g) (cp := cp) _ rfl _ HS.out K6.out K7.out KTB.out KRT.out hct hcg e6 e7 et eg N1 hg5 hB5 ?_
        clear hg5 o5 o5c0 o5f0 o5l
        rintro _ _ _ _ _ _ _ _ _ _ wa ⟨hga, hBa⟩
        have h6a := (hB5.trans hBa).blk K6.out e6
        have h6ac0 := h6a.cell 0
        have h6af0 := h6a.free 0
        have h6al := h6a.lt
        simp at h6ac0
        go_upto_block 4 with fail
        refine seg_dn (S := S) (l := l) (m := fwdK (sweep l) (l.length - 1)) (n6 := n6) (n7 := n7) (nt := nt) (gt := gt) (ct := ct) (g := g) (cp := cp) _ rfl _ HS.out K6.out K7.out KTB.out KRT.out hct hcg e6 e7 et eg (by first | exact fwdK_len _ _ | rw [fwdK_len, hsl]) N2' hga (hB5.trans hBa) ?_
        rintro _ _ _ _ _ _ _ _ _ _ wb ⟨hgb, hBb⟩
        go_wp2
        go_roundg 0
        case rel => exact ⟨sweep l, hsw ▸ hgb, (hB5.trans hBa).trans hBb, .inr ⟨g2, c2, sweep l, rfl, gg2, (hl2.of_block ((hBa.trans hBb).block g2 hl2.lt gg2)), hsl, rfl, .inr ⟨rfl, rfl⟩⟩⟩
        case measure => omega
      · rw [hq] at KE
        clear hq hc
        have KI := Lib.hid (show ∀ W, Kept wr W → Calls Try.prog 73 #[.slice (some ⟨g, 0, none⟩) l.length cp, .func (.func 79) #[] #[]] W fun e w' => (∃ r : Int, e = .returned (.int .i64 r) ∧ decide (0 ≤ r) = (sweep l).any unfitB) ∧ Kept W w' from fun W hW => by
          have := s_IndexU (some ⟨g, 0, none⟩) cp (sweep l) W ((hg.keep hW).row) (by omega) rfl
          rw [hsl] at this
          refine this.mono ?_
          rintro e w' ⟨⟨r, rfl, h1, _, _⟩, hk⟩
          exact ⟨⟨r, rfl, h1⟩, hk⟩)
        have hkw : Kept w wr := But.under hkS hB gw
        go_upto_region 19 with (first | (go_at_call 78; (with_reducible refine (KE.out _ (by exact kpt)).mono ?_); rintro e w4 ⟨rfl, hb4⟩; refine Blk.thru (b := n6) (arr := ?_) (t := ?_) ?_ hb4 ?_; rotate_left 2; (focus (exact blk)); intro o6; have o6c0 := o6.cell 0; have o6f0 := o6.free 0; have o6l := o6.lt; simp at o6c0) | (go_at_call 73; (with_reducible refine (KI.out _ (by exact kpt)).mono ?_); rintro e w5 ⟨⟨r, rfl, hri⟩, hb5⟩; refine Blk.thru (b := n6) (arr := ?_) (t := ?_) ?_ hb5 ?_; rotate_left 2; (focus (exact blk)); intro o7; have o7c0 := o7.cell 0; have o7f0 := o7.free 0; have o7l := o7.lt; simp at o7c0))
        cases hz : (sweep l).any unfitB
        · rw [hz] at hri
          have d9 : decide ((0 : Int) ≤ r) = false := hri
          go_wp2
          exact bodyPost_ret (v := .tuple #[.slice (some ⟨g, 0, none⟩) l.length cp, .int .i64 0, .int .i64 0]) (by simp [results, Try.results55, go_sem]) rfl ⟨.inl ⟨g, cp, rfl, gw, hg.keep (by exact kpt), hcg, hz⟩, by exact kpta⟩
        · rw [hz] at hri
          have d9 : decide ((0 : Int) ≤ r) = true := hri
          go_wp2
          exact bodyPost_ret (v := .tuple #[.slice none 0 0, .int .i64 r, .int .i64 21]) (by simp [results, Try.results55, go_sem]) rfl ⟨.inr ⟨r, rfl, hz⟩, by exact kpta⟩

end Go.Proofs.Ytnfhcpnpjkefmaa

/-
  Layer 2: a level found by its height.
-/
namespace Go.Proofs.Ytnfhcpnpjkefmaa
open Go.RowKit Bal Bal.Trim Bal.Wx
set_option linter.unusedVariables false
set_option linter.unusedSimpArgs false
set_option maxHeartbeats 4000000
set_option maxRecDepth 100000

theorem f_cmp (x : Lev) (h : Int) (w : World) (hx : -10000 ≤ x.ht ∧ x.ht ≤ 10000) (hh : -10000 ≤ h ∧ h ≤ 10000) : Calls Try.prog 58 #[.agg #[.int .i64 x.ht, .int .i64 x.plo, .int .i64 x.phi, .int .i64 x.tlo, .int .i64 x.thi], .int .i64 (h)] w fun e w' => e = .returned (.int .i64 (x.ht - h)) ∧ Kept w w' := by
  have w1 := i64_w (n := x.ht - h) (by omega)
  go_enter Try.func58, Try.ntmps58
  go_wp2
  go_ret
  exact ⟨rfl, by exact kpt⟩

theorem s_Bin (a : Option Addr) (cap : Nat) (l : List Lev) (h : Int) (w : World) (hr : Row Lev.cells 5 w.heap.size w a l) (hl : l.length ≤ 1000) (hx : ∀ i, i < l.length → -10000 ≤ (lAt l i).ht ∧ (lAt l i).ht ≤ 10000) (hh : -10000 ≤ h ∧ h ≤ 10000) : Calls Try.prog 57 #[.slice a l.length cap, .int .i64 (h), .func (.func 58) #[] #[]] w fun e w' => (∃ i : Nat, i ≤ l.length ∧ (0 < i → (lAt l (i - 1)).ht < h) ∧ (i < l.length → h ≤ (lAt l i).ht) ∧ e = .returned (.tuple #[.int .i64 i, .bool (decide (i < l.length) && decide ((lAt l i).ht = h))])) ∧ Kept w w' := by
  have HX := Lib.hid hx
  clear hx
  go_enter Try.func57, Try.ntmps57
  go_upto_block 0 with fail
  go_wp2
  go_loopw [9, 10] (fun iv jv wr => ∃ i j : Nat, iv = .int .i64 i ∧ jv = .int .i64 j ∧ i ≤ j ∧ j ≤ l.length ∧ (0 < i → (lAt l (i - 1)).ht < h) ∧ (j < l.length → h ≤ (lAt l j).ht) ∧ Kept w wr) (fun iv jv _ => (intOf jv - intOf iv).toNat)
  case atStart => exact ⟨0, l.length, rfl, rfl, by omega, by omega, fun h => by omega, fun h => by omega, by exact kpt⟩
  case round =>
    obtain ⟨i, j, rfl, rfl, h01, h1, hI, hJ, hk⟩ := hrel
    have HI := Lib.hid hI
    have HJ := Lib.hid hJ
    clear hI hJ
    by_cases hij : i < j
    · obtain ⟨m, hm0⟩ : ∃ m, m = (i + j) / 2 := ⟨_, rfl⟩
      have hm : m < l.length := by omega
      have hmi : i ≤ m := by omega
      have hmj : m < j := by omega
      have d0 : decide ((i : Int) < (j : Int)) = true := by simp; omega
      have w1_ := i64_w (n := (i : Int) + j) (by omega)
      have w2_ : IntKind.u64.wrap ((i : Int) + j) = (i : Int) + j := by rw [IntKind.wrap_u64]; omega
      have w3_ := i64_w (n := (m : Int)) (by omega)
      have w4_ := i64_w (n := (m : Int) + 1) (by omega)
      have e1_ : ((i : Int) + j) / 2 = m := by omega
      have HM := Lib.hid hm0
      clear hm0
      obtain ⟨b, off, rfl, hb, c0, c1, c2, c3, c4⟩ := Lev.row (hr.later hk (Nat.le_refl _)) m hm
      have m0 : (0 : Int) ≤ (m : Int) := by omega
      have m1 : (m : Int) < (l.length : Int) := by omega
      by_cases hc : (lAt l m).ht < h
      · have dc : decide ((lAt l m).ht - h < 0) = true := by simp; omega
        have HC := Lib.hid hc
        clear hc
        go_wp2_with (go_at_call 58; (with_reducible refine (f_cmp (lAt l m) h _ (HX.out m hm) hh).mono ?_); rintro e w1 ⟨rfl, hb1⟩)
        go_roundw
        case rel => exact ⟨m + 1, j, by go_num, rfl, by omega, by omega, fun _ => HC.out, HJ.out, by exact kpt⟩
        case measure => simp [intOf]; omega
      · have dc : decide ((lAt l m).ht - h < 0) = false := by simp; omega
        have HC := Lib.hid (show h ≤ (lAt l m).ht by omega)
        clear hc
        go_wp2_with (go_at_call 58; (with_reducible refine (f_cmp (lAt l m) h _ (HX.out m hm) hh).mono ?_); rintro e w1 ⟨rfl, hb1⟩)
        go_roundw
        case rel => exact ⟨i, m, rfl, by go_num, by omega, by omega, HI.out, fun _ => HC.out, by exact kpt⟩
        case measure => simp [intOf]; omega
    · obtain rfl : i = j := by omega
      by_cases hi_ : i < l.length
      · obtain ⟨b, off, rfl, hb, c0, c1, c2, c3, c4⟩ := Lev.row (hr.later hk (Nat.le_refl _)) i hi_
        have d2 : decide ((i : Int) < (l.length : Int)) = true := by simp; omega
        have d2' : decide (i < l.length) = true := by simp [hi_]
        have i0 : (0 : Int) ≤ (i : Int) := by omega
        have i1 : (i : Int) < (l.length : Int) := by omega
        cases hz : decide ((lAt l i).ht = h)
        · have dz : ((lAt l i).ht - h == 0) = false := by simp at hz ⊢; omega
          go_wp2_with (go_at_call 58; (with_reducible refine (f_cmp (lAt l i) h _ (HX.out i hi_) hh).mono ?_); rintro e w1 ⟨rfl, hb1⟩)
          exact bodyPost_ret (v := .tuple #[.int .i64 i, .bool false]) (by simp [results, Try.results57, go_sem]) rfl ⟨⟨i, h1, HI.out, HJ.out, by rw [hz]; simp⟩, by exact kpt⟩
        · have dz : ((lAt l i).ht - h == 0) = true := by simp at hz ⊢; omega
          go_wp2_with (go_at_call 58; (with_reducible refine (f_cmp (lAt l i) h _ (HX.out i hi_) hh).mono ?_); rintro e w1 ⟨rfl, hb1⟩)
          exact bodyPost_ret (v := .tuple #[.int .i64 i, .bool true]) (by simp [results, Try.results57, go_sem]) rfl ⟨⟨i, h1, HI.out, HJ.out, by rw [hz, d2']; rfl⟩, by exact kpt⟩
      · have d2 : decide ((i : Int) < (l.length : Int)) = false := by simp; omega
        have d2' : decide (i < l.length) = false := by simp; omega
        go_wp2
        exact bodyPost_ret (v := .tuple #[.int .i64 i, .bool false]) (by simp [results, Try.results57, go_sem]) rfl ⟨⟨i, h1, HI.out, HJ.out, by rw [d2']; rfl⟩, by exact kpt⟩

end Go.Proofs.Ytnfhcpnpjkefmaa

/-
  Layer 2: what the barometer tells.
-/
namespace Go.Proofs.Ytnfhcpnpjkefmaa
open Go.RowKit Bal Bal.Trim Bal.Wx
set_option linter.unusedVariables false
set_option linter.unusedSimpArgs false
set_option maxHeartbeats 8000000
set_option maxRecDepth 100000
attribute [local go_sem] ite_min ite_max

theorem f_tell (ns nq nt gt ct g cp : Nat) (l s : List Lev) (h : Int) (w : World) (hs : Snd l) (hn : Near l 393216000 s) (hbs : Blk w ns #[.slice (some ⟨g, 0, none⟩) l.length cp] 27) (hbq : Blk w nq #[.func (.func 60) #[] #[.pointer (some ⟨nt, 0, none⟩)]] 76) (hbt : Blk w nt #[.slice (some ⟨gt, 0, none⟩) l.length ct] 120) (hrt : Row Kn.cells 3 w.heap.size w (some ⟨gt, 0, none⟩) (l.map knOf)) (hct : l.length ≤ ct) (hg : LevB 72 w g s) (hcg : l.length ≤ cp) (h0 : (lAt l 0).ht ≤ h) (h1 : h ≤ (lAt l (l.length - 1)).ht) : Calls Try.prog 56 #[.int .i64 (h), .pointer (some ⟨ns, 0, none⟩), .pointer (some ⟨nq, 0, none⟩)] w fun e w' => (∃ p1 p2, e = .returned (.agg #[.int .i64 p1, .int .i64 p2]) ∧ ∀ i, i < l.length → (lAt l i).ht = h → p1 = (lAt s i).plo ∧ p2 = (lAt s i).phi) ∧ Kept w w' := by
  have n2 := hs.n2
  have n16 := hs.n16
  have hsl := hn.len
  have HS := Lib.hid hs
  have HNR := Lib.hid hn
  have hh0 := hs.ht 0 (by omega)
  have hh1 := hs.ht (l.length - 1) (by omega)
  have KB := Lib.hid (show ∀ W, Kept w W → Calls Try.prog 57 #[.slice (some ⟨g, 0, none⟩) l.length cp, .int .i64 h, .func (.func 58) #[] #[]] W fun e w' => (∃ i : Nat, i ≤ l.length ∧ (0 < i → (lAt l (i - 1)).ht < h) ∧ (i < l.length → h ≤ (lAt l i).ht) ∧ e = .returned (.tuple #[.int .i64 i, .bool (decide (i < l.length) && decide ((lAt l i).ht = h))])) ∧ Kept W w' from fun W hW => by
    have := s_Bin (some ⟨g, 0, none⟩) cp s h W ((hg.keep hW).row) (by omega) (fun i hi => by rw [hn.ht i (by omega)]; have := hs.ht i (by omega); omega) (by omega)
    rw [hsl] at this
    refine this.mono ?_
    rintro e w' ⟨⟨i, k1, k2, k3, rfl⟩, hk⟩
    refine ⟨⟨i, k1, fun k0 => by rw [← hn.ht (i - 1) (by omega)]; exact k2 k0, fun k0 => by rw [← hn.ht i k0]; exact k3 k0, ?_⟩, hk⟩
    by_cases k4 : i < l.length
    · rw [hn.ht i k4]
    · simp [k4])
  have UQ := Lib.hid (show ∀ i j, i < l.length → j < l.length → (lAt l i).ht = (lAt l j).ht → i = j from fun i j hi hj he => by
    have hm := (Snd.tab hs).mono
    apply Classical.byContradiction; intro hc
    rcases Nat.lt_or_gt_of_ne hc with hlt | hlt
    · have := hm j i hlt (by rw [List.length_map]; exact hj)
      rw [kAt_map hi, kAt_map hj] at this; simp only [knOf] at this; omega
    · have := hm i j hlt (by rw [List.length_map]; exact hi)
      rw [kAt_map hi, kAt_map hj] at this; simp only [knOf] at this; omega)
  have sc := hbs.cell 0
  have sl := hbs.lt
  simp at sc
  have HG := Lib.hid hg
  clear hs hn hg
  go_enter Try.func56, Try.ntmps56
  go_upto_region 2 with (go_at_call 57; (with_reducible refine (KB.out _ (by exact kpt)).mono ?_); rintro e w1 ⟨⟨i, hi0, hi1, hi2, rfl⟩, hb1⟩)
  refine at_world (S := fun X => Blk X w.heap.size #[.int .i64 0, .int .i64 0] 29 ∧ Kept w X) ⟨by exact blkd, by exact kpt⟩ ?_
  have hS := sc
  clear hb1 KB sc
  rintro X ⟨x4, hk⟩
  have xs := hbs.keep hk
  have xsc0 := xs.cell 0
  have xsf0 := xs.free 0
  have xsl := xs.lt
  simp at xsc0
  have x4c0 := x4.cell 0
  have x4f0 := x4.free 0
  have x4c1 := x4.cell 1
  have x4f1 := x4.free 1
  have x4l := x4.lt
  simp at x4c0 x4c1
  cases hf : decide (i < l.length) && decide ((lAt l i).ht = h)
  · have hil : i < l.length := by
      apply Classical.byContradiction; intro hc
      have := hi1 (by omega)
      rw [show i - 1 = l.length - 1 by omega] at this
      omega
    have hne : (lAt l i).ht ≠ h := by
      intro he
      simp [hil, he] at hf
    have hi3 := hi2 hil
    have hip : 0 < i := by
      apply Classical.byContradiction; intro hc
      have e : i = 0 := by omega
      subst e
      omega
    have hi4 := hi1 hip
    obtain ⟨j, rfl⟩ : ∃ j, i = j + 1 := ⟨i - 1, by omega⟩
    rw [show j + 1 - 1 = j by omega] at hi4
    have HNO := Lib.hid (show ∀ k, k < l.length → (lAt l k).ht = h → False from fun k hk1 he => by
      have hm := (Snd.tab HS.out).mono
      rcases Nat.lt_or_ge k (j + 1) with hlt | hge
      · rcases Nat.lt_or_ge k j with h2 | h2
        · have := hm j k h2 (by rw [List.length_map]; omega)
          rw [kAt_map hk1, kAt_map (by omega)] at this; simp only [knOf] at this; omega
        · obtain rfl : k = j := by omega
          omega
      · rcases Nat.lt_or_ge (j + 1) k with h2 | h2
        · have := hm k (j + 1) h2 (by rw [List.length_map]; exact hk1)
          rw [kAt_map hk1, kAt_map (by omega)] at this; simp only [knOf] at this; omega
        · obtain rfl : k = j + 1 := by omega
          exact hne he)
    have pq := (HNR.out.pair HS.out hil).1
    unfold coldOf warmOf fallOf at pq
    obtain ⟨pc0, pcw, pw1, ps0, ps1⟩ := pq
    have eh0 := HNR.out.ht j (by omega)
    have eh1 := HNR.out.ht (j + 1) hil
    have HP := Lib.hid (show Pair (1000000 * min (lAt s j).tlo (lAt s (j + 1)).tlo) (1000000 * max (lAt s j).thi (lAt s (j + 1)).thi) (341632 * (h - (lAt s j).ht)) from ⟨pc0, pcw, pw1, by omega, by omega⟩)
    have la := HNR.out.lo j (by omega)
    have lb := HNR.out.lo (j + 1) hil
    have ha := HNR.out.hi j (by omega)
    have HLA := Lib.hid (show 0 ≤ (lAt s j).plo ∧ (lAt s j).plo ≤ 393216000 by omega)
    have HHA := Lib.hid (show 0 ≤ (lAt s j).phi ∧ (lAt s j).phi ≤ 12000 by omega)
    have hj1 := HS.out.ht j (by omega)
    have hj2 := HS.out.ht (j + 1) hil
    have wd := i64_w (n := h - (lAt s j).ht) (by omega)
    have KT := Lib.hid (show ∀ W, Kept w W → Calls Try.prog 60 #[.int .i64 (lAt s j).ht, .int .i64 (lAt s (j + 1)).ht, .pointer (some ⟨nt, 0, none⟩)] W fun e w' => e = .returned (.agg #[.int .i64 (min (lAt s j).tlo (lAt s (j + 1)).tlo), .int .i64 (max (lAt s j).thi (lAt s (j + 1)).thi)]) ∧ Kept W w' from fun W hW => by
      have k0_ := Snd.tab HS.out
      have hu := HS.out.up j hil
      have kl : (lAt l 0).ht ≤ (lAt l j).ht := by
        by_cases e : j = 0
        · subst e; exact Int.le_refl _
        · have := k0_.mono j 0 (by omega) (by rw [List.length_map]; omega)
          rw [kAt_map (by omega), kAt_map (by omega)] at this
          simp only [knOf] at this; omega
      have kr : (lAt l (j + 1)).ht ≤ (lAt l (l.length - 1)).ht := by
        by_cases e : j + 1 = l.length - 1
        · rw [e]; exact Int.le_refl _
        · have := k0_.mono (l.length - 1) (j + 1) (by omega) (by rw [List.length_map]; omega)
          rw [kAt_map (by omega), kAt_map (by omega)] at this
          simp only [knOf] at this; omega
      have := f_temp nt gt ct l 1500 3500 (lAt s j).ht (lAt s (j + 1)).ht W k0_ (by decide) (by decide) (hbt.keep hW) (hrt.later hW (Nat.le_refl _)) hct (by omega) (by omega)
      refine this.mono ?_
      rintro e w' ⟨⟨lo, hi_, hv, rfl⟩, hk⟩
      have h2 := hv.near j (by rw [List.length_map]; exact hil) (by rw [kAt_map (by omega)]; simp only [knOf]; omega) (by rw [kAt_map (by omega)]; simp only [knOf]; omega)
      rw [kAt_map (by omega), kAt_map (by omega)] at h2
      simp only [knOf] at h2
      rw [h2.1, h2.2, HNR.out.tlo j (by omega), HNR.out.tlo (j + 1) hil, HNR.out.thi j (by omega), HNR.out.thi (j + 1) hil]
      exact ⟨rfl, hk⟩)
    obtain ⟨b1, o1, he1, hb1_, c0, c1, c2, c3, c4⟩ := Lev.row ((HG.out.keep hk).row) j (by omega)
    obtain ⟨b2, o2, he2, hb2_, y0, y1, y2, y3, y4⟩ := Lev.row ((HG.out.keep hk).row) (j + 1) (by omega)
    obtain ⟨rfl, rfl⟩ : g = b1 ∧ 0 = o1 := by simpa using he1
    obtain ⟨rfl, rfl⟩ : g = b2 ∧ 0 = o2 := by simpa using he2
    simp only [Nat.zero_add] at c0 c1 c2 c3 c4 y0 y1 y2 y3 y4
    have xq := hbq.keep hk
    have xgl := (HG.out.keep hk).lt
    have i0 : (0 : Int) ≤ (j : Int) := by omega
    have i1 : (j : Int) < (l.length : Int) := by omega
    have j0 : (0 : Int) ≤ (j : Int) + 1 := by omega
    have j1 : (j : Int) + 1 < (l.length : Int) := by omega
    have wi := i64_w (n := (j : Int) + 1 - 1) (by omega)
    have wi' := i64_w (n := (j : Int)) (by omega)
    have ei : (j : Int) + 1 - 1 = j := by omega
    clear he1 he2 pc0 pcw pw1 ps0 ps1 eh0 eh1 la lb ha hj1 hj2 hi4 hip hi3 hi2 hi1 hne hf hi0 hh0 hh1 h0 h1
    go_upto_region 4 with fail
    have zc0 : ∀ w', Kept X w' → w'.cell? ⟨g, j * 5, none⟩ = some (.int .i64 (lAt s j).ht) := fun w' h => by rw [(bcell h).1 g _ xgl]; exact c0
    have zc1 : ∀ w', Kept X w' → w'.cell? ⟨g, j * 5 + 1, none⟩ = some (.int .i64 (lAt s j).plo) := fun w' h => by rw [(bcell h).1 g _ xgl]; exact c1
    have zc2 : ∀ w', Kept X w' → w'.cell? ⟨g, j * 5 + 2, none⟩ = some (.int .i64 (lAt s j).phi) := fun w' h => by rw [(bcell h).1 g _ xgl]; exact c2
    have zc3 : ∀ w', Kept X w' → w'.cell? ⟨g, j * 5 + 3, none⟩ = some (.int .i64 (lAt s j).tlo) := fun w' h => by rw [(bcell h).1 g _ xgl]; exact c3
    have zc4 : ∀ w', Kept X w' → w'.cell? ⟨g, j * 5 + 4, none⟩ = some (.int .i64 (lAt s j).thi) := fun w' h => by rw [(bcell h).1 g _ xgl]; exact c4
    have zy0 : ∀ w', Kept X w' → w'.cell? ⟨g, (j + 1) * 5, none⟩ = some (.int .i64 (lAt s (j + 1)).ht) := fun w' h => by rw [(bcell h).1 g _ xgl]; exact y0
    have zy1 : ∀ w', Kept X w' → w'.cell? ⟨g, (j + 1) * 5 + 1, none⟩ = some (.int .i64 (lAt s (j + 1)).plo) := fun w' h => by rw [(bcell h).1 g _ xgl]; exact y1
    have zy2 : ∀ w', Kept X w' → w'.cell? ⟨g, (j + 1) * 5 + 2, none⟩ = some (.int .i64 (lAt s (j + 1)).phi) := fun w' h => by rw [(bcell h).1 g _ xgl]; exact y2
    have zy3 : ∀ w', Kept X w' → w'.cell? ⟨g, (j + 1) * 5 + 3, none⟩ = some (.int .i64 (lAt s (j + 1)).tlo) := fun w' h => by rw [(bcell h).1 g _ xgl]; exact y3
    have zy4 : ∀ w', Kept X w' → w'.cell? ⟨g, (j + 1) * 5 + 4, none⟩ = some (.int .i64 (lAt s (j + 1)).thi) := fun w' h => by rw [(bcell h).1 g _ xgl]; exact y4
    clear c0 c1 c2 c3 c4 y0 y1 y2 y3 y4
    have xsk0 : ∀ w', Kept X w' → w'.cell? ⟨ns, 0, none⟩ = _ := fun w' h => (xs.keep h).cell 0
    simp at xsk0
    have xsl_ := xs.lt
    have hxl4 := x4.lt
    go_cut [7, 8] (fun s7 s8 wx => ∃ a7 a8, s7 = .pointer (some ⟨a7, 0, none⟩) ∧ s8 = .pointer (some ⟨a8, 0, none⟩) ∧ w.heap.size < a7 ∧ w.heap.size < a8 ∧ Blk wx a7 #[.int .i64 (lAt s j).ht, .int .i64 (lAt s j).plo, .int .i64 (lAt s j).phi, .int .i64 (lAt s j).tlo, .int .i64 (lAt s j).thi] 72 ∧ Blk wx a8 #[.int .i64 (lAt s (j + 1)).ht, .int .i64 (lAt s (j + 1)).plo, .int .i64 (lAt s (j + 1)).phi, .int .i64 (lAt s (j + 1)).tlo, .int .i64 (lAt s (j + 1)).thi] 72 ∧ Blk wx w.heap.size #[.int .i64 0, .int .i64 0] 29 ∧ Kept X wx)
    case first => as_aux_lemma =>
      go_region_held3 (fun w' => Kept X w') (exact kpt) (first | fail)
      all_goals (go_wp2_with fail; go_meet)
      all_goals (have := x4.lt; refine ⟨_, _, rfl, rfl, by omega, by omega, ?_, ?_, by exact blkx, by exact kpt⟩)
      all_goals first | exact (Blk.new.alloc _).drew | exact (Blk.new' (by simp)).drew
    obtain ⟨a7, a8, rfl, rfl, g7, g8, q7, q8, z4, hkx⟩ := hcut
    clear xsk0 xsl_ zc0 zc1 zc2 zc3 zc4 zy0 zy1 zy2 zy3 zy4
    go_upto_region 5 with fail
    refine at_world (S := fun V => Blk V a7 #[.int .i64 (lAt s j).ht, .int .i64 (lAt s j).plo, .int .i64 (lAt s j).phi, .int .i64 (lAt s j).tlo, .int .i64 (lAt s j).thi] 72 ∧ Blk V a8 #[.int .i64 (lAt s (j + 1)).ht, .int .i64 (lAt s (j + 1)).plo, .int .i64 (lAt s (j + 1)).phi, .int .i64 (lAt s (j + 1)).tlo, .int .i64 (lAt s (j + 1)).thi] 72 ∧ Blk V w.heap.size #[.int .i64 0, .int .i64 0] 29 ∧ Kept X V) ⟨by exact blkd, by exact blkd, by exact blkd, by exact kpt⟩ ?_
    have hwx := hk
    clear q7 q8 z4 hkx
    rintro V ⟨q7, q8, z4, hkx⟩
    have hk := Kept.drop hwx hkx
    have vq := xq.keep hkx
    have q7k0 : ∀ w', Kept V w' → w'.cell? ⟨a7, 0, none⟩ = _ := fun w' h => (q7.keep h).cell 0
    have q7k1 : ∀ w', Kept V w' → w'.cell? ⟨a7, 1, none⟩ = _ := fun w' h => (q7.keep h).cell 1
    have q7k2 : ∀ w', Kept V w' → w'.cell? ⟨a7, 2, none⟩ = _ := fun w' h => (q7.keep h).cell 2
    have q7k3 : ∀ w', Kept V w' → w'.cell? ⟨a7, 3, none⟩ = _ := fun w' h => (q7.keep h).cell 3
    have q7k4 : ∀ w', Kept V w' → w'.cell? ⟨a7, 4, none⟩ = _ := fun w' h => (q7.keep h).cell 4
    simp at q7k0 q7k1 q7k2 q7k3 q7k4
    have q7l_ := q7.lt
    have q8k0 : ∀ w', Kept V w' → w'.cell? ⟨a8, 0, none⟩ = _ := fun w' h => (q8.keep h).cell 0
    have q8k1 : ∀ w', Kept V w' → w'.cell? ⟨a8, 1, none⟩ = _ := fun w' h => (q8.keep h).cell 1
    have q8k2 : ∀ w', Kept V w' → w'.cell? ⟨a8, 2, none⟩ = _ := fun w' h => (q8.keep h).cell 2
    have q8k3 : ∀ w', Kept V w' → w'.cell? ⟨a8, 3, none⟩ = _ := fun w' h => (q8.keep h).cell 3
    have q8k4 : ∀ w', Kept V w' → w'.cell? ⟨a8, 4, none⟩ = _ := fun w' h => (q8.keep h).cell 4
    simp at q8k0 q8k1 q8k2 q8k3 q8k4
    have q8l_ := q8.lt
    have vqk0 : ∀ w', Kept V w' → w'.cell? ⟨nq, 0, none⟩ = _ := fun w' h => (vq.keep h).cell 0
    simp at vqk0
    have vql_ := vq.lt
    have z4l_ := z4.lt
    go_cut [9] (fun s9 wx => ∃ n9, s9 = .pointer (some ⟨n9, 0, none⟩) ∧ w.heap.size < n9 ∧ a8 < n9 ∧ Blk wx n9 #[.int .i64 (upLo (1000000 * min (lAt s j).tlo (lAt s (j + 1)).tlo) (341632 * (h - (lAt s j).ht)) (lAt s j).plo), .int .i64 (upHi (1000000 * max (lAt s j).thi (lAt s (j + 1)).thi) (341632 * (h - (lAt s j).ht)) (lAt s j).phi)] 29 ∧ Blk wx a8 #[.int .i64 (lAt s (j + 1)).ht, .int .i64 (lAt s (j + 1)).plo, .int .i64 (lAt s (j + 1)).phi, .int .i64 (lAt s (j + 1)).tlo, .int .i64 (lAt s (j + 1)).thi] 72 ∧ Blk wx w.heap.size #[.int .i64 0, .int .i64 0] 29 ∧ Kept w wx)
    case first => as_aux_lemma =>
      go_region_held3 (fun w' => Kept V w') (exact kpta) (first | (go_at_call 60; (with_reducible refine (KT.out _ (by exact kpta)).mono ?_); rintro e w2 ⟨rfl, hb2⟩; (first | (refine Blk.thru (b := V.heap.size) (arr := #[.int .i64 0, .int .i64 0]) (t := 29) ?_ hb2 ?_; (focus (first | with_reducible assumption | (refine Blk.new' ?_; (focus (simp; done))) | (refine Blk.drew (Blk.new' ?_); (focus (simp; done))) | (refine Blk.alloc (Blk.new' ?_) _; (focus (simp; done))) | (refine Blk.drew (Blk.alloc (Blk.new' ?_) _); (focus (simp; done))) | (refine Blk.alloc (Blk.drew (Blk.new' ?_)) _; (focus (simp; done))) | (refine Blk.alloc ?_ _; with_reducible assumption) | (refine Blk.drew ?_; with_reducible assumption) | (refine Blk.drew (Blk.alloc ?_ _); with_reducible assumption) | fail)); intro tz0; have tz0c0 := tz0.cell 0; have tz0f0 := tz0.free 0; have tz0c1 := tz0.cell 1; have tz0f1 := tz0.free 1; have tz0l := tz0.lt; simp at tz0c0 tz0c1) | skip)) | (go_at_call 59; (with_reducible refine (f_carry_up (lAt s j).plo (lAt s j).phi (h - (lAt s j).ht) _ _ _ HP.out HLA.out HHA.out).mono ?_); rintro e w3 ⟨rfl, hb3⟩; (first | (refine Blk.thru (b := V.heap.size) (arr := #[.int .i64 0, .int .i64 0]) (t := 29) ?_ hb3 ?_; (focus (first | with_reducible assumption | (refine Blk.new' ?_; (focus (simp; done))) | (refine Blk.drew (Blk.new' ?_); (focus (simp; done))) | (refine Blk.alloc (Blk.new' ?_) _; (focus (simp; done))) | (refine Blk.drew (Blk.alloc (Blk.new' ?_) _); (focus (simp; done))) | (refine Blk.alloc (Blk.drew (Blk.new' ?_)) _; (focus (simp; done))) | (refine Blk.alloc ?_ _; with_reducible assumption) | (refine Blk.drew ?_; with_reducible assumption) | (refine Blk.drew (Blk.alloc ?_ _); with_reducible assumption) | fail)); intro tz0; have tz0c0 := tz0.cell 0; have tz0f0 := tz0.free 0; have tz0c1 := tz0.cell 1; have tz0f1 := tz0.free 1; have tz0l := tz0.lt; simp at tz0c0 tz0c1) | skip); (first | (refine Blk.thru (b := w2.heap.size) (arr := #[.int .i64 0, .int .i64 0]) (t := 29) ?_ hb3 ?_; (focus (first | with_reducible assumption | (refine Blk.new' ?_; (focus (simp; done))) | (refine Blk.drew (Blk.new' ?_); (focus (simp; done))) | (refine Blk.alloc (Blk.new' ?_) _; (focus (simp; done))) | (refine Blk.drew (Blk.alloc (Blk.new' ?_) _); (focus (simp; done))) | (refine Blk.alloc (Blk.drew (Blk.new' ?_)) _; (focus (simp; done))) | (refine Blk.alloc ?_ _; with_reducible assumption) | (refine Blk.drew ?_; with_reducible assumption) | (refine Blk.drew (Blk.alloc ?_ _); with_reducible assumption) | fail)); intro tz1; have tz1c0 := tz1.cell 0; have tz1f0 := tz1.free 0; have tz1c1 := tz1.cell 1; have tz1f1 := tz1.free 1; have tz1l := tz1.lt; simp at tz1c0 tz1c1) | skip)) | fail)
      all_goals (go_wp2_with fail; go_meet)
      all_goals (rename_i hHeld_; clear hHeld_)
      all_goals (have a1 := Kept.size hb2; have a2 := Kept.size hb3; (try simp at a1 a2))
      all_goals refine ⟨_, rfl, by omega, by omega, ?_, ?_, ?_, by exact kpta⟩
      all_goals (first | exact blkx | exact (tz0.set 0 _).set 1 _ | exact (tz1.set 0 _).set 1 _ | trace_state)
    obtain ⟨n9, rfl, g9, g9', q9, q8, z4, hk⟩ := hcut
    clear q7k0 q8k0 q7k1 q8k1 q7k2 q8k2 q7k3 q8k3 q7k4 q8k4 vqk0 q7l_ q8l_ vql_ z4l_
    obtain ⟨L, hL⟩ : ∃ n, n = upLo (1000000 * min (lAt s j).tlo (lAt s (j + 1)).tlo) (341632 * (h - (lAt s j).ht)) (lAt s j).plo := ⟨_, rfl⟩
    obtain ⟨H, hH⟩ : ∃ n, n = upHi (1000000 * max (lAt s j).thi (lAt s (j + 1)).thi) (341632 * (h - (lAt s j).ht)) (lAt s j).phi := ⟨_, rfl⟩
    rw [← hL, ← hH] at q9
    clear hL hH
    go_upto_region 6 with fail
    refine at_world (S := fun Y => Blk Y n9 #[.int .i64 L, .int .i64 H] 29 ∧ Blk Y a8 #[.int .i64 (lAt s (j + 1)).ht, .int .i64 (lAt s (j + 1)).plo, .int .i64 (lAt s (j + 1)).phi, .int .i64 (lAt s (j + 1)).tlo, .int .i64 (lAt s (j + 1)).thi] 72 ∧ Blk Y w.heap.size #[.int .i64 0, .int .i64 0] 29 ∧ Kept w Y) ⟨by exact blkd, by exact blkd, by exact blkd, by exact kpta⟩ ?_
    clear q9 q8 z4 hk
    rintro Y ⟨q9, q8, z4, hk⟩
    have q9c0 := q9.cell 0
    have q9f0 := q9.free 0
    have q9c1 := q9.cell 1
    have q9f1 := q9.free 1
    have q9l := q9.lt
    simp at q9c0 q9c1
    have q8c0 := q8.cell 0
    have q8f0 := q8.free 0
    have q8c1 := q8.cell 1
    have q8f1 := q8.free 1
    have q8c2 := q8.cell 2
    have q8f2 := q8.free 2
    have q8c3 := q8.cell 3
    have q8f3 := q8.free 3
    have q8c4 := q8.cell 4
    have q8f4 := q8.free 4
    have q8l := q8.lt
    simp at q8c0 q8c1 q8c2 q8c3 q8c4
    have z4c0 := z4.cell 0
    have z4f0 := z4.free 0
    have z4c1 := z4.cell 1
    have z4f1 := z4.free 1
    have z4l := z4.lt
    simp at z4c0 z4c1
    go_wp2
    refine at_worldQ (S := fun Z => Blk Z w.heap.size #[.int .i64 (max L (lAt s (j + 1)).plo), .int .i64 H] 29 ∧ Kept w Z) ⟨((z4.other (by show n9 ≠ w.heap.size; omega) _).set 0 _).set 1 _, Below.setCell (Below.setCell (Below.setCell hk (by show w.heap.size ≤ n9; omega) _) (Nat.le_refl _) _) (Nat.le_refl _) _⟩ ?_
    rintro Z ⟨yz, hkz⟩
    have yz0 := yz.cell 0
    have yz1 := yz.cell 1
    simp at yz0 yz1
    exact bodyPost_ret (v := .agg #[.int .i64 (max L (lAt s (j + 1)).plo), .int .i64 H]) (by simp [results, Try.results56, go_sem, yz0, yz1]) rfl ⟨⟨_, _, rfl, fun k h1 h2 => (HNO.out k h1 h2).elim⟩, hkz⟩
  · simp only [Bool.and_eq_true, decide_eq_true_eq] at hf
    obtain ⟨hil, hih⟩ := hf
    obtain ⟨b, off, hae, hbl, c0, c1, c2, c3, c4⟩ := Lev.row ((HG.out.keep hk).row) i (by omega)
    obtain ⟨rfl, rfl⟩ : g = b ∧ 0 = off := by simpa using hae
    have HPF := Lib.hid (show ∀ j, j < l.length → (lAt l j).ht = h → (lAt s i).plo = (lAt s j).plo ∧ (lAt s i).phi = (lAt s j).phi from fun j hj he => by
      rw [UQ.out i j hil hj (by rw [hih, he])]
      exact ⟨rfl, rfl⟩)
    have i0 : (0 : Int) ≤ (i : Int) := by omega
    have i1 : (i : Int) < (l.length : Int) := by omega
    simp only [Nat.zero_add] at c0 c1 c2 c3 c4
    clear hih hae hi1 hi2 hi0
    go_wp2
    refine at_worldQ (S := fun Z => Blk Z w.heap.size #[.int .i64 (lAt s i).plo, .int .i64 (lAt s i).phi] 29 ∧ Kept w Z) ⟨by exact blkd, by exact kpta⟩ ?_
    rintro Z ⟨yz, hkz⟩
    have yz0 := yz.cell 0
    have yz1 := yz.cell 1
    simp at yz0 yz1
    exact bodyPost_ret (v := .agg #[.int .i64 (lAt s i).plo, .int .i64 (lAt s i).phi]) (by simp [results, Try.results56, go_sem, yz0, yz1]) rfl ⟨⟨_, _, rfl, HPF.out⟩, hkz⟩

end Go.Proofs.Ytnfhcpnpjkefmaa

/-
  Layer 2: the barometer.
-/
namespace Go.Proofs.Ytnfhcpnpjkefmaa
open Go.RowKit Bal Bal.Trim Bal.Wx
set_option linter.unusedVariables false
set_option linter.unusedSimpArgs false
set_option maxHeartbeats 8000000
set_option maxRecDepth 100000

theorem f_baro_no (ad : Addr) (cap : Nat) (l : List Lev) (w : World) (hs : Snd l) (hr : Row Lev.cells 5 w.heap.size w (some ad) l) (hcp : l.length ≤ cap) (hz : (sweep l).any unfitB = true) : Calls Try.prog 20 #[.slice (some ad) l.length cap] w fun e w' => e = .returned (.tuple #[.nilFunc, .int .i64 21]) ∧ Kept w w' := by
  have KS := Lib.hid (show ∀ W, Kept w W → Calls Try.prog 55 #[.slice (some ad) l.length cap] W fun e w' => (∃ r : Int, e = .returned (.tuple #[.slice none 0 0, .int .i64 r, .int .i64 21])) ∧ Kept W w' from fun W hW => by
    refine (f_Settle ad cap l W hs (hr.later hW (Nat.le_refl _)) hcp).mono ?_
    rintro e w' ⟨⟨g, cp, _, _, _, _, h2⟩ | ⟨r, rfl, _⟩, hk⟩
    · rw [hz] at h2; cases h2
    · exact ⟨⟨r, rfl⟩, hk⟩)
  clear hs
  go_enter Try.func20, Try.ntmps20
  go_wp2_with (go_at_call 55; (with_reducible refine (KS.out _ (by exact kpt)).mono ?_); rintro e w1 ⟨⟨r, rfl⟩, hb1⟩; refine Blk.thru (b := w.heap.size) (arr := ?_) (t := ?_) ?_ hb1 ?_; rotate_left 2; (focus (exact blk)); intro o1; have o1c0 := o1.cell 0; have o1f0 := o1.free 0; have o1l := o1.lt; simp at o1c0)
  exact bodyPost_ret (v := .tuple #[.nilFunc, .int .i64 21]) (by simp [results, Try.results20, go_sem]) rfl ⟨rfl, by exact kpta⟩

theorem f_baro_ok (ad : Addr) (cap : Nat) (l : List Lev) (w : World) (hs : Snd l) (hr : Row Lev.cells 5 w.heap.size w (some ad) l) (hcp : l.length ≤ cap) (hz : (sweep l).any unfitB = false) : Calls Try.prog 20 #[.slice (some ad) l.length cap] w fun e w' => (∃ ns nq nt gt ct g cp, e = .returned (.tuple #[.func (.func 56) #[] #[.pointer (some ⟨ns, 0, none⟩), .pointer (some ⟨nq, 0, none⟩)], .int .i64 0]) ∧ Blk w' ns #[.slice (some ⟨g, 0, none⟩) l.length cp] 27 ∧ Blk w' nq #[.func (.func 60) #[] #[.pointer (some ⟨nt, 0, none⟩)]] 76 ∧ Blk w' nt #[.slice (some ⟨gt, 0, none⟩) l.length ct] 120 ∧ Row Kn.cells 3 w'.heap.size w' (some ⟨gt, 0, none⟩) (l.map knOf) ∧ l.length ≤ ct ∧ LevB 72 w' g (sweep l) ∧ l.length ≤ cp ∧ w.heap.size ≤ gt) ∧ Kept w w' := by
  have n2 := hs.n2
  have n16 := hs.n16
  have sl := sweep_len l
  have hkn := (sweep_fix hs).2.kn
  have KS := Lib.hid (show ∀ W, Kept w W → Calls Try.prog 55 #[.slice (some ad) l.length cap] W fun e w' => (∃ g cp, e = .returned (.tuple #[.slice (some ⟨g, 0, none⟩) l.length cp, .int .i64 0, .int .i64 0]) ∧ W.heap.size ≤ g ∧ LevB 72 w' g (sweep l) ∧ l.length ≤ cp) ∧ Kept W w' from fun W hW => by
    refine (f_Settle ad cap l W hs (hr.later hW (Nat.le_refl _)) hcp).mono ?_
    rintro e w' ⟨⟨g, cp, rfl, h1, h2, h3, _⟩ | ⟨r, rfl, h2⟩, hk⟩
    · exact ⟨⟨g, cp, rfl, h1, h2, h3⟩, hk⟩
    · rw [hz] at h2; cases h2)
  have hmf : ∀ (fn : Fn) (first cap : Array Value) (w : World), (Instr.makeFunc fn first cap).run Try.prog w = .ok (.func fn first cap) w := fun _ _ _ _ => rfl
  clear hs
  go_enter Try.func20, Try.ntmps20
  go_upto_region 2 with (go_at_call 55; (with_reducible refine (KS.out _ (by exact kpt)).mono ?_); rintro e w1 ⟨⟨g, cp, rfl, hg0, hg, hcg⟩, hb1⟩; refine Blk.thru (b := w.heap.size) (arr := ?_) (t := ?_) ?_ hb1 ?_; rotate_left 2; (focus (exact blk)); intro o1; have o1c0 := o1.cell 0; have o1f0 := o1.free 0; have o1l := o1.lt; simp at o1c0)
  have hgl := hg.lt
  have hws := Kept.size hb1
  simp at hws
  refine at_world (S := fun X => Blk X w.heap.size #[.slice (some ⟨g, 0, none⟩) l.length cp] 27 ∧ LevB 72 X g (sweep l) ∧ Kept w X) ⟨by exact blkd, hg.other (by simp at hg0; show w.heap.size ≠ g; omega) _, by exact kpta⟩ ?_
  have hne : w.heap.size ≠ g := by simp at hg0; omega
  clear o1 o1c0 o1f0 o1l hg hb1 KS hg0 hws
  rintro X ⟨xb, hg, hk⟩
  have KT := Lib.hid (show ∀ W, Kept X W → Calls Try.prog 21 #[.slice (some ⟨g, 0, none⟩) l.length cp] W fun e w' => (∃ nt gt ct, e = .returned (.func (.func 60) #[] #[.pointer (some ⟨nt, 0, none⟩)]) ∧ W.heap.size ≤ nt ∧ W.heap.size ≤ gt ∧ Blk w' nt #[.slice (some ⟨gt, 0, none⟩) l.length ct] 120 ∧ Row Kn.cells 3 w'.heap.size w' (some ⟨gt, 0, none⟩) (l.map knOf) ∧ l.length ≤ ct) ∧ Kept W w' from fun W hW => by
    have := f_thermoN (some ⟨g, 0, none⟩) cp (sweep l) W (by omega) (by omega) ((hg.keep hW).row) (by omega)
    rw [sl, hkn] at this
    exact this)
  have xbc0 := xb.cell 0
  have xbf0 := xb.free 0
  have xbl := xb.lt
  simp at xbc0
  go_wp2_with (go_at_call 21; (with_reducible refine (KT.out _ (by exact kpt)).mono ?_); rintro e w2 ⟨⟨nt, gt, ct, rfl, hnt, hgt, hbt, hrt, hct⟩, hb2⟩; refine Blk.thru (b := w.heap.size) (arr := ?_) (t := ?_) ?_ hb2 ?_; rotate_left 2; (focus (exact blk)); intro o2; have o2c0 := o2.cell 0; have o2f0 := o2.free 0; have o2l := o2.lt; simp at o2c0)
  exact bodyPost_ret (v := .tuple #[.func (.func 56) #[] #[.pointer (some ⟨w.heap.size, 0, none⟩), .pointer (some ⟨w2.heap.size, 0, none⟩)], .int .i64 0]) (by simp [results, Try.results20, go_sem]) rfl ⟨⟨_, _, nt, gt, ct, g, cp, rfl, by exact blkd, by exact blkd, by exact blkd, hrt.later (by exact kpta) (Nat.le_refl _), hct, (hg.keep hb2).keep (by exact kpta), hcg, by have := Kept.size hk; omega⟩, by exact kpta⟩

end Go.Proofs.Ytnfhcpnpjkefmaa

/-
  Layer 2: the air between two heights.
-/
namespace Go.Proofs.Ytnfhcpnpjkefmaa
open Go.RowKit Bal Bal.Trim Bal.Wx
set_option linter.unusedVariables false
set_option linter.unusedSimpArgs false
set_option maxHeartbeats 8000000
set_option maxRecDepth 100000

theorem fieldS0 (x y : Int) (w : World) : (Instr.field 29 (.agg #[.int .i64 x, .int .i64 y]) 0).run Try.prog w = .ok (.int .i64 x) w := by kernel_rfl
theorem fieldS1 (x y : Int) (w : World) : (Instr.field 29 (.agg #[.int .i64 x, .int .i64 y]) 1).run Try.prog w = .ok (.int .i64 y) w := by kernel_rfl
attribute [local go_sem] fieldS0 fieldS1
theorem f_At_bad (ad : Addr) (cap : Nat) (l : List Lev) (x0 x1 : Int) (w : World) (hs : Snd l) (hr : Row Lev.cells 5 w.heap.size w (some ad) l) (hcp : l.length ≤ cap) (h1 : snB x0 x1 = false) : Calls Try.prog 7 #[.slice (some ad) l.length cap, .agg #[.int .i64 x0, .int .i64 x1]] w fun e w' => e = .returned (.tuple #[.agg #[.int .i64 0, .int .i64 0, .int .i64 0, .int .i64 0], .int .i64 10]) ∧ Kept w w' := by
  have HS := Lib.hid hs
  have HSN := Lib.hid (show (if snB x0 x1 then (0 : Int) else 10) = 10 by rw [h1]; rfl)
  clear hs h1
  go_enter Try.func7, Try.ntmps7
  go_wp2_with (first | (go_at_call 17; (with_reducible refine (f_airCheck _ cap l _ HS.out (hr.later (by exact kpt) (Nat.le_refl _)) hcp).mono ?_); rintro e w1 ⟨rfl, hb1⟩; refine Blk.thru (b := w.heap.size) (arr := ?_) (t := ?_) ?_ hb1 ?_; rotate_left 2; (focus (exact blk)); intro ux; have uxc0 := ux.cell 0; have uxf0 := ux.free 0; have uxc1 := ux.cell 1; have uxf1 := ux.free 1; have uxl := ux.lt; simp at uxc0 uxc1; refine Blk.thru (b := (w.heap.size + 1)) (arr := ?_) (t := ?_) ?_ hb1 ?_; rotate_left 2; (focus (exact blk)); intro uz; have uzc0 := uz.cell 0; have uzf0 := uz.free 0; have uzc1 := uz.cell 1; have uzf1 := uz.free 1; have uzc2 := uz.cell 2; have uzf2 := uz.free 2; have uzc3 := uz.cell 3; have uzf3 := uz.free 3; have uzl := uz.lt; simp at uzc0 uzc1 uzc2 uzc3) | (go_at_call 18; (with_reducible refine (f_snCheck x0 x1 _).mono ?_); rw [HSN.out]; rintro e w2 ⟨rfl, hb2⟩; refine Blk.thru (b := w.heap.size) (arr := ?_) (t := ?_) ?_ hb2 ?_; rotate_left 2; (focus (exact blk)); intro vx; have vxc0 := vx.cell 0; have vxf0 := vx.free 0; have vxc1 := vx.cell 1; have vxf1 := vx.free 1; have vxl := vx.lt; simp at vxc0 vxc1; refine Blk.thru (b := (w.heap.size + 1)) (arr := ?_) (t := ?_) ?_ hb2 ?_; rotate_left 2; (focus (exact blk)); intro vz; have vzc0 := vz.cell 0; have vzf0 := vz.free 0; have vzc1 := vz.cell 1; have vzf1 := vz.free 1; have vzc2 := vz.cell 2; have vzf2 := vz.free 2; have vzc3 := vz.cell 3; have vzf3 := vz.free 3; have vzl := vz.lt; simp at vzc0 vzc1 vzc2 vzc3))
  refine at_worldQ (S := fun Z => Blk Z (w.heap.size + 1) #[.int .i64 0, .int .i64 0, .int .i64 0, .int .i64 0] 35 ∧ Kept w Z) ⟨by exact blkd, by exact kpta⟩ ?_
  rintro Z ⟨yz, hkz⟩
  have yz0 := yz.cell 0
  have yz1 := yz.cell 1
  have yz2 := yz.cell 2
  have yz3 := yz.cell 3
  simp at yz0 yz1 yz2 yz3
  exact bodyPost_ret (v := .tuple #[.agg #[.int .i64 0, .int .i64 0, .int .i64 0, .int .i64 0], .int .i64 10]) (by simp [results, Try.results7, go_sem, yz0, yz1, yz2, yz3]) rfl ⟨rfl, hkz⟩

theorem f_At_out (ad : Addr) (cap : Nat) (l : List Lev) (x0 x1 : Int) (w : World) (hs : Snd l) (hr : Row Lev.cells 5 w.heap.size w (some ad) l) (hcp : l.length ≤ cap) (h1 : snB x0 x1 = true) (h2 : (!([x0, x1] : List Int).any (offB (lAt l 0).ht (lAt l (l.length - 1)).ht)) = false) : Calls Try.prog 7 #[.slice (some ad) l.length cap, .agg #[.int .i64 x0, .int .i64 x1]] w fun e w' => e = .returned (.tuple #[.agg #[.int .i64 0, .int .i64 0, .int .i64 0, .int .i64 0], .int .i64 2]) ∧ Kept w w' := by
  have n2 := hs.n2
  have n16 := hs.n16
  have HS := Lib.hid hs
  have HSN := Lib.hid (show (if snB x0 x1 then (0 : Int) else 10) = 0 by rw [h1]; rfl)
  obtain ⟨y0, hy0⟩ : ∃ n, n = (lAt l 0).ht := ⟨_, rfl⟩
  obtain ⟨y1, hy1⟩ : ∃ n, n = (lAt l (l.length - 1)).ht := ⟨_, rfl⟩
  rw [← hy0, ← hy1] at h2
  have HY0 := Lib.hid hy0
  have HY1 := Lib.hid hy1
  have H2 := Lib.hid h2
  have KF := Lib.hid (show ∀ W n, Blk W n #[.int .i64 x0, .int .i64 x1] 3 → Calls Try.prog 19 #[.int .i64 y0, .int .i64 y1, .slice (some ⟨n, 0, none⟩) 2 2] W fun e w' => e = .returned (.bool false) ∧ Kept W w' from fun W n hW => by
    have k := f_from y0 y1 (some ⟨n, 0, none⟩) 2 [x0, x1] W (Row.block (fun _ => rfl) hW rfl) (by simp)
    have e : (!([x0, x1] : List Int).any (offB y0 y1)) = false := h2
    rw [e] at k
    exact k)
  have wl := i64_w (n := (l.length : Int) - 1) (by omega)
  have l0 : (0 : Int) ≤ (l.length : Int) - 1 := by omega
  have l1 : (l.length : Int) - 1 < (l.length : Int) := by omega
  have l2 : (0 : Int) < (l.length : Int) := by omega
  have l2' : 0 < l.length := by omega
  have l0' : (1 : Int) ≤ (l.length : Int) := by omega
  have l0'' : 1 ≤ l.length := by omega
  have lt_ : ((l.length : Int) - 1).toNat = l.length - 1 := by omega
  clear hs h1 h2 hy0 hy1
  go_enter Try.func7, Try.ntmps7
  go_upto_region 7 with (first | (go_at_call 17; (with_reducible refine (f_airCheck _ cap l _ HS.out (hr.later (by exact kpt) (Nat.le_refl _)) hcp).mono ?_); rintro e w1 ⟨rfl, hb1⟩; refine Blk.thru (b := w.heap.size) (arr := ?_) (t := ?_) ?_ hb1 ?_; rotate_left 2; (focus (exact blk)); intro ux; have uxc0 := ux.cell 0; have uxf0 := ux.free 0; have uxc1 := ux.cell 1; have uxf1 := ux.free 1; have uxl := ux.lt; simp at uxc0 uxc1; refine Blk.thru (b := (w.heap.size + 1)) (arr := ?_) (t := ?_) ?_ hb1 ?_; rotate_left 2; (focus (exact blk)); intro uz; have uzc0 := uz.cell 0; have uzf0 := uz.free 0; have uzc1 := uz.cell 1; have uzf1 := uz.free 1; have uzc2 := uz.cell 2; have uzf2 := uz.free 2; have uzc3 := uz.cell 3; have uzf3 := uz.free 3; have uzl := uz.lt; simp at uzc0 uzc1 uzc2 uzc3) | (go_at_call 18; (with_reducible refine (f_snCheck x0 x1 _).mono ?_); rw [HSN.out]; rintro e w2 ⟨rfl, hb2⟩; refine Blk.thru (b := w.heap.size) (arr := ?_) (t := ?_) ?_ hb2 ?_; rotate_left 2; (focus (exact blk)); intro vx; have vxc0 := vx.cell 0; have vxf0 := vx.free 0; have vxc1 := vx.cell 1; have vxf1 := vx.free 1; have vxl := vx.lt; simp at vxc0 vxc1; refine Blk.thru (b := (w.heap.size + 1)) (arr := ?_) (t := ?_) ?_ hb2 ?_; rotate_left 2; (focus (exact blk)); intro vz; have vzc0 := vz.cell 0; have vzf0 := vz.free 0; have vzc1 := vz.cell 1; have vzf1 := vz.free 1; have vzc2 := vz.cell 2; have vzf2 := vz.free 2; have vzc3 := vz.cell 3; have vzf3 := vz.free 3; have vzl := vz.lt; simp at vzc0 vzc1 vzc2 vzc3))
  refine at_world (S := fun U => Blk U w.heap.size #[.int .i64 x0, .int .i64 x1] 29 ∧ Blk U (w.heap.size + 1) #[.int .i64 0, .int .i64 0, .int .i64 0, .int .i64 0] 35 ∧ Kept w U) ⟨by exact blkd, by exact blkd, by exact kpt⟩ ?_
  clear hb1 hb2 ux uxc0 uxf0 uxc1 uxf1 uxl uz uzc0 uzf0 uzc1 uzf1 uzc2 uzf2 uzc3 uzf3 uzl vx vxc0 vxf0 vxc1 vxf1 vxl vz vzc0 vzf0 vzc1 vzf1 vzc2 vzf2 vzc3 vzf3 vzl
  rintro U ⟨bx, bz, hk⟩
  obtain ⟨b, off, had, hb, c0, _, _, _, _⟩ := Lev.row (hr.later hk (Nat.le_refl _)) 0 (by omega)
  obtain ⟨b', off', ha', hb', e0, _, _, _, _⟩ := Lev.row (hr.later hk (Nat.le_refl _)) (l.length - 1) (by omega)
  obtain ⟨rfl, rfl⟩ : b = b' ∧ off = off' := by rw [had] at ha'; simpa using ha'
  injection had with had
  subst had
  rw [← HY0.out] at c0
  rw [← HY1.out] at e0
  simp at c0
  have z0 : ∀ w', Kept U w' → w'.cell? ⟨b, off, none⟩ = some (.int .i64 y0) := fun w' h => by rw [(bcell h).1 b _ hb]; exact c0
  have z1 : ∀ w', Kept U w' → w'.cell? ⟨b, off + (l.length - 1) * 5, none⟩ = some (.int .i64 y1) := fun w' h => by rw [(bcell h).1 b _ hb]; exact e0
  clear c0 e0 ha' hb'
  have bxk0 : ∀ w', Kept U w' → w'.cell? ⟨w.heap.size, 0, none⟩ = _ := fun w' h => (bx.keep h).cell 0
  have bxk1 : ∀ w', Kept U w' → w'.cell? ⟨w.heap.size, 1, none⟩ = _ := fun w' h => (bx.keep h).cell 1
  simp at bxk0 bxk1
  have bxl_ := bx.lt
  have bzl_ := bz.lt
  go_cut [39] (fun s39 wx => s39 = .bool true ∧ Blk wx w.heap.size #[.int .i64 x0, .int .i64 x1] 29 ∧ Blk wx (w.heap.size + 1) #[.int .i64 0, .int .i64 0, .int .i64 0, .int .i64 0] 35 ∧ Kept w wx)
  case first => as_aux_lemma =>
    go_region_held3 (fun w' => Kept U w') (exact kpta) (first | (go_at_call 19; (with_reducible refine (KF.out _ _ (by first | exact Blk.new.drew | exact Blk.new | exact blkx)).mono ?_); rintro e w3 ⟨rfl, hb3⟩) | fail)
    all_goals (go_wp2_with fail; go_meet)
    all_goals exact ⟨rfl, by exact blkx, by exact blkx, by exact kpta⟩
  obtain ⟨rfl, bx, bz, hk⟩ := hcut
  clear z0 z1 bxk0 bxk1 bxl_ bzl_
  have bzc0 := bz.cell 0
  have bzf0 := bz.free 0
  have bzc1 := bz.cell 1
  have bzf1 := bz.free 1
  have bzc2 := bz.cell 2
  have bzf2 := bz.free 2
  have bzc3 := bz.cell 3
  have bzf3 := bz.free 3
  have bzl := bz.lt
  simp at bzc0 bzc1 bzc2 bzc3
  go_wp2
  refine at_worldQ (S := fun Z => Blk Z (w.heap.size + 1) #[.int .i64 0, .int .i64 0, .int .i64 0, .int .i64 0] 35 ∧ Kept w Z) ⟨by exact blkd, by exact kpta⟩ ?_
  rintro Z ⟨yz, hkz⟩
  have yz0 := yz.cell 0
  have yz1 := yz.cell 1
  have yz2 := yz.cell 2
  have yz3 := yz.cell 3
  simp at yz0 yz1 yz2 yz3
  exact bodyPost_ret (v := .tuple #[.agg #[.int .i64 0, .int .i64 0, .int .i64 0, .int .i64 0], .int .i64 2]) (by simp [results, Try.results7, go_sem, yz0, yz1, yz2, yz3]) rfl ⟨rfl, hkz⟩

theorem f_At_unfit (ad : Addr) (cap : Nat) (l : List Lev) (x0 x1 : Int) (w : World) (hs : Snd l) (hr : Row Lev.cells 5 w.heap.size w (some ad) l) (hcp : l.length ≤ cap) (h1 : snB x0 x1 = true) (h2 : (!([x0, x1] : List Int).any (offB (lAt l 0).ht (lAt l (l.length - 1)).ht)) = true) (hz : (sweep l).any unfitB = true) : Calls Try.prog 7 #[.slice (some ad) l.length cap, .agg #[.int .i64 x0, .int .i64 x1]] w fun e w' => e = .returned (.tuple #[.agg #[.int .i64 0, .int .i64 0, .int .i64 0, .int .i64 0], .int .i64 21]) ∧ Kept w w' := by
  have HZ := Lib.hid hz
  clear hz
  have n2 := hs.n2
  have n16 := hs.n16
  have HS := Lib.hid hs
  have HSN := Lib.hid (show (if snB x0 x1 then (0 : Int) else 10) = 0 by rw [h1]; rfl)
  obtain ⟨y0, hy0⟩ : ∃ n, n = (lAt l 0).ht := ⟨_, rfl⟩
  obtain ⟨y1, hy1⟩ : ∃ n, n = (lAt l (l.length - 1)).ht := ⟨_, rfl⟩
  rw [← hy0, ← hy1] at h2
  have HY0 := Lib.hid hy0
  have HY1 := Lib.hid hy1
  have H2 := Lib.hid h2
  have KF := Lib.hid (show ∀ W n, Blk W n #[.int .i64 x0, .int .i64 x1] 3 → Calls Try.prog 19 #[.int .i64 y0, .int .i64 y1, .slice (some ⟨n, 0, none⟩) 2 2] W fun e w' => e = .returned (.bool true) ∧ Kept W w' from fun W n hW => by
    have k := f_from y0 y1 (some ⟨n, 0, none⟩) 2 [x0, x1] W (Row.block (fun _ => rfl) hW rfl) (by simp)
    have e : (!([x0, x1] : List Int).any (offB y0 y1)) = true := h2
    rw [e] at k
    exact k)
  have wl := i64_w (n := (l.length : Int) - 1) (by omega)
  have l0 : (0 : Int) ≤ (l.length : Int) - 1 := by omega
  have l1 : (l.length : Int) - 1 < (l.length : Int) := by omega
  have l2 : (0 : Int) < (l.length : Int) := by omega
  have l2' : 0 < l.length := by omega
  have l0' : (1 : Int) ≤ (l.length : Int) := by omega
  have l0'' : 1 ≤ l.length := by omega
  have lt_ : ((l.length : Int) - 1).toNat = l.length - 1 := by omega
  clear hs h1 h2 hy0 hy1
  go_enter Try.func7, Try.ntmps7
  go_upto_region 7 with (first | (go_at_call 17; (with_reducible refine (f_airCheck _ cap l _ HS.out (hr.later (by exact kpt) (Nat.le_refl _)) hcp).mono ?_); rintro e w1 ⟨rfl, hb1⟩; refine Blk.thru (b := w.heap.size) (arr := ?_) (t := ?_) ?_ hb1 ?_; rotate_left 2; (focus (exact blk)); intro ux; have uxc0 := ux.cell 0; have uxf0 := ux.free 0; have uxc1 := ux.cell 1; have uxf1 := ux.free 1; have uxl := ux.lt; simp at uxc0 uxc1; refine Blk.thru (b := (w.heap.size + 1)) (arr := ?_) (t := ?_) ?_ hb1 ?_; rotate_left 2; (focus (exact blk)); intro uz; have uzc0 := uz.cell 0; have uzf0 := uz.free 0; have uzc1 := uz.cell 1; have uzf1 := uz.free 1; have uzc2 := uz.cell 2; have uzf2 := uz.free 2; have uzc3 := uz.cell 3; have uzf3 := uz.free 3; have uzl := uz.lt; simp at uzc0 uzc1 uzc2 uzc3) | (go_at_call 18; (with_reducible refine (f_snCheck x0 x1 _).mono ?_); rw [HSN.out]; rintro e w2 ⟨rfl, hb2⟩; refine Blk.thru (b := w.heap.size) (arr := ?_) (t := ?_) ?_ hb2 ?_; rotate_left 2; (focus (exact blk)); intro vx; have vxc0 := vx.cell 0; have vxf0 := vx.free 0; have vxc1 := vx.cell 1; have vxf1 := vx.free 1; have vxl := vx.lt; simp at vxc0 vxc1; refine Blk.thru (b := (w.heap.size + 1)) (arr := ?_) (t := ?_) ?_ hb2 ?_; rotate_left 2; (focus (exact blk)); intro vz; have vzc0 := vz.cell 0; have vzf0 := vz.free 0; have vzc1 := vz.cell 1; have vzf1 := vz.free 1; have vzc2 := vz.cell 2; have vzf2 := vz.free 2; have vzc3 := vz.cell 3; have vzf3 := vz.free 3; have vzl := vz.lt; simp at vzc0 vzc1 vzc2 vzc3))
  refine at_world (S := fun U => Blk U w.heap.size #[.int .i64 x0, .int .i64 x1] 29 ∧ Blk U (w.heap.size + 1) #[.int .i64 0, .int .i64 0, .int .i64 0, .int .i64 0] 35 ∧ Kept w U) ⟨by exact blkd, by exact blkd, by exact kpt⟩ ?_
  clear hb1 hb2 ux uxc0 uxf0 uxc1 uxf1 uxl uz uzc0 uzf0 uzc1 uzf1 uzc2 uzf2 uzc3 uzf3 uzl vx vxc0 vxf0 vxc1 vxf1 vxl vz vzc0 vzf0 vzc1 vzf1 vzc2 vzf2 vzc3 vzf3 vzl
  rintro U ⟨bx, bz, hk⟩
  obtain ⟨b, off, had, hb, c0, _, _, _, _⟩ := Lev.row (hr.later hk (Nat.le_refl _)) 0 (by omega)
  obtain ⟨b', off', ha', hb', e0, _, _, _, _⟩ := Lev.row (hr.later hk (Nat.le_refl _)) (l.length - 1) (by omega)
  obtain ⟨rfl, rfl⟩ : b = b' ∧ off = off' := by rw [had] at ha'; simpa using ha'
  injection had with had
  subst had
  rw [← HY0.out] at c0
  rw [← HY1.out] at e0
  simp at c0
  have z0 : ∀ w', Kept U w' → w'.cell? ⟨b, off, none⟩ = some (.int .i64 y0) := fun w' h => by rw [(bcell h).1 b _ hb]; exact c0
  have z1 : ∀ w', Kept U w' → w'.cell? ⟨b, off + (l.length - 1) * 5, none⟩ = some (.int .i64 y1) := fun w' h => by rw [(bcell h).1 b _ hb]; exact e0
  clear c0 e0 ha' hb'
  have bxk0 : ∀ w', Kept U w' → w'.cell? ⟨w.heap.size, 0, none⟩ = _ := fun w' h => (bx.keep h).cell 0
  have bxk1 : ∀ w', Kept U w' → w'.cell? ⟨w.heap.size, 1, none⟩ = _ := fun w' h => (bx.keep h).cell 1
  simp at bxk0 bxk1
  have bxl_ := bx.lt
  have bzl_ := bz.lt
  go_cut [39] (fun s39 wx => s39 = .bool false ∧ Blk wx w.heap.size #[.int .i64 x0, .int .i64 x1] 29 ∧ Blk wx (w.heap.size + 1) #[.int .i64 0, .int .i64 0, .int .i64 0, .int .i64 0] 35 ∧ Kept w wx)
  case first => as_aux_lemma =>
    go_region_held3 (fun w' => Kept U w') (exact kpta) (first | (go_at_call 19; (with_reducible refine (KF.out _ _ (by first | exact Blk.new.drew | exact Blk.new | exact blkx)).mono ?_); rintro e w3 ⟨rfl, hb3⟩) | fail)
    all_goals (go_wp2_with fail; go_meet)
    all_goals exact ⟨rfl, by exact blkx, by exact blkx, by exact kpta⟩
  obtain ⟨rfl, bx, bz, hk⟩ := hcut
  clear z0 z1 bxk0 bxk1 bxl_ bzl_
  have bxc0 := bx.cell 0
  have bxf0 := bx.free 0
  have bxc1 := bx.cell 1
  have bxf1 := bx.free 1
  have bxl := bx.lt
  simp at bxc0 bxc1
  have bzc0 := bz.cell 0
  have bzf0 := bz.free 0
  have bzc1 := bz.cell 1
  have bzf1 := bz.free 1
  have bzc2 := bz.cell 2
  have bzf2 := bz.free 2
  have bzc3 := bz.cell 3
  have bzf3 := bz.free 3
  have bzl := bz.lt
  simp at bzc0 bzc1 bzc2 bzc3
  go_wp2_with (go_at_call 20; (with_reducible refine (f_baro_no ⟨b, off, none⟩ cap l _ HS.out (hr.later (by exact kpta) (Nat.le_refl _)) hcp HZ.out).mono ?_); rintro e w4 ⟨rfl, hb4⟩; refine Blk.thru (b := w.heap.size) (arr := ?_) (t := ?_) ?_ hb4 ?_; rotate_left 2; (focus (exact blk)); intro sx; have sxc0 := sx.cell 0; have sxf0 := sx.free 0; have sxc1 := sx.cell 1; have sxf1 := sx.free 1; have sxl := sx.lt; simp at sxc0 sxc1; refine Blk.thru (b := (w.heap.size + 1)) (arr := ?_) (t := ?_) ?_ hb4 ?_; rotate_left 2; (focus (exact blk)); intro sz; have szc0 := sz.cell 0; have szf0 := sz.free 0; have szc1 := sz.cell 1; have szf1 := sz.free 1; have szc2 := sz.cell 2; have szf2 := sz.free 2; have szc3 := sz.cell 3; have szf3 := sz.free 3; have szl := sz.lt; simp at szc0 szc1 szc2 szc3)
  refine at_worldQ (S := fun Z => Blk Z (w.heap.size + 1) #[.int .i64 0, .int .i64 0, .int .i64 0, .int .i64 0] 35 ∧ Kept w Z) ⟨by exact blkd, by exact kpta⟩ ?_
  rintro Z ⟨yz, hkz⟩
  have yz0 := yz.cell 0
  have yz1 := yz.cell 1
  have yz2 := yz.cell 2
  have yz3 := yz.cell 3
  simp at yz0 yz1 yz2 yz3
  exact bodyPost_ret (v := .tuple #[.agg #[.int .i64 0, .int .i64 0, .int .i64 0, .int .i64 0], .int .i64 21]) (by simp [results, Try.results7, go_sem, yz0, yz1, yz2, yz3]) rfl ⟨rfl, hkz⟩

end Go.Proofs.Ytnfhcpnpjkefmaa

/-
  Layer 2: the air between two heights of a settled sounding.
-/
namespace Go.Proofs.Ytnfhcpnpjkefmaa
open Go.RowKit Bal Bal.Trim Bal.Wx
set_option linter.unusedVariables false
set_option linter.unusedSimpArgs false
set_option maxHeartbeats 8000000
set_option maxRecDepth 100000

attribute [local go_sem] fieldS0 fieldS1
theorem Blk.ne {w : World} {a b : Nat} {x y : Array Value} {t u : TypeId} (h : Blk w a x t) (k : Blk w b y u) (htu : t ≠ u) : a ≠ b := by
  rintro rfl
  unfold Blk at h k
  rw [h] at k
  simp only [Option.some.injEq, Obj.cells.injEq] at k
  exact htu k.2.1
theorem f_At_ok (ad : Addr) (cap : Nat) (l : List Lev) (x0 x1 : Int) (w : World) (hs : Snd l) (hr : Row Lev.cells 5 w.heap.size w (some ad) l) (hcp : l.length ≤ cap) (A B : Int) (htb : Tab (l.map knOf) A B) (hA : -1000000 ≤ A) (hB : B ≤ 1000000) (h1 : snB x0 x1 = true) (h2 : (!([x0, x1] : List Int).any (offB (lAt l 0).ht (lAt l (l.length - 1)).ht)) = true) (hz : (sweep l).any unfitB = false) : Calls Try.prog 7 #[.slice (some ad) l.length cap, .agg #[.int .i64 x0, .int .i64 x1]] w fun e w' => (∃ p0 p1 t0 t1, e = .returned (.tuple #[.agg #[.int .i64 p0, .int .i64 p1, .int .i64 t0, .int .i64 t1], .int .i64 0]) ∧ (∀ i, i < l.length → (lAt l i).ht = x1 → p0 = (lAt (sweep l) i).plo) ∧ (∀ i, i < l.length → (lAt l i).ht = x0 → p1 = (lAt (sweep l) i).phi) ∧ (A ≤ t0 ∧ t0 ≤ B) ∧ A ≤ t1 ∧ t1 ≤ B) ∧ Kept w w' := by
  have HZ := Lib.hid hz
  have HTB := Lib.hid htb
  have h3 : (x0 ≤ x1) := by simp [snB] at h1; omega
  have h4 : ((lAt l 0).ht ≤ x0 ∧ x0 ≤ (lAt l (l.length - 1)).ht) ∧ (lAt l 0).ht ≤ x1 ∧ x1 ≤ (lAt l (l.length - 1)).ht := by
    simp [offB] at h2; omega
  have Hx0 := Lib.hid h4.1
  have Hx1 := Lib.hid h4.2
  have HMM := Lib.hid (show (lAt l 0).ht ≤ min x0 x1 ∧ max x0 x1 ≤ (lAt l (l.length - 1)).ht by omega)
  clear hz htb h3 h4
  have n2 := hs.n2
  have n16 := hs.n16
  have HS := Lib.hid hs
  have HSN := Lib.hid (show (if snB x0 x1 then (0 : Int) else 10) = 0 by rw [h1]; rfl)
  obtain ⟨y0, hy0⟩ : ∃ n, n = (lAt l 0).ht := ⟨_, rfl⟩
  obtain ⟨y1, hy1⟩ : ∃ n, n = (lAt l (l.length - 1)).ht := ⟨_, rfl⟩
  rw [← hy0, ← hy1] at h2
  have HY0 := Lib.hid hy0
  have HY1 := Lib.hid hy1
  have H2 := Lib.hid h2
  have KF := Lib.hid (show ∀ W n, Blk W n #[.int .i64 x0, .int .i64 x1] 3 → Calls Try.prog 19 #[.int .i64 y0, .int .i64 y1, .slice (some ⟨n, 0, none⟩) 2 2] W fun e w' => e = .returned (.bool true) ∧ Kept W w' from fun W n hW => by
    have k := f_from y0 y1 (some ⟨n, 0, none⟩) 2 [x0, x1] W (Row.block (fun _ => rfl) hW rfl) (by simp)
    have e : (!([x0, x1] : List Int).any (offB y0 y1)) = true := h2
    rw [e] at k
    exact k)
  have wl := i64_w (n := (l.length : Int) - 1) (by omega)
  have l0 : (0 : Int) ≤ (l.length : Int) - 1 := by omega
  have l1 : (l.length : Int) - 1 < (l.length : Int) := by omega
  have l2 : (0 : Int) < (l.length : Int) := by omega
  have l2' : 0 < l.length := by omega
  have l0' : (1 : Int) ≤ (l.length : Int) := by omega
  have l0'' : 1 ≤ l.length := by omega
  have lt_ : ((l.length : Int) - 1).toNat = l.length - 1 := by omega
  clear hs h1 h2 hy0 hy1
  go_enter Try.func7, Try.ntmps7
  go_upto_region 7 with (first | (go_at_call 17; (with_reducible refine (f_airCheck _ cap l _ HS.out (hr.later (by exact kpt) (Nat.le_refl _)) hcp).mono ?_); rintro e w1 ⟨rfl, hb1⟩; refine Blk.thru (b := w.heap.size) (arr := ?_) (t := ?_) ?_ hb1 ?_; rotate_left 2; (focus (exact blk)); intro ux; have uxc0 := ux.cell 0; have uxf0 := ux.free 0; have uxc1 := ux.cell 1; have uxf1 := ux.free 1; have uxl := ux.lt; simp at uxc0 uxc1; refine Blk.thru (b := (w.heap.size + 1)) (arr := ?_) (t := ?_) ?_ hb1 ?_; rotate_left 2; (focus (exact blk)); intro uz; have uzc0 := uz.cell 0; have uzf0 := uz.free 0; have uzc1 := uz.cell 1; have uzf1 := uz.free 1; have uzc2 := uz.cell 2; have uzf2 := uz.free 2; have uzc3 := uz.cell 3; have uzf3 := uz.free 3; have uzl := uz.lt; simp at uzc0 uzc1 uzc2 uzc3) | (go_at_call 18; (with_reducible refine (f_snCheck x0 x1 _).mono ?_); rw [HSN.out]; rintro e w2 ⟨rfl, hb2⟩; refine Blk.thru (b := w.heap.size) (arr := ?_) (t := ?_) ?_ hb2 ?_; rotate_left 2; (focus (exact blk)); intro vx; have vxc0 := vx.cell 0; have vxf0 := vx.free 0; have vxc1 := vx.cell 1; have vxf1 := vx.free 1; have vxl := vx.lt; simp at vxc0 vxc1; refine Blk.thru (b := (w.heap.size + 1)) (arr := ?_) (t := ?_) ?_ hb2 ?_; rotate_left 2; (focus (exact blk)); intro vz; have vzc0 := vz.cell 0; have vzf0 := vz.free 0; have vzc1 := vz.cell 1; have vzf1 := vz.free 1; have vzc2 := vz.cell 2; have vzf2 := vz.free 2; have vzc3 := vz.cell 3; have vzf3 := vz.free 3; have vzl := vz.lt; simp at vzc0 vzc1 vzc2 vzc3))
  refine at_world (S := fun U => Blk U w.heap.size #[.int .i64 x0, .int .i64 x1] 29 ∧ Blk U (w.heap.size + 1) #[.int .i64 0, .int .i64 0, .int .i64 0, .int .i64 0] 35 ∧ Kept w U) ⟨by exact blkd, by exact blkd, by exact kpt⟩ ?_
  clear hb1 hb2 ux uxc0 uxf0 uxc1 uxf1 uxl uz uzc0 uzf0 uzc1 uzf1 uzc2 uzf2 uzc3 uzf3 uzl vx vxc0 vxf0 vxc1 vxf1 vxl vz vzc0 vzf0 vzc1 vzf1 vzc2 vzf2 vzc3 vzf3 vzl
  rintro U ⟨bx, bz, hk⟩
  obtain ⟨b, off, had, hb, c0, _, _, _, _⟩ := Lev.row (hr.later hk (Nat.le_refl _)) 0 (by omega)
  obtain ⟨b', off', ha', hb', e0, _, _, _, _⟩ := Lev.row (hr.later hk (Nat.le_refl _)) (l.length - 1) (by omega)
  obtain ⟨rfl, rfl⟩ : b = b' ∧ off = off' := by rw [had] at ha'; simpa using ha'
  injection had with had
  subst had
  rw [← HY0.out] at c0
  rw [← HY1.out] at e0
  simp at c0
  have z0 : ∀ w', Kept U w' → w'.cell? ⟨b, off, none⟩ = some (.int .i64 y0) := fun w' h => by rw [(bcell h).1 b _ hb]; exact c0
  have z1 : ∀ w', Kept U w' → w'.cell? ⟨b, off + (l.length - 1) * 5, none⟩ = some (.int .i64 y1) := fun w' h => by rw [(bcell h).1 b _ hb]; exact e0
  clear c0 e0 ha' hb'
  have bxk0 : ∀ w', Kept U w' → w'.cell? ⟨w.heap.size, 0, none⟩ = _ := fun w' h => (bx.keep h).cell 0
  have bxk1 : ∀ w', Kept U w' → w'.cell? ⟨w.heap.size, 1, none⟩ = _ := fun w' h => (bx.keep h).cell 1
  simp at bxk0 bxk1
  have bxl_ := bx.lt
  have bzl_ := bz.lt
  go_cut [39] (fun s39 wx => s39 = .bool false ∧ Blk wx w.heap.size #[.int .i64 x0, .int .i64 x1] 29 ∧ Blk wx (w.heap.size + 1) #[.int .i64 0, .int .i64 0, .int .i64 0, .int .i64 0] 35 ∧ Kept w wx)
  case first => as_aux_lemma =>
    go_region_held3 (fun w' => Kept U w') (exact kpta) (first | (go_at_call 19; (with_reducible refine (KF.out _ _ (by first | exact Blk.new.drew | exact Blk.new | exact blkx)).mono ?_); rintro e w3 ⟨rfl, hb3⟩) | fail)
    all_goals (go_wp2_with fail; go_meet)
    all_goals exact ⟨rfl, by exact blkx, by exact blkx, by exact kpta⟩
  obtain ⟨rfl, bx, bz, hk⟩ := hcut
  clear z0 z1 bxk0 bxk1 bxl_ bzl_
  have bxc0 := bx.cell 0
  have bxf0 := bx.free 0
  have bxc1 := bx.cell 1
  have bxf1 := bx.free 1
  have bxl := bx.lt
  simp at bxc0 bxc1
  have bzc0 := bz.cell 0
  have bzf0 := bz.free 0
  have bzc1 := bz.cell 1
  have bzf1 := bz.free 1
  have bzc2 := bz.cell 2
  have bzf2 := bz.free 2
  have bzc3 := bz.cell 3
  have bzf3 := bz.free 3
  have bzl := bz.lt
  simp at bzc0 bzc1 bzc2 bzc3
  go_upto_region 12 with (go_at_call 20; (with_reducible refine (f_baro_ok ⟨b, off, none⟩ cap l _ HS.out (hr.later (by exact kpta) (Nat.le_refl _)) hcp HZ.out).mono ?_); rintro e w4 ⟨⟨ns, nq, nt, gt, ct, g, cp, rfl, hbs, hbq, hbt, hrt, hct, hg, hcg, hgt⟩, hb4⟩; refine Blk.thru (b := w.heap.size) (arr := ?_) (t := ?_) ?_ hb4 ?_; rotate_left 2; (focus (exact blk)); intro sx; have sxc0 := sx.cell 0; have sxf0 := sx.free 0; have sxc1 := sx.cell 1; have sxf1 := sx.free 1; have sxl := sx.lt; simp at sxc0 sxc1; refine Blk.thru (b := (w.heap.size + 1)) (arr := ?_) (t := ?_) ?_ hb4 ?_; rotate_left 2; (focus (exact blk)); intro sz; have szc0 := sz.cell 0; have szf0 := sz.free 0; have szc1 := sz.cell 1; have szf1 := sz.free 1; have szc2 := sz.cell 2; have szf2 := sz.free 2; have szc3 := sz.cell 3; have szf3 := sz.free 3; have szl := sz.lt; simp at szc0 szc1 szc2 szc3)
  have hgt' : gt ≠ w.heap.size + 1 := by have := bzl; omega
  refine at_world (S := fun V => Blk V w.heap.size #[.int .i64 x0, .int .i64 x1] 29 ∧ Blk V (w.heap.size + 1) #[.int .i64 0, .int .i64 0, .int .i64 0, .int .i64 0] 35 ∧ Blk V ns #[.slice (some ⟨g, 0, none⟩) l.length cp] 27 ∧ Blk V nq #[.func (.func 60) #[] #[.pointer (some ⟨nt, 0, none⟩)]] 76 ∧ Blk V nt #[.slice (some ⟨gt, 0, none⟩) l.length ct] 120 ∧ Row Kn.cells 3 V.heap.size V (some ⟨gt, 0, none⟩) (l.map knOf) ∧ l.length ≤ ct ∧ LevB 72 V g (sweep l) ∧ l.length ≤ cp ∧ Kept w V) ⟨sx, sz, hbs, hbq, hbt, hrt, hct, hg, hcg, by exact kpta⟩ ?_
  clear hgt hct hcg hg hrt hbt hbq hbs hb4 bx bxc0 bxf0 bxc1 bxf1 bxl bz bzc0 bzf0 bzc1 bzf1 bzc2 bzf2 bzc3 bzf3 bzl sx sxc0 sxf0 sxc1 sxf1 sxl sz szc0 szf0 szc1 szf1 szc2 szf2 szc3 szf3 szl
  rintro V ⟨vx, vz, hbs, hbq, hbt, hrt, hct, hg, hcg, hkV⟩
  have ns_ : ns ≠ w.heap.size + 1 := Blk.ne hbs vz (by decide)
  have nq_ : nq ≠ w.heap.size + 1 := Blk.ne hbq vz (by decide)
  have nt_ : nt ≠ w.heap.size + 1 := Blk.ne hbt vz (by decide)
  have g_ : g ≠ w.heap.size + 1 := by obtain ⟨cur, hc, _⟩ := hg; exact Blk.ne hc vz (by decide)
  have x_ : w.heap.size ≠ w.heap.size + 1 := by omega
  have hnV : w.heap.size + 1 ≤ V.heap.size := Nat.le_of_lt vz.lt
  have KTL := Lib.hid (show ∀ x, (lAt l 0).ht ≤ x → x ≤ (lAt l (l.length - 1)).ht → ∀ W, But (w.heap.size + 1) V W → Calls Try.prog 56 #[.int .i64 x, .pointer (some ⟨ns, 0, none⟩), .pointer (some ⟨nq, 0, none⟩)] W fun e w' => (∃ p1 p2, e = .returned (.agg #[.int .i64 p1, .int .i64 p2]) ∧ ∀ i, i < l.length → (lAt l i).ht = x → p1 = (lAt (sweep l) i).plo ∧ p2 = (lAt (sweep l) i).phi) ∧ Kept W w' from fun x h0 h1 W hW => f_tell ns nq nt gt ct g cp l (sweep l) x W HS.out (sweep_fix HS.out).2 (hW.blk hbs ns_) (hW.blk hbq nq_) (hW.blk hbt nt_) (hW.row hrt hgt') hct (hg.of_block (hW.block g hg.lt g_)) hcg h0 h1)
  clear hbs hbq hbt hrt hct hcg ns_ nq_ nt_ g_ hgt' hg
  have vxk0 : ∀ w', But (w.heap.size + 1) V w' → w'.cell? ⟨w.heap.size, 0, none⟩ = _ := fun w' h => (h.blk vx (by omega)).cell 0
  have vxk1 : ∀ w', But (w.heap.size + 1) V w' → w'.cell? ⟨w.heap.size, 1, none⟩ = _ := fun w' h => (h.blk vx (by omega)).cell 1
  simp at vxk0 vxk1
  have vxl_ := vx.lt
  have vzl_ := vz.lt
  go_region_held3 (fun w' => But (w.heap.size + 1) V w') (exact butq) (first | (go_at_call 56; (with_reducible refine (KTL.out x1 Hx1.out.1 Hx1.out.2 _ (by exact butq)).mono ?_); rintro e w5 ⟨⟨p1, p2, rfl, hp⟩, hbw5⟩; have hBw5 : But (w.heap.size + 1) V w5 := But.drop (by exact butq) hnV hbw5) | (go_at_call 56; (with_reducible refine (KTL.out x0 Hx0.out.1 Hx0.out.2 _ (by exact butq)).mono ?_); rintro e w6 ⟨⟨q1, q2, rfl, hq⟩, hbw6⟩; have hBw6 : But (w.heap.size + 1) V w6 := But.drop (by exact butq) hnV hbw6) | (go_at_call 21; (with_reducible refine (f_thermo _ cap l _ HS.out (hr.later (But.under hkV (by exact butq) (Nat.le_succ _)) (Nat.le_refl _)) hcp).mono ?_); rintro e w7 ⟨⟨nt2, gt2, ct2, rfl, hnt2, hgt2, hbt2, hrt2, hct2⟩, hb7⟩; have hB7 : But (w.heap.size + 1) V w7 := But.drop (by exact butq) hnV hb7) | (go_at_call 60; (with_reducible refine (f_temp nt2 gt2 ct2 l A B x0 x1 _ HTB.out hA hB (by exact hbt2) (by exact hrt2) hct2 HMM.out.1 HMM.out.2).mono ?_); rintro e w8 ⟨⟨t0, t1, hv, rfl⟩, hb8⟩; have hB8 : But (w.heap.size + 1) V w8 := But.drop (by exact butq) hnV hb8; have vz8 := vz.keep (show Kept V w8 by exact kpta); have vz8c0 := vz8.cell 0; have vz8f0 := vz8.free 0; have vz8c1 := vz8.cell 1; have vz8f1 := vz8.free 1; have vz8c2 := vz8.cell 2; have vz8f2 := vz8.free 2; have vz8c3 := vz8.cell 3; have vz8f3 := vz8.free 3; have vz8l := vz8.lt; simp at vz8c0 vz8c1 vz8c2 vz8c3) | fail)
  go_wp2
  refine at_worldQ (S := fun Z => Blk Z (w.heap.size + 1) #[.int .i64 p1, .int .i64 q2, .int .i64 t0, .int .i64 t1] 35 ∧ Kept w Z) ⟨by exact blkd, But.under hkV (by exact butq) (Nat.le_succ _)⟩ ?_
  rintro Z ⟨yz, hkz⟩
  have yz0 := yz.cell 0
  have yz1 := yz.cell 1
  have yz2 := yz.cell 2
  have yz3 := yz.cell 3
  simp at yz0 yz1 yz2 yz3
  exact bodyPost_ret (v := .tuple #[.agg #[.int .i64 p1, .int .i64 q2, .int .i64 t0, .int .i64 t1], .int .i64 0]) (by simp [results, Try.results7, go_sem, yz0, yz1, yz2, yz3]) rfl ⟨⟨p1, q2, t0, t1, rfl, fun i hi he => (hp i hi he).1, fun i hi he => (hq i hi he).2, ⟨hv.lo0, hv.lo1⟩, hv.hi0, hv.hi1⟩, hkz⟩

end Go.Proofs.Ytnfhcpnpjkefmaa

/-
  Layer 2: the reference tells a valid sounding; At in one contract.
-/
namespace Go.Proofs.Ytnfhcpnpjkefmaa
open Go.RowKit Bal Bal.Trim Bal.Wx
set_option linter.unusedVariables false
set_option linter.unusedSimpArgs false
set_option maxHeartbeats 4000000
set_option maxRecDepth 100000

def spB (x y lo hi : Int) : Bool := decide (x ≤ y) && decide (lo ≤ x) && decide (y ≤ hi)
theorem spB_iff {x y lo hi : Int} : spB x y lo hi = true ↔ x ≤ y ∧ lo ≤ x ∧ y ≤ hi := by simp [spB, and_assoc]
theorem wiB_iff {n lo hi : Int} : inB n lo hi = true ↔ lo ≤ n ∧ n ≤ hi := by simp [inB]

theorem f_wi (n lo hi : Int) (w : World) : Calls Try.prog 45 #[.int .i64 (n), .int .i64 (lo), .int .i64 (hi)] w fun e w' => e = .returned (.bool (inB n lo hi)) ∧ Kept w w' := by
  go_enter Try.func45, Try.ntmps45
  go_wp2
  all_goals (go_ret; exact ⟨ret_bool (by first | (simp_all [inB]; done) | (simp_all [inB]; omega)), by exact kpta⟩)

theorem f_sp (x y lo hi : Int) (w : World) : Calls Try.prog 46 #[.agg #[.int .i64 (x), .int .i64 (y)], .int .i64 (lo), .int .i64 (hi)] w fun e w' => e = .returned (.bool (spB x y lo hi)) ∧ Kept w w' := by
  by_cases h1 : x ≤ y <;> by_cases h2 : lo ≤ x <;> by_cases h3 : y ≤ hi
  all_goals
    go_enter Try.func46, Try.ntmps46
    go_wp2
    all_goals (go_ret; refine ⟨ret_bool ?_, by exact kpta⟩; simp_all [spB])

theorem f_Sounding (ad : Option Addr) (cap : Nat) (l : List Lev) (w : World) (hr : Row Lev.cells 5 w.heap.size w ad l) (hcp : l.length ≤ cap) : Calls Try.prog 16 #[.slice ad l.length cap] w fun e w' => (∃ v, e = .returned (.bool v) ∧ (v = true → Snd l)) ∧ Kept w w' := by
  cases hz : inB (l.length : Int) 2 16
  · have HZ := Lib.hid hz
    clear hz
    go_enter Try.func16, Try.ntmps16
    go_wp2_with (go_at_call 45; (with_reducible refine (f_wi _ _ _ _).mono ?_); rw [HZ.out]; rintro e w1 ⟨rfl, hb1⟩)
    go_ret
    exact ⟨⟨false, rfl, fun h => by cases h⟩, by exact kpta⟩
  have HL := Lib.hid (wiB_iff.1 hz)
  have hn16 : l.length ≤ 16 := by have := HL.out; omega
  have HZ := Lib.hid hz
  clear hz
  go_enter Try.func16, Try.ntmps16
  go_upto_block 0 with fail
  go_wp2_with (go_at_call 45; (with_reducible refine (f_wi _ _ _ _).mono ?_); rw [HZ.out]; rintro e w1 ⟨rfl, hb1⟩)
  go_loopw [3] (fun i wr => ∃ k : Nat, k ≤ l.length ∧ i = .int .i64 k ∧ (∀ j, j < k → inB (lAt l j).ht (-500) 9000 = true ∧ (0 < j → inB ((lAt l j).ht - (lAt l (j - 1)).ht) 1 2000 = true) ∧ spB (lAt l j).plo (lAt l j).phi 1000 12000 = true ∧ spB (lAt l j).tlo (lAt l j).thi 1500 3500 = true) ∧ Kept w wr) (fun i _ => l.length - (intOf i).toNat)
  case atStart => exact ⟨0, Nat.zero_le _, rfl, fun j hj => absurd hj (Nat.not_lt_zero _), by exact kpt⟩
  case round =>
    obtain ⟨k, hkn, rfl, ho, hk⟩ := hrel
    have HO := Lib.hid ho
    clear ho
    by_cases hlt : k < l.length
    · obtain ⟨b, off, rfl, hb, c0, c1, c2, c3, c4⟩ := Lev.row (hr.later hk (Nat.le_refl _)) k hlt
      have k0 : (0 : Int) ≤ (k : Int) := by omega
      have k1 : (k : Int) < (l.length : Int) := by omega
      have wk := i64_w (n := (k : Int) + 1) (by omega)
      go_upto_region 7 with fail
      refine at_world (S := fun V => Blk V wr.heap.size #[.int .i64 (lAt l k).ht, .int .i64 (lAt l k).plo, .int .i64 (lAt l k).phi, .int .i64 (lAt l k).tlo, .int .i64 (lAt l k).thi] 72 ∧ Kept w V) ⟨by exact blkd, by exact kpta⟩ ?_
      clear c0 c1 c2 c3 c4
      rintro V ⟨vx, hkV⟩
      have vxc0 := fun g : Later V => (vx.later g).cell 0
      have vxf0 := fun g : Later V => (vx.later g).free 0
      have vxc1 := fun g : Later V => (vx.later g).cell 1
      have vxf1 := fun g : Later V => (vx.later g).free 1
      have vxc2 := fun g : Later V => (vx.later g).cell 2
      have vxf2 := fun g : Later V => (vx.later g).free 2
      have vxc3 := fun g : Later V => (vx.later g).cell 3
      have vxf3 := fun g : Later V => (vx.later g).free 3
      have vxc4 := fun g : Later V => (vx.later g).cell 4
      have vxf4 := fun g : Later V => (vx.later g).free 4
      have vxl := fun g : Later V => (vx.later g).lt
      simp at vxc0 vxc1 vxc2 vxc3 vxc4
      cases ha : inB (lAt l k).ht (-500) 9000
      · skip
        have KA := Lib.hid (show ∀ W, Calls Try.prog 45 #[.int .i64 ((lAt l k).ht), .int .i64 (-500), .int .i64 (9000)] W fun e w' => e = .returned (.bool false) ∧ Kept W w' from fun W => by have := f_wi ((lAt l k).ht) (-500) (9000) W; rw [ha] at this; exact this)
        clear ha
        refine Later.region (by kernel_rfl) (by kernel_rfl) ?_
        repeat (first | go_big_quiet_skip | (go_big_quiet_want; go_big_quiet_op; first | go_big_quiet_on | (apply Exists.intro; refine ⟨fun g => ?_, ?_⟩; (focus (first | with_reducible exact Later.call (KA.out _))); go_big_quiet_on)))
        refine wpQuiet_nil ?_
        intro gg
        have hkg := Kept.drop hkV gg.ok
        go_wp2
        go_ret
        exact ⟨⟨false, rfl, fun h => by cases h⟩, by exact kpta⟩
      · have HA := Lib.hid ha
        have ha1 := wiB_iff.1 ha
        have KA := Lib.hid (show ∀ W, Calls Try.prog 45 #[.int .i64 ((lAt l k).ht), .int .i64 (-500), .int .i64 (9000)] W fun e w' => e = .returned (.bool true) ∧ Kept W w' from fun W => by have := f_wi ((lAt l k).ht) (-500) (9000) W; rw [ha] at this; exact this)
        clear ha
        by_cases h0 : k = 0
        · have e4 : decide ((0 : Int) < (k : Int)) = false := by simp; omega
          have e4' : decide (0 < k) = false := by simp; omega
          have H0 := Lib.hid h0
          clear ha1 h0
          cases hp : spB (lAt l k).plo (lAt l k).phi 1000 12000
          · skip
            have KP := Lib.hid (show ∀ W, Calls Try.prog 46 #[.agg #[.int .i64 (lAt l k).plo, .int .i64 (lAt l k).phi], .int .i64 (1000), .int .i64 (12000)] W fun e w' => e = .returned (.bool false) ∧ Kept W w' from fun W => by have := f_sp ((lAt l k).plo) ((lAt l k).phi) (1000) (12000) W; rw [hp] at this; exact this)
            clear hp
            refine Later.region (by kernel_rfl) (by kernel_rfl) ?_
            repeat (first | go_big_quiet_skip | (go_big_quiet_want; go_big_quiet_op; first | go_big_quiet_on | (apply Exists.intro; refine ⟨fun g => ?_, ?_⟩; (focus (first | with_reducible exact Later.call (KA.out _) | with_reducible exact Later.call (KP.out _))); go_big_quiet_on)))
            refine wpQuiet_nil ?_
            intro gg
            have hkg := Kept.drop hkV gg.ok
            go_wp2
            go_ret
            exact ⟨⟨false, rfl, fun h => by cases h⟩, by exact kpta⟩
          · cases ht : spB (lAt l k).tlo (lAt l k).thi 1500 3500
            · skip
              have KP := Lib.hid (show ∀ W, Calls Try.prog 46 #[.agg #[.int .i64 (lAt l k).plo, .int .i64 (lAt l k).phi], .int .i64 (1000), .int .i64 (12000)] W fun e w' => e = .returned (.bool true) ∧ Kept W w' from fun W => by have := f_sp ((lAt l k).plo) ((lAt l k).phi) (1000) (12000) W; rw [hp] at this; exact this)
              have KT := Lib.hid (show ∀ W, Calls Try.prog 46 #[.agg #[.int .i64 (lAt l k).tlo, .int .i64 (lAt l k).thi], .int .i64 (1500), .int .i64 (3500)] W fun e w' => e = .returned (.bool false) ∧ Kept W w' from fun W => by have := f_sp ((lAt l k).tlo) ((lAt l k).thi) (1500) (3500) W; rw [ht] at this; exact this)
              clear hp ht
              refine Later.region (by kernel_rfl) (by kernel_rfl) ?_
              repeat (first | go_big_quiet_skip | (go_big_quiet_want; go_big_quiet_op; first | go_big_quiet_on | (apply Exists.intro; refine ⟨fun g => ?_, ?_⟩; (focus (first | with_reducible exact Later.call (KA.out _) | with_reducible exact Later.call (KP.out _) | with_reducible exact Later.call (KT.out _))); go_big_quiet_on)))
              refine wpQuiet_nil ?_
              intro gg
              have hkg := Kept.drop hkV gg.ok
              go_wp2
              go_ret
              exact ⟨⟨false, rfl, fun h => by cases h⟩, by exact kpta⟩
            · have HN := Lib.hid (show (∀ j, j < k + 1 → inB (lAt l j).ht (-500) 9000 = true ∧ (0 < j → inB ((lAt l j).ht - (lAt l (j - 1)).ht) 1 2000 = true) ∧ spB (lAt l j).plo (lAt l j).phi 1000 12000 = true ∧ spB (lAt l j).tlo (lAt l j).thi 1500 3500 = true) from fun j hj => by
                by_cases e : j = k
                · subst e; exact ⟨HA.out, fun h => absurd h (by have := H0.out; omega), hp, ht⟩
                · exact HO.out j (by omega))
              have KP := Lib.hid (show ∀ W, Calls Try.prog 46 #[.agg #[.int .i64 (lAt l k).plo, .int .i64 (lAt l k).phi], .int .i64 (1000), .int .i64 (12000)] W fun e w' => e = .returned (.bool true) ∧ Kept W w' from fun W => by have := f_sp ((lAt l k).plo) ((lAt l k).phi) (1000) (12000) W; rw [hp] at this; exact this)
              have KT := Lib.hid (show ∀ W, Calls Try.prog 46 #[.agg #[.int .i64 (lAt l k).tlo, .int .i64 (lAt l k).thi], .int .i64 (1500), .int .i64 (3500)] W fun e w' => e = .returned (.bool true) ∧ Kept W w' from fun W => by have := f_sp ((lAt l k).tlo) ((lAt l k).thi) (1500) (3500) W; rw [ht] at this; exact this)
              clear hp ht
              refine Later.region (by kernel_rfl) (by kernel_rfl) ?_
              repeat (first | go_big_quiet_skip | (go_big_quiet_want; go_big_quiet_op; first | go_big_quiet_on | (apply Exists.intro; refine ⟨fun g => ?_, ?_⟩; (focus (first | with_reducible exact Later.call (KA.out _) | with_reducible exact Later.call (KP.out _) | with_reducible exact Later.call (KT.out _))); go_big_quiet_on)))
              refine wpQuiet_nil ?_
              intro gg
              have hkg := Kept.drop hkV gg.ok
              go_wp2
              go_roundw
              case rel => exact ⟨k + 1, by omega, by go_num, HN.out, by exact kpta⟩
              case measure => simp [intOf]; omega
        · have ho1 := wiB_iff.1 (HO.out (k - 1) (by omega)).1
          obtain ⟨b', off', ha', hb', e0, _, _, _, _⟩ := Lev.row (hr.later hkV (Nat.le_refl _)) (k - 1) (by omega)
          obtain ⟨rfl, rfl⟩ : b = b' ∧ off = off' := by simpa using ha'
          have z0 := fun g : Later V => g.some e0
          have e4 : decide ((0 : Int) < (k : Int)) = true := by first | (simp; done) | (simp; omega)
          have e4' : decide (0 < k) = true := by first | (simp; done) | (simp; omega)
          have wj := i64_w (n := (k : Int) - 1) (by omega)
          have wh := i64_w (n := (lAt l k).ht - (lAt l (k - 1)).ht) (by omega)
          have j0 : (0 : Int) ≤ (k : Int) - 1 := by omega
          have j1 : (k : Int) - 1 < (l.length : Int) := by omega
          have jt : ((k : Int) - 1).toNat = k - 1 := by omega
          clear ha' ha1 ho1 hb' e0
          cases hd : inB ((lAt l k).ht - (lAt l (k - 1)).ht) 1 2000
          · skip
            have KB := Lib.hid (show ∀ W, Calls Try.prog 45 #[.int .i64 ((lAt l k).ht - (lAt l (k - 1)).ht), .int .i64 (1), .int .i64 (2000)] W fun e w' => e = .returned (.bool false) ∧ Kept W w' from fun W => by have := f_wi ((lAt l k).ht - (lAt l (k - 1)).ht) (1) (2000) W; rw [hd] at this; exact this)
            clear hd
            refine Later.region (by kernel_rfl) (by kernel_rfl) ?_
            repeat (first | go_big_quiet_skip | (go_big_quiet_want; go_big_quiet_op; first | go_big_quiet_on | (apply Exists.intro; refine ⟨fun g => ?_, ?_⟩; (focus (first | with_reducible exact Later.call (KA.out _) | with_reducible exact Later.call (KB.out _))); go_big_quiet_on)))
            refine wpQuiet_nil ?_
            intro gg
            have hkg := Kept.drop hkV gg.ok
            go_wp2
            go_ret
            exact ⟨⟨false, rfl, fun h => by cases h⟩, by exact kpta⟩
          · have HB := Lib.hid hd
            have KB := Lib.hid (show ∀ W, Calls Try.prog 45 #[.int .i64 ((lAt l k).ht - (lAt l (k - 1)).ht), .int .i64 (1), .int .i64 (2000)] W fun e w' => e = .returned (.bool true) ∧ Kept W w' from fun W => by have := f_wi ((lAt l k).ht - (lAt l (k - 1)).ht) (1) (2000) W; rw [hd] at this; exact this)
            clear hd
            cases hp : spB (lAt l k).plo (lAt l k).phi 1000 12000
            · skip
              have KP := Lib.hid (show ∀ W, Calls Try.prog 46 #[.agg #[.int .i64 (lAt l k).plo, .int .i64 (lAt l k).phi], .int .i64 (1000), .int .i64 (12000)] W fun e w' => e = .returned (.bool false) ∧ Kept W w' from fun W => by have := f_sp ((lAt l k).plo) ((lAt l k).phi) (1000) (12000) W; rw [hp] at this; exact this)
              clear hp
              refine Later.region (by kernel_rfl) (by kernel_rfl) ?_
              repeat (first | go_big_quiet_skip | (go_big_quiet_want; go_big_quiet_op; first | go_big_quiet_on | (apply Exists.intro; refine ⟨fun g => ?_, ?_⟩; (focus (first | with_reducible exact Later.call (KA.out _) | with_reducible exact Later.call (KB.out _) | with_reducible exact Later.call (KP.out _))); go_big_quiet_on)))
              refine wpQuiet_nil ?_
              intro gg
              have hkg := Kept.drop hkV gg.ok
              go_wp2
              go_ret
              exact ⟨⟨false, rfl, fun h => by cases h⟩, by exact kpta⟩
            · cases ht : spB (lAt l k).tlo (lAt l k).thi 1500 3500
              · skip
                have KP := Lib.hid (show ∀ W, Calls Try.prog 46 #[.agg #[.int .i64 (lAt l k).plo, .int .i64 (lAt l k).phi], .int .i64 (1000), .int .i64 (12000)] W fun e w' => e = .returned (.bool true) ∧ Kept W w' from fun W => by have := f_sp ((lAt l k).plo) ((lAt l k).phi) (1000) (12000) W; rw [hp] at this; exact this)
                have KT := Lib.hid (show ∀ W, Calls Try.prog 46 #[.agg #[.int .i64 (lAt l k).tlo, .int .i64 (lAt l k).thi], .int .i64 (1500), .int .i64 (3500)] W fun e w' => e = .returned (.bool false) ∧ Kept W w' from fun W => by have := f_sp ((lAt l k).tlo) ((lAt l k).thi) (1500) (3500) W; rw [ht] at this; exact this)
                clear hp ht
                refine Later.region (by kernel_rfl) (by kernel_rfl) ?_
                repeat (first | go_big_quiet_skip | (go_big_quiet_want; go_big_quiet_op; first | go_big_quiet_on | (apply Exists.intro; refine ⟨fun g => ?_, ?_⟩; (focus (first | with_reducible exact Later.call (KA.out _) | with_reducible exact Later.call (KB.out _) | with_reducible exact Later.call (KP.out _) | with_reducible exact Later.call (KT.out _))); go_big_quiet_on)))
                refine wpQuiet_nil ?_
                intro gg
                have hkg := Kept.drop hkV gg.ok
                go_wp2
                go_ret
                exact ⟨⟨false, rfl, fun h => by cases h⟩, by exact kpta⟩
              · have HN := Lib.hid (show (∀ j, j < k + 1 → inB (lAt l j).ht (-500) 9000 = true ∧ (0 < j → inB ((lAt l j).ht - (lAt l (j - 1)).ht) 1 2000 = true) ∧ spB (lAt l j).plo (lAt l j).phi 1000 12000 = true ∧ spB (lAt l j).tlo (lAt l j).thi 1500 3500 = true) from fun j hj => by
                  by_cases e : j = k
                  · subst e; exact ⟨HA.out, fun _ => HB.out, hp, ht⟩
                  · exact HO.out j (by omega))
                have KP := Lib.hid (show ∀ W, Calls Try.prog 46 #[.agg #[.int .i64 (lAt l k).plo, .int .i64 (lAt l k).phi], .int .i64 (1000), .int .i64 (12000)] W fun e w' => e = .returned (.bool true) ∧ Kept W w' from fun W => by have := f_sp ((lAt l k).plo) ((lAt l k).phi) (1000) (12000) W; rw [hp] at this; exact this)
                have KT := Lib.hid (show ∀ W, Calls Try.prog 46 #[.agg #[.int .i64 (lAt l k).tlo, .int .i64 (lAt l k).thi], .int .i64 (1500), .int .i64 (3500)] W fun e w' => e = .returned (.bool true) ∧ Kept W w' from fun W => by have := f_sp ((lAt l k).tlo) ((lAt l k).thi) (1500) (3500) W; rw [ht] at this; exact this)
                clear hp ht
                refine Later.region (by kernel_rfl) (by kernel_rfl) ?_
                repeat (first | go_big_quiet_skip | (go_big_quiet_want; go_big_quiet_op; first | go_big_quiet_on | (apply Exists.intro; refine ⟨fun g => ?_, ?_⟩; (focus (first | with_reducible exact Later.call (KA.out _) | with_reducible exact Later.call (KB.out _) | with_reducible exact Later.call (KP.out _) | with_reducible exact Later.call (KT.out _))); go_big_quiet_on)))
                refine wpQuiet_nil ?_
                intro gg
                have hkg := Kept.drop hkV gg.ok
                go_wp2
                go_roundw
                case rel => exact ⟨k + 1, by omega, by go_num, HN.out, by exact kpta⟩
                case measure => simp [intOf]; omega
    · obtain rfl : k = l.length := by omega
      go_wp2
      go_ret
      refine ⟨⟨true, rfl, fun _ => ⟨by have := HL.out; omega, hn16, fun i hi => wiB_iff.1 (HO.out i hi).1, fun i hi => ?_, fun i hi => ?_, fun i hi => ?_⟩⟩, by exact kpta⟩
      · have := wiB_iff.1 ((HO.out (i + 1) hi).2.1 (by omega))
        simpa using this
      · have := spB_iff.1 (HO.out i hi).2.2.1
        omega
      · have := spB_iff.1 (HO.out i hi).2.2.2
        omega

theorem f_RefCheck (ad : Option Addr) (cap : Nat) (l : List Lev) (w : World) (hr : Row Lev.cells 5 w.heap.size w ad l) (hcp : l.length ≤ cap) : Calls Try.prog 6 #[.slice ad l.length cap] w fun e w' => (∃ E : Int, e = .returned (.int .i64 E) ∧ (E = 0 ∨ E = 20) ∧ (E = 0 → Snd l)) ∧ Kept w w' := by
  have KS := Lib.hid (f_Sounding ad cap l)
  go_enter Try.func6, Try.ntmps6
  go_upto_region 1 with fail
  go_wp2_with (go_at_call 16; (with_reducible refine (KS.out _ (hr.later (by exact kpta) (Nat.le_refl _)) hcp).mono ?_); rintro e w1 ⟨⟨v, rfl, hv⟩, hb1⟩; have HV := Lib.hid hv; clear hv; cases v)
  · go_ret
    exact ⟨⟨20, rfl, .inr rfl, fun h => by cases h⟩, by exact kpta⟩
  · go_ret
    exact ⟨⟨0, rfl, .inl rfl, fun _ => by simpa using HV.out⟩, by exact kpta⟩

end Go.Proofs.Ytnfhcpnpjkefmaa

/-
  Layer 2: At in one contract; the sounding of the example.
-/
namespace Go.Proofs.Ytnfhcpnpjkefmaa
open Go.RowKit Bal Bal.Trim Bal.Wx
set_option linter.unusedVariables false
set_option linter.unusedSimpArgs false
set_option maxHeartbeats 4000000
set_option maxRecDepth 100000

theorem f_At (ad : Addr) (cap : Nat) (l : List Lev) (x0 x1 : Int) (w : World) (hs : Snd l) (hr : Row Lev.cells 5 w.heap.size w (some ad) l) (hcp : l.length ≤ cap) : Calls Try.prog 7 #[.slice (some ad) l.length cap, .agg #[.int .i64 x0, .int .i64 x1]] w fun e w' => (∃ p0 p1 t0 t1 E, e = .returned (.tuple #[.agg #[.int .i64 p0, .int .i64 p1, .int .i64 t0, .int .i64 t1], .int .i64 E])) ∧ Kept w w' := by
  cases h1 : snB x0 x1
  · exact (f_At_bad ad cap l x0 x1 w hs hr hcp h1).mono fun e w' h => ⟨⟨0, 0, 0, 0, 10, h.1⟩, h.2⟩
  cases h2 : (!([x0, x1] : List Int).any (offB (lAt l 0).ht (lAt l (l.length - 1)).ht))
  · exact (f_At_out ad cap l x0 x1 w hs hr hcp h1 h2).mono fun e w' h => ⟨⟨0, 0, 0, 0, 2, h.1⟩, h.2⟩
  cases hz : (sweep l).any unfitB
  · refine (f_At_ok ad cap l x0 x1 w hs hr hcp 1500 3500 hs.tab (by omega) (by omega) h1 h2 hz).mono ?_
    rintro e w' ⟨⟨p0, p1, t0, t1, h, _⟩, hk⟩
    exact ⟨⟨p0, p1, t0, t1, 0, h⟩, hk⟩
  · exact (f_At_unfit ad cap l x0 x1 w hs hr hcp h1 h2 hz).mono fun e w' h => ⟨⟨0, 0, 0, 0, 21, h.1⟩, h.2⟩

/-- the example's sounding -/
def sndL : List Lev := [⟨0, 10000, 10000, 2800, 2800⟩, ⟨1000, 8850, 8853, 2800, 2800⟩]
theorem sndL_two (P : Nat → Prop) (h0 : P 0) (h1 : P 1) : ∀ i, i < sndL.length → P i := fun i hi => by
  have : i = 0 ∨ i = 1 := by simp [sndL] at hi; omega
  rcases this with rfl | rfl
  · exact h0
  · exact h1
theorem sndL_snd : Snd sndL := by
  refine ⟨by decide, by decide, sndL_two _ (by decide) (by decide), fun i hi => ?_, sndL_two _ (by decide) (by decide), sndL_two _ (by decide) (by decide)⟩
  obtain rfl : i = 0 := by simp [sndL] at hi; omega
  decide
theorem sndL_tab : Tab (sndL.map knOf) 2800 2800 := by
  refine ⟨by decide, by decide, fun i hi => ?_, fun i hi => ?_, fun i hi => ?_⟩ <;> rw [List.length_map] at hi
  · revert i; exact sndL_two _ (by decide) (by decide)
  · obtain rfl : i = 0 := by simp [sndL] at hi; omega
    decide
  · revert i; exact sndL_two _ (by decide) (by decide)
theorem sndL_sweep : sweep sndL = sndL := by decide

theorem f_At_alive (ad : Addr) (cap : Nat) (w : World) (hr : Row Lev.cells 5 w.heap.size w (some ad) sndL) (hcp : 2 ≤ cap) : Calls Try.prog 7 #[.slice (some ad) 2 cap, .agg #[.int .i64 0, .int .i64 1000]] w fun e w' => e = .returned (.tuple #[.agg #[.int .i64 8850, .int .i64 10000, .int .i64 2800, .int .i64 2800], .int .i64 0]) ∧ Kept w w' := by
  refine (f_At_ok ad cap sndL 0 1000 w sndL_snd hr hcp 2800 2800 sndL_tab (by omega) (by omega) (by decide) (by decide) (by decide)).mono ?_
  rintro e w' ⟨⟨p0, p1, t0, t1, rfl, h0, h1, h2, h3⟩, hk⟩
  have e0 : p0 = 8850 := h0 1 (by decide) (by decide)
  have e1 : p1 = 10000 := h1 0 (by decide) (by decide)
  obtain rfl : t0 = 2800 := by omega
  obtain rfl : t1 = 2800 := by omega
  subst e0 e1
  exact ⟨rfl, hk⟩

theorem f_one (n : Int) (w : World) : Calls Try.prog 41 #[.int .i64 (n)] w fun e w' => e = .returned (.agg #[.int .i64 n, .int .i64 n]) ∧ Kept w w' := by
  go_enter Try.func41, Try.ntmps41
  go_wp2
  refine at_worldQ (S := fun Z => Blk Z w.heap.size #[.int .i64 n, .int .i64 n] 29 ∧ Kept w Z) ⟨by exact blkd, by exact kpta⟩ ?_
  rintro Z ⟨yz, hkz⟩
  have yz0 := yz.cell 0
  have yz1 := yz.cell 1
  simp at yz0 yz1
  exact bodyPost_ret (v := .agg #[.int .i64 n, .int .i64 n]) (by simp [results, Try.results41, go_sem, yz0, yz1]) rfl ⟨rfl, hkz⟩

theorem f_sounding (w : World) : Calls Try.prog 13 #[] w fun e w' => (∃ g, e = .returned (.slice (some ⟨g, 0, none⟩) 2 2) ∧ Row Lev.cells 5 w'.heap.size w' (some ⟨g, 0, none⟩) sndL) ∧ Kept w w' := by
  go_enter Try.func13, Try.ntmps13
  go_wp2_with (first | (go_at_call 41; (with_reducible refine (f_one 10000 _).mono ?_); rintro e w1 ⟨rfl, hb1⟩) | (go_at_call 41; (with_reducible refine (f_one 2800 _).mono ?_); rintro e w1 ⟨rfl, hb1⟩))
  go_ret
  exact ⟨⟨_, rfl, LevB.row ⟨_, by exact Blk.new, rfl⟩⟩, by exact kpta⟩

end Go.Proofs.Ytnfhcpnpjkefmaa
