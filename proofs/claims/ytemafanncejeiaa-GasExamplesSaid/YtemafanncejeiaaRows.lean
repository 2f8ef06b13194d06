/-
  No cell of these rows narrows 'for every input' (looked for: loops, veiled, ifaces, maps, wideKeys, modest, calm, conditions, laid).
  DERIVED. THE GIVEN ROWS OF THIS SEAT. 19 by the template 'for every input the law returns true; each argument reads behind the call as it read before'; 0 by the template 'total and deterministic' (their statements: YtemafanncejeiaaTotals.lean).
  GIVEN WITH THE SEED: the statements are not yours to turn. If you find one false, say at which input.
  Laid BY PROGRAM, IN A SANDBOX (cutbox-rows.mjs): the forced cells as the released guide's own fill.sh prints them over the translation 6ce76a653cd483a6… (all of the seat's roots in one cut). By AI agents, Wed Nov 11 2026. No macro, syntax, notation, axiom, sorry.
-/
import Derived.Test.YtemafanncejeiaaChecked
import GoSem.Claim
import GoSem.ClaimJoined
import GoSem.ClaimMapViews
import Derived.JoinedTies
import Derived.KernelRfl
namespace Go.Proofs.Ytemafanncejeiaa
/- THE CELL 'sum', in the pinned program and in every row, IS THE sha256 OF THE DUMP (.gsa) THAT YtemafanncejeiaaProg.lean LOADS. Nothing in Lean hashes anything: it is a label: what it is worth is what the hold of that sum in a sandbox is worth. -/
noncomputable def Try.pinned : Pinned := { name := "ytemafanncejeiaa", sum := "6ce76a653cd483a636a6dd9cd2a7cf6cc9e77873384256064568c0674b4c1b63", checked := Try.checked }
namespace Rows
def none {H : Type} : Left H := { results := [], args := [] }

/-- 'ballonetlaw03.GasVolumes': WHATEVER THE INPUT: true; the input reads as it did. -/
def gasVolumesSpec : ChangeSpec := { name := "gasVolumes", fn := fun _ => fun
  | [d1, d2] => { results := [.lit (.bool true)], args := [d1, d2] }
  | _ => none }
def gasVolumesRow : OpenClaim := { program := "ytemafanncejeiaa", sum := "6ce76a653cd483a636a6dd9cd2a7cf6cc9e77873384256064568c0674b4c1b63", func := "ballonet/ballonetlaw03.GasVolumes", spec := "gasVolumes", apart := false }
def GasVolumesSaid : Prop := gasVolumesRow.holds Try.pinned (OpenSpec.ofChange gasVolumesSpec)

/-- ITS FALSE NEIGHBOUR: 'it returns false'. Refute it at one input. -/
def gasVolumesWrong : ChangeSpec := { name := "gasVolumes", fn := fun _ => fun
  | [d1, d2] => { results := [.lit (.bool false)], args := [d1, d2] }
  | _ => none }
def GasVolumesWrongFalsely : Prop := gasVolumesRow.holds Try.pinned (OpenSpec.ofChange gasVolumesWrong)

/-- 'ballonetlaw03.GasLifts': WHATEVER THE INPUT: true; the input reads as it did. -/
def gasLiftsSpec : ChangeSpec := { name := "gasLifts", fn := fun _ => fun
  | [d1, d2] => { results := [.lit (.bool true)], args := [d1, d2] }
  | _ => none }
def gasLiftsRow : OpenClaim := { program := "ytemafanncejeiaa", sum := "6ce76a653cd483a636a6dd9cd2a7cf6cc9e77873384256064568c0674b4c1b63", func := "ballonet/ballonetlaw03.GasLifts", spec := "gasLifts", apart := false }
def GasLiftsSaid : Prop := gasLiftsRow.holds Try.pinned (OpenSpec.ofChange gasLiftsSpec)

/-- ITS FALSE NEIGHBOUR: 'it returns false'. Refute it at one input. -/
def gasLiftsWrong : ChangeSpec := { name := "gasLifts", fn := fun _ => fun
  | [d1, d2] => { results := [.lit (.bool false)], args := [d1, d2] }
  | _ => none }
def GasLiftsWrongFalsely : Prop := gasLiftsRow.holds Try.pinned (OpenSpec.ofChange gasLiftsWrong)

/-- 'ballonetlaw03.GasHulls': WHATEVER THE INPUT: true; the input reads as it did. -/
def gasHullsSpec : ChangeSpec := { name := "gasHulls", fn := fun _ => fun
  | [d1, d2] => { results := [.lit (.bool true)], args := [d1, d2] }
  | _ => none }
def gasHullsRow : OpenClaim := { program := "ytemafanncejeiaa", sum := "6ce76a653cd483a636a6dd9cd2a7cf6cc9e77873384256064568c0674b4c1b63", func := "ballonet/ballonetlaw03.GasHulls", spec := "gasHulls", apart := false }
def GasHullsSaid : Prop := gasHullsRow.holds Try.pinned (OpenSpec.ofChange gasHullsSpec)

/-- ITS FALSE NEIGHBOUR: 'it returns false'. Refute it at one input. -/
def gasHullsWrong : ChangeSpec := { name := "gasHulls", fn := fun _ => fun
  | [d1, d2] => { results := [.lit (.bool false)], args := [d1, d2] }
  | _ => none }
def GasHullsWrongFalsely : Prop := gasHullsRow.holds Try.pinned (OpenSpec.ofChange gasHullsWrong)

/-- 'ballonetlaw03.GasDoes': WHATEVER THE INPUT: true; the input reads as it did. -/
def gasDoesSpec : ChangeSpec := { name := "gasDoes", fn := fun _ => fun
  | [d1, d2] => { results := [.lit (.bool true)], args := [d1, d2] }
  | _ => none }
def gasDoesRow : OpenClaim := { program := "ytemafanncejeiaa", sum := "6ce76a653cd483a636a6dd9cd2a7cf6cc9e77873384256064568c0674b4c1b63", func := "ballonet/ballonetlaw03.GasDoes", spec := "gasDoes", unfollowed := true, recurses := true, apart := false }
def GasDoesSaid : Prop := gasDoesRow.holds Try.pinned (OpenSpec.ofChange gasDoesSpec)

/-- ITS FALSE NEIGHBOUR: 'it returns false'. Refute it at one input. -/
def gasDoesWrong : ChangeSpec := { name := "gasDoes", fn := fun _ => fun
  | [d1, d2] => { results := [.lit (.bool false)], args := [d1, d2] }
  | _ => none }
def GasDoesWrongFalsely : Prop := gasDoesRow.holds Try.pinned (OpenSpec.ofChange gasDoesWrong)

/-- 'ballonetlaw03.GasPlays': WHATEVER THE INPUT: true; the input reads as it did. -/
def gasPlaysSpec : ChangeSpec := { name := "gasPlays", fn := fun _ => fun
  | [d1, d2] => { results := [.lit (.bool true)], args := [d1, d2] }
  | _ => none }
def gasPlaysRow : OpenClaim := { program := "ytemafanncejeiaa", sum := "6ce76a653cd483a636a6dd9cd2a7cf6cc9e77873384256064568c0674b4c1b63", func := "ballonet/ballonetlaw03.GasPlays", spec := "gasPlays", unfollowed := true, recurses := true, apart := false }
def GasPlaysSaid : Prop := gasPlaysRow.holds Try.pinned (OpenSpec.ofChange gasPlaysSpec)

/-- ITS FALSE NEIGHBOUR: 'it returns false'. Refute it at one input. -/
def gasPlaysWrong : ChangeSpec := { name := "gasPlays", fn := fun _ => fun
  | [d1, d2] => { results := [.lit (.bool false)], args := [d1, d2] }
  | _ => none }
def GasPlaysWrongFalsely : Prop := gasPlaysRow.holds Try.pinned (OpenSpec.ofChange gasPlaysWrong)

/-- 'ballonetlaw03.GasLeaks': WHATEVER THE INPUT: true; the input reads as it did. -/
def gasLeaksSpec : ChangeSpec := { name := "gasLeaks", fn := fun _ => fun
  | [d1, d2, d3, d4] => { results := [.lit (.bool true)], args := [d1, d2, d3, d4] }
  | _ => none }
def gasLeaksRow : OpenClaim := { program := "ytemafanncejeiaa", sum := "6ce76a653cd483a636a6dd9cd2a7cf6cc9e77873384256064568c0674b4c1b63", func := "ballonet/ballonetlaw03.GasLeaks", spec := "gasLeaks", unfollowed := true, recurses := true, apart := false }
def GasLeaksSaid : Prop := gasLeaksRow.holds Try.pinned (OpenSpec.ofChange gasLeaksSpec)

/-- ITS FALSE NEIGHBOUR: 'it returns false'. Refute it at one input. -/
def gasLeaksWrong : ChangeSpec := { name := "gasLeaks", fn := fun _ => fun
  | [d1, d2, d3, d4] => { results := [.lit (.bool false)], args := [d1, d2, d3, d4] }
  | _ => none }
def GasLeaksWrongFalsely : Prop := gasLeaksRow.holds Try.pinned (OpenSpec.ofChange gasLeaksWrong)

/-- 'ballonetlaw03.GasWarmer': WHATEVER THE INPUT: true; the input reads as it did. -/
def gasWarmerSpec : ChangeSpec := { name := "gasWarmer", fn := fun _ => fun
  | [d1, d2, d3, d4] => { results := [.lit (.bool true)], args := [d1, d2, d3, d4] }
  | _ => none }
def gasWarmerRow : OpenClaim := { program := "ytemafanncejeiaa", sum := "6ce76a653cd483a636a6dd9cd2a7cf6cc9e77873384256064568c0674b4c1b63", func := "ballonet/ballonetlaw03.GasWarmer", spec := "gasWarmer", unfollowed := true, recurses := true, apart := false }
def GasWarmerSaid : Prop := gasWarmerRow.holds Try.pinned (OpenSpec.ofChange gasWarmerSpec)

/-- ITS FALSE NEIGHBOUR: 'it returns false'. Refute it at one input. -/
def gasWarmerWrong : ChangeSpec := { name := "gasWarmer", fn := fun _ => fun
  | [d1, d2, d3, d4] => { results := [.lit (.bool false)], args := [d1, d2, d3, d4] }
  | _ => none }
def GasWarmerWrongFalsely : Prop := gasWarmerRow.holds Try.pinned (OpenSpec.ofChange gasWarmerWrong)

/-- 'ballonetlaw03.GasKept': WHATEVER THE INPUT: true; the input reads as it did. -/
def gasKeptSpec : ChangeSpec := { name := "gasKept", fn := fun _ => fun
  | [d1, d2] => { results := [.lit (.bool true)], args := [d1, d2] }
  | _ => none }
def gasKeptRow : OpenClaim := { program := "ytemafanncejeiaa", sum := "6ce76a653cd483a636a6dd9cd2a7cf6cc9e77873384256064568c0674b4c1b63", func := "ballonet/ballonetlaw03.GasKept", spec := "gasKept", unfollowed := true, recurses := true, apart := false }
def GasKeptSaid : Prop := gasKeptRow.holds Try.pinned (OpenSpec.ofChange gasKeptSpec)

/-- ITS FALSE NEIGHBOUR: 'it returns false'. Refute it at one input. -/
def gasKeptWrong : ChangeSpec := { name := "gasKept", fn := fun _ => fun
  | [d1, d2] => { results := [.lit (.bool false)], args := [d1, d2] }
  | _ => none }
def GasKeptWrongFalsely : Prop := gasKeptRow.holds Try.pinned (OpenSpec.ofChange gasKeptWrong)

/-- 'ballonetlaw03.GasPure': WHATEVER THE INPUT: true; the input reads as it did. -/
def gasPureSpec : ChangeSpec := { name := "gasPure", fn := fun _ => fun
  | [d1, d2, d3] => { results := [.lit (.bool true)], args := [d1, d2, d3] }
  | _ => none }
def gasPureRow : OpenClaim := { program := "ytemafanncejeiaa", sum := "6ce76a653cd483a636a6dd9cd2a7cf6cc9e77873384256064568c0674b4c1b63", func := "ballonet/ballonetlaw03.GasPure", spec := "gasPure", unfollowed := true, recurses := true, apart := false }
def GasPureSaid : Prop := gasPureRow.holds Try.pinned (OpenSpec.ofChange gasPureSpec)

/-- ITS FALSE NEIGHBOUR: 'it returns false'. Refute it at one input. -/
def gasPureWrong : ChangeSpec := { name := "gasPure", fn := fun _ => fun
  | [d1, d2, d3] => { results := [.lit (.bool false)], args := [d1, d2, d3] }
  | _ => none }
def GasPureWrongFalsely : Prop := gasPureRow.holds Try.pinned (OpenSpec.ofChange gasPureWrong)

/-- 'ballonetlaw03.GasHeld': WHATEVER THE INPUT: true; the input reads as it did. -/
def gasHeldSpec : ChangeSpec := { name := "gasHeld", fn := fun _ => fun
  | [d1, d2, d3, d4, d5] => { results := [.lit (.bool true)], args := [d1, d2, d3, d4, d5] }
  | _ => none }
def gasHeldRow : OpenClaim := { program := "ytemafanncejeiaa", sum := "6ce76a653cd483a636a6dd9cd2a7cf6cc9e77873384256064568c0674b4c1b63", func := "ballonet/ballonetlaw03.GasHeld", spec := "gasHeld", unfollowed := true, recurses := true, apart := false }
def GasHeldSaid : Prop := gasHeldRow.holds Try.pinned (OpenSpec.ofChange gasHeldSpec)

/-- ITS FALSE NEIGHBOUR: 'it returns false'. Refute it at one input. -/
def gasHeldWrong : ChangeSpec := { name := "gasHeld", fn := fun _ => fun
  | [d1, d2, d3, d4, d5] => { results := [.lit (.bool false)], args := [d1, d2, d3, d4, d5] }
  | _ => none }
def GasHeldWrongFalsely : Prop := gasHeldRow.holds Try.pinned (OpenSpec.ofChange gasHeldWrong)

/-- 'ballonetlaw03.GasTight': WHATEVER THE INPUT: true; the input reads as it did. -/
def gasTightSpec : ChangeSpec := { name := "gasTight", fn := fun _ => fun
  | [d1, d2] => { results := [.lit (.bool true)], args := [d1, d2] }
  | _ => none }
def gasTightRow : OpenClaim := { program := "ytemafanncejeiaa", sum := "6ce76a653cd483a636a6dd9cd2a7cf6cc9e77873384256064568c0674b4c1b63", func := "ballonet/ballonetlaw03.GasTight", spec := "gasTight", unfollowed := true, recurses := true, apart := false }
def GasTightSaid : Prop := gasTightRow.holds Try.pinned (OpenSpec.ofChange gasTightSpec)

/-- ITS FALSE NEIGHBOUR: 'it returns false'. Refute it at one input. -/
def gasTightWrong : ChangeSpec := { name := "gasTight", fn := fun _ => fun
  | [d1, d2] => { results := [.lit (.bool false)], args := [d1, d2] }
  | _ => none }
def GasTightWrongFalsely : Prop := gasTightRow.holds Try.pinned (OpenSpec.ofChange gasTightWrong)

/-- 'ballonetlaw03.GasNamed': WHATEVER THE INPUT: true; the input reads as it did. -/
def gasNamedSpec : ChangeSpec := { name := "gasNamed", fn := fun _ => fun
  | [d1, d2, d3, d4, d5] => { results := [.lit (.bool true)], args := [d1, d2, d3, d4, d5] }
  | _ => none }
def gasNamedRow : OpenClaim := { program := "ytemafanncejeiaa", sum := "6ce76a653cd483a636a6dd9cd2a7cf6cc9e77873384256064568c0674b4c1b63", func := "ballonet/ballonetlaw03.GasNamed", spec := "gasNamed", unfollowed := true, recurses := true, apart := false }
def GasNamedSaid : Prop := gasNamedRow.holds Try.pinned (OpenSpec.ofChange gasNamedSpec)

/-- ITS FALSE NEIGHBOUR: 'it returns false'. Refute it at one input. -/
def gasNamedWrong : ChangeSpec := { name := "gasNamed", fn := fun _ => fun
  | [d1, d2, d3, d4, d5] => { results := [.lit (.bool false)], args := [d1, d2, d3, d4, d5] }
  | _ => none }
def GasNamedWrongFalsely : Prop := gasNamedRow.holds Try.pinned (OpenSpec.ofChange gasNamedWrong)

/-- 'ballonetlaw03.GasExact': WHATEVER THE INPUT: true; the input reads as it did. -/
def gasExactSpec : ChangeSpec := { name := "gasExact", fn := fun _ => fun
  | [d1, d2] => { results := [.lit (.bool true)], args := [d1, d2] }
  | _ => none }
def gasExactRow : OpenClaim := { program := "ytemafanncejeiaa", sum := "6ce76a653cd483a636a6dd9cd2a7cf6cc9e77873384256064568c0674b4c1b63", func := "ballonet/ballonetlaw03.GasExact", spec := "gasExact", unfollowed := true, recurses := true, apart := false }
def GasExactSaid : Prop := gasExactRow.holds Try.pinned (OpenSpec.ofChange gasExactSpec)

/-- ITS FALSE NEIGHBOUR: 'it returns false'. Refute it at one input. -/
def gasExactWrong : ChangeSpec := { name := "gasExact", fn := fun _ => fun
  | [d1, d2] => { results := [.lit (.bool false)], args := [d1, d2] }
  | _ => none }
def GasExactWrongFalsely : Prop := gasExactRow.holds Try.pinned (OpenSpec.ofChange gasExactWrong)

/-- 'ballonetlaw03.GasProved': WHATEVER THE INPUT: true; the input reads as it did. -/
def gasProvedSpec : ChangeSpec := { name := "gasProved", fn := fun _ => fun
  | [d] => { results := [.lit (.bool true)], args := [d] }
  | _ => none }
def gasProvedRow : OpenClaim := { program := "ytemafanncejeiaa", sum := "6ce76a653cd483a636a6dd9cd2a7cf6cc9e77873384256064568c0674b4c1b63", func := "ballonet/ballonetlaw03.GasProved", spec := "gasProved", unfollowed := true, recurses := true, apart := false }
def GasProvedSaid : Prop := gasProvedRow.holds Try.pinned (OpenSpec.ofChange gasProvedSpec)

/-- ITS FALSE NEIGHBOUR: 'it returns false'. Refute it at one input. -/
def gasProvedWrong : ChangeSpec := { name := "gasProved", fn := fun _ => fun
  | [d] => { results := [.lit (.bool false)], args := [d] }
  | _ => none }
def GasProvedWrongFalsely : Prop := gasProvedRow.holds Try.pinned (OpenSpec.ofChange gasProvedWrong)

/-- 'ballonetlaw03.GasBlown': WHATEVER THE INPUT: true; the input reads as it did. -/
def gasBlownSpec : ChangeSpec := { name := "gasBlown", fn := fun _ => fun
  | [d1, d2, d3, d4, d5, d6] => { results := [.lit (.bool true)], args := [d1, d2, d3, d4, d5, d6] }
  | _ => none }
def gasBlownRow : OpenClaim := { program := "ytemafanncejeiaa", sum := "6ce76a653cd483a636a6dd9cd2a7cf6cc9e77873384256064568c0674b4c1b63", func := "ballonet/ballonetlaw03.GasBlown", spec := "gasBlown", unfollowed := true, recurses := true, apart := false }
def GasBlownSaid : Prop := gasBlownRow.holds Try.pinned (OpenSpec.ofChange gasBlownSpec)

/-- ITS FALSE NEIGHBOUR: 'it returns false'. Refute it at one input. -/
def gasBlownWrong : ChangeSpec := { name := "gasBlown", fn := fun _ => fun
  | [d1, d2, d3, d4, d5, d6] => { results := [.lit (.bool false)], args := [d1, d2, d3, d4, d5, d6] }
  | _ => none }
def GasBlownWrongFalsely : Prop := gasBlownRow.holds Try.pinned (OpenSpec.ofChange gasBlownWrong)

/-- 'ballonetlaw03.GasRoof': WHATEVER THE INPUT: true; the input reads as it did. -/
def gasRoofSpec : ChangeSpec := { name := "gasRoof", fn := fun _ => fun
  | [d1, d2, d3] => { results := [.lit (.bool true)], args := [d1, d2, d3] }
  | _ => none }
def gasRoofRow : OpenClaim := { program := "ytemafanncejeiaa", sum := "6ce76a653cd483a636a6dd9cd2a7cf6cc9e77873384256064568c0674b4c1b63", func := "ballonet/ballonetlaw03.GasRoof", spec := "gasRoof", unfollowed := true, recurses := true, apart := false }
def GasRoofSaid : Prop := gasRoofRow.holds Try.pinned (OpenSpec.ofChange gasRoofSpec)

/-- ITS FALSE NEIGHBOUR: 'it returns false'. Refute it at one input. -/
def gasRoofWrong : ChangeSpec := { name := "gasRoof", fn := fun _ => fun
  | [d1, d2, d3] => { results := [.lit (.bool false)], args := [d1, d2, d3] }
  | _ => none }
def GasRoofWrongFalsely : Prop := gasRoofRow.holds Try.pinned (OpenSpec.ofChange gasRoofWrong)

/-- 'ballonetlaw03.GasPlayed': WHATEVER THE INPUT: true; the input reads as it did. -/
def gasPlayedSpec : ChangeSpec := { name := "gasPlayed", fn := fun _ => fun
  | [d1, d2] => { results := [.lit (.bool true)], args := [d1, d2] }
  | _ => none }
def gasPlayedRow : OpenClaim := { program := "ytemafanncejeiaa", sum := "6ce76a653cd483a636a6dd9cd2a7cf6cc9e77873384256064568c0674b4c1b63", func := "ballonet/ballonetlaw03.GasPlayed", spec := "gasPlayed", unfollowed := true, recurses := true, apart := false }
def GasPlayedSaid : Prop := gasPlayedRow.holds Try.pinned (OpenSpec.ofChange gasPlayedSpec)

/-- ITS FALSE NEIGHBOUR: 'it returns false'. Refute it at one input. -/
def gasPlayedWrong : ChangeSpec := { name := "gasPlayed", fn := fun _ => fun
  | [d1, d2] => { results := [.lit (.bool false)], args := [d1, d2] }
  | _ => none }
def GasPlayedWrongFalsely : Prop := gasPlayedRow.holds Try.pinned (OpenSpec.ofChange gasPlayedWrong)

/-- 'ballonetlaw03.GasFull': WHATEVER THE INPUT: true; the input reads as it did. -/
def gasFullSpec : ChangeSpec := { name := "gasFull", fn := fun _ => fun
  | [d1, d2, d3] => { results := [.lit (.bool true)], args := [d1, d2, d3] }
  | _ => none }
def gasFullRow : OpenClaim := { program := "ytemafanncejeiaa", sum := "6ce76a653cd483a636a6dd9cd2a7cf6cc9e77873384256064568c0674b4c1b63", func := "ballonet/ballonetlaw03.GasFull", spec := "gasFull", unfollowed := true, recurses := true, apart := false }
def GasFullSaid : Prop := gasFullRow.holds Try.pinned (OpenSpec.ofChange gasFullSpec)

/-- ITS FALSE NEIGHBOUR: 'it returns false'. Refute it at one input. -/
def gasFullWrong : ChangeSpec := { name := "gasFull", fn := fun _ => fun
  | [d1, d2, d3] => { results := [.lit (.bool false)], args := [d1, d2, d3] }
  | _ => none }
def GasFullWrongFalsely : Prop := gasFullRow.holds Try.pinned (OpenSpec.ofChange gasFullWrong)

/-- 'ballonetlaw03.GasExamples': WHATEVER THE INPUT: true; the input reads as it did. -/
def gasExamplesSpec : ChangeSpec := { name := "gasExamples", fn := fun _ => fun
  | [] => { results := [.lit (.bool true)], args := [] }
  | _ => none }
def gasExamplesRow : OpenClaim := { program := "ytemafanncejeiaa", sum := "6ce76a653cd483a636a6dd9cd2a7cf6cc9e77873384256064568c0674b4c1b63", func := "ballonet/ballonetlaw03.GasExamples", spec := "gasExamples", unfollowed := true, recurses := true, apart := false }
def GasExamplesSaid : Prop := gasExamplesRow.holds Try.pinned (OpenSpec.ofChange gasExamplesSpec)

/-- ITS FALSE NEIGHBOUR: 'it returns false'. Refute it at one input. -/
def gasExamplesWrong : ChangeSpec := { name := "gasExamples", fn := fun _ => fun
  | [] => { results := [.lit (.bool false)], args := [] }
  | _ => none }
def GasExamplesWrongFalsely : Prop := gasExamplesRow.holds Try.pinned (OpenSpec.ofChange gasExamplesWrong)

/- THE SECOND FORM. 'bulk': how many values and letters a reading holds, each counted each time it is reached (what is shared counts as often as it is met; a slice's spare places count too). A statement '..UptoSaid' is the law's where the arguments, and the package variables that the reading takes, are together of bulk at most 1048576: NARROWER than '..Said'. Prove '..Said' where nothing that the law and all that it calls make is longer than what came in: it says more and counts as full. Else prove '..UptoSaid'. A law counts once. -/
mutual
def uptoBulk {H : Type} : DataW H → Nat
  | .lit (.string bytes) => bytes.length + 1
  | .lit _ => 1
  | .nil => 1
  | .ptr d => uptoBulk d + 1
  | .slice elems spare => uptoBulkAll elems + uptoBulkAll spare + 1
  | .agg parts => uptoBulkAll parts + 1
  | .iface _ d => uptoBulk d + 1
  | .map entries => uptoBulkEntries entries + 1
  | .held _ => 1
def uptoBulkAll {H : Type} : List (DataW H) → Nat
  | [] => 0
  | d :: r => uptoBulk d + uptoBulkAll r
def uptoBulkEntries {H : Type} : List (Lit × DataW H) → Nat
  | [] => 0
  | x :: r => uptoBulkEntry x + uptoBulkEntries r
def uptoBulkEntry {H : Type} : Lit × DataW H → Nat
  | (.string bytes, d) => bytes.length + uptoBulk d + 1
  | (_, d) => uptoBulk d + 1
 end
def uptoSmall : (H : Type) → List (DataW H) → Bool := fun _ ds => decide (uptoBulkAll ds ≤ 1048576)
def OpenSpec.upto (s : _root_.Go.ChangeSpec) : _root_.Go.OpenSpec := { _root_.Go.OpenSpec.ofChange s with cond := some uptoSmall }

/-- 'ballonetlaw03.GasVolumes', WHERE WHAT IT READS IS OF BULK AT MOST 1048576: true; the input reads as it did. -/
def gasVolumesUptoRow : OpenClaim := { program := "ytemafanncejeiaa", sum := "6ce76a653cd483a636a6dd9cd2a7cf6cc9e77873384256064568c0674b4c1b63", func := "ballonet/ballonetlaw03.GasVolumes", spec := "gasVolumes", apart := false, narrowed := true }
def GasVolumesUptoSaid : Prop := gasVolumesUptoRow.holds Try.pinned (OpenSpec.upto gasVolumesSpec)

/-- 'ballonetlaw03.GasLifts', WHERE WHAT IT READS IS OF BULK AT MOST 1048576: true; the input reads as it did. -/
def gasLiftsUptoRow : OpenClaim := { program := "ytemafanncejeiaa", sum := "6ce76a653cd483a636a6dd9cd2a7cf6cc9e77873384256064568c0674b4c1b63", func := "ballonet/ballonetlaw03.GasLifts", spec := "gasLifts", apart := false, narrowed := true }
def GasLiftsUptoSaid : Prop := gasLiftsUptoRow.holds Try.pinned (OpenSpec.upto gasLiftsSpec)

/-- 'ballonetlaw03.GasHulls', WHERE WHAT IT READS IS OF BULK AT MOST 1048576: true; the input reads as it did. -/
def gasHullsUptoRow : OpenClaim := { program := "ytemafanncejeiaa", sum := "6ce76a653cd483a636a6dd9cd2a7cf6cc9e77873384256064568c0674b4c1b63", func := "ballonet/ballonetlaw03.GasHulls", spec := "gasHulls", apart := false, narrowed := true }
def GasHullsUptoSaid : Prop := gasHullsUptoRow.holds Try.pinned (OpenSpec.upto gasHullsSpec)

/-- 'ballonetlaw03.GasDoes', WHERE WHAT IT READS IS OF BULK AT MOST 1048576: true; the input reads as it did. -/
def gasDoesUptoRow : OpenClaim := { program := "ytemafanncejeiaa", sum := "6ce76a653cd483a636a6dd9cd2a7cf6cc9e77873384256064568c0674b4c1b63", func := "ballonet/ballonetlaw03.GasDoes", spec := "gasDoes", unfollowed := true, recurses := true, apart := false, narrowed := true }
def GasDoesUptoSaid : Prop := gasDoesUptoRow.holds Try.pinned (OpenSpec.upto gasDoesSpec)

/-- 'ballonetlaw03.GasPlays', WHERE WHAT IT READS IS OF BULK AT MOST 1048576: true; the input reads as it did. -/
def gasPlaysUptoRow : OpenClaim := { program := "ytemafanncejeiaa", sum := "6ce76a653cd483a636a6dd9cd2a7cf6cc9e77873384256064568c0674b4c1b63", func := "ballonet/ballonetlaw03.GasPlays", spec := "gasPlays", unfollowed := true, recurses := true, apart := false, narrowed := true }
def GasPlaysUptoSaid : Prop := gasPlaysUptoRow.holds Try.pinned (OpenSpec.upto gasPlaysSpec)

/-- 'ballonetlaw03.GasLeaks', WHERE WHAT IT READS IS OF BULK AT MOST 1048576: true; the input reads as it did. -/
def gasLeaksUptoRow : OpenClaim := { program := "ytemafanncejeiaa", sum := "6ce76a653cd483a636a6dd9cd2a7cf6cc9e77873384256064568c0674b4c1b63", func := "ballonet/ballonetlaw03.GasLeaks", spec := "gasLeaks", unfollowed := true, recurses := true, apart := false, narrowed := true }
def GasLeaksUptoSaid : Prop := gasLeaksUptoRow.holds Try.pinned (OpenSpec.upto gasLeaksSpec)

/-- 'ballonetlaw03.GasWarmer', WHERE WHAT IT READS IS OF BULK AT MOST 1048576: true; the input reads as it did. -/
def gasWarmerUptoRow : OpenClaim := { program := "ytemafanncejeiaa", sum := "6ce76a653cd483a636a6dd9cd2a7cf6cc9e77873384256064568c0674b4c1b63", func := "ballonet/ballonetlaw03.GasWarmer", spec := "gasWarmer", unfollowed := true, recurses := true, apart := false, narrowed := true }
def GasWarmerUptoSaid : Prop := gasWarmerUptoRow.holds Try.pinned (OpenSpec.upto gasWarmerSpec)

/-- 'ballonetlaw03.GasKept', WHERE WHAT IT READS IS OF BULK AT MOST 1048576: true; the input reads as it did. -/
def gasKeptUptoRow : OpenClaim := { program := "ytemafanncejeiaa", sum := "6ce76a653cd483a636a6dd9cd2a7cf6cc9e77873384256064568c0674b4c1b63", func := "ballonet/ballonetlaw03.GasKept", spec := "gasKept", unfollowed := true, recurses := true, apart := false, narrowed := true }
def GasKeptUptoSaid : Prop := gasKeptUptoRow.holds Try.pinned (OpenSpec.upto gasKeptSpec)

/-- 'ballonetlaw03.GasPure', WHERE WHAT IT READS IS OF BULK AT MOST 1048576: true; the input reads as it did. -/
def gasPureUptoRow : OpenClaim := { program := "ytemafanncejeiaa", sum := "6ce76a653cd483a636a6dd9cd2a7cf6cc9e77873384256064568c0674b4c1b63", func := "ballonet/ballonetlaw03.GasPure", spec := "gasPure", unfollowed := true, recurses := true, apart := false, narrowed := true }
def GasPureUptoSaid : Prop := gasPureUptoRow.holds Try.pinned (OpenSpec.upto gasPureSpec)

/-- 'ballonetlaw03.GasHeld', WHERE WHAT IT READS IS OF BULK AT MOST 1048576: true; the input reads as it did. -/
def gasHeldUptoRow : OpenClaim := { program := "ytemafanncejeiaa", sum := "6ce76a653cd483a636a6dd9cd2a7cf6cc9e77873384256064568c0674b4c1b63", func := "ballonet/ballonetlaw03.GasHeld", spec := "gasHeld", unfollowed := true, recurses := true, apart := false, narrowed := true }
def GasHeldUptoSaid : Prop := gasHeldUptoRow.holds Try.pinned (OpenSpec.upto gasHeldSpec)

/-- 'ballonetlaw03.GasTight', WHERE WHAT IT READS IS OF BULK AT MOST 1048576: true; the input reads as it did. -/
def gasTightUptoRow : OpenClaim := { program := "ytemafanncejeiaa", sum := "6ce76a653cd483a636a6dd9cd2a7cf6cc9e77873384256064568c0674b4c1b63", func := "ballonet/ballonetlaw03.GasTight", spec := "gasTight", unfollowed := true, recurses := true, apart := false, narrowed := true }
def GasTightUptoSaid : Prop := gasTightUptoRow.holds Try.pinned (OpenSpec.upto gasTightSpec)

/-- 'ballonetlaw03.GasNamed', WHERE WHAT IT READS IS OF BULK AT MOST 1048576: true; the input reads as it did. -/
def gasNamedUptoRow : OpenClaim := { program := "ytemafanncejeiaa", sum := "6ce76a653cd483a636a6dd9cd2a7cf6cc9e77873384256064568c0674b4c1b63", func := "ballonet/ballonetlaw03.GasNamed", spec := "gasNamed", unfollowed := true, recurses := true, apart := false, narrowed := true }
def GasNamedUptoSaid : Prop := gasNamedUptoRow.holds Try.pinned (OpenSpec.upto gasNamedSpec)

/-- 'ballonetlaw03.GasExact', WHERE WHAT IT READS IS OF BULK AT MOST 1048576: true; the input reads as it did. -/
def gasExactUptoRow : OpenClaim := { program := "ytemafanncejeiaa", sum := "6ce76a653cd483a636a6dd9cd2a7cf6cc9e77873384256064568c0674b4c1b63", func := "ballonet/ballonetlaw03.GasExact", spec := "gasExact", unfollowed := true, recurses := true, apart := false, narrowed := true }
def GasExactUptoSaid : Prop := gasExactUptoRow.holds Try.pinned (OpenSpec.upto gasExactSpec)

/-- 'ballonetlaw03.GasProved', WHERE WHAT IT READS IS OF BULK AT MOST 1048576: true; the input reads as it did. -/
def gasProvedUptoRow : OpenClaim := { program := "ytemafanncejeiaa", sum := "6ce76a653cd483a636a6dd9cd2a7cf6cc9e77873384256064568c0674b4c1b63", func := "ballonet/ballonetlaw03.GasProved", spec := "gasProved", unfollowed := true, recurses := true, apart := false, narrowed := true }
def GasProvedUptoSaid : Prop := gasProvedUptoRow.holds Try.pinned (OpenSpec.upto gasProvedSpec)

/-- 'ballonetlaw03.GasBlown', WHERE WHAT IT READS IS OF BULK AT MOST 1048576: true; the input reads as it did. -/
def gasBlownUptoRow : OpenClaim := { program := "ytemafanncejeiaa", sum := "6ce76a653cd483a636a6dd9cd2a7cf6cc9e77873384256064568c0674b4c1b63", func := "ballonet/ballonetlaw03.GasBlown", spec := "gasBlown", unfollowed := true, recurses := true, apart := false, narrowed := true }
def GasBlownUptoSaid : Prop := gasBlownUptoRow.holds Try.pinned (OpenSpec.upto gasBlownSpec)

/-- 'ballonetlaw03.GasRoof', WHERE WHAT IT READS IS OF BULK AT MOST 1048576: true; the input reads as it did. -/
def gasRoofUptoRow : OpenClaim := { program := "ytemafanncejeiaa", sum := "6ce76a653cd483a636a6dd9cd2a7cf6cc9e77873384256064568c0674b4c1b63", func := "ballonet/ballonetlaw03.GasRoof", spec := "gasRoof", unfollowed := true, recurses := true, apart := false, narrowed := true }
def GasRoofUptoSaid : Prop := gasRoofUptoRow.holds Try.pinned (OpenSpec.upto gasRoofSpec)

/-- 'ballonetlaw03.GasPlayed', WHERE WHAT IT READS IS OF BULK AT MOST 1048576: true; the input reads as it did. -/
def gasPlayedUptoRow : OpenClaim := { program := "ytemafanncejeiaa", sum := "6ce76a653cd483a636a6dd9cd2a7cf6cc9e77873384256064568c0674b4c1b63", func := "ballonet/ballonetlaw03.GasPlayed", spec := "gasPlayed", unfollowed := true, recurses := true, apart := false, narrowed := true }
def GasPlayedUptoSaid : Prop := gasPlayedUptoRow.holds Try.pinned (OpenSpec.upto gasPlayedSpec)

/-- 'ballonetlaw03.GasFull', WHERE WHAT IT READS IS OF BULK AT MOST 1048576: true; the input reads as it did. -/
def gasFullUptoRow : OpenClaim := { program := "ytemafanncejeiaa", sum := "6ce76a653cd483a636a6dd9cd2a7cf6cc9e77873384256064568c0674b4c1b63", func := "ballonet/ballonetlaw03.GasFull", spec := "gasFull", unfollowed := true, recurses := true, apart := false, narrowed := true }
def GasFullUptoSaid : Prop := gasFullUptoRow.holds Try.pinned (OpenSpec.upto gasFullSpec)

/-- 'ballonetlaw03.GasExamples', WHERE WHAT IT READS IS OF BULK AT MOST 1048576: true; the input reads as it did. -/
def gasExamplesUptoRow : OpenClaim := { program := "ytemafanncejeiaa", sum := "6ce76a653cd483a636a6dd9cd2a7cf6cc9e77873384256064568c0674b4c1b63", func := "ballonet/ballonetlaw03.GasExamples", spec := "gasExamples", unfollowed := true, recurses := true, apart := false, narrowed := true }
def GasExamplesUptoSaid : Prop := gasExamplesUptoRow.holds Try.pinned (OpenSpec.upto gasExamplesSpec)

end Rows
end Go.Proofs.Ytemafanncejeiaa
