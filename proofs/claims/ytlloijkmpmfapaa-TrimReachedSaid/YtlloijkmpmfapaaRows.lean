/-
  No cell of these rows narrows 'for every input' (looked for: loops, veiled, ifaces, maps, wideKeys, modest, calm, conditions, laid).
  DERIVED. THE GIVEN ROWS OF THIS SEAT. 15 by the template 'for every input the law returns true; each argument reads behind the call as it read before'; 0 by the template 'total and deterministic' (their statements: YtlloijkmpmfapaaTotals.lean).
  GIVEN WITH THE SEED: the statements are not yours to turn. If you find one false, say at which input.
  Laid BY PROGRAM, IN A SANDBOX (cutbox-rows.mjs): the forced cells as the released guide's own fill.sh prints them over the translation 0ea59bd0ffc247dc… (all of the seat's roots in one cut). By AI agents, Wed Nov 11 2026. No macro, syntax, notation, axiom, sorry.
-/
import Derived.Test.YtlloijkmpmfapaaChecked
import GoSem.Claim
import GoSem.ClaimJoined
import GoSem.ClaimMapViews
import Derived.JoinedTies
import Derived.KernelRfl
namespace Go.Proofs.Ytlloijkmpmfapaa
/- THE CELL 'sum', in the pinned program and in every row, IS THE sha256 OF THE DUMP (.gsa) THAT YtlloijkmpmfapaaProg.lean LOADS. Nothing in Lean hashes anything: it is a label: what it is worth is what the hold of that sum in a sandbox is worth. -/
noncomputable def Try.pinned : Pinned := { name := "ytlloijkmpmfapaa", sum := "0ea59bd0ffc247dcc5b0ed96cbb7eb7f561c27ebb4aeeb82187287940e1825f0", checked := Try.checked }
namespace Rows
def none {H : Type} : Left H := { results := [], args := [] }

/-- 'ballonetlaw04.TrimChecks': WHATEVER THE INPUT: true; the input reads as it did. -/
def trimChecksSpec : ChangeSpec := { name := "trimChecks", fn := fun _ => fun
  | [d1, d2, d3] => { results := [.lit (.bool true)], args := [d1, d2, d3] }
  | _ => none }
def trimChecksRow : OpenClaim := { program := "ytlloijkmpmfapaa", sum := "0ea59bd0ffc247dcc5b0ed96cbb7eb7f561c27ebb4aeeb82187287940e1825f0", func := "ballonet/ballonetlaw04.TrimChecks", spec := "trimChecks", unfollowed := true, recurses := true, apart := false }
def TrimChecksSaid : Prop := trimChecksRow.holds Try.pinned (OpenSpec.ofChange trimChecksSpec)

/-- ITS FALSE NEIGHBOUR: 'it returns false'. Refute it at one input. -/
def trimChecksWrong : ChangeSpec := { name := "trimChecks", fn := fun _ => fun
  | [d1, d2, d3] => { results := [.lit (.bool false)], args := [d1, d2, d3] }
  | _ => none }
def TrimChecksWrongFalsely : Prop := trimChecksRow.holds Try.pinned (OpenSpec.ofChange trimChecksWrong)

/-- 'ballonetlaw04.TrimBreaches': WHATEVER THE INPUT: true; the input reads as it did. -/
def trimBreachesSpec : ChangeSpec := { name := "trimBreaches", fn := fun _ => fun
  | [d1, d2, d3] => { results := [.lit (.bool true)], args := [d1, d2, d3] }
  | _ => none }
def trimBreachesRow : OpenClaim := { program := "ytlloijkmpmfapaa", sum := "0ea59bd0ffc247dcc5b0ed96cbb7eb7f561c27ebb4aeeb82187287940e1825f0", func := "ballonet/ballonetlaw04.TrimBreaches", spec := "trimBreaches", unfollowed := true, recurses := true, apart := false }
def TrimBreachesSaid : Prop := trimBreachesRow.holds Try.pinned (OpenSpec.ofChange trimBreachesSpec)

/-- ITS FALSE NEIGHBOUR: 'it returns false'. Refute it at one input. -/
def trimBreachesWrong : ChangeSpec := { name := "trimBreaches", fn := fun _ => fun
  | [d1, d2, d3] => { results := [.lit (.bool false)], args := [d1, d2, d3] }
  | _ => none }
def TrimBreachesWrongFalsely : Prop := trimBreachesRow.holds Try.pinned (OpenSpec.ofChange trimBreachesWrong)

/-- 'ballonetlaw04.TrimBalances': WHATEVER THE INPUT: true; the input reads as it did. -/
def trimBalancesSpec : ChangeSpec := { name := "trimBalances", fn := fun _ => fun
  | [d1, d2] => { results := [.lit (.bool true)], args := [d1, d2] }
  | _ => none }
def trimBalancesRow : OpenClaim := { program := "ytlloijkmpmfapaa", sum := "0ea59bd0ffc247dcc5b0ed96cbb7eb7f561c27ebb4aeeb82187287940e1825f0", func := "ballonet/ballonetlaw04.TrimBalances", spec := "trimBalances", unfollowed := true, recurses := true, apart := false }
def TrimBalancesSaid : Prop := trimBalancesRow.holds Try.pinned (OpenSpec.ofChange trimBalancesSpec)

/-- ITS FALSE NEIGHBOUR: 'it returns false'. Refute it at one input. -/
def trimBalancesWrong : ChangeSpec := { name := "trimBalances", fn := fun _ => fun
  | [d1, d2] => { results := [.lit (.bool false)], args := [d1, d2] }
  | _ => none }
def TrimBalancesWrongFalsely : Prop := trimBalancesRow.holds Try.pinned (OpenSpec.ofChange trimBalancesWrong)

/-- 'ballonetlaw04.TrimStrains': WHATEVER THE INPUT: true; the input reads as it did. -/
def trimStrainsSpec : ChangeSpec := { name := "trimStrains", fn := fun _ => fun
  | [d1, d2, d3] => { results := [.lit (.bool true)], args := [d1, d2, d3] }
  | _ => none }
def trimStrainsRow : OpenClaim := { program := "ytlloijkmpmfapaa", sum := "0ea59bd0ffc247dcc5b0ed96cbb7eb7f561c27ebb4aeeb82187287940e1825f0", func := "ballonet/ballonetlaw04.TrimStrains", spec := "trimStrains", unfollowed := true, recurses := true, apart := false }
def TrimStrainsSaid : Prop := trimStrainsRow.holds Try.pinned (OpenSpec.ofChange trimStrainsSpec)

/-- ITS FALSE NEIGHBOUR: 'it returns false'. Refute it at one input. -/
def trimStrainsWrong : ChangeSpec := { name := "trimStrains", fn := fun _ => fun
  | [d1, d2, d3] => { results := [.lit (.bool false)], args := [d1, d2, d3] }
  | _ => none }
def TrimStrainsWrongFalsely : Prop := trimStrainsRow.holds Try.pinned (OpenSpec.ofChange trimStrainsWrong)

/-- 'ballonetlaw04.TrimDrops': WHATEVER THE INPUT: true; the input reads as it did. -/
def trimDropsSpec : ChangeSpec := { name := "trimDrops", fn := fun _ => fun
  | [d1, d2, d3] => { results := [.lit (.bool true)], args := [d1, d2, d3] }
  | _ => none }
def trimDropsRow : OpenClaim := { program := "ytlloijkmpmfapaa", sum := "0ea59bd0ffc247dcc5b0ed96cbb7eb7f561c27ebb4aeeb82187287940e1825f0", func := "ballonet/ballonetlaw04.TrimDrops", spec := "trimDrops", unfollowed := true, recurses := true, apart := false }
def TrimDropsSaid : Prop := trimDropsRow.holds Try.pinned (OpenSpec.ofChange trimDropsSpec)

/-- ITS FALSE NEIGHBOUR: 'it returns false'. Refute it at one input. -/
def trimDropsWrong : ChangeSpec := { name := "trimDrops", fn := fun _ => fun
  | [d1, d2, d3] => { results := [.lit (.bool false)], args := [d1, d2, d3] }
  | _ => none }
def TrimDropsWrongFalsely : Prop := trimDropsRow.holds Try.pinned (OpenSpec.ofChange trimDropsWrong)

/-- 'ballonetlaw04.TrimStows': WHATEVER THE INPUT: true; the input reads as it did. -/
def trimStowsSpec : ChangeSpec := { name := "trimStows", fn := fun _ => fun
  | [d1, d2, d3, d4, d5, d6] => { results := [.lit (.bool true)], args := [d1, d2, d3, d4, d5, d6] }
  | _ => none }
def trimStowsRow : OpenClaim := { program := "ytlloijkmpmfapaa", sum := "0ea59bd0ffc247dcc5b0ed96cbb7eb7f561c27ebb4aeeb82187287940e1825f0", func := "ballonet/ballonetlaw04.TrimStows", spec := "trimStows", unfollowed := true, recurses := true, apart := false }
def TrimStowsSaid : Prop := trimStowsRow.holds Try.pinned (OpenSpec.ofChange trimStowsSpec)

/-- ITS FALSE NEIGHBOUR: 'it returns false'. Refute it at one input. -/
def trimStowsWrong : ChangeSpec := { name := "trimStows", fn := fun _ => fun
  | [d1, d2, d3, d4, d5, d6] => { results := [.lit (.bool false)], args := [d1, d2, d3, d4, d5, d6] }
  | _ => none }
def TrimStowsWrongFalsely : Prop := trimStowsRow.holds Try.pinned (OpenSpec.ofChange trimStowsWrong)

/-- 'ballonetlaw04.TrimDropped': WHATEVER THE INPUT: true; the input reads as it did. -/
def trimDroppedSpec : ChangeSpec := { name := "trimDropped", fn := fun _ => fun
  | [d1, d2, d3, d4] => { results := [.lit (.bool true)], args := [d1, d2, d3, d4] }
  | _ => none }
def trimDroppedRow : OpenClaim := { program := "ytlloijkmpmfapaa", sum := "0ea59bd0ffc247dcc5b0ed96cbb7eb7f561c27ebb4aeeb82187287940e1825f0", func := "ballonet/ballonetlaw04.TrimDropped", spec := "trimDropped", unfollowed := true, recurses := true, apart := false }
def TrimDroppedSaid : Prop := trimDroppedRow.holds Try.pinned (OpenSpec.ofChange trimDroppedSpec)

/-- ITS FALSE NEIGHBOUR: 'it returns false'. Refute it at one input. -/
def trimDroppedWrong : ChangeSpec := { name := "trimDropped", fn := fun _ => fun
  | [d1, d2, d3, d4] => { results := [.lit (.bool false)], args := [d1, d2, d3, d4] }
  | _ => none }
def TrimDroppedWrongFalsely : Prop := trimDroppedRow.holds Try.pinned (OpenSpec.ofChange trimDroppedWrong)

/-- 'ballonetlaw04.TrimEnds': WHATEVER THE INPUT: true; the input reads as it did. -/
def trimEndsSpec : ChangeSpec := { name := "trimEnds", fn := fun _ => fun
  | [d1, d2, d3] => { results := [.lit (.bool true)], args := [d1, d2, d3] }
  | _ => none }
def trimEndsRow : OpenClaim := { program := "ytlloijkmpmfapaa", sum := "0ea59bd0ffc247dcc5b0ed96cbb7eb7f561c27ebb4aeeb82187287940e1825f0", func := "ballonet/ballonetlaw04.TrimEnds", spec := "trimEnds", unfollowed := true, recurses := true, apart := false }
def TrimEndsSaid : Prop := trimEndsRow.holds Try.pinned (OpenSpec.ofChange trimEndsSpec)

/-- ITS FALSE NEIGHBOUR: 'it returns false'. Refute it at one input. -/
def trimEndsWrong : ChangeSpec := { name := "trimEnds", fn := fun _ => fun
  | [d1, d2, d3] => { results := [.lit (.bool false)], args := [d1, d2, d3] }
  | _ => none }
def TrimEndsWrongFalsely : Prop := trimEndsRow.holds Try.pinned (OpenSpec.ofChange trimEndsWrong)

/-- 'ballonetlaw04.TrimReached': WHATEVER THE INPUT: true; the input reads as it did. -/
def trimReachedSpec : ChangeSpec := { name := "trimReached", fn := fun _ => fun
  | [d1, d2] => { results := [.lit (.bool true)], args := [d1, d2] }
  | _ => none }
def trimReachedRow : OpenClaim := { program := "ytlloijkmpmfapaa", sum := "0ea59bd0ffc247dcc5b0ed96cbb7eb7f561c27ebb4aeeb82187287940e1825f0", func := "ballonet/ballonetlaw04.TrimReached", spec := "trimReached", unfollowed := true, recurses := true, apart := false }
def TrimReachedSaid : Prop := trimReachedRow.holds Try.pinned (OpenSpec.ofChange trimReachedSpec)

/-- ITS FALSE NEIGHBOUR: 'it returns false'. Refute it at one input. -/
def trimReachedWrong : ChangeSpec := { name := "trimReached", fn := fun _ => fun
  | [d1, d2] => { results := [.lit (.bool false)], args := [d1, d2] }
  | _ => none }
def TrimReachedWrongFalsely : Prop := trimReachedRow.holds Try.pinned (OpenSpec.ofChange trimReachedWrong)

/-- 'ballonetlaw04.TrimWorst': WHATEVER THE INPUT: true; the input reads as it did. -/
def trimWorstSpec : ChangeSpec := { name := "trimWorst", fn := fun _ => fun
  | [d1, d2, d3] => { results := [.lit (.bool true)], args := [d1, d2, d3] }
  | _ => none }
def trimWorstRow : OpenClaim := { program := "ytlloijkmpmfapaa", sum := "0ea59bd0ffc247dcc5b0ed96cbb7eb7f561c27ebb4aeeb82187287940e1825f0", func := "ballonet/ballonetlaw04.TrimWorst", spec := "trimWorst", unfollowed := true, recurses := true, apart := false }
def TrimWorstSaid : Prop := trimWorstRow.holds Try.pinned (OpenSpec.ofChange trimWorstSpec)

/-- ITS FALSE NEIGHBOUR: 'it returns false'. Refute it at one input. -/
def trimWorstWrong : ChangeSpec := { name := "trimWorst", fn := fun _ => fun
  | [d1, d2, d3] => { results := [.lit (.bool false)], args := [d1, d2, d3] }
  | _ => none }
def TrimWorstWrongFalsely : Prop := trimWorstRow.holds Try.pinned (OpenSpec.ofChange trimWorstWrong)

/-- 'ballonetlaw04.TrimKept': WHATEVER THE INPUT: true; the input reads as it did. -/
def trimKeptSpec : ChangeSpec := { name := "trimKept", fn := fun _ => fun
  | [d1, d2, d3] => { results := [.lit (.bool true)], args := [d1, d2, d3] }
  | _ => none }
def trimKeptRow : OpenClaim := { program := "ytlloijkmpmfapaa", sum := "0ea59bd0ffc247dcc5b0ed96cbb7eb7f561c27ebb4aeeb82187287940e1825f0", func := "ballonet/ballonetlaw04.TrimKept", spec := "trimKept", unfollowed := true, recurses := true, apart := false }
def TrimKeptSaid : Prop := trimKeptRow.holds Try.pinned (OpenSpec.ofChange trimKeptSpec)

/-- ITS FALSE NEIGHBOUR: 'it returns false'. Refute it at one input. -/
def trimKeptWrong : ChangeSpec := { name := "trimKept", fn := fun _ => fun
  | [d1, d2, d3] => { results := [.lit (.bool false)], args := [d1, d2, d3] }
  | _ => none }
def TrimKeptWrongFalsely : Prop := trimKeptRow.holds Try.pinned (OpenSpec.ofChange trimKeptWrong)

/-- 'ballonetlaw04.TrimBetter': WHATEVER THE INPUT: true; the input reads as it did. -/
def trimBetterSpec : ChangeSpec := { name := "trimBetter", fn := fun _ => fun
  | [d1, d2, d3, d4, d5, d6, d7] => { results := [.lit (.bool true)], args := [d1, d2, d3, d4, d5, d6, d7] }
  | _ => none }
def trimBetterRow : OpenClaim := { program := "ytlloijkmpmfapaa", sum := "0ea59bd0ffc247dcc5b0ed96cbb7eb7f561c27ebb4aeeb82187287940e1825f0", func := "ballonet/ballonetlaw04.TrimBetter", spec := "trimBetter", unfollowed := true, recurses := true, apart := false }
def TrimBetterSaid : Prop := trimBetterRow.holds Try.pinned (OpenSpec.ofChange trimBetterSpec)

/-- ITS FALSE NEIGHBOUR: 'it returns false'. Refute it at one input. -/
def trimBetterWrong : ChangeSpec := { name := "trimBetter", fn := fun _ => fun
  | [d1, d2, d3, d4, d5, d6, d7] => { results := [.lit (.bool false)], args := [d1, d2, d3, d4, d5, d6, d7] }
  | _ => none }
def TrimBetterWrongFalsely : Prop := trimBetterRow.holds Try.pinned (OpenSpec.ofChange trimBetterWrong)

/-- 'ballonetlaw04.TrimFar': WHATEVER THE INPUT: true; the input reads as it did. -/
def trimFarSpec : ChangeSpec := { name := "trimFar", fn := fun _ => fun
  | [d1, d2, d3, d4] => { results := [.lit (.bool true)], args := [d1, d2, d3, d4] }
  | _ => none }
def trimFarRow : OpenClaim := { program := "ytlloijkmpmfapaa", sum := "0ea59bd0ffc247dcc5b0ed96cbb7eb7f561c27ebb4aeeb82187287940e1825f0", func := "ballonet/ballonetlaw04.TrimFar", spec := "trimFar", unfollowed := true, recurses := true, apart := false }
def TrimFarSaid : Prop := trimFarRow.holds Try.pinned (OpenSpec.ofChange trimFarSpec)

/-- ITS FALSE NEIGHBOUR: 'it returns false'. Refute it at one input. -/
def trimFarWrong : ChangeSpec := { name := "trimFar", fn := fun _ => fun
  | [d1, d2, d3, d4] => { results := [.lit (.bool false)], args := [d1, d2, d3, d4] }
  | _ => none }
def TrimFarWrongFalsely : Prop := trimFarRow.holds Try.pinned (OpenSpec.ofChange trimFarWrong)

/-- 'ballonetlaw04.TrimStowed': WHATEVER THE INPUT: true; the input reads as it did. -/
def trimStowedSpec : ChangeSpec := { name := "trimStowed", fn := fun _ => fun
  | [d1, d2, d3, d4, d5, d6] => { results := [.lit (.bool true)], args := [d1, d2, d3, d4, d5, d6] }
  | _ => none }
def trimStowedRow : OpenClaim := { program := "ytlloijkmpmfapaa", sum := "0ea59bd0ffc247dcc5b0ed96cbb7eb7f561c27ebb4aeeb82187287940e1825f0", func := "ballonet/ballonetlaw04.TrimStowed", spec := "trimStowed", unfollowed := true, recurses := true, apart := false }
def TrimStowedSaid : Prop := trimStowedRow.holds Try.pinned (OpenSpec.ofChange trimStowedSpec)

/-- ITS FALSE NEIGHBOUR: 'it returns false'. Refute it at one input. -/
def trimStowedWrong : ChangeSpec := { name := "trimStowed", fn := fun _ => fun
  | [d1, d2, d3, d4, d5, d6] => { results := [.lit (.bool false)], args := [d1, d2, d3, d4, d5, d6] }
  | _ => none }
def TrimStowedWrongFalsely : Prop := trimStowedRow.holds Try.pinned (OpenSpec.ofChange trimStowedWrong)

/-- 'ballonetlaw04.TrimExamples': WHATEVER THE INPUT: true; the input reads as it did. -/
def trimExamplesSpec : ChangeSpec := { name := "trimExamples", fn := fun _ => fun
  | [] => { results := [.lit (.bool true)], args := [] }
  | _ => none }
def trimExamplesRow : OpenClaim := { program := "ytlloijkmpmfapaa", sum := "0ea59bd0ffc247dcc5b0ed96cbb7eb7f561c27ebb4aeeb82187287940e1825f0", func := "ballonet/ballonetlaw04.TrimExamples", spec := "trimExamples", unfollowed := true, recurses := true, apart := false }
def TrimExamplesSaid : Prop := trimExamplesRow.holds Try.pinned (OpenSpec.ofChange trimExamplesSpec)

/-- ITS FALSE NEIGHBOUR: 'it returns false'. Refute it at one input. -/
def trimExamplesWrong : ChangeSpec := { name := "trimExamples", fn := fun _ => fun
  | [] => { results := [.lit (.bool false)], args := [] }
  | _ => none }
def TrimExamplesWrongFalsely : Prop := trimExamplesRow.holds Try.pinned (OpenSpec.ofChange trimExamplesWrong)

/- THE SECOND FORM. 'bulk': how many values and letters a reading holds, each counted each time it is reached (what is shared counts as often as it is met; a slice's spare places count too). A statement '..UptoSaid' is the law's where the arguments, and the package variables that the reading takes, are together of bulk at most 1048576: NARROWER than '..Said'. Prove '..Said' where nothing that the law and all that it calls make is longer than what came in: it says more and counts as full. Else prove '..UptoSaid'. A law counts once. -/
mutual
def uptoBulk {H : Type} : DataW H → Nat
  | .lit (.string bytes) => bytes.length + 1
  | .lit _ => 1
  | .nil => 1
  | .ptr d => uptoBulk d + 1
  | .slice elems spare => uptoBulkAll elems + uptoBulkAll spare + 1
  | .agg parts => uptoBulkAll parts + 1
  | .iface _ d => uptoBulk d + 1
  | .map entries => uptoBulkEntries entries + 1
  | .held _ => 1
def uptoBulkAll {H : Type} : List (DataW H) → Nat
  | [] => 0
  | d :: r => uptoBulk d + uptoBulkAll r
def uptoBulkEntries {H : Type} : List (Lit × DataW H) → Nat
  | [] => 0
  | x :: r => uptoBulkEntry x + uptoBulkEntries r
def uptoBulkEntry {H : Type} : Lit × DataW H → Nat
  | (.string bytes, d) => bytes.length + uptoBulk d + 1
  | (_, d) => uptoBulk d + 1
 end
def uptoSmall : (H : Type) → List (DataW H) → Bool := fun _ ds => decide (uptoBulkAll ds ≤ 1048576)
def OpenSpec.upto (s : _root_.Go.ChangeSpec) : _root_.Go.OpenSpec := { _root_.Go.OpenSpec.ofChange s with cond := some uptoSmall }

/-- 'ballonetlaw04.TrimChecks', WHERE WHAT IT READS IS OF BULK AT MOST 1048576: true; the input reads as it did. -/
def trimChecksUptoRow : OpenClaim := { program := "ytlloijkmpmfapaa", sum := "0ea59bd0ffc247dcc5b0ed96cbb7eb7f561c27ebb4aeeb82187287940e1825f0", func := "ballonet/ballonetlaw04.TrimChecks", spec := "trimChecks", unfollowed := true, recurses := true, apart := false, narrowed := true }
def TrimChecksUptoSaid : Prop := trimChecksUptoRow.holds Try.pinned (OpenSpec.upto trimChecksSpec)

/-- 'ballonetlaw04.TrimBreaches', WHERE WHAT IT READS IS OF BULK AT MOST 1048576: true; the input reads as it did. -/
def trimBreachesUptoRow : OpenClaim := { program := "ytlloijkmpmfapaa", sum := "0ea59bd0ffc247dcc5b0ed96cbb7eb7f561c27ebb4aeeb82187287940e1825f0", func := "ballonet/ballonetlaw04.TrimBreaches", spec := "trimBreaches", unfollowed := true, recurses := true, apart := false, narrowed := true }
def TrimBreachesUptoSaid : Prop := trimBreachesUptoRow.holds Try.pinned (OpenSpec.upto trimBreachesSpec)

/-- 'ballonetlaw04.TrimBalances', WHERE WHAT IT READS IS OF BULK AT MOST 1048576: true; the input reads as it did. -/
def trimBalancesUptoRow : OpenClaim := { program := "ytlloijkmpmfapaa", sum := "0ea59bd0ffc247dcc5b0ed96cbb7eb7f561c27ebb4aeeb82187287940e1825f0", func := "ballonet/ballonetlaw04.TrimBalances", spec := "trimBalances", unfollowed := true, recurses := true, apart := false, narrowed := true }
def TrimBalancesUptoSaid : Prop := trimBalancesUptoRow.holds Try.pinned (OpenSpec.upto trimBalancesSpec)

/-- 'ballonetlaw04.TrimStrains', WHERE WHAT IT READS IS OF BULK AT MOST 1048576: true; the input reads as it did. -/
def trimStrainsUptoRow : OpenClaim := { program := "ytlloijkmpmfapaa", sum := "0ea59bd0ffc247dcc5b0ed96cbb7eb7f561c27ebb4aeeb82187287940e1825f0", func := "ballonet/ballonetlaw04.TrimStrains", spec := "trimStrains", unfollowed := true, recurses := true, apart := false, narrowed := true }
def TrimStrainsUptoSaid : Prop := trimStrainsUptoRow.holds Try.pinned (OpenSpec.upto trimStrainsSpec)

/-- 'ballonetlaw04.TrimDrops', WHERE WHAT IT READS IS OF BULK AT MOST 1048576: true; the input reads as it did. -/
def trimDropsUptoRow : OpenClaim := { program := "ytlloijkmpmfapaa", sum := "0ea59bd0ffc247dcc5b0ed96cbb7eb7f561c27ebb4aeeb82187287940e1825f0", func := "ballonet/ballonetlaw04.TrimDrops", spec := "trimDrops", unfollowed := true, recurses := true, apart := false, narrowed := true }
def TrimDropsUptoSaid : Prop := trimDropsUptoRow.holds Try.pinned (OpenSpec.upto trimDropsSpec)

/-- 'ballonetlaw04.TrimStows', WHERE WHAT IT READS IS OF BULK AT MOST 1048576: true; the input reads as it did. -/
def trimStowsUptoRow : OpenClaim := { program := "ytlloijkmpmfapaa", sum := "0ea59bd0ffc247dcc5b0ed96cbb7eb7f561c27ebb4aeeb82187287940e1825f0", func := "ballonet/ballonetlaw04.TrimStows", spec := "trimStows", unfollowed := true, recurses := true, apart := false, narrowed := true }
def TrimStowsUptoSaid : Prop := trimStowsUptoRow.holds Try.pinned (OpenSpec.upto trimStowsSpec)

/-- 'ballonetlaw04.TrimDropped', WHERE WHAT IT READS IS OF BULK AT MOST 1048576: true; the input reads as it did. -/
def trimDroppedUptoRow : OpenClaim := { program := "ytlloijkmpmfapaa", sum := "0ea59bd0ffc247dcc5b0ed96cbb7eb7f561c27ebb4aeeb82187287940e1825f0", func := "ballonet/ballonetlaw04.TrimDropped", spec := "trimDropped", unfollowed := true, recurses := true, apart := false, narrowed := true }
def TrimDroppedUptoSaid : Prop := trimDroppedUptoRow.holds Try.pinned (OpenSpec.upto trimDroppedSpec)

/-- 'ballonetlaw04.TrimEnds', WHERE WHAT IT READS IS OF BULK AT MOST 1048576: true; the input reads as it did. -/
def trimEndsUptoRow : OpenClaim := { program := "ytlloijkmpmfapaa", sum := "0ea59bd0ffc247dcc5b0ed96cbb7eb7f561c27ebb4aeeb82187287940e1825f0", func := "ballonet/ballonetlaw04.TrimEnds", spec := "trimEnds", unfollowed := true, recurses := true, apart := false, narrowed := true }
def TrimEndsUptoSaid : Prop := trimEndsUptoRow.holds Try.pinned (OpenSpec.upto trimEndsSpec)

/-- 'ballonetlaw04.TrimReached', WHERE WHAT IT READS IS OF BULK AT MOST 1048576: true; the input reads as it did. -/
def trimReachedUptoRow : OpenClaim := { program := "ytlloijkmpmfapaa", sum := "0ea59bd0ffc247dcc5b0ed96cbb7eb7f561c27ebb4aeeb82187287940e1825f0", func := "ballonet/ballonetlaw04.TrimReached", spec := "trimReached", unfollowed := true, recurses := true, apart := false, narrowed := true }
def TrimReachedUptoSaid : Prop := trimReachedUptoRow.holds Try.pinned (OpenSpec.upto trimReachedSpec)

/-- 'ballonetlaw04.TrimWorst', WHERE WHAT IT READS IS OF BULK AT MOST 1048576: true; the input reads as it did. -/
def trimWorstUptoRow : OpenClaim := { program := "ytlloijkmpmfapaa", sum := "0ea59bd0ffc247dcc5b0ed96cbb7eb7f561c27ebb4aeeb82187287940e1825f0", func := "ballonet/ballonetlaw04.TrimWorst", spec := "trimWorst", unfollowed := true, recurses := true, apart := false, narrowed := true }
def TrimWorstUptoSaid : Prop := trimWorstUptoRow.holds Try.pinned (OpenSpec.upto trimWorstSpec)

/-- 'ballonetlaw04.TrimKept', WHERE WHAT IT READS IS OF BULK AT MOST 1048576: true; the input reads as it did. -/
def trimKeptUptoRow : OpenClaim := { program := "ytlloijkmpmfapaa", sum := "0ea59bd0ffc247dcc5b0ed96cbb7eb7f561c27ebb4aeeb82187287940e1825f0", func := "ballonet/ballonetlaw04.TrimKept", spec := "trimKept", unfollowed := true, recurses := true, apart := false, narrowed := true }
def TrimKeptUptoSaid : Prop := trimKeptUptoRow.holds Try.pinned (OpenSpec.upto trimKeptSpec)

/-- 'ballonetlaw04.TrimBetter', WHERE WHAT IT READS IS OF BULK AT MOST 1048576: true; the input reads as it did. -/
def trimBetterUptoRow : OpenClaim := { program := "ytlloijkmpmfapaa", sum := "0ea59bd0ffc247dcc5b0ed96cbb7eb7f561c27ebb4aeeb82187287940e1825f0", func := "ballonet/ballonetlaw04.TrimBetter", spec := "trimBetter", unfollowed := true, recurses := true, apart := false, narrowed := true }
def TrimBetterUptoSaid : Prop := trimBetterUptoRow.holds Try.pinned (OpenSpec.upto trimBetterSpec)

/-- 'ballonetlaw04.TrimFar', WHERE WHAT IT READS IS OF BULK AT MOST 1048576: true; the input reads as it did. -/
def trimFarUptoRow : OpenClaim := { program := "ytlloijkmpmfapaa", sum := "0ea59bd0ffc247dcc5b0ed96cbb7eb7f561c27ebb4aeeb82187287940e1825f0", func := "ballonet/ballonetlaw04.TrimFar", spec := "trimFar", unfollowed := true, recurses := true, apart := false, narrowed := true }
def TrimFarUptoSaid : Prop := trimFarUptoRow.holds Try.pinned (OpenSpec.upto trimFarSpec)

/-- 'ballonetlaw04.TrimStowed', WHERE WHAT IT READS IS OF BULK AT MOST 1048576: true; the input reads as it did. -/
def trimStowedUptoRow : OpenClaim := { program := "ytlloijkmpmfapaa", sum := "0ea59bd0ffc247dcc5b0ed96cbb7eb7f561c27ebb4aeeb82187287940e1825f0", func := "ballonet/ballonetlaw04.TrimStowed", spec := "trimStowed", unfollowed := true, recurses := true, apart := false, narrowed := true }
def TrimStowedUptoSaid : Prop := trimStowedUptoRow.holds Try.pinned (OpenSpec.upto trimStowedSpec)

/-- 'ballonetlaw04.TrimExamples', WHERE WHAT IT READS IS OF BULK AT MOST 1048576: true; the input reads as it did. -/
def trimExamplesUptoRow : OpenClaim := { program := "ytlloijkmpmfapaa", sum := "0ea59bd0ffc247dcc5b0ed96cbb7eb7f561c27ebb4aeeb82187287940e1825f0", func := "ballonet/ballonetlaw04.TrimExamples", spec := "trimExamples", unfollowed := true, recurses := true, apart := false, narrowed := true }
def TrimExamplesUptoSaid : Prop := trimExamplesUptoRow.holds Try.pinned (OpenSpec.upto trimExamplesSpec)

end Rows
end Go.Proofs.Ytlloijkmpmfapaa
