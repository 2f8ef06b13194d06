/-
  No cell of these rows narrows 'for every input' (looked for: loops, veiled, ifaces, maps, wideKeys, modest, calm, conditions, laid).
  DERIVED. THE GIVEN ROWS OF THIS SEAT. 8 by the template 'for every input the law returns true; each argument reads behind the call as it read before'; 0 by the template 'total and deterministic' (their statements: YtacbkbilbmkjnaaGreatTotals.lean).
  GIVEN WITH THE SEED: the statements are not yours to turn. If you find one false, say at which input.
  Laid BY PROGRAM, IN A SANDBOX (cutbox-rows.mjs): the forced cells as the released guide's own fill.sh prints them over the translation a0c2aca86a5d3083… (all of the seat's roots in one cut). By AI agents, Wed Nov 11 2026. No macro, syntax, notation, axiom, sorry.
-/
import Derived.Test.YtacbkbilbmkjnaaGreatChecked
import GoSem.Claim
import GoSem.ClaimJoined
import GoSem.ClaimMapViews
import Derived.JoinedTies
import Derived.KernelRfl
namespace Go.Proofs.YtacbkbilbmkjnaaGreat
/- THE CELL 'sum', in the pinned program and in every row, IS THE sha256 OF THE DUMP (.gsa) THAT YtacbkbilbmkjnaaGreatProg.lean LOADS. Nothing in Lean hashes anything: it is a label: what it is worth is what the hold of that sum in a sandbox is worth. -/
noncomputable def Tryz.pinned : Pinned := { name := "ytacbkbilbmkjnaagreat", sum := "a0c2aca86a5d308397a92b7e40ab1a47c7b5127d3fe9812d9fe3c1446c168593", checked := Tryz.checked }
namespace Rows
def none {H : Type} : Left H := { results := [], args := [] }

/-- 'ballonetlaw07.MastManned': WHATEVER THE INPUT: true; the input reads as it did. -/
def mastMannedSpec : ChangeSpec := { name := "mastManned", fn := fun _ => fun
  | [d1, d2, d3] => { results := [.lit (.bool true)], args := [d1, d2, d3] }
  | _ => none }
def mastMannedRow : OpenClaim := { program := "ytacbkbilbmkjnaagreat", sum := "a0c2aca86a5d308397a92b7e40ab1a47c7b5127d3fe9812d9fe3c1446c168593", func := "ballonet/ballonetlaw07.MastManned", spec := "mastManned", unfollowed := true, recurses := true, plainKeys := false, apart := false }
def MastMannedSaid : Prop := mastMannedRow.holds Tryz.pinned (OpenSpec.ofChange mastMannedSpec)

/-- ITS FALSE NEIGHBOUR: 'it returns false'. Refute it at one input. -/
def mastMannedWrong : ChangeSpec := { name := "mastManned", fn := fun _ => fun
  | [d1, d2, d3] => { results := [.lit (.bool false)], args := [d1, d2, d3] }
  | _ => none }
def MastMannedWrongFalsely : Prop := mastMannedRow.holds Tryz.pinned (OpenSpec.ofChange mastMannedWrong)

/-- 'ballonetlaw07.MastPlanned': WHATEVER THE INPUT: true; the input reads as it did. -/
def mastPlannedSpec : ChangeSpec := { name := "mastPlanned", fn := fun _ => fun
  | [d1, d2, d3, d4, d5] => { results := [.lit (.bool true)], args := [d1, d2, d3, d4, d5] }
  | _ => none }
def mastPlannedRow : OpenClaim := { program := "ytacbkbilbmkjnaagreat", sum := "a0c2aca86a5d308397a92b7e40ab1a47c7b5127d3fe9812d9fe3c1446c168593", func := "ballonet/ballonetlaw07.MastPlanned", spec := "mastPlanned", unfollowed := true, recurses := true, plainKeys := false, apart := false }
def MastPlannedSaid : Prop := mastPlannedRow.holds Tryz.pinned (OpenSpec.ofChange mastPlannedSpec)

/-- ITS FALSE NEIGHBOUR: 'it returns false'. Refute it at one input. -/
def mastPlannedWrong : ChangeSpec := { name := "mastPlanned", fn := fun _ => fun
  | [d1, d2, d3, d4, d5] => { results := [.lit (.bool false)], args := [d1, d2, d3, d4, d5] }
  | _ => none }
def MastPlannedWrongFalsely : Prop := mastPlannedRow.holds Tryz.pinned (OpenSpec.ofChange mastPlannedWrong)

/-- 'ballonetlaw07.MastBlown': WHATEVER THE INPUT: true; the input reads as it did. -/
def mastBlownSpec : ChangeSpec := { name := "mastBlown", fn := fun _ => fun
  | [d1, d2, d3, d4, d5, d6] => { results := [.lit (.bool true)], args := [d1, d2, d3, d4, d5, d6] }
  | _ => none }
def mastBlownRow : OpenClaim := { program := "ytacbkbilbmkjnaagreat", sum := "a0c2aca86a5d308397a92b7e40ab1a47c7b5127d3fe9812d9fe3c1446c168593", func := "ballonet/ballonetlaw07.MastBlown", spec := "mastBlown", unfollowed := true, recurses := true, plainKeys := false, apart := false }
def MastBlownSaid : Prop := mastBlownRow.holds Tryz.pinned (OpenSpec.ofChange mastBlownSpec)

/-- ITS FALSE NEIGHBOUR: 'it returns false'. Refute it at one input. -/
def mastBlownWrong : ChangeSpec := { name := "mastBlown", fn := fun _ => fun
  | [d1, d2, d3, d4, d5, d6] => { results := [.lit (.bool false)], args := [d1, d2, d3, d4, d5, d6] }
  | _ => none }
def MastBlownWrongFalsely : Prop := mastBlownRow.holds Tryz.pinned (OpenSpec.ofChange mastBlownWrong)

/-- 'ballonetlaw07.MastKept': WHATEVER THE INPUT: true; the input reads as it did. -/
def mastKeptSpec : ChangeSpec := { name := "mastKept", fn := fun _ => fun
  | [d1, d2, d3] => { results := [.lit (.bool true)], args := [d1, d2, d3] }
  | _ => none }
def mastKeptRow : OpenClaim := { program := "ytacbkbilbmkjnaagreat", sum := "a0c2aca86a5d308397a92b7e40ab1a47c7b5127d3fe9812d9fe3c1446c168593", func := "ballonet/ballonetlaw07.MastKept", spec := "mastKept", unfollowed := true, recurses := true, plainKeys := false, apart := false }
def MastKeptSaid : Prop := mastKeptRow.holds Tryz.pinned (OpenSpec.ofChange mastKeptSpec)

/-- ITS FALSE NEIGHBOUR: 'it returns false'. Refute it at one input. -/
def mastKeptWrong : ChangeSpec := { name := "mastKept", fn := fun _ => fun
  | [d1, d2, d3] => { results := [.lit (.bool false)], args := [d1, d2, d3] }
  | _ => none }
def MastKeptWrongFalsely : Prop := mastKeptRow.holds Tryz.pinned (OpenSpec.ofChange mastKeptWrong)

/-- 'ballonetlaw07.MastComplete': WHATEVER THE INPUT: true; the input reads as it did. -/
def mastCompleteSpec : ChangeSpec := { name := "mastComplete", fn := fun _ => fun
  | [d1, d2] => { results := [.lit (.bool true)], args := [d1, d2] }
  | _ => none }
def mastCompleteRow : OpenClaim := { program := "ytacbkbilbmkjnaagreat", sum := "a0c2aca86a5d308397a92b7e40ab1a47c7b5127d3fe9812d9fe3c1446c168593", func := "ballonet/ballonetlaw07.MastComplete", spec := "mastComplete", unfollowed := true, recurses := true, plainKeys := false, apart := false }
def MastCompleteSaid : Prop := mastCompleteRow.holds Tryz.pinned (OpenSpec.ofChange mastCompleteSpec)

/-- ITS FALSE NEIGHBOUR: 'it returns false'. Refute it at one input. -/
def mastCompleteWrong : ChangeSpec := { name := "mastComplete", fn := fun _ => fun
  | [d1, d2] => { results := [.lit (.bool false)], args := [d1, d2] }
  | _ => none }
def MastCompleteWrongFalsely : Prop := mastCompleteRow.holds Tryz.pinned (OpenSpec.ofChange mastCompleteWrong)

/-- 'ballonetlaw07.MastPlayed': WHATEVER THE INPUT: true; the input reads as it did. -/
def mastPlayedSpec : ChangeSpec := { name := "mastPlayed", fn := fun _ => fun
  | [d1, d2, d3] => { results := [.lit (.bool true)], args := [d1, d2, d3] }
  | _ => none }
def mastPlayedRow : OpenClaim := { program := "ytacbkbilbmkjnaagreat", sum := "a0c2aca86a5d308397a92b7e40ab1a47c7b5127d3fe9812d9fe3c1446c168593", func := "ballonet/ballonetlaw07.MastPlayed", spec := "mastPlayed", unfollowed := true, recurses := true, plainKeys := false, apart := false }
def MastPlayedSaid : Prop := mastPlayedRow.holds Tryz.pinned (OpenSpec.ofChange mastPlayedSpec)

/-- ITS FALSE NEIGHBOUR: 'it returns false'. Refute it at one input. -/
def mastPlayedWrong : ChangeSpec := { name := "mastPlayed", fn := fun _ => fun
  | [d1, d2, d3] => { results := [.lit (.bool false)], args := [d1, d2, d3] }
  | _ => none }
def MastPlayedWrongFalsely : Prop := mastPlayedRow.holds Tryz.pinned (OpenSpec.ofChange mastPlayedWrong)

/-- 'ballonetlaw07.MastTurned': WHATEVER THE INPUT: true; the input reads as it did. -/
def mastTurnedSpec : ChangeSpec := { name := "mastTurned", fn := fun _ => fun
  | [d1, d2, d3, d4] => { results := [.lit (.bool true)], args := [d1, d2, d3, d4] }
  | _ => none }
def mastTurnedRow : OpenClaim := { program := "ytacbkbilbmkjnaagreat", sum := "a0c2aca86a5d308397a92b7e40ab1a47c7b5127d3fe9812d9fe3c1446c168593", func := "ballonet/ballonetlaw07.MastTurned", spec := "mastTurned", unfollowed := true, recurses := true, plainKeys := false, apart := false }
def MastTurnedSaid : Prop := mastTurnedRow.holds Tryz.pinned (OpenSpec.ofChange mastTurnedSpec)

/-- ITS FALSE NEIGHBOUR: 'it returns false'. Refute it at one input. -/
def mastTurnedWrong : ChangeSpec := { name := "mastTurned", fn := fun _ => fun
  | [d1, d2, d3, d4] => { results := [.lit (.bool false)], args := [d1, d2, d3, d4] }
  | _ => none }
def MastTurnedWrongFalsely : Prop := mastTurnedRow.holds Tryz.pinned (OpenSpec.ofChange mastTurnedWrong)

/-- 'ballonetlaw07.MastExamples': WHATEVER THE INPUT: true; the input reads as it did. -/
def mastExamplesSpec : ChangeSpec := { name := "mastExamples", fn := fun _ => fun
  | [] => { results := [.lit (.bool true)], args := [] }
  | _ => none }
def mastExamplesRow : OpenClaim := { program := "ytacbkbilbmkjnaagreat", sum := "a0c2aca86a5d308397a92b7e40ab1a47c7b5127d3fe9812d9fe3c1446c168593", func := "ballonet/ballonetlaw07.MastExamples", spec := "mastExamples", unfollowed := true, recurses := true, plainKeys := false, apart := false }
def MastExamplesSaid : Prop := mastExamplesRow.holds Tryz.pinned (OpenSpec.ofChange mastExamplesSpec)

/-- ITS FALSE NEIGHBOUR: 'it returns false'. Refute it at one input. -/
def mastExamplesWrong : ChangeSpec := { name := "mastExamples", fn := fun _ => fun
  | [] => { results := [.lit (.bool false)], args := [] }
  | _ => none }
def MastExamplesWrongFalsely : Prop := mastExamplesRow.holds Tryz.pinned (OpenSpec.ofChange mastExamplesWrong)

/- THE SECOND FORM. 'bulk': how many values and letters a reading holds, each counted each time it is reached (what is shared counts as often as it is met; a slice's spare places count too). A statement '..UptoSaid' is the law's where the arguments, and the package variables that the reading takes, are together of bulk at most 1048576: NARROWER than '..Said'. Prove '..Said' where nothing that the law and all that it calls make is longer than what came in: it says more and counts as full. Else prove '..UptoSaid'. A law counts once. -/
mutual
def uptoBulk {H : Type} : DataW H → Nat
  | .lit (.string bytes) => bytes.length + 1
  | .lit _ => 1
  | .nil => 1
  | .ptr d => uptoBulk d + 1
  | .slice elems spare => uptoBulkAll elems + uptoBulkAll spare + 1
  | .agg parts => uptoBulkAll parts + 1
  | .iface _ d => uptoBulk d + 1
  | .map entries => uptoBulkEntries entries + 1
  | .held _ => 1
def uptoBulkAll {H : Type} : List (DataW H) → Nat
  | [] => 0
  | d :: r => uptoBulk d + uptoBulkAll r
def uptoBulkEntries {H : Type} : List (Lit × DataW H) → Nat
  | [] => 0
  | x :: r => uptoBulkEntry x + uptoBulkEntries r
def uptoBulkEntry {H : Type} : Lit × DataW H → Nat
  | (.string bytes, d) => bytes.length + uptoBulk d + 1
  | (_, d) => uptoBulk d + 1
 end
def uptoSmall : (H : Type) → List (DataW H) → Bool := fun _ ds => decide (uptoBulkAll ds ≤ 1048576)
def OpenSpec.upto (s : _root_.Go.ChangeSpec) : _root_.Go.OpenSpec := { _root_.Go.OpenSpec.ofChange s with cond := some uptoSmall }

/-- 'ballonetlaw07.MastManned', WHERE WHAT IT READS IS OF BULK AT MOST 1048576: true; the input reads as it did. -/
def mastMannedUptoRow : OpenClaim := { program := "ytacbkbilbmkjnaagreat", sum := "a0c2aca86a5d308397a92b7e40ab1a47c7b5127d3fe9812d9fe3c1446c168593", func := "ballonet/ballonetlaw07.MastManned", spec := "mastManned", unfollowed := true, recurses := true, plainKeys := false, apart := false, narrowed := true }
def MastMannedUptoSaid : Prop := mastMannedUptoRow.holds Tryz.pinned (OpenSpec.upto mastMannedSpec)

/-- 'ballonetlaw07.MastPlanned', WHERE WHAT IT READS IS OF BULK AT MOST 1048576: true; the input reads as it did. -/
def mastPlannedUptoRow : OpenClaim := { program := "ytacbkbilbmkjnaagreat", sum := "a0c2aca86a5d308397a92b7e40ab1a47c7b5127d3fe9812d9fe3c1446c168593", func := "ballonet/ballonetlaw07.MastPlanned", spec := "mastPlanned", unfollowed := true, recurses := true, plainKeys := false, apart := false, narrowed := true }
def MastPlannedUptoSaid : Prop := mastPlannedUptoRow.holds Tryz.pinned (OpenSpec.upto mastPlannedSpec)

/-- 'ballonetlaw07.MastBlown', WHERE WHAT IT READS IS OF BULK AT MOST 1048576: true; the input reads as it did. -/
def mastBlownUptoRow : OpenClaim := { program := "ytacbkbilbmkjnaagreat", sum := "a0c2aca86a5d308397a92b7e40ab1a47c7b5127d3fe9812d9fe3c1446c168593", func := "ballonet/ballonetlaw07.MastBlown", spec := "mastBlown", unfollowed := true, recurses := true, plainKeys := false, apart := false, narrowed := true }
def MastBlownUptoSaid : Prop := mastBlownUptoRow.holds Tryz.pinned (OpenSpec.upto mastBlownSpec)

/-- 'ballonetlaw07.MastKept', WHERE WHAT IT READS IS OF BULK AT MOST 1048576: true; the input reads as it did. -/
def mastKeptUptoRow : OpenClaim := { program := "ytacbkbilbmkjnaagreat", sum := "a0c2aca86a5d308397a92b7e40ab1a47c7b5127d3fe9812d9fe3c1446c168593", func := "ballonet/ballonetlaw07.MastKept", spec := "mastKept", unfollowed := true, recurses := true, plainKeys := false, apart := false, narrowed := true }
def MastKeptUptoSaid : Prop := mastKeptUptoRow.holds Tryz.pinned (OpenSpec.upto mastKeptSpec)

/-- 'ballonetlaw07.MastComplete', WHERE WHAT IT READS IS OF BULK AT MOST 1048576: true; the input reads as it did. -/
def mastCompleteUptoRow : OpenClaim := { program := "ytacbkbilbmkjnaagreat", sum := "a0c2aca86a5d308397a92b7e40ab1a47c7b5127d3fe9812d9fe3c1446c168593", func := "ballonet/ballonetlaw07.MastComplete", spec := "mastComplete", unfollowed := true, recurses := true, plainKeys := false, apart := false, narrowed := true }
def MastCompleteUptoSaid : Prop := mastCompleteUptoRow.holds Tryz.pinned (OpenSpec.upto mastCompleteSpec)

/-- 'ballonetlaw07.MastPlayed', WHERE WHAT IT READS IS OF BULK AT MOST 1048576: true; the input reads as it did. -/
def mastPlayedUptoRow : OpenClaim := { program := "ytacbkbilbmkjnaagreat", sum := "a0c2aca86a5d308397a92b7e40ab1a47c7b5127d3fe9812d9fe3c1446c168593", func := "ballonet/ballonetlaw07.MastPlayed", spec := "mastPlayed", unfollowed := true, recurses := true, plainKeys := false, apart := false, narrowed := true }
def MastPlayedUptoSaid : Prop := mastPlayedUptoRow.holds Tryz.pinned (OpenSpec.upto mastPlayedSpec)

/-- 'ballonetlaw07.MastTurned', WHERE WHAT IT READS IS OF BULK AT MOST 1048576: true; the input reads as it did. -/
def mastTurnedUptoRow : OpenClaim := { program := "ytacbkbilbmkjnaagreat", sum := "a0c2aca86a5d308397a92b7e40ab1a47c7b5127d3fe9812d9fe3c1446c168593", func := "ballonet/ballonetlaw07.MastTurned", spec := "mastTurned", unfollowed := true, recurses := true, plainKeys := false, apart := false, narrowed := true }
def MastTurnedUptoSaid : Prop := mastTurnedUptoRow.holds Tryz.pinned (OpenSpec.upto mastTurnedSpec)

/-- 'ballonetlaw07.MastExamples', WHERE WHAT IT READS IS OF BULK AT MOST 1048576: true; the input reads as it did. -/
def mastExamplesUptoRow : OpenClaim := { program := "ytacbkbilbmkjnaagreat", sum := "a0c2aca86a5d308397a92b7e40ab1a47c7b5127d3fe9812d9fe3c1446c168593", func := "ballonet/ballonetlaw07.MastExamples", spec := "mastExamples", unfollowed := true, recurses := true, plainKeys := false, apart := false, narrowed := true }
def MastExamplesUptoSaid : Prop := mastExamplesUptoRow.holds Tryz.pinned (OpenSpec.upto mastExamplesSpec)

end Rows
end Go.Proofs.YtacbkbilbmkjnaaGreat
