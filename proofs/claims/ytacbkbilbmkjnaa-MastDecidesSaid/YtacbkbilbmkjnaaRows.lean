/-
  No cell of these rows narrows 'for every input' (looked for: loops, veiled, ifaces, maps, wideKeys, modest, calm, conditions, laid).
  DERIVED. THE GIVEN ROWS OF THIS SEAT. 6 by the template 'for every input the law returns true; each argument reads behind the call as it read before'; 0 by the template 'total and deterministic' (their statements: YtacbkbilbmkjnaaTotals.lean).
  GIVEN WITH THE SEED: the statements are not yours to turn. If you find one false, say at which input.
  Laid BY PROGRAM, IN A SANDBOX (cutbox-rows.mjs): the forced cells as the released guide's own fill.sh prints them over the translation e68114b2a51079db… (all of the seat's roots in one cut). By AI agents, Wed Nov 11 2026. No macro, syntax, notation, axiom, sorry.
-/
import Derived.Test.YtacbkbilbmkjnaaChecked
import GoSem.Claim
import GoSem.ClaimJoined
import GoSem.ClaimMapViews
import Derived.JoinedTies
import Derived.KernelRfl
namespace Go.Proofs.Ytacbkbilbmkjnaa
/- THE CELL 'sum', in the pinned program and in every row, IS THE sha256 OF THE DUMP (.gsa) THAT YtacbkbilbmkjnaaProg.lean LOADS. Nothing in Lean hashes anything: it is a label: what it is worth is what the hold of that sum in a sandbox is worth. -/
noncomputable def Try.pinned : Pinned := { name := "ytacbkbilbmkjnaa", sum := "e68114b2a51079db6598264b6d4d4639728f78fd0efa53869f0a9f4332eb1d9b", checked := Try.checked }
namespace Rows
def none {H : Type} : Left H := { results := [], args := [] }

/-- 'ballonetlaw07.MastWinds': WHATEVER THE INPUT: true; the input reads as it did. -/
def mastWindsSpec : ChangeSpec := { name := "mastWinds", fn := fun _ => fun
  | [d1, d2, d3] => { results := [.lit (.bool true)], args := [d1, d2, d3] }
  | _ => none }
def mastWindsRow : OpenClaim := { program := "ytacbkbilbmkjnaa", sum := "e68114b2a51079db6598264b6d4d4639728f78fd0efa53869f0a9f4332eb1d9b", func := "ballonet/ballonetlaw07.MastWinds", spec := "mastWinds", unfollowed := true, recurses := true, plainKeys := false, apart := false }
def MastWindsSaid : Prop := mastWindsRow.holds Try.pinned (OpenSpec.ofChange mastWindsSpec)

/-- ITS FALSE NEIGHBOUR: 'it returns false'. Refute it at one input. -/
def mastWindsWrong : ChangeSpec := { name := "mastWinds", fn := fun _ => fun
  | [d1, d2, d3] => { results := [.lit (.bool false)], args := [d1, d2, d3] }
  | _ => none }
def MastWindsWrongFalsely : Prop := mastWindsRow.holds Try.pinned (OpenSpec.ofChange mastWindsWrong)

/-- 'ballonetlaw07.MastTurns': WHATEVER THE INPUT: true; the input reads as it did. -/
def mastTurnsSpec : ChangeSpec := { name := "mastTurns", fn := fun _ => fun
  | [d1, d2, d3, d4, d5] => { results := [.lit (.bool true)], args := [d1, d2, d3, d4, d5] }
  | _ => none }
def mastTurnsRow : OpenClaim := { program := "ytacbkbilbmkjnaa", sum := "e68114b2a51079db6598264b6d4d4639728f78fd0efa53869f0a9f4332eb1d9b", func := "ballonet/ballonetlaw07.MastTurns", spec := "mastTurns", unfollowed := true, recurses := true, plainKeys := false, apart := false }
def MastTurnsSaid : Prop := mastTurnsRow.holds Try.pinned (OpenSpec.ofChange mastTurnsSpec)

/-- ITS FALSE NEIGHBOUR: 'it returns false'. Refute it at one input. -/
def mastTurnsWrong : ChangeSpec := { name := "mastTurns", fn := fun _ => fun
  | [d1, d2, d3, d4, d5] => { results := [.lit (.bool false)], args := [d1, d2, d3, d4, d5] }
  | _ => none }
def MastTurnsWrongFalsely : Prop := mastTurnsRow.holds Try.pinned (OpenSpec.ofChange mastTurnsWrong)

/-- 'ballonetlaw07.MastDoes': WHATEVER THE INPUT: true; the input reads as it did. -/
def mastDoesSpec : ChangeSpec := { name := "mastDoes", fn := fun _ => fun
  | [d1, d2, d3] => { results := [.lit (.bool true)], args := [d1, d2, d3] }
  | _ => none }
def mastDoesRow : OpenClaim := { program := "ytacbkbilbmkjnaa", sum := "e68114b2a51079db6598264b6d4d4639728f78fd0efa53869f0a9f4332eb1d9b", func := "ballonet/ballonetlaw07.MastDoes", spec := "mastDoes", unfollowed := true, recurses := true, plainKeys := false, apart := false }
def MastDoesSaid : Prop := mastDoesRow.holds Try.pinned (OpenSpec.ofChange mastDoesSpec)

/-- ITS FALSE NEIGHBOUR: 'it returns false'. Refute it at one input. -/
def mastDoesWrong : ChangeSpec := { name := "mastDoes", fn := fun _ => fun
  | [d1, d2, d3] => { results := [.lit (.bool false)], args := [d1, d2, d3] }
  | _ => none }
def MastDoesWrongFalsely : Prop := mastDoesRow.holds Try.pinned (OpenSpec.ofChange mastDoesWrong)

/-- 'ballonetlaw07.MastPlays': WHATEVER THE INPUT: true; the input reads as it did. -/
def mastPlaysSpec : ChangeSpec := { name := "mastPlays", fn := fun _ => fun
  | [d1, d2, d3] => { results := [.lit (.bool true)], args := [d1, d2, d3] }
  | _ => none }
def mastPlaysRow : OpenClaim := { program := "ytacbkbilbmkjnaa", sum := "e68114b2a51079db6598264b6d4d4639728f78fd0efa53869f0a9f4332eb1d9b", func := "ballonet/ballonetlaw07.MastPlays", spec := "mastPlays", unfollowed := true, recurses := true, plainKeys := false, apart := false }
def MastPlaysSaid : Prop := mastPlaysRow.holds Try.pinned (OpenSpec.ofChange mastPlaysSpec)

/-- ITS FALSE NEIGHBOUR: 'it returns false'. Refute it at one input. -/
def mastPlaysWrong : ChangeSpec := { name := "mastPlays", fn := fun _ => fun
  | [d1, d2, d3] => { results := [.lit (.bool false)], args := [d1, d2, d3] }
  | _ => none }
def MastPlaysWrongFalsely : Prop := mastPlaysRow.holds Try.pinned (OpenSpec.ofChange mastPlaysWrong)

/-- 'ballonetlaw07.MastPlans': WHATEVER THE INPUT: true; the input reads as it did. -/
def mastPlansSpec : ChangeSpec := { name := "mastPlans", fn := fun _ => fun
  | [d1, d2, d3, d4] => { results := [.lit (.bool true)], args := [d1, d2, d3, d4] }
  | _ => none }
def mastPlansRow : OpenClaim := { program := "ytacbkbilbmkjnaa", sum := "e68114b2a51079db6598264b6d4d4639728f78fd0efa53869f0a9f4332eb1d9b", func := "ballonet/ballonetlaw07.MastPlans", spec := "mastPlans", unfollowed := true, recurses := true, plainKeys := false, apart := false }
def MastPlansSaid : Prop := mastPlansRow.holds Try.pinned (OpenSpec.ofChange mastPlansSpec)

/-- ITS FALSE NEIGHBOUR: 'it returns false'. Refute it at one input. -/
def mastPlansWrong : ChangeSpec := { name := "mastPlans", fn := fun _ => fun
  | [d1, d2, d3, d4] => { results := [.lit (.bool false)], args := [d1, d2, d3, d4] }
  | _ => none }
def MastPlansWrongFalsely : Prop := mastPlansRow.holds Try.pinned (OpenSpec.ofChange mastPlansWrong)

/-- 'ballonetlaw07.MastDecides': WHATEVER THE INPUT: true; the input reads as it did. -/
def mastDecidesSpec : ChangeSpec := { name := "mastDecides", fn := fun _ => fun
  | [d1, d2] => { results := [.lit (.bool true)], args := [d1, d2] }
  | _ => none }
def mastDecidesRow : OpenClaim := { program := "ytacbkbilbmkjnaa", sum := "e68114b2a51079db6598264b6d4d4639728f78fd0efa53869f0a9f4332eb1d9b", func := "ballonet/ballonetlaw07.MastDecides", spec := "mastDecides", unfollowed := true, recurses := true, plainKeys := false, apart := false }
def MastDecidesSaid : Prop := mastDecidesRow.holds Try.pinned (OpenSpec.ofChange mastDecidesSpec)

/-- ITS FALSE NEIGHBOUR: 'it returns false'. Refute it at one input. -/
def mastDecidesWrong : ChangeSpec := { name := "mastDecides", fn := fun _ => fun
  | [d1, d2] => { results := [.lit (.bool false)], args := [d1, d2] }
  | _ => none }
def MastDecidesWrongFalsely : Prop := mastDecidesRow.holds Try.pinned (OpenSpec.ofChange mastDecidesWrong)

/- THE SECOND FORM. 'bulk': how many values and letters a reading holds, each counted each time it is reached (what is shared counts as often as it is met; a slice's spare places count too). A statement '..UptoSaid' is the law's where the arguments, and the package variables that the reading takes, are together of bulk at most 1048576: NARROWER than '..Said'. Prove '..Said' where nothing that the law and all that it calls make is longer than what came in: it says more and counts as full. Else prove '..UptoSaid'. A law counts once. -/
mutual
def uptoBulk {H : Type} : DataW H → Nat
  | .lit (.string bytes) => bytes.length + 1
  | .lit _ => 1
  | .nil => 1
  | .ptr d => uptoBulk d + 1
  | .slice elems spare => uptoBulkAll elems + uptoBulkAll spare + 1
  | .agg parts => uptoBulkAll parts + 1
  | .iface _ d => uptoBulk d + 1
  | .map entries => uptoBulkEntries entries + 1
  | .held _ => 1
def uptoBulkAll {H : Type} : List (DataW H) → Nat
  | [] => 0
  | d :: r => uptoBulk d + uptoBulkAll r
def uptoBulkEntries {H : Type} : List (Lit × DataW H) → Nat
  | [] => 0
  | x :: r => uptoBulkEntry x + uptoBulkEntries r
def uptoBulkEntry {H : Type} : Lit × DataW H → Nat
  | (.string bytes, d) => bytes.length + uptoBulk d + 1
  | (_, d) => uptoBulk d + 1
 end
def uptoSmall : (H : Type) → List (DataW H) → Bool := fun _ ds => decide (uptoBulkAll ds ≤ 1048576)
def OpenSpec.upto (s : _root_.Go.ChangeSpec) : _root_.Go.OpenSpec := { _root_.Go.OpenSpec.ofChange s with cond := some uptoSmall }

/-- 'ballonetlaw07.MastWinds', WHERE WHAT IT READS IS OF BULK AT MOST 1048576: true; the input reads as it did. -/
def mastWindsUptoRow : OpenClaim := { program := "ytacbkbilbmkjnaa", sum := "e68114b2a51079db6598264b6d4d4639728f78fd0efa53869f0a9f4332eb1d9b", func := "ballonet/ballonetlaw07.MastWinds", spec := "mastWinds", unfollowed := true, recurses := true, plainKeys := false, apart := false, narrowed := true }
def MastWindsUptoSaid : Prop := mastWindsUptoRow.holds Try.pinned (OpenSpec.upto mastWindsSpec)

/-- 'ballonetlaw07.MastTurns', WHERE WHAT IT READS IS OF BULK AT MOST 1048576: true; the input reads as it did. -/
def mastTurnsUptoRow : OpenClaim := { program := "ytacbkbilbmkjnaa", sum := "e68114b2a51079db6598264b6d4d4639728f78fd0efa53869f0a9f4332eb1d9b", func := "ballonet/ballonetlaw07.MastTurns", spec := "mastTurns", unfollowed := true, recurses := true, plainKeys := false, apart := false, narrowed := true }
def MastTurnsUptoSaid : Prop := mastTurnsUptoRow.holds Try.pinned (OpenSpec.upto mastTurnsSpec)

/-- 'ballonetlaw07.MastDoes', WHERE WHAT IT READS IS OF BULK AT MOST 1048576: true; the input reads as it did. -/
def mastDoesUptoRow : OpenClaim := { program := "ytacbkbilbmkjnaa", sum := "e68114b2a51079db6598264b6d4d4639728f78fd0efa53869f0a9f4332eb1d9b", func := "ballonet/ballonetlaw07.MastDoes", spec := "mastDoes", unfollowed := true, recurses := true, plainKeys := false, apart := false, narrowed := true }
def MastDoesUptoSaid : Prop := mastDoesUptoRow.holds Try.pinned (OpenSpec.upto mastDoesSpec)

/-- 'ballonetlaw07.MastPlays', WHERE WHAT IT READS IS OF BULK AT MOST 1048576: true; the input reads as it did. -/
def mastPlaysUptoRow : OpenClaim := { program := "ytacbkbilbmkjnaa", sum := "e68114b2a51079db6598264b6d4d4639728f78fd0efa53869f0a9f4332eb1d9b", func := "ballonet/ballonetlaw07.MastPlays", spec := "mastPlays", unfollowed := true, recurses := true, plainKeys := false, apart := false, narrowed := true }
def MastPlaysUptoSaid : Prop := mastPlaysUptoRow.holds Try.pinned (OpenSpec.upto mastPlaysSpec)

/-- 'ballonetlaw07.MastPlans', WHERE WHAT IT READS IS OF BULK AT MOST 1048576: true; the input reads as it did. -/
def mastPlansUptoRow : OpenClaim := { program := "ytacbkbilbmkjnaa", sum := "e68114b2a51079db6598264b6d4d4639728f78fd0efa53869f0a9f4332eb1d9b", func := "ballonet/ballonetlaw07.MastPlans", spec := "mastPlans", unfollowed := true, recurses := true, plainKeys := false, apart := false, narrowed := true }
def MastPlansUptoSaid : Prop := mastPlansUptoRow.holds Try.pinned (OpenSpec.upto mastPlansSpec)

/-- 'ballonetlaw07.MastDecides', WHERE WHAT IT READS IS OF BULK AT MOST 1048576: true; the input reads as it did. -/
def mastDecidesUptoRow : OpenClaim := { program := "ytacbkbilbmkjnaa", sum := "e68114b2a51079db6598264b6d4d4639728f78fd0efa53869f0a9f4332eb1d9b", func := "ballonet/ballonetlaw07.MastDecides", spec := "mastDecides", unfollowed := true, recurses := true, plainKeys := false, apart := false, narrowed := true }
def MastDecidesUptoSaid : Prop := mastDecidesUptoRow.holds Try.pinned (OpenSpec.upto mastDecidesSpec)

end Rows
end Go.Proofs.Ytacbkbilbmkjnaa
