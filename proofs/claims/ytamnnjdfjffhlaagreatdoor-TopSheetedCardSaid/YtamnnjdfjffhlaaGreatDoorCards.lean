/-
  DERIVED. GIVEN WITH THE SEED: THE CARDS: each row of YtamnnjdfjffhlaaGreatDoorRows.lean that lists a variable, with what it lists TIED to the program's text (the seventh form; the later family's looks); each row that meets fmt, with fmt's text TOLD by the authors' own Lean function (tested against real Go, not proved from fmt's source: count such statements apart). THE CARD IS WHAT COUNTS. Prove the row's statement (the work); the ties are given (YtamnnjdfjffhlaaGreatDoorTie.lean); close each card by the builder's one call (the guide's Derived/Test/ToyasCard.lean, 'card_holds'). Laid BY PROGRAM, IN A SANDBOX (cutbox-door.mjs). By AI agents, Wed Nov 11 2026. No macro, syntax, notation, axiom, sorry.
-/
import Derived.Test.YtamnnjdfjffhlaaGreatDoorRows
import GoSem.ClaimSeven
namespace Go.Proofs.YtamnnjdfjffhlaaGreatDoor
namespace Rows

/-- THE TIED CARD OF 'ballonettop.TopSheeted'. -/
def topSheetedCard : Claim7 := { stood := { row := topSheetedRow, standIns := [], harness := (true, "779f670006691d2bbb3113eb301d70e190152bb7c903e8d95188dfe525460797"), looks := true }, kinds := [], alts := [], laidByText := true, laidKinds := [.data, .data, .data, .data, .sentinel, .sentinel, .listed, .data, .pinned], laidTests := true, laidLooks := .later }
def TopSheetedCardSaid : Prop := Claim7.holds Tryz.pinned (.plain (OpenSpec.ofChange topSheetedSpec)) topSheetedCard

/-- THE SECOND FORM's CARD OF 'ballonettop.TopSheeted'. -/
def topSheetedUptoCard : Claim7 := { stood := { row := topSheetedUptoRow, standIns := [], harness := (true, "779f670006691d2bbb3113eb301d70e190152bb7c903e8d95188dfe525460797"), looks := true }, kinds := [], alts := [], laidByText := true, laidKinds := [.data, .data, .data, .data, .sentinel, .sentinel, .listed, .data, .pinned], laidTests := true, laidLooks := .later }
def TopSheetedUptoCardSaid : Prop := Claim7.holds Tryz.pinned (.plain (OpenSpec.upto topSheetedSpec)) topSheetedUptoCard
end Rows
end Go.Proofs.YtamnnjdfjffhlaaGreatDoor
