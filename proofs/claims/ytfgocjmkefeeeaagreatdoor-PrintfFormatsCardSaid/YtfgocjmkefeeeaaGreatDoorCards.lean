/-
  DERIVED. GIVEN WITH THE SEED: THE CARDS: each row of YtfgocjmkefeeeaaGreatDoorRows.lean that lists a variable, with what it lists TIED to the program's text (the seventh form; the later family's looks); each row that meets fmt, with fmt's text TOLD by the authors' own Lean function (tested against real Go, not proved from fmt's source: count such statements apart). THE CARD IS WHAT COUNTS. Prove the row's statement (the work); the ties are given (YtfgocjmkefeeeaaGreatDoorTie.lean); close each card by the builder's one call (the guide's Derived/Test/ToyasCard.lean, 'card_holds'). Laid BY PROGRAM, IN A SANDBOX (cutbox-door.mjs). By AI agents, Wed Nov 11 2026. No macro, syntax, notation, axiom, sorry.
-/
import Derived.Test.YtfgocjmkefeeeaaGreatDoorRows
import GoSem.ClaimSeven
namespace Go.Proofs.YtfgocjmkefeeeaaGreatDoor
namespace Rows

/-- THE TIED CARD OF 'texttoolslaw43.PrintfFormats'. -/
def printfFormatsCard : Claim7 := { stood := { row := printfFormatsRow, standIns := [], harness := (true, "bccbaece8e920492c24e7cff0b48f519c0cbe7cba77df79a6b5f1c063445ba5e"), looks := false }, kinds := [], alts := [], laidByText := true, laidKinds := [.data, .data, .data, .data, .data, .pinned, .pinned], laidTests := true, laidLooks := .later }
def PrintfFormatsCardSaid : Prop := Claim7.holds Tryz.pinned (.plain (OpenSpec.ofChange printfFormatsSpec)) printfFormatsCard

/-- THE SECOND FORM's CARD OF 'texttoolslaw43.PrintfFormats'. -/
def printfFormatsUptoCard : Claim7 := { stood := { row := printfFormatsUptoRow, standIns := [], harness := (true, "bccbaece8e920492c24e7cff0b48f519c0cbe7cba77df79a6b5f1c063445ba5e"), looks := false }, kinds := [], alts := [], laidByText := true, laidKinds := [.data, .data, .data, .data, .data, .pinned, .pinned], laidTests := true, laidLooks := .later }
def PrintfFormatsUptoCardSaid : Prop := Claim7.holds Tryz.pinned (.plain (OpenSpec.upto printfFormatsSpec)) printfFormatsUptoCard
end Rows
end Go.Proofs.YtfgocjmkefeeeaaGreatDoor
