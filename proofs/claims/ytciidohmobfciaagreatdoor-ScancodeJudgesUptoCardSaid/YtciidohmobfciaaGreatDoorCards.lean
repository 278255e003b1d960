/-
  DERIVED. GIVEN WITH THE SEED: THE CARDS: each row of YtciidohmobfciaaGreatDoorRows.lean that lists a variable, with what it lists TIED to the program's text (the seventh form; the later family's looks); each row that meets fmt, with fmt's text TOLD by the authors' own Lean function (tested against real Go, not proved from fmt's source: count such statements apart). THE CARD IS WHAT COUNTS. Prove the row's statement (the work); the ties are given (YtciidohmobfciaaGreatDoorTie.lean); close each card by the builder's one call (the guide's Derived/Test/ToyasCard.lean, 'card_holds'). Laid BY PROGRAM, IN A SANDBOX (cutbox-door.mjs). By AI agents, Wed Nov 11 2026. No macro, syntax, notation, axiom, sorry.
-/
import Derived.Test.YtciidohmobfciaaGreatDoorRows
import GoSem.ClaimSeven
namespace Go.Proofs.YtciidohmobfciaaGreatDoor
namespace Rows

/-- THE TIED CARD OF 'texttoolslaw49.ScancodeJudges'. -/
def scancodeJudgesCard : Claim7 := { stood := { row := scancodeJudgesRow, standIns := [], harness := (true, "7b1ff7b68a92d82fde1fb42590bb8be7bc631a0a291c2985622cddd31f41f645"), looks := false }, kinds := [], alts := [], laidByText := true, laidKinds := [.data, .listed, .data], laidTests := true, laidLooks := .later }
def ScancodeJudgesCardSaid : Prop := Claim7.holds Tryz.pinned (.plain (OpenSpec.ofChange scancodeJudgesSpec)) scancodeJudgesCard

/-- THE TIED CARD OF 'texttoolslaw49.ScancodePrints'. -/
def scancodePrintsCard : Claim7 := { stood := { row := scancodePrintsRow, standIns := [], harness := (true, "7b1ff7b68a92d82fde1fb42590bb8be7bc631a0a291c2985622cddd31f41f645"), looks := false }, kinds := [], alts := [], laidByText := true, laidKinds := [.data, .data, .data, .data, .listed, .data, .pinned], laidTests := true, laidLooks := .later }
def ScancodePrintsCardSaid : Prop := Claim7.holds Tryz.pinned (.plain (OpenSpec.ofChange scancodePrintsSpec)) scancodePrintsCard

/-- THE SECOND FORM's CARD OF 'texttoolslaw49.ScancodeJudges'. -/
def scancodeJudgesUptoCard : Claim7 := { stood := { row := scancodeJudgesUptoRow, standIns := [], harness := (true, "7b1ff7b68a92d82fde1fb42590bb8be7bc631a0a291c2985622cddd31f41f645"), looks := false }, kinds := [], alts := [], laidByText := true, laidKinds := [.data, .listed, .data], laidTests := true, laidLooks := .later }
def ScancodeJudgesUptoCardSaid : Prop := Claim7.holds Tryz.pinned (.plain (OpenSpec.upto scancodeJudgesSpec)) scancodeJudgesUptoCard

/-- THE SECOND FORM's CARD OF 'texttoolslaw49.ScancodePrints'. -/
def scancodePrintsUptoCard : Claim7 := { stood := { row := scancodePrintsUptoRow, standIns := [], harness := (true, "7b1ff7b68a92d82fde1fb42590bb8be7bc631a0a291c2985622cddd31f41f645"), looks := false }, kinds := [], alts := [], laidByText := true, laidKinds := [.data, .data, .data, .data, .listed, .data, .pinned], laidTests := true, laidLooks := .later }
def ScancodePrintsUptoCardSaid : Prop := Claim7.holds Tryz.pinned (.plain (OpenSpec.upto scancodePrintsSpec)) scancodePrintsUptoCard
end Rows
end Go.Proofs.YtciidohmobfciaaGreatDoor
