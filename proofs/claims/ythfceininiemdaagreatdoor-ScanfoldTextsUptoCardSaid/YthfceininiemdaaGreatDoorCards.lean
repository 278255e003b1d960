/-
  DERIVED. GIVEN WITH THE SEED: THE CARDS: each row of YthfceininiemdaaGreatDoorRows.lean that lists a variable, with what it lists TIED to the program's text (the seventh form; the later family's looks); each row that meets fmt, with fmt's text TOLD by the authors' own Lean function (tested against real Go, not proved from fmt's source: count such statements apart). THE CARD IS WHAT COUNTS. Prove the row's statement (the work); the ties are given (YthfceininiemdaaGreatDoorTie.lean); close each card by the builder's one call (the guide's Derived/Test/ToyasCard.lean, 'card_holds'). Laid BY PROGRAM, IN A SANDBOX (cutbox-door.mjs). By AI agents, Wed Nov 11 2026. No macro, syntax, notation, axiom, sorry.
-/
import Derived.Test.YthfceininiemdaaGreatDoorRows
import GoSem.ClaimSeven
namespace Go.Proofs.YthfceininiemdaaGreatDoor
namespace Rows

/-- THE TIED CARD OF 'texttoolslaw48.ScanfoldNodes'. -/
def scanfoldNodesCard : Claim7 := { stood := { row := scanfoldNodesRow, standIns := [], harness := (true, "f02bd651a9f195a98b095e1c7b73bdb73a634480ea00f16d0e4f0ffb09495af4"), looks := true }, kinds := [], alts := [], laidByText := true, laidKinds := [.data, .data, .data, .data, .data, .data, .pinned, .pinned], laidTests := true, laidLooks := .later }
def ScanfoldNodesCardSaid : Prop := Claim7.holds Tryz.pinned (.plain (OpenSpec.ofChange scanfoldNodesSpec)) scanfoldNodesCard

/-- THE TIED CARD OF 'texttoolslaw48.ScanfoldPrograms'. -/
def scanfoldProgramsCard : Claim7 := { stood := { row := scanfoldProgramsRow, standIns := [], harness := (true, "f02bd651a9f195a98b095e1c7b73bdb73a634480ea00f16d0e4f0ffb09495af4"), looks := true }, kinds := [], alts := [], laidByText := true, laidKinds := [.data, .data, .data, .data, .data, .data, .pinned, .pinned], laidTests := true, laidLooks := .later }
def ScanfoldProgramsCardSaid : Prop := Claim7.holds Tryz.pinned (.plain (OpenSpec.ofChange scanfoldProgramsSpec)) scanfoldProgramsCard

/-- THE TIED CARD OF 'texttoolslaw48.ScanfoldStops'. -/
def scanfoldStopsCard : Claim7 := { stood := { row := scanfoldStopsRow, standIns := [], harness := (true, "f02bd651a9f195a98b095e1c7b73bdb73a634480ea00f16d0e4f0ffb09495af4"), looks := true }, kinds := [], alts := [], laidByText := true, laidKinds := [.data, .data, .data, .data, .data, .data, .pinned, .pinned], laidTests := true, laidLooks := .later }
def ScanfoldStopsCardSaid : Prop := Claim7.holds Tryz.pinned (.plain (OpenSpec.ofChange scanfoldStopsSpec)) scanfoldStopsCard

/-- THE TIED CARD OF 'texttoolslaw48.ScanfoldClosed'. -/
def scanfoldClosedCard : Claim7 := { stood := { row := scanfoldClosedRow, standIns := [], harness := (true, "f02bd651a9f195a98b095e1c7b73bdb73a634480ea00f16d0e4f0ffb09495af4"), looks := true }, kinds := [], alts := [], laidByText := true, laidKinds := [.data, .data, .data, .data, .data, .data, .pinned, .pinned], laidTests := true, laidLooks := .later }
def ScanfoldClosedCardSaid : Prop := Claim7.holds Tryz.pinned (.plain (OpenSpec.ofChange scanfoldClosedSpec)) scanfoldClosedCard

/-- THE TIED CARD OF 'texttoolslaw48.ScanfoldArithmetic'. -/
def scanfoldArithmeticCard : Claim7 := { stood := { row := scanfoldArithmeticRow, standIns := [], harness := (true, "f02bd651a9f195a98b095e1c7b73bdb73a634480ea00f16d0e4f0ffb09495af4"), looks := true }, kinds := [], alts := [], laidByText := true, laidKinds := [.data, .data, .data, .data, .data, .data, .pinned, .pinned], laidTests := true, laidLooks := .later }
def ScanfoldArithmeticCardSaid : Prop := Claim7.holds Tryz.pinned (.plain (OpenSpec.ofChange scanfoldArithmeticSpec)) scanfoldArithmeticCard

/-- THE TIED CARD OF 'texttoolslaw48.ScanfoldTexts'. -/
def scanfoldTextsCard : Claim7 := { stood := { row := scanfoldTextsRow, standIns := [], harness := (true, "f02bd651a9f195a98b095e1c7b73bdb73a634480ea00f16d0e4f0ffb09495af4"), looks := true }, kinds := [], alts := [], laidByText := true, laidKinds := [.data, .data, .data, .data, .data, .data, .pinned, .pinned], laidTests := true, laidLooks := .later }
def ScanfoldTextsCardSaid : Prop := Claim7.holds Tryz.pinned (.plain (OpenSpec.ofChange scanfoldTextsSpec)) scanfoldTextsCard

/-- THE SECOND FORM's CARD OF 'texttoolslaw48.ScanfoldNodes'. -/
def scanfoldNodesUptoCard : Claim7 := { stood := { row := scanfoldNodesUptoRow, standIns := [], harness := (true, "f02bd651a9f195a98b095e1c7b73bdb73a634480ea00f16d0e4f0ffb09495af4"), looks := true }, kinds := [], alts := [], laidByText := true, laidKinds := [.data, .data, .data, .data, .data, .data, .pinned, .pinned], laidTests := true, laidLooks := .later }
def ScanfoldNodesUptoCardSaid : Prop := Claim7.holds Tryz.pinned (.plain (OpenSpec.upto scanfoldNodesSpec)) scanfoldNodesUptoCard

/-- THE SECOND FORM's CARD OF 'texttoolslaw48.ScanfoldPrograms'. -/
def scanfoldProgramsUptoCard : Claim7 := { stood := { row := scanfoldProgramsUptoRow, standIns := [], harness := (true, "f02bd651a9f195a98b095e1c7b73bdb73a634480ea00f16d0e4f0ffb09495af4"), looks := true }, kinds := [], alts := [], laidByText := true, laidKinds := [.data, .data, .data, .data, .data, .data, .pinned, .pinned], laidTests := true, laidLooks := .later }
def ScanfoldProgramsUptoCardSaid : Prop := Claim7.holds Tryz.pinned (.plain (OpenSpec.upto scanfoldProgramsSpec)) scanfoldProgramsUptoCard

/-- THE SECOND FORM's CARD OF 'texttoolslaw48.ScanfoldStops'. -/
def scanfoldStopsUptoCard : Claim7 := { stood := { row := scanfoldStopsUptoRow, standIns := [], harness := (true, "f02bd651a9f195a98b095e1c7b73bdb73a634480ea00f16d0e4f0ffb09495af4"), looks := true }, kinds := [], alts := [], laidByText := true, laidKinds := [.data, .data, .data, .data, .data, .data, .pinned, .pinned], laidTests := true, laidLooks := .later }
def ScanfoldStopsUptoCardSaid : Prop := Claim7.holds Tryz.pinned (.plain (OpenSpec.upto scanfoldStopsSpec)) scanfoldStopsUptoCard

/-- THE SECOND FORM's CARD OF 'texttoolslaw48.ScanfoldClosed'. -/
def scanfoldClosedUptoCard : Claim7 := { stood := { row := scanfoldClosedUptoRow, standIns := [], harness := (true, "f02bd651a9f195a98b095e1c7b73bdb73a634480ea00f16d0e4f0ffb09495af4"), looks := true }, kinds := [], alts := [], laidByText := true, laidKinds := [.data, .data, .data, .data, .data, .data, .pinned, .pinned], laidTests := true, laidLooks := .later }
def ScanfoldClosedUptoCardSaid : Prop := Claim7.holds Tryz.pinned (.plain (OpenSpec.upto scanfoldClosedSpec)) scanfoldClosedUptoCard

/-- THE SECOND FORM's CARD OF 'texttoolslaw48.ScanfoldArithmetic'. -/
def scanfoldArithmeticUptoCard : Claim7 := { stood := { row := scanfoldArithmeticUptoRow, standIns := [], harness := (true, "f02bd651a9f195a98b095e1c7b73bdb73a634480ea00f16d0e4f0ffb09495af4"), looks := true }, kinds := [], alts := [], laidByText := true, laidKinds := [.data, .data, .data, .data, .data, .data, .pinned, .pinned], laidTests := true, laidLooks := .later }
def ScanfoldArithmeticUptoCardSaid : Prop := Claim7.holds Tryz.pinned (.plain (OpenSpec.upto scanfoldArithmeticSpec)) scanfoldArithmeticUptoCard

/-- THE SECOND FORM's CARD OF 'texttoolslaw48.ScanfoldTexts'. -/
def scanfoldTextsUptoCard : Claim7 := { stood := { row := scanfoldTextsUptoRow, standIns := [], harness := (true, "f02bd651a9f195a98b095e1c7b73bdb73a634480ea00f16d0e4f0ffb09495af4"), looks := true }, kinds := [], alts := [], laidByText := true, laidKinds := [.data, .data, .data, .data, .data, .data, .pinned, .pinned], laidTests := true, laidLooks := .later }
def ScanfoldTextsUptoCardSaid : Prop := Claim7.holds Tryz.pinned (.plain (OpenSpec.upto scanfoldTextsSpec)) scanfoldTextsUptoCard
end Rows
end Go.Proofs.YthfceininiemdaaGreatDoor
