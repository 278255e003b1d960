/-
  DERIVED. GIVEN WITH THE SEED: THE CARDS: each row of YtfgocjmkefeeeaaDoorRows.lean that lists a variable, with what it lists TIED to the program's text (the seventh form; the later family's looks); each row that meets fmt, with fmt's text TOLD by the authors' own Lean function (tested against real Go, not proved from fmt's source: count such statements apart). THE CARD IS WHAT COUNTS. Prove the row's statement (the work); the ties are given (YtfgocjmkefeeeaaDoorTie.lean); close each card by the builder's one call (the guide's Derived/Test/ToyasCard.lean, 'card_holds'). Laid BY PROGRAM, IN A SANDBOX (cutbox-door.mjs). By AI agents, Wed Nov 11 2026. No macro, syntax, notation, axiom, sorry.
-/
import Derived.Test.YtfgocjmkefeeeaaDoorRows
import GoSem.ClaimSeven
namespace Go.Proofs.YtfgocjmkefeeeaaDoor
namespace Rows

/-- THE TIED CARD OF 'texttoolslaw43.PrintfChecks'. -/
def printfChecksCard : Claim7 := { stood := { row := printfChecksRow, standIns := [], harness := (true, "e4bb232768c10fbab2fbe2f199596803c938ef2369a4dd1e69e44e9dc0474119"), looks := false }, kinds := [], alts := [], laidByText := true, laidKinds := [.data, .data, .data, .data, .data, .pinned, .pinned], laidTests := true, laidLooks := .later }
def PrintfChecksCardSaid : Prop := Claim7.holds Tryd.pinned (.plain (OpenSpec.ofChange printfChecksSpec)) printfChecksCard

/-- THE TIED CARD OF 'texttoolslaw43.PrintfPads'. -/
def printfPadsCard : Claim7 := { stood := { row := printfPadsRow, standIns := [], harness := (true, "e4bb232768c10fbab2fbe2f199596803c938ef2369a4dd1e69e44e9dc0474119"), looks := false }, kinds := [], alts := [], laidByText := true, laidKinds := [.data, .data, .data, .data, .data, .pinned, .pinned], laidTests := true, laidLooks := .later }
def PrintfPadsCardSaid : Prop := Claim7.holds Tryd.pinned (.plain (OpenSpec.ofChange printfPadsSpec)) printfPadsCard

/-- THE TIED CARD OF 'texttoolslaw43.PrintfPlain'. -/
def printfPlainCard : Claim7 := { stood := { row := printfPlainRow, standIns := [], harness := (true, "e4bb232768c10fbab2fbe2f199596803c938ef2369a4dd1e69e44e9dc0474119"), looks := false }, kinds := [], alts := [], laidByText := true, laidKinds := [.data, .data, .data, .data, .data, .pinned, .pinned], laidTests := true, laidLooks := .later }
def PrintfPlainCardSaid : Prop := Claim7.holds Tryd.pinned (.plain (OpenSpec.ofChange printfPlainSpec)) printfPlainCard

/-- THE TIED CARD OF 'texttoolslaw43.PrintfJoins'. -/
def printfJoinsCard : Claim7 := { stood := { row := printfJoinsRow, standIns := [], harness := (true, "e4bb232768c10fbab2fbe2f199596803c938ef2369a4dd1e69e44e9dc0474119"), looks := false }, kinds := [], alts := [], laidByText := true, laidKinds := [.data, .data, .data, .data, .data, .pinned, .pinned], laidTests := true, laidLooks := .later }
def PrintfJoinsCardSaid : Prop := Claim7.holds Tryd.pinned (.plain (OpenSpec.ofChange printfJoinsSpec)) printfJoinsCard

/-- THE TIED CARD OF 'texttoolslaw43.PrintfNumbers'. -/
def printfNumbersCard : Claim7 := { stood := { row := printfNumbersRow, standIns := [], harness := (true, "e4bb232768c10fbab2fbe2f199596803c938ef2369a4dd1e69e44e9dc0474119"), looks := false }, kinds := [], alts := [], laidByText := true, laidKinds := [.data, .data, .data, .data, .data, .pinned, .pinned], laidTests := true, laidLooks := .later }
def PrintfNumbersCardSaid : Prop := Claim7.holds Tryd.pinned (.plain (OpenSpec.ofChange printfNumbersSpec)) printfNumbersCard

/-- THE SECOND FORM's CARD OF 'texttoolslaw43.PrintfChecks'. -/
def printfChecksUptoCard : Claim7 := { stood := { row := printfChecksUptoRow, standIns := [], harness := (true, "e4bb232768c10fbab2fbe2f199596803c938ef2369a4dd1e69e44e9dc0474119"), looks := false }, kinds := [], alts := [], laidByText := true, laidKinds := [.data, .data, .data, .data, .data, .pinned, .pinned], laidTests := true, laidLooks := .later }
def PrintfChecksUptoCardSaid : Prop := Claim7.holds Tryd.pinned (.plain (OpenSpec.upto printfChecksSpec)) printfChecksUptoCard

/-- THE SECOND FORM's CARD OF 'texttoolslaw43.PrintfPads'. -/
def printfPadsUptoCard : Claim7 := { stood := { row := printfPadsUptoRow, standIns := [], harness := (true, "e4bb232768c10fbab2fbe2f199596803c938ef2369a4dd1e69e44e9dc0474119"), looks := false }, kinds := [], alts := [], laidByText := true, laidKinds := [.data, .data, .data, .data, .data, .pinned, .pinned], laidTests := true, laidLooks := .later }
def PrintfPadsUptoCardSaid : Prop := Claim7.holds Tryd.pinned (.plain (OpenSpec.upto printfPadsSpec)) printfPadsUptoCard

/-- THE SECOND FORM's CARD OF 'texttoolslaw43.PrintfPlain'. -/
def printfPlainUptoCard : Claim7 := { stood := { row := printfPlainUptoRow, standIns := [], harness := (true, "e4bb232768c10fbab2fbe2f199596803c938ef2369a4dd1e69e44e9dc0474119"), looks := false }, kinds := [], alts := [], laidByText := true, laidKinds := [.data, .data, .data, .data, .data, .pinned, .pinned], laidTests := true, laidLooks := .later }
def PrintfPlainUptoCardSaid : Prop := Claim7.holds Tryd.pinned (.plain (OpenSpec.upto printfPlainSpec)) printfPlainUptoCard

/-- THE SECOND FORM's CARD OF 'texttoolslaw43.PrintfJoins'. -/
def printfJoinsUptoCard : Claim7 := { stood := { row := printfJoinsUptoRow, standIns := [], harness := (true, "e4bb232768c10fbab2fbe2f199596803c938ef2369a4dd1e69e44e9dc0474119"), looks := false }, kinds := [], alts := [], laidByText := true, laidKinds := [.data, .data, .data, .data, .data, .pinned, .pinned], laidTests := true, laidLooks := .later }
def PrintfJoinsUptoCardSaid : Prop := Claim7.holds Tryd.pinned (.plain (OpenSpec.upto printfJoinsSpec)) printfJoinsUptoCard

/-- THE SECOND FORM's CARD OF 'texttoolslaw43.PrintfNumbers'. -/
def printfNumbersUptoCard : Claim7 := { stood := { row := printfNumbersUptoRow, standIns := [], harness := (true, "e4bb232768c10fbab2fbe2f199596803c938ef2369a4dd1e69e44e9dc0474119"), looks := false }, kinds := [], alts := [], laidByText := true, laidKinds := [.data, .data, .data, .data, .data, .pinned, .pinned], laidTests := true, laidLooks := .later }
def PrintfNumbersUptoCardSaid : Prop := Claim7.holds Tryd.pinned (.plain (OpenSpec.upto printfNumbersSpec)) printfNumbersUptoCard
end Rows
end Go.Proofs.YtfgocjmkefeeeaaDoor
