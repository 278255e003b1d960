/-
  DERIVED. GIVEN WITH THE SEED: THE CARDS: each row of YtdnekbapjlbeaaaGreatDoorRows.lean that lists a variable, with what it lists TIED to the program's text (the seventh form; the later family's looks); each row that meets fmt, with fmt's text TOLD by the authors' own Lean function (tested against real Go, not proved from fmt's source: count such statements apart). THE CARD IS WHAT COUNTS. Prove the row's statement (the work); the ties are given (YtdnekbapjlbeaaaGreatDoorTie.lean); close each card by the builder's one call (the guide's Derived/Test/ToyasCard.lean, 'card_holds'). Laid BY PROGRAM, IN A SANDBOX (cutbox-door.mjs). By AI agents, Wed Nov 11 2026. No macro, syntax, notation, axiom, sorry.
-/
import Derived.Test.YtdnekbapjlbeaaaGreatDoorRows
import GoSem.ClaimSeven
namespace Go.Proofs.YtdnekbapjlbeaaaGreatDoor
namespace Rows

/-- THE TIED CARD OF 'texttoolslaw46.BuiltinParts'. -/
def builtinPartsCard : Claim7 := { stood := { row := builtinPartsRow, standIns := [], harness := (true, "53e23c043c962d135aaee17f7b9e9a211dff86897abf0bb7f237d6753f155d6b"), looks := true }, kinds := [], alts := [], laidByText := true, laidKinds := [.data, .data, .data, .data, .data, .data, .pinned, .pinned], laidTests := true, laidLooks := .later }
def BuiltinPartsCardSaid : Prop := Claim7.holds Tryz.pinned (.plain (OpenSpec.ofChange builtinPartsSpec)) builtinPartsCard

/-- THE TIED CARD OF 'texttoolslaw46.BuiltinCases'. -/
def builtinCasesCard : Claim7 := { stood := { row := builtinCasesRow, standIns := [], harness := (true, "53e23c043c962d135aaee17f7b9e9a211dff86897abf0bb7f237d6753f155d6b"), looks := true }, kinds := [], alts := [], laidByText := true, laidKinds := [.data, .data, .data, .data, .data, .data, .pinned, .pinned], laidTests := true, laidLooks := .later }
def BuiltinCasesCardSaid : Prop := Claim7.holds Tryz.pinned (.plain (OpenSpec.ofChange builtinCasesSpec)) builtinCasesCard

/-- THE TIED CARD OF 'texttoolslaw46.BuiltinOther'. -/
def builtinOtherCard : Claim7 := { stood := { row := builtinOtherRow, standIns := [], harness := (true, "53e23c043c962d135aaee17f7b9e9a211dff86897abf0bb7f237d6753f155d6b"), looks := true }, kinds := [], alts := [], laidByText := true, laidKinds := [.data, .data, .data, .data, .data, .data, .pinned, .pinned], laidTests := true, laidLooks := .later }
def BuiltinOtherCardSaid : Prop := Claim7.holds Tryz.pinned (.plain (OpenSpec.ofChange builtinOtherSpec)) builtinOtherCard

/-- THE TIED CARD OF 'texttoolslaw44.RecordDivides'. -/
def recordDividesCard : Claim7 := { stood := { row := recordDividesRow, standIns := [], harness := (true, "53e23c043c962d135aaee17f7b9e9a211dff86897abf0bb7f237d6753f155d6b"), looks := true }, kinds := [], alts := [], laidByText := true, laidKinds := [.data, .data, .pinned], laidTests := true, laidLooks := .later }
def RecordDividesCardSaid : Prop := Claim7.holds Tryz.pinned (.plain (OpenSpec.ofChange recordDividesSpec)) recordDividesCard

/-- THE TIED CARD OF 'texttoolslaw44.RecordLimits'. -/
def recordLimitsCard : Claim7 := { stood := { row := recordLimitsRow, standIns := [], harness := (true, "53e23c043c962d135aaee17f7b9e9a211dff86897abf0bb7f237d6753f155d6b"), looks := true }, kinds := [], alts := [], laidByText := true, laidKinds := [.data, .data, .pinned], laidTests := true, laidLooks := .later }
def RecordLimitsCardSaid : Prop := Claim7.holds Tryz.pinned (.plain (OpenSpec.ofChange recordLimitsSpec)) recordLimitsCard

/-- THE TIED CARD OF 'texttoolslaw44.RecordJoins'. -/
def recordJoinsCard : Claim7 := { stood := { row := recordJoinsRow, standIns := [], harness := (true, "53e23c043c962d135aaee17f7b9e9a211dff86897abf0bb7f237d6753f155d6b"), looks := true }, kinds := [], alts := [], laidByText := true, laidKinds := [.data, .data, .pinned], laidTests := true, laidLooks := .later }
def RecordJoinsCardSaid : Prop := Claim7.holds Tryz.pinned (.plain (OpenSpec.ofChange recordJoinsSpec)) recordJoinsCard

/-- THE TIED CARD OF 'texttoolslaw44.RecordEnds'. -/
def recordEndsCard : Claim7 := { stood := { row := recordEndsRow, standIns := [], harness := (true, "53e23c043c962d135aaee17f7b9e9a211dff86897abf0bb7f237d6753f155d6b"), looks := true }, kinds := [], alts := [], laidByText := true, laidKinds := [.data, .data, .pinned], laidTests := true, laidLooks := .later }
def RecordEndsCardSaid : Prop := Claim7.holds Tryz.pinned (.plain (OpenSpec.ofChange recordEndsSpec)) recordEndsCard

/-- THE TIED CARD OF 'texttoolslaw44.RecordParagraphs'. -/
def recordParagraphsCard : Claim7 := { stood := { row := recordParagraphsRow, standIns := [], harness := (true, "53e23c043c962d135aaee17f7b9e9a211dff86897abf0bb7f237d6753f155d6b"), looks := true }, kinds := [], alts := [], laidByText := true, laidKinds := [.data, .data, .pinned], laidTests := true, laidLooks := .later }
def RecordParagraphsCardSaid : Prop := Claim7.holds Tryz.pinned (.plain (OpenSpec.ofChange recordParagraphsSpec)) recordParagraphsCard

/-- THE SECOND FORM's CARD OF 'texttoolslaw46.BuiltinParts'. -/
def builtinPartsUptoCard : Claim7 := { stood := { row := builtinPartsUptoRow, standIns := [], harness := (true, "53e23c043c962d135aaee17f7b9e9a211dff86897abf0bb7f237d6753f155d6b"), looks := true }, kinds := [], alts := [], laidByText := true, laidKinds := [.data, .data, .data, .data, .data, .data, .pinned, .pinned], laidTests := true, laidLooks := .later }
def BuiltinPartsUptoCardSaid : Prop := Claim7.holds Tryz.pinned (.plain (OpenSpec.upto builtinPartsSpec)) builtinPartsUptoCard

/-- THE SECOND FORM's CARD OF 'texttoolslaw46.BuiltinCases'. -/
def builtinCasesUptoCard : Claim7 := { stood := { row := builtinCasesUptoRow, standIns := [], harness := (true, "53e23c043c962d135aaee17f7b9e9a211dff86897abf0bb7f237d6753f155d6b"), looks := true }, kinds := [], alts := [], laidByText := true, laidKinds := [.data, .data, .data, .data, .data, .data, .pinned, .pinned], laidTests := true, laidLooks := .later }
def BuiltinCasesUptoCardSaid : Prop := Claim7.holds Tryz.pinned (.plain (OpenSpec.upto builtinCasesSpec)) builtinCasesUptoCard

/-- THE SECOND FORM's CARD OF 'texttoolslaw46.BuiltinOther'. -/
def builtinOtherUptoCard : Claim7 := { stood := { row := builtinOtherUptoRow, standIns := [], harness := (true, "53e23c043c962d135aaee17f7b9e9a211dff86897abf0bb7f237d6753f155d6b"), looks := true }, kinds := [], alts := [], laidByText := true, laidKinds := [.data, .data, .data, .data, .data, .data, .pinned, .pinned], laidTests := true, laidLooks := .later }
def BuiltinOtherUptoCardSaid : Prop := Claim7.holds Tryz.pinned (.plain (OpenSpec.upto builtinOtherSpec)) builtinOtherUptoCard

/-- THE SECOND FORM's CARD OF 'texttoolslaw44.RecordDivides'. -/
def recordDividesUptoCard : Claim7 := { stood := { row := recordDividesUptoRow, standIns := [], harness := (true, "53e23c043c962d135aaee17f7b9e9a211dff86897abf0bb7f237d6753f155d6b"), looks := true }, kinds := [], alts := [], laidByText := true, laidKinds := [.data, .data, .pinned], laidTests := true, laidLooks := .later }
def RecordDividesUptoCardSaid : Prop := Claim7.holds Tryz.pinned (.plain (OpenSpec.upto recordDividesSpec)) recordDividesUptoCard

/-- THE SECOND FORM's CARD OF 'texttoolslaw44.RecordLimits'. -/
def recordLimitsUptoCard : Claim7 := { stood := { row := recordLimitsUptoRow, standIns := [], harness := (true, "53e23c043c962d135aaee17f7b9e9a211dff86897abf0bb7f237d6753f155d6b"), looks := true }, kinds := [], alts := [], laidByText := true, laidKinds := [.data, .data, .pinned], laidTests := true, laidLooks := .later }
def RecordLimitsUptoCardSaid : Prop := Claim7.holds Tryz.pinned (.plain (OpenSpec.upto recordLimitsSpec)) recordLimitsUptoCard

/-- THE SECOND FORM's CARD OF 'texttoolslaw44.RecordJoins'. -/
def recordJoinsUptoCard : Claim7 := { stood := { row := recordJoinsUptoRow, standIns := [], harness := (true, "53e23c043c962d135aaee17f7b9e9a211dff86897abf0bb7f237d6753f155d6b"), looks := true }, kinds := [], alts := [], laidByText := true, laidKinds := [.data, .data, .pinned], laidTests := true, laidLooks := .later }
def RecordJoinsUptoCardSaid : Prop := Claim7.holds Tryz.pinned (.plain (OpenSpec.upto recordJoinsSpec)) recordJoinsUptoCard

/-- THE SECOND FORM's CARD OF 'texttoolslaw44.RecordEnds'. -/
def recordEndsUptoCard : Claim7 := { stood := { row := recordEndsUptoRow, standIns := [], harness := (true, "53e23c043c962d135aaee17f7b9e9a211dff86897abf0bb7f237d6753f155d6b"), looks := true }, kinds := [], alts := [], laidByText := true, laidKinds := [.data, .data, .pinned], laidTests := true, laidLooks := .later }
def RecordEndsUptoCardSaid : Prop := Claim7.holds Tryz.pinned (.plain (OpenSpec.upto recordEndsSpec)) recordEndsUptoCard

/-- THE SECOND FORM's CARD OF 'texttoolslaw44.RecordParagraphs'. -/
def recordParagraphsUptoCard : Claim7 := { stood := { row := recordParagraphsUptoRow, standIns := [], harness := (true, "53e23c043c962d135aaee17f7b9e9a211dff86897abf0bb7f237d6753f155d6b"), looks := true }, kinds := [], alts := [], laidByText := true, laidKinds := [.data, .data, .pinned], laidTests := true, laidLooks := .later }
def RecordParagraphsUptoCardSaid : Prop := Claim7.holds Tryz.pinned (.plain (OpenSpec.upto recordParagraphsSpec)) recordParagraphsUptoCard
end Rows
end Go.Proofs.YtdnekbapjlbeaaaGreatDoor
