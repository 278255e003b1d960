/-
  DERIVED. GIVEN WITH THE SEED: THE CARDS: each row of YtijnmcodipdioaaGreatDoorRows.lean that lists a variable, with what it lists TIED to the program's text (the seventh form; the later family's looks); each row that meets fmt, with fmt's text TOLD by the authors' own Lean function (tested against real Go, not proved from fmt's source: count such statements apart). THE CARD IS WHAT COUNTS. Prove the row's statement (the work); the ties are given (YtijnmcodipdioaaGreatDoorTie.lean); close each card by the builder's one call (the guide's Derived/Test/ToyasCard.lean, 'card_holds'). Laid BY PROGRAM, IN A SANDBOX (cutbox-door.mjs). By AI agents, Wed Nov 11 2026. No macro, syntax, notation, axiom, sorry.
-/
import Derived.Test.YtijnmcodipdioaaGreatDoorRows
import GoSem.ClaimSeven
namespace Go.Proofs.YtijnmcodipdioaaGreatDoor
namespace Rows

/-- THE TIED CARD OF 'texttoolslaw15.RegexLiterals'. -/
def regexLiteralsCard : Claim7 := { stood := { row := regexLiteralsRow, standIns := [], harness := (true, "e371cc380562bc2745a27d36e52e16c5b14ae091af4d4497de075b73051ee7b6"), looks := true }, kinds := [], alts := [], laidByText := true, laidKinds := [.data], laidTests := true, laidLooks := .later }
def RegexLiteralsCardSaid : Prop := Claim7.holds Tryz.pinned (.plain (OpenSpec.ofChange regexLiteralsSpec)) regexLiteralsCard

/-- THE SECOND FORM's CARD OF 'texttoolslaw15.RegexLiterals'. -/
def regexLiteralsUptoCard : Claim7 := { stood := { row := regexLiteralsUptoRow, standIns := [], harness := (true, "e371cc380562bc2745a27d36e52e16c5b14ae091af4d4497de075b73051ee7b6"), looks := true }, kinds := [], alts := [], laidByText := true, laidKinds := [.data], laidTests := true, laidLooks := .later }
def RegexLiteralsUptoCardSaid : Prop := Claim7.holds Tryz.pinned (.plain (OpenSpec.upto regexLiteralsSpec)) regexLiteralsUptoCard
end Rows
end Go.Proofs.YtijnmcodipdioaaGreatDoor
