/-
  DERIVED. GIVEN WITH THE SEED: THE CARDS: each row of YtlegmhhgkpdheaaGreatDoorRows.lean that lists a variable, with what it lists TIED to the program's text (the seventh form; the later family's looks); each row that meets fmt, with fmt's text TOLD by the authors' own Lean function (tested against real Go, not proved from fmt's source: count such statements apart). THE CARD IS WHAT COUNTS. Prove the row's statement (the work); the ties are given (YtlegmhhgkpdheaaGreatDoorTie.lean); close each card by the builder's one call (the guide's Derived/Test/ToyasCard.lean, 'card_holds'). Laid BY PROGRAM, IN A SANDBOX (cutbox-door.mjs). By AI agents, Wed Nov 11 2026. No macro, syntax, notation, axiom, sorry.
-/
import Derived.Test.YtlegmhhgkpdheaaGreatDoorRows
import GoSem.ClaimSeven
namespace Go.Proofs.YtlegmhhgkpdheaaGreatDoor
namespace Rows

/-- THE TIED CARD OF 'texttoolslaw41.ScancheckLevels'. -/
def scancheckLevelsCard : Claim7 := { stood := { row := scancheckLevelsRow, standIns := [], harness := (true, "86556fcb7d3e844718507d670b748427e654d498338cf4153b9d603c612c67cb"), looks := false }, kinds := [], alts := [], laidByText := true, laidKinds := [.data, .listed, .data], laidTests := true, laidLooks := .later }
def ScancheckLevelsCardSaid : Prop := Claim7.holds Tryz.pinned (.plain (OpenSpec.ofChange scancheckLevelsSpec)) scancheckLevelsCard

/-- THE SECOND FORM's CARD OF 'texttoolslaw41.ScancheckLevels'. -/
def scancheckLevelsUptoCard : Claim7 := { stood := { row := scancheckLevelsUptoRow, standIns := [], harness := (true, "86556fcb7d3e844718507d670b748427e654d498338cf4153b9d603c612c67cb"), looks := false }, kinds := [], alts := [], laidByText := true, laidKinds := [.data, .listed, .data], laidTests := true, laidLooks := .later }
def ScancheckLevelsUptoCardSaid : Prop := Claim7.holds Tryz.pinned (.plain (OpenSpec.upto scancheckLevelsSpec)) scancheckLevelsUptoCard
end Rows
end Go.Proofs.YtlegmhhgkpdheaaGreatDoor
