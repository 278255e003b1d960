/-
  DERIVED. GIVEN WITH THE SEED: THE CARDS: each row of YtnldjoepcidimaaGreatDoorRows.lean that lists a variable, with what it lists TIED to the program's text (the seventh form; the later family's looks); each row that meets fmt, with fmt's text TOLD by the authors' own Lean function (tested against real Go, not proved from fmt's source: count such statements apart). THE CARD IS WHAT COUNTS. Prove the row's statement (the work); the ties are given (YtnldjoepcidimaaGreatDoorTie.lean); close each card by the builder's one call (the guide's Derived/Test/ToyasCard.lean, 'card_holds'). Laid BY PROGRAM, IN A SANDBOX (cutbox-door.mjs). By AI agents, Wed Nov 11 2026. No macro, syntax, notation, axiom, sorry.
-/
import Derived.Test.YtnldjoepcidimaaGreatDoorRows
import GoSem.ClaimSeven
namespace Go.Proofs.YtnldjoepcidimaaGreatDoor
namespace Rows

/-- THE TIED CARD OF 'texttoolslaw50.ScanvmFollows'. -/
def scanvmFollowsCard : Claim7 := { stood := { row := scanvmFollowsRow, standIns := [], harness := (true, "b2adb39daf2c2f3e967458b2ade53bfb7171fb93794547aaa3adad019bca8c7f"), looks := true }, kinds := [], alts := [], laidByText := true, laidKinds := [.data, .data, .data, .data, .listed, .pinned, .data, .data, .data, .pinned], laidTests := true, laidLooks := .later }
def ScanvmFollowsCardSaid : Prop := Claim7.holds Tryz.pinned (.plain (OpenSpec.ofChange scanvmFollowsSpec)) scanvmFollowsCard

/-- THE TIED CARD OF 'texttoolslaw50.ScanvmDone'. -/
def scanvmDoneCard : Claim7 := { stood := { row := scanvmDoneRow, standIns := [], harness := (true, "b2adb39daf2c2f3e967458b2ade53bfb7171fb93794547aaa3adad019bca8c7f"), looks := true }, kinds := [], alts := [], laidByText := true, laidKinds := [.data, .data, .data, .data, .listed, .pinned, .data, .data, .data, .pinned], laidTests := true, laidLooks := .later }
def ScanvmDoneCardSaid : Prop := Claim7.holds Tryz.pinned (.plain (OpenSpec.ofChange scanvmDoneSpec)) scanvmDoneCard

/-- THE TIED CARD OF 'texttoolslaw50.ScanvmNone'. -/
def scanvmNoneCard : Claim7 := { stood := { row := scanvmNoneRow, standIns := [], harness := (true, "b2adb39daf2c2f3e967458b2ade53bfb7171fb93794547aaa3adad019bca8c7f"), looks := true }, kinds := [], alts := [], laidByText := true, laidKinds := [.data, .data, .data, .pinned, .data, .data, .listed, .data, .data, .pinned], laidTests := true, laidLooks := .later }
def ScanvmNoneCardSaid : Prop := Claim7.holds Tryz.pinned (.plain (OpenSpec.ofChange scanvmNoneSpec)) scanvmNoneCard

/-- THE SECOND FORM's CARD OF 'texttoolslaw50.ScanvmFollows'. -/
def scanvmFollowsUptoCard : Claim7 := { stood := { row := scanvmFollowsUptoRow, standIns := [], harness := (true, "b2adb39daf2c2f3e967458b2ade53bfb7171fb93794547aaa3adad019bca8c7f"), looks := true }, kinds := [], alts := [], laidByText := true, laidKinds := [.data, .data, .data, .data, .listed, .pinned, .data, .data, .data, .pinned], laidTests := true, laidLooks := .later }
def ScanvmFollowsUptoCardSaid : Prop := Claim7.holds Tryz.pinned (.plain (OpenSpec.upto scanvmFollowsSpec)) scanvmFollowsUptoCard

/-- THE SECOND FORM's CARD OF 'texttoolslaw50.ScanvmDone'. -/
def scanvmDoneUptoCard : Claim7 := { stood := { row := scanvmDoneUptoRow, standIns := [], harness := (true, "b2adb39daf2c2f3e967458b2ade53bfb7171fb93794547aaa3adad019bca8c7f"), looks := true }, kinds := [], alts := [], laidByText := true, laidKinds := [.data, .data, .data, .data, .listed, .pinned, .data, .data, .data, .pinned], laidTests := true, laidLooks := .later }
def ScanvmDoneUptoCardSaid : Prop := Claim7.holds Tryz.pinned (.plain (OpenSpec.upto scanvmDoneSpec)) scanvmDoneUptoCard

/-- THE SECOND FORM's CARD OF 'texttoolslaw50.ScanvmNone'. -/
def scanvmNoneUptoCard : Claim7 := { stood := { row := scanvmNoneUptoRow, standIns := [], harness := (true, "b2adb39daf2c2f3e967458b2ade53bfb7171fb93794547aaa3adad019bca8c7f"), looks := true }, kinds := [], alts := [], laidByText := true, laidKinds := [.data, .data, .data, .pinned, .data, .data, .listed, .data, .data, .pinned], laidTests := true, laidLooks := .later }
def ScanvmNoneUptoCardSaid : Prop := Claim7.holds Tryz.pinned (.plain (OpenSpec.upto scanvmNoneSpec)) scanvmNoneUptoCard
end Rows
end Go.Proofs.YtnldjoepcidimaaGreatDoor
