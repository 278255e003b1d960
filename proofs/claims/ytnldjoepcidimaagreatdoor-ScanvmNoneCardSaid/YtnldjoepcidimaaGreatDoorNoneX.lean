/- A part of the proof: definitions and lemmas. -/
import Derived.Test.YtnldjoepcidimaaGreatDoorNoneA
import Derived.Test.YtnldjoepcidimaaGreatDoorNoneW
namespace Go.Proofs.YtnldjoepcidimaaGreatDoor
open Go Go.Ef
namespace none50
theorem t7 (os : Os) (tape : Tape) : varsDone Tryz.prog 400 (varsId Tryz.prog) os tape = true := by kernel_rfl
end none50
end Go.Proofs.YtnldjoepcidimaaGreatDoor
