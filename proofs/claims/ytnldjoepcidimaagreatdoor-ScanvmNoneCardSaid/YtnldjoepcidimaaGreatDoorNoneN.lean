/- A part of the proof: definitions and lemmas. -/
import Derived.Test.YtnldjoepcidimaaGreatDoorNoneA
import Derived.Test.YtnldjoepcidimaaGreatDoorNoneB
import Derived.Test.YtnldjoepcidimaaGreatDoorNoneC
import Derived.Test.YtnldjoepcidimaaGreatDoorNoneD
import Derived.Test.YtnldjoepcidimaaGreatDoorNoneE
import Derived.Test.YtnldjoepcidimaaGreatDoorNoneF
import Derived.Test.YtnldjoepcidimaaGreatDoorNoneG
import Derived.Test.YtnldjoepcidimaaGreatDoorNoneH
import Derived.Test.YtnldjoepcidimaaGreatDoorNoneI
import Derived.Test.YtnldjoepcidimaaGreatDoorNoneJ
import Derived.Test.YtnldjoepcidimaaGreatDoorNoneK
namespace Go.Proofs
open Go Go.Ef
noncomputable section
namespace Vm
set_option maxRecDepth 1000000
set_option maxHeartbeats 0
theorem ans3 : ansG cfg Tryz.prog 1000 6 [tS src3] (.tup [code3, tT true]) = true := by kernel_rfl
end Vm
end
end Go.Proofs
