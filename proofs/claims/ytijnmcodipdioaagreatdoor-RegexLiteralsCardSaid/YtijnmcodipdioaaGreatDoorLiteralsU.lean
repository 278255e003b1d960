/- A part of the proof: definitions and lemmas. -/
import Derived.Test.YtijnmcodipdioaaGreatDoorLiteralsA
import Derived.Test.YtijnmcodipdioaaGreatDoorLiteralsB
import Derived.Test.YtijnmcodipdioaaGreatDoorLiteralsC
import Derived.Test.YtijnmcodipdioaaGreatDoorLiteralsD
import Derived.Test.YtijnmcodipdioaaGreatDoorLiteralsE
import Derived.Test.YtijnmcodipdioaaGreatDoorLiteralsF
import Derived.Test.YtijnmcodipdioaaGreatDoorLiteralsG
import Derived.Test.YtijnmcodipdioaaGreatDoorLiteralsQ
namespace Go.Proofs.Rl
open Go Go.Ef
noncomputable section
set_option maxRecDepth 1000000
set_option maxHeartbeats 0
theorem f6b : ansN 1000 6 [aStr pat2, iA 1, locA] (.tup [.agg x2V, iA 0, iA 0]) = true := by kernel_rfl
theorem f6c : ansN 1000 6 [aStr pat3, iA 1, locA] (.tup [.agg x3V, iA 0, iA 0]) = true := by kernel_rfl
end
end Go.Proofs.Rl
