/- A part of the proof: definitions and lemmas. -/
import Derived.Test.YtijnmcodipdioaaGreatDoorLiteralsA
import Derived.Test.YtijnmcodipdioaaGreatDoorLiteralsB
import Derived.Test.YtijnmcodipdioaaGreatDoorLiteralsC
import Derived.Test.YtijnmcodipdioaaGreatDoorLiteralsD
import Derived.Test.YtijnmcodipdioaaGreatDoorLiteralsE
import Derived.Test.YtijnmcodipdioaaGreatDoorLiteralsF
import Derived.Test.YtijnmcodipdioaaGreatDoorLiteralsG
import Derived.Test.YtijnmcodipdioaaGreatDoorLiteralsQ
namespace Go.Proofs.Rl
open Go Go.Ef
noncomputable section
set_option maxRecDepth 1000000
set_option maxHeartbeats 0
theorem f10 : ansN 1000 10 [.agg x3V, aStr [97, 44, 32, 98, 44, 44, 99]] r10V = true := by kernel_rfl
end
end Go.Proofs.Rl
