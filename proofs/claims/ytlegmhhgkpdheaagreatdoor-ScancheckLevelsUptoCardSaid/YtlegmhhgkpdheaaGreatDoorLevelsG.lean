/- A part of the proof: definitions and lemmas. -/
import Derived.Test.YtlegmhhgkpdheaaGreatDoorLevelsA
import Derived.Test.YtlegmhhgkpdheaaGreatDoorLevelsB
import Derived.Test.YtlegmhhgkpdheaaGreatDoorLevelsC
import Derived.Test.YtlegmhhgkpdheaaGreatDoorLevelsD
import Derived.Test.YtlegmhhgkpdheaaGreatDoorLevelsE
import Derived.Test.YtlegmhhgkpdheaaGreatDoorLevelsF
namespace Go.Proofs.Sc
open Go Go.Ef
noncomputable section
set_option maxRecDepth 100000
set_option maxHeartbeats 4000000
theorem hB0 (k : Nat) : run5 (tS (tN k) 32) = some (3, atS 32 (tS (tN k) 32)) := by kernel_rfl
theorem hC1z : run5 (tS (tN 30) 1) = some (3, atS 32 (tS (tN 30) 1)) := by kernel_rfl
theorem hC3z : run5 (tS (tN 28) 3) = some (3, atS 32 (tS (tN 28) 3)) := by kernel_rfl
theorem hC5z : run5 (tS (tN 26) 5) = some (3, atS 32 (tS (tN 26) 5)) := by kernel_rfl
theorem hC7z : run5 (tS (tN 24) 7) = some (3, atS 32 (tS (tN 24) 7)) := by kernel_rfl
theorem hC9z : run5 (tS (tN 22) 9) = some (3, atS 32 (tS (tN 22) 9)) := by kernel_rfl
theorem hC11z : run5 (tS (tN 20) 11) = some (3, atS 32 (tS (tN 20) 11)) := by kernel_rfl
theorem hC13z : run5 (tS (tN 18) 13) = some (3, atS 32 (tS (tN 18) 13)) := by kernel_rfl
theorem hC15z : run5 (tS (tN 16) 15) = some (3, atS 32 (tS (tN 16) 15)) := by kernel_rfl
theorem hC17z : run5 (tS (tN 14) 17) = some (3, atS 32 (tS (tN 14) 17)) := by kernel_rfl
theorem hC19z : run5 (tS (tN 12) 19) = some (3, atS 32 (tS (tN 12) 19)) := by kernel_rfl
theorem hC21z : run5 (tS (tN 10) 21) = some (3, atS 32 (tS (tN 10) 21)) := by kernel_rfl
theorem hC23z : run5 (tS (tN 8) 23) = some (3, atS 32 (tS (tN 8) 23)) := by kernel_rfl
theorem hC25z : run5 (tS (tN 6) 25) = some (3, atS 32 (tS (tN 6) 25)) := by kernel_rfl
theorem hC27z : run5 (tS (tN 4) 27) = some (3, atS 32 (tS (tN 4) 27)) := by kernel_rfl
theorem hC29z : run5 (tS (tN 2) 29) = some (3, atS 32 (tS (tN 2) 29)) := by kernel_rfl
theorem hC31z : run5 (tS (tN 0) 31) = some (3, atS 32 (tS (tN 0) 31)) := by kernel_rfl
end
end Go.Proofs.Sc
