/- A part of the proof: definitions and lemmas. -/
import Derived.Test.YtlegmhhgkpdheaaGreatDoorLevelsA
import Derived.Test.YtlegmhhgkpdheaaGreatDoorLevelsB
import Derived.Test.YtlegmhhgkpdheaaGreatDoorLevelsC
import Derived.Test.YtlegmhhgkpdheaaGreatDoorLevelsD
import Derived.Test.YtlegmhhgkpdheaaGreatDoorLevelsE
import Derived.Test.YtlegmhhgkpdheaaGreatDoorLevelsF
namespace Go.Proofs.Sc
open Go Go.Ef
noncomputable section
set_option maxRecDepth 100000
set_option maxHeartbeats 4000000
theorem hC0z : run5 (tS (tN 31) 0) = some (3, atS 32 (tS (tN 31) 0)) := by kernel_rfl
theorem hC2z : run5 (tS (tN 29) 2) = some (3, atS 32 (tS (tN 29) 2)) := by kernel_rfl
theorem hC4z : run5 (tS (tN 27) 4) = some (3, atS 32 (tS (tN 27) 4)) := by kernel_rfl
theorem hC6z : run5 (tS (tN 25) 6) = some (3, atS 32 (tS (tN 25) 6)) := by kernel_rfl
theorem hC8z : run5 (tS (tN 23) 8) = some (3, atS 32 (tS (tN 23) 8)) := by kernel_rfl
theorem hC10z : run5 (tS (tN 21) 10) = some (3, atS 32 (tS (tN 21) 10)) := by kernel_rfl
theorem hC12z : run5 (tS (tN 19) 12) = some (3, atS 32 (tS (tN 19) 12)) := by kernel_rfl
theorem hC14z : run5 (tS (tN 17) 14) = some (3, atS 32 (tS (tN 17) 14)) := by kernel_rfl
theorem hC16z : run5 (tS (tN 15) 16) = some (3, atS 32 (tS (tN 15) 16)) := by kernel_rfl
theorem hC18z : run5 (tS (tN 13) 18) = some (3, atS 32 (tS (tN 13) 18)) := by kernel_rfl
theorem hC20z : run5 (tS (tN 11) 20) = some (3, atS 32 (tS (tN 11) 20)) := by kernel_rfl
theorem hC22z : run5 (tS (tN 9) 22) = some (3, atS 32 (tS (tN 9) 22)) := by kernel_rfl
theorem hC24z : run5 (tS (tN 7) 24) = some (3, atS 32 (tS (tN 7) 24)) := by kernel_rfl
theorem hC26z : run5 (tS (tN 5) 26) = some (3, atS 32 (tS (tN 5) 26)) := by kernel_rfl
theorem hC28z : run5 (tS (tN 3) 28) = some (3, atS 32 (tS (tN 3) 28)) := by kernel_rfl
theorem hC30z : run5 (tS (tN 1) 30) = some (3, atS 32 (tS (tN 1) 30)) := by kernel_rfl
end
end Go.Proofs.Sc
