/- A part of the proof: definitions and lemmas. -/
import Derived.Test.YtlegmhhgkpdheaaGreatDoorLevelsA
import Derived.Test.YtlegmhhgkpdheaaGreatDoorLevelsB
import Derived.Test.YtlegmhhgkpdheaaGreatDoorLevelsC
import Derived.Test.YtlegmhhgkpdheaaGreatDoorLevelsD
import Derived.Test.YtlegmhhgkpdheaaGreatDoorLevelsE
import Derived.Test.YtlegmhhgkpdheaaGreatDoorLevelsF
namespace Go.Proofs.Sc
open Go Go.Ef
noncomputable section
set_option maxRecDepth 100000
set_option maxHeartbeats 4000000
theorem hB1 (k c : Nat) : run5 (tS (tN k) (c + 33)) = some (3, atS 32 (tS (tN k) (c + 33))) := by kernel_rfl
theorem hC1s (c : Nat) : run5 (tS (tN (c + 31)) 1) = some (3, atS 32 (tS (tN (c + 31)) 1)) := by kernel_rfl
theorem hC3s (c : Nat) : run5 (tS (tN (c + 29)) 3) = some (3, atS 32 (tS (tN (c + 29)) 3)) := by kernel_rfl
theorem hC5s (c : Nat) : run5 (tS (tN (c + 27)) 5) = some (3, atS 32 (tS (tN (c + 27)) 5)) := by kernel_rfl
theorem hC7s (c : Nat) : run5 (tS (tN (c + 25)) 7) = some (3, atS 32 (tS (tN (c + 25)) 7)) := by kernel_rfl
theorem hC9s (c : Nat) : run5 (tS (tN (c + 23)) 9) = some (3, atS 32 (tS (tN (c + 23)) 9)) := by kernel_rfl
theorem hC11s (c : Nat) : run5 (tS (tN (c + 21)) 11) = some (3, atS 32 (tS (tN (c + 21)) 11)) := by kernel_rfl
theorem hC13s (c : Nat) : run5 (tS (tN (c + 19)) 13) = some (3, atS 32 (tS (tN (c + 19)) 13)) := by kernel_rfl
theorem hC15s (c : Nat) : run5 (tS (tN (c + 17)) 15) = some (3, atS 32 (tS (tN (c + 17)) 15)) := by kernel_rfl
theorem hC17s (c : Nat) : run5 (tS (tN (c + 15)) 17) = some (3, atS 32 (tS (tN (c + 15)) 17)) := by kernel_rfl
theorem hC19s (c : Nat) : run5 (tS (tN (c + 13)) 19) = some (3, atS 32 (tS (tN (c + 13)) 19)) := by kernel_rfl
theorem hC21s (c : Nat) : run5 (tS (tN (c + 11)) 21) = some (3, atS 32 (tS (tN (c + 11)) 21)) := by kernel_rfl
theorem hC23s (c : Nat) : run5 (tS (tN (c + 9)) 23) = some (3, atS 32 (tS (tN (c + 9)) 23)) := by kernel_rfl
theorem hC25s (c : Nat) : run5 (tS (tN (c + 7)) 25) = some (3, atS 32 (tS (tN (c + 7)) 25)) := by kernel_rfl
theorem hC27s (c : Nat) : run5 (tS (tN (c + 5)) 27) = some (3, atS 32 (tS (tN (c + 5)) 27)) := by kernel_rfl
theorem hC29s (c : Nat) : run5 (tS (tN (c + 3)) 29) = some (3, atS 32 (tS (tN (c + 3)) 29)) := by kernel_rfl
theorem hC31s (c : Nat) : run5 (tS (tN (c + 1)) 31) = some (3, atS 32 (tS (tN (c + 1)) 31)) := by kernel_rfl
end
end Go.Proofs.Sc
