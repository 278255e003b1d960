/- A part of the proof: definitions and lemmas. -/
import Derived.Test.YtlegmhhgkpdheaaGreatDoorLevelsA
import Derived.Test.YtlegmhhgkpdheaaGreatDoorLevelsB
import Derived.Test.YtlegmhhgkpdheaaGreatDoorLevelsC
import Derived.Test.YtlegmhhgkpdheaaGreatDoorLevelsD
import Derived.Test.YtlegmhhgkpdheaaGreatDoorLevelsE
import Derived.Test.YtlegmhhgkpdheaaGreatDoorLevelsF
namespace Go.Proofs.Sc
open Go Go.Ef
noncomputable section
set_option maxRecDepth 100000
set_option maxHeartbeats 4000000
theorem hC0s (c : Nat) : run5 (tS (tN (c + 32)) 0) = some (3, atS 32 (tS (tN (c + 32)) 0)) := by kernel_rfl
theorem hC2s (c : Nat) : run5 (tS (tN (c + 30)) 2) = some (3, atS 32 (tS (tN (c + 30)) 2)) := by kernel_rfl
theorem hC4s (c : Nat) : run5 (tS (tN (c + 28)) 4) = some (3, atS 32 (tS (tN (c + 28)) 4)) := by kernel_rfl
theorem hC6s (c : Nat) : run5 (tS (tN (c + 26)) 6) = some (3, atS 32 (tS (tN (c + 26)) 6)) := by kernel_rfl
theorem hC8s (c : Nat) : run5 (tS (tN (c + 24)) 8) = some (3, atS 32 (tS (tN (c + 24)) 8)) := by kernel_rfl
theorem hC10s (c : Nat) : run5 (tS (tN (c + 22)) 10) = some (3, atS 32 (tS (tN (c + 22)) 10)) := by kernel_rfl
theorem hC12s (c : Nat) : run5 (tS (tN (c + 20)) 12) = some (3, atS 32 (tS (tN (c + 20)) 12)) := by kernel_rfl
theorem hC14s (c : Nat) : run5 (tS (tN (c + 18)) 14) = some (3, atS 32 (tS (tN (c + 18)) 14)) := by kernel_rfl
theorem hC16s (c : Nat) : run5 (tS (tN (c + 16)) 16) = some (3, atS 32 (tS (tN (c + 16)) 16)) := by kernel_rfl
theorem hC18s (c : Nat) : run5 (tS (tN (c + 14)) 18) = some (3, atS 32 (tS (tN (c + 14)) 18)) := by kernel_rfl
theorem hC20s (c : Nat) : run5 (tS (tN (c + 12)) 20) = some (3, atS 32 (tS (tN (c + 12)) 20)) := by kernel_rfl
theorem hC22s (c : Nat) : run5 (tS (tN (c + 10)) 22) = some (3, atS 32 (tS (tN (c + 10)) 22)) := by kernel_rfl
theorem hC24s (c : Nat) : run5 (tS (tN (c + 8)) 24) = some (3, atS 32 (tS (tN (c + 8)) 24)) := by kernel_rfl
theorem hC26s (c : Nat) : run5 (tS (tN (c + 6)) 26) = some (3, atS 32 (tS (tN (c + 6)) 26)) := by kernel_rfl
theorem hC28s (c : Nat) : run5 (tS (tN (c + 4)) 28) = some (3, atS 32 (tS (tN (c + 4)) 28)) := by kernel_rfl
theorem hC30s (c : Nat) : run5 (tS (tN (c + 2)) 30) = some (3, atS 32 (tS (tN (c + 2)) 30)) := by kernel_rfl
end
end Go.Proofs.Sc
