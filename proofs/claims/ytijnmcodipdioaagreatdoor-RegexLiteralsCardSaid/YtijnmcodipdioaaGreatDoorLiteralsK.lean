/- A part of the proof: definitions and lemmas. -/
import Derived.Test.YtijnmcodipdioaaGreatDoorLiteralsA
import Derived.Test.YtijnmcodipdioaaGreatDoorLiteralsB
import Derived.Test.YtijnmcodipdioaaGreatDoorLiteralsC
import Derived.Test.YtijnmcodipdioaaGreatDoorLiteralsD
import Derived.Test.YtijnmcodipdioaaGreatDoorLiteralsE
import Derived.Test.YtijnmcodipdioaaGreatDoorLiteralsF
namespace Go.Proofs.Rl
open Go Go.Ef
noncomputable section
set_option maxRecDepth 1000000
set_option maxHeartbeats 0
theorem R14_1 (b0 : UInt8) : R14 [b0] := ⟨by kernel_rfl, fun _ h => Eq.mp (by kernel_rfl) h⟩
theorem R14_2 (b0 b1 : UInt8) : R14 [b0, b1] := ⟨by kernel_rfl, fun _ h => Eq.mp (by kernel_rfl) h⟩
theorem R14_3 (b0 b1 b2 : UInt8) : R14 [b0, b1, b2] := ⟨by kernel_rfl, fun _ h => Eq.mp (by kernel_rfl) h⟩
theorem R14_4 (b0 b1 b2 b3 : UInt8) : R14 [b0, b1, b2, b3] := ⟨by kernel_rfl, fun _ h => Eq.mp (by kernel_rfl) h⟩
theorem R14_5 (b0 b1 b2 b3 b4 : UInt8) : R14 [b0, b1, b2, b3, b4] := ⟨by kernel_rfl, fun _ h => Eq.mp (by kernel_rfl) h⟩
theorem R14_6 (b0 b1 b2 b3 b4 b5 : UInt8) : R14 [b0, b1, b2, b3, b4, b5] := ⟨by kernel_rfl, fun _ h => Eq.mp (by kernel_rfl) h⟩
theorem R14_7 (b0 b1 b2 b3 b4 b5 b6 : UInt8) : R14 [b0, b1, b2, b3, b4, b5, b6] := ⟨by kernel_rfl, fun _ h => Eq.mp (by kernel_rfl) h⟩
theorem R14_8 (b0 b1 b2 b3 b4 b5 b6 b7 : UInt8) : R14 [b0, b1, b2, b3, b4, b5, b6, b7] := ⟨by kernel_rfl, fun _ h => Eq.mp (by kernel_rfl) h⟩
theorem R14_9 (b0 b1 b2 b3 b4 b5 b6 b7 b8 : UInt8) : R14 [b0, b1, b2, b3, b4, b5, b6, b7, b8] := ⟨by kernel_rfl, fun _ h => Eq.mp (by kernel_rfl) h⟩
theorem R14_10 (b0 b1 b2 b3 b4 b5 b6 b7 b8 b9 : UInt8) : R14 [b0, b1, b2, b3, b4, b5, b6, b7, b8, b9] := ⟨by kernel_rfl, fun _ h => Eq.mp (by kernel_rfl) h⟩
theorem R14_11 (b0 b1 b2 b3 b4 b5 b6 b7 b8 b9 b10 : UInt8) : R14 [b0, b1, b2, b3, b4, b5, b6, b7, b8, b9, b10] := ⟨by kernel_rfl, fun _ h => Eq.mp (by kernel_rfl) h⟩
theorem R14_12 (b0 b1 b2 b3 b4 b5 b6 b7 b8 b9 b10 b11 : UInt8) : R14 [b0, b1, b2, b3, b4, b5, b6, b7, b8, b9, b10, b11] := ⟨by kernel_rfl, fun _ h => Eq.mp (by kernel_rfl) h⟩
theorem R14_13 (b0 b1 b2 b3 b4 b5 b6 b7 b8 b9 b10 b11 b12 : UInt8) : R14 [b0, b1, b2, b3, b4, b5, b6, b7, b8, b9, b10, b11, b12] := ⟨by kernel_rfl, fun _ h => Eq.mp (by kernel_rfl) h⟩
theorem R14_14 (b0 b1 b2 b3 b4 b5 b6 b7 b8 b9 b10 b11 b12 b13 : UInt8) : R14 [b0, b1, b2, b3, b4, b5, b6, b7, b8, b9, b10, b11, b12, b13] := ⟨by kernel_rfl, fun _ h => Eq.mp (by kernel_rfl) h⟩
theorem R14_15 (b0 b1 b2 b3 b4 b5 b6 b7 b8 b9 b10 b11 b12 b13 b14 : UInt8) : R14 [b0, b1, b2, b3, b4, b5, b6, b7, b8, b9, b10, b11, b12, b13, b14] := ⟨by kernel_rfl, fun _ h => Eq.mp (by kernel_rfl) h⟩
theorem R14_16 (b0 b1 b2 b3 b4 b5 b6 b7 b8 b9 b10 b11 b12 b13 b14 b15 : UInt8) : R14 [b0, b1, b2, b3, b4, b5, b6, b7, b8, b9, b10, b11, b12, b13, b14, b15] := ⟨by kernel_rfl, fun _ h => Eq.mp (by kernel_rfl) h⟩
theorem R14_17 (b0 b1 b2 b3 b4 b5 b6 b7 b8 b9 b10 b11 b12 b13 b14 b15 b16 : UInt8) : R14 [b0, b1, b2, b3, b4, b5, b6, b7, b8, b9, b10, b11, b12, b13, b14, b15, b16] := ⟨by kernel_rfl, fun _ h => Eq.mp (by kernel_rfl) h⟩
theorem R14_18 (b0 b1 b2 b3 b4 b5 b6 b7 b8 b9 b10 b11 b12 b13 b14 b15 b16 b17 : UInt8) : R14 [b0, b1, b2, b3, b4, b5, b6, b7, b8, b9, b10, b11, b12, b13, b14, b15, b16, b17] := ⟨by kernel_rfl, fun _ h => Eq.mp (by kernel_rfl) h⟩
theorem R14_19 (b0 b1 b2 b3 b4 b5 b6 b7 b8 b9 b10 b11 b12 b13 b14 b15 b16 b17 b18 : UInt8) : R14 [b0, b1, b2, b3, b4, b5, b6, b7, b8, b9, b10, b11, b12, b13, b14, b15, b16, b17, b18] := ⟨by kernel_rfl, fun _ h => Eq.mp (by kernel_rfl) h⟩
theorem R14_20 (b0 b1 b2 b3 b4 b5 b6 b7 b8 b9 b10 b11 b12 b13 b14 b15 b16 b17 b18 b19 : UInt8) : R14 [b0, b1, b2, b3, b4, b5, b6, b7, b8, b9, b10, b11, b12, b13, b14, b15, b16, b17, b18, b19] := ⟨by kernel_rfl, fun _ h => Eq.mp (by kernel_rfl) h⟩
end
end Go.Proofs.Rl
