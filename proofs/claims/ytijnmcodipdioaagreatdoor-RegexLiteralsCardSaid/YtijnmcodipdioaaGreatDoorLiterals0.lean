/- A part of the proof: definitions and lemmas. -/
import Derived.Test.YtijnmcodipdioaaGreatDoorLiteralsA
import Derived.Test.YtijnmcodipdioaaGreatDoorLiteralsB
import Derived.Test.YtijnmcodipdioaaGreatDoorLiteralsC
import Derived.Test.YtijnmcodipdioaaGreatDoorLiteralsD
import Derived.Test.YtijnmcodipdioaaGreatDoorLiteralsE
import Derived.Test.YtijnmcodipdioaaGreatDoorLiteralsF
import Derived.Test.YtijnmcodipdioaaGreatDoorLiteralsZ
namespace Go.Proofs.Rl
open Go Go.Ef
noncomputable section
set_option maxRecDepth 1000000
set_option maxHeartbeats 0
theorem R143_1 (b0 : UInt8) : R143 [b0] := ⟨fun _ _ h => Eq.mp (by kernel_rfl) h⟩
theorem R143_2 (b0 b1 : UInt8) : R143 [b0, b1] := ⟨fun _ _ h => Eq.mp (by kernel_rfl) h⟩
theorem R143_3 (b0 b1 b2 : UInt8) : R143 [b0, b1, b2] := ⟨fun _ _ h => Eq.mp (by kernel_rfl) h⟩
theorem R143_4 (b0 b1 b2 b3 : UInt8) : R143 [b0, b1, b2, b3] := ⟨fun _ _ h => Eq.mp (by kernel_rfl) h⟩
theorem R143_5 (b0 b1 b2 b3 b4 : UInt8) : R143 [b0, b1, b2, b3, b4] := ⟨fun _ _ h => Eq.mp (by kernel_rfl) h⟩
theorem R143_6 (b0 b1 b2 b3 b4 b5 : UInt8) : R143 [b0, b1, b2, b3, b4, b5] := ⟨fun _ _ h => Eq.mp (by kernel_rfl) h⟩
theorem R143_7 (b0 b1 b2 b3 b4 b5 b6 : UInt8) : R143 [b0, b1, b2, b3, b4, b5, b6] := ⟨fun _ _ h => Eq.mp (by kernel_rfl) h⟩
theorem R143_8 (b0 b1 b2 b3 b4 b5 b6 b7 : UInt8) : R143 [b0, b1, b2, b3, b4, b5, b6, b7] := ⟨fun _ _ h => Eq.mp (by kernel_rfl) h⟩
theorem R143_9 (b0 b1 b2 b3 b4 b5 b6 b7 b8 : UInt8) : R143 [b0, b1, b2, b3, b4, b5, b6, b7, b8] := ⟨fun _ _ h => Eq.mp (by kernel_rfl) h⟩
theorem R143_10 (b0 b1 b2 b3 b4 b5 b6 b7 b8 b9 : UInt8) : R143 [b0, b1, b2, b3, b4, b5, b6, b7, b8, b9] := ⟨fun _ _ h => Eq.mp (by kernel_rfl) h⟩
theorem R143_11 (b0 b1 b2 b3 b4 b5 b6 b7 b8 b9 b10 : UInt8) : R143 [b0, b1, b2, b3, b4, b5, b6, b7, b8, b9, b10] := ⟨fun _ _ h => Eq.mp (by kernel_rfl) h⟩
theorem R143_12 (b0 b1 b2 b3 b4 b5 b6 b7 b8 b9 b10 b11 : UInt8) : R143 [b0, b1, b2, b3, b4, b5, b6, b7, b8, b9, b10, b11] := ⟨fun _ _ h => Eq.mp (by kernel_rfl) h⟩
theorem R143_13 (b0 b1 b2 b3 b4 b5 b6 b7 b8 b9 b10 b11 b12 : UInt8) : R143 [b0, b1, b2, b3, b4, b5, b6, b7, b8, b9, b10, b11, b12] := ⟨fun _ _ h => Eq.mp (by kernel_rfl) h⟩
theorem R143_14 (b0 b1 b2 b3 b4 b5 b6 b7 b8 b9 b10 b11 b12 b13 : UInt8) : R143 [b0, b1, b2, b3, b4, b5, b6, b7, b8, b9, b10, b11, b12, b13] := ⟨fun _ _ h => Eq.mp (by kernel_rfl) h⟩
theorem R143_15 (b0 b1 b2 b3 b4 b5 b6 b7 b8 b9 b10 b11 b12 b13 b14 : UInt8) : R143 [b0, b1, b2, b3, b4, b5, b6, b7, b8, b9, b10, b11, b12, b13, b14] := ⟨fun _ _ h => Eq.mp (by kernel_rfl) h⟩
theorem R143_16 (b0 b1 b2 b3 b4 b5 b6 b7 b8 b9 b10 b11 b12 b13 b14 b15 : UInt8) : R143 [b0, b1, b2, b3, b4, b5, b6, b7, b8, b9, b10, b11, b12, b13, b14, b15] := ⟨fun _ _ h => Eq.mp (by kernel_rfl) h⟩
theorem R143_17 (b0 b1 b2 b3 b4 b5 b6 b7 b8 b9 b10 b11 b12 b13 b14 b15 b16 : UInt8) : R143 [b0, b1, b2, b3, b4, b5, b6, b7, b8, b9, b10, b11, b12, b13, b14, b15, b16] := ⟨fun _ _ h => Eq.mp (by kernel_rfl) h⟩
theorem R143_18 (b0 b1 b2 b3 b4 b5 b6 b7 b8 b9 b10 b11 b12 b13 b14 b15 b16 b17 : UInt8) : R143 [b0, b1, b2, b3, b4, b5, b6, b7, b8, b9, b10, b11, b12, b13, b14, b15, b16, b17] := ⟨fun _ _ h => Eq.mp (by kernel_rfl) h⟩
theorem R143_19 (b0 b1 b2 b3 b4 b5 b6 b7 b8 b9 b10 b11 b12 b13 b14 b15 b16 b17 b18 : UInt8) : R143 [b0, b1, b2, b3, b4, b5, b6, b7, b8, b9, b10, b11, b12, b13, b14, b15, b16, b17, b18] := ⟨fun _ _ h => Eq.mp (by kernel_rfl) h⟩
theorem R143_20 (b0 b1 b2 b3 b4 b5 b6 b7 b8 b9 b10 b11 b12 b13 b14 b15 b16 b17 b18 b19 : UInt8) : R143 [b0, b1, b2, b3, b4, b5, b6, b7, b8, b9, b10, b11, b12, b13, b14, b15, b16, b17, b18, b19] := ⟨fun _ _ h => Eq.mp (by kernel_rfl) h⟩
end
end Go.Proofs.Rl
