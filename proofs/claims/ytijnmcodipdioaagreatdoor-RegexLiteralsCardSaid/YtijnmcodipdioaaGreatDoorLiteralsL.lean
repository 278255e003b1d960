/- A part of the proof: definitions and lemmas. -/
import Derived.Test.YtijnmcodipdioaaGreatDoorLiteralsA
import Derived.Test.YtijnmcodipdioaaGreatDoorLiteralsB
import Derived.Test.YtijnmcodipdioaaGreatDoorLiteralsC
import Derived.Test.YtijnmcodipdioaaGreatDoorLiteralsD
import Derived.Test.YtijnmcodipdioaaGreatDoorLiteralsE
import Derived.Test.YtijnmcodipdioaaGreatDoorLiteralsF
namespace Go.Proofs.Rl
open Go Go.Ef
noncomputable section
set_option maxRecDepth 1000000
set_option maxHeartbeats 0
theorem R12_1 (b0 : UInt8) : R12 [b0] := ⟨by kernel_rfl, fun _ h => Eq.mp (by kernel_rfl) h⟩
theorem R12_2 (b0 b1 : UInt8) : R12 [b0, b1] := ⟨by kernel_rfl, fun _ h => Eq.mp (by kernel_rfl) h⟩
theorem R12_3 (b0 b1 b2 : UInt8) : R12 [b0, b1, b2] := ⟨by kernel_rfl, fun _ h => Eq.mp (by kernel_rfl) h⟩
theorem R12_4 (b0 b1 b2 b3 : UInt8) : R12 [b0, b1, b2, b3] := ⟨by kernel_rfl, fun _ h => Eq.mp (by kernel_rfl) h⟩
theorem R12_5 (b0 b1 b2 b3 b4 : UInt8) : R12 [b0, b1, b2, b3, b4] := ⟨by kernel_rfl, fun _ h => Eq.mp (by kernel_rfl) h⟩
theorem R12_6 (b0 b1 b2 b3 b4 b5 : UInt8) : R12 [b0, b1, b2, b3, b4, b5] := ⟨by kernel_rfl, fun _ h => Eq.mp (by kernel_rfl) h⟩
theorem R12_7 (b0 b1 b2 b3 b4 b5 b6 : UInt8) : R12 [b0, b1, b2, b3, b4, b5, b6] := ⟨by kernel_rfl, fun _ h => Eq.mp (by kernel_rfl) h⟩
theorem R12_8 (b0 b1 b2 b3 b4 b5 b6 b7 : UInt8) : R12 [b0, b1, b2, b3, b4, b5, b6, b7] := ⟨by kernel_rfl, fun _ h => Eq.mp (by kernel_rfl) h⟩
theorem R12_9 (b0 b1 b2 b3 b4 b5 b6 b7 b8 : UInt8) : R12 [b0, b1, b2, b3, b4, b5, b6, b7, b8] := ⟨by kernel_rfl, fun _ h => Eq.mp (by kernel_rfl) h⟩
theorem R12_10 (b0 b1 b2 b3 b4 b5 b6 b7 b8 b9 : UInt8) : R12 [b0, b1, b2, b3, b4, b5, b6, b7, b8, b9] := ⟨by kernel_rfl, fun _ h => Eq.mp (by kernel_rfl) h⟩
theorem R12_11 (b0 b1 b2 b3 b4 b5 b6 b7 b8 b9 b10 : UInt8) : R12 [b0, b1, b2, b3, b4, b5, b6, b7, b8, b9, b10] := ⟨by kernel_rfl, fun _ h => Eq.mp (by kernel_rfl) h⟩
theorem R12_12 (b0 b1 b2 b3 b4 b5 b6 b7 b8 b9 b10 b11 : UInt8) : R12 [b0, b1, b2, b3, b4, b5, b6, b7, b8, b9, b10, b11] := ⟨by kernel_rfl, fun _ h => Eq.mp (by kernel_rfl) h⟩
theorem R12_13 (b0 b1 b2 b3 b4 b5 b6 b7 b8 b9 b10 b11 b12 : UInt8) : R12 [b0, b1, b2, b3, b4, b5, b6, b7, b8, b9, b10, b11, b12] := ⟨by kernel_rfl, fun _ h => Eq.mp (by kernel_rfl) h⟩
theorem R12_14 (b0 b1 b2 b3 b4 b5 b6 b7 b8 b9 b10 b11 b12 b13 : UInt8) : R12 [b0, b1, b2, b3, b4, b5, b6, b7, b8, b9, b10, b11, b12, b13] := ⟨by kernel_rfl, fun _ h => Eq.mp (by kernel_rfl) h⟩
theorem R12_15 (b0 b1 b2 b3 b4 b5 b6 b7 b8 b9 b10 b11 b12 b13 b14 : UInt8) : R12 [b0, b1, b2, b3, b4, b5, b6, b7, b8, b9, b10, b11, b12, b13, b14] := ⟨by kernel_rfl, fun _ h => Eq.mp (by kernel_rfl) h⟩
theorem R12_16 (b0 b1 b2 b3 b4 b5 b6 b7 b8 b9 b10 b11 b12 b13 b14 b15 : UInt8) : R12 [b0, b1, b2, b3, b4, b5, b6, b7, b8, b9, b10, b11, b12, b13, b14, b15] := ⟨by kernel_rfl, fun _ h => Eq.mp (by kernel_rfl) h⟩
theorem R12_17 (b0 b1 b2 b3 b4 b5 b6 b7 b8 b9 b10 b11 b12 b13 b14 b15 b16 : UInt8) : R12 [b0, b1, b2, b3, b4, b5, b6, b7, b8, b9, b10, b11, b12, b13, b14, b15, b16] := ⟨by kernel_rfl, fun _ h => Eq.mp (by kernel_rfl) h⟩
theorem R12_18 (b0 b1 b2 b3 b4 b5 b6 b7 b8 b9 b10 b11 b12 b13 b14 b15 b16 b17 : UInt8) : R12 [b0, b1, b2, b3, b4, b5, b6, b7, b8, b9, b10, b11, b12, b13, b14, b15, b16, b17] := ⟨by kernel_rfl, fun _ h => Eq.mp (by kernel_rfl) h⟩
theorem R12_19 (b0 b1 b2 b3 b4 b5 b6 b7 b8 b9 b10 b11 b12 b13 b14 b15 b16 b17 b18 : UInt8) : R12 [b0, b1, b2, b3, b4, b5, b6, b7, b8, b9, b10, b11, b12, b13, b14, b15, b16, b17, b18] := ⟨by kernel_rfl, fun _ h => Eq.mp (by kernel_rfl) h⟩
theorem R12_20 (b0 b1 b2 b3 b4 b5 b6 b7 b8 b9 b10 b11 b12 b13 b14 b15 b16 b17 b18 b19 : UInt8) : R12 [b0, b1, b2, b3, b4, b5, b6, b7, b8, b9, b10, b11, b12, b13, b14, b15, b16, b17, b18, b19] := ⟨by kernel_rfl, fun _ h => Eq.mp (by kernel_rfl) h⟩
theorem R13_1 (b0 : UInt8) : R13 [b0] := ⟨by kernel_rfl, fun _ h => Eq.mp (by kernel_rfl) h⟩
theorem R13_2 (b0 b1 : UInt8) : R13 [b0, b1] := ⟨by kernel_rfl, fun _ h => Eq.mp (by kernel_rfl) h⟩
theorem R13_3 (b0 b1 b2 : UInt8) : R13 [b0, b1, b2] := ⟨by kernel_rfl, fun _ h => Eq.mp (by kernel_rfl) h⟩
theorem R13_4 (b0 b1 b2 b3 : UInt8) : R13 [b0, b1, b2, b3] := ⟨by kernel_rfl, fun _ h => Eq.mp (by kernel_rfl) h⟩
theorem R13_5 (b0 b1 b2 b3 b4 : UInt8) : R13 [b0, b1, b2, b3, b4] := ⟨by kernel_rfl, fun _ h => Eq.mp (by kernel_rfl) h⟩
theorem R13_6 (b0 b1 b2 b3 b4 b5 : UInt8) : R13 [b0, b1, b2, b3, b4, b5] := ⟨by kernel_rfl, fun _ h => Eq.mp (by kernel_rfl) h⟩
theorem R13_7 (b0 b1 b2 b3 b4 b5 b6 : UInt8) : R13 [b0, b1, b2, b3, b4, b5, b6] := ⟨by kernel_rfl, fun _ h => Eq.mp (by kernel_rfl) h⟩
theorem R13_8 (b0 b1 b2 b3 b4 b5 b6 b7 : UInt8) : R13 [b0, b1, b2, b3, b4, b5, b6, b7] := ⟨by kernel_rfl, fun _ h => Eq.mp (by kernel_rfl) h⟩
theorem R13_9 (b0 b1 b2 b3 b4 b5 b6 b7 b8 : UInt8) : R13 [b0, b1, b2, b3, b4, b5, b6, b7, b8] := ⟨by kernel_rfl, fun _ h => Eq.mp (by kernel_rfl) h⟩
theorem R13_10 (b0 b1 b2 b3 b4 b5 b6 b7 b8 b9 : UInt8) : R13 [b0, b1, b2, b3, b4, b5, b6, b7, b8, b9] := ⟨by kernel_rfl, fun _ h => Eq.mp (by kernel_rfl) h⟩
theorem R13_11 (b0 b1 b2 b3 b4 b5 b6 b7 b8 b9 b10 : UInt8) : R13 [b0, b1, b2, b3, b4, b5, b6, b7, b8, b9, b10] := ⟨by kernel_rfl, fun _ h => Eq.mp (by kernel_rfl) h⟩
theorem R13_12 (b0 b1 b2 b3 b4 b5 b6 b7 b8 b9 b10 b11 : UInt8) : R13 [b0, b1, b2, b3, b4, b5, b6, b7, b8, b9, b10, b11] := ⟨by kernel_rfl, fun _ h => Eq.mp (by kernel_rfl) h⟩
theorem R13_13 (b0 b1 b2 b3 b4 b5 b6 b7 b8 b9 b10 b11 b12 : UInt8) : R13 [b0, b1, b2, b3, b4, b5, b6, b7, b8, b9, b10, b11, b12] := ⟨by kernel_rfl, fun _ h => Eq.mp (by kernel_rfl) h⟩
theorem R13_14 (b0 b1 b2 b3 b4 b5 b6 b7 b8 b9 b10 b11 b12 b13 : UInt8) : R13 [b0, b1, b2, b3, b4, b5, b6, b7, b8, b9, b10, b11, b12, b13] := ⟨by kernel_rfl, fun _ h => Eq.mp (by kernel_rfl) h⟩
theorem R13_15 (b0 b1 b2 b3 b4 b5 b6 b7 b8 b9 b10 b11 b12 b13 b14 : UInt8) : R13 [b0, b1, b2, b3, b4, b5, b6, b7, b8, b9, b10, b11, b12, b13, b14] := ⟨by kernel_rfl, fun _ h => Eq.mp (by kernel_rfl) h⟩
theorem R13_16 (b0 b1 b2 b3 b4 b5 b6 b7 b8 b9 b10 b11 b12 b13 b14 b15 : UInt8) : R13 [b0, b1, b2, b3, b4, b5, b6, b7, b8, b9, b10, b11, b12, b13, b14, b15] := ⟨by kernel_rfl, fun _ h => Eq.mp (by kernel_rfl) h⟩
theorem R13_17 (b0 b1 b2 b3 b4 b5 b6 b7 b8 b9 b10 b11 b12 b13 b14 b15 b16 : UInt8) : R13 [b0, b1, b2, b3, b4, b5, b6, b7, b8, b9, b10, b11, b12, b13, b14, b15, b16] := ⟨by kernel_rfl, fun _ h => Eq.mp (by kernel_rfl) h⟩
theorem R13_18 (b0 b1 b2 b3 b4 b5 b6 b7 b8 b9 b10 b11 b12 b13 b14 b15 b16 b17 : UInt8) : R13 [b0, b1, b2, b3, b4, b5, b6, b7, b8, b9, b10, b11, b12, b13, b14, b15, b16, b17] := ⟨by kernel_rfl, fun _ h => Eq.mp (by kernel_rfl) h⟩
theorem R13_19 (b0 b1 b2 b3 b4 b5 b6 b7 b8 b9 b10 b11 b12 b13 b14 b15 b16 b17 b18 : UInt8) : R13 [b0, b1, b2, b3, b4, b5, b6, b7, b8, b9, b10, b11, b12, b13, b14, b15, b16, b17, b18] := ⟨by kernel_rfl, fun _ h => Eq.mp (by kernel_rfl) h⟩
theorem R13_20 (b0 b1 b2 b3 b4 b5 b6 b7 b8 b9 b10 b11 b12 b13 b14 b15 b16 b17 b18 b19 : UInt8) : R13 [b0, b1, b2, b3, b4, b5, b6, b7, b8, b9, b10, b11, b12, b13, b14, b15, b16, b17, b18, b19] := ⟨by kernel_rfl, fun _ h => Eq.mp (by kernel_rfl) h⟩
theorem R25_1 (b0 : UInt8) : R25 [b0] := ⟨by kernel_rfl, fun _ h => Eq.mp (by kernel_rfl) h⟩
theorem R25_2 (b0 b1 : UInt8) : R25 [b0, b1] := ⟨by kernel_rfl, fun _ h => Eq.mp (by kernel_rfl) h⟩
theorem R25_3 (b0 b1 b2 : UInt8) : R25 [b0, b1, b2] := ⟨by kernel_rfl, fun _ h => Eq.mp (by kernel_rfl) h⟩
theorem R25_4 (b0 b1 b2 b3 : UInt8) : R25 [b0, b1, b2, b3] := ⟨by kernel_rfl, fun _ h => Eq.mp (by kernel_rfl) h⟩
theorem R25_5 (b0 b1 b2 b3 b4 : UInt8) : R25 [b0, b1, b2, b3, b4] := ⟨by kernel_rfl, fun _ h => Eq.mp (by kernel_rfl) h⟩
theorem R25_6 (b0 b1 b2 b3 b4 b5 : UInt8) : R25 [b0, b1, b2, b3, b4, b5] := ⟨by kernel_rfl, fun _ h => Eq.mp (by kernel_rfl) h⟩
theorem R25_7 (b0 b1 b2 b3 b4 b5 b6 : UInt8) : R25 [b0, b1, b2, b3, b4, b5, b6] := ⟨by kernel_rfl, fun _ h => Eq.mp (by kernel_rfl) h⟩
theorem R25_8 (b0 b1 b2 b3 b4 b5 b6 b7 : UInt8) : R25 [b0, b1, b2, b3, b4, b5, b6, b7] := ⟨by kernel_rfl, fun _ h => Eq.mp (by kernel_rfl) h⟩
theorem R25_9 (b0 b1 b2 b3 b4 b5 b6 b7 b8 : UInt8) : R25 [b0, b1, b2, b3, b4, b5, b6, b7, b8] := ⟨by kernel_rfl, fun _ h => Eq.mp (by kernel_rfl) h⟩
theorem R25_10 (b0 b1 b2 b3 b4 b5 b6 b7 b8 b9 : UInt8) : R25 [b0, b1, b2, b3, b4, b5, b6, b7, b8, b9] := ⟨by kernel_rfl, fun _ h => Eq.mp (by kernel_rfl) h⟩
theorem R25_11 (b0 b1 b2 b3 b4 b5 b6 b7 b8 b9 b10 : UInt8) : R25 [b0, b1, b2, b3, b4, b5, b6, b7, b8, b9, b10] := ⟨by kernel_rfl, fun _ h => Eq.mp (by kernel_rfl) h⟩
theorem R25_12 (b0 b1 b2 b3 b4 b5 b6 b7 b8 b9 b10 b11 : UInt8) : R25 [b0, b1, b2, b3, b4, b5, b6, b7, b8, b9, b10, b11] := ⟨by kernel_rfl, fun _ h => Eq.mp (by kernel_rfl) h⟩
theorem R25_13 (b0 b1 b2 b3 b4 b5 b6 b7 b8 b9 b10 b11 b12 : UInt8) : R25 [b0, b1, b2, b3, b4, b5, b6, b7, b8, b9, b10, b11, b12] := ⟨by kernel_rfl, fun _ h => Eq.mp (by kernel_rfl) h⟩
theorem R25_14 (b0 b1 b2 b3 b4 b5 b6 b7 b8 b9 b10 b11 b12 b13 : UInt8) : R25 [b0, b1, b2, b3, b4, b5, b6, b7, b8, b9, b10, b11, b12, b13] := ⟨by kernel_rfl, fun _ h => Eq.mp (by kernel_rfl) h⟩
theorem R25_15 (b0 b1 b2 b3 b4 b5 b6 b7 b8 b9 b10 b11 b12 b13 b14 : UInt8) : R25 [b0, b1, b2, b3, b4, b5, b6, b7, b8, b9, b10, b11, b12, b13, b14] := ⟨by kernel_rfl, fun _ h => Eq.mp (by kernel_rfl) h⟩
theorem R25_16 (b0 b1 b2 b3 b4 b5 b6 b7 b8 b9 b10 b11 b12 b13 b14 b15 : UInt8) : R25 [b0, b1, b2, b3, b4, b5, b6, b7, b8, b9, b10, b11, b12, b13, b14, b15] := ⟨by kernel_rfl, fun _ h => Eq.mp (by kernel_rfl) h⟩
theorem R25_17 (b0 b1 b2 b3 b4 b5 b6 b7 b8 b9 b10 b11 b12 b13 b14 b15 b16 : UInt8) : R25 [b0, b1, b2, b3, b4, b5, b6, b7, b8, b9, b10, b11, b12, b13, b14, b15, b16] := ⟨by kernel_rfl, fun _ h => Eq.mp (by kernel_rfl) h⟩
theorem R25_18 (b0 b1 b2 b3 b4 b5 b6 b7 b8 b9 b10 b11 b12 b13 b14 b15 b16 b17 : UInt8) : R25 [b0, b1, b2, b3, b4, b5, b6, b7, b8, b9, b10, b11, b12, b13, b14, b15, b16, b17] := ⟨by kernel_rfl, fun _ h => Eq.mp (by kernel_rfl) h⟩
theorem R25_19 (b0 b1 b2 b3 b4 b5 b6 b7 b8 b9 b10 b11 b12 b13 b14 b15 b16 b17 b18 : UInt8) : R25 [b0, b1, b2, b3, b4, b5, b6, b7, b8, b9, b10, b11, b12, b13, b14, b15, b16, b17, b18] := ⟨by kernel_rfl, fun _ h => Eq.mp (by kernel_rfl) h⟩
theorem R25_20 (b0 b1 b2 b3 b4 b5 b6 b7 b8 b9 b10 b11 b12 b13 b14 b15 b16 b17 b18 b19 : UInt8) : R25 [b0, b1, b2, b3, b4, b5, b6, b7, b8, b9, b10, b11, b12, b13, b14, b15, b16, b17, b18, b19] := ⟨by kernel_rfl, fun _ h => Eq.mp (by kernel_rfl) h⟩
end
end Go.Proofs.Rl
