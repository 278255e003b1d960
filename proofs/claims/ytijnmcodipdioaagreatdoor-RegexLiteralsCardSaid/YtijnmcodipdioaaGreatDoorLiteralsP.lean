/- A part of the proof: definitions and lemmas. -/
import Derived.Test.YtijnmcodipdioaaGreatDoorLiteralsA
import Derived.Test.YtijnmcodipdioaaGreatDoorLiteralsB
import Derived.Test.YtijnmcodipdioaaGreatDoorLiteralsC
import Derived.Test.YtijnmcodipdioaaGreatDoorLiteralsD
import Derived.Test.YtijnmcodipdioaaGreatDoorLiteralsE
import Derived.Test.YtijnmcodipdioaaGreatDoorLiteralsF
import Derived.Test.YtijnmcodipdioaaGreatDoorLiteralsG
import Derived.Test.YtijnmcodipdioaaGreatDoorLiteralsH
import Derived.Test.YtijnmcodipdioaaGreatDoorLiteralsI
import Derived.Test.YtijnmcodipdioaaGreatDoorLiteralsJ
import Derived.Test.YtijnmcodipdioaaGreatDoorLiteralsK
import Derived.Test.YtijnmcodipdioaaGreatDoorLiteralsL
import Derived.Test.YtijnmcodipdioaaGreatDoorLiteralsM
import Derived.Test.YtijnmcodipdioaaGreatDoorLiteralsN
import Derived.Test.YtijnmcodipdioaaGreatDoorLiteralsO
namespace Go.Proofs.Rl
open Go Go.Ef
noncomputable section
set_option maxRecDepth 1000000
set_option maxHeartbeats 0
theorem R8_1_0 (b0 : UInt8) : R8 0 [b0] := fun _ _ _ h => Eq.mp (by kernel_rfl) h
theorem R8_2_0 (b0 b1 : UInt8) : R8 0 [b0, b1] := fun _ _ _ h => Eq.mp (by kernel_rfl) h
theorem R8_3_0 (b0 b1 b2 : UInt8) : R8 0 [b0, b1, b2] := fun _ _ _ h => Eq.mp (by kernel_rfl) h
theorem R8_4_0 (b0 b1 b2 b3 : UInt8) : R8 0 [b0, b1, b2, b3] := fun _ _ _ h => Eq.mp (by kernel_rfl) h
theorem R8_5_0 (b0 b1 b2 b3 b4 : UInt8) : R8 0 [b0, b1, b2, b3, b4] := fun _ _ _ h => Eq.mp (by kernel_rfl) h
theorem R8_6_0 (b0 b1 b2 b3 b4 b5 : UInt8) : R8 0 [b0, b1, b2, b3, b4, b5] := fun _ _ _ h => Eq.mp (by kernel_rfl) h
theorem R8_7_0 (b0 b1 b2 b3 b4 b5 b6 : UInt8) : R8 0 [b0, b1, b2, b3, b4, b5, b6] := fun _ _ _ h => Eq.mp (by kernel_rfl) h
theorem R8_8_0 (b0 b1 b2 b3 b4 b5 b6 b7 : UInt8) : R8 0 [b0, b1, b2, b3, b4, b5, b6, b7] := fun _ _ _ h => Eq.mp (by kernel_rfl) h
theorem R8_9_0 (b0 b1 b2 b3 b4 b5 b6 b7 b8 : UInt8) : R8 0 [b0, b1, b2, b3, b4, b5, b6, b7, b8] := fun _ _ _ h => Eq.mp (by kernel_rfl) h
theorem R8_10_0 (b0 b1 b2 b3 b4 b5 b6 b7 b8 b9 : UInt8) : R8 0 [b0, b1, b2, b3, b4, b5, b6, b7, b8, b9] := fun _ _ _ h => Eq.mp (by kernel_rfl) h
theorem R8_11_0 (b0 b1 b2 b3 b4 b5 b6 b7 b8 b9 b10 : UInt8) : R8 0 [b0, b1, b2, b3, b4, b5, b6, b7, b8, b9, b10] := fun _ _ _ h => Eq.mp (by kernel_rfl) h
theorem R8_12_0 (b0 b1 b2 b3 b4 b5 b6 b7 b8 b9 b10 b11 : UInt8) : R8 0 [b0, b1, b2, b3, b4, b5, b6, b7, b8, b9, b10, b11] := fun _ _ _ h => Eq.mp (by kernel_rfl) h
theorem R8_13_0 (b0 b1 b2 b3 b4 b5 b6 b7 b8 b9 b10 b11 b12 : UInt8) : R8 0 [b0, b1, b2, b3, b4, b5, b6, b7, b8, b9, b10, b11, b12] := fun _ _ _ h => Eq.mp (by kernel_rfl) h
theorem R8_14_0 (b0 b1 b2 b3 b4 b5 b6 b7 b8 b9 b10 b11 b12 b13 : UInt8) : R8 0 [b0, b1, b2, b3, b4, b5, b6, b7, b8, b9, b10, b11, b12, b13] := fun _ _ _ h => Eq.mp (by kernel_rfl) h
theorem R8_15_0 (b0 b1 b2 b3 b4 b5 b6 b7 b8 b9 b10 b11 b12 b13 b14 : UInt8) : R8 0 [b0, b1, b2, b3, b4, b5, b6, b7, b8, b9, b10, b11, b12, b13, b14] := fun _ _ _ h => Eq.mp (by kernel_rfl) h
theorem R8_16_0 (b0 b1 b2 b3 b4 b5 b6 b7 b8 b9 b10 b11 b12 b13 b14 b15 : UInt8) : R8 0 [b0, b1, b2, b3, b4, b5, b6, b7, b8, b9, b10, b11, b12, b13, b14, b15] := fun _ _ _ h => Eq.mp (by kernel_rfl) h
theorem R8_17_0 (b0 b1 b2 b3 b4 b5 b6 b7 b8 b9 b10 b11 b12 b13 b14 b15 b16 : UInt8) : R8 0 [b0, b1, b2, b3, b4, b5, b6, b7, b8, b9, b10, b11, b12, b13, b14, b15, b16] := fun _ _ _ h => Eq.mp (by kernel_rfl) h
theorem R8_18_0 (b0 b1 b2 b3 b4 b5 b6 b7 b8 b9 b10 b11 b12 b13 b14 b15 b16 b17 : UInt8) : R8 0 [b0, b1, b2, b3, b4, b5, b6, b7, b8, b9, b10, b11, b12, b13, b14, b15, b16, b17] := fun _ _ _ h => Eq.mp (by kernel_rfl) h
theorem R8_19_0 (b0 b1 b2 b3 b4 b5 b6 b7 b8 b9 b10 b11 b12 b13 b14 b15 b16 b17 b18 : UInt8) : R8 0 [b0, b1, b2, b3, b4, b5, b6, b7, b8, b9, b10, b11, b12, b13, b14, b15, b16, b17, b18] := fun _ _ _ h => Eq.mp (by kernel_rfl) h
theorem R8_20_0 (b0 b1 b2 b3 b4 b5 b6 b7 b8 b9 b10 b11 b12 b13 b14 b15 b16 b17 b18 b19 : UInt8) : R8 0 [b0, b1, b2, b3, b4, b5, b6, b7, b8, b9, b10, b11, b12, b13, b14, b15, b16, b17, b18, b19] := fun _ _ _ h => Eq.mp (by kernel_rfl) h
theorem all_R8_0 (l : List UInt8) (hp : l ≠ []) (hn : l.length ≤ 20) : R8 0 l := lit_cases (P := R8 0) R8_1_0 R8_2_0 R8_3_0 R8_4_0 R8_5_0 R8_6_0 R8_7_0 R8_8_0 R8_9_0 R8_10_0 R8_11_0 R8_12_0 R8_13_0 R8_14_0 R8_15_0 R8_16_0 R8_17_0 R8_18_0 R8_19_0 R8_20_0 l hp hn
theorem R8_1_1 (b0 : UInt8) : R8 1 [b0] := fun _ _ _ h => Eq.mp (by kernel_rfl) h
theorem R8_2_1 (b0 b1 : UInt8) : R8 1 [b0, b1] := fun _ _ _ h => Eq.mp (by kernel_rfl) h
theorem R8_3_1 (b0 b1 b2 : UInt8) : R8 1 [b0, b1, b2] := fun _ _ _ h => Eq.mp (by kernel_rfl) h
theorem R8_4_1 (b0 b1 b2 b3 : UInt8) : R8 1 [b0, b1, b2, b3] := fun _ _ _ h => Eq.mp (by kernel_rfl) h
theorem R8_5_1 (b0 b1 b2 b3 b4 : UInt8) : R8 1 [b0, b1, b2, b3, b4] := fun _ _ _ h => Eq.mp (by kernel_rfl) h
theorem R8_6_1 (b0 b1 b2 b3 b4 b5 : UInt8) : R8 1 [b0, b1, b2, b3, b4, b5] := fun _ _ _ h => Eq.mp (by kernel_rfl) h
theorem R8_7_1 (b0 b1 b2 b3 b4 b5 b6 : UInt8) : R8 1 [b0, b1, b2, b3, b4, b5, b6] := fun _ _ _ h => Eq.mp (by kernel_rfl) h
theorem R8_8_1 (b0 b1 b2 b3 b4 b5 b6 b7 : UInt8) : R8 1 [b0, b1, b2, b3, b4, b5, b6, b7] := fun _ _ _ h => Eq.mp (by kernel_rfl) h
theorem R8_9_1 (b0 b1 b2 b3 b4 b5 b6 b7 b8 : UInt8) : R8 1 [b0, b1, b2, b3, b4, b5, b6, b7, b8] := fun _ _ _ h => Eq.mp (by kernel_rfl) h
theorem R8_10_1 (b0 b1 b2 b3 b4 b5 b6 b7 b8 b9 : UInt8) : R8 1 [b0, b1, b2, b3, b4, b5, b6, b7, b8, b9] := fun _ _ _ h => Eq.mp (by kernel_rfl) h
theorem R8_11_1 (b0 b1 b2 b3 b4 b5 b6 b7 b8 b9 b10 : UInt8) : R8 1 [b0, b1, b2, b3, b4, b5, b6, b7, b8, b9, b10] := fun _ _ _ h => Eq.mp (by kernel_rfl) h
theorem R8_12_1 (b0 b1 b2 b3 b4 b5 b6 b7 b8 b9 b10 b11 : UInt8) : R8 1 [b0, b1, b2, b3, b4, b5, b6, b7, b8, b9, b10, b11] := fun _ _ _ h => Eq.mp (by kernel_rfl) h
theorem R8_13_1 (b0 b1 b2 b3 b4 b5 b6 b7 b8 b9 b10 b11 b12 : UInt8) : R8 1 [b0, b1, b2, b3, b4, b5, b6, b7, b8, b9, b10, b11, b12] := fun _ _ _ h => Eq.mp (by kernel_rfl) h
theorem R8_14_1 (b0 b1 b2 b3 b4 b5 b6 b7 b8 b9 b10 b11 b12 b13 : UInt8) : R8 1 [b0, b1, b2, b3, b4, b5, b6, b7, b8, b9, b10, b11, b12, b13] := fun _ _ _ h => Eq.mp (by kernel_rfl) h
theorem R8_15_1 (b0 b1 b2 b3 b4 b5 b6 b7 b8 b9 b10 b11 b12 b13 b14 : UInt8) : R8 1 [b0, b1, b2, b3, b4, b5, b6, b7, b8, b9, b10, b11, b12, b13, b14] := fun _ _ _ h => Eq.mp (by kernel_rfl) h
theorem R8_16_1 (b0 b1 b2 b3 b4 b5 b6 b7 b8 b9 b10 b11 b12 b13 b14 b15 : UInt8) : R8 1 [b0, b1, b2, b3, b4, b5, b6, b7, b8, b9, b10, b11, b12, b13, b14, b15] := fun _ _ _ h => Eq.mp (by kernel_rfl) h
theorem R8_17_1 (b0 b1 b2 b3 b4 b5 b6 b7 b8 b9 b10 b11 b12 b13 b14 b15 b16 : UInt8) : R8 1 [b0, b1, b2, b3, b4, b5, b6, b7, b8, b9, b10, b11, b12, b13, b14, b15, b16] := fun _ _ _ h => Eq.mp (by kernel_rfl) h
theorem R8_18_1 (b0 b1 b2 b3 b4 b5 b6 b7 b8 b9 b10 b11 b12 b13 b14 b15 b16 b17 : UInt8) : R8 1 [b0, b1, b2, b3, b4, b5, b6, b7, b8, b9, b10, b11, b12, b13, b14, b15, b16, b17] := fun _ _ _ h => Eq.mp (by kernel_rfl) h
theorem R8_19_1 (b0 b1 b2 b3 b4 b5 b6 b7 b8 b9 b10 b11 b12 b13 b14 b15 b16 b17 b18 : UInt8) : R8 1 [b0, b1, b2, b3, b4, b5, b6, b7, b8, b9, b10, b11, b12, b13, b14, b15, b16, b17, b18] := fun _ _ _ h => Eq.mp (by kernel_rfl) h
theorem R8_20_1 (b0 b1 b2 b3 b4 b5 b6 b7 b8 b9 b10 b11 b12 b13 b14 b15 b16 b17 b18 b19 : UInt8) : R8 1 [b0, b1, b2, b3, b4, b5, b6, b7, b8, b9, b10, b11, b12, b13, b14, b15, b16, b17, b18, b19] := fun _ _ _ h => Eq.mp (by kernel_rfl) h
theorem all_R8_1 (l : List UInt8) (hp : l ≠ []) (hn : l.length ≤ 20) : R8 1 l := lit_cases (P := R8 1) R8_1_1 R8_2_1 R8_3_1 R8_4_1 R8_5_1 R8_6_1 R8_7_1 R8_8_1 R8_9_1 R8_10_1 R8_11_1 R8_12_1 R8_13_1 R8_14_1 R8_15_1 R8_16_1 R8_17_1 R8_18_1 R8_19_1 R8_20_1 l hp hn
theorem R9_1_0 (b0 : UInt8) : R9 0 [b0] := fun _ _ h => Eq.mp (by kernel_rfl) h
theorem R9_2_0 (b0 b1 : UInt8) : R9 0 [b0, b1] := fun _ _ h => Eq.mp (by kernel_rfl) h
theorem R9_3_0 (b0 b1 b2 : UInt8) : R9 0 [b0, b1, b2] := fun _ _ h => Eq.mp (by kernel_rfl) h
theorem R9_4_0 (b0 b1 b2 b3 : UInt8) : R9 0 [b0, b1, b2, b3] := fun _ _ h => Eq.mp (by kernel_rfl) h
theorem R9_5_0 (b0 b1 b2 b3 b4 : UInt8) : R9 0 [b0, b1, b2, b3, b4] := fun _ _ h => Eq.mp (by kernel_rfl) h
theorem R9_6_0 (b0 b1 b2 b3 b4 b5 : UInt8) : R9 0 [b0, b1, b2, b3, b4, b5] := fun _ _ h => Eq.mp (by kernel_rfl) h
theorem R9_7_0 (b0 b1 b2 b3 b4 b5 b6 : UInt8) : R9 0 [b0, b1, b2, b3, b4, b5, b6] := fun _ _ h => Eq.mp (by kernel_rfl) h
theorem R9_8_0 (b0 b1 b2 b3 b4 b5 b6 b7 : UInt8) : R9 0 [b0, b1, b2, b3, b4, b5, b6, b7] := fun _ _ h => Eq.mp (by kernel_rfl) h
theorem R9_9_0 (b0 b1 b2 b3 b4 b5 b6 b7 b8 : UInt8) : R9 0 [b0, b1, b2, b3, b4, b5, b6, b7, b8] := fun _ _ h => Eq.mp (by kernel_rfl) h
theorem R9_10_0 (b0 b1 b2 b3 b4 b5 b6 b7 b8 b9 : UInt8) : R9 0 [b0, b1, b2, b3, b4, b5, b6, b7, b8, b9] := fun _ _ h => Eq.mp (by kernel_rfl) h
theorem R9_11_0 (b0 b1 b2 b3 b4 b5 b6 b7 b8 b9 b10 : UInt8) : R9 0 [b0, b1, b2, b3, b4, b5, b6, b7, b8, b9, b10] := fun _ _ h => Eq.mp (by kernel_rfl) h
theorem R9_12_0 (b0 b1 b2 b3 b4 b5 b6 b7 b8 b9 b10 b11 : UInt8) : R9 0 [b0, b1, b2, b3, b4, b5, b6, b7, b8, b9, b10, b11] := fun _ _ h => Eq.mp (by kernel_rfl) h
theorem R9_13_0 (b0 b1 b2 b3 b4 b5 b6 b7 b8 b9 b10 b11 b12 : UInt8) : R9 0 [b0, b1, b2, b3, b4, b5, b6, b7, b8, b9, b10, b11, b12] := fun _ _ h => Eq.mp (by kernel_rfl) h
theorem R9_14_0 (b0 b1 b2 b3 b4 b5 b6 b7 b8 b9 b10 b11 b12 b13 : UInt8) : R9 0 [b0, b1, b2, b3, b4, b5, b6, b7, b8, b9, b10, b11, b12, b13] := fun _ _ h => Eq.mp (by kernel_rfl) h
theorem R9_15_0 (b0 b1 b2 b3 b4 b5 b6 b7 b8 b9 b10 b11 b12 b13 b14 : UInt8) : R9 0 [b0, b1, b2, b3, b4, b5, b6, b7, b8, b9, b10, b11, b12, b13, b14] := fun _ _ h => Eq.mp (by kernel_rfl) h
theorem R9_16_0 (b0 b1 b2 b3 b4 b5 b6 b7 b8 b9 b10 b11 b12 b13 b14 b15 : UInt8) : R9 0 [b0, b1, b2, b3, b4, b5, b6, b7, b8, b9, b10, b11, b12, b13, b14, b15] := fun _ _ h => Eq.mp (by kernel_rfl) h
theorem R9_17_0 (b0 b1 b2 b3 b4 b5 b6 b7 b8 b9 b10 b11 b12 b13 b14 b15 b16 : UInt8) : R9 0 [b0, b1, b2, b3, b4, b5, b6, b7, b8, b9, b10, b11, b12, b13, b14, b15, b16] := fun _ _ h => Eq.mp (by kernel_rfl) h
theorem R9_18_0 (b0 b1 b2 b3 b4 b5 b6 b7 b8 b9 b10 b11 b12 b13 b14 b15 b16 b17 : UInt8) : R9 0 [b0, b1, b2, b3, b4, b5, b6, b7, b8, b9, b10, b11, b12, b13, b14, b15, b16, b17] := fun _ _ h => Eq.mp (by kernel_rfl) h
theorem R9_19_0 (b0 b1 b2 b3 b4 b5 b6 b7 b8 b9 b10 b11 b12 b13 b14 b15 b16 b17 b18 : UInt8) : R9 0 [b0, b1, b2, b3, b4, b5, b6, b7, b8, b9, b10, b11, b12, b13, b14, b15, b16, b17, b18] := fun _ _ h => Eq.mp (by kernel_rfl) h
theorem R9_20_0 (b0 b1 b2 b3 b4 b5 b6 b7 b8 b9 b10 b11 b12 b13 b14 b15 b16 b17 b18 b19 : UInt8) : R9 0 [b0, b1, b2, b3, b4, b5, b6, b7, b8, b9, b10, b11, b12, b13, b14, b15, b16, b17, b18, b19] := fun _ _ h => Eq.mp (by kernel_rfl) h
theorem all_R9_0 (l : List UInt8) (hp : l ≠ []) (hn : l.length ≤ 20) : R9 0 l := lit_cases (P := R9 0) R9_1_0 R9_2_0 R9_3_0 R9_4_0 R9_5_0 R9_6_0 R9_7_0 R9_8_0 R9_9_0 R9_10_0 R9_11_0 R9_12_0 R9_13_0 R9_14_0 R9_15_0 R9_16_0 R9_17_0 R9_18_0 R9_19_0 R9_20_0 l hp hn
theorem R9_1_1 (b0 : UInt8) : R9 1 [b0] := fun _ _ h => Eq.mp (by kernel_rfl) h
theorem R9_2_1 (b0 b1 : UInt8) : R9 1 [b0, b1] := fun _ _ h => Eq.mp (by kernel_rfl) h
theorem R9_3_1 (b0 b1 b2 : UInt8) : R9 1 [b0, b1, b2] := fun _ _ h => Eq.mp (by kernel_rfl) h
theorem R9_4_1 (b0 b1 b2 b3 : UInt8) : R9 1 [b0, b1, b2, b3] := fun _ _ h => Eq.mp (by kernel_rfl) h
theorem R9_5_1 (b0 b1 b2 b3 b4 : UInt8) : R9 1 [b0, b1, b2, b3, b4] := fun _ _ h => Eq.mp (by kernel_rfl) h
theorem R9_6_1 (b0 b1 b2 b3 b4 b5 : UInt8) : R9 1 [b0, b1, b2, b3, b4, b5] := fun _ _ h => Eq.mp (by kernel_rfl) h
theorem R9_7_1 (b0 b1 b2 b3 b4 b5 b6 : UInt8) : R9 1 [b0, b1, b2, b3, b4, b5, b6] := fun _ _ h => Eq.mp (by kernel_rfl) h
theorem R9_8_1 (b0 b1 b2 b3 b4 b5 b6 b7 : UInt8) : R9 1 [b0, b1, b2, b3, b4, b5, b6, b7] := fun _ _ h => Eq.mp (by kernel_rfl) h
theorem R9_9_1 (b0 b1 b2 b3 b4 b5 b6 b7 b8 : UInt8) : R9 1 [b0, b1, b2, b3, b4, b5, b6, b7, b8] := fun _ _ h => Eq.mp (by kernel_rfl) h
theorem R9_10_1 (b0 b1 b2 b3 b4 b5 b6 b7 b8 b9 : UInt8) : R9 1 [b0, b1, b2, b3, b4, b5, b6, b7, b8, b9] := fun _ _ h => Eq.mp (by kernel_rfl) h
theorem R9_11_1 (b0 b1 b2 b3 b4 b5 b6 b7 b8 b9 b10 : UInt8) : R9 1 [b0, b1, b2, b3, b4, b5, b6, b7, b8, b9, b10] := fun _ _ h => Eq.mp (by kernel_rfl) h
theorem R9_12_1 (b0 b1 b2 b3 b4 b5 b6 b7 b8 b9 b10 b11 : UInt8) : R9 1 [b0, b1, b2, b3, b4, b5, b6, b7, b8, b9, b10, b11] := fun _ _ h => Eq.mp (by kernel_rfl) h
theorem R9_13_1 (b0 b1 b2 b3 b4 b5 b6 b7 b8 b9 b10 b11 b12 : UInt8) : R9 1 [b0, b1, b2, b3, b4, b5, b6, b7, b8, b9, b10, b11, b12] := fun _ _ h => Eq.mp (by kernel_rfl) h
theorem R9_14_1 (b0 b1 b2 b3 b4 b5 b6 b7 b8 b9 b10 b11 b12 b13 : UInt8) : R9 1 [b0, b1, b2, b3, b4, b5, b6, b7, b8, b9, b10, b11, b12, b13] := fun _ _ h => Eq.mp (by kernel_rfl) h
theorem R9_15_1 (b0 b1 b2 b3 b4 b5 b6 b7 b8 b9 b10 b11 b12 b13 b14 : UInt8) : R9 1 [b0, b1, b2, b3, b4, b5, b6, b7, b8, b9, b10, b11, b12, b13, b14] := fun _ _ h => Eq.mp (by kernel_rfl) h
theorem R9_16_1 (b0 b1 b2 b3 b4 b5 b6 b7 b8 b9 b10 b11 b12 b13 b14 b15 : UInt8) : R9 1 [b0, b1, b2, b3, b4, b5, b6, b7, b8, b9, b10, b11, b12, b13, b14, b15] := fun _ _ h => Eq.mp (by kernel_rfl) h
theorem R9_17_1 (b0 b1 b2 b3 b4 b5 b6 b7 b8 b9 b10 b11 b12 b13 b14 b15 b16 : UInt8) : R9 1 [b0, b1, b2, b3, b4, b5, b6, b7, b8, b9, b10, b11, b12, b13, b14, b15, b16] := fun _ _ h => Eq.mp (by kernel_rfl) h
theorem R9_18_1 (b0 b1 b2 b3 b4 b5 b6 b7 b8 b9 b10 b11 b12 b13 b14 b15 b16 b17 : UInt8) : R9 1 [b0, b1, b2, b3, b4, b5, b6, b7, b8, b9, b10, b11, b12, b13, b14, b15, b16, b17] := fun _ _ h => Eq.mp (by kernel_rfl) h
theorem R9_19_1 (b0 b1 b2 b3 b4 b5 b6 b7 b8 b9 b10 b11 b12 b13 b14 b15 b16 b17 b18 : UInt8) : R9 1 [b0, b1, b2, b3, b4, b5, b6, b7, b8, b9, b10, b11, b12, b13, b14, b15, b16, b17, b18] := fun _ _ h => Eq.mp (by kernel_rfl) h
theorem R9_20_1 (b0 b1 b2 b3 b4 b5 b6 b7 b8 b9 b10 b11 b12 b13 b14 b15 b16 b17 b18 b19 : UInt8) : R9 1 [b0, b1, b2, b3, b4, b5, b6, b7, b8, b9, b10, b11, b12, b13, b14, b15, b16, b17, b18, b19] := fun _ _ h => Eq.mp (by kernel_rfl) h
theorem all_R9_1 (l : List UInt8) (hp : l ≠ []) (hn : l.length ≤ 20) : R9 1 l := lit_cases (P := R9 1) R9_1_1 R9_2_1 R9_3_1 R9_4_1 R9_5_1 R9_6_1 R9_7_1 R9_8_1 R9_9_1 R9_10_1 R9_11_1 R9_12_1 R9_13_1 R9_14_1 R9_15_1 R9_16_1 R9_17_1 R9_18_1 R9_19_1 R9_20_1 l hp hn
end
end Go.Proofs.Rl
