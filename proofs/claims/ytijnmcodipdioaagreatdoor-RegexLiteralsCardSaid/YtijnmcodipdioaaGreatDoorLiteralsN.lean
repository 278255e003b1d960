/- A part of the proof: definitions and lemmas. -/
import Derived.Test.YtijnmcodipdioaaGreatDoorLiteralsA
import Derived.Test.YtijnmcodipdioaaGreatDoorLiteralsB
import Derived.Test.YtijnmcodipdioaaGreatDoorLiteralsC
import Derived.Test.YtijnmcodipdioaaGreatDoorLiteralsD
import Derived.Test.YtijnmcodipdioaaGreatDoorLiteralsE
import Derived.Test.YtijnmcodipdioaaGreatDoorLiteralsF
import Derived.Test.YtijnmcodipdioaaGreatDoorLiteralsG
import Derived.Test.YtijnmcodipdioaaGreatDoorLiteralsH
import Derived.Test.YtijnmcodipdioaaGreatDoorLiteralsI
import Derived.Test.YtijnmcodipdioaaGreatDoorLiteralsJ
import Derived.Test.YtijnmcodipdioaaGreatDoorLiteralsK
import Derived.Test.YtijnmcodipdioaaGreatDoorLiteralsL
import Derived.Test.YtijnmcodipdioaaGreatDoorLiteralsM
namespace Go.Proofs.Rl
open Go Go.Ef
noncomputable section
set_option maxRecDepth 1000000
set_option maxHeartbeats 0
theorem R15_1_0 (b0 : UInt8) : R15 0 [b0] := ⟨by kernel_rfl, fun _ h => Eq.mp (by kernel_rfl) h⟩
theorem R15_2_0 (b0 b1 : UInt8) : R15 0 [b0, b1] := ⟨by kernel_rfl, fun _ h => Eq.mp (by kernel_rfl) h⟩
theorem R15_3_0 (b0 b1 b2 : UInt8) : R15 0 [b0, b1, b2] := ⟨by kernel_rfl, fun _ h => Eq.mp (by kernel_rfl) h⟩
theorem R15_4_0 (b0 b1 b2 b3 : UInt8) : R15 0 [b0, b1, b2, b3] := ⟨by kernel_rfl, fun _ h => Eq.mp (by kernel_rfl) h⟩
theorem R15_5_0 (b0 b1 b2 b3 b4 : UInt8) : R15 0 [b0, b1, b2, b3, b4] := ⟨by kernel_rfl, fun _ h => Eq.mp (by kernel_rfl) h⟩
theorem R15_6_0 (b0 b1 b2 b3 b4 b5 : UInt8) : R15 0 [b0, b1, b2, b3, b4, b5] := ⟨by kernel_rfl, fun _ h => Eq.mp (by kernel_rfl) h⟩
theorem R15_7_0 (b0 b1 b2 b3 b4 b5 b6 : UInt8) : R15 0 [b0, b1, b2, b3, b4, b5, b6] := ⟨by kernel_rfl, fun _ h => Eq.mp (by kernel_rfl) h⟩
theorem R15_8_0 (b0 b1 b2 b3 b4 b5 b6 b7 : UInt8) : R15 0 [b0, b1, b2, b3, b4, b5, b6, b7] := ⟨by kernel_rfl, fun _ h => Eq.mp (by kernel_rfl) h⟩
theorem R15_9_0 (b0 b1 b2 b3 b4 b5 b6 b7 b8 : UInt8) : R15 0 [b0, b1, b2, b3, b4, b5, b6, b7, b8] := ⟨by kernel_rfl, fun _ h => Eq.mp (by kernel_rfl) h⟩
theorem R15_10_0 (b0 b1 b2 b3 b4 b5 b6 b7 b8 b9 : UInt8) : R15 0 [b0, b1, b2, b3, b4, b5, b6, b7, b8, b9] := ⟨by kernel_rfl, fun _ h => Eq.mp (by kernel_rfl) h⟩
theorem R15_11_0 (b0 b1 b2 b3 b4 b5 b6 b7 b8 b9 b10 : UInt8) : R15 0 [b0, b1, b2, b3, b4, b5, b6, b7, b8, b9, b10] := ⟨by kernel_rfl, fun _ h => Eq.mp (by kernel_rfl) h⟩
theorem R15_12_0 (b0 b1 b2 b3 b4 b5 b6 b7 b8 b9 b10 b11 : UInt8) : R15 0 [b0, b1, b2, b3, b4, b5, b6, b7, b8, b9, b10, b11] := ⟨by kernel_rfl, fun _ h => Eq.mp (by kernel_rfl) h⟩
theorem R15_13_0 (b0 b1 b2 b3 b4 b5 b6 b7 b8 b9 b10 b11 b12 : UInt8) : R15 0 [b0, b1, b2, b3, b4, b5, b6, b7, b8, b9, b10, b11, b12] := ⟨by kernel_rfl, fun _ h => Eq.mp (by kernel_rfl) h⟩
theorem R15_14_0 (b0 b1 b2 b3 b4 b5 b6 b7 b8 b9 b10 b11 b12 b13 : UInt8) : R15 0 [b0, b1, b2, b3, b4, b5, b6, b7, b8, b9, b10, b11, b12, b13] := ⟨by kernel_rfl, fun _ h => Eq.mp (by kernel_rfl) h⟩
theorem R15_15_0 (b0 b1 b2 b3 b4 b5 b6 b7 b8 b9 b10 b11 b12 b13 b14 : UInt8) : R15 0 [b0, b1, b2, b3, b4, b5, b6, b7, b8, b9, b10, b11, b12, b13, b14] := ⟨by kernel_rfl, fun _ h => Eq.mp (by kernel_rfl) h⟩
theorem R15_16_0 (b0 b1 b2 b3 b4 b5 b6 b7 b8 b9 b10 b11 b12 b13 b14 b15 : UInt8) : R15 0 [b0, b1, b2, b3, b4, b5, b6, b7, b8, b9, b10, b11, b12, b13, b14, b15] := ⟨by kernel_rfl, fun _ h => Eq.mp (by kernel_rfl) h⟩
theorem R15_17_0 (b0 b1 b2 b3 b4 b5 b6 b7 b8 b9 b10 b11 b12 b13 b14 b15 b16 : UInt8) : R15 0 [b0, b1, b2, b3, b4, b5, b6, b7, b8, b9, b10, b11, b12, b13, b14, b15, b16] := ⟨by kernel_rfl, fun _ h => Eq.mp (by kernel_rfl) h⟩
theorem R15_18_0 (b0 b1 b2 b3 b4 b5 b6 b7 b8 b9 b10 b11 b12 b13 b14 b15 b16 b17 : UInt8) : R15 0 [b0, b1, b2, b3, b4, b5, b6, b7, b8, b9, b10, b11, b12, b13, b14, b15, b16, b17] := ⟨by kernel_rfl, fun _ h => Eq.mp (by kernel_rfl) h⟩
theorem R15_19_0 (b0 b1 b2 b3 b4 b5 b6 b7 b8 b9 b10 b11 b12 b13 b14 b15 b16 b17 b18 : UInt8) : R15 0 [b0, b1, b2, b3, b4, b5, b6, b7, b8, b9, b10, b11, b12, b13, b14, b15, b16, b17, b18] := ⟨by kernel_rfl, fun _ h => Eq.mp (by kernel_rfl) h⟩
theorem R15_20_0 (b0 b1 b2 b3 b4 b5 b6 b7 b8 b9 b10 b11 b12 b13 b14 b15 b16 b17 b18 b19 : UInt8) : R15 0 [b0, b1, b2, b3, b4, b5, b6, b7, b8, b9, b10, b11, b12, b13, b14, b15, b16, b17, b18, b19] := ⟨by kernel_rfl, fun _ h => Eq.mp (by kernel_rfl) h⟩
theorem all_R15_0 (l : List UInt8) (hp : l ≠ []) (hn : l.length ≤ 20) : R15 0 l := lit_cases (P := R15 0) R15_1_0 R15_2_0 R15_3_0 R15_4_0 R15_5_0 R15_6_0 R15_7_0 R15_8_0 R15_9_0 R15_10_0 R15_11_0 R15_12_0 R15_13_0 R15_14_0 R15_15_0 R15_16_0 R15_17_0 R15_18_0 R15_19_0 R15_20_0 l hp hn
theorem R15_1_1 (b0 : UInt8) : R15 1 [b0] := ⟨by kernel_rfl, fun _ h => Eq.mp (by kernel_rfl) h⟩
theorem R15_2_1 (b0 b1 : UInt8) : R15 1 [b0, b1] := ⟨by kernel_rfl, fun _ h => Eq.mp (by kernel_rfl) h⟩
theorem R15_3_1 (b0 b1 b2 : UInt8) : R15 1 [b0, b1, b2] := ⟨by kernel_rfl, fun _ h => Eq.mp (by kernel_rfl) h⟩
theorem R15_4_1 (b0 b1 b2 b3 : UInt8) : R15 1 [b0, b1, b2, b3] := ⟨by kernel_rfl, fun _ h => Eq.mp (by kernel_rfl) h⟩
theorem R15_5_1 (b0 b1 b2 b3 b4 : UInt8) : R15 1 [b0, b1, b2, b3, b4] := ⟨by kernel_rfl, fun _ h => Eq.mp (by kernel_rfl) h⟩
theorem R15_6_1 (b0 b1 b2 b3 b4 b5 : UInt8) : R15 1 [b0, b1, b2, b3, b4, b5] := ⟨by kernel_rfl, fun _ h => Eq.mp (by kernel_rfl) h⟩
theorem R15_7_1 (b0 b1 b2 b3 b4 b5 b6 : UInt8) : R15 1 [b0, b1, b2, b3, b4, b5, b6] := ⟨by kernel_rfl, fun _ h => Eq.mp (by kernel_rfl) h⟩
theorem R15_8_1 (b0 b1 b2 b3 b4 b5 b6 b7 : UInt8) : R15 1 [b0, b1, b2, b3, b4, b5, b6, b7] := ⟨by kernel_rfl, fun _ h => Eq.mp (by kernel_rfl) h⟩
theorem R15_9_1 (b0 b1 b2 b3 b4 b5 b6 b7 b8 : UInt8) : R15 1 [b0, b1, b2, b3, b4, b5, b6, b7, b8] := ⟨by kernel_rfl, fun _ h => Eq.mp (by kernel_rfl) h⟩
theorem R15_10_1 (b0 b1 b2 b3 b4 b5 b6 b7 b8 b9 : UInt8) : R15 1 [b0, b1, b2, b3, b4, b5, b6, b7, b8, b9] := ⟨by kernel_rfl, fun _ h => Eq.mp (by kernel_rfl) h⟩
theorem R15_11_1 (b0 b1 b2 b3 b4 b5 b6 b7 b8 b9 b10 : UInt8) : R15 1 [b0, b1, b2, b3, b4, b5, b6, b7, b8, b9, b10] := ⟨by kernel_rfl, fun _ h => Eq.mp (by kernel_rfl) h⟩
theorem R15_12_1 (b0 b1 b2 b3 b4 b5 b6 b7 b8 b9 b10 b11 : UInt8) : R15 1 [b0, b1, b2, b3, b4, b5, b6, b7, b8, b9, b10, b11] := ⟨by kernel_rfl, fun _ h => Eq.mp (by kernel_rfl) h⟩
theorem R15_13_1 (b0 b1 b2 b3 b4 b5 b6 b7 b8 b9 b10 b11 b12 : UInt8) : R15 1 [b0, b1, b2, b3, b4, b5, b6, b7, b8, b9, b10, b11, b12] := ⟨by kernel_rfl, fun _ h => Eq.mp (by kernel_rfl) h⟩
theorem R15_14_1 (b0 b1 b2 b3 b4 b5 b6 b7 b8 b9 b10 b11 b12 b13 : UInt8) : R15 1 [b0, b1, b2, b3, b4, b5, b6, b7, b8, b9, b10, b11, b12, b13] := ⟨by kernel_rfl, fun _ h => Eq.mp (by kernel_rfl) h⟩
theorem R15_15_1 (b0 b1 b2 b3 b4 b5 b6 b7 b8 b9 b10 b11 b12 b13 b14 : UInt8) : R15 1 [b0, b1, b2, b3, b4, b5, b6, b7, b8, b9, b10, b11, b12, b13, b14] := ⟨by kernel_rfl, fun _ h => Eq.mp (by kernel_rfl) h⟩
theorem R15_16_1 (b0 b1 b2 b3 b4 b5 b6 b7 b8 b9 b10 b11 b12 b13 b14 b15 : UInt8) : R15 1 [b0, b1, b2, b3, b4, b5, b6, b7, b8, b9, b10, b11, b12, b13, b14, b15] := ⟨by kernel_rfl, fun _ h => Eq.mp (by kernel_rfl) h⟩
theorem R15_17_1 (b0 b1 b2 b3 b4 b5 b6 b7 b8 b9 b10 b11 b12 b13 b14 b15 b16 : UInt8) : R15 1 [b0, b1, b2, b3, b4, b5, b6, b7, b8, b9, b10, b11, b12, b13, b14, b15, b16] := ⟨by kernel_rfl, fun _ h => Eq.mp (by kernel_rfl) h⟩
theorem R15_18_1 (b0 b1 b2 b3 b4 b5 b6 b7 b8 b9 b10 b11 b12 b13 b14 b15 b16 b17 : UInt8) : R15 1 [b0, b1, b2, b3, b4, b5, b6, b7, b8, b9, b10, b11, b12, b13, b14, b15, b16, b17] := ⟨by kernel_rfl, fun _ h => Eq.mp (by kernel_rfl) h⟩
theorem R15_19_1 (b0 b1 b2 b3 b4 b5 b6 b7 b8 b9 b10 b11 b12 b13 b14 b15 b16 b17 b18 : UInt8) : R15 1 [b0, b1, b2, b3, b4, b5, b6, b7, b8, b9, b10, b11, b12, b13, b14, b15, b16, b17, b18] := ⟨by kernel_rfl, fun _ h => Eq.mp (by kernel_rfl) h⟩
theorem R15_20_1 (b0 b1 b2 b3 b4 b5 b6 b7 b8 b9 b10 b11 b12 b13 b14 b15 b16 b17 b18 b19 : UInt8) : R15 1 [b0, b1, b2, b3, b4, b5, b6, b7, b8, b9, b10, b11, b12, b13, b14, b15, b16, b17, b18, b19] := ⟨by kernel_rfl, fun _ h => Eq.mp (by kernel_rfl) h⟩
theorem all_R15_1 (l : List UInt8) (hp : l ≠ []) (hn : l.length ≤ 20) : R15 1 l := lit_cases (P := R15 1) R15_1_1 R15_2_1 R15_3_1 R15_4_1 R15_5_1 R15_6_1 R15_7_1 R15_8_1 R15_9_1 R15_10_1 R15_11_1 R15_12_1 R15_13_1 R15_14_1 R15_15_1 R15_16_1 R15_17_1 R15_18_1 R15_19_1 R15_20_1 l hp hn
theorem R6_1_0 (b0 : UInt8) : R6 0 [b0] := fun _ _ _ _ => ⟨fun _ h => Eq.mp (by kernel_rfl) h⟩
theorem R6_2_0 (b0 b1 : UInt8) : R6 0 [b0, b1] := fun _ _ _ _ => ⟨fun _ h => Eq.mp (by kernel_rfl) h⟩
theorem R6_3_0 (b0 b1 b2 : UInt8) : R6 0 [b0, b1, b2] := fun _ _ _ _ => ⟨fun _ h => Eq.mp (by kernel_rfl) h⟩
theorem R6_4_0 (b0 b1 b2 b3 : UInt8) : R6 0 [b0, b1, b2, b3] := fun _ _ _ _ => ⟨fun _ h => Eq.mp (by kernel_rfl) h⟩
theorem R6_5_0 (b0 b1 b2 b3 b4 : UInt8) : R6 0 [b0, b1, b2, b3, b4] := fun _ _ _ _ => ⟨fun _ h => Eq.mp (by kernel_rfl) h⟩
theorem R6_6_0 (b0 b1 b2 b3 b4 b5 : UInt8) : R6 0 [b0, b1, b2, b3, b4, b5] := fun _ _ _ _ => ⟨fun _ h => Eq.mp (by kernel_rfl) h⟩
theorem R6_7_0 (b0 b1 b2 b3 b4 b5 b6 : UInt8) : R6 0 [b0, b1, b2, b3, b4, b5, b6] := fun _ _ _ _ => ⟨fun _ h => Eq.mp (by kernel_rfl) h⟩
theorem R6_8_0 (b0 b1 b2 b3 b4 b5 b6 b7 : UInt8) : R6 0 [b0, b1, b2, b3, b4, b5, b6, b7] := fun _ _ _ _ => ⟨fun _ h => Eq.mp (by kernel_rfl) h⟩
theorem R6_9_0 (b0 b1 b2 b3 b4 b5 b6 b7 b8 : UInt8) : R6 0 [b0, b1, b2, b3, b4, b5, b6, b7, b8] := fun _ _ _ _ => ⟨fun _ h => Eq.mp (by kernel_rfl) h⟩
theorem R6_10_0 (b0 b1 b2 b3 b4 b5 b6 b7 b8 b9 : UInt8) : R6 0 [b0, b1, b2, b3, b4, b5, b6, b7, b8, b9] := fun _ _ _ _ => ⟨fun _ h => Eq.mp (by kernel_rfl) h⟩
theorem R6_11_0 (b0 b1 b2 b3 b4 b5 b6 b7 b8 b9 b10 : UInt8) : R6 0 [b0, b1, b2, b3, b4, b5, b6, b7, b8, b9, b10] := fun _ _ _ _ => ⟨fun _ h => Eq.mp (by kernel_rfl) h⟩
theorem R6_12_0 (b0 b1 b2 b3 b4 b5 b6 b7 b8 b9 b10 b11 : UInt8) : R6 0 [b0, b1, b2, b3, b4, b5, b6, b7, b8, b9, b10, b11] := fun _ _ _ _ => ⟨fun _ h => Eq.mp (by kernel_rfl) h⟩
theorem R6_13_0 (b0 b1 b2 b3 b4 b5 b6 b7 b8 b9 b10 b11 b12 : UInt8) : R6 0 [b0, b1, b2, b3, b4, b5, b6, b7, b8, b9, b10, b11, b12] := fun _ _ _ _ => ⟨fun _ h => Eq.mp (by kernel_rfl) h⟩
theorem R6_14_0 (b0 b1 b2 b3 b4 b5 b6 b7 b8 b9 b10 b11 b12 b13 : UInt8) : R6 0 [b0, b1, b2, b3, b4, b5, b6, b7, b8, b9, b10, b11, b12, b13] := fun _ _ _ _ => ⟨fun _ h => Eq.mp (by kernel_rfl) h⟩
theorem R6_15_0 (b0 b1 b2 b3 b4 b5 b6 b7 b8 b9 b10 b11 b12 b13 b14 : UInt8) : R6 0 [b0, b1, b2, b3, b4, b5, b6, b7, b8, b9, b10, b11, b12, b13, b14] := fun _ _ _ _ => ⟨fun _ h => Eq.mp (by kernel_rfl) h⟩
theorem R6_16_0 (b0 b1 b2 b3 b4 b5 b6 b7 b8 b9 b10 b11 b12 b13 b14 b15 : UInt8) : R6 0 [b0, b1, b2, b3, b4, b5, b6, b7, b8, b9, b10, b11, b12, b13, b14, b15] := fun _ _ _ _ => ⟨fun _ h => Eq.mp (by kernel_rfl) h⟩
theorem R6_17_0 (b0 b1 b2 b3 b4 b5 b6 b7 b8 b9 b10 b11 b12 b13 b14 b15 b16 : UInt8) : R6 0 [b0, b1, b2, b3, b4, b5, b6, b7, b8, b9, b10, b11, b12, b13, b14, b15, b16] := fun _ _ _ _ => ⟨fun _ h => Eq.mp (by kernel_rfl) h⟩
theorem R6_18_0 (b0 b1 b2 b3 b4 b5 b6 b7 b8 b9 b10 b11 b12 b13 b14 b15 b16 b17 : UInt8) : R6 0 [b0, b1, b2, b3, b4, b5, b6, b7, b8, b9, b10, b11, b12, b13, b14, b15, b16, b17] := fun _ _ _ _ => ⟨fun _ h => Eq.mp (by kernel_rfl) h⟩
theorem R6_19_0 (b0 b1 b2 b3 b4 b5 b6 b7 b8 b9 b10 b11 b12 b13 b14 b15 b16 b17 b18 : UInt8) : R6 0 [b0, b1, b2, b3, b4, b5, b6, b7, b8, b9, b10, b11, b12, b13, b14, b15, b16, b17, b18] := fun _ _ _ _ => ⟨fun _ h => Eq.mp (by kernel_rfl) h⟩
theorem R6_20_0 (b0 b1 b2 b3 b4 b5 b6 b7 b8 b9 b10 b11 b12 b13 b14 b15 b16 b17 b18 b19 : UInt8) : R6 0 [b0, b1, b2, b3, b4, b5, b6, b7, b8, b9, b10, b11, b12, b13, b14, b15, b16, b17, b18, b19] := fun _ _ _ _ => ⟨fun _ h => Eq.mp (by kernel_rfl) h⟩
theorem all_R6_0 (l : List UInt8) (hp : l ≠ []) (hn : l.length ≤ 20) : R6 0 l := lit_cases (P := R6 0) R6_1_0 R6_2_0 R6_3_0 R6_4_0 R6_5_0 R6_6_0 R6_7_0 R6_8_0 R6_9_0 R6_10_0 R6_11_0 R6_12_0 R6_13_0 R6_14_0 R6_15_0 R6_16_0 R6_17_0 R6_18_0 R6_19_0 R6_20_0 l hp hn
theorem R6_1_1 (b0 : UInt8) : R6 1 [b0] := fun _ _ _ _ => ⟨fun _ h => Eq.mp (by kernel_rfl) h⟩
theorem R6_2_1 (b0 b1 : UInt8) : R6 1 [b0, b1] := fun _ _ _ _ => ⟨fun _ h => Eq.mp (by kernel_rfl) h⟩
theorem R6_3_1 (b0 b1 b2 : UInt8) : R6 1 [b0, b1, b2] := fun _ _ _ _ => ⟨fun _ h => Eq.mp (by kernel_rfl) h⟩
theorem R6_4_1 (b0 b1 b2 b3 : UInt8) : R6 1 [b0, b1, b2, b3] := fun _ _ _ _ => ⟨fun _ h => Eq.mp (by kernel_rfl) h⟩
theorem R6_5_1 (b0 b1 b2 b3 b4 : UInt8) : R6 1 [b0, b1, b2, b3, b4] := fun _ _ _ _ => ⟨fun _ h => Eq.mp (by kernel_rfl) h⟩
theorem R6_6_1 (b0 b1 b2 b3 b4 b5 : UInt8) : R6 1 [b0, b1, b2, b3, b4, b5] := fun _ _ _ _ => ⟨fun _ h => Eq.mp (by kernel_rfl) h⟩
theorem R6_7_1 (b0 b1 b2 b3 b4 b5 b6 : UInt8) : R6 1 [b0, b1, b2, b3, b4, b5, b6] := fun _ _ _ _ => ⟨fun _ h => Eq.mp (by kernel_rfl) h⟩
theorem R6_8_1 (b0 b1 b2 b3 b4 b5 b6 b7 : UInt8) : R6 1 [b0, b1, b2, b3, b4, b5, b6, b7] := fun _ _ _ _ => ⟨fun _ h => Eq.mp (by kernel_rfl) h⟩
theorem R6_9_1 (b0 b1 b2 b3 b4 b5 b6 b7 b8 : UInt8) : R6 1 [b0, b1, b2, b3, b4, b5, b6, b7, b8] := fun _ _ _ _ => ⟨fun _ h => Eq.mp (by kernel_rfl) h⟩
theorem R6_10_1 (b0 b1 b2 b3 b4 b5 b6 b7 b8 b9 : UInt8) : R6 1 [b0, b1, b2, b3, b4, b5, b6, b7, b8, b9] := fun _ _ _ _ => ⟨fun _ h => Eq.mp (by kernel_rfl) h⟩
theorem R6_11_1 (b0 b1 b2 b3 b4 b5 b6 b7 b8 b9 b10 : UInt8) : R6 1 [b0, b1, b2, b3, b4, b5, b6, b7, b8, b9, b10] := fun _ _ _ _ => ⟨fun _ h => Eq.mp (by kernel_rfl) h⟩
theorem R6_12_1 (b0 b1 b2 b3 b4 b5 b6 b7 b8 b9 b10 b11 : UInt8) : R6 1 [b0, b1, b2, b3, b4, b5, b6, b7, b8, b9, b10, b11] := fun _ _ _ _ => ⟨fun _ h => Eq.mp (by kernel_rfl) h⟩
theorem R6_13_1 (b0 b1 b2 b3 b4 b5 b6 b7 b8 b9 b10 b11 b12 : UInt8) : R6 1 [b0, b1, b2, b3, b4, b5, b6, b7, b8, b9, b10, b11, b12] := fun _ _ _ _ => ⟨fun _ h => Eq.mp (by kernel_rfl) h⟩
theorem R6_14_1 (b0 b1 b2 b3 b4 b5 b6 b7 b8 b9 b10 b11 b12 b13 : UInt8) : R6 1 [b0, b1, b2, b3, b4, b5, b6, b7, b8, b9, b10, b11, b12, b13] := fun _ _ _ _ => ⟨fun _ h => Eq.mp (by kernel_rfl) h⟩
theorem R6_15_1 (b0 b1 b2 b3 b4 b5 b6 b7 b8 b9 b10 b11 b12 b13 b14 : UInt8) : R6 1 [b0, b1, b2, b3, b4, b5, b6, b7, b8, b9, b10, b11, b12, b13, b14] := fun _ _ _ _ => ⟨fun _ h => Eq.mp (by kernel_rfl) h⟩
theorem R6_16_1 (b0 b1 b2 b3 b4 b5 b6 b7 b8 b9 b10 b11 b12 b13 b14 b15 : UInt8) : R6 1 [b0, b1, b2, b3, b4, b5, b6, b7, b8, b9, b10, b11, b12, b13, b14, b15] := fun _ _ _ _ => ⟨fun _ h => Eq.mp (by kernel_rfl) h⟩
theorem R6_17_1 (b0 b1 b2 b3 b4 b5 b6 b7 b8 b9 b10 b11 b12 b13 b14 b15 b16 : UInt8) : R6 1 [b0, b1, b2, b3, b4, b5, b6, b7, b8, b9, b10, b11, b12, b13, b14, b15, b16] := fun _ _ _ _ => ⟨fun _ h => Eq.mp (by kernel_rfl) h⟩
theorem R6_18_1 (b0 b1 b2 b3 b4 b5 b6 b7 b8 b9 b10 b11 b12 b13 b14 b15 b16 b17 : UInt8) : R6 1 [b0, b1, b2, b3, b4, b5, b6, b7, b8, b9, b10, b11, b12, b13, b14, b15, b16, b17] := fun _ _ _ _ => ⟨fun _ h => Eq.mp (by kernel_rfl) h⟩
theorem R6_19_1 (b0 b1 b2 b3 b4 b5 b6 b7 b8 b9 b10 b11 b12 b13 b14 b15 b16 b17 b18 : UInt8) : R6 1 [b0, b1, b2, b3, b4, b5, b6, b7, b8, b9, b10, b11, b12, b13, b14, b15, b16, b17, b18] := fun _ _ _ _ => ⟨fun _ h => Eq.mp (by kernel_rfl) h⟩
theorem R6_20_1 (b0 b1 b2 b3 b4 b5 b6 b7 b8 b9 b10 b11 b12 b13 b14 b15 b16 b17 b18 b19 : UInt8) : R6 1 [b0, b1, b2, b3, b4, b5, b6, b7, b8, b9, b10, b11, b12, b13, b14, b15, b16, b17, b18, b19] := fun _ _ _ _ => ⟨fun _ h => Eq.mp (by kernel_rfl) h⟩
theorem all_R6_1 (l : List UInt8) (hp : l ≠ []) (hn : l.length ≤ 20) : R6 1 l := lit_cases (P := R6 1) R6_1_1 R6_2_1 R6_3_1 R6_4_1 R6_5_1 R6_6_1 R6_7_1 R6_8_1 R6_9_1 R6_10_1 R6_11_1 R6_12_1 R6_13_1 R6_14_1 R6_15_1 R6_16_1 R6_17_1 R6_18_1 R6_19_1 R6_20_1 l hp hn
end
end Go.Proofs.Rl
