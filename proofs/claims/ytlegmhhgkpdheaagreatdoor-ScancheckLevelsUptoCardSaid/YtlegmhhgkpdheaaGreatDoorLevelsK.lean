/- A part of the proof: definitions and lemmas. -/
import Derived.Test.YtlegmhhgkpdheaaGreatDoorLevelsA
import Derived.Test.YtlegmhhgkpdheaaGreatDoorLevelsB
import Derived.Test.YtlegmhhgkpdheaaGreatDoorLevelsC
import Derived.Test.YtlegmhhgkpdheaaGreatDoorLevelsD
import Derived.Test.YtlegmhhgkpdheaaGreatDoorLevelsE
import Derived.Test.YtlegmhhgkpdheaaGreatDoorLevelsF
namespace Go.Proofs.Sc
open Go Go.Ef
noncomputable section
set_option maxRecDepth 100000
theorem r1nE (n : Int) (b : Int) (i : Int) (N : List AV → Int → Prop) (Z : Prop) (h :
 iteP (decide (i < n))
 (I1 n b (IntKind.i64.wrap (i + (1 : Int)))
 [AV.sc (Value.int IntKind.i64 (20 : Int)), AV.sc (Value.string (ByteArray.mk (Array.mk []))),
 AV.sc (Value.int IntKind.i64 (0 : Int)), AV.sc (Value.bool false),
 AV.sl
 [[AV.sc (Value.int IntKind.i64 (1 : Int)), AV.sc (Value.string (ByteArray.mk (Array.mk []))),
 AV.sc (Value.int IntKind.i64 (0 : Int)), AV.sc (Value.bool false),
 AV.sc (Value.slice none (0 : Nat) (0 : Nat)), AV.sc (Value.int IntKind.i64 (1000 : Int))]]
 (0 : Nat),
 AV.sc (Value.int IntKind.i64 (IntKind.i64.wrap ((1000 : Int) - i)))] =
 I1 n b (IntKind.i64.wrap (i + (1 : Int)))
 [AV.sc (Value.int IntKind.i64 (20 : Int)), AV.sc (Value.string (ByteArray.mk (Array.mk []))),
 AV.sc (Value.int IntKind.i64 (0 : Int)), AV.sc (Value.bool false),
 AV.sl
 [[AV.sc (Value.int IntKind.i64 (1 : Int)), AV.sc (Value.string (ByteArray.mk (Array.mk []))),
 AV.sc (Value.int IntKind.i64 (0 : Int)), AV.sc (Value.bool false),
 AV.sc (Value.slice none (0 : Nat) (0 : Nat)), AV.sc (Value.int IntKind.i64 (1000 : Int))]]
 (0 : Nat),
 AV.sc (Value.int IntKind.i64 (IntKind.i64.wrap ((1000 : Int) - i)))] ∧
 N
 [AV.sc (Value.int IntKind.i64 (20 : Int)), AV.sc (Value.string (ByteArray.mk (Array.mk []))),
 AV.sc (Value.int IntKind.i64 (0 : Int)), AV.sc (Value.bool false),
 AV.sl
 [[AV.sc (Value.int IntKind.i64 (1 : Int)), AV.sc (Value.string (ByteArray.mk (Array.mk []))),
 AV.sc (Value.int IntKind.i64 (0 : Int)), AV.sc (Value.bool false),
 AV.sc (Value.slice none (0 : Nat) (0 : Nat)), AV.sc (Value.int IntKind.i64 (1000 : Int))]]
 (0 : Nat),
 AV.sc (Value.int IntKind.i64 (IntKind.i64.wrap ((1000 : Int) - i)))]
 (IntKind.i64.wrap (i + (1 : Int))))
 (Ex.exit (0 : Nat) = Ex.exit (0 : Nat) ∧
 E1 n b
 [AV.sc (Value.int IntKind.i64 (1 : Int)), AV.sc (Value.string (ByteArray.mk (Array.mk []))),
 AV.sc (Value.int IntKind.i64 (0 : Int)), AV.sc (Value.bool false),
 AV.sc (Value.slice none (0 : Nat) (0 : Nat)), AV.sc (Value.int IntKind.i64 (1000 : Int))] =
 E1 n b
 [AV.sc (Value.int IntKind.i64 (1 : Int)), AV.sc (Value.string (ByteArray.mk (Array.mk []))),
 AV.sc (Value.int IntKind.i64 (0 : Int)), AV.sc (Value.bool false),
 AV.sc (Value.slice none (0 : Nat) (0 : Nat)), AV.sc (Value.int IntKind.i64 (1000 : Int))] ∧
 Z)) :
 (fun (n b i : Int) (N : List AV → Int → Prop) (Z : Prop) => wpRound tabX cfg Tryz.prog 60 3 6 (I1 n b i numC) (fun τ => τ = I1 n b (slI τ 6) (locC τ 0) ∧ N (locC τ 0) (slI τ 6)) (q1 n b numC Z)) n b i N Z :=
 Eq.mp (by kernel_rfl) h
theorem r2neE (n : Int) (b : Int) (i : Int) (Y2 : List AV) (N : List AV → Int → Prop) (Z : Prop) (h :
 iteP (decide (i < b))
 (I2 n b (IntKind.i64.wrap (i + (1 : Int)))
 [AV.sc (Value.int IntKind.i64 (1 : Int)), AV.sc (Value.string (ByteArray.mk (Array.mk []))),
 AV.sc (Value.int IntKind.i64 (0 : Int)), AV.sc (Value.bool false),
 AV.sc (Value.slice none (0 : Nat) (0 : Nat)), AV.sc (Value.int IntKind.i64 (1000 : Int))]
 [AV.sc (Value.int IntKind.i64 (9 : Int)), AV.sc (Value.string (ByteArray.mk (Array.mk []))),
 AV.sc (Value.string (ByteArray.mk (Array.mk []))), AV.sc (Value.slice none (0 : Nat) (0 : Nat)),
 AV.sl
 [[AV.sc (Value.int IntKind.i64 (1 : Int)), AV.sc (Value.string (ByteArray.mk (Array.mk []))),
 AV.sc (Value.string (ByteArray.mk (Array.mk []))), AV.sl [Y2] (0 : Nat),
 AV.sc (Value.slice none (0 : Nat) (0 : Nat)), AV.sc (Value.slice none (0 : Nat) (0 : Nat)),
 AV.sc (Value.bool false), AV.sc (Value.int IntKind.i64 (500 : Int))]]
 (0 : Nat),
 AV.sc (Value.slice none (0 : Nat) (0 : Nat)), AV.sc (Value.bool false),
 AV.sc (Value.int IntKind.i64 (IntKind.i64.wrap ((499 : Int) - i)))] =
 I2 n b (IntKind.i64.wrap (i + (1 : Int)))
 [AV.sc (Value.int IntKind.i64 (1 : Int)), AV.sc (Value.string (ByteArray.mk (Array.mk []))),
 AV.sc (Value.int IntKind.i64 (0 : Int)), AV.sc (Value.bool false),
 AV.sc (Value.slice none (0 : Nat) (0 : Nat)), AV.sc (Value.int IntKind.i64 (1000 : Int))]
 [AV.sc (Value.int IntKind.i64 (9 : Int)), AV.sc (Value.string (ByteArray.mk (Array.mk []))),
 AV.sc (Value.string (ByteArray.mk (Array.mk []))), AV.sc (Value.slice none (0 : Nat) (0 : Nat)),
 AV.sl
 [[AV.sc (Value.int IntKind.i64 (1 : Int)), AV.sc (Value.string (ByteArray.mk (Array.mk []))),
 AV.sc (Value.string (ByteArray.mk (Array.mk []))), AV.sl [Y2] (0 : Nat),
 AV.sc (Value.slice none (0 : Nat) (0 : Nat)), AV.sc (Value.slice none (0 : Nat) (0 : Nat)),
 AV.sc (Value.bool false), AV.sc (Value.int IntKind.i64 (500 : Int))]]
 (0 : Nat),
 AV.sc (Value.slice none (0 : Nat) (0 : Nat)), AV.sc (Value.bool false),
 AV.sc (Value.int IntKind.i64 (IntKind.i64.wrap ((499 : Int) - i)))] ∧
 N
 [AV.sc (Value.int IntKind.i64 (9 : Int)), AV.sc (Value.string (ByteArray.mk (Array.mk []))),
 AV.sc (Value.string (ByteArray.mk (Array.mk []))), AV.sc (Value.slice none (0 : Nat) (0 : Nat)),
 AV.sl
 [[AV.sc (Value.int IntKind.i64 (1 : Int)), AV.sc (Value.string (ByteArray.mk (Array.mk []))),
 AV.sc (Value.string (ByteArray.mk (Array.mk []))), AV.sl [Y2] (0 : Nat),
 AV.sc (Value.slice none (0 : Nat) (0 : Nat)), AV.sc (Value.slice none (0 : Nat) (0 : Nat)),
 AV.sc (Value.bool false), AV.sc (Value.int IntKind.i64 (500 : Int))]]
 (0 : Nat),
 AV.sc (Value.slice none (0 : Nat) (0 : Nat)), AV.sc (Value.bool false),
 AV.sc (Value.int IntKind.i64 (IntKind.i64.wrap ((499 : Int) - i)))]
 (IntKind.i64.wrap (i + (1 : Int))))
 (Ex.exit (2 : Nat) = Ex.exit (2 : Nat) ∧
 E2 n b
 [AV.sc (Value.int IntKind.i64 (1 : Int)), AV.sc (Value.string (ByteArray.mk (Array.mk []))),
 AV.sc (Value.int IntKind.i64 (0 : Int)), AV.sc (Value.bool false),
 AV.sc (Value.slice none (0 : Nat) (0 : Nat)), AV.sc (Value.int IntKind.i64 (1000 : Int))]
 [AV.sc (Value.int IntKind.i64 (1 : Int)), AV.sc (Value.string (ByteArray.mk (Array.mk []))),
 AV.sc (Value.string (ByteArray.mk (Array.mk []))), AV.sl [Y2] (0 : Nat),
 AV.sc (Value.slice none (0 : Nat) (0 : Nat)), AV.sc (Value.slice none (0 : Nat) (0 : Nat)),
 AV.sc (Value.bool false), AV.sc (Value.int IntKind.i64 (500 : Int))] =
 E2 n b
 [AV.sc (Value.int IntKind.i64 (1 : Int)), AV.sc (Value.string (ByteArray.mk (Array.mk []))),
 AV.sc (Value.int IntKind.i64 (0 : Int)), AV.sc (Value.bool false),
 AV.sc (Value.slice none (0 : Nat) (0 : Nat)), AV.sc (Value.int IntKind.i64 (1000 : Int))]
 [AV.sc (Value.int IntKind.i64 (1 : Int)), AV.sc (Value.string (ByteArray.mk (Array.mk []))),
 AV.sc (Value.string (ByteArray.mk (Array.mk []))), AV.sl [Y2] (0 : Nat),
 AV.sc (Value.slice none (0 : Nat) (0 : Nat)), AV.sc (Value.slice none (0 : Nat) (0 : Nat)),
 AV.sc (Value.bool false), AV.sc (Value.int IntKind.i64 (500 : Int))] ∧
 Z)) :
 (fun (n b i : Int) (Y2 : List AV) (N : List AV → Int → Prop) (Z : Prop) => wpRound tabX cfg Tryz.prog 60 3 11 (I2 n b i numC (exprC Y2)) (fun τ => τ = I2 n b (slI τ 8) numC (locC τ 1) ∧ N (locC τ 1) (slI τ 8)) (q2 n b numC (exprC Y2) Z)) n b i Y2 N Z :=
 Eq.mp (by kernel_rfl) h
theorem r2nbE (n : Int) (b : Int) (i : Int) (Y2 : List AV) (a2 : Int) (N : List AV → Int → Prop) (Z : Prop) (h :
 iteP (decide (i < b))
 (I2 n b (IntKind.i64.wrap (i + (1 : Int)))
 [AV.sc (Value.int IntKind.i64 (1 : Int)), AV.sc (Value.string (ByteArray.mk (Array.mk []))),
 AV.sc (Value.int IntKind.i64 (0 : Int)), AV.sc (Value.bool false),
 AV.sc (Value.slice none (0 : Nat) (0 : Nat)), AV.sc (Value.int IntKind.i64 (1000 : Int))]
 [AV.sc (Value.int IntKind.i64 (9 : Int)), AV.sc (Value.string (ByteArray.mk (Array.mk []))),
 AV.sc (Value.string (ByteArray.mk (Array.mk []))), AV.sc (Value.slice none (0 : Nat) (0 : Nat)),
 AV.sl
 [[AV.sc (Value.int IntKind.i64 (9 : Int)), AV.sc (Value.string (ByteArray.mk (Array.mk []))),
 AV.sc (Value.string (ByteArray.mk (Array.mk []))), AV.sc (Value.slice none (0 : Nat) (0 : Nat)),
 AV.sl [Y2] (0 : Nat), AV.sc (Value.slice none (0 : Nat) (0 : Nat)), AV.sc (Value.bool false),
 AV.sc (Value.int IntKind.i64 a2)]]
 (0 : Nat),
 AV.sc (Value.slice none (0 : Nat) (0 : Nat)), AV.sc (Value.bool false),
 AV.sc (Value.int IntKind.i64 (IntKind.i64.wrap ((499 : Int) - i)))] =
 I2 n b (IntKind.i64.wrap (i + (1 : Int)))
 [AV.sc (Value.int IntKind.i64 (1 : Int)), AV.sc (Value.string (ByteArray.mk (Array.mk []))),
 AV.sc (Value.int IntKind.i64 (0 : Int)), AV.sc (Value.bool false),
 AV.sc (Value.slice none (0 : Nat) (0 : Nat)), AV.sc (Value.int IntKind.i64 (1000 : Int))]
 [AV.sc (Value.int IntKind.i64 (9 : Int)), AV.sc (Value.string (ByteArray.mk (Array.mk []))),
 AV.sc (Value.string (ByteArray.mk (Array.mk []))), AV.sc (Value.slice none (0 : Nat) (0 : Nat)),
 AV.sl
 [[AV.sc (Value.int IntKind.i64 (9 : Int)), AV.sc (Value.string (ByteArray.mk (Array.mk []))),
 AV.sc (Value.string (ByteArray.mk (Array.mk []))), AV.sc (Value.slice none (0 : Nat) (0 : Nat)),
 AV.sl [Y2] (0 : Nat), AV.sc (Value.slice none (0 : Nat) (0 : Nat)), AV.sc (Value.bool false),
 AV.sc (Value.int IntKind.i64 a2)]]
 (0 : Nat),
 AV.sc (Value.slice none (0 : Nat) (0 : Nat)), AV.sc (Value.bool false),
 AV.sc (Value.int IntKind.i64 (IntKind.i64.wrap ((499 : Int) - i)))] ∧
 N
 [AV.sc (Value.int IntKind.i64 (9 : Int)), AV.sc (Value.string (ByteArray.mk (Array.mk []))),
 AV.sc (Value.string (ByteArray.mk (Array.mk []))), AV.sc (Value.slice none (0 : Nat) (0 : Nat)),
 AV.sl
 [[AV.sc (Value.int IntKind.i64 (9 : Int)), AV.sc (Value.string (ByteArray.mk (Array.mk []))),
 AV.sc (Value.string (ByteArray.mk (Array.mk []))), AV.sc (Value.slice none (0 : Nat) (0 : Nat)),
 AV.sl [Y2] (0 : Nat), AV.sc (Value.slice none (0 : Nat) (0 : Nat)), AV.sc (Value.bool false),
 AV.sc (Value.int IntKind.i64 a2)]]
 (0 : Nat),
 AV.sc (Value.slice none (0 : Nat) (0 : Nat)), AV.sc (Value.bool false),
 AV.sc (Value.int IntKind.i64 (IntKind.i64.wrap ((499 : Int) - i)))]
 (IntKind.i64.wrap (i + (1 : Int))))
 (Ex.exit (2 : Nat) = Ex.exit (2 : Nat) ∧
 E2 n b
 [AV.sc (Value.int IntKind.i64 (1 : Int)), AV.sc (Value.string (ByteArray.mk (Array.mk []))),
 AV.sc (Value.int IntKind.i64 (0 : Int)), AV.sc (Value.bool false),
 AV.sc (Value.slice none (0 : Nat) (0 : Nat)), AV.sc (Value.int IntKind.i64 (1000 : Int))]
 [AV.sc (Value.int IntKind.i64 (9 : Int)), AV.sc (Value.string (ByteArray.mk (Array.mk []))),
 AV.sc (Value.string (ByteArray.mk (Array.mk []))), AV.sc (Value.slice none (0 : Nat) (0 : Nat)),
 AV.sl [Y2] (0 : Nat), AV.sc (Value.slice none (0 : Nat) (0 : Nat)), AV.sc (Value.bool false),
 AV.sc (Value.int IntKind.i64 a2)] =
 E2 n b
 [AV.sc (Value.int IntKind.i64 (1 : Int)), AV.sc (Value.string (ByteArray.mk (Array.mk []))),
 AV.sc (Value.int IntKind.i64 (0 : Int)), AV.sc (Value.bool false),
 AV.sc (Value.slice none (0 : Nat) (0 : Nat)), AV.sc (Value.int IntKind.i64 (1000 : Int))]
 [AV.sc (Value.int IntKind.i64 (9 : Int)), AV.sc (Value.string (ByteArray.mk (Array.mk []))),
 AV.sc (Value.string (ByteArray.mk (Array.mk []))), AV.sc (Value.slice none (0 : Nat) (0 : Nat)),
 AV.sl [Y2] (0 : Nat), AV.sc (Value.slice none (0 : Nat) (0 : Nat)), AV.sc (Value.bool false),
 AV.sc (Value.int IntKind.i64 a2)] ∧
 Z)) :
 (fun (n b i : Int) (Y2 : List AV) (a2 : Int) (N : List AV → Int → Prop) (Z : Prop) => wpRound tabX cfg Tryz.prog 60 3 11 (I2 n b i numC (blkC Y2 a2)) (fun τ => τ = I2 n b (slI τ 8) numC (locC τ 1) ∧ N (locC τ 1) (slI τ 8)) (q2 n b numC (blkC Y2 a2) Z)) n b i Y2 a2 N Z :=
 Eq.mp (by kernel_rfl) h
theorem r1gE (n : Int) (b : Int) (i : Int) (Y : List AV) (a : Int) (N : List AV → Int → Prop) (Z : Prop) (h :
 iteP (decide (i < n))
 (I1 n b (IntKind.i64.wrap (i + (1 : Int)))
 [AV.sc (Value.int IntKind.i64 (20 : Int)), AV.sc (Value.string (ByteArray.mk (Array.mk []))),
 AV.sc (Value.int IntKind.i64 (0 : Int)), AV.sc (Value.bool false),
 AV.sl
 [[AV.sc (Value.int IntKind.i64 (20 : Int)), AV.sc (Value.string (ByteArray.mk (Array.mk []))),
 AV.sc (Value.int IntKind.i64 (0 : Int)), AV.sc (Value.bool false), AV.sl [Y] (0 : Nat),
 AV.sc (Value.int IntKind.i64 a)]]
 (0 : Nat),
 AV.sc (Value.int IntKind.i64 (IntKind.i64.wrap ((1000 : Int) - i)))] =
 I1 n b (IntKind.i64.wrap (i + (1 : Int)))
 [AV.sc (Value.int IntKind.i64 (20 : Int)), AV.sc (Value.string (ByteArray.mk (Array.mk []))),
 AV.sc (Value.int IntKind.i64 (0 : Int)), AV.sc (Value.bool false),
 AV.sl
 [[AV.sc (Value.int IntKind.i64 (20 : Int)), AV.sc (Value.string (ByteArray.mk (Array.mk []))),
 AV.sc (Value.int IntKind.i64 (0 : Int)), AV.sc (Value.bool false), AV.sl [Y] (0 : Nat),
 AV.sc (Value.int IntKind.i64 a)]]
 (0 : Nat),
 AV.sc (Value.int IntKind.i64 (IntKind.i64.wrap ((1000 : Int) - i)))] ∧
 N
 [AV.sc (Value.int IntKind.i64 (20 : Int)), AV.sc (Value.string (ByteArray.mk (Array.mk []))),
 AV.sc (Value.int IntKind.i64 (0 : Int)), AV.sc (Value.bool false),
 AV.sl
 [[AV.sc (Value.int IntKind.i64 (20 : Int)), AV.sc (Value.string (ByteArray.mk (Array.mk []))),
 AV.sc (Value.int IntKind.i64 (0 : Int)), AV.sc (Value.bool false), AV.sl [Y] (0 : Nat),
 AV.sc (Value.int IntKind.i64 a)]]
 (0 : Nat),
 AV.sc (Value.int IntKind.i64 (IntKind.i64.wrap ((1000 : Int) - i)))]
 (IntKind.i64.wrap (i + (1 : Int))))
 (Ex.exit (0 : Nat) = Ex.exit (0 : Nat) ∧
 E1 n b
 [AV.sc (Value.int IntKind.i64 (20 : Int)), AV.sc (Value.string (ByteArray.mk (Array.mk []))),
 AV.sc (Value.int IntKind.i64 (0 : Int)), AV.sc (Value.bool false), AV.sl [Y] (0 : Nat),
 AV.sc (Value.int IntKind.i64 a)] =
 E1 n b
 [AV.sc (Value.int IntKind.i64 (20 : Int)), AV.sc (Value.string (ByteArray.mk (Array.mk []))),
 AV.sc (Value.int IntKind.i64 (0 : Int)), AV.sc (Value.bool false), AV.sl [Y] (0 : Nat),
 AV.sc (Value.int IntKind.i64 a)] ∧
 Z)) :
 (fun (n b i : Int) (Y : List AV) (a : Int) (N : List AV → Int → Prop) (Z : Prop) => wpRound tabX cfg Tryz.prog 60 3 6 (I1 n b i (grpC Y a)) (fun τ => τ = I1 n b (slI τ 6) (locC τ 0) ∧ N (locC τ 0) (slI τ 6)) (q1 n b (grpC Y a) Z)) n b i Y a N Z :=
 Eq.mp (by kernel_rfl) h
theorem r2geE (n : Int) (b : Int) (i : Int) (Y : List AV) (a : Int) (Y2 : List AV) (N : List AV → Int → Prop) (Z : Prop) (h :
 iteP (decide (i < b))
 (I2 n b (IntKind.i64.wrap (i + (1 : Int)))
 [AV.sc (Value.int IntKind.i64 (20 : Int)), AV.sc (Value.string (ByteArray.mk (Array.mk []))),
 AV.sc (Value.int IntKind.i64 (0 : Int)), AV.sc (Value.bool false), AV.sl [Y] (0 : Nat),
 AV.sc (Value.int IntKind.i64 a)]
 [AV.sc (Value.int IntKind.i64 (9 : Int)), AV.sc (Value.string (ByteArray.mk (Array.mk []))),
 AV.sc (Value.string (ByteArray.mk (Array.mk []))), AV.sc (Value.slice none (0 : Nat) (0 : Nat)),
 AV.sl
 [[AV.sc (Value.int IntKind.i64 (1 : Int)), AV.sc (Value.string (ByteArray.mk (Array.mk []))),
 AV.sc (Value.string (ByteArray.mk (Array.mk []))), AV.sl [Y2] (0 : Nat),
 AV.sc (Value.slice none (0 : Nat) (0 : Nat)), AV.sc (Value.slice none (0 : Nat) (0 : Nat)),
 AV.sc (Value.bool false), AV.sc (Value.int IntKind.i64 (500 : Int))]]
 (0 : Nat),
 AV.sc (Value.slice none (0 : Nat) (0 : Nat)), AV.sc (Value.bool false),
 AV.sc (Value.int IntKind.i64 (IntKind.i64.wrap ((499 : Int) - i)))] =
 I2 n b (IntKind.i64.wrap (i + (1 : Int)))
 [AV.sc (Value.int IntKind.i64 (20 : Int)), AV.sc (Value.string (ByteArray.mk (Array.mk []))),
 AV.sc (Value.int IntKind.i64 (0 : Int)), AV.sc (Value.bool false), AV.sl [Y] (0 : Nat),
 AV.sc (Value.int IntKind.i64 a)]
 [AV.sc (Value.int IntKind.i64 (9 : Int)), AV.sc (Value.string (ByteArray.mk (Array.mk []))),
 AV.sc (Value.string (ByteArray.mk (Array.mk []))), AV.sc (Value.slice none (0 : Nat) (0 : Nat)),
 AV.sl
 [[AV.sc (Value.int IntKind.i64 (1 : Int)), AV.sc (Value.string (ByteArray.mk (Array.mk []))),
 AV.sc (Value.string (ByteArray.mk (Array.mk []))), AV.sl [Y2] (0 : Nat),
 AV.sc (Value.slice none (0 : Nat) (0 : Nat)), AV.sc (Value.slice none (0 : Nat) (0 : Nat)),
 AV.sc (Value.bool false), AV.sc (Value.int IntKind.i64 (500 : Int))]]
 (0 : Nat),
 AV.sc (Value.slice none (0 : Nat) (0 : Nat)), AV.sc (Value.bool false),
 AV.sc (Value.int IntKind.i64 (IntKind.i64.wrap ((499 : Int) - i)))] ∧
 N
 [AV.sc (Value.int IntKind.i64 (9 : Int)), AV.sc (Value.string (ByteArray.mk (Array.mk []))),
 AV.sc (Value.string (ByteArray.mk (Array.mk []))), AV.sc (Value.slice none (0 : Nat) (0 : Nat)),
 AV.sl
 [[AV.sc (Value.int IntKind.i64 (1 : Int)), AV.sc (Value.string (ByteArray.mk (Array.mk []))),
 AV.sc (Value.string (ByteArray.mk (Array.mk []))), AV.sl [Y2] (0 : Nat),
 AV.sc (Value.slice none (0 : Nat) (0 : Nat)), AV.sc (Value.slice none (0 : Nat) (0 : Nat)),
 AV.sc (Value.bool false), AV.sc (Value.int IntKind.i64 (500 : Int))]]
 (0 : Nat),
 AV.sc (Value.slice none (0 : Nat) (0 : Nat)), AV.sc (Value.bool false),
 AV.sc (Value.int IntKind.i64 (IntKind.i64.wrap ((499 : Int) - i)))]
 (IntKind.i64.wrap (i + (1 : Int))))
 (Ex.exit (2 : Nat) = Ex.exit (2 : Nat) ∧
 E2 n b
 [AV.sc (Value.int IntKind.i64 (20 : Int)), AV.sc (Value.string (ByteArray.mk (Array.mk []))),
 AV.sc (Value.int IntKind.i64 (0 : Int)), AV.sc (Value.bool false), AV.sl [Y] (0 : Nat),
 AV.sc (Value.int IntKind.i64 a)]
 [AV.sc (Value.int IntKind.i64 (1 : Int)), AV.sc (Value.string (ByteArray.mk (Array.mk []))),
 AV.sc (Value.string (ByteArray.mk (Array.mk []))), AV.sl [Y2] (0 : Nat),
 AV.sc (Value.slice none (0 : Nat) (0 : Nat)), AV.sc (Value.slice none (0 : Nat) (0 : Nat)),
 AV.sc (Value.bool false), AV.sc (Value.int IntKind.i64 (500 : Int))] =
 E2 n b
 [AV.sc (Value.int IntKind.i64 (20 : Int)), AV.sc (Value.string (ByteArray.mk (Array.mk []))),
 AV.sc (Value.int IntKind.i64 (0 : Int)), AV.sc (Value.bool false), AV.sl [Y] (0 : Nat),
 AV.sc (Value.int IntKind.i64 a)]
 [AV.sc (Value.int IntKind.i64 (1 : Int)), AV.sc (Value.string (ByteArray.mk (Array.mk []))),
 AV.sc (Value.string (ByteArray.mk (Array.mk []))), AV.sl [Y2] (0 : Nat),
 AV.sc (Value.slice none (0 : Nat) (0 : Nat)), AV.sc (Value.slice none (0 : Nat) (0 : Nat)),
 AV.sc (Value.bool false), AV.sc (Value.int IntKind.i64 (500 : Int))] ∧
 Z)) :
 (fun (n b i : Int) (Y : List AV) (a : Int) (Y2 : List AV) (N : List AV → Int → Prop) (Z : Prop) => wpRound tabX cfg Tryz.prog 60 3 11 (I2 n b i (grpC Y a) (exprC Y2)) (fun τ => τ = I2 n b (slI τ 8) (grpC Y a) (locC τ 1) ∧ N (locC τ 1) (slI τ 8)) (q2 n b (grpC Y a) (exprC Y2) Z)) n b i Y a Y2 N Z :=
 Eq.mp (by kernel_rfl) h
theorem r2gbE (n : Int) (b : Int) (i : Int) (Y : List AV) (a : Int) (Y2 : List AV) (a2 : Int) (N : List AV → Int → Prop) (Z : Prop) (h :
 iteP (decide (i < b))
 (I2 n b (IntKind.i64.wrap (i + (1 : Int)))
 [AV.sc (Value.int IntKind.i64 (20 : Int)), AV.sc (Value.string (ByteArray.mk (Array.mk []))),
 AV.sc (Value.int IntKind.i64 (0 : Int)), AV.sc (Value.bool false), AV.sl [Y] (0 : Nat),
 AV.sc (Value.int IntKind.i64 a)]
 [AV.sc (Value.int IntKind.i64 (9 : Int)), AV.sc (Value.string (ByteArray.mk (Array.mk []))),
 AV.sc (Value.string (ByteArray.mk (Array.mk []))), AV.sc (Value.slice none (0 : Nat) (0 : Nat)),
 AV.sl
 [[AV.sc (Value.int IntKind.i64 (9 : Int)), AV.sc (Value.string (ByteArray.mk (Array.mk []))),
 AV.sc (Value.string (ByteArray.mk (Array.mk []))), AV.sc (Value.slice none (0 : Nat) (0 : Nat)),
 AV.sl [Y2] (0 : Nat), AV.sc (Value.slice none (0 : Nat) (0 : Nat)), AV.sc (Value.bool false),
 AV.sc (Value.int IntKind.i64 a2)]]
 (0 : Nat),
 AV.sc (Value.slice none (0 : Nat) (0 : Nat)), AV.sc (Value.bool false),
 AV.sc (Value.int IntKind.i64 (IntKind.i64.wrap ((499 : Int) - i)))] =
 I2 n b (IntKind.i64.wrap (i + (1 : Int)))
 [AV.sc (Value.int IntKind.i64 (20 : Int)), AV.sc (Value.string (ByteArray.mk (Array.mk []))),
 AV.sc (Value.int IntKind.i64 (0 : Int)), AV.sc (Value.bool false), AV.sl [Y] (0 : Nat),
 AV.sc (Value.int IntKind.i64 a)]
 [AV.sc (Value.int IntKind.i64 (9 : Int)), AV.sc (Value.string (ByteArray.mk (Array.mk []))),
 AV.sc (Value.string (ByteArray.mk (Array.mk []))), AV.sc (Value.slice none (0 : Nat) (0 : Nat)),
 AV.sl
 [[AV.sc (Value.int IntKind.i64 (9 : Int)), AV.sc (Value.string (ByteArray.mk (Array.mk []))),
 AV.sc (Value.string (ByteArray.mk (Array.mk []))), AV.sc (Value.slice none (0 : Nat) (0 : Nat)),
 AV.sl [Y2] (0 : Nat), AV.sc (Value.slice none (0 : Nat) (0 : Nat)), AV.sc (Value.bool false),
 AV.sc (Value.int IntKind.i64 a2)]]
 (0 : Nat),
 AV.sc (Value.slice none (0 : Nat) (0 : Nat)), AV.sc (Value.bool false),
 AV.sc (Value.int IntKind.i64 (IntKind.i64.wrap ((499 : Int) - i)))] ∧
 N
 [AV.sc (Value.int IntKind.i64 (9 : Int)), AV.sc (Value.string (ByteArray.mk (Array.mk []))),
 AV.sc (Value.string (ByteArray.mk (Array.mk []))), AV.sc (Value.slice none (0 : Nat) (0 : Nat)),
 AV.sl
 [[AV.sc (Value.int IntKind.i64 (9 : Int)), AV.sc (Value.string (ByteArray.mk (Array.mk []))),
 AV.sc (Value.string (ByteArray.mk (Array.mk []))), AV.sc (Value.slice none (0 : Nat) (0 : Nat)),
 AV.sl [Y2] (0 : Nat), AV.sc (Value.slice none (0 : Nat) (0 : Nat)), AV.sc (Value.bool false),
 AV.sc (Value.int IntKind.i64 a2)]]
 (0 : Nat),
 AV.sc (Value.slice none (0 : Nat) (0 : Nat)), AV.sc (Value.bool false),
 AV.sc (Value.int IntKind.i64 (IntKind.i64.wrap ((499 : Int) - i)))]
 (IntKind.i64.wrap (i + (1 : Int))))
 (Ex.exit (2 : Nat) = Ex.exit (2 : Nat) ∧
 E2 n b
 [AV.sc (Value.int IntKind.i64 (20 : Int)), AV.sc (Value.string (ByteArray.mk (Array.mk []))),
 AV.sc (Value.int IntKind.i64 (0 : Int)), AV.sc (Value.bool false), AV.sl [Y] (0 : Nat),
 AV.sc (Value.int IntKind.i64 a)]
 [AV.sc (Value.int IntKind.i64 (9 : Int)), AV.sc (Value.string (ByteArray.mk (Array.mk []))),
 AV.sc (Value.string (ByteArray.mk (Array.mk []))), AV.sc (Value.slice none (0 : Nat) (0 : Nat)),
 AV.sl [Y2] (0 : Nat), AV.sc (Value.slice none (0 : Nat) (0 : Nat)), AV.sc (Value.bool false),
 AV.sc (Value.int IntKind.i64 a2)] =
 E2 n b
 [AV.sc (Value.int IntKind.i64 (20 : Int)), AV.sc (Value.string (ByteArray.mk (Array.mk []))),
 AV.sc (Value.int IntKind.i64 (0 : Int)), AV.sc (Value.bool false), AV.sl [Y] (0 : Nat),
 AV.sc (Value.int IntKind.i64 a)]
 [AV.sc (Value.int IntKind.i64 (9 : Int)), AV.sc (Value.string (ByteArray.mk (Array.mk []))),
 AV.sc (Value.string (ByteArray.mk (Array.mk []))), AV.sc (Value.slice none (0 : Nat) (0 : Nat)),
 AV.sl [Y2] (0 : Nat), AV.sc (Value.slice none (0 : Nat) (0 : Nat)), AV.sc (Value.bool false),
 AV.sc (Value.int IntKind.i64 a2)] ∧
 Z)) :
 (fun (n b i : Int) (Y : List AV) (a : Int) (Y2 : List AV) (a2 : Int) (N : List AV → Int → Prop) (Z : Prop) => wpRound tabX cfg Tryz.prog 60 3 11 (I2 n b i (grpC Y a) (blkC Y2 a2)) (fun τ => τ = I2 n b (slI τ 8) (grpC Y a) (locC τ 1) ∧ N (locC τ 1) (slI τ 8)) (q2 n b (grpC Y a) (blkC Y2 a2) Z)) n b i Y a Y2 a2 N Z :=
 Eq.mp (by kernel_rfl) h
theorem r1nI (n : Int) (b : Int) (i : Int) (N : List AV → Int → Prop) (Z : Prop) (h :
 iteP (decide (i < n))
 (I1 n b (IntKind.i64.wrap (i + (1 : Int)))
 [AV.sc (Value.int IntKind.i64 (20 : Int)), AV.sc (Value.string (ByteArray.mk (Array.mk []))),
 AV.sc (Value.int IntKind.i64 (0 : Int)), AV.sc (Value.bool false),
 AV.sl
 [[AV.sc (Value.int IntKind.i64 (1 : Int)), AV.sc (Value.string (ByteArray.mk (Array.mk []))),
 AV.sc (Value.int IntKind.i64 (0 : Int)), AV.sc (Value.bool false),
 AV.sc (Value.slice none (0 : Nat) (0 : Nat)), AV.sc (Value.int IntKind.i64 (1000 : Int))]]
 (0 : Nat),
 AV.sc (Value.int IntKind.i64 (IntKind.i64.wrap ((1000 : Int) - i)))] =
 I1 n b (IntKind.i64.wrap (i + (1 : Int)))
 [AV.sc (Value.int IntKind.i64 (20 : Int)), AV.sc (Value.string (ByteArray.mk (Array.mk []))),
 AV.sc (Value.int IntKind.i64 (0 : Int)), AV.sc (Value.bool false),
 AV.sl
 [[AV.sc (Value.int IntKind.i64 (1 : Int)), AV.sc (Value.string (ByteArray.mk (Array.mk []))),
 AV.sc (Value.int IntKind.i64 (0 : Int)), AV.sc (Value.bool false),
 AV.sc (Value.slice none (0 : Nat) (0 : Nat)), AV.sc (Value.int IntKind.i64 (1000 : Int))]]
 (0 : Nat),
 AV.sc (Value.int IntKind.i64 (IntKind.i64.wrap ((1000 : Int) - i)))] ∧
 N
 [AV.sc (Value.int IntKind.i64 (20 : Int)), AV.sc (Value.string (ByteArray.mk (Array.mk []))),
 AV.sc (Value.int IntKind.i64 (0 : Int)), AV.sc (Value.bool false),
 AV.sl
 [[AV.sc (Value.int IntKind.i64 (1 : Int)), AV.sc (Value.string (ByteArray.mk (Array.mk []))),
 AV.sc (Value.int IntKind.i64 (0 : Int)), AV.sc (Value.bool false),
 AV.sc (Value.slice none (0 : Nat) (0 : Nat)), AV.sc (Value.int IntKind.i64 (1000 : Int))]]
 (0 : Nat),
 AV.sc (Value.int IntKind.i64 (IntKind.i64.wrap ((1000 : Int) - i)))]
 (IntKind.i64.wrap (i + (1 : Int))))
 (Ex.exit (0 : Nat) = Ex.exit (0 : Nat) ∧
 E1 n b
 [AV.sc (Value.int IntKind.i64 (1 : Int)), AV.sc (Value.string (ByteArray.mk (Array.mk []))),
 AV.sc (Value.int IntKind.i64 (0 : Int)), AV.sc (Value.bool false),
 AV.sc (Value.slice none (0 : Nat) (0 : Nat)), AV.sc (Value.int IntKind.i64 (1000 : Int))] =
 E1 n b
 [AV.sc (Value.int IntKind.i64 (1 : Int)), AV.sc (Value.string (ByteArray.mk (Array.mk []))),
 AV.sc (Value.int IntKind.i64 (0 : Int)), AV.sc (Value.bool false),
 AV.sc (Value.slice none (0 : Nat) (0 : Nat)), AV.sc (Value.int IntKind.i64 (1000 : Int))] ∧
 Z)) :
 (fun (n b i : Int) (N : List AV → Int → Prop) (Z : Prop) => wpRound tabX cfgI Tryz.prog 60 3 6 (I1 n b i numC) (fun τ => τ = I1 n b (slI τ 6) (locC τ 0) ∧ N (locC τ 0) (slI τ 6)) (q1 n b numC Z)) n b i N Z :=
 Eq.mp (by kernel_rfl) h
theorem r2neI (n : Int) (b : Int) (i : Int) (Y2 : List AV) (N : List AV → Int → Prop) (Z : Prop) (h :
 iteP (decide (i < b))
 (I2 n b (IntKind.i64.wrap (i + (1 : Int)))
 [AV.sc (Value.int IntKind.i64 (1 : Int)), AV.sc (Value.string (ByteArray.mk (Array.mk []))),
 AV.sc (Value.int IntKind.i64 (0 : Int)), AV.sc (Value.bool false),
 AV.sc (Value.slice none (0 : Nat) (0 : Nat)), AV.sc (Value.int IntKind.i64 (1000 : Int))]
 [AV.sc (Value.int IntKind.i64 (9 : Int)), AV.sc (Value.string (ByteArray.mk (Array.mk []))),
 AV.sc (Value.string (ByteArray.mk (Array.mk []))), AV.sc (Value.slice none (0 : Nat) (0 : Nat)),
 AV.sl
 [[AV.sc (Value.int IntKind.i64 (1 : Int)), AV.sc (Value.string (ByteArray.mk (Array.mk []))),
 AV.sc (Value.string (ByteArray.mk (Array.mk []))), AV.sl [Y2] (0 : Nat),
 AV.sc (Value.slice none (0 : Nat) (0 : Nat)), AV.sc (Value.slice none (0 : Nat) (0 : Nat)),
 AV.sc (Value.bool false), AV.sc (Value.int IntKind.i64 (500 : Int))]]
 (0 : Nat),
 AV.sc (Value.slice none (0 : Nat) (0 : Nat)), AV.sc (Value.bool false),
 AV.sc (Value.int IntKind.i64 (IntKind.i64.wrap ((499 : Int) - i)))] =
 I2 n b (IntKind.i64.wrap (i + (1 : Int)))
 [AV.sc (Value.int IntKind.i64 (1 : Int)), AV.sc (Value.string (ByteArray.mk (Array.mk []))),
 AV.sc (Value.int IntKind.i64 (0 : Int)), AV.sc (Value.bool false),
 AV.sc (Value.slice none (0 : Nat) (0 : Nat)), AV.sc (Value.int IntKind.i64 (1000 : Int))]
 [AV.sc (Value.int IntKind.i64 (9 : Int)), AV.sc (Value.string (ByteArray.mk (Array.mk []))),
 AV.sc (Value.string (ByteArray.mk (Array.mk []))), AV.sc (Value.slice none (0 : Nat) (0 : Nat)),
 AV.sl
 [[AV.sc (Value.int IntKind.i64 (1 : Int)), AV.sc (Value.string (ByteArray.mk (Array.mk []))),
 AV.sc (Value.string (ByteArray.mk (Array.mk []))), AV.sl [Y2] (0 : Nat),
 AV.sc (Value.slice none (0 : Nat) (0 : Nat)), AV.sc (Value.slice none (0 : Nat) (0 : Nat)),
 AV.sc (Value.bool false), AV.sc (Value.int IntKind.i64 (500 : Int))]]
 (0 : Nat),
 AV.sc (Value.slice none (0 : Nat) (0 : Nat)), AV.sc (Value.bool false),
 AV.sc (Value.int IntKind.i64 (IntKind.i64.wrap ((499 : Int) - i)))] ∧
 N
 [AV.sc (Value.int IntKind.i64 (9 : Int)), AV.sc (Value.string (ByteArray.mk (Array.mk []))),
 AV.sc (Value.string (ByteArray.mk (Array.mk []))), AV.sc (Value.slice none (0 : Nat) (0 : Nat)),
 AV.sl
 [[AV.sc (Value.int IntKind.i64 (1 : Int)), AV.sc (Value.string (ByteArray.mk (Array.mk []))),
 AV.sc (Value.string (ByteArray.mk (Array.mk []))), AV.sl [Y2] (0 : Nat),
 AV.sc (Value.slice none (0 : Nat) (0 : Nat)), AV.sc (Value.slice none (0 : Nat) (0 : Nat)),
 AV.sc (Value.bool false), AV.sc (Value.int IntKind.i64 (500 : Int))]]
 (0 : Nat),
 AV.sc (Value.slice none (0 : Nat) (0 : Nat)), AV.sc (Value.bool false),
 AV.sc (Value.int IntKind.i64 (IntKind.i64.wrap ((499 : Int) - i)))]
 (IntKind.i64.wrap (i + (1 : Int))))
 (Ex.exit (2 : Nat) = Ex.exit (2 : Nat) ∧
 E2 n b
 [AV.sc (Value.int IntKind.i64 (1 : Int)), AV.sc (Value.string (ByteArray.mk (Array.mk []))),
 AV.sc (Value.int IntKind.i64 (0 : Int)), AV.sc (Value.bool false),
 AV.sc (Value.slice none (0 : Nat) (0 : Nat)), AV.sc (Value.int IntKind.i64 (1000 : Int))]
 [AV.sc (Value.int IntKind.i64 (1 : Int)), AV.sc (Value.string (ByteArray.mk (Array.mk []))),
 AV.sc (Value.string (ByteArray.mk (Array.mk []))), AV.sl [Y2] (0 : Nat),
 AV.sc (Value.slice none (0 : Nat) (0 : Nat)), AV.sc (Value.slice none (0 : Nat) (0 : Nat)),
 AV.sc (Value.bool false), AV.sc (Value.int IntKind.i64 (500 : Int))] =
 E2 n b
 [AV.sc (Value.int IntKind.i64 (1 : Int)), AV.sc (Value.string (ByteArray.mk (Array.mk []))),
 AV.sc (Value.int IntKind.i64 (0 : Int)), AV.sc (Value.bool false),
 AV.sc (Value.slice none (0 : Nat) (0 : Nat)), AV.sc (Value.int IntKind.i64 (1000 : Int))]
 [AV.sc (Value.int IntKind.i64 (1 : Int)), AV.sc (Value.string (ByteArray.mk (Array.mk []))),
 AV.sc (Value.string (ByteArray.mk (Array.mk []))), AV.sl [Y2] (0 : Nat),
 AV.sc (Value.slice none (0 : Nat) (0 : Nat)), AV.sc (Value.slice none (0 : Nat) (0 : Nat)),
 AV.sc (Value.bool false), AV.sc (Value.int IntKind.i64 (500 : Int))] ∧
 Z)) :
 (fun (n b i : Int) (Y2 : List AV) (N : List AV → Int → Prop) (Z : Prop) => wpRound tabX cfgI Tryz.prog 60 3 11 (I2 n b i numC (exprC Y2)) (fun τ => τ = I2 n b (slI τ 8) numC (locC τ 1) ∧ N (locC τ 1) (slI τ 8)) (q2 n b numC (exprC Y2) Z)) n b i Y2 N Z :=
 Eq.mp (by kernel_rfl) h
theorem r2nbI (n : Int) (b : Int) (i : Int) (Y2 : List AV) (a2 : Int) (N : List AV → Int → Prop) (Z : Prop) (h :
 iteP (decide (i < b))
 (I2 n b (IntKind.i64.wrap (i + (1 : Int)))
 [AV.sc (Value.int IntKind.i64 (1 : Int)), AV.sc (Value.string (ByteArray.mk (Array.mk []))),
 AV.sc (Value.int IntKind.i64 (0 : Int)), AV.sc (Value.bool false),
 AV.sc (Value.slice none (0 : Nat) (0 : Nat)), AV.sc (Value.int IntKind.i64 (1000 : Int))]
 [AV.sc (Value.int IntKind.i64 (9 : Int)), AV.sc (Value.string (ByteArray.mk (Array.mk []))),
 AV.sc (Value.string (ByteArray.mk (Array.mk []))), AV.sc (Value.slice none (0 : Nat) (0 : Nat)),
 AV.sl
 [[AV.sc (Value.int IntKind.i64 (9 : Int)), AV.sc (Value.string (ByteArray.mk (Array.mk []))),
 AV.sc (Value.string (ByteArray.mk (Array.mk []))), AV.sc (Value.slice none (0 : Nat) (0 : Nat)),
 AV.sl [Y2] (0 : Nat), AV.sc (Value.slice none (0 : Nat) (0 : Nat)), AV.sc (Value.bool false),
 AV.sc (Value.int IntKind.i64 a2)]]
 (0 : Nat),
 AV.sc (Value.slice none (0 : Nat) (0 : Nat)), AV.sc (Value.bool false),
 AV.sc (Value.int IntKind.i64 (IntKind.i64.wrap ((499 : Int) - i)))] =
 I2 n b (IntKind.i64.wrap (i + (1 : Int)))
 [AV.sc (Value.int IntKind.i64 (1 : Int)), AV.sc (Value.string (ByteArray.mk (Array.mk []))),
 AV.sc (Value.int IntKind.i64 (0 : Int)), AV.sc (Value.bool false),
 AV.sc (Value.slice none (0 : Nat) (0 : Nat)), AV.sc (Value.int IntKind.i64 (1000 : Int))]
 [AV.sc (Value.int IntKind.i64 (9 : Int)), AV.sc (Value.string (ByteArray.mk (Array.mk []))),
 AV.sc (Value.string (ByteArray.mk (Array.mk []))), AV.sc (Value.slice none (0 : Nat) (0 : Nat)),
 AV.sl
 [[AV.sc (Value.int IntKind.i64 (9 : Int)), AV.sc (Value.string (ByteArray.mk (Array.mk []))),
 AV.sc (Value.string (ByteArray.mk (Array.mk []))), AV.sc (Value.slice none (0 : Nat) (0 : Nat)),
 AV.sl [Y2] (0 : Nat), AV.sc (Value.slice none (0 : Nat) (0 : Nat)), AV.sc (Value.bool false),
 AV.sc (Value.int IntKind.i64 a2)]]
 (0 : Nat),
 AV.sc (Value.slice none (0 : Nat) (0 : Nat)), AV.sc (Value.bool false),
 AV.sc (Value.int IntKind.i64 (IntKind.i64.wrap ((499 : Int) - i)))] ∧
 N
 [AV.sc (Value.int IntKind.i64 (9 : Int)), AV.sc (Value.string (ByteArray.mk (Array.mk []))),
 AV.sc (Value.string (ByteArray.mk (Array.mk []))), AV.sc (Value.slice none (0 : Nat) (0 : Nat)),
 AV.sl
 [[AV.sc (Value.int IntKind.i64 (9 : Int)), AV.sc (Value.string (ByteArray.mk (Array.mk []))),
 AV.sc (Value.string (ByteArray.mk (Array.mk []))), AV.sc (Value.slice none (0 : Nat) (0 : Nat)),
 AV.sl [Y2] (0 : Nat), AV.sc (Value.slice none (0 : Nat) (0 : Nat)), AV.sc (Value.bool false),
 AV.sc (Value.int IntKind.i64 a2)]]
 (0 : Nat),
 AV.sc (Value.slice none (0 : Nat) (0 : Nat)), AV.sc (Value.bool false),
 AV.sc (Value.int IntKind.i64 (IntKind.i64.wrap ((499 : Int) - i)))]
 (IntKind.i64.wrap (i + (1 : Int))))
 (Ex.exit (2 : Nat) = Ex.exit (2 : Nat) ∧
 E2 n b
 [AV.sc (Value.int IntKind.i64 (1 : Int)), AV.sc (Value.string (ByteArray.mk (Array.mk []))),
 AV.sc (Value.int IntKind.i64 (0 : Int)), AV.sc (Value.bool false),
 AV.sc (Value.slice none (0 : Nat) (0 : Nat)), AV.sc (Value.int IntKind.i64 (1000 : Int))]
 [AV.sc (Value.int IntKind.i64 (9 : Int)), AV.sc (Value.string (ByteArray.mk (Array.mk []))),
 AV.sc (Value.string (ByteArray.mk (Array.mk []))), AV.sc (Value.slice none (0 : Nat) (0 : Nat)),
 AV.sl [Y2] (0 : Nat), AV.sc (Value.slice none (0 : Nat) (0 : Nat)), AV.sc (Value.bool false),
 AV.sc (Value.int IntKind.i64 a2)] =
 E2 n b
 [AV.sc (Value.int IntKind.i64 (1 : Int)), AV.sc (Value.string (ByteArray.mk (Array.mk []))),
 AV.sc (Value.int IntKind.i64 (0 : Int)), AV.sc (Value.bool false),
 AV.sc (Value.slice none (0 : Nat) (0 : Nat)), AV.sc (Value.int IntKind.i64 (1000 : Int))]
 [AV.sc (Value.int IntKind.i64 (9 : Int)), AV.sc (Value.string (ByteArray.mk (Array.mk []))),
 AV.sc (Value.string (ByteArray.mk (Array.mk []))), AV.sc (Value.slice none (0 : Nat) (0 : Nat)),
 AV.sl [Y2] (0 : Nat), AV.sc (Value.slice none (0 : Nat) (0 : Nat)), AV.sc (Value.bool false),
 AV.sc (Value.int IntKind.i64 a2)] ∧
 Z)) :
 (fun (n b i : Int) (Y2 : List AV) (a2 : Int) (N : List AV → Int → Prop) (Z : Prop) => wpRound tabX cfgI Tryz.prog 60 3 11 (I2 n b i numC (blkC Y2 a2)) (fun τ => τ = I2 n b (slI τ 8) numC (locC τ 1) ∧ N (locC τ 1) (slI τ 8)) (q2 n b numC (blkC Y2 a2) Z)) n b i Y2 a2 N Z :=
 Eq.mp (by kernel_rfl) h
theorem r1gI (n : Int) (b : Int) (i : Int) (Y : List AV) (a : Int) (N : List AV → Int → Prop) (Z : Prop) (h :
 iteP (decide (i < n))
 (I1 n b (IntKind.i64.wrap (i + (1 : Int)))
 [AV.sc (Value.int IntKind.i64 (20 : Int)), AV.sc (Value.string (ByteArray.mk (Array.mk []))),
 AV.sc (Value.int IntKind.i64 (0 : Int)), AV.sc (Value.bool false),
 AV.sl
 [[AV.sc (Value.int IntKind.i64 (20 : Int)), AV.sc (Value.string (ByteArray.mk (Array.mk []))),
 AV.sc (Value.int IntKind.i64 (0 : Int)), AV.sc (Value.bool false), AV.sl [Y] (0 : Nat),
 AV.sc (Value.int IntKind.i64 a)]]
 (0 : Nat),
 AV.sc (Value.int IntKind.i64 (IntKind.i64.wrap ((1000 : Int) - i)))] =
 I1 n b (IntKind.i64.wrap (i + (1 : Int)))
 [AV.sc (Value.int IntKind.i64 (20 : Int)), AV.sc (Value.string (ByteArray.mk (Array.mk []))),
 AV.sc (Value.int IntKind.i64 (0 : Int)), AV.sc (Value.bool false),
 AV.sl
 [[AV.sc (Value.int IntKind.i64 (20 : Int)), AV.sc (Value.string (ByteArray.mk (Array.mk []))),
 AV.sc (Value.int IntKind.i64 (0 : Int)), AV.sc (Value.bool false), AV.sl [Y] (0 : Nat),
 AV.sc (Value.int IntKind.i64 a)]]
 (0 : Nat),
 AV.sc (Value.int IntKind.i64 (IntKind.i64.wrap ((1000 : Int) - i)))] ∧
 N
 [AV.sc (Value.int IntKind.i64 (20 : Int)), AV.sc (Value.string (ByteArray.mk (Array.mk []))),
 AV.sc (Value.int IntKind.i64 (0 : Int)), AV.sc (Value.bool false),
 AV.sl
 [[AV.sc (Value.int IntKind.i64 (20 : Int)), AV.sc (Value.string (ByteArray.mk (Array.mk []))),
 AV.sc (Value.int IntKind.i64 (0 : Int)), AV.sc (Value.bool false), AV.sl [Y] (0 : Nat),
 AV.sc (Value.int IntKind.i64 a)]]
 (0 : Nat),
 AV.sc (Value.int IntKind.i64 (IntKind.i64.wrap ((1000 : Int) - i)))]
 (IntKind.i64.wrap (i + (1 : Int))))
 (Ex.exit (0 : Nat) = Ex.exit (0 : Nat) ∧
 E1 n b
 [AV.sc (Value.int IntKind.i64 (20 : Int)), AV.sc (Value.string (ByteArray.mk (Array.mk []))),
 AV.sc (Value.int IntKind.i64 (0 : Int)), AV.sc (Value.bool false), AV.sl [Y] (0 : Nat),
 AV.sc (Value.int IntKind.i64 a)] =
 E1 n b
 [AV.sc (Value.int IntKind.i64 (20 : Int)), AV.sc (Value.string (ByteArray.mk (Array.mk []))),
 AV.sc (Value.int IntKind.i64 (0 : Int)), AV.sc (Value.bool false), AV.sl [Y] (0 : Nat),
 AV.sc (Value.int IntKind.i64 a)] ∧
 Z)) :
 (fun (n b i : Int) (Y : List AV) (a : Int) (N : List AV → Int → Prop) (Z : Prop) => wpRound tabX cfgI Tryz.prog 60 3 6 (I1 n b i (grpC Y a)) (fun τ => τ = I1 n b (slI τ 6) (locC τ 0) ∧ N (locC τ 0) (slI τ 6)) (q1 n b (grpC Y a) Z)) n b i Y a N Z :=
 Eq.mp (by kernel_rfl) h
theorem r2geI (n : Int) (b : Int) (i : Int) (Y : List AV) (a : Int) (Y2 : List AV) (N : List AV → Int → Prop) (Z : Prop) (h :
 iteP (decide (i < b))
 (I2 n b (IntKind.i64.wrap (i + (1 : Int)))
 [AV.sc (Value.int IntKind.i64 (20 : Int)), AV.sc (Value.string (ByteArray.mk (Array.mk []))),
 AV.sc (Value.int IntKind.i64 (0 : Int)), AV.sc (Value.bool false), AV.sl [Y] (0 : Nat),
 AV.sc (Value.int IntKind.i64 a)]
 [AV.sc (Value.int IntKind.i64 (9 : Int)), AV.sc (Value.string (ByteArray.mk (Array.mk []))),
 AV.sc (Value.string (ByteArray.mk (Array.mk []))), AV.sc (Value.slice none (0 : Nat) (0 : Nat)),
 AV.sl
 [[AV.sc (Value.int IntKind.i64 (1 : Int)), AV.sc (Value.string (ByteArray.mk (Array.mk []))),
 AV.sc (Value.string (ByteArray.mk (Array.mk []))), AV.sl [Y2] (0 : Nat),
 AV.sc (Value.slice none (0 : Nat) (0 : Nat)), AV.sc (Value.slice none (0 : Nat) (0 : Nat)),
 AV.sc (Value.bool false), AV.sc (Value.int IntKind.i64 (500 : Int))]]
 (0 : Nat),
 AV.sc (Value.slice none (0 : Nat) (0 : Nat)), AV.sc (Value.bool false),
 AV.sc (Value.int IntKind.i64 (IntKind.i64.wrap ((499 : Int) - i)))] =
 I2 n b (IntKind.i64.wrap (i + (1 : Int)))
 [AV.sc (Value.int IntKind.i64 (20 : Int)), AV.sc (Value.string (ByteArray.mk (Array.mk []))),
 AV.sc (Value.int IntKind.i64 (0 : Int)), AV.sc (Value.bool false), AV.sl [Y] (0 : Nat),
 AV.sc (Value.int IntKind.i64 a)]
 [AV.sc (Value.int IntKind.i64 (9 : Int)), AV.sc (Value.string (ByteArray.mk (Array.mk []))),
 AV.sc (Value.string (ByteArray.mk (Array.mk []))), AV.sc (Value.slice none (0 : Nat) (0 : Nat)),
 AV.sl
 [[AV.sc (Value.int IntKind.i64 (1 : Int)), AV.sc (Value.string (ByteArray.mk (Array.mk []))),
 AV.sc (Value.string (ByteArray.mk (Array.mk []))), AV.sl [Y2] (0 : Nat),
 AV.sc (Value.slice none (0 : Nat) (0 : Nat)), AV.sc (Value.slice none (0 : Nat) (0 : Nat)),
 AV.sc (Value.bool false), AV.sc (Value.int IntKind.i64 (500 : Int))]]
 (0 : Nat),
 AV.sc (Value.slice none (0 : Nat) (0 : Nat)), AV.sc (Value.bool false),
 AV.sc (Value.int IntKind.i64 (IntKind.i64.wrap ((499 : Int) - i)))] ∧
 N
 [AV.sc (Value.int IntKind.i64 (9 : Int)), AV.sc (Value.string (ByteArray.mk (Array.mk []))),
 AV.sc (Value.string (ByteArray.mk (Array.mk []))), AV.sc (Value.slice none (0 : Nat) (0 : Nat)),
 AV.sl
 [[AV.sc (Value.int IntKind.i64 (1 : Int)), AV.sc (Value.string (ByteArray.mk (Array.mk []))),
 AV.sc (Value.string (ByteArray.mk (Array.mk []))), AV.sl [Y2] (0 : Nat),
 AV.sc (Value.slice none (0 : Nat) (0 : Nat)), AV.sc (Value.slice none (0 : Nat) (0 : Nat)),
 AV.sc (Value.bool false), AV.sc (Value.int IntKind.i64 (500 : Int))]]
 (0 : Nat),
 AV.sc (Value.slice none (0 : Nat) (0 : Nat)), AV.sc (Value.bool false),
 AV.sc (Value.int IntKind.i64 (IntKind.i64.wrap ((499 : Int) - i)))]
 (IntKind.i64.wrap (i + (1 : Int))))
 (Ex.exit (2 : Nat) = Ex.exit (2 : Nat) ∧
 E2 n b
 [AV.sc (Value.int IntKind.i64 (20 : Int)), AV.sc (Value.string (ByteArray.mk (Array.mk []))),
 AV.sc (Value.int IntKind.i64 (0 : Int)), AV.sc (Value.bool false), AV.sl [Y] (0 : Nat),
 AV.sc (Value.int IntKind.i64 a)]
 [AV.sc (Value.int IntKind.i64 (1 : Int)), AV.sc (Value.string (ByteArray.mk (Array.mk []))),
 AV.sc (Value.string (ByteArray.mk (Array.mk []))), AV.sl [Y2] (0 : Nat),
 AV.sc (Value.slice none (0 : Nat) (0 : Nat)), AV.sc (Value.slice none (0 : Nat) (0 : Nat)),
 AV.sc (Value.bool false), AV.sc (Value.int IntKind.i64 (500 : Int))] =
 E2 n b
 [AV.sc (Value.int IntKind.i64 (20 : Int)), AV.sc (Value.string (ByteArray.mk (Array.mk []))),
 AV.sc (Value.int IntKind.i64 (0 : Int)), AV.sc (Value.bool false), AV.sl [Y] (0 : Nat),
 AV.sc (Value.int IntKind.i64 a)]
 [AV.sc (Value.int IntKind.i64 (1 : Int)), AV.sc (Value.string (ByteArray.mk (Array.mk []))),
 AV.sc (Value.string (ByteArray.mk (Array.mk []))), AV.sl [Y2] (0 : Nat),
 AV.sc (Value.slice none (0 : Nat) (0 : Nat)), AV.sc (Value.slice none (0 : Nat) (0 : Nat)),
 AV.sc (Value.bool false), AV.sc (Value.int IntKind.i64 (500 : Int))] ∧
 Z)) :
 (fun (n b i : Int) (Y : List AV) (a : Int) (Y2 : List AV) (N : List AV → Int → Prop) (Z : Prop) => wpRound tabX cfgI Tryz.prog 60 3 11 (I2 n b i (grpC Y a) (exprC Y2)) (fun τ => τ = I2 n b (slI τ 8) (grpC Y a) (locC τ 1) ∧ N (locC τ 1) (slI τ 8)) (q2 n b (grpC Y a) (exprC Y2) Z)) n b i Y a Y2 N Z :=
 Eq.mp (by kernel_rfl) h
theorem r2gbI (n : Int) (b : Int) (i : Int) (Y : List AV) (a : Int) (Y2 : List AV) (a2 : Int) (N : List AV → Int → Prop) (Z : Prop) (h :
 iteP (decide (i < b))
 (I2 n b (IntKind.i64.wrap (i + (1 : Int)))
 [AV.sc (Value.int IntKind.i64 (20 : Int)), AV.sc (Value.string (ByteArray.mk (Array.mk []))),
 AV.sc (Value.int IntKind.i64 (0 : Int)), AV.sc (Value.bool false), AV.sl [Y] (0 : Nat),
 AV.sc (Value.int IntKind.i64 a)]
 [AV.sc (Value.int IntKind.i64 (9 : Int)), AV.sc (Value.string (ByteArray.mk (Array.mk []))),
 AV.sc (Value.string (ByteArray.mk (Array.mk []))), AV.sc (Value.slice none (0 : Nat) (0 : Nat)),
 AV.sl
 [[AV.sc (Value.int IntKind.i64 (9 : Int)), AV.sc (Value.string (ByteArray.mk (Array.mk []))),
 AV.sc (Value.string (ByteArray.mk (Array.mk []))), AV.sc (Value.slice none (0 : Nat) (0 : Nat)),
 AV.sl [Y2] (0 : Nat), AV.sc (Value.slice none (0 : Nat) (0 : Nat)), AV.sc (Value.bool false),
 AV.sc (Value.int IntKind.i64 a2)]]
 (0 : Nat),
 AV.sc (Value.slice none (0 : Nat) (0 : Nat)), AV.sc (Value.bool false),
 AV.sc (Value.int IntKind.i64 (IntKind.i64.wrap ((499 : Int) - i)))] =
 I2 n b (IntKind.i64.wrap (i + (1 : Int)))
 [AV.sc (Value.int IntKind.i64 (20 : Int)), AV.sc (Value.string (ByteArray.mk (Array.mk []))),
 AV.sc (Value.int IntKind.i64 (0 : Int)), AV.sc (Value.bool false), AV.sl [Y] (0 : Nat),
 AV.sc (Value.int IntKind.i64 a)]
 [AV.sc (Value.int IntKind.i64 (9 : Int)), AV.sc (Value.string (ByteArray.mk (Array.mk []))),
 AV.sc (Value.string (ByteArray.mk (Array.mk []))), AV.sc (Value.slice none (0 : Nat) (0 : Nat)),
 AV.sl
 [[AV.sc (Value.int IntKind.i64 (9 : Int)), AV.sc (Value.string (ByteArray.mk (Array.mk []))),
 AV.sc (Value.string (ByteArray.mk (Array.mk []))), AV.sc (Value.slice none (0 : Nat) (0 : Nat)),
 AV.sl [Y2] (0 : Nat), AV.sc (Value.slice none (0 : Nat) (0 : Nat)), AV.sc (Value.bool false),
 AV.sc (Value.int IntKind.i64 a2)]]
 (0 : Nat),
 AV.sc (Value.slice none (0 : Nat) (0 : Nat)), AV.sc (Value.bool false),
 AV.sc (Value.int IntKind.i64 (IntKind.i64.wrap ((499 : Int) - i)))] ∧
 N
 [AV.sc (Value.int IntKind.i64 (9 : Int)), AV.sc (Value.string (ByteArray.mk (Array.mk []))),
 AV.sc (Value.string (ByteArray.mk (Array.mk []))), AV.sc (Value.slice none (0 : Nat) (0 : Nat)),
 AV.sl
 [[AV.sc (Value.int IntKind.i64 (9 : Int)), AV.sc (Value.string (ByteArray.mk (Array.mk []))),
 AV.sc (Value.string (ByteArray.mk (Array.mk []))), AV.sc (Value.slice none (0 : Nat) (0 : Nat)),
 AV.sl [Y2] (0 : Nat), AV.sc (Value.slice none (0 : Nat) (0 : Nat)), AV.sc (Value.bool false),
 AV.sc (Value.int IntKind.i64 a2)]]
 (0 : Nat),
 AV.sc (Value.slice none (0 : Nat) (0 : Nat)), AV.sc (Value.bool false),
 AV.sc (Value.int IntKind.i64 (IntKind.i64.wrap ((499 : Int) - i)))]
 (IntKind.i64.wrap (i + (1 : Int))))
 (Ex.exit (2 : Nat) = Ex.exit (2 : Nat) ∧
 E2 n b
 [AV.sc (Value.int IntKind.i64 (20 : Int)), AV.sc (Value.string (ByteArray.mk (Array.mk []))),
 AV.sc (Value.int IntKind.i64 (0 : Int)), AV.sc (Value.bool false), AV.sl [Y] (0 : Nat),
 AV.sc (Value.int IntKind.i64 a)]
 [AV.sc (Value.int IntKind.i64 (9 : Int)), AV.sc (Value.string (ByteArray.mk (Array.mk []))),
 AV.sc (Value.string (ByteArray.mk (Array.mk []))), AV.sc (Value.slice none (0 : Nat) (0 : Nat)),
 AV.sl [Y2] (0 : Nat), AV.sc (Value.slice none (0 : Nat) (0 : Nat)), AV.sc (Value.bool false),
 AV.sc (Value.int IntKind.i64 a2)] =
 E2 n b
 [AV.sc (Value.int IntKind.i64 (20 : Int)), AV.sc (Value.string (ByteArray.mk (Array.mk []))),
 AV.sc (Value.int IntKind.i64 (0 : Int)), AV.sc (Value.bool false), AV.sl [Y] (0 : Nat),
 AV.sc (Value.int IntKind.i64 a)]
 [AV.sc (Value.int IntKind.i64 (9 : Int)), AV.sc (Value.string (ByteArray.mk (Array.mk []))),
 AV.sc (Value.string (ByteArray.mk (Array.mk []))), AV.sc (Value.slice none (0 : Nat) (0 : Nat)),
 AV.sl [Y2] (0 : Nat), AV.sc (Value.slice none (0 : Nat) (0 : Nat)), AV.sc (Value.bool false),
 AV.sc (Value.int IntKind.i64 a2)] ∧
 Z)) :
 (fun (n b i : Int) (Y : List AV) (a : Int) (Y2 : List AV) (a2 : Int) (N : List AV → Int → Prop) (Z : Prop) => wpRound tabX cfgI Tryz.prog 60 3 11 (I2 n b i (grpC Y a) (blkC Y2 a2)) (fun τ => τ = I2 n b (slI τ 8) (grpC Y a) (locC τ 1) ∧ N (locC τ 1) (slI τ 8)) (q2 n b (grpC Y a) (blkC Y2 a2) Z)) n b i Y a Y2 a2 N Z :=
 Eq.mp (by kernel_rfl) h
end
end Go.Proofs.Sc
namespace Go.Proofs.Sc
open Go Go.Ef
noncomputable section
set_option maxRecDepth 100000
theorem zs0 (level : Int) (loop : Bool) (K : AV → Heap → Prop) (h :
 K (AV.sc (Value.bool true))
 (Heap.mk (3 : Nat)
 ((Tr.leaf.node (some (AObj.cells [AV.fn (Fn.func (21 : Nat)) [] [AV.ptr (2 : Nat) (0 : Nat)]])) Tr.leaf).node none
 (Tr.leaf.node
 (some (AObj.cells [AV.sc (Value.int IntKind.i64 (0 : Int)), AV.sc (Value.int IntKind.i64 (0 : Int))])) Tr.leaf))
 (3 : Nat) Tr.leaf)) :
 (fun (level : Int) (loop : Bool) (K : AV → Heap → Prop) => wpCall tabX cfgI Tryz.prog 60 46 [vS, nilA, wA level loop, nilP] hS0 K) level loop K :=
 Eq.mp (by kernel_rfl) h
theorem zsg (level : Int) (loop : Bool) (Y2 : List AV) (a2 : Int) (K : AV → Heap → Prop) (h :
 K (AV.sc (Value.bool true))
 (Heap.mk ((Nat.add (1 : Nat) (1 : Nat)).add (1 : Nat)).succ
 (((Tr.leaf.node
 (some (AObj.cells [AV.sc (Value.int IntKind.i64 (0 : Int)), AV.sc (Value.int IntKind.i64 (0 : Int))]))
 Tr.leaf).node
 (some (AObj.cells [AV.fn (Fn.func (21 : Nat)) [] [AV.ptr (3 : Nat) (0 : Nat)]])) Tr.leaf).node
 none
 (Tr.leaf.node
 (some
 (AObj.cells
 [AV.sc (Value.int IntKind.i64 (20 : Int)), AV.sc (Value.string (ByteArray.mk (Array.mk []))),
 AV.sc (Value.int IntKind.i64 (0 : Int)), AV.sc (Value.bool false), AV.sl [Y2] (0 : Nat),
 AV.sc (Value.int IntKind.i64 a2)]))
 Tr.leaf))
 ((Nat.add (1 : Nat) (1 : Nat)).add (1 : Nat)).succ Tr.leaf)) :
 (fun (level : Int) (loop : Bool) (Y2 : List AV) (a2 : Int) (K : AV → Heap → Prop) => wpCall tabX cfgI Tryz.prog 60 46 [vS, nilA, wA level loop, (.ptr 2 0)] (hS1 (grpC Y2 a2)) K) level loop Y2 a2 K :=
 Eq.mp (by kernel_rfl) h
theorem zn0 (level : Int) (loop : Bool) (R : List AV) (K : AV → Heap → Prop) (h :
 K (AV.sc (Value.bool true))
 (Heap.mk ((((Nat.add (2 : Nat) (1 : Nat)).add (1 : Nat)).add (1 : Nat)).add (1 : Nat)).succ
 (((Tr.leaf.node (some (AObj.cells [AV.mp (6 : Nat)])) Tr.leaf).node
 (some (AObj.cells [AV.fn (Fn.func (32 : Nat)) [] [AV.ptr (5 : Nat) (0 : Nat)]]))
 (Tr.leaf.node
 (some (AObj.cells [AV.sc (Value.int IntKind.i64 (0 : Int)), AV.sc (Value.int IntKind.i64 (0 : Int))]))
 Tr.leaf)).node
 none
 ((Tr.leaf.node (some (AObj.cells [AV.sl [R] (0 : Nat), AV.sc (Value.slice none (0 : Nat) (0 : Nat))]))
 Tr.leaf).node
 (some (AObj.cells [AV.fn (Fn.func (33 : Nat)) [] [AV.ptr (3 : Nat) (0 : Nat), AV.ptr (4 : Nat) (0 : Nat)]]))
 (Tr.leaf.node (some (AObj.map [])) Tr.leaf)))
 ((((Nat.add (2 : Nat) (1 : Nat)).add (1 : Nat)).add (1 : Nat)).add (1 : Nat)).succ Tr.leaf)) :
 (fun (level : Int) (loop : Bool) (R : List AV) (K : AV → Heap → Prop) => wpCall tabX cfgI Tryz.prog 60 46 [vN, nilA, wA level loop, nilP] (hN0 R) K) level loop R K :=
 Eq.mp (by kernel_rfl) h
theorem zng (level : Int) (loop : Bool) (R : List AV) (Y2 : List AV) (a2 : Int) (K : AV → Heap → Prop) (h :
 K (AV.sc (Value.bool true))
 (Heap.mk
 ((((((Nat.add (1 : Nat) (1 : Nat)).add (1 : Nat)).add (1 : Nat)).add (1 : Nat)).add (1 : Nat)).add (1 : Nat)).succ
 ((((Tr.leaf.node (some (AObj.map [])) Tr.leaf).node (some (AObj.cells [AV.mp (7 : Nat)])) Tr.leaf).node
 (some (AObj.cells [AV.fn (Fn.func (32 : Nat)) [] [AV.ptr (5 : Nat) (0 : Nat)]]))
 (Tr.leaf.node
 (some (AObj.cells [AV.sc (Value.int IntKind.i64 (0 : Int)), AV.sc (Value.int IntKind.i64 (0 : Int))]))
 Tr.leaf)).node
 none
 ((Tr.leaf.node (some (AObj.cells [AV.sl [R] (0 : Nat), AV.sc (Value.slice none (0 : Nat) (0 : Nat))]))
 Tr.leaf).node
 (some (AObj.cells [AV.fn (Fn.func (33 : Nat)) [] [AV.ptr (3 : Nat) (0 : Nat), AV.ptr (4 : Nat) (0 : Nat)]]))
 (Tr.leaf.node
 (some
 (AObj.cells
 [AV.sc (Value.int IntKind.i64 (20 : Int)), AV.sc (Value.string (ByteArray.mk (Array.mk []))),
 AV.sc (Value.int IntKind.i64 (0 : Int)), AV.sc (Value.bool false), AV.sl [Y2] (0 : Nat),
 AV.sc (Value.int IntKind.i64 a2)]))
 Tr.leaf)))
 ((((((Nat.add (1 : Nat) (1 : Nat)).add (1 : Nat)).add (1 : Nat)).add (1 : Nat)).add (1 : Nat)).add (1 : Nat)).succ
 Tr.leaf)) :
 (fun (level : Int) (loop : Bool) (R Y2 : List AV) (a2 : Int) (K : AV → Heap → Prop) => wpCall tabX cfgI Tryz.prog 60 46 [vN, nilA, wA level loop, (.ptr 6 0)] (hN1 R (grpC Y2 a2)) K) level loop R Y2 a2 K :=
 Eq.mp (by kernel_rfl) h
theorem zu0 (level : Int) (loop : Bool) (K : AV → Heap → Prop) (h :
 K (AV.sc (Value.bool true))
 (Heap.mk (4 : Nat)
 (((Tr.leaf.node (some (AObj.map [])) Tr.leaf).node (some (AObj.cells [AV.mp (3 : Nat)])) Tr.leaf).node none
 (Tr.leaf.node (some (AObj.cells [AV.sc (Value.slice none (0 : Nat) (0 : Nat))])) Tr.leaf))
 (4 : Nat) Tr.leaf)) :
 (fun (level : Int) (loop : Bool) (K : AV → Heap → Prop) => wpCall tabX cfgI Tryz.prog 60 46 [vU, nilA, wA level loop, nilP] hU0 K) level loop K :=
 Eq.mp (by kernel_rfl) h
theorem zug (level : Int) (loop : Bool) (Y2 : List AV) (a2 : Int) (K : AV → Heap → Prop) (h :
 K (AV.sc (Value.bool true))
 (Heap.mk (((Nat.add (1 : Nat) (1 : Nat)).add (1 : Nat)).add (1 : Nat)).succ
 (((Tr.leaf.node
 (some
 (AObj.cells
 [AV.sc (Value.int IntKind.i64 (20 : Int)), AV.sc (Value.string (ByteArray.mk (Array.mk []))),
 AV.sc (Value.int IntKind.i64 (0 : Int)), AV.sc (Value.bool false), AV.sl [Y2] (0 : Nat),
 AV.sc (Value.int IntKind.i64 a2)]))
 Tr.leaf).node
 (some (AObj.cells [AV.mp (4 : Nat)])) Tr.leaf).node
 none
 ((Tr.leaf.node (some (AObj.map [])) Tr.leaf).node
 (some (AObj.cells [AV.sc (Value.slice none (0 : Nat) (0 : Nat))])) Tr.leaf))
 (((Nat.add (1 : Nat) (1 : Nat)).add (1 : Nat)).add (1 : Nat)).succ Tr.leaf)) :
 (fun (level : Int) (loop : Bool) (Y2 : List AV) (a2 : Int) (K : AV → Heap → Prop) => wpCall tabX cfgI Tryz.prog 60 46 [vU, nilA, wA level loop, (.ptr 3 0)] (hU1 (grpC Y2 a2)) K) level loop Y2 a2 K :=
 Eq.mp (by kernel_rfl) h
theorem zsn (level : Int) (loop : Bool) (K : AV → Heap → Prop) (h :
 K (AV.sc (Value.bool true))
 (Heap.mk (4 : Nat)
 (((Tr.leaf.node
 (some (AObj.cells [AV.sc (Value.int IntKind.i64 (0 : Int)), AV.sc (Value.int IntKind.i64 (0 : Int))]))
 Tr.leaf).node
 (some (AObj.cells [AV.fn (Fn.func (21 : Nat)) [] [AV.ptr (3 : Nat) (0 : Nat)]])) Tr.leaf).node
 none
 (Tr.leaf.node
 (some
 (AObj.cells
 [AV.sc (Value.int IntKind.i64 (1 : Int)), AV.sc (Value.string (ByteArray.mk (Array.mk []))),
 AV.sc (Value.int IntKind.i64 (0 : Int)), AV.sc (Value.bool false),
 AV.sc (Value.slice none (0 : Nat) (0 : Nat)), AV.sc (Value.int IntKind.i64 (1000 : Int))]))
 Tr.leaf))
 (4 : Nat) Tr.leaf)) :
 (fun (level : Int) (loop : Bool) (K : AV → Heap → Prop) => wpCall tabX cfgI Tryz.prog 60 46 [vS, nilA, wA level loop, (.ptr 2 0)] (hS1 numC) K) level loop K :=
 Eq.mp (by kernel_rfl) h
theorem znn (level : Int) (loop : Bool) (R : List AV) (K : AV → Heap → Prop) (h :
 K (AV.sc (Value.bool true))
 (Heap.mk ((((Nat.add (3 : Nat) (1 : Nat)).add (1 : Nat)).add (1 : Nat)).add (1 : Nat)).succ
 ((((Tr.leaf.node (some (AObj.map [])) Tr.leaf).node (some (AObj.cells [AV.mp (7 : Nat)])) Tr.leaf).node
 (some (AObj.cells [AV.fn (Fn.func (32 : Nat)) [] [AV.ptr (5 : Nat) (0 : Nat)]]))
 (Tr.leaf.node
 (some (AObj.cells [AV.sc (Value.int IntKind.i64 (0 : Int)), AV.sc (Value.int IntKind.i64 (0 : Int))]))
 Tr.leaf)).node
 none
 ((Tr.leaf.node (some (AObj.cells [AV.sl [R] (0 : Nat), AV.sc (Value.slice none (0 : Nat) (0 : Nat))]))
 Tr.leaf).node
 (some (AObj.cells [AV.fn (Fn.func (33 : Nat)) [] [AV.ptr (3 : Nat) (0 : Nat), AV.ptr (4 : Nat) (0 : Nat)]]))
 (Tr.leaf.node
 (some
 (AObj.cells
 [AV.sc (Value.int IntKind.i64 (1 : Int)), AV.sc (Value.string (ByteArray.mk (Array.mk []))),
 AV.sc (Value.int IntKind.i64 (0 : Int)), AV.sc (Value.bool false),
 AV.sc (Value.slice none (0 : Nat) (0 : Nat)), AV.sc (Value.int IntKind.i64 (1000 : Int))]))
 Tr.leaf)))
 ((((Nat.add (3 : Nat) (1 : Nat)).add (1 : Nat)).add (1 : Nat)).add (1 : Nat)).succ Tr.leaf)) :
 (fun (level : Int) (loop : Bool) (R : List AV) (K : AV → Heap → Prop) => wpCall tabX cfgI Tryz.prog 60 46 [vN, nilA, wA level loop, (.ptr 6 0)] (hN1 R numC) K) level loop R K :=
 Eq.mp (by kernel_rfl) h
theorem zun (level : Int) (loop : Bool) (K : AV → Heap → Prop) (h :
 K (AV.sc (Value.bool true))
 (Heap.mk (5 : Nat)
 (((Tr.leaf.node
 (some
 (AObj.cells
 [AV.sc (Value.int IntKind.i64 (1 : Int)), AV.sc (Value.string (ByteArray.mk (Array.mk []))),
 AV.sc (Value.int IntKind.i64 (0 : Int)), AV.sc (Value.bool false),
 AV.sc (Value.slice none (0 : Nat) (0 : Nat)), AV.sc (Value.int IntKind.i64 (1000 : Int))]))
 Tr.leaf).node
 (some (AObj.cells [AV.mp (4 : Nat)])) Tr.leaf).node
 none
 ((Tr.leaf.node (some (AObj.map [])) Tr.leaf).node
 (some (AObj.cells [AV.sc (Value.slice none (0 : Nat) (0 : Nat))])) Tr.leaf))
 (5 : Nat) Tr.leaf)) :
 (fun (level : Int) (loop : Bool) (K : AV → Heap → Prop) => wpCall tabX cfgI Tryz.prog 60 46 [vU, nilA, wA level loop, (.ptr 3 0)] (hU1 numC) K) level loop K :=
 Eq.mp (by kernel_rfl) h
theorem is0 (m : Nat) (level : Int) (loop : Bool) (K : AV → Heap → Prop) (h :
 iteP (decide ((32 : Int) < level)) False
 (Vis0
 [AV.agg
 [AV.fn (Fn.func (22 : Nat)) [] [AV.ptr (1 : Nat) (0 : Nat)],
 AV.fn (Fn.func (24 : Nat)) [] [AV.ptr (1 : Nat) (0 : Nat)]],
 AV.sc (Value.slice none (0 : Nat) (0 : Nat)),
 AV.agg
 [AV.sc (Value.int IntKind.i64 (IntKind.i64.wrap (level + (1 : Int)))),
 AV.sc (Value.int IntKind.i64 (3 : Int)), AV.sc (Value.int IntKind.i64 (-1 : Int)), AV.sc (Value.bool loop)],
 AV.ptr (Nat.succ (2 : Nat)) (0 : Nat)]
 (Heap.mk (4 : Nat)
 (((Tr.leaf.node
 (some
 (AObj.cells
 [AV.sc (Value.int IntKind.i64 (1 : Int)), AV.sc (Value.string (ByteArray.mk (Array.mk []))),
 AV.sc (Value.int IntKind.i64 (0 : Int)), AV.sc (Value.bool false),
 AV.sc (Value.slice none (0 : Nat) (0 : Nat)), AV.sc (Value.int IntKind.i64 (1000 : Int))]))
 Tr.leaf).node
 (some (AObj.cells [AV.fn (Fn.func (21 : Nat)) [] [AV.ptr (2 : Nat) (0 : Nat)]])) Tr.leaf).node
 none
 (Tr.leaf.node
 (some (AObj.cells [AV.sc (Value.int IntKind.i64 (0 : Int)), AV.sc (Value.int IntKind.i64 (0 : Int))]))
 Tr.leaf))
 (3 : Nat) (((Tr.leaf.node (some ((26 : Nat), (6 : Nat))) Tr.leaf).node none Tr.leaf).node none Tr.leaf)) ∧
 ∀ (_ : Unit),
 True →
 K (AV.sc (Value.bool true))
 (Heap.mk (4 : Nat)
 (((Tr.leaf.node
 (some
 (AObj.cells
 [AV.sc (Value.int IntKind.i64 (1 : Int)), AV.sc (Value.string (ByteArray.mk (Array.mk []))),
 AV.sc (Value.int IntKind.i64 (0 : Int)), AV.sc (Value.bool false),
 AV.sc (Value.slice none (0 : Nat) (0 : Nat)), AV.sc (Value.int IntKind.i64 (1000 : Int))]))
 Tr.leaf).node
 (some (AObj.cells [AV.fn (Fn.func (21 : Nat)) [] [AV.ptr (2 : Nat) (0 : Nat)]])) Tr.leaf).node
 none
 (Tr.leaf.node
 (some (AObj.cells [AV.sc (Value.int IntKind.i64 (0 : Int)), AV.sc (Value.int IntKind.i64 (0 : Int))]))
 Tr.leaf))
 (3 : Nat) (((Tr.leaf.node (some ((26 : Nat), (6 : Nat))) Tr.leaf).node none Tr.leaf).node none Tr.leaf)))) :
 (fun (m : Nat) (level : Int) (loop : Bool) (K : AV → Heap → Prop) => wpCall (T46 m) cfgI Tryz.prog 60 46 [vS, .sl [numC] 0, wA level loop, nilP] hS0 K) m level loop K :=
 Eq.mp (by kernel_rfl) h
theorem gs0 (m : Nat) (level : Int) (loop : Bool) (Y : List AV) (at_ : Int) (K : AV → Heap → Prop) (h :
 iteP (decide ((32 : Int) < level)) False
 (Vis1 m
 [AV.agg
 [AV.fn (Fn.func (22 : Nat)) [] [AV.ptr (1 : Nat) (0 : Nat)],
 AV.fn (Fn.func (24 : Nat)) [] [AV.ptr (1 : Nat) (0 : Nat)]],
 AV.sl [Y] (0 : Nat),
 AV.agg
 [AV.sc (Value.int IntKind.i64 (IntKind.i64.wrap (level + (1 : Int)))),
 AV.sc (Value.int IntKind.i64 (3 : Int)), AV.sc (Value.int IntKind.i64 (-1 : Int)), AV.sc (Value.bool loop)],
 AV.ptr (Nat.succ (2 : Nat)) (0 : Nat)]
 (Heap.mk (4 : Nat)
 (((Tr.leaf.node
 (some
 (AObj.cells
 [AV.sc (Value.int IntKind.i64 (20 : Int)), AV.sc (Value.string (ByteArray.mk (Array.mk []))),
 AV.sc (Value.int IntKind.i64 (0 : Int)), AV.sc (Value.bool false), AV.sl [Y] (0 : Nat),
 AV.sc (Value.int IntKind.i64 at_)]))
 Tr.leaf).node
 (some (AObj.cells [AV.fn (Fn.func (21 : Nat)) [] [AV.ptr (2 : Nat) (0 : Nat)]])) Tr.leaf).node
 none
 (Tr.leaf.node
 (some (AObj.cells [AV.sc (Value.int IntKind.i64 (0 : Int)), AV.sc (Value.int IntKind.i64 (0 : Int))]))
 Tr.leaf))
 (3 : Nat) (((Tr.leaf.node (some ((26 : Nat), (6 : Nat))) Tr.leaf).node none Tr.leaf).node none Tr.leaf)) ∧
 ∀ (_ : Unit),
 True →
 K (AV.sc (Value.bool true))
 (Heap.mk (4 : Nat)
 (((Tr.leaf.node
 (some
 (AObj.cells
 [AV.sc (Value.int IntKind.i64 (20 : Int)), AV.sc (Value.string (ByteArray.mk (Array.mk []))),
 AV.sc (Value.int IntKind.i64 (0 : Int)), AV.sc (Value.bool false), AV.sl [Y] (0 : Nat),
 AV.sc (Value.int IntKind.i64 at_)]))
 Tr.leaf).node
 (some (AObj.cells [AV.fn (Fn.func (21 : Nat)) [] [AV.ptr (2 : Nat) (0 : Nat)]])) Tr.leaf).node
 none
 (Tr.leaf.node
 (some (AObj.cells [AV.sc (Value.int IntKind.i64 (0 : Int)), AV.sc (Value.int IntKind.i64 (0 : Int))]))
 Tr.leaf))
 (3 : Nat) (((Tr.leaf.node (some ((26 : Nat), (6 : Nat))) Tr.leaf).node none Tr.leaf).node none Tr.leaf)))) :
 (fun (m : Nat) (level : Int) (loop : Bool) (Y : List AV) (at_ : Int) (K : AV → Heap → Prop) => wpCall (T46 m) cfgI Tryz.prog 60 46 [vS, .sl [grpC Y at_] 0, wA level loop, nilP] hS0 K) m level loop Y at_ K :=
 Eq.mp (by kernel_rfl) h
theorem isg (m : Nat) (level : Int) (loop : Bool) (Y2 : List AV) (a2 : Int) (K : AV → Heap → Prop) (h :
 iteP (decide ((32 : Int) < level)) False
 (Vis0
 [AV.agg
 [AV.fn (Fn.func (22 : Nat)) [] [AV.ptr (1 : Nat) (0 : Nat)],
 AV.fn (Fn.func (24 : Nat)) [] [AV.ptr (1 : Nat) (0 : Nat)]],
 AV.sc (Value.slice none (0 : Nat) (0 : Nat)),
 AV.agg
 [AV.sc (Value.int IntKind.i64 (IntKind.i64.wrap (level + (1 : Int)))),
 AV.sc (Value.int IntKind.i64 (3 : Int)), AV.sc (Value.int IntKind.i64 (-1 : Int)), AV.sc (Value.bool loop)],
 AV.ptr ((Nat.add (1 : Nat) (1 : Nat)).add (1 : Nat)).succ (0 : Nat)]
 (Heap.mk (((Nat.add (1 : Nat) (1 : Nat)).add (1 : Nat)).succ + (1 : Nat))
 (((Tr.leaf.node
 (some (AObj.cells [AV.sc (Value.int IntKind.i64 (0 : Int)), AV.sc (Value.int IntKind.i64 (0 : Int))]))
 Tr.leaf).node
 (some (AObj.cells [AV.fn (Fn.func (21 : Nat)) [] [AV.ptr (3 : Nat) (0 : Nat)]])) Tr.leaf).node
 none
 ((Tr.leaf.node
 (some
 (AObj.cells
 [AV.sc (Value.int IntKind.i64 (1 : Int)), AV.sc (Value.string (ByteArray.mk (Array.mk []))),
 AV.sc (Value.int IntKind.i64 (0 : Int)), AV.sc (Value.bool false),
 AV.sc (Value.slice none (0 : Nat) (0 : Nat)), AV.sc (Value.int IntKind.i64 (1000 : Int))]))
 Tr.leaf).node
 (some
 (AObj.cells
 [AV.sc (Value.int IntKind.i64 (20 : Int)), AV.sc (Value.string (ByteArray.mk (Array.mk []))),
 AV.sc (Value.int IntKind.i64 (0 : Int)), AV.sc (Value.bool false), AV.sl [Y2] (0 : Nat),
 AV.sc (Value.int IntKind.i64 a2)]))
 Tr.leaf))
 ((Nat.add (1 : Nat) (1 : Nat)).add (1 : Nat)).succ
 (Tr.leaf.node none ((Tr.leaf.node (some ((26 : Nat), (6 : Nat))) Tr.leaf).node none Tr.leaf))) ∧
 ∀ (_ : Unit),
 True →
 K (AV.sc (Value.bool true))
 (Heap.mk (((Nat.add (1 : Nat) (1 : Nat)).add (1 : Nat)).succ + (1 : Nat))
 (((Tr.leaf.node
 (some
 (AObj.cells [AV.sc (Value.int IntKind.i64 (0 : Int)), AV.sc (Value.int IntKind.i64 (0 : Int))]))
 Tr.leaf).node
 (some (AObj.cells [AV.fn (Fn.func (21 : Nat)) [] [AV.ptr (3 : Nat) (0 : Nat)]])) Tr.leaf).node
 none
 ((Tr.leaf.node
 (some
 (AObj.cells
 [AV.sc (Value.int IntKind.i64 (1 : Int)), AV.sc (Value.string (ByteArray.mk (Array.mk []))),
 AV.sc (Value.int IntKind.i64 (0 : Int)), AV.sc (Value.bool false),
 AV.sc (Value.slice none (0 : Nat) (0 : Nat)), AV.sc (Value.int IntKind.i64 (1000 : Int))]))
 Tr.leaf).node
 (some
 (AObj.cells
 [AV.sc (Value.int IntKind.i64 (20 : Int)), AV.sc (Value.string (ByteArray.mk (Array.mk []))),
 AV.sc (Value.int IntKind.i64 (0 : Int)), AV.sc (Value.bool false), AV.sl [Y2] (0 : Nat),
 AV.sc (Value.int IntKind.i64 a2)]))
 Tr.leaf))
 ((Nat.add (1 : Nat) (1 : Nat)).add (1 : Nat)).succ
 (Tr.leaf.node none ((Tr.leaf.node (some ((26 : Nat), (6 : Nat))) Tr.leaf).node none Tr.leaf))))) :
 (fun (m : Nat) (level : Int) (loop : Bool) (Y2 : List AV) (a2 : Int) (K : AV → Heap → Prop) => wpCall (T46 m) cfgI Tryz.prog 60 46 [vS, .sl [numC] 0, wA level loop, (.ptr 2 0)] (hS1 (grpC Y2 a2)) K) m level loop Y2 a2 K :=
 Eq.mp (by kernel_rfl) h
theorem gsg (m : Nat) (level : Int) (loop : Bool) (Y : List AV) (at_ : Int) (Y2 : List AV) (a2 : Int) (K : AV → Heap → Prop) (h :
 iteP (decide ((32 : Int) < level)) False
 (Vis1 m
 [AV.agg
 [AV.fn (Fn.func (22 : Nat)) [] [AV.ptr (1 : Nat) (0 : Nat)],
 AV.fn (Fn.func (24 : Nat)) [] [AV.ptr (1 : Nat) (0 : Nat)]],
 AV.sl [Y] (0 : Nat),
 AV.agg
 [AV.sc (Value.int IntKind.i64 (IntKind.i64.wrap (level + (1 : Int)))),
 AV.sc (Value.int IntKind.i64 (3 : Int)), AV.sc (Value.int IntKind.i64 (-1 : Int)), AV.sc (Value.bool loop)],
 AV.ptr ((Nat.add (1 : Nat) (1 : Nat)).add (1 : Nat)).succ (0 : Nat)]
 (Heap.mk (((Nat.add (1 : Nat) (1 : Nat)).add (1 : Nat)).succ + (1 : Nat))
 (((Tr.leaf.node
 (some (AObj.cells [AV.sc (Value.int IntKind.i64 (0 : Int)), AV.sc (Value.int IntKind.i64 (0 : Int))]))
 Tr.leaf).node
 (some (AObj.cells [AV.fn (Fn.func (21 : Nat)) [] [AV.ptr (3 : Nat) (0 : Nat)]])) Tr.leaf).node
 none
 ((Tr.leaf.node
 (some
 (AObj.cells
 [AV.sc (Value.int IntKind.i64 (20 : Int)), AV.sc (Value.string (ByteArray.mk (Array.mk []))),
 AV.sc (Value.int IntKind.i64 (0 : Int)), AV.sc (Value.bool false), AV.sl [Y] (0 : Nat),
 AV.sc (Value.int IntKind.i64 at_)]))
 Tr.leaf).node
 (some
 (AObj.cells
 [AV.sc (Value.int IntKind.i64 (20 : Int)), AV.sc (Value.string (ByteArray.mk (Array.mk []))),
 AV.sc (Value.int IntKind.i64 (0 : Int)), AV.sc (Value.bool false), AV.sl [Y2] (0 : Nat),
 AV.sc (Value.int IntKind.i64 a2)]))
 Tr.leaf))
 ((Nat.add (1 : Nat) (1 : Nat)).add (1 : Nat)).succ
 (Tr.leaf.node none ((Tr.leaf.node (some ((26 : Nat), (6 : Nat))) Tr.leaf).node none Tr.leaf))) ∧
 ∀ (_ : Unit),
 True →
 K (AV.sc (Value.bool true))
 (Heap.mk (((Nat.add (1 : Nat) (1 : Nat)).add (1 : Nat)).succ + (1 : Nat))
 (((Tr.leaf.node
 (some
 (AObj.cells [AV.sc (Value.int IntKind.i64 (0 : Int)), AV.sc (Value.int IntKind.i64 (0 : Int))]))
 Tr.leaf).node
 (some (AObj.cells [AV.fn (Fn.func (21 : Nat)) [] [AV.ptr (3 : Nat) (0 : Nat)]])) Tr.leaf).node
 none
 ((Tr.leaf.node
 (some
 (AObj.cells
 [AV.sc (Value.int IntKind.i64 (20 : Int)), AV.sc (Value.string (ByteArray.mk (Array.mk []))),
 AV.sc (Value.int IntKind.i64 (0 : Int)), AV.sc (Value.bool false), AV.sl [Y] (0 : Nat),
 AV.sc (Value.int IntKind.i64 at_)]))
 Tr.leaf).node
 (some
 (AObj.cells
 [AV.sc (Value.int IntKind.i64 (20 : Int)), AV.sc (Value.string (ByteArray.mk (Array.mk []))),
 AV.sc (Value.int IntKind.i64 (0 : Int)), AV.sc (Value.bool false), AV.sl [Y2] (0 : Nat),
 AV.sc (Value.int IntKind.i64 a2)]))
 Tr.leaf))
 ((Nat.add (1 : Nat) (1 : Nat)).add (1 : Nat)).succ
 (Tr.leaf.node none ((Tr.leaf.node (some ((26 : Nat), (6 : Nat))) Tr.leaf).node none Tr.leaf))))) :
 (fun (m : Nat) (level : Int) (loop : Bool) (Y : List AV) (at_ : Int) (Y2 : List AV) (a2 : Int) (K : AV → Heap → Prop) => wpCall (T46 m) cfgI Tryz.prog 60 46 [vS, .sl [grpC Y at_] 0, wA level loop, (.ptr 2 0)] (hS1 (grpC Y2 a2)) K) m level loop Y at_ Y2 a2 K :=
 Eq.mp (by kernel_rfl) h
theorem in0 (m : Nat) (level : Int) (loop : Bool) (R : List AV) (K : AV → Heap → Prop) (h :
 Vis0
 [AV.agg
 [AV.fn (Fn.func (34 : Nat)) []
 [AV.ptr (1 : Nat) (0 : Nat), AV.ptr (2 : Nat) (0 : Nat), AV.ptr (3 : Nat) (0 : Nat),
 AV.ptr (4 : Nat) (0 : Nat), AV.ptr (5 : Nat) (0 : Nat)],
 AV.fn (Fn.func (37 : Nat)) []
 [AV.ptr (1 : Nat) (0 : Nat), AV.ptr (2 : Nat) (0 : Nat), AV.ptr (5 : Nat) (0 : Nat)]],
 AV.sc (Value.slice none (0 : Nat) (0 : Nat)),
 AV.agg
 [AV.sc (Value.int IntKind.i64 (IntKind.i64.wrap (level + (1 : Int)))), AV.sc (Value.int IntKind.i64 (3 : Int)),
 AV.sc (Value.int IntKind.i64 (-1 : Int)), AV.sc (Value.bool loop)],
 AV.ptr ((((Nat.add (2 : Nat) (1 : Nat)).add (1 : Nat)).add (1 : Nat)).add (1 : Nat)).succ (0 : Nat)]
 (Heap.mk (((((Nat.add (2 : Nat) (1 : Nat)).add (1 : Nat)).add (1 : Nat)).add (1 : Nat)).succ + (1 : Nat))
 ((((Tr.leaf.node
 (some
 (AObj.cells
 [AV.sc (Value.int IntKind.i64 (1 : Int)), AV.sc (Value.string (ByteArray.mk (Array.mk []))),
 AV.sc (Value.int IntKind.i64 (0 : Int)), AV.sc (Value.bool false),
 AV.sc (Value.slice none (0 : Nat) (0 : Nat)), AV.sc (Value.int IntKind.i64 (1000 : Int))]))
 Tr.leaf).node
 (some (AObj.cells [AV.mp (6 : Nat)])) Tr.leaf).node
 (some (AObj.cells [AV.fn (Fn.func (32 : Nat)) [] [AV.ptr (5 : Nat) (0 : Nat)]]))
 (Tr.leaf.node
 (some (AObj.cells [AV.sc (Value.int IntKind.i64 (0 : Int)), AV.sc (Value.int IntKind.i64 (0 : Int))]))
 Tr.leaf)).node
 none
 ((Tr.leaf.node (some (AObj.cells [AV.sl [R] (0 : Nat), AV.sc (Value.slice none (0 : Nat) (0 : Nat))]))
 Tr.leaf).node
 (some (AObj.cells [AV.fn (Fn.func (33 : Nat)) [] [AV.ptr (3 : Nat) (0 : Nat), AV.ptr (4 : Nat) (0 : Nat)]]))
 (Tr.leaf.node (some (AObj.map [])) Tr.leaf)))
 ((((Nat.add (2 : Nat) (1 : Nat)).add (1 : Nat)).add (1 : Nat)).add (1 : Nat)).succ
 ((((Tr.leaf.node (some ((26 : Nat), (6 : Nat))) Tr.leaf).node none Tr.leaf).node none Tr.leaf).node none
 Tr.leaf)) ∧
 ∀ (_ : Unit),
 True →
 K (AV.sc (Value.bool true))
 (Heap.mk (((((Nat.add (2 : Nat) (1 : Nat)).add (1 : Nat)).add (1 : Nat)).add (1 : Nat)).succ + (1 : Nat))
 ((((Tr.leaf.node
 (some
 (AObj.cells
 [AV.sc (Value.int IntKind.i64 (1 : Int)), AV.sc (Value.string (ByteArray.mk (Array.mk []))),
 AV.sc (Value.int IntKind.i64 (0 : Int)), AV.sc (Value.bool false),
 AV.sc (Value.slice none (0 : Nat) (0 : Nat)),
 AV.sc (Value.int IntKind.i64 (1000 : Int))]))
 Tr.leaf).node
 (some (AObj.cells [AV.mp (6 : Nat)])) Tr.leaf).node
 (some (AObj.cells [AV.fn (Fn.func (32 : Nat)) [] [AV.ptr (5 : Nat) (0 : Nat)]]))
 (Tr.leaf.node
 (some (AObj.cells [AV.sc (Value.int IntKind.i64 (0 : Int)), AV.sc (Value.int IntKind.i64 (0 : Int))]))
 Tr.leaf)).node
 none
 ((Tr.leaf.node (some (AObj.cells [AV.sl [R] (0 : Nat), AV.sc (Value.slice none (0 : Nat) (0 : Nat))]))
 Tr.leaf).node
 (some
 (AObj.cells [AV.fn (Fn.func (33 : Nat)) [] [AV.ptr (3 : Nat) (0 : Nat), AV.ptr (4 : Nat) (0 : Nat)]]))
 (Tr.leaf.node (some (AObj.map [])) Tr.leaf)))
 ((((Nat.add (2 : Nat) (1 : Nat)).add (1 : Nat)).add (1 : Nat)).add (1 : Nat)).succ
 ((((Tr.leaf.node (some ((26 : Nat), (6 : Nat))) Tr.leaf).node none Tr.leaf).node none Tr.leaf).node none
 Tr.leaf))) :
 (fun (m : Nat) (level : Int) (loop : Bool) (R : List AV) (K : AV → Heap → Prop) => wpCall (T46 m) cfgI Tryz.prog 60 46 [vN, .sl [numC] 0, wA level loop, nilP] (hN0 R) K) m level loop R K :=
 Eq.mp (by kernel_rfl) h
theorem gn0 (m : Nat) (level : Int) (loop : Bool) (Y : List AV) (at_ : Int) (R : List AV) (K : AV → Heap → Prop) (h :
 Vis1 m
 [AV.agg
 [AV.fn (Fn.func (34 : Nat)) []
 [AV.ptr (1 : Nat) (0 : Nat), AV.ptr (2 : Nat) (0 : Nat), AV.ptr (3 : Nat) (0 : Nat),
 AV.ptr (4 : Nat) (0 : Nat), AV.ptr (5 : Nat) (0 : Nat)],
 AV.fn (Fn.func (37 : Nat)) []
 [AV.ptr (1 : Nat) (0 : Nat), AV.ptr (2 : Nat) (0 : Nat), AV.ptr (5 : Nat) (0 : Nat)]],
 AV.sl [Y] (0 : Nat),
 AV.agg
 [AV.sc (Value.int IntKind.i64 (IntKind.i64.wrap (level + (1 : Int)))), AV.sc (Value.int IntKind.i64 (3 : Int)),
 AV.sc (Value.int IntKind.i64 (-1 : Int)), AV.sc (Value.bool loop)],
 AV.ptr ((((Nat.add (2 : Nat) (1 : Nat)).add (1 : Nat)).add (1 : Nat)).add (1 : Nat)).succ (0 : Nat)]
 (Heap.mk (((((Nat.add (2 : Nat) (1 : Nat)).add (1 : Nat)).add (1 : Nat)).add (1 : Nat)).succ + (1 : Nat))
 ((((Tr.leaf.node
 (some
 (AObj.cells
 [AV.sc (Value.int IntKind.i64 (20 : Int)), AV.sc (Value.string (ByteArray.mk (Array.mk []))),
 AV.sc (Value.int IntKind.i64 (0 : Int)), AV.sc (Value.bool false), AV.sl [Y] (0 : Nat),
 AV.sc (Value.int IntKind.i64 at_)]))
 Tr.leaf).node
 (some (AObj.cells [AV.mp (6 : Nat)])) Tr.leaf).node
 (some (AObj.cells [AV.fn (Fn.func (32 : Nat)) [] [AV.ptr (5 : Nat) (0 : Nat)]]))
 (Tr.leaf.node
 (some (AObj.cells [AV.sc (Value.int IntKind.i64 (0 : Int)), AV.sc (Value.int IntKind.i64 (0 : Int))]))
 Tr.leaf)).node
 none
 ((Tr.leaf.node (some (AObj.cells [AV.sl [R] (0 : Nat), AV.sc (Value.slice none (0 : Nat) (0 : Nat))]))
 Tr.leaf).node
 (some (AObj.cells [AV.fn (Fn.func (33 : Nat)) [] [AV.ptr (3 : Nat) (0 : Nat), AV.ptr (4 : Nat) (0 : Nat)]]))
 (Tr.leaf.node (some (AObj.map [])) Tr.leaf)))
 ((((Nat.add (2 : Nat) (1 : Nat)).add (1 : Nat)).add (1 : Nat)).add (1 : Nat)).succ
 ((((Tr.leaf.node (some ((26 : Nat), (6 : Nat))) Tr.leaf).node none Tr.leaf).node none Tr.leaf).node none
 Tr.leaf)) ∧
 ∀ (_ : Unit),
 True →
 K (AV.sc (Value.bool true))
 (Heap.mk (((((Nat.add (2 : Nat) (1 : Nat)).add (1 : Nat)).add (1 : Nat)).add (1 : Nat)).succ + (1 : Nat))
 ((((Tr.leaf.node
 (some
 (AObj.cells
 [AV.sc (Value.int IntKind.i64 (20 : Int)),
 AV.sc (Value.string (ByteArray.mk (Array.mk []))),
 AV.sc (Value.int IntKind.i64 (0 : Int)), AV.sc (Value.bool false), AV.sl [Y] (0 : Nat),
 AV.sc (Value.int IntKind.i64 at_)]))
 Tr.leaf).node
 (some (AObj.cells [AV.mp (6 : Nat)])) Tr.leaf).node
 (some (AObj.cells [AV.fn (Fn.func (32 : Nat)) [] [AV.ptr (5 : Nat) (0 : Nat)]]))
 (Tr.leaf.node
 (some (AObj.cells [AV.sc (Value.int IntKind.i64 (0 : Int)), AV.sc (Value.int IntKind.i64 (0 : Int))]))
 Tr.leaf)).node
 none
 ((Tr.leaf.node (some (AObj.cells [AV.sl [R] (0 : Nat), AV.sc (Value.slice none (0 : Nat) (0 : Nat))]))
 Tr.leaf).node
 (some
 (AObj.cells [AV.fn (Fn.func (33 : Nat)) [] [AV.ptr (3 : Nat) (0 : Nat), AV.ptr (4 : Nat) (0 : Nat)]]))
 (Tr.leaf.node (some (AObj.map [])) Tr.leaf)))
 ((((Nat.add (2 : Nat) (1 : Nat)).add (1 : Nat)).add (1 : Nat)).add (1 : Nat)).succ
 ((((Tr.leaf.node (some ((26 : Nat), (6 : Nat))) Tr.leaf).node none Tr.leaf).node none Tr.leaf).node none
 Tr.leaf))) :
 (fun (m : Nat) (level : Int) (loop : Bool) (Y : List AV) (at_ : Int) (R : List AV) (K : AV → Heap → Prop) => wpCall (T46 m) cfgI Tryz.prog 60 46 [vN, .sl [grpC Y at_] 0, wA level loop, nilP] (hN0 R) K) m level loop Y at_ R K :=
 Eq.mp (by kernel_rfl) h
theorem ing (m : Nat) (level : Int) (loop : Bool) (R : List AV) (Y2 : List AV) (a2 : Int) (K : AV → Heap → Prop) (h :
 Vis0
 [AV.agg
 [AV.fn (Fn.func (34 : Nat)) []
 [AV.ptr (1 : Nat) (0 : Nat), AV.ptr (2 : Nat) (0 : Nat), AV.ptr (3 : Nat) (0 : Nat),
 AV.ptr (4 : Nat) (0 : Nat), AV.ptr (5 : Nat) (0 : Nat)],
 AV.fn (Fn.func (37 : Nat)) []
 [AV.ptr (1 : Nat) (0 : Nat), AV.ptr (2 : Nat) (0 : Nat), AV.ptr (5 : Nat) (0 : Nat)]],
 AV.sc (Value.slice none (0 : Nat) (0 : Nat)),
 AV.agg
 [AV.sc (Value.int IntKind.i64 (IntKind.i64.wrap (level + (1 : Int)))), AV.sc (Value.int IntKind.i64 (3 : Int)),
 AV.sc (Value.int IntKind.i64 (-1 : Int)), AV.sc (Value.bool loop)],
 AV.ptr
 ((((((Nat.add (1 : Nat) (1 : Nat)).add (1 : Nat)).add (1 : Nat)).add (1 : Nat)).add (1 : Nat)).add
 (1 : Nat)).succ
 (0 : Nat)]
 (Heap.mk
 (((((((Nat.add (1 : Nat) (1 : Nat)).add (1 : Nat)).add (1 : Nat)).add (1 : Nat)).add (1 : Nat)).add
 (1 : Nat)).succ +
 (1 : Nat))
 ((((Tr.leaf.node (some (AObj.map [])) Tr.leaf).node (some (AObj.cells [AV.mp (7 : Nat)])) Tr.leaf).node
 (some (AObj.cells [AV.fn (Fn.func (32 : Nat)) [] [AV.ptr (5 : Nat) (0 : Nat)]]))
 (Tr.leaf.node
 (some (AObj.cells [AV.sc (Value.int IntKind.i64 (0 : Int)), AV.sc (Value.int IntKind.i64 (0 : Int))]))
 Tr.leaf)).node
 none
 (((Tr.leaf.node
 (some
 (AObj.cells
 [AV.sc (Value.int IntKind.i64 (1 : Int)), AV.sc (Value.string (ByteArray.mk (Array.mk []))),
 AV.sc (Value.int IntKind.i64 (0 : Int)), AV.sc (Value.bool false),
 AV.sc (Value.slice none (0 : Nat) (0 : Nat)), AV.sc (Value.int IntKind.i64 (1000 : Int))]))
 Tr.leaf).node
 (some (AObj.cells [AV.sl [R] (0 : Nat), AV.sc (Value.slice none (0 : Nat) (0 : Nat))])) Tr.leaf).node
 (some (AObj.cells [AV.fn (Fn.func (33 : Nat)) [] [AV.ptr (3 : Nat) (0 : Nat), AV.ptr (4 : Nat) (0 : Nat)]]))
 (Tr.leaf.node
 (some
 (AObj.cells
 [AV.sc (Value.int IntKind.i64 (20 : Int)), AV.sc (Value.string (ByteArray.mk (Array.mk []))),
 AV.sc (Value.int IntKind.i64 (0 : Int)), AV.sc (Value.bool false), AV.sl [Y2] (0 : Nat),
 AV.sc (Value.int IntKind.i64 a2)]))
 Tr.leaf)))
 ((((((Nat.add (1 : Nat) (1 : Nat)).add (1 : Nat)).add (1 : Nat)).add (1 : Nat)).add (1 : Nat)).add (1 : Nat)).succ
 (Tr.leaf.node none
 (((Tr.leaf.node (some ((26 : Nat), (6 : Nat))) Tr.leaf).node none Tr.leaf).node none Tr.leaf))) ∧
 ∀ (_ : Unit),
 True →
 K (AV.sc (Value.bool true))
 (Heap.mk
 (((((((Nat.add (1 : Nat) (1 : Nat)).add (1 : Nat)).add (1 : Nat)).add (1 : Nat)).add (1 : Nat)).add
 (1 : Nat)).succ +
 (1 : Nat))
 ((((Tr.leaf.node (some (AObj.map [])) Tr.leaf).node (some (AObj.cells [AV.mp (7 : Nat)])) Tr.leaf).node
 (some (AObj.cells [AV.fn (Fn.func (32 : Nat)) [] [AV.ptr (5 : Nat) (0 : Nat)]]))
 (Tr.leaf.node
 (some (AObj.cells [AV.sc (Value.int IntKind.i64 (0 : Int)), AV.sc (Value.int IntKind.i64 (0 : Int))]))
 Tr.leaf)).node
 none
 (((Tr.leaf.node
 (some
 (AObj.cells
 [AV.sc (Value.int IntKind.i64 (1 : Int)), AV.sc (Value.string (ByteArray.mk (Array.mk []))),
 AV.sc (Value.int IntKind.i64 (0 : Int)), AV.sc (Value.bool false),
 AV.sc (Value.slice none (0 : Nat) (0 : Nat)), AV.sc (Value.int IntKind.i64 (1000 : Int))]))
 Tr.leaf).node
 (some (AObj.cells [AV.sl [R] (0 : Nat), AV.sc (Value.slice none (0 : Nat) (0 : Nat))])) Tr.leaf).node
 (some
 (AObj.cells [AV.fn (Fn.func (33 : Nat)) [] [AV.ptr (3 : Nat) (0 : Nat), AV.ptr (4 : Nat) (0 : Nat)]]))
 (Tr.leaf.node
 (some
 (AObj.cells
 [AV.sc (Value.int IntKind.i64 (20 : Int)), AV.sc (Value.string (ByteArray.mk (Array.mk []))),
 AV.sc (Value.int IntKind.i64 (0 : Int)), AV.sc (Value.bool false), AV.sl [Y2] (0 : Nat),
 AV.sc (Value.int IntKind.i64 a2)]))
 Tr.leaf)))
 ((((((Nat.add (1 : Nat) (1 : Nat)).add (1 : Nat)).add (1 : Nat)).add (1 : Nat)).add (1 : Nat)).add
 (1 : Nat)).succ
 (Tr.leaf.node none
 (((Tr.leaf.node (some ((26 : Nat), (6 : Nat))) Tr.leaf).node none Tr.leaf).node none Tr.leaf)))) :
 (fun (m : Nat) (level : Int) (loop : Bool) (R Y2 : List AV) (a2 : Int) (K : AV → Heap → Prop) => wpCall (T46 m) cfgI Tryz.prog 60 46 [vN, .sl [numC] 0, wA level loop, (.ptr 6 0)] (hN1 R (grpC Y2 a2)) K) m level loop R Y2 a2 K :=
 Eq.mp (by kernel_rfl) h
theorem gng (m : Nat) (level : Int) (loop : Bool) (Y : List AV) (at_ : Int) (R : List AV) (Y2 : List AV) (a2 : Int) (K : AV → Heap → Prop) (h :
 Vis1 m
 [AV.agg
 [AV.fn (Fn.func (34 : Nat)) []
 [AV.ptr (1 : Nat) (0 : Nat), AV.ptr (2 : Nat) (0 : Nat), AV.ptr (3 : Nat) (0 : Nat),
 AV.ptr (4 : Nat) (0 : Nat), AV.ptr (5 : Nat) (0 : Nat)],
 AV.fn (Fn.func (37 : Nat)) []
 [AV.ptr (1 : Nat) (0 : Nat), AV.ptr (2 : Nat) (0 : Nat), AV.ptr (5 : Nat) (0 : Nat)]],
 AV.sl [Y] (0 : Nat),
 AV.agg
 [AV.sc (Value.int IntKind.i64 (IntKind.i64.wrap (level + (1 : Int)))), AV.sc (Value.int IntKind.i64 (3 : Int)),
 AV.sc (Value.int IntKind.i64 (-1 : Int)), AV.sc (Value.bool loop)],
 AV.ptr
 ((((((Nat.add (1 : Nat) (1 : Nat)).add (1 : Nat)).add (1 : Nat)).add (1 : Nat)).add (1 : Nat)).add
 (1 : Nat)).succ
 (0 : Nat)]
 (Heap.mk
 (((((((Nat.add (1 : Nat) (1 : Nat)).add (1 : Nat)).add (1 : Nat)).add (1 : Nat)).add (1 : Nat)).add
 (1 : Nat)).succ +
 (1 : Nat))
 ((((Tr.leaf.node (some (AObj.map [])) Tr.leaf).node (some (AObj.cells [AV.mp (7 : Nat)])) Tr.leaf).node
 (some (AObj.cells [AV.fn (Fn.func (32 : Nat)) [] [AV.ptr (5 : Nat) (0 : Nat)]]))
 (Tr.leaf.node
 (some (AObj.cells [AV.sc (Value.int IntKind.i64 (0 : Int)), AV.sc (Value.int IntKind.i64 (0 : Int))]))
 Tr.leaf)).node
 none
 (((Tr.leaf.node
 (some
 (AObj.cells
 [AV.sc (Value.int IntKind.i64 (20 : Int)), AV.sc (Value.string (ByteArray.mk (Array.mk []))),
 AV.sc (Value.int IntKind.i64 (0 : Int)), AV.sc (Value.bool false), AV.sl [Y] (0 : Nat),
 AV.sc (Value.int IntKind.i64 at_)]))
 Tr.leaf).node
 (some (AObj.cells [AV.sl [R] (0 : Nat), AV.sc (Value.slice none (0 : Nat) (0 : Nat))])) Tr.leaf).node
 (some (AObj.cells [AV.fn (Fn.func (33 : Nat)) [] [AV.ptr (3 : Nat) (0 : Nat), AV.ptr (4 : Nat) (0 : Nat)]]))
 (Tr.leaf.node
 (some
 (AObj.cells
 [AV.sc (Value.int IntKind.i64 (20 : Int)), AV.sc (Value.string (ByteArray.mk (Array.mk []))),
 AV.sc (Value.int IntKind.i64 (0 : Int)), AV.sc (Value.bool false), AV.sl [Y2] (0 : Nat),
 AV.sc (Value.int IntKind.i64 a2)]))
 Tr.leaf)))
 ((((((Nat.add (1 : Nat) (1 : Nat)).add (1 : Nat)).add (1 : Nat)).add (1 : Nat)).add (1 : Nat)).add (1 : Nat)).succ
 (Tr.leaf.node none
 (((Tr.leaf.node (some ((26 : Nat), (6 : Nat))) Tr.leaf).node none Tr.leaf).node none Tr.leaf))) ∧
 ∀ (_ : Unit),
 True →
 K (AV.sc (Value.bool true))
 (Heap.mk
 (((((((Nat.add (1 : Nat) (1 : Nat)).add (1 : Nat)).add (1 : Nat)).add (1 : Nat)).add (1 : Nat)).add
 (1 : Nat)).succ +
 (1 : Nat))
 ((((Tr.leaf.node (some (AObj.map [])) Tr.leaf).node (some (AObj.cells [AV.mp (7 : Nat)])) Tr.leaf).node
 (some (AObj.cells [AV.fn (Fn.func (32 : Nat)) [] [AV.ptr (5 : Nat) (0 : Nat)]]))
 (Tr.leaf.node
 (some (AObj.cells [AV.sc (Value.int IntKind.i64 (0 : Int)), AV.sc (Value.int IntKind.i64 (0 : Int))]))
 Tr.leaf)).node
 none
 (((Tr.leaf.node
 (some
 (AObj.cells
 [AV.sc (Value.int IntKind.i64 (20 : Int)), AV.sc (Value.string (ByteArray.mk (Array.mk []))),
 AV.sc (Value.int IntKind.i64 (0 : Int)), AV.sc (Value.bool false), AV.sl [Y] (0 : Nat),
 AV.sc (Value.int IntKind.i64 at_)]))
 Tr.leaf).node
 (some (AObj.cells [AV.sl [R] (0 : Nat), AV.sc (Value.slice none (0 : Nat) (0 : Nat))])) Tr.leaf).node
 (some
 (AObj.cells [AV.fn (Fn.func (33 : Nat)) [] [AV.ptr (3 : Nat) (0 : Nat), AV.ptr (4 : Nat) (0 : Nat)]]))
 (Tr.leaf.node
 (some
 (AObj.cells
 [AV.sc (Value.int IntKind.i64 (20 : Int)), AV.sc (Value.string (ByteArray.mk (Array.mk []))),
 AV.sc (Value.int IntKind.i64 (0 : Int)), AV.sc (Value.bool false), AV.sl [Y2] (0 : Nat),
 AV.sc (Value.int IntKind.i64 a2)]))
 Tr.leaf)))
 ((((((Nat.add (1 : Nat) (1 : Nat)).add (1 : Nat)).add (1 : Nat)).add (1 : Nat)).add (1 : Nat)).add
 (1 : Nat)).succ
 (Tr.leaf.node none
 (((Tr.leaf.node (some ((26 : Nat), (6 : Nat))) Tr.leaf).node none Tr.leaf).node none Tr.leaf)))) :
 (fun (m : Nat) (level : Int) (loop : Bool) (Y : List AV) (at_ : Int) (R Y2 : List AV) (a2 : Int) (K : AV → Heap → Prop) => wpCall (T46 m) cfgI Tryz.prog 60 46 [vN, .sl [grpC Y at_] 0, wA level loop, (.ptr 6 0)] (hN1 R (grpC Y2 a2)) K) m level loop Y at_ R Y2 a2 K :=
 Eq.mp (by kernel_rfl) h
theorem iu0 (m : Nat) (level : Int) (loop : Bool) (K : AV → Heap → Prop) (h :
 Vis0
 [AV.agg
 [AV.fn (Fn.func (39 : Nat)) [] [AV.ptr (1 : Nat) (0 : Nat), AV.ptr (2 : Nat) (0 : Nat)],
 AV.fn (Fn.func (40 : Nat)) [] [AV.ptr (2 : Nat) (0 : Nat)]],
 AV.sc (Value.slice none (0 : Nat) (0 : Nat)),
 AV.agg
 [AV.sc (Value.int IntKind.i64 (IntKind.i64.wrap (level + (1 : Int)))), AV.sc (Value.int IntKind.i64 (3 : Int)),
 AV.sc (Value.int IntKind.i64 (-1 : Int)), AV.sc (Value.bool loop)],
 AV.ptr (Nat.succ (3 : Nat)) (0 : Nat)]
 (Heap.mk (5 : Nat)
 (((Tr.leaf.node (some (AObj.map [])) Tr.leaf).node (some (AObj.cells [AV.mp (3 : Nat)])) Tr.leaf).node none
 ((Tr.leaf.node
 (some
 (AObj.cells
 [AV.sc (Value.int IntKind.i64 (1 : Int)), AV.sc (Value.string (ByteArray.mk (Array.mk []))),
 AV.sc (Value.int IntKind.i64 (0 : Int)), AV.sc (Value.bool false),
 AV.sc (Value.slice none (0 : Nat) (0 : Nat)), AV.sc (Value.int IntKind.i64 (1000 : Int))]))
 Tr.leaf).node
 (some (AObj.cells [AV.sc (Value.slice none (0 : Nat) (0 : Nat))])) Tr.leaf))
 (4 : Nat) (Tr.leaf.node none ((Tr.leaf.node (some ((26 : Nat), (6 : Nat))) Tr.leaf).node none Tr.leaf))) ∧
 ∀ (_ : Unit),
 True →
 K (AV.sc (Value.bool true))
 (Heap.mk (5 : Nat)
 (((Tr.leaf.node (some (AObj.map [])) Tr.leaf).node (some (AObj.cells [AV.mp (3 : Nat)])) Tr.leaf).node none
 ((Tr.leaf.node
 (some
 (AObj.cells
 [AV.sc (Value.int IntKind.i64 (1 : Int)), AV.sc (Value.string (ByteArray.mk (Array.mk []))),
 AV.sc (Value.int IntKind.i64 (0 : Int)), AV.sc (Value.bool false),
 AV.sc (Value.slice none (0 : Nat) (0 : Nat)), AV.sc (Value.int IntKind.i64 (1000 : Int))]))
 Tr.leaf).node
 (some (AObj.cells [AV.sc (Value.slice none (0 : Nat) (0 : Nat))])) Tr.leaf))
 (4 : Nat) (Tr.leaf.node none ((Tr.leaf.node (some ((26 : Nat), (6 : Nat))) Tr.leaf).node none Tr.leaf)))) :
 (fun (m : Nat) (level : Int) (loop : Bool) (K : AV → Heap → Prop) => wpCall (T46 m) cfgI Tryz.prog 60 46 [vU, .sl [numC] 0, wA level loop, nilP] hU0 K) m level loop K :=
 Eq.mp (by kernel_rfl) h
theorem gu0 (m : Nat) (level : Int) (loop : Bool) (Y : List AV) (at_ : Int) (K : AV → Heap → Prop) (h :
 Vis1 m
 [AV.agg
 [AV.fn (Fn.func (39 : Nat)) [] [AV.ptr (1 : Nat) (0 : Nat), AV.ptr (2 : Nat) (0 : Nat)],
 AV.fn (Fn.func (40 : Nat)) [] [AV.ptr (2 : Nat) (0 : Nat)]],
 AV.sl [Y] (0 : Nat),
 AV.agg
 [AV.sc (Value.int IntKind.i64 (IntKind.i64.wrap (level + (1 : Int)))), AV.sc (Value.int IntKind.i64 (3 : Int)),
 AV.sc (Value.int IntKind.i64 (-1 : Int)), AV.sc (Value.bool loop)],
 AV.ptr (Nat.succ (3 : Nat)) (0 : Nat)]
 (Heap.mk (5 : Nat)
 (((Tr.leaf.node (some (AObj.map [])) Tr.leaf).node (some (AObj.cells [AV.mp (3 : Nat)])) Tr.leaf).node none
 ((Tr.leaf.node
 (some
 (AObj.cells
 [AV.sc (Value.int IntKind.i64 (20 : Int)), AV.sc (Value.string (ByteArray.mk (Array.mk []))),
 AV.sc (Value.int IntKind.i64 (0 : Int)), AV.sc (Value.bool false), AV.sl [Y] (0 : Nat),
 AV.sc (Value.int IntKind.i64 at_)]))
 Tr.leaf).node
 (some (AObj.cells [AV.sc (Value.slice none (0 : Nat) (0 : Nat))])) Tr.leaf))
 (4 : Nat) (Tr.leaf.node none ((Tr.leaf.node (some ((26 : Nat), (6 : Nat))) Tr.leaf).node none Tr.leaf))) ∧
 ∀ (_ : Unit),
 True →
 K (AV.sc (Value.bool true))
 (Heap.mk (5 : Nat)
 (((Tr.leaf.node (some (AObj.map [])) Tr.leaf).node (some (AObj.cells [AV.mp (3 : Nat)])) Tr.leaf).node none
 ((Tr.leaf.node
 (some
 (AObj.cells
 [AV.sc (Value.int IntKind.i64 (20 : Int)), AV.sc (Value.string (ByteArray.mk (Array.mk []))),
 AV.sc (Value.int IntKind.i64 (0 : Int)), AV.sc (Value.bool false), AV.sl [Y] (0 : Nat),
 AV.sc (Value.int IntKind.i64 at_)]))
 Tr.leaf).node
 (some (AObj.cells [AV.sc (Value.slice none (0 : Nat) (0 : Nat))])) Tr.leaf))
 (4 : Nat) (Tr.leaf.node none ((Tr.leaf.node (some ((26 : Nat), (6 : Nat))) Tr.leaf).node none Tr.leaf)))) :
 (fun (m : Nat) (level : Int) (loop : Bool) (Y : List AV) (at_ : Int) (K : AV → Heap → Prop) => wpCall (T46 m) cfgI Tryz.prog 60 46 [vU, .sl [grpC Y at_] 0, wA level loop, nilP] hU0 K) m level loop Y at_ K :=
 Eq.mp (by kernel_rfl) h
theorem iug (m : Nat) (level : Int) (loop : Bool) (Y2 : List AV) (a2 : Int) (K : AV → Heap → Prop) (h :
 Vis0
 [AV.agg
 [AV.fn (Fn.func (39 : Nat)) [] [AV.ptr (1 : Nat) (0 : Nat), AV.ptr (2 : Nat) (0 : Nat)],
 AV.fn (Fn.func (40 : Nat)) [] [AV.ptr (2 : Nat) (0 : Nat)]],
 AV.sc (Value.slice none (0 : Nat) (0 : Nat)),
 AV.agg
 [AV.sc (Value.int IntKind.i64 (IntKind.i64.wrap (level + (1 : Int)))), AV.sc (Value.int IntKind.i64 (3 : Int)),
 AV.sc (Value.int IntKind.i64 (-1 : Int)), AV.sc (Value.bool loop)],
 AV.ptr (((Nat.add (1 : Nat) (1 : Nat)).add (1 : Nat)).add (1 : Nat)).succ (0 : Nat)]
 (Heap.mk ((((Nat.add (1 : Nat) (1 : Nat)).add (1 : Nat)).add (1 : Nat)).succ + (1 : Nat))
 (((Tr.leaf.node
 (some
 (AObj.cells
 [AV.sc (Value.int IntKind.i64 (20 : Int)), AV.sc (Value.string (ByteArray.mk (Array.mk []))),
 AV.sc (Value.int IntKind.i64 (0 : Int)), AV.sc (Value.bool false), AV.sl [Y2] (0 : Nat),
 AV.sc (Value.int IntKind.i64 a2)]))
 Tr.leaf).node
 (some (AObj.cells [AV.mp (4 : Nat)]))
 (Tr.leaf.node
 (some
 (AObj.cells
 [AV.sc (Value.int IntKind.i64 (1 : Int)), AV.sc (Value.string (ByteArray.mk (Array.mk []))),
 AV.sc (Value.int IntKind.i64 (0 : Int)), AV.sc (Value.bool false),
 AV.sc (Value.slice none (0 : Nat) (0 : Nat)), AV.sc (Value.int IntKind.i64 (1000 : Int))]))
 Tr.leaf)).node
 none
 ((Tr.leaf.node (some (AObj.map [])) Tr.leaf).node
 (some (AObj.cells [AV.sc (Value.slice none (0 : Nat) (0 : Nat))])) Tr.leaf))
 (((Nat.add (1 : Nat) (1 : Nat)).add (1 : Nat)).add (1 : Nat)).succ
 ((Tr.leaf.node none (Tr.leaf.node (some ((26 : Nat), (6 : Nat))) Tr.leaf)).node none Tr.leaf)) ∧
 ∀ (_ : Unit),
 True →
 K (AV.sc (Value.bool true))
 (Heap.mk ((((Nat.add (1 : Nat) (1 : Nat)).add (1 : Nat)).add (1 : Nat)).succ + (1 : Nat))
 (((Tr.leaf.node
 (some
 (AObj.cells
 [AV.sc (Value.int IntKind.i64 (20 : Int)), AV.sc (Value.string (ByteArray.mk (Array.mk []))),
 AV.sc (Value.int IntKind.i64 (0 : Int)), AV.sc (Value.bool false), AV.sl [Y2] (0 : Nat),
 AV.sc (Value.int IntKind.i64 a2)]))
 Tr.leaf).node
 (some (AObj.cells [AV.mp (4 : Nat)]))
 (Tr.leaf.node
 (some
 (AObj.cells
 [AV.sc (Value.int IntKind.i64 (1 : Int)), AV.sc (Value.string (ByteArray.mk (Array.mk []))),
 AV.sc (Value.int IntKind.i64 (0 : Int)), AV.sc (Value.bool false),
 AV.sc (Value.slice none (0 : Nat) (0 : Nat)), AV.sc (Value.int IntKind.i64 (1000 : Int))]))
 Tr.leaf)).node
 none
 ((Tr.leaf.node (some (AObj.map [])) Tr.leaf).node
 (some (AObj.cells [AV.sc (Value.slice none (0 : Nat) (0 : Nat))])) Tr.leaf))
 (((Nat.add (1 : Nat) (1 : Nat)).add (1 : Nat)).add (1 : Nat)).succ
 ((Tr.leaf.node none (Tr.leaf.node (some ((26 : Nat), (6 : Nat))) Tr.leaf)).node none Tr.leaf))) :
 (fun (m : Nat) (level : Int) (loop : Bool) (Y2 : List AV) (a2 : Int) (K : AV → Heap → Prop) => wpCall (T46 m) cfgI Tryz.prog 60 46 [vU, .sl [numC] 0, wA level loop, (.ptr 3 0)] (hU1 (grpC Y2 a2)) K) m level loop Y2 a2 K :=
 Eq.mp (by kernel_rfl) h
theorem gug (m : Nat) (level : Int) (loop : Bool) (Y : List AV) (at_ : Int) (Y2 : List AV) (a2 : Int) (K : AV → Heap → Prop) (h :
 Vis1 m
 [AV.agg
 [AV.fn (Fn.func (39 : Nat)) [] [AV.ptr (1 : Nat) (0 : Nat), AV.ptr (2 : Nat) (0 : Nat)],
 AV.fn (Fn.func (40 : Nat)) [] [AV.ptr (2 : Nat) (0 : Nat)]],
 AV.sl [Y] (0 : Nat),
 AV.agg
 [AV.sc (Value.int IntKind.i64 (IntKind.i64.wrap (level + (1 : Int)))), AV.sc (Value.int IntKind.i64 (3 : Int)),
 AV.sc (Value.int IntKind.i64 (-1 : Int)), AV.sc (Value.bool loop)],
 AV.ptr (((Nat.add (1 : Nat) (1 : Nat)).add (1 : Nat)).add (1 : Nat)).succ (0 : Nat)]
 (Heap.mk ((((Nat.add (1 : Nat) (1 : Nat)).add (1 : Nat)).add (1 : Nat)).succ + (1 : Nat))
 (((Tr.leaf.node
 (some
 (AObj.cells
 [AV.sc (Value.int IntKind.i64 (20 : Int)), AV.sc (Value.string (ByteArray.mk (Array.mk []))),
 AV.sc (Value.int IntKind.i64 (0 : Int)), AV.sc (Value.bool false), AV.sl [Y2] (0 : Nat),
 AV.sc (Value.int IntKind.i64 a2)]))
 Tr.leaf).node
 (some (AObj.cells [AV.mp (4 : Nat)]))
 (Tr.leaf.node
 (some
 (AObj.cells
 [AV.sc (Value.int IntKind.i64 (20 : Int)), AV.sc (Value.string (ByteArray.mk (Array.mk []))),
 AV.sc (Value.int IntKind.i64 (0 : Int)), AV.sc (Value.bool false), AV.sl [Y] (0 : Nat),
 AV.sc (Value.int IntKind.i64 at_)]))
 Tr.leaf)).node
 none
 ((Tr.leaf.node (some (AObj.map [])) Tr.leaf).node
 (some (AObj.cells [AV.sc (Value.slice none (0 : Nat) (0 : Nat))])) Tr.leaf))
 (((Nat.add (1 : Nat) (1 : Nat)).add (1 : Nat)).add (1 : Nat)).succ
 ((Tr.leaf.node none (Tr.leaf.node (some ((26 : Nat), (6 : Nat))) Tr.leaf)).node none Tr.leaf)) ∧
 ∀ (_ : Unit),
 True →
 K (AV.sc (Value.bool true))
 (Heap.mk ((((Nat.add (1 : Nat) (1 : Nat)).add (1 : Nat)).add (1 : Nat)).succ + (1 : Nat))
 (((Tr.leaf.node
 (some
 (AObj.cells
 [AV.sc (Value.int IntKind.i64 (20 : Int)), AV.sc (Value.string (ByteArray.mk (Array.mk []))),
 AV.sc (Value.int IntKind.i64 (0 : Int)), AV.sc (Value.bool false), AV.sl [Y2] (0 : Nat),
 AV.sc (Value.int IntKind.i64 a2)]))
 Tr.leaf).node
 (some (AObj.cells [AV.mp (4 : Nat)]))
 (Tr.leaf.node
 (some
 (AObj.cells
 [AV.sc (Value.int IntKind.i64 (20 : Int)), AV.sc (Value.string (ByteArray.mk (Array.mk []))),
 AV.sc (Value.int IntKind.i64 (0 : Int)), AV.sc (Value.bool false), AV.sl [Y] (0 : Nat),
 AV.sc (Value.int IntKind.i64 at_)]))
 Tr.leaf)).node
 none
 ((Tr.leaf.node (some (AObj.map [])) Tr.leaf).node
 (some (AObj.cells [AV.sc (Value.slice none (0 : Nat) (0 : Nat))])) Tr.leaf))
 (((Nat.add (1 : Nat) (1 : Nat)).add (1 : Nat)).add (1 : Nat)).succ
 ((Tr.leaf.node none (Tr.leaf.node (some ((26 : Nat), (6 : Nat))) Tr.leaf)).node none Tr.leaf))) :
 (fun (m : Nat) (level : Int) (loop : Bool) (Y : List AV) (at_ : Int) (Y2 : List AV) (a2 : Int) (K : AV → Heap → Prop) => wpCall (T46 m) cfgI Tryz.prog 60 46 [vU, .sl [grpC Y at_] 0, wA level loop, (.ptr 3 0)] (hU1 (grpC Y2 a2)) K) m level loop Y at_ Y2 a2 K :=
 Eq.mp (by kernel_rfl) h
end
end Go.Proofs.Sc
