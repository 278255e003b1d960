/- A part of the proof: definitions and lemmas. -/
import Derived.Test.YtijnmcodipdioaaGreatDoorLiteralsA
import Derived.Test.YtijnmcodipdioaaGreatDoorLiteralsB
import Derived.Test.YtijnmcodipdioaaGreatDoorLiteralsC
import Derived.Test.YtijnmcodipdioaaGreatDoorLiteralsD
import Derived.Test.YtijnmcodipdioaaGreatDoorLiteralsE
import Derived.Test.YtijnmcodipdioaaGreatDoorLiteralsF
import Derived.Test.YtijnmcodipdioaaGreatDoorLiteralsG
import Derived.Test.YtijnmcodipdioaaGreatDoorLiteralsQ
import Derived.Test.YtijnmcodipdioaaGreatDoorLiteralsR
namespace Go.Proofs.Rl
open Go Go.Ef
noncomputable section
def exC7 (args : List AV) (h : Heap) : Option CSpec := match args with
 | [] => some (fspec True locA h)
 | _ => none
def exC6 (args : List AV) (h : Heap) : Option CSpec :=
 bif isArgs args [aStr pat1, iA 1, locA] then some (fspec True (.tup [.agg x1V, iA 0, iA 0]) h) else
 bif isArgs args [aStr pat2, iA 1, locA] then some (fspec True (.tup [.agg x2V, iA 0, iA 0]) h) else
 bif isArgs args [aStr pat3, iA 1, locA] then some (fspec True (.tup [.agg x3V, iA 0, iA 0]) h) else none
def exC8 (args : List AV) (h : Heap) : Option CSpec := bif isArgs args [.agg x1V, aStr [120, 97, 98, 99, 100], iA 0] then some (fspec True r8V h) else none
def exC9 (args : List AV) (h : Heap) : Option CSpec := bif isArgs args [.agg x2V, aStr [98, 97, 97, 99]] then some (fspec True r9V h) else none
def exC10 (args : List AV) (h : Heap) : Option CSpec := bif isArgs args [.agg x3V, aStr [97, 44, 32, 98, 44, 44, 99]] then some (fspec True r10V h) else none
def TEx : Tab := ((((tab0.addC 7 exC7).addC 6 exC6).addC 8 exC8).addC 9 exC9).addC 10 exC10
end
end Go.Proofs.Rl
namespace Go.Proofs.Rl
open Go Go.Ef
noncomputable section
set_option maxRecDepth 100000
theorem v5 (K : AV → Prop) (h :
 True ∧
 ∀ (_ : Unit),
 True →
 True ∧
 ∀ (_ : Unit),
 True →
 True ∧
 ∀ (_ : Unit),
 True →
 True ∧
 ∀ (_ : Unit),
 True →
 True ∧
 ∀ (_ : Unit),
 True →
 True ∧
 ∀ (_ : Unit),
 True →
 True ∧
 ∀ (_ : Unit),
 True →
 True ∧
 ∀ (_ : Unit),
 True →
 True ∧
 ∀ (_ : Unit),
 True →
 some
 [AV.sl
 [[AV.sc (Value.int IntKind.i64 (1 : Int)),
 AV.sc (Value.int IntKind.i64 (3 : Int))]]
 (0 : Nat)] =
 some
 [AV.sl
 [[AV.sc (Value.int IntKind.i64 (1 : Int)),
 AV.sc (Value.int IntKind.i64 (3 : Int))]]
 (0 : Nat)] ∧
 some
 [AV.sc (Value.int IntKind.i64 (1 : Int)),
 AV.sc (Value.int IntKind.i64 (5 : Int))] =
 some
 [AV.sc (Value.int IntKind.i64 (1 : Int)),
 AV.sc (Value.int IntKind.i64 (5 : Int))] ∧
 some
 [AV.sc (Value.int IntKind.i64 (1 : Int)),
 AV.sc (Value.int IntKind.i64 (3 : Int))] =
 some
 [AV.sc (Value.int IntKind.i64 (1 : Int)),
 AV.sc (Value.int IntKind.i64 (3 : Int))] ∧
 some
 [AV.sc (Value.int IntKind.i64 (4 : Int)),
 AV.sc (Value.int IntKind.i64 (5 : Int))] =
 some
 [AV.sc (Value.int IntKind.i64 (4 : Int)),
 AV.sc (Value.int IntKind.i64 (5 : Int))] ∧
 some
 [AV.sl
 [[AV.sc (Value.int IntKind.i64 (1 : Int)),
 AV.sc (Value.int IntKind.i64 (3 : Int))]]
 (0 : Nat)] =
 some
 [AV.sl
 [[AV.sc (Value.int IntKind.i64 (1 : Int)),
 AV.sc (Value.int IntKind.i64 (3 : Int))]]
 (0 : Nat)] ∧
 some
 [AV.sc (Value.int IntKind.i64 (1 : Int)),
 AV.sc (Value.int IntKind.i64 (3 : Int))] =
 some
 [AV.sc (Value.int IntKind.i64 (1 : Int)),
 AV.sc (Value.int IntKind.i64 (3 : Int))] ∧
 some
 [AV.sc
 (Value.string
 (ByteArray.mk
 (Array.mk [(97 : UInt8)])))] =
 some
 [AV.sc
 (Value.string
 (ByteArray.mk
 (Array.mk
 (cellStr
 [[AV.sc
 (Value.string
 (ByteArray.mk
 (Array.mk
 [(97 : UInt8)])))],
 [AV.sc
 (Value.string
 (ByteArray.mk
 (Array.mk
 [(98 : UInt8)])))],
 [AV.sc
 (Value.string
 (ByteArray.mk
 (Array.mk [])))],
 [AV.sc
 (Value.string
 (ByteArray.mk
 (Array.mk
 [(99 : UInt8)])))]]
 (0 : Int) (0 : Nat)))))] ∧
 some
 [AV.sc
 (Value.string
 (ByteArray.mk (Array.mk [])))] =
 some
 [AV.sc
 (Value.string
 (ByteArray.mk
 (Array.mk
 (cellStr
 [[AV.sc
 (Value.string
 (ByteArray.mk
 (Array.mk
 [(97 : UInt8)])))],
 [AV.sc
 (Value.string
 (ByteArray.mk
 (Array.mk
 [(98 : UInt8)])))],
 [AV.sc
 (Value.string
 (ByteArray.mk
 (Array.mk [])))],
 [AV.sc
 (Value.string
 (ByteArray.mk
 (Array.mk
 [(99 : UInt8)])))]]
 (2 : Int) (0 : Nat)))))] ∧
 some
 [AV.sc
 (Value.string
 (ByteArray.mk
 (Array.mk [(99 : UInt8)])))] =
 some
 [AV.sc
 (Value.string
 (ByteArray.mk
 (Array.mk
 (cellStr
 [[AV.sc
 (Value.string
 (ByteArray.mk
 (Array.mk
 [(97 : UInt8)])))],
 [AV.sc
 (Value.string
 (ByteArray.mk
 (Array.mk
 [(98 : UInt8)])))],
 [AV.sc
 (Value.string
 (ByteArray.mk
 (Array.mk [])))],
 [AV.sc
 (Value.string
 (ByteArray.mk
 (Array.mk
 [(99 : UInt8)])))]]
 (3 : Int) (0 : Nat)))))] ∧
 K (AV.sc (Value.bool true))) :
 (fun (K : AV → Prop) => wpCall TEx cfg Tryz.prog 300 5 [] heapF fun r h' => wpBack h' r K) K :=
 Eq.mp (by kernel_rfl) h
end
end Go.Proofs.Rl
