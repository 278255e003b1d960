/- A part of the proof: definitions and lemmas. -/
import Derived.Test.YtdnekbapjlbeaaaGreatDoorJoinsD
import Derived.Test.YtdnekbapjlbeaaaGreatDoorCards
import Derived.Test.YtdnekbapjlbeaaaGreatDoorTie
import Derived.WalkKit
import Derived.ProofKit
import Derived.Handy
import Derived.Lay
import Derived.Shelf.Vars
import Derived.Deep.DeepHandedRow
import Derived.SevenTiedAt
namespace Go.Proofs.Rd
open Go Go.Ef
noncomputable section
set_option maxRecDepth 100000
theorem c8a (m : Int) (s : List UInt8) (c : UInt8) (op : Int) (k : Int) (t : List UInt8) (K : AV → Prop) (h :
 iteP (decide ((200 : Int) < (↑s.length : Int))) (True ∧ ∀ (_ : Unit), True → K (AV.sc (Value.bool true)))
 (iteP ((↑c.toNat : Int) == (32 : Int)) (True ∧ ∀ (_ : Unit), True → K (AV.sc (Value.bool true)))
 (iteP (decide (k < (1 : Int))) (True ∧ ∀ (_ : Unit), True → K (AV.sc (Value.bool true)))
 (iteP (decide ((50 : Int) < k)) (True ∧ ∀ (_ : Unit), True → K (AV.sc (Value.bool true)))
 (iteP (decide ((200 : Int) < (↑t.length : Int))) (True ∧ ∀ (_ : Unit), True → K (AV.sc (Value.bool true)))
 (True ∧
 ∀ (_ : Unit),
 True →
 iteP (decide ((65536 : Int) < (↑s.length : Int))) (K (AV.sc (Value.bool false)))
 (SplOk
 (AV.agg
 [AV.sc
 (Value.string
 (ByteArray.mk
 (Array.mk (List.map byteD [[AV.sc (Value.int IntKind.u8 (↑c.toNat : Int))]])))),
 AV.sc (Value.string (ByteArray.mk (Array.mk []))), AV.sc (Value.int IntKind.i64 (0 : Int)),
 AV.sc (Value.int IntKind.i64 (0 : Int)), AV.sc (Value.int IntKind.i64 (0 : Int)),
 AV.sc (Value.int IntKind.u64 (0 : Int)), AV.sc (Value.int IntKind.u64 (0 : Int)),
 AV.sc (Value.int IntKind.u64 (0 : Int)), AV.sc (Value.int IntKind.u64 (0 : Int)),
 AV.sc (Value.int IntKind.i64 (0 : Int)), AV.sc (Value.int IntKind.i64 (0 : Int)),
 AV.sc (Value.int IntKind.i64 (0 : Int)), AV.sc (Value.slice none (0 : Nat) (0 : Nat))])
 s ∧
 ∀ (x : List (List UInt8)),
 IsSpl
 (AV.agg
 [AV.sc
 (Value.string
 (ByteArray.mk
 (Array.mk (List.map byteD [[AV.sc (Value.int IntKind.u8 (↑c.toNat : Int))]])))),
 AV.sc (Value.string (ByteArray.mk (Array.mk []))),
 AV.sc (Value.int IntKind.i64 (0 : Int)), AV.sc (Value.int IntKind.i64 (0 : Int)),
 AV.sc (Value.int IntKind.i64 (0 : Int)), AV.sc (Value.int IntKind.u64 (0 : Int)),
 AV.sc (Value.int IntKind.u64 (0 : Int)), AV.sc (Value.int IntKind.u64 (0 : Int)),
 AV.sc (Value.int IntKind.u64 (0 : Int)), AV.sc (Value.int IntKind.i64 (0 : Int)),
 AV.sc (Value.int IntKind.i64 (0 : Int)), AV.sc (Value.int IntKind.i64 (0 : Int)),
 AV.sc (Value.slice none (0 : Nat) (0 : Nat))])
 s x →
 iteP (decide (s ≠ s)) (K (AV.sc (Value.bool false)))
 (FldsOk
 (Heap.mk (4 : Nat)
 (((Tr.leaf.node
 (some
 (AObj.cells
 [AV.sc
 (Value.string
 (ByteArray.mk
 (Array.mk
 (List.map byteD
 [[AV.sc (Value.int IntKind.u8 (↑c.toNat : Int))]])))),
 AV.sc (Value.string (ByteArray.mk (Array.mk []))),
 AV.sc (Value.int IntKind.i64 (0 : Int)),
 AV.sc (Value.int IntKind.i64 (0 : Int)),
 AV.sc (Value.int IntKind.i64 (0 : Int)),
 AV.sc (Value.int IntKind.u64 (0 : Int)),
 AV.sc (Value.int IntKind.u64 (0 : Int)),
 AV.sc (Value.int IntKind.u64 (0 : Int)),
 AV.sc (Value.int IntKind.u64 (0 : Int)),
 AV.sc (Value.int IntKind.i64 (0 : Int)),
 AV.sc (Value.int IntKind.i64 (0 : Int)),
 AV.sc (Value.int IntKind.i64 (0 : Int)),
 AV.sc (Value.slice none (0 : Nat) (0 : Nat)),
 AV.sc
 (Value.string (ByteArray.mk (Array.mk [(45 : UInt8), (45 : UInt8)]))),
 AV.sc (Value.string (ByteArray.mk (Array.mk s))),
 AV.sl (List.map strEl x) (0 : Nat)]))
 Tr.leaf).node
 (some
 (AObj.cells
 [AV.sc
 (Value.string
 (ByteArray.mk
 (Array.mk
 [(112 : UInt8), (111 : UInt8), (115 : UInt8), (105 : UInt8),
 (120 : UInt8)]))),
 AV.sl wEls (0 : Nat), AV.sc (Value.string (ByteArray.mk (Array.mk wLow))),
 AV.sc (Value.string (ByteArray.mk (Array.mk wUp))),
 AV.sc (Value.slice none (0 : Nat) (0 : Nat)),
 AV.sc (Value.slice none (0 : Nat) (0 : Nat))]))
 Tr.leaf).node
 none
 (Tr.leaf.node
 (some
 (AObj.cells
 [AV.sc
 (Value.string
 (ByteArray.mk
 (Array.mk
 (List.map byteD [[AV.sc (Value.int IntKind.u8 (↑c.toNat : Int))]])))),
 AV.sc (Value.string (ByteArray.mk (Array.mk []))),
 AV.sc (Value.int IntKind.i64 (0 : Int)),
 AV.sc (Value.int IntKind.i64 (0 : Int)),
 AV.sc (Value.int IntKind.i64 (0 : Int)),
 AV.sc (Value.int IntKind.u64 (0 : Int)),
 AV.sc (Value.int IntKind.u64 (0 : Int)),
 AV.sc (Value.int IntKind.u64 (0 : Int)),
 AV.sc (Value.int IntKind.u64 (0 : Int)),
 AV.sc (Value.int IntKind.i64 (0 : Int)),
 AV.sc (Value.int IntKind.i64 (0 : Int)),
 AV.sc (Value.int IntKind.i64 (0 : Int)),
 AV.sc (Value.slice none (0 : Nat) (0 : Nat))]))
 Tr.leaf))
 (0 : Nat)
 (((Tr.leaf.node
 (some
 ((112 : Nat),
 [AV.sc
 (Value.string
 (ByteArray.mk
 (Array.mk
 (List.map byteD
 [[AV.sc (Value.int IntKind.u8 (↑c.toNat : Int))]])))),
 AV.sc (Value.string (ByteArray.mk (Array.mk []))),
 AV.sc (Value.int IntKind.i64 (0 : Int)),
 AV.sc (Value.int IntKind.i64 (0 : Int)),
 AV.sc (Value.int IntKind.i64 (0 : Int)),
 AV.sc (Value.int IntKind.u64 (0 : Int)),
 AV.sc (Value.int IntKind.u64 (0 : Int)),
 AV.sc (Value.int IntKind.u64 (0 : Int)),
 AV.sc (Value.int IntKind.u64 (0 : Int)),
 AV.sc (Value.int IntKind.i64 (0 : Int)),
 AV.sc (Value.int IntKind.i64 (0 : Int)),
 AV.sc (Value.int IntKind.i64 (0 : Int)),
 AV.sc (Value.slice none (0 : Nat) (0 : Nat)),
 AV.sc
 (Value.string
 (ByteArray.mk (Array.mk [(45 : UInt8), (45 : UInt8)]))),
 AV.sc (Value.string (ByteArray.mk (Array.mk []))),
 AV.sc (Value.slice none (0 : Nat) (0 : Nat))].length))
 Tr.leaf).node
 (some
 ((61 : Nat),
 [AV.sc
 (Value.string
 (ByteArray.mk
 (Array.mk
 [(112 : UInt8), (111 : UInt8), (115 : UInt8), (105 : UInt8),
 (120 : UInt8)]))),
 AV.sl wEls (0 : Nat), AV.sc (Value.string (ByteArray.mk (Array.mk wLow))),
 AV.sc (Value.string (ByteArray.mk (Array.mk wUp))),
 AV.sc (Value.slice none (0 : Nat) (0 : Nat)),
 AV.sc (Value.slice none (0 : Nat) (0 : Nat))].length))
 Tr.leaf).node
 none (Tr.leaf.node (some ((108 : Nat), (13 : Nat))) Tr.leaf))) ∧
 ∀ (x_1 : List (List UInt8)),
 SomeFld
 (Heap.mk (4 : Nat)
 (((Tr.leaf.node
 (some
 (AObj.cells
 [AV.sc
 (Value.string
 (ByteArray.mk
 (Array.mk
 (List.map byteD
 [[AV.sc (Value.int IntKind.u8 (↑c.toNat : Int))]])))),
 AV.sc (Value.string (ByteArray.mk (Array.mk []))),
 AV.sc (Value.int IntKind.i64 (0 : Int)),
 AV.sc (Value.int IntKind.i64 (0 : Int)),
 AV.sc (Value.int IntKind.i64 (0 : Int)),
 AV.sc (Value.int IntKind.u64 (0 : Int)),
 AV.sc (Value.int IntKind.u64 (0 : Int)),
 AV.sc (Value.int IntKind.u64 (0 : Int)),
 AV.sc (Value.int IntKind.u64 (0 : Int)),
 AV.sc (Value.int IntKind.i64 (0 : Int)),
 AV.sc (Value.int IntKind.i64 (0 : Int)),
 AV.sc (Value.int IntKind.i64 (0 : Int)),
 AV.sc (Value.slice none (0 : Nat) (0 : Nat)),
 AV.sc
 (Value.string
 (ByteArray.mk (Array.mk [(45 : UInt8), (45 : UInt8)]))),
 AV.sc (Value.string (ByteArray.mk (Array.mk s))),
 AV.sl (List.map strEl x) (0 : Nat)]))
 Tr.leaf).node
 (some
 (AObj.cells
 [AV.sc
 (Value.string
 (ByteArray.mk
 (Array.mk
 [(112 : UInt8), (111 : UInt8), (115 : UInt8), (105 : UInt8),
 (120 : UInt8)]))),
 AV.sl wEls (0 : Nat),
 AV.sc (Value.string (ByteArray.mk (Array.mk wLow))),
 AV.sc (Value.string (ByteArray.mk (Array.mk wUp))),
 AV.sc (Value.slice none (0 : Nat) (0 : Nat)),
 AV.sc (Value.slice none (0 : Nat) (0 : Nat))]))
 Tr.leaf).node
 none
 (Tr.leaf.node
 (some
 (AObj.cells
 [AV.sc
 (Value.string
 (ByteArray.mk
 (Array.mk
 (List.map byteD
 [[AV.sc (Value.int IntKind.u8 (↑c.toNat : Int))]])))),
 AV.sc (Value.string (ByteArray.mk (Array.mk []))),
 AV.sc (Value.int IntKind.i64 (0 : Int)),
 AV.sc (Value.int IntKind.i64 (0 : Int)),
 AV.sc (Value.int IntKind.i64 (0 : Int)),
 AV.sc (Value.int IntKind.u64 (0 : Int)),
 AV.sc (Value.int IntKind.u64 (0 : Int)),
 AV.sc (Value.int IntKind.u64 (0 : Int)),
 AV.sc (Value.int IntKind.u64 (0 : Int)),
 AV.sc (Value.int IntKind.i64 (0 : Int)),
 AV.sc (Value.int IntKind.i64 (0 : Int)),
 AV.sc (Value.int IntKind.i64 (0 : Int)),
 AV.sc (Value.slice none (0 : Nat) (0 : Nat))]))
 Tr.leaf))
 (0 : Nat)
 (((Tr.leaf.node
 (some
 ((112 : Nat),
 [AV.sc
 (Value.string
 (ByteArray.mk
 (Array.mk
 (List.map byteD
 [[AV.sc (Value.int IntKind.u8 (↑c.toNat : Int))]])))),
 AV.sc (Value.string (ByteArray.mk (Array.mk []))),
 AV.sc (Value.int IntKind.i64 (0 : Int)),
 AV.sc (Value.int IntKind.i64 (0 : Int)),
 AV.sc (Value.int IntKind.i64 (0 : Int)),
 AV.sc (Value.int IntKind.u64 (0 : Int)),
 AV.sc (Value.int IntKind.u64 (0 : Int)),
 AV.sc (Value.int IntKind.u64 (0 : Int)),
 AV.sc (Value.int IntKind.u64 (0 : Int)),
 AV.sc (Value.int IntKind.i64 (0 : Int)),
 AV.sc (Value.int IntKind.i64 (0 : Int)),
 AV.sc (Value.int IntKind.i64 (0 : Int)),
 AV.sc (Value.slice none (0 : Nat) (0 : Nat)),
 AV.sc
 (Value.string
 (ByteArray.mk (Array.mk [(45 : UInt8), (45 : UInt8)]))),
 AV.sc (Value.string (ByteArray.mk (Array.mk []))),
 AV.sc (Value.slice none (0 : Nat) (0 : Nat))].length))
 Tr.leaf).node
 (some
 ((61 : Nat),
 [AV.sc
 (Value.string
 (ByteArray.mk
 (Array.mk
 [(112 : UInt8), (111 : UInt8), (115 : UInt8), (105 : UInt8),
 (120 : UInt8)]))),
 AV.sl wEls (0 : Nat),
 AV.sc (Value.string (ByteArray.mk (Array.mk wLow))),
 AV.sc (Value.string (ByteArray.mk (Array.mk wUp))),
 AV.sc (Value.slice none (0 : Nat) (0 : Nat)),
 AV.sc (Value.slice none (0 : Nat) (0 : Nat))].length))
 Tr.leaf).node
 none (Tr.leaf.node (some ((108 : Nat), (13 : Nat))) Tr.leaf)))
 x_1 →
 JoinOk (List.map strEl x_1)
 (List.map byteD [[AV.sc (Value.int IntKind.u8 (↑c.toNat : Int))]]) ∧
 ∀ (x_2 : List UInt8),
 IsJoin x_2 (List.map strEl x_1)
 (List.map byteD [[AV.sc (Value.int IntKind.u8 (↑c.toNat : Int))]]) →
 iteP (decide (x_2 ≠ s)) (K (AV.sc (Value.bool false)))
 (iteP (decide (k < (1 : Int))) (K (AV.sc (Value.bool false)))
 (iteP (decide ((1024 : Int) < k)) (K (AV.sc (Value.bool false)))
 (iteP
 (decide ((0 : Int) ≤ max k (↑(List.map strEl x).length : Int)) &&
 decide
 (max k (↑(List.map strEl x).length : Int) ≤
 max k (↑(List.map strEl x).length : Int)) &&
 decide
 (max k (↑(List.map strEl x).length : Int) ≤
 (140737488355328 : Int)) &&
 ((max k (↑(List.map strEl x).length : Int)).toNat * (16 : Nat)).ble
 (140737488355328 : Nat))
 (iteP ((max k (↑(List.map strEl x).length : Int)).toNat.beq (0 : Nat))
 False
 (iteP
 ((List.map strEl x).all fun (e : List AV) => e.length.beq (1 : Nat))
 (iteP
 (fitC
 (repC (max k (↑(List.map strEl x).length : Int))
 (AV.sc (Value.string (ByteArray.mk (Array.mk [])))))
 (0 : Nat)
 (flatC (List.map strEl x)
 (max k (↑(List.map strEl x).length : Int)).toNat))
 (iteP
 (flatC (List.map strEl x)
 (max k (↑(List.map strEl x).length : Int)).toNat).isEmpty
 (iteP
 (inRange (IntKind.i64.wrap (k - (1 : Int)))
 (max k (↑(List.map strEl x).length : Int)).toNat)
 (iteP
 (ltLen
 ((0 : Nat) +
 (IntKind.i64.wrap (k - (1 : Int))).toNat * (1 : Nat))
 (repC (max k (↑(List.map strEl x).length : Int))
 (AV.sc (Value.string (ByteArray.mk (Array.mk []))))))
 (loopAt Tryz.prog (49 : Nat) (4 : Nat) =
 loopAt Tryz.prog (49 : Nat) (4 : Nat) ∧
 (I49 (5 : Nat)
 (max k (↑(List.map strEl x).length : Int)).toNat
 (0 : Int) (0 : Int)
 (Heap.mk (6 : Nat)
 (((Tr.leaf.node
 (some
 (AObj.cells
 [AV.sc
 (Value.string
 (ByteArray.mk
 (Array.mk
 (List.map byteD
 [[AV.sc
 (Value.int
 IntKind.u8
 (↑c.toNat :
 Int))]])))),
 AV.sc
 (Value.string
 (ByteArray.mk (Array.mk []))),
 AV.sc
 (Value.int IntKind.i64
 (0 : Int)),
 AV.sc
 (Value.int IntKind.i64
 (0 : Int)),
 AV.sc
 (Value.int IntKind.i64
 (0 : Int)),
 AV.sc
 (Value.int IntKind.u64
 (0 : Int)),
 AV.sc
 (Value.int IntKind.u64
 (0 : Int)),
 AV.sc
 (Value.int IntKind.u64
 (0 : Int)),
 AV.sc
 (Value.int IntKind.u64
 (0 : Int)),
 AV.sc
 (Value.int IntKind.i64
 (0 : Int)),
 AV.sc
 (Value.int IntKind.i64
 (0 : Int)),
 AV.sc
 (Value.int IntKind.i64
 (0 : Int)),
 AV.sc
 (Value.slice none (0 : Nat)
 (0 : Nat)),
 AV.sc
 (Value.string
 (ByteArray.mk
 (Array.mk
 [(45 : UInt8),
 (45 : UInt8)]))),
 AV.sc
 (Value.string
 (ByteArray.mk (Array.mk s))),
 AV.sl (List.map strEl x)
 (0 : Nat)]))
 Tr.leaf).node
 (some
 (AObj.cells
 [AV.sc
 (Value.string
 (ByteArray.mk
 (Array.mk
 [(112 : UInt8), (111 : UInt8),
 (115 : UInt8),
 (105 : UInt8),
 (120 : UInt8)]))),
 AV.sl wEls (0 : Nat),
 AV.sc
 (Value.string
 (ByteArray.mk (Array.mk wLow))),
 AV.sc
 (Value.string
 (ByteArray.mk (Array.mk wUp))),
 AV.sc
 (Value.slice none (0 : Nat)
 (0 : Nat)),
 AV.sc
 (Value.slice none (0 : Nat)
 (0 : Nat))]))
 (Tr.leaf.node
 (some
 (AObj.cells
 (setC
 (repC
 (max k
 (↑(List.map strEl x).length :
 Int))
 (AV.sc
 (Value.string
 (ByteArray.mk
 (Array.mk [])))))
 ((0 : Nat) +
 (IntKind.i64.wrap
 (k - (1 : Int))).toNat *
 (1 : Nat))
 (AV.sc
 (Value.string
 (ByteArray.mk (Array.mk t)))))))
 Tr.leaf)).node
 none
 ((Tr.leaf.node
 (some
 (AObj.own (1 : Nat) (9 : Nat)
 x_1.length))
 Tr.leaf).node
 (some
 (AObj.cells
 [AV.sc
 (Value.string
 (ByteArray.mk
 (Array.mk
 (List.map byteD
 [[AV.sc
 (Value.int IntKind.u8
 (↑c.toNat :
 Int))]])))),
 AV.sc
 (Value.string
 (ByteArray.mk (Array.mk []))),
 AV.sc (Value.int IntKind.i64 (0 : Int)),
 AV.sc (Value.int IntKind.i64 (0 : Int)),
 AV.sc (Value.int IntKind.i64 (0 : Int)),
 AV.sc (Value.int IntKind.u64 (0 : Int)),
 AV.sc (Value.int IntKind.u64 (0 : Int)),
 AV.sc (Value.int IntKind.u64 (0 : Int)),
 AV.sc (Value.int IntKind.u64 (0 : Int)),
 AV.sc (Value.int IntKind.i64 (0 : Int)),
 AV.sc (Value.int IntKind.i64 (0 : Int)),
 AV.sc (Value.int IntKind.i64 (0 : Int)),
 AV.sc
 (Value.slice none (0 : Nat)
 (0 : Nat))]))
 Tr.leaf))
 (0 : Nat)
 (((Tr.leaf.node
 (some
 ((112 : Nat),
 [AV.sc
 (Value.string
 (ByteArray.mk
 (Array.mk
 (List.map byteD
 [[AV.sc
 (Value.int
 IntKind.u8
 (↑c.toNat :
 Int))]])))),
 AV.sc
 (Value.string
 (ByteArray.mk
 (Array.mk []))),
 AV.sc
 (Value.int IntKind.i64
 (0 : Int)),
 AV.sc
 (Value.int IntKind.i64
 (0 : Int)),
 AV.sc
 (Value.int IntKind.i64
 (0 : Int)),
 AV.sc
 (Value.int IntKind.u64
 (0 : Int)),
 AV.sc
 (Value.int IntKind.u64
 (0 : Int)),
 AV.sc
 (Value.int IntKind.u64
 (0 : Int)),
 AV.sc
 (Value.int IntKind.u64
 (0 : Int)),
 AV.sc
 (Value.int IntKind.i64
 (0 : Int)),
 AV.sc
 (Value.int IntKind.i64
 (0 : Int)),
 AV.sc
 (Value.int IntKind.i64
 (0 : Int)),
 AV.sc
 (Value.slice none (0 : Nat)
 (0 : Nat)),
 AV.sc
 (Value.string
 (ByteArray.mk
 (Array.mk
 [(45 : UInt8),
 (45 : UInt8)]))),
 AV.sc
 (Value.string
 (ByteArray.mk
 (Array.mk []))),
 AV.sc
 (Value.slice none (0 : Nat)
 (0 : Nat))].length))
 Tr.leaf).node
 (some
 ((61 : Nat),
 [AV.sc
 (Value.string
 (ByteArray.mk
 (Array.mk
 [(112 : UInt8),
 (111 : UInt8),
 (115 : UInt8),
 (105 : UInt8),
 (120 : UInt8)]))),
 AV.sl wEls (0 : Nat),
 AV.sc
 (Value.string
 (ByteArray.mk (Array.mk wLow))),
 AV.sc
 (Value.string
 (ByteArray.mk (Array.mk wUp))),
 AV.sc
 (Value.slice none (0 : Nat)
 (0 : Nat)),
 AV.sc
 (Value.slice none (0 : Nat)
 (0 : Nat))].length))
 Tr.leaf).node
 none
 (Tr.leaf.node (some ((108 : Nat), (13 : Nat)))
 Tr.leaf))) =
 I49 (5 : Nat)
 (max k (↑(List.map strEl x).length : Int)).toNat
 (0 : Int) (0 : Int)
 (Heap.mk (6 : Nat)
 (((Tr.leaf.node
 (some
 (AObj.cells
 [AV.sc
 (Value.string
 (ByteArray.mk
 (Array.mk
 (List.map byteD
 [[AV.sc
 (Value.int
 IntKind.u8
 (↑c.toNat :
 Int))]])))),
 AV.sc
 (Value.string
 (ByteArray.mk (Array.mk []))),
 AV.sc
 (Value.int IntKind.i64
 (0 : Int)),
 AV.sc
 (Value.int IntKind.i64
 (0 : Int)),
 AV.sc
 (Value.int IntKind.i64
 (0 : Int)),
 AV.sc
 (Value.int IntKind.u64
 (0 : Int)),
 AV.sc
 (Value.int IntKind.u64
 (0 : Int)),
 AV.sc
 (Value.int IntKind.u64
 (0 : Int)),
 AV.sc
 (Value.int IntKind.u64
 (0 : Int)),
 AV.sc
 (Value.int IntKind.i64
 (0 : Int)),
 AV.sc
 (Value.int IntKind.i64
 (0 : Int)),
 AV.sc
 (Value.int IntKind.i64
 (0 : Int)),
 AV.sc
 (Value.slice none (0 : Nat)
 (0 : Nat)),
 AV.sc
 (Value.string
 (ByteArray.mk
 (Array.mk
 [(45 : UInt8),
 (45 : UInt8)]))),
 AV.sc
 (Value.string
 (ByteArray.mk (Array.mk s))),
 AV.sl (List.map strEl x)
 (0 : Nat)]))
 Tr.leaf).node
 (some
 (AObj.cells
 [AV.sc
 (Value.string
 (ByteArray.mk
 (Array.mk
 [(112 : UInt8), (111 : UInt8),
 (115 : UInt8),
 (105 : UInt8),
 (120 : UInt8)]))),
 AV.sl wEls (0 : Nat),
 AV.sc
 (Value.string
 (ByteArray.mk (Array.mk wLow))),
 AV.sc
 (Value.string
 (ByteArray.mk (Array.mk wUp))),
 AV.sc
 (Value.slice none (0 : Nat)
 (0 : Nat)),
 AV.sc
 (Value.slice none (0 : Nat)
 (0 : Nat))]))
 (Tr.leaf.node
 (some
 (AObj.cells
 (setC
 (repC
 (max k
 (↑(List.map strEl x).length :
 Int))
 (AV.sc
 (Value.string
 (ByteArray.mk
 (Array.mk [])))))
 ((0 : Nat) +
 (IntKind.i64.wrap
 (k - (1 : Int))).toNat *
 (1 : Nat))
 (AV.sc
 (Value.string
 (ByteArray.mk (Array.mk t)))))))
 Tr.leaf)).node
 none
 ((Tr.leaf.node
 (some
 (AObj.own (1 : Nat) (9 : Nat)
 x_1.length))
 Tr.leaf).node
 (some
 (AObj.cells
 [AV.sc
 (Value.string
 (ByteArray.mk
 (Array.mk
 (List.map byteD
 [[AV.sc
 (Value.int IntKind.u8
 (↑c.toNat :
 Int))]])))),
 AV.sc
 (Value.string
 (ByteArray.mk (Array.mk []))),
 AV.sc (Value.int IntKind.i64 (0 : Int)),
 AV.sc (Value.int IntKind.i64 (0 : Int)),
 AV.sc (Value.int IntKind.i64 (0 : Int)),
 AV.sc (Value.int IntKind.u64 (0 : Int)),
 AV.sc (Value.int IntKind.u64 (0 : Int)),
 AV.sc (Value.int IntKind.u64 (0 : Int)),
 AV.sc (Value.int IntKind.u64 (0 : Int)),
 AV.sc (Value.int IntKind.i64 (0 : Int)),
 AV.sc (Value.int IntKind.i64 (0 : Int)),
 AV.sc (Value.int IntKind.i64 (0 : Int)),
 AV.sc
 (Value.slice none (0 : Nat)
 (0 : Nat))]))
 Tr.leaf))
 (0 : Nat)
 (((Tr.leaf.node
 (some
 ((112 : Nat),
 [AV.sc
 (Value.string
 (ByteArray.mk
 (Array.mk
 (List.map byteD
 [[AV.sc
 (Value.int
 IntKind.u8
 (↑c.toNat :
 Int))]])))),
 AV.sc
 (Value.string
 (ByteArray.mk
 (Array.mk []))),
 AV.sc
 (Value.int IntKind.i64
 (0 : Int)),
 AV.sc
 (Value.int IntKind.i64
 (0 : Int)),
 AV.sc
 (Value.int IntKind.i64
 (0 : Int)),
 AV.sc
 (Value.int IntKind.u64
 (0 : Int)),
 AV.sc
 (Value.int IntKind.u64
 (0 : Int)),
 AV.sc
 (Value.int IntKind.u64
 (0 : Int)),
 AV.sc
 (Value.int IntKind.u64
 (0 : Int)),
 AV.sc
 (Value.int IntKind.i64
 (0 : Int)),
 AV.sc
 (Value.int IntKind.i64
 (0 : Int)),
 AV.sc
 (Value.int IntKind.i64
 (0 : Int)),
 AV.sc
 (Value.slice none (0 : Nat)
 (0 : Nat)),
 AV.sc
 (Value.string
 (ByteArray.mk
 (Array.mk
 [(45 : UInt8),
 (45 : UInt8)]))),
 AV.sc
 (Value.string
 (ByteArray.mk
 (Array.mk []))),
 AV.sc
 (Value.slice none (0 : Nat)
 (0 : Nat))].length))
 Tr.leaf).node
 (some
 ((61 : Nat),
 [AV.sc
 (Value.string
 (ByteArray.mk
 (Array.mk
 [(112 : UInt8),
 (111 : UInt8),
 (115 : UInt8),
 (105 : UInt8),
 (120 : UInt8)]))),
 AV.sl wEls (0 : Nat),
 AV.sc
 (Value.string
 (ByteArray.mk (Array.mk wLow))),
 AV.sc
 (Value.string
 (ByteArray.mk (Array.mk wUp))),
 AV.sc
 (Value.slice none (0 : Nat)
 (0 : Nat)),
 AV.sc
 (Value.slice none (0 : Nat)
 (0 : Nat))].length))
 Tr.leaf).node
 none
 (Tr.leaf.node (some ((108 : Nat), (13 : Nat)))
 Tr.leaf))) ∧
 Whole
 (Heap.mk (6 : Nat)
 (((Tr.leaf.node
 (some
 (AObj.cells
 [AV.sc
 (Value.string
 (ByteArray.mk
 (Array.mk
 (List.map byteD
 [[AV.sc
 (Value.int
 IntKind.u8
 (↑c.toNat :
 Int))]])))),
 AV.sc
 (Value.string
 (ByteArray.mk (Array.mk []))),
 AV.sc
 (Value.int IntKind.i64 (0 : Int)),
 AV.sc
 (Value.int IntKind.i64 (0 : Int)),
 AV.sc
 (Value.int IntKind.i64 (0 : Int)),
 AV.sc
 (Value.int IntKind.u64 (0 : Int)),
 AV.sc
 (Value.int IntKind.u64 (0 : Int)),
 AV.sc
 (Value.int IntKind.u64 (0 : Int)),
 AV.sc
 (Value.int IntKind.u64 (0 : Int)),
 AV.sc
 (Value.int IntKind.i64 (0 : Int)),
 AV.sc
 (Value.int IntKind.i64 (0 : Int)),
 AV.sc
 (Value.int IntKind.i64 (0 : Int)),
 AV.sc
 (Value.slice none (0 : Nat)
 (0 : Nat)),
 AV.sc
 (Value.string
 (ByteArray.mk
 (Array.mk
 [(45 : UInt8),
 (45 : UInt8)]))),
 AV.sc
 (Value.string
 (ByteArray.mk (Array.mk s))),
 AV.sl (List.map strEl x)
 (0 : Nat)]))
 Tr.leaf).node
 (some
 (AObj.cells
 [AV.sc
 (Value.string
 (ByteArray.mk
 (Array.mk
 [(112 : UInt8), (111 : UInt8),
 (115 : UInt8), (105 : UInt8),
 (120 : UInt8)]))),
 AV.sl wEls (0 : Nat),
 AV.sc
 (Value.string
 (ByteArray.mk (Array.mk wLow))),
 AV.sc
 (Value.string
 (ByteArray.mk (Array.mk wUp))),
 AV.sc
 (Value.slice none (0 : Nat)
 (0 : Nat)),
 AV.sc
 (Value.slice none (0 : Nat)
 (0 : Nat))]))
 (Tr.leaf.node
 (some
 (AObj.cells
 (setC
 (repC
 (max k
 (↑(List.map strEl x).length :
 Int))
 (AV.sc
 (Value.string
 (ByteArray.mk (Array.mk [])))))
 ((0 : Nat) +
 (IntKind.i64.wrap
 (k - (1 : Int))).toNat *
 (1 : Nat))
 (AV.sc
 (Value.string
 (ByteArray.mk (Array.mk t)))))))
 Tr.leaf)).node
 none
 ((Tr.leaf.node
 (some
 (AObj.own (1 : Nat) (9 : Nat) x_1.length))
 Tr.leaf).node
 (some
 (AObj.cells
 [AV.sc
 (Value.string
 (ByteArray.mk
 (Array.mk
 (List.map byteD
 [[AV.sc
 (Value.int IntKind.u8
 (↑c.toNat : Int))]])))),
 AV.sc
 (Value.string
 (ByteArray.mk (Array.mk []))),
 AV.sc (Value.int IntKind.i64 (0 : Int)),
 AV.sc (Value.int IntKind.i64 (0 : Int)),
 AV.sc (Value.int IntKind.i64 (0 : Int)),
 AV.sc (Value.int IntKind.u64 (0 : Int)),
 AV.sc (Value.int IntKind.u64 (0 : Int)),
 AV.sc (Value.int IntKind.u64 (0 : Int)),
 AV.sc (Value.int IntKind.u64 (0 : Int)),
 AV.sc (Value.int IntKind.i64 (0 : Int)),
 AV.sc (Value.int IntKind.i64 (0 : Int)),
 AV.sc (Value.int IntKind.i64 (0 : Int)),
 AV.sc
 (Value.slice none (0 : Nat)
 (0 : Nat))]))
 Tr.leaf))
 (0 : Nat)
 (((Tr.leaf.node
 (some
 ((112 : Nat),
 [AV.sc
 (Value.string
 (ByteArray.mk
 (Array.mk
 (List.map byteD
 [[AV.sc
 (Value.int
 IntKind.u8
 (↑c.toNat :
 Int))]])))),
 AV.sc
 (Value.string
 (ByteArray.mk (Array.mk []))),
 AV.sc
 (Value.int IntKind.i64
 (0 : Int)),
 AV.sc
 (Value.int IntKind.i64
 (0 : Int)),
 AV.sc
 (Value.int IntKind.i64
 (0 : Int)),
 AV.sc
 (Value.int IntKind.u64
 (0 : Int)),
 AV.sc
 (Value.int IntKind.u64
 (0 : Int)),
 AV.sc
 (Value.int IntKind.u64
 (0 : Int)),
 AV.sc
 (Value.int IntKind.u64
 (0 : Int)),
 AV.sc
 (Value.int IntKind.i64
 (0 : Int)),
 AV.sc
 (Value.int IntKind.i64
 (0 : Int)),
 AV.sc
 (Value.int IntKind.i64
 (0 : Int)),
 AV.sc
 (Value.slice none (0 : Nat)
 (0 : Nat)),
 AV.sc
 (Value.string
 (ByteArray.mk
 (Array.mk
 [(45 : UInt8),
 (45 : UInt8)]))),
 AV.sc
 (Value.string
 (ByteArray.mk (Array.mk []))),
 AV.sc
 (Value.slice none (0 : Nat)
 (0 : Nat))].length))
 Tr.leaf).node
 (some
 ((61 : Nat),
 [AV.sc
 (Value.string
 (ByteArray.mk
 (Array.mk
 [(112 : UInt8), (111 : UInt8),
 (115 : UInt8),
 (105 : UInt8),
 (120 : UInt8)]))),
 AV.sl wEls (0 : Nat),
 AV.sc
 (Value.string
 (ByteArray.mk (Array.mk wLow))),
 AV.sc
 (Value.string
 (ByteArray.mk (Array.mk wUp))),
 AV.sc
 (Value.slice none (0 : Nat)
 (0 : Nat)),
 AV.sc
 (Value.slice none (0 : Nat)
 (0 : Nat))].length))
 Tr.leaf).node
 none
 (Tr.leaf.node (some ((108 : Nat), (13 : Nat)))
 Tr.leaf)))
 (5 : Nat)
 (max k (↑(List.map strEl x).length : Int)).toNat) ∧
 ∀ (_ : Unit),
 True →
 RowOk
 (Heap.mk (6 : Nat)
 (((Tr.leaf.node
 (some
 (AObj.cells
 [AV.sc
 (Value.string
 (ByteArray.mk
 (Array.mk
 (List.map byteD
 [[AV.sc
 (Value.int
 IntKind.u8
 (↑c.toNat :
 Int))]])))),
 AV.sc
 (Value.string
 (ByteArray.mk
 (Array.mk []))),
 AV.sc
 (Value.int IntKind.i64
 (0 : Int)),
 AV.sc
 (Value.int IntKind.i64
 (0 : Int)),
 AV.sc
 (Value.int IntKind.i64
 (0 : Int)),
 AV.sc
 (Value.int IntKind.u64
 (0 : Int)),
 AV.sc
 (Value.int IntKind.u64
 (0 : Int)),
 AV.sc
 (Value.int IntKind.u64
 (0 : Int)),
 AV.sc
 (Value.int IntKind.u64
 (0 : Int)),
 AV.sc
 (Value.int IntKind.i64
 (0 : Int)),
 AV.sc
 (Value.int IntKind.i64
 (0 : Int)),
 AV.sc
 (Value.int IntKind.i64
 (0 : Int)),
 AV.sc
 (Value.slice none (0 : Nat)
 (0 : Nat)),
 AV.sc
 (Value.string
 (ByteArray.mk
 (Array.mk
 [(45 : UInt8),
 (45 : UInt8)]))),
 AV.sc
 (Value.string
 (ByteArray.mk
 (Array.mk s))),
 AV.sl (List.map strEl x)
 (0 : Nat)]))
 Tr.leaf).node
 (some
 (AObj.cells
 [AV.sc
 (Value.string
 (ByteArray.mk
 (Array.mk
 [(112 : UInt8),
 (111 : UInt8),
 (115 : UInt8),
 (105 : UInt8),
 (120 : UInt8)]))),
 AV.sl wEls (0 : Nat),
 AV.sc
 (Value.string
 (ByteArray.mk (Array.mk wLow))),
 AV.sc
 (Value.string
 (ByteArray.mk (Array.mk wUp))),
 AV.sc
 (Value.slice none (0 : Nat)
 (0 : Nat)),
 AV.sc
 (Value.slice none (0 : Nat)
 (0 : Nat))]))
 (Tr.leaf.node
 (some
 (AObj.cells
 (setC
 (repC
 (max k
 (↑(List.map strEl x).length :
 Int))
 (AV.sc
 (Value.string
 (ByteArray.mk
 (Array.mk [])))))
 ((0 : Nat) +
 (IntKind.i64.wrap
 (k - (1 : Int))).toNat *
 (1 : Nat))
 (AV.sc
 (Value.string
 (ByteArray.mk
 (Array.mk t)))))))
 Tr.leaf)).node
 none
 ((Tr.leaf.node
 (some
 (AObj.own (1 : Nat) (9 : Nat)
 x_1.length))
 Tr.leaf).node
 (some
 (AObj.cells
 [AV.sc
 (Value.string
 (ByteArray.mk
 (Array.mk
 (List.map byteD
 [[AV.sc
 (Value.int IntKind.u8
 (↑c.toNat :
 Int))]])))),
 AV.sc
 (Value.string
 (ByteArray.mk (Array.mk []))),
 AV.sc
 (Value.int IntKind.i64 (0 : Int)),
 AV.sc
 (Value.int IntKind.i64 (0 : Int)),
 AV.sc
 (Value.int IntKind.i64 (0 : Int)),
 AV.sc
 (Value.int IntKind.u64 (0 : Int)),
 AV.sc
 (Value.int IntKind.u64 (0 : Int)),
 AV.sc
 (Value.int IntKind.u64 (0 : Int)),
 AV.sc
 (Value.int IntKind.u64 (0 : Int)),
 AV.sc
 (Value.int IntKind.i64 (0 : Int)),
 AV.sc
 (Value.int IntKind.i64 (0 : Int)),
 AV.sc
 (Value.int IntKind.i64 (0 : Int)),
 AV.sc
 (Value.slice none (0 : Nat)
 (0 : Nat))]))
 Tr.leaf))
 (0 : Nat)
 (((Tr.leaf.node
 (some
 ((112 : Nat),
 [AV.sc
 (Value.string
 (ByteArray.mk
 (Array.mk
 (List.map byteD
 [[AV.sc
 (Value.int
 IntKind.u8
 (↑c.toNat :
 Int))]])))),
 AV.sc
 (Value.string
 (ByteArray.mk
 (Array.mk []))),
 AV.sc
 (Value.int IntKind.i64
 (0 : Int)),
 AV.sc
 (Value.int IntKind.i64
 (0 : Int)),
 AV.sc
 (Value.int IntKind.i64
 (0 : Int)),
 AV.sc
 (Value.int IntKind.u64
 (0 : Int)),
 AV.sc
 (Value.int IntKind.u64
 (0 : Int)),
 AV.sc
 (Value.int IntKind.u64
 (0 : Int)),
 AV.sc
 (Value.int IntKind.u64
 (0 : Int)),
 AV.sc
 (Value.int IntKind.i64
 (0 : Int)),
 AV.sc
 (Value.int IntKind.i64
 (0 : Int)),
 AV.sc
 (Value.int IntKind.i64
 (0 : Int)),
 AV.sc
 (Value.slice none (0 : Nat)
 (0 : Nat)),
 AV.sc
 (Value.string
 (ByteArray.mk
 (Array.mk
 [(45 : UInt8),
 (45 : UInt8)]))),
 AV.sc
 (Value.string
 (ByteArray.mk
 (Array.mk []))),
 AV.sc
 (Value.slice none (0 : Nat)
 (0 : Nat))].length))
 Tr.leaf).node
 (some
 ((61 : Nat),
 [AV.sc
 (Value.string
 (ByteArray.mk
 (Array.mk
 [(112 : UInt8),
 (111 : UInt8),
 (115 : UInt8),
 (105 : UInt8),
 (120 : UInt8)]))),
 AV.sl wEls (0 : Nat),
 AV.sc
 (Value.string
 (ByteArray.mk
 (Array.mk wLow))),
 AV.sc
 (Value.string
 (ByteArray.mk
 (Array.mk wUp))),
 AV.sc
 (Value.slice none (0 : Nat)
 (0 : Nat)),
 AV.sc
 (Value.slice none (0 : Nat)
 (0 : Nat))].length))
 Tr.leaf).node
 none
 (Tr.leaf.node (some ((108 : Nat), (13 : Nat)))
 Tr.leaf)))
 (5 : Nat)
 (max k (↑(List.map strEl x).length : Int)).toNat
 [(45 : UInt8), (45 : UInt8)] ∧
 ∀ (x_4 : List UInt8),
 RowJoin
 (Heap.mk (6 : Nat)
 (((Tr.leaf.node
 (some
 (AObj.cells
 [AV.sc
 (Value.string
 (ByteArray.mk
 (Array.mk
 (List.map byteD
 [[AV.sc
 (Value.int
 IntKind.u8
 (↑c.toNat :
 Int))]])))),
 AV.sc
 (Value.string
 (ByteArray.mk
 (Array.mk []))),
 AV.sc
 (Value.int IntKind.i64
 (0 : Int)),
 AV.sc
 (Value.int IntKind.i64
 (0 : Int)),
 AV.sc
 (Value.int IntKind.i64
 (0 : Int)),
 AV.sc
 (Value.int IntKind.u64
 (0 : Int)),
 AV.sc
 (Value.int IntKind.u64
 (0 : Int)),
 AV.sc
 (Value.int IntKind.u64
 (0 : Int)),
 AV.sc
 (Value.int IntKind.u64
 (0 : Int)),
 AV.sc
 (Value.int IntKind.i64
 (0 : Int)),
 AV.sc
 (Value.int IntKind.i64
 (0 : Int)),
 AV.sc
 (Value.int IntKind.i64
 (0 : Int)),
 AV.sc
 (Value.slice none
 (0 : Nat) (0 : Nat)),
 AV.sc
 (Value.string
 (ByteArray.mk
 (Array.mk
 [(45 : UInt8),
 (45 : UInt8)]))),
 AV.sc
 (Value.string
 (ByteArray.mk
 (Array.mk s))),
 AV.sl (List.map strEl x)
 (0 : Nat)]))
 Tr.leaf).node
 (some
 (AObj.cells
 [AV.sc
 (Value.string
 (ByteArray.mk
 (Array.mk
 [(112 : UInt8),
 (111 : UInt8),
 (115 : UInt8),
 (105 : UInt8),
 (120 : UInt8)]))),
 AV.sl wEls (0 : Nat),
 AV.sc
 (Value.string
 (ByteArray.mk
 (Array.mk wLow))),
 AV.sc
 (Value.string
 (ByteArray.mk
 (Array.mk wUp))),
 AV.sc
 (Value.slice none (0 : Nat)
 (0 : Nat)),
 AV.sc
 (Value.slice none (0 : Nat)
 (0 : Nat))]))
 (Tr.leaf.node
 (some
 (AObj.cells
 (setC
 (repC
 (max k
 (↑(List.map strEl
 x).length :
 Int))
 (AV.sc
 (Value.string
 (ByteArray.mk
 (Array.mk [])))))
 ((0 : Nat) +
 (IntKind.i64.wrap
 (k -
 (1 : Int))).toNat *
 (1 : Nat))
 (AV.sc
 (Value.string
 (ByteArray.mk
 (Array.mk t)))))))
 Tr.leaf)).node
 none
 ((Tr.leaf.node
 (some
 (AObj.own (1 : Nat) (9 : Nat)
 x_1.length))
 Tr.leaf).node
 (some
 (AObj.cells
 [AV.sc
 (Value.string
 (ByteArray.mk
 (Array.mk
 (List.map byteD
 [[AV.sc
 (Value.int
 IntKind.u8
 (↑c.toNat :
 Int))]])))),
 AV.sc
 (Value.string
 (ByteArray.mk (Array.mk []))),
 AV.sc
 (Value.int IntKind.i64
 (0 : Int)),
 AV.sc
 (Value.int IntKind.i64
 (0 : Int)),
 AV.sc
 (Value.int IntKind.i64
 (0 : Int)),
 AV.sc
 (Value.int IntKind.u64
 (0 : Int)),
 AV.sc
 (Value.int IntKind.u64
 (0 : Int)),
 AV.sc
 (Value.int IntKind.u64
 (0 : Int)),
 AV.sc
 (Value.int IntKind.u64
 (0 : Int)),
 AV.sc
 (Value.int IntKind.i64
 (0 : Int)),
 AV.sc
 (Value.int IntKind.i64
 (0 : Int)),
 AV.sc
 (Value.int IntKind.i64
 (0 : Int)),
 AV.sc
 (Value.slice none (0 : Nat)
 (0 : Nat))]))
 Tr.leaf))
 (0 : Nat)
 (((Tr.leaf.node
 (some
 ((112 : Nat),
 [AV.sc
 (Value.string
 (ByteArray.mk
 (Array.mk
 (List.map byteD
 [[AV.sc
 (Value.int
 IntKind.u8
 (↑c.toNat :
 Int))]])))),
 AV.sc
 (Value.string
 (ByteArray.mk
 (Array.mk []))),
 AV.sc
 (Value.int IntKind.i64
 (0 : Int)),
 AV.sc
 (Value.int IntKind.i64
 (0 : Int)),
 AV.sc
 (Value.int IntKind.i64
 (0 : Int)),
 AV.sc
 (Value.int IntKind.u64
 (0 : Int)),
 AV.sc
 (Value.int IntKind.u64
 (0 : Int)),
 AV.sc
 (Value.int IntKind.u64
 (0 : Int)),
 AV.sc
 (Value.int IntKind.u64
 (0 : Int)),
 AV.sc
 (Value.int IntKind.i64
 (0 : Int)),
 AV.sc
 (Value.int IntKind.i64
 (0 : Int)),
 AV.sc
 (Value.int IntKind.i64
 (0 : Int)),
 AV.sc
 (Value.slice none
 (0 : Nat) (0 : Nat)),
 AV.sc
 (Value.string
 (ByteArray.mk
 (Array.mk
 [(45 : UInt8),
 (45 :
 UInt8)]))),
 AV.sc
 (Value.string
 (ByteArray.mk
 (Array.mk []))),
 AV.sc
 (Value.slice none
 (0 : Nat)
 (0 : Nat))].length))
 Tr.leaf).node
 (some
 ((61 : Nat),
 [AV.sc
 (Value.string
 (ByteArray.mk
 (Array.mk
 [(112 : UInt8),
 (111 : UInt8),
 (115 : UInt8),
 (105 : UInt8),
 (120 : UInt8)]))),
 AV.sl wEls (0 : Nat),
 AV.sc
 (Value.string
 (ByteArray.mk
 (Array.mk wLow))),
 AV.sc
 (Value.string
 (ByteArray.mk
 (Array.mk wUp))),
 AV.sc
 (Value.slice none (0 : Nat)
 (0 : Nat)),
 AV.sc
 (Value.slice none (0 : Nat)
 (0 : Nat))].length))
 Tr.leaf).node
 none
 (Tr.leaf.node
 (some ((108 : Nat), (13 : Nat)))
 Tr.leaf)))
 (5 : Nat) [(45 : UInt8), (45 : UInt8)] x_4 →
 FldsOk
 (Heap.mk (6 : Nat)
 (((Tr.leaf.node
 (some
 (AObj.cells
 [AV.sc
 (Value.string
 (ByteArray.mk
 (Array.mk
 (List.map byteD
 [[AV.sc
 (Value.int
 IntKind.u8
 (↑c.toNat :
 Int))]])))),
 AV.sc
 (Value.string
 (ByteArray.mk
 (Array.mk []))),
 AV.sc
 (Value.int IntKind.i64
 (0 : Int)),
 AV.sc
 (Value.int IntKind.i64
 (0 : Int)),
 AV.sc
 (Value.int IntKind.i64
 (0 : Int)),
 AV.sc
 (Value.int IntKind.u64
 (0 : Int)),
 AV.sc
 (Value.int IntKind.u64
 (0 : Int)),
 AV.sc
 (Value.int IntKind.u64
 (0 : Int)),
 AV.sc
 (Value.int IntKind.u64
 (0 : Int)),
 AV.sc
 (Value.int IntKind.i64
 (0 : Int)),
 AV.sc
 (Value.int IntKind.i64
 (0 : Int)),
 AV.sc
 (Value.int IntKind.i64
 (0 : Int)),
 AV.sc
 (Value.slice none
 (0 : Nat) (0 : Nat)),
 AV.sc
 (Value.string
 (ByteArray.mk
 (Array.mk
 [(45 : UInt8),
 (45 :
 UInt8)]))),
 AV.sc
 (Value.string
 (ByteArray.mk
 (Array.mk x_4))),
 AV.rsl (5 : Nat) (0 : Nat)
 (max k
 (↑(List.map strEl
 x).length :
 Int)).toNat
 (1 : Nat)]))
 Tr.leaf).node
 (some
 (AObj.cells
 [AV.sc
 (Value.string
 (ByteArray.mk
 (Array.mk
 [(112 : UInt8),
 (111 : UInt8),
 (115 : UInt8),
 (105 : UInt8),
 (120 : UInt8)]))),
 AV.sl wEls (0 : Nat),
 AV.sc
 (Value.string
 (ByteArray.mk
 (Array.mk wLow))),
 AV.sc
 (Value.string
 (ByteArray.mk
 (Array.mk wUp))),
 AV.sc
 (Value.slice none (0 : Nat)
 (0 : Nat)),
 AV.sc
 (Value.slice none (0 : Nat)
 (0 : Nat))]))
 (Tr.leaf.node
 (some
 (AObj.cells
 (setC
 (repC
 (max k
 (↑(List.map strEl
 x).length :
 Int))
 (AV.sc
 (Value.string
 (ByteArray.mk
 (Array.mk [])))))
 ((0 : Nat) +
 (IntKind.i64.wrap
 (k -
 (1 :
 Int))).toNat *
 (1 : Nat))
 (AV.sc
 (Value.string
 (ByteArray.mk
 (Array.mk t)))))))
 Tr.leaf)).node
 none
 ((Tr.leaf.node
 (some
 (AObj.own (1 : Nat) (9 : Nat)
 x_1.length))
 Tr.leaf).node
 (some
 (AObj.cells
 [AV.sc
 (Value.string
 (ByteArray.mk
 (Array.mk
 (List.map byteD
 [[AV.sc
 (Value.int
 IntKind.u8
 (↑c.toNat :
 Int))]])))),
 AV.sc
 (Value.string
 (ByteArray.mk
 (Array.mk []))),
 AV.sc
 (Value.int IntKind.i64
 (0 : Int)),
 AV.sc
 (Value.int IntKind.i64
 (0 : Int)),
 AV.sc
 (Value.int IntKind.i64
 (0 : Int)),
 AV.sc
 (Value.int IntKind.u64
 (0 : Int)),
 AV.sc
 (Value.int IntKind.u64
 (0 : Int)),
 AV.sc
 (Value.int IntKind.u64
 (0 : Int)),
 AV.sc
 (Value.int IntKind.u64
 (0 : Int)),
 AV.sc
 (Value.int IntKind.i64
 (0 : Int)),
 AV.sc
 (Value.int IntKind.i64
 (0 : Int)),
 AV.sc
 (Value.int IntKind.i64
 (0 : Int)),
 AV.sc
 (Value.slice none (0 : Nat)
 (0 : Nat))]))
 Tr.leaf))
 (0 : Nat)
 (((Tr.leaf.node
 (some
 ((112 : Nat),
 [AV.sc
 (Value.string
 (ByteArray.mk
 (Array.mk
 (List.map byteD
 [[AV.sc
 (Value.int
 IntKind.u8
 (↑c.toNat :
 Int))]])))),
 AV.sc
 (Value.string
 (ByteArray.mk
 (Array.mk []))),
 AV.sc
 (Value.int IntKind.i64
 (0 : Int)),
 AV.sc
 (Value.int IntKind.i64
 (0 : Int)),
 AV.sc
 (Value.int IntKind.i64
 (0 : Int)),
 AV.sc
 (Value.int IntKind.u64
 (0 : Int)),
 AV.sc
 (Value.int IntKind.u64
 (0 : Int)),
 AV.sc
 (Value.int IntKind.u64
 (0 : Int)),
 AV.sc
 (Value.int IntKind.u64
 (0 : Int)),
 AV.sc
 (Value.int IntKind.i64
 (0 : Int)),
 AV.sc
 (Value.int IntKind.i64
 (0 : Int)),
 AV.sc
 (Value.int IntKind.i64
 (0 : Int)),
 AV.sc
 (Value.slice none
 (0 : Nat)
 (0 : Nat)),
 AV.sc
 (Value.string
 (ByteArray.mk
 (Array.mk
 [(45 : UInt8),
 (45 :
 UInt8)]))),
 AV.sc
 (Value.string
 (ByteArray.mk
 (Array.mk []))),
 AV.sc
 (Value.slice none
 (0 : Nat)
 (0 : Nat))].length))
 Tr.leaf).node
 (some
 ((61 : Nat),
 [AV.sc
 (Value.string
 (ByteArray.mk
 (Array.mk
 [(112 : UInt8),
 (111 : UInt8),
 (115 : UInt8),
 (105 : UInt8),
 (120 : UInt8)]))),
 AV.sl wEls (0 : Nat),
 AV.sc
 (Value.string
 (ByteArray.mk
 (Array.mk wLow))),
 AV.sc
 (Value.string
 (ByteArray.mk
 (Array.mk wUp))),
 AV.sc
 (Value.slice none
 (0 : Nat) (0 : Nat)),
 AV.sc
 (Value.slice none
 (0 : Nat)
 (0 : Nat))].length))
 Tr.leaf).node
 none
 (Tr.leaf.node
 (some ((108 : Nat), (13 : Nat)))
 Tr.leaf))) ∧
 ∀ (x_5 : List (List UInt8)),
 SomeFld
 (Heap.mk (6 : Nat)
 (((Tr.leaf.node
 (some
 (AObj.cells
 [AV.sc
 (Value.string
 (ByteArray.mk
 (Array.mk
 (List.map
 byteD
 [[AV.sc
 (Value.int
 IntKind.u8
 (↑c.toNat :
 Int))]])))),
 AV.sc
 (Value.string
 (ByteArray.mk
 (Array.mk []))),
 AV.sc
 (Value.int
 IntKind.i64
 (0 : Int)),
 AV.sc
 (Value.int
 IntKind.i64
 (0 : Int)),
 AV.sc
 (Value.int
 IntKind.i64
 (0 : Int)),
 AV.sc
 (Value.int
 IntKind.u64
 (0 : Int)),
 AV.sc
 (Value.int
 IntKind.u64
 (0 : Int)),
 AV.sc
 (Value.int
 IntKind.u64
 (0 : Int)),
 AV.sc
 (Value.int
 IntKind.u64
 (0 : Int)),
 AV.sc
 (Value.int
 IntKind.i64
 (0 : Int)),
 AV.sc
 (Value.int
 IntKind.i64
 (0 : Int)),
 AV.sc
 (Value.int
 IntKind.i64
 (0 : Int)),
 AV.sc
 (Value.slice none
 (0 : Nat)
 (0 : Nat)),
 AV.sc
 (Value.string
 (ByteArray.mk
 (Array.mk
 [(45 : UInt8),
 (45 :
 UInt8)]))),
 AV.sc
 (Value.string
 (ByteArray.mk
 (Array.mk
 x_4))),
 AV.rsl (5 : Nat)
 (0 : Nat)
 (max k
 (↑(List.map
 strEl
 x).length :
 Int)).toNat
 (1 : Nat)]))
 Tr.leaf).node
 (some
 (AObj.cells
 [AV.sc
 (Value.string
 (ByteArray.mk
 (Array.mk
 [(112 : UInt8),
 (111 : UInt8),
 (115 : UInt8),
 (105 : UInt8),
 (120 :
 UInt8)]))),
 AV.sl wEls (0 : Nat),
 AV.sc
 (Value.string
 (ByteArray.mk
 (Array.mk wLow))),
 AV.sc
 (Value.string
 (ByteArray.mk
 (Array.mk wUp))),
 AV.sc
 (Value.slice none
 (0 : Nat) (0 : Nat)),
 AV.sc
 (Value.slice none
 (0 : Nat)
 (0 : Nat))]))
 (Tr.leaf.node
 (some
 (AObj.cells
 (setC
 (repC
 (max k
 (↑(List.map strEl
 x).length :
 Int))
 (AV.sc
 (Value.string
 (ByteArray.mk
 (Array.mk
 [])))))
 ((0 : Nat) +
 (IntKind.i64.wrap
 (k -
 (1 :
 Int))).toNat *
 (1 : Nat))
 (AV.sc
 (Value.string
 (ByteArray.mk
 (Array.mk t)))))))
 Tr.leaf)).node
 none
 ((Tr.leaf.node
 (some
 (AObj.own (1 : Nat)
 (9 : Nat) x_1.length))
 Tr.leaf).node
 (some
 (AObj.cells
 [AV.sc
 (Value.string
 (ByteArray.mk
 (Array.mk
 (List.map byteD
 [[AV.sc
 (Value.int
 IntKind.u8
 (↑c.toNat :
 Int))]])))),
 AV.sc
 (Value.string
 (ByteArray.mk
 (Array.mk []))),
 AV.sc
 (Value.int IntKind.i64
 (0 : Int)),
 AV.sc
 (Value.int IntKind.i64
 (0 : Int)),
 AV.sc
 (Value.int IntKind.i64
 (0 : Int)),
 AV.sc
 (Value.int IntKind.u64
 (0 : Int)),
 AV.sc
 (Value.int IntKind.u64
 (0 : Int)),
 AV.sc
 (Value.int IntKind.u64
 (0 : Int)),
 AV.sc
 (Value.int IntKind.u64
 (0 : Int)),
 AV.sc
 (Value.int IntKind.i64
 (0 : Int)),
 AV.sc
 (Value.int IntKind.i64
 (0 : Int)),
 AV.sc
 (Value.int IntKind.i64
 (0 : Int)),
 AV.sc
 (Value.slice none
 (0 : Nat) (0 : Nat))]))
 Tr.leaf))
 (0 : Nat)
 (((Tr.leaf.node
 (some
 ((112 : Nat),
 [AV.sc
 (Value.string
 (ByteArray.mk
 (Array.mk
 (List.map
 byteD
 [[AV.sc
 (Value.int
 IntKind.u8
 (↑c.toNat :
 Int))]])))),
 AV.sc
 (Value.string
 (ByteArray.mk
 (Array.mk
 []))),
 AV.sc
 (Value.int
 IntKind.i64
 (0 : Int)),
 AV.sc
 (Value.int
 IntKind.i64
 (0 : Int)),
 AV.sc
 (Value.int
 IntKind.i64
 (0 : Int)),
 AV.sc
 (Value.int
 IntKind.u64
 (0 : Int)),
 AV.sc
 (Value.int
 IntKind.u64
 (0 : Int)),
 AV.sc
 (Value.int
 IntKind.u64
 (0 : Int)),
 AV.sc
 (Value.int
 IntKind.u64
 (0 : Int)),
 AV.sc
 (Value.int
 IntKind.i64
 (0 : Int)),
 AV.sc
 (Value.int
 IntKind.i64
 (0 : Int)),
 AV.sc
 (Value.int
 IntKind.i64
 (0 : Int)),
 AV.sc
 (Value.slice none
 (0 : Nat)
 (0 : Nat)),
 AV.sc
 (Value.string
 (ByteArray.mk
 (Array.mk
 [(45 :
 UInt8),
 (45 :
 UInt8)]))),
 AV.sc
 (Value.string
 (ByteArray.mk
 (Array.mk
 []))),
 AV.sc
 (Value.slice none
 (0 : Nat)
 (0 :
 Nat))].length))
 Tr.leaf).node
 (some
 ((61 : Nat),
 [AV.sc
 (Value.string
 (ByteArray.mk
 (Array.mk
 [(112 : UInt8),
 (111 : UInt8),
 (115 : UInt8),
 (105 : UInt8),
 (120 :
 UInt8)]))),
 AV.sl wEls (0 : Nat),
 AV.sc
 (Value.string
 (ByteArray.mk
 (Array.mk wLow))),
 AV.sc
 (Value.string
 (ByteArray.mk
 (Array.mk wUp))),
 AV.sc
 (Value.slice none
 (0 : Nat)
 (0 : Nat)),
 AV.sc
 (Value.slice none
 (0 : Nat)
 (0 : Nat))].length))
 Tr.leaf).node
 none
 (Tr.leaf.node
 (some ((108 : Nat), (13 : Nat)))
 Tr.leaf)))
 x_5 →
 iteP
 ((↑(List.map strEl x_5).length : Int) !=
 max
 (↑(List.map strEl x_1).length : Int)
 k)
 (K (AV.sc (Value.bool false)))
 (JoinOk (List.map strEl x_5)
 [(45 : UInt8), (45 : UInt8)] ∧
 ∀ (x_6 : List UInt8),
 IsJoin x_6 (List.map strEl x_5)
 [(45 : UInt8), (45 : UInt8)] →
 iteP (decide (x_4 ≠ x_6))
 (K (AV.sc (Value.bool false)))
 (iteP
 (inRange
 (IntKind.i64.wrap
 (k - (1 : Int)))
 (List.map strEl x_5).length)
 (getI
 (IntKind.i64.wrap
 (k -
 (1 : Int))).toNat
 (List.map strEl x_5) =
 some
 [AV.sc
 (Value.string
 (ByteArray.mk
 (Array.mk
 (cellStr
 (List.map
 strEl x_5)
 (IntKind.i64.wrap
 (k -
 (1 :
 Int)))
 (0 :
 Nat)))))] ∧
 iteP
 (decide
 (cellStr
 (List.map strEl x_5)
 (IntKind.i64.wrap
 (k - (1 : Int)))
 (0 : Nat) ≠
 t))
 (K
 (AV.sc
 (Value.bool false)))
 (loopAt Tryz.prog
 (8 : Nat)
 (17 : Nat) =
 loopAt Tryz.prog
 (8 : Nat)
 (17 : Nat) ∧
 (I8 op k t
 (AV.sl
 (List.map
 strEl x_1)
 ((3 : Nat) +
 (1 :
 Nat) +
 (1 : Nat)))
 (List.map strEl
 x_5)
 (7 : Nat)
 (0 : Int)
 (Heap.mk
 (7 : Nat)
 (((Tr.leaf.node
 (some
 (AObj.cells
 [AV.sc
 (Value.string
 (ByteArray.mk
 (Array.mk
 (List.map
 byteD
 [[AV.sc
 (Value.int
 IntKind.u8
 (↑c.toNat :
 Int))]])))),
 AV.sc
 (Value.string
 (ByteArray.mk
 (Array.mk
 []))),
 AV.sc
 (Value.int
 IntKind.i64
 (0 :
 Int)),
 AV.sc
 (Value.int
 IntKind.i64
 (0 :
 Int)),
 AV.sc
 (Value.int
 IntKind.i64
 (0 :
 Int)),
 AV.sc
 (Value.int
 IntKind.u64
 (0 :
 Int)),
 AV.sc
 (Value.int
 IntKind.u64
 (0 :
 Int)),
 AV.sc
 (Value.int
 IntKind.u64
 (0 :
 Int)),
 AV.sc
 (Value.int
 IntKind.u64
 (0 :
 Int)),
 AV.sc
 (Value.int
 IntKind.i64
 (0 :
 Int)),
 AV.sc
 (Value.int
 IntKind.i64
 (0 :
 Int)),
 AV.sc
 (Value.int
 IntKind.i64
 (0 :
 Int)),
 AV.sc
 (Value.slice
 none
 (0 :
 Nat)
 (0 :
 Nat)),
 AV.sc
 (Value.string
 (ByteArray.mk
 (Array.mk
 [(45 :
 UInt8),
 (45 :
 UInt8)]))),
 AV.sc
 (Value.string
 (ByteArray.mk
 (Array.mk
 x_4))),
 AV.rsl
 (5 :
 Nat)
 (0 :
 Nat)
 (max
 k
 (↑(List.map
 strEl
 x).length :
 Int)).toNat
 (1 :
 Nat)]))
 Tr.leaf).node
 (some
 (AObj.cells
 [AV.sc
 (Value.string
 (ByteArray.mk
 (Array.mk
 [(112 :
 UInt8),
 (111 :
 UInt8),
 (115 :
 UInt8),
 (105 :
 UInt8),
 (120 :
 UInt8)]))),
 AV.sl
 wEls
 (0 :
 Nat),
 AV.sc
 (Value.string
 (ByteArray.mk
 (Array.mk
 wLow))),
 AV.sc
 (Value.string
 (ByteArray.mk
 (Array.mk
 wUp))),
 AV.sc
 (Value.slice
 none
 (0 :
 Nat)
 (0 :
 Nat)),
 AV.sc
 (Value.slice
 none
 (0 :
 Nat)
 (0 :
 Nat))]))
 (Tr.leaf.node
 (some
 (AObj.cells
 (setC
 (repC
 (max
 k
 (↑(List.map
 strEl
 x).length :
 Int))
 (AV.sc
 (Value.string
 (ByteArray.mk
 (Array.mk
 [])))))
 ((0 :
 Nat) +
 (IntKind.i64.wrap
 (k -
 (1 :
 Int))).toNat *
 (1 :
 Nat))
 (AV.sc
 (Value.string
 (ByteArray.mk
 (Array.mk
 t)))))))
 Tr.leaf)).node
 none
 ((Tr.leaf.node
 (some
 (AObj.own
 (1 :
 Nat)
 (9 :
 Nat)
 x_1.length))
 Tr.leaf).node
 (some
 (AObj.cells
 [AV.sc
 (Value.string
 (ByteArray.mk
 (Array.mk
 (List.map
 byteD
 [[AV.sc
 (Value.int
 IntKind.u8
 (↑c.toNat :
 Int))]])))),
 AV.sc
 (Value.string
 (ByteArray.mk
 (Array.mk
 []))),
 AV.sc
 (Value.int
 IntKind.i64
 (0 :
 Int)),
 AV.sc
 (Value.int
 IntKind.i64
 (0 :
 Int)),
 AV.sc
 (Value.int
 IntKind.i64
 (0 :
 Int)),
 AV.sc
 (Value.int
 IntKind.u64
 (0 :
 Int)),
 AV.sc
 (Value.int
 IntKind.u64
 (0 :
 Int)),
 AV.sc
 (Value.int
 IntKind.u64
 (0 :
 Int)),
 AV.sc
 (Value.int
 IntKind.u64
 (0 :
 Int)),
 AV.sc
 (Value.int
 IntKind.i64
 (0 :
 Int)),
 AV.sc
 (Value.int
 IntKind.i64
 (0 :
 Int)),
 AV.sc
 (Value.int
 IntKind.i64
 (0 :
 Int)),
 AV.sc
 (Value.slice
 none
 (0 :
 Nat)
 (0 :
 Nat))]))
 (Tr.leaf.node
 (some
 (AObj.own
 (1 :
 Nat)
 (9 :
 Nat)
 x_5.length))
 Tr.leaf)))
 (0 : Nat)
 (((Tr.leaf.node
 (some
 ((112 :
 Nat),
 [AV.sc
 (Value.string
 (ByteArray.mk
 (Array.mk
 (List.map
 byteD
 [[AV.sc
 (Value.int
 IntKind.u8
 (↑c.toNat :
 Int))]])))),
 AV.sc
 (Value.string
 (ByteArray.mk
 (Array.mk
 []))),
 AV.sc
 (Value.int
 IntKind.i64
 (0 :
 Int)),
 AV.sc
 (Value.int
 IntKind.i64
 (0 :
 Int)),
 AV.sc
 (Value.int
 IntKind.i64
 (0 :
 Int)),
 AV.sc
 (Value.int
 IntKind.u64
 (0 :
 Int)),
 AV.sc
 (Value.int
 IntKind.u64
 (0 :
 Int)),
 AV.sc
 (Value.int
 IntKind.u64
 (0 :
 Int)),
 AV.sc
 (Value.int
 IntKind.u64
 (0 :
 Int)),
 AV.sc
 (Value.int
 IntKind.i64
 (0 :
 Int)),
 AV.sc
 (Value.int
 IntKind.i64
 (0 :
 Int)),
 AV.sc
 (Value.int
 IntKind.i64
 (0 :
 Int)),
 AV.sc
 (Value.slice
 none
 (0 :
 Nat)
 (0 :
 Nat)),
 AV.sc
 (Value.string
 (ByteArray.mk
 (Array.mk
 [(45 :
 UInt8),
 (45 :
 UInt8)]))),
 AV.sc
 (Value.string
 (ByteArray.mk
 (Array.mk
 []))),
 AV.sc
 (Value.slice
 none
 (0 :
 Nat)
 (0 :
 Nat))].length))
 Tr.leaf).node
 (some
 ((61 :
 Nat),
 [AV.sc
 (Value.string
 (ByteArray.mk
 (Array.mk
 [(112 :
 UInt8),
 (111 :
 UInt8),
 (115 :
 UInt8),
 (105 :
 UInt8),
 (120 :
 UInt8)]))),
 AV.sl
 wEls
 (0 :
 Nat),
 AV.sc
 (Value.string
 (ByteArray.mk
 (Array.mk
 wLow))),
 AV.sc
 (Value.string
 (ByteArray.mk
 (Array.mk
 wUp))),
 AV.sc
 (Value.slice
 none
 (0 :
 Nat)
 (0 :
 Nat)),
 AV.sc
 (Value.slice
 none
 (0 :
 Nat)
 (0 :
 Nat))].length))
 Tr.leaf).node
 none
 (Tr.leaf.node
 (some
 ((108 :
 Nat),
 (13 :
 Nat)))
 Tr.leaf))) =
 I8 op k t
 (AV.sl
 (List.map
 strEl x_1)
 ((3 : Nat) +
 (1 :
 Nat) +
 (1 : Nat)))
 (List.map strEl
 x_5)
 (7 : Nat)
 (0 : Int)
 (Heap.mk
 (7 : Nat)
 (((Tr.leaf.node
 (some
 (AObj.cells
 [AV.sc
 (Value.string
 (ByteArray.mk
 (Array.mk
 (List.map
 byteD
 [[AV.sc
 (Value.int
 IntKind.u8
 (↑c.toNat :
 Int))]])))),
 AV.sc
 (Value.string
 (ByteArray.mk
 (Array.mk
 []))),
 AV.sc
 (Value.int
 IntKind.i64
 (0 :
 Int)),
 AV.sc
 (Value.int
 IntKind.i64
 (0 :
 Int)),
 AV.sc
 (Value.int
 IntKind.i64
 (0 :
 Int)),
 AV.sc
 (Value.int
 IntKind.u64
 (0 :
 Int)),
 AV.sc
 (Value.int
 IntKind.u64
 (0 :
 Int)),
 AV.sc
 (Value.int
 IntKind.u64
 (0 :
 Int)),
 AV.sc
 (Value.int
 IntKind.u64
 (0 :
 Int)),
 AV.sc
 (Value.int
 IntKind.i64
 (0 :
 Int)),
 AV.sc
 (Value.int
 IntKind.i64
 (0 :
 Int)),
 AV.sc
 (Value.int
 IntKind.i64
 (0 :
 Int)),
 AV.sc
 (Value.slice
 none
 (0 :
 Nat)
 (0 :
 Nat)),
 AV.sc
 (Value.string
 (ByteArray.mk
 (Array.mk
 [(45 :
 UInt8),
 (45 :
 UInt8)]))),
 AV.sc
 (Value.string
 (ByteArray.mk
 (Array.mk
 x_4))),
 AV.rsl
 (5 :
 Nat)
 (0 :
 Nat)
 (max
 k
 (↑(List.map
 strEl
 x).length :
 Int)).toNat
 (1 :
 Nat)]))
 Tr.leaf).node
 (some
 (AObj.cells
 [AV.sc
 (Value.string
 (ByteArray.mk
 (Array.mk
 [(112 :
 UInt8),
 (111 :
 UInt8),
 (115 :
 UInt8),
 (105 :
 UInt8),
 (120 :
 UInt8)]))),
 AV.sl
 wEls
 (0 :
 Nat),
 AV.sc
 (Value.string
 (ByteArray.mk
 (Array.mk
 wLow))),
 AV.sc
 (Value.string
 (ByteArray.mk
 (Array.mk
 wUp))),
 AV.sc
 (Value.slice
 none
 (0 :
 Nat)
 (0 :
 Nat)),
 AV.sc
 (Value.slice
 none
 (0 :
 Nat)
 (0 :
 Nat))]))
 (Tr.leaf.node
 (some
 (AObj.cells
 (setC
 (repC
 (max
 k
 (↑(List.map
 strEl
 x).length :
 Int))
 (AV.sc
 (Value.string
 (ByteArray.mk
 (Array.mk
 [])))))
 ((0 :
 Nat) +
 (IntKind.i64.wrap
 (k -
 (1 :
 Int))).toNat *
 (1 :
 Nat))
 (AV.sc
 (Value.string
 (ByteArray.mk
 (Array.mk
 t)))))))
 Tr.leaf)).node
 none
 ((Tr.leaf.node
 (some
 (AObj.own
 (1 :
 Nat)
 (9 :
 Nat)
 x_1.length))
 Tr.leaf).node
 (some
 (AObj.cells
 [AV.sc
 (Value.string
 (ByteArray.mk
 (Array.mk
 (List.map
 byteD
 [[AV.sc
 (Value.int
 IntKind.u8
 (↑c.toNat :
 Int))]])))),
 AV.sc
 (Value.string
 (ByteArray.mk
 (Array.mk
 []))),
 AV.sc
 (Value.int
 IntKind.i64
 (0 :
 Int)),
 AV.sc
 (Value.int
 IntKind.i64
 (0 :
 Int)),
 AV.sc
 (Value.int
 IntKind.i64
 (0 :
 Int)),
 AV.sc
 (Value.int
 IntKind.u64
 (0 :
 Int)),
 AV.sc
 (Value.int
 IntKind.u64
 (0 :
 Int)),
 AV.sc
 (Value.int
 IntKind.u64
 (0 :
 Int)),
 AV.sc
 (Value.int
 IntKind.u64
 (0 :
 Int)),
 AV.sc
 (Value.int
 IntKind.i64
 (0 :
 Int)),
 AV.sc
 (Value.int
 IntKind.i64
 (0 :
 Int)),
 AV.sc
 (Value.int
 IntKind.i64
 (0 :
 Int)),
 AV.sc
 (Value.slice
 none
 (0 :
 Nat)
 (0 :
 Nat))]))
 (Tr.leaf.node
 (some
 (AObj.own
 (1 :
 Nat)
 (9 :
 Nat)
 x_5.length))
 Tr.leaf)))
 (0 : Nat)
 (((Tr.leaf.node
 (some
 ((112 :
 Nat),
 [AV.sc
 (Value.string
 (ByteArray.mk
 (Array.mk
 (List.map
 byteD
 [[AV.sc
 (Value.int
 IntKind.u8
 (↑c.toNat :
 Int))]])))),
 AV.sc
 (Value.string
 (ByteArray.mk
 (Array.mk
 []))),
 AV.sc
 (Value.int
 IntKind.i64
 (0 :
 Int)),
 AV.sc
 (Value.int
 IntKind.i64
 (0 :
 Int)),
 AV.sc
 (Value.int
 IntKind.i64
 (0 :
 Int)),
 AV.sc
 (Value.int
 IntKind.u64
 (0 :
 Int)),
 AV.sc
 (Value.int
 IntKind.u64
 (0 :
 Int)),
 AV.sc
 (Value.int
 IntKind.u64
 (0 :
 Int)),
 AV.sc
 (Value.int
 IntKind.u64
 (0 :
 Int)),
 AV.sc
 (Value.int
 IntKind.i64
 (0 :
 Int)),
 AV.sc
 (Value.int
 IntKind.i64
 (0 :
 Int)),
 AV.sc
 (Value.int
 IntKind.i64
 (0 :
 Int)),
 AV.sc
 (Value.slice
 none
 (0 :
 Nat)
 (0 :
 Nat)),
 AV.sc
 (Value.string
 (ByteArray.mk
 (Array.mk
 [(45 :
 UInt8),
 (45 :
 UInt8)]))),
 AV.sc
 (Value.string
 (ByteArray.mk
 (Array.mk
 []))),
 AV.sc
 (Value.slice
 none
 (0 :
 Nat)
 (0 :
 Nat))].length))
 Tr.leaf).node
 (some
 ((61 :
 Nat),
 [AV.sc
 (Value.string
 (ByteArray.mk
 (Array.mk
 [(112 :
 UInt8),
 (111 :
 UInt8),
 (115 :
 UInt8),
 (105 :
 UInt8),
 (120 :
 UInt8)]))),
 AV.sl
 wEls
 (0 :
 Nat),
 AV.sc
 (Value.string
 (ByteArray.mk
 (Array.mk
 wLow))),
 AV.sc
 (Value.string
 (ByteArray.mk
 (Array.mk
 wUp))),
 AV.sc
 (Value.slice
 none
 (0 :
 Nat)
 (0 :
 Nat)),
 AV.sc
 (Value.slice
 none
 (0 :
 Nat)
 (0 :
 Nat))].length))
 Tr.leaf).node
 none
 (Tr.leaf.node
 (some
 ((108 :
 Nat),
 (13 :
 Nat)))
 Tr.leaf))) ∧
 Changed
 (AV.sl
 (List.map strEl
 x_1)
 ((3 : Nat) +
 (1 : Nat) +
 (1 : Nat)))
 (List.map strEl
 x_5)
 k t) ∧
 ∀ (_ : Unit),
 True →
 True ∧
 ∀ (_ : Unit),
 True →
 K
 (AV.sc
 (Value.bool
 true))))
 False)))
 False)
 False)
 (iteP
 (inRange (IntKind.i64.wrap (k - (1 : Int)))
 (max k (↑(List.map strEl x).length : Int)).toNat)
 (iteP
 (ltLen
 ((0 : Nat) +
 (IntKind.i64.wrap (k - (1 : Int))).toNat * (1 : Nat))
 (overC
 (repC (max k (↑(List.map strEl x).length : Int))
 (AV.sc (Value.string (ByteArray.mk (Array.mk [])))))
 (0 : Nat)
 (flatC (List.map strEl x)
 (max k (↑(List.map strEl x).length : Int)).toNat)))
 (loopAt Tryz.prog (49 : Nat) (4 : Nat) =
 loopAt Tryz.prog (49 : Nat) (4 : Nat) ∧
 (I49 (5 : Nat)
 (max k (↑(List.map strEl x).length : Int)).toNat
 (0 : Int) (0 : Int)
 (Heap.mk (6 : Nat)
 (((Tr.leaf.node
 (some
 (AObj.cells
 [AV.sc
 (Value.string
 (ByteArray.mk
 (Array.mk
 (List.map byteD
 [[AV.sc
 (Value.int
 IntKind.u8
 (↑c.toNat :
 Int))]])))),
 AV.sc
 (Value.string
 (ByteArray.mk (Array.mk []))),
 AV.sc
 (Value.int IntKind.i64
 (0 : Int)),
 AV.sc
 (Value.int IntKind.i64
 (0 : Int)),
 AV.sc
 (Value.int IntKind.i64
 (0 : Int)),
 AV.sc
 (Value.int IntKind.u64
 (0 : Int)),
 AV.sc
 (Value.int IntKind.u64
 (0 : Int)),
 AV.sc
 (Value.int IntKind.u64
 (0 : Int)),
 AV.sc
 (Value.int IntKind.u64
 (0 : Int)),
 AV.sc
 (Value.int IntKind.i64
 (0 : Int)),
 AV.sc
 (Value.int IntKind.i64
 (0 : Int)),
 AV.sc
 (Value.int IntKind.i64
 (0 : Int)),
 AV.sc
 (Value.slice none (0 : Nat)
 (0 : Nat)),
 AV.sc
 (Value.string
 (ByteArray.mk
 (Array.mk
 [(45 : UInt8),
 (45 : UInt8)]))),
 AV.sc
 (Value.string
 (ByteArray.mk (Array.mk s))),
 AV.sl (List.map strEl x)
 (0 : Nat)]))
 Tr.leaf).node
 (some
 (AObj.cells
 [AV.sc
 (Value.string
 (ByteArray.mk
 (Array.mk
 [(112 : UInt8), (111 : UInt8),
 (115 : UInt8),
 (105 : UInt8),
 (120 : UInt8)]))),
 AV.sl wEls (0 : Nat),
 AV.sc
 (Value.string
 (ByteArray.mk (Array.mk wLow))),
 AV.sc
 (Value.string
 (ByteArray.mk (Array.mk wUp))),
 AV.sc
 (Value.slice none (0 : Nat)
 (0 : Nat)),
 AV.sc
 (Value.slice none (0 : Nat)
 (0 : Nat))]))
 (Tr.leaf.node
 (some
 (AObj.cells
 (setC
 (overC
 (repC
 (max k
 (↑(List.map strEl x).length :
 Int))
 (AV.sc
 (Value.string
 (ByteArray.mk
 (Array.mk [])))))
 (0 : Nat)
 (flatC (List.map strEl x)
 (max k
 (↑(List.map strEl
 x).length :
 Int)).toNat))
 ((0 : Nat) +
 (IntKind.i64.wrap
 (k - (1 : Int))).toNat *
 (1 : Nat))
 (AV.sc
 (Value.string
 (ByteArray.mk (Array.mk t)))))))
 Tr.leaf)).node
 none
 ((Tr.leaf.node
 (some
 (AObj.own (1 : Nat) (9 : Nat)
 x_1.length))
 Tr.leaf).node
 (some
 (AObj.cells
 [AV.sc
 (Value.string
 (ByteArray.mk
 (Array.mk
 (List.map byteD
 [[AV.sc
 (Value.int IntKind.u8
 (↑c.toNat :
 Int))]])))),
 AV.sc
 (Value.string
 (ByteArray.mk (Array.mk []))),
 AV.sc (Value.int IntKind.i64 (0 : Int)),
 AV.sc (Value.int IntKind.i64 (0 : Int)),
 AV.sc (Value.int IntKind.i64 (0 : Int)),
 AV.sc (Value.int IntKind.u64 (0 : Int)),
 AV.sc (Value.int IntKind.u64 (0 : Int)),
 AV.sc (Value.int IntKind.u64 (0 : Int)),
 AV.sc (Value.int IntKind.u64 (0 : Int)),
 AV.sc (Value.int IntKind.i64 (0 : Int)),
 AV.sc (Value.int IntKind.i64 (0 : Int)),
 AV.sc (Value.int IntKind.i64 (0 : Int)),
 AV.sc
 (Value.slice none (0 : Nat)
 (0 : Nat))]))
 Tr.leaf))
 (0 : Nat)
 (((Tr.leaf.node
 (some
 ((112 : Nat),
 [AV.sc
 (Value.string
 (ByteArray.mk
 (Array.mk
 (List.map byteD
 [[AV.sc
 (Value.int
 IntKind.u8
 (↑c.toNat :
 Int))]])))),
 AV.sc
 (Value.string
 (ByteArray.mk
 (Array.mk []))),
 AV.sc
 (Value.int IntKind.i64
 (0 : Int)),
 AV.sc
 (Value.int IntKind.i64
 (0 : Int)),
 AV.sc
 (Value.int IntKind.i64
 (0 : Int)),
 AV.sc
 (Value.int IntKind.u64
 (0 : Int)),
 AV.sc
 (Value.int IntKind.u64
 (0 : Int)),
 AV.sc
 (Value.int IntKind.u64
 (0 : Int)),
 AV.sc
 (Value.int IntKind.u64
 (0 : Int)),
 AV.sc
 (Value.int IntKind.i64
 (0 : Int)),
 AV.sc
 (Value.int IntKind.i64
 (0 : Int)),
 AV.sc
 (Value.int IntKind.i64
 (0 : Int)),
 AV.sc
 (Value.slice none (0 : Nat)
 (0 : Nat)),
 AV.sc
 (Value.string
 (ByteArray.mk
 (Array.mk
 [(45 : UInt8),
 (45 : UInt8)]))),
 AV.sc
 (Value.string
 (ByteArray.mk
 (Array.mk []))),
 AV.sc
 (Value.slice none (0 : Nat)
 (0 : Nat))].length))
 Tr.leaf).node
 (some
 ((61 : Nat),
 [AV.sc
 (Value.string
 (ByteArray.mk
 (Array.mk
 [(112 : UInt8),
 (111 : UInt8),
 (115 : UInt8),
 (105 : UInt8),
 (120 : UInt8)]))),
 AV.sl wEls (0 : Nat),
 AV.sc
 (Value.string
 (ByteArray.mk (Array.mk wLow))),
 AV.sc
 (Value.string
 (ByteArray.mk (Array.mk wUp))),
 AV.sc
 (Value.slice none (0 : Nat)
 (0 : Nat)),
 AV.sc
 (Value.slice none (0 : Nat)
 (0 : Nat))].length))
 Tr.leaf).node
 none
 (Tr.leaf.node (some ((108 : Nat), (13 : Nat)))
 Tr.leaf))) =
 I49 (5 : Nat)
 (max k (↑(List.map strEl x).length : Int)).toNat
 (0 : Int) (0 : Int)
 (Heap.mk (6 : Nat)
 (((Tr.leaf.node
 (some
 (AObj.cells
 [AV.sc
 (Value.string
 (ByteArray.mk
 (Array.mk
 (List.map byteD
 [[AV.sc
 (Value.int
 IntKind.u8
 (↑c.toNat :
 Int))]])))),
 AV.sc
 (Value.string
 (ByteArray.mk (Array.mk []))),
 AV.sc
 (Value.int IntKind.i64
 (0 : Int)),
 AV.sc
 (Value.int IntKind.i64
 (0 : Int)),
 AV.sc
 (Value.int IntKind.i64
 (0 : Int)),
 AV.sc
 (Value.int IntKind.u64
 (0 : Int)),
 AV.sc
 (Value.int IntKind.u64
 (0 : Int)),
 AV.sc
 (Value.int IntKind.u64
 (0 : Int)),
 AV.sc
 (Value.int IntKind.u64
 (0 : Int)),
 AV.sc
 (Value.int IntKind.i64
 (0 : Int)),
 AV.sc
 (Value.int IntKind.i64
 (0 : Int)),
 AV.sc
 (Value.int IntKind.i64
 (0 : Int)),
 AV.sc
 (Value.slice none (0 : Nat)
 (0 : Nat)),
 AV.sc
 (Value.string
 (ByteArray.mk
 (Array.mk
 [(45 : UInt8),
 (45 : UInt8)]))),
 AV.sc
 (Value.string
 (ByteArray.mk (Array.mk s))),
 AV.sl (List.map strEl x)
 (0 : Nat)]))
 Tr.leaf).node
 (some
 (AObj.cells
 [AV.sc
 (Value.string
 (ByteArray.mk
 (Array.mk
 [(112 : UInt8), (111 : UInt8),
 (115 : UInt8),
 (105 : UInt8),
 (120 : UInt8)]))),
 AV.sl wEls (0 : Nat),
 AV.sc
 (Value.string
 (ByteArray.mk (Array.mk wLow))),
 AV.sc
 (Value.string
 (ByteArray.mk (Array.mk wUp))),
 AV.sc
 (Value.slice none (0 : Nat)
 (0 : Nat)),
 AV.sc
 (Value.slice none (0 : Nat)
 (0 : Nat))]))
 (Tr.leaf.node
 (some
 (AObj.cells
 (setC
 (overC
 (repC
 (max k
 (↑(List.map strEl x).length :
 Int))
 (AV.sc
 (Value.string
 (ByteArray.mk
 (Array.mk [])))))
 (0 : Nat)
 (flatC (List.map strEl x)
 (max k
 (↑(List.map strEl
 x).length :
 Int)).toNat))
 ((0 : Nat) +
 (IntKind.i64.wrap
 (k - (1 : Int))).toNat *
 (1 : Nat))
 (AV.sc
 (Value.string
 (ByteArray.mk (Array.mk t)))))))
 Tr.leaf)).node
 none
 ((Tr.leaf.node
 (some
 (AObj.own (1 : Nat) (9 : Nat)
 x_1.length))
 Tr.leaf).node
 (some
 (AObj.cells
 [AV.sc
 (Value.string
 (ByteArray.mk
 (Array.mk
 (List.map byteD
 [[AV.sc
 (Value.int IntKind.u8
 (↑c.toNat :
 Int))]])))),
 AV.sc
 (Value.string
 (ByteArray.mk (Array.mk []))),
 AV.sc (Value.int IntKind.i64 (0 : Int)),
 AV.sc (Value.int IntKind.i64 (0 : Int)),
 AV.sc (Value.int IntKind.i64 (0 : Int)),
 AV.sc (Value.int IntKind.u64 (0 : Int)),
 AV.sc (Value.int IntKind.u64 (0 : Int)),
 AV.sc (Value.int IntKind.u64 (0 : Int)),
 AV.sc (Value.int IntKind.u64 (0 : Int)),
 AV.sc (Value.int IntKind.i64 (0 : Int)),
 AV.sc (Value.int IntKind.i64 (0 : Int)),
 AV.sc (Value.int IntKind.i64 (0 : Int)),
 AV.sc
 (Value.slice none (0 : Nat)
 (0 : Nat))]))
 Tr.leaf))
 (0 : Nat)
 (((Tr.leaf.node
 (some
 ((112 : Nat),
 [AV.sc
 (Value.string
 (ByteArray.mk
 (Array.mk
 (List.map byteD
 [[AV.sc
 (Value.int
 IntKind.u8
 (↑c.toNat :
 Int))]])))),
 AV.sc
 (Value.string
 (ByteArray.mk
 (Array.mk []))),
 AV.sc
 (Value.int IntKind.i64
 (0 : Int)),
 AV.sc
 (Value.int IntKind.i64
 (0 : Int)),
 AV.sc
 (Value.int IntKind.i64
 (0 : Int)),
 AV.sc
 (Value.int IntKind.u64
 (0 : Int)),
 AV.sc
 (Value.int IntKind.u64
 (0 : Int)),
 AV.sc
 (Value.int IntKind.u64
 (0 : Int)),
 AV.sc
 (Value.int IntKind.u64
 (0 : Int)),
 AV.sc
 (Value.int IntKind.i64
 (0 : Int)),
 AV.sc
 (Value.int IntKind.i64
 (0 : Int)),
 AV.sc
 (Value.int IntKind.i64
 (0 : Int)),
 AV.sc
 (Value.slice none (0 : Nat)
 (0 : Nat)),
 AV.sc
 (Value.string
 (ByteArray.mk
 (Array.mk
 [(45 : UInt8),
 (45 : UInt8)]))),
 AV.sc
 (Value.string
 (ByteArray.mk
 (Array.mk []))),
 AV.sc
 (Value.slice none (0 : Nat)
 (0 : Nat))].length))
 Tr.leaf).node
 (some
 ((61 : Nat),
 [AV.sc
 (Value.string
 (ByteArray.mk
 (Array.mk
 [(112 : UInt8),
 (111 : UInt8),
 (115 : UInt8),
 (105 : UInt8),
 (120 : UInt8)]))),
 AV.sl wEls (0 : Nat),
 AV.sc
 (Value.string
 (ByteArray.mk (Array.mk wLow))),
 AV.sc
 (Value.string
 (ByteArray.mk (Array.mk wUp))),
 AV.sc
 (Value.slice none (0 : Nat)
 (0 : Nat)),
 AV.sc
 (Value.slice none (0 : Nat)
 (0 : Nat))].length))
 Tr.leaf).node
 none
 (Tr.leaf.node (some ((108 : Nat), (13 : Nat)))
 Tr.leaf))) ∧
 Whole
 (Heap.mk (6 : Nat)
 (((Tr.leaf.node
 (some
 (AObj.cells
 [AV.sc
 (Value.string
 (ByteArray.mk
 (Array.mk
 (List.map byteD
 [[AV.sc
 (Value.int
 IntKind.u8
 (↑c.toNat :
 Int))]])))),
 AV.sc
 (Value.string
 (ByteArray.mk (Array.mk []))),
 AV.sc
 (Value.int IntKind.i64 (0 : Int)),
 AV.sc
 (Value.int IntKind.i64 (0 : Int)),
 AV.sc
 (Value.int IntKind.i64 (0 : Int)),
 AV.sc
 (Value.int IntKind.u64 (0 : Int)),
 AV.sc
 (Value.int IntKind.u64 (0 : Int)),
 AV.sc
 (Value.int IntKind.u64 (0 : Int)),
 AV.sc
 (Value.int IntKind.u64 (0 : Int)),
 AV.sc
 (Value.int IntKind.i64 (0 : Int)),
 AV.sc
 (Value.int IntKind.i64 (0 : Int)),
 AV.sc
 (Value.int IntKind.i64 (0 : Int)),
 AV.sc
 (Value.slice none (0 : Nat)
 (0 : Nat)),
 AV.sc
 (Value.string
 (ByteArray.mk
 (Array.mk
 [(45 : UInt8),
 (45 : UInt8)]))),
 AV.sc
 (Value.string
 (ByteArray.mk (Array.mk s))),
 AV.sl (List.map strEl x)
 (0 : Nat)]))
 Tr.leaf).node
 (some
 (AObj.cells
 [AV.sc
 (Value.string
 (ByteArray.mk
 (Array.mk
 [(112 : UInt8), (111 : UInt8),
 (115 : UInt8), (105 : UInt8),
 (120 : UInt8)]))),
 AV.sl wEls (0 : Nat),
 AV.sc
 (Value.string
 (ByteArray.mk (Array.mk wLow))),
 AV.sc
 (Value.string
 (ByteArray.mk (Array.mk wUp))),
 AV.sc
 (Value.slice none (0 : Nat)
 (0 : Nat)),
 AV.sc
 (Value.slice none (0 : Nat)
 (0 : Nat))]))
 (Tr.leaf.node
 (some
 (AObj.cells
 (setC
 (overC
 (repC
 (max k
 (↑(List.map strEl x).length :
 Int))
 (AV.sc
 (Value.string
 (ByteArray.mk
 (Array.mk [])))))
 (0 : Nat)
 (flatC (List.map strEl x)
 (max k
 (↑(List.map strEl x).length :
 Int)).toNat))
 ((0 : Nat) +
 (IntKind.i64.wrap
 (k - (1 : Int))).toNat *
 (1 : Nat))
 (AV.sc
 (Value.string
 (ByteArray.mk (Array.mk t)))))))
 Tr.leaf)).node
 none
 ((Tr.leaf.node
 (some
 (AObj.own (1 : Nat) (9 : Nat) x_1.length))
 Tr.leaf).node
 (some
 (AObj.cells
 [AV.sc
 (Value.string
 (ByteArray.mk
 (Array.mk
 (List.map byteD
 [[AV.sc
 (Value.int IntKind.u8
 (↑c.toNat : Int))]])))),
 AV.sc
 (Value.string
 (ByteArray.mk (Array.mk []))),
 AV.sc (Value.int IntKind.i64 (0 : Int)),
 AV.sc (Value.int IntKind.i64 (0 : Int)),
 AV.sc (Value.int IntKind.i64 (0 : Int)),
 AV.sc (Value.int IntKind.u64 (0 : Int)),
 AV.sc (Value.int IntKind.u64 (0 : Int)),
 AV.sc (Value.int IntKind.u64 (0 : Int)),
 AV.sc (Value.int IntKind.u64 (0 : Int)),
 AV.sc (Value.int IntKind.i64 (0 : Int)),
 AV.sc (Value.int IntKind.i64 (0 : Int)),
 AV.sc (Value.int IntKind.i64 (0 : Int)),
 AV.sc
 (Value.slice none (0 : Nat)
 (0 : Nat))]))
 Tr.leaf))
 (0 : Nat)
 (((Tr.leaf.node
 (some
 ((112 : Nat),
 [AV.sc
 (Value.string
 (ByteArray.mk
 (Array.mk
 (List.map byteD
 [[AV.sc
 (Value.int
 IntKind.u8
 (↑c.toNat :
 Int))]])))),
 AV.sc
 (Value.string
 (ByteArray.mk (Array.mk []))),
 AV.sc
 (Value.int IntKind.i64
 (0 : Int)),
 AV.sc
 (Value.int IntKind.i64
 (0 : Int)),
 AV.sc
 (Value.int IntKind.i64
 (0 : Int)),
 AV.sc
 (Value.int IntKind.u64
 (0 : Int)),
 AV.sc
 (Value.int IntKind.u64
 (0 : Int)),
 AV.sc
 (Value.int IntKind.u64
 (0 : Int)),
 AV.sc
 (Value.int IntKind.u64
 (0 : Int)),
 AV.sc
 (Value.int IntKind.i64
 (0 : Int)),
 AV.sc
 (Value.int IntKind.i64
 (0 : Int)),
 AV.sc
 (Value.int IntKind.i64
 (0 : Int)),
 AV.sc
 (Value.slice none (0 : Nat)
 (0 : Nat)),
 AV.sc
 (Value.string
 (ByteArray.mk
 (Array.mk
 [(45 : UInt8),
 (45 : UInt8)]))),
 AV.sc
 (Value.string
 (ByteArray.mk (Array.mk []))),
 AV.sc
 (Value.slice none (0 : Nat)
 (0 : Nat))].length))
 Tr.leaf).node
 (some
 ((61 : Nat),
 [AV.sc
 (Value.string
 (ByteArray.mk
 (Array.mk
 [(112 : UInt8), (111 : UInt8),
 (115 : UInt8),
 (105 : UInt8),
 (120 : UInt8)]))),
 AV.sl wEls (0 : Nat),
 AV.sc
 (Value.string
 (ByteArray.mk (Array.mk wLow))),
 AV.sc
 (Value.string
 (ByteArray.mk (Array.mk wUp))),
 AV.sc
 (Value.slice none (0 : Nat)
 (0 : Nat)),
 AV.sc
 (Value.slice none (0 : Nat)
 (0 : Nat))].length))
 Tr.leaf).node
 none
 (Tr.leaf.node (some ((108 : Nat), (13 : Nat)))
 Tr.leaf)))
 (5 : Nat)
 (max k (↑(List.map strEl x).length : Int)).toNat) ∧
 ∀ (_ : Unit),
 True →
 RowOk
 (Heap.mk (6 : Nat)
 (((Tr.leaf.node
 (some
 (AObj.cells
 [AV.sc
 (Value.string
 (ByteArray.mk
 (Array.mk
 (List.map byteD
 [[AV.sc
 (Value.int
 IntKind.u8
 (↑c.toNat :
 Int))]])))),
 AV.sc
 (Value.string
 (ByteArray.mk
 (Array.mk []))),
 AV.sc
 (Value.int IntKind.i64
 (0 : Int)),
 AV.sc
 (Value.int IntKind.i64
 (0 : Int)),
 AV.sc
 (Value.int IntKind.i64
 (0 : Int)),
 AV.sc
 (Value.int IntKind.u64
 (0 : Int)),
 AV.sc
 (Value.int IntKind.u64
 (0 : Int)),
 AV.sc
 (Value.int IntKind.u64
 (0 : Int)),
 AV.sc
 (Value.int IntKind.u64
 (0 : Int)),
 AV.sc
 (Value.int IntKind.i64
 (0 : Int)),
 AV.sc
 (Value.int IntKind.i64
 (0 : Int)),
 AV.sc
 (Value.int IntKind.i64
 (0 : Int)),
 AV.sc
 (Value.slice none (0 : Nat)
 (0 : Nat)),
 AV.sc
 (Value.string
 (ByteArray.mk
 (Array.mk
 [(45 : UInt8),
 (45 : UInt8)]))),
 AV.sc
 (Value.string
 (ByteArray.mk
 (Array.mk s))),
 AV.sl (List.map strEl x)
 (0 : Nat)]))
 Tr.leaf).node
 (some
 (AObj.cells
 [AV.sc
 (Value.string
 (ByteArray.mk
 (Array.mk
 [(112 : UInt8),
 (111 : UInt8),
 (115 : UInt8),
 (105 : UInt8),
 (120 : UInt8)]))),
 AV.sl wEls (0 : Nat),
 AV.sc
 (Value.string
 (ByteArray.mk (Array.mk wLow))),
 AV.sc
 (Value.string
 (ByteArray.mk (Array.mk wUp))),
 AV.sc
 (Value.slice none (0 : Nat)
 (0 : Nat)),
 AV.sc
 (Value.slice none (0 : Nat)
 (0 : Nat))]))
 (Tr.leaf.node
 (some
 (AObj.cells
 (setC
 (overC
 (repC
 (max k
 (↑(List.map strEl
 x).length :
 Int))
 (AV.sc
 (Value.string
 (ByteArray.mk
 (Array.mk [])))))
 (0 : Nat)
 (flatC (List.map strEl x)
 (max k
 (↑(List.map strEl
 x).length :
 Int)).toNat))
 ((0 : Nat) +
 (IntKind.i64.wrap
 (k - (1 : Int))).toNat *
 (1 : Nat))
 (AV.sc
 (Value.string
 (ByteArray.mk
 (Array.mk t)))))))
 Tr.leaf)).node
 none
 ((Tr.leaf.node
 (some
 (AObj.own (1 : Nat) (9 : Nat)
 x_1.length))
 Tr.leaf).node
 (some
 (AObj.cells
 [AV.sc
 (Value.string
 (ByteArray.mk
 (Array.mk
 (List.map byteD
 [[AV.sc
 (Value.int IntKind.u8
 (↑c.toNat :
 Int))]])))),
 AV.sc
 (Value.string
 (ByteArray.mk (Array.mk []))),
 AV.sc
 (Value.int IntKind.i64 (0 : Int)),
 AV.sc
 (Value.int IntKind.i64 (0 : Int)),
 AV.sc
 (Value.int IntKind.i64 (0 : Int)),
 AV.sc
 (Value.int IntKind.u64 (0 : Int)),
 AV.sc
 (Value.int IntKind.u64 (0 : Int)),
 AV.sc
 (Value.int IntKind.u64 (0 : Int)),
 AV.sc
 (Value.int IntKind.u64 (0 : Int)),
 AV.sc
 (Value.int IntKind.i64 (0 : Int)),
 AV.sc
 (Value.int IntKind.i64 (0 : Int)),
 AV.sc
 (Value.int IntKind.i64 (0 : Int)),
 AV.sc
 (Value.slice none (0 : Nat)
 (0 : Nat))]))
 Tr.leaf))
 (0 : Nat)
 (((Tr.leaf.node
 (some
 ((112 : Nat),
 [AV.sc
 (Value.string
 (ByteArray.mk
 (Array.mk
 (List.map byteD
 [[AV.sc
 (Value.int
 IntKind.u8
 (↑c.toNat :
 Int))]])))),
 AV.sc
 (Value.string
 (ByteArray.mk
 (Array.mk []))),
 AV.sc
 (Value.int IntKind.i64
 (0 : Int)),
 AV.sc
 (Value.int IntKind.i64
 (0 : Int)),
 AV.sc
 (Value.int IntKind.i64
 (0 : Int)),
 AV.sc
 (Value.int IntKind.u64
 (0 : Int)),
 AV.sc
 (Value.int IntKind.u64
 (0 : Int)),
 AV.sc
 (Value.int IntKind.u64
 (0 : Int)),
 AV.sc
 (Value.int IntKind.u64
 (0 : Int)),
 AV.sc
 (Value.int IntKind.i64
 (0 : Int)),
 AV.sc
 (Value.int IntKind.i64
 (0 : Int)),
 AV.sc
 (Value.int IntKind.i64
 (0 : Int)),
 AV.sc
 (Value.slice none (0 : Nat)
 (0 : Nat)),
 AV.sc
 (Value.string
 (ByteArray.mk
 (Array.mk
 [(45 : UInt8),
 (45 : UInt8)]))),
 AV.sc
 (Value.string
 (ByteArray.mk
 (Array.mk []))),
 AV.sc
 (Value.slice none (0 : Nat)
 (0 : Nat))].length))
 Tr.leaf).node
 (some
 ((61 : Nat),
 [AV.sc
 (Value.string
 (ByteArray.mk
 (Array.mk
 [(112 : UInt8),
 (111 : UInt8),
 (115 : UInt8),
 (105 : UInt8),
 (120 : UInt8)]))),
 AV.sl wEls (0 : Nat),
 AV.sc
 (Value.string
 (ByteArray.mk
 (Array.mk wLow))),
 AV.sc
 (Value.string
 (ByteArray.mk
 (Array.mk wUp))),
 AV.sc
 (Value.slice none (0 : Nat)
 (0 : Nat)),
 AV.sc
 (Value.slice none (0 : Nat)
 (0 : Nat))].length))
 Tr.leaf).node
 none
 (Tr.leaf.node (some ((108 : Nat), (13 : Nat)))
 Tr.leaf)))
 (5 : Nat)
 (max k (↑(List.map strEl x).length : Int)).toNat
 [(45 : UInt8), (45 : UInt8)] ∧
 ∀ (x_4 : List UInt8),
 RowJoin
 (Heap.mk (6 : Nat)
 (((Tr.leaf.node
 (some
 (AObj.cells
 [AV.sc
 (Value.string
 (ByteArray.mk
 (Array.mk
 (List.map byteD
 [[AV.sc
 (Value.int
 IntKind.u8
 (↑c.toNat :
 Int))]])))),
 AV.sc
 (Value.string
 (ByteArray.mk
 (Array.mk []))),
 AV.sc
 (Value.int IntKind.i64
 (0 : Int)),
 AV.sc
 (Value.int IntKind.i64
 (0 : Int)),
 AV.sc
 (Value.int IntKind.i64
 (0 : Int)),
 AV.sc
 (Value.int IntKind.u64
 (0 : Int)),
 AV.sc
 (Value.int IntKind.u64
 (0 : Int)),
 AV.sc
 (Value.int IntKind.u64
 (0 : Int)),
 AV.sc
 (Value.int IntKind.u64
 (0 : Int)),
 AV.sc
 (Value.int IntKind.i64
 (0 : Int)),
 AV.sc
 (Value.int IntKind.i64
 (0 : Int)),
 AV.sc
 (Value.int IntKind.i64
 (0 : Int)),
 AV.sc
 (Value.slice none
 (0 : Nat) (0 : Nat)),
 AV.sc
 (Value.string
 (ByteArray.mk
 (Array.mk
 [(45 : UInt8),
 (45 : UInt8)]))),
 AV.sc
 (Value.string
 (ByteArray.mk
 (Array.mk s))),
 AV.sl (List.map strEl x)
 (0 : Nat)]))
 Tr.leaf).node
 (some
 (AObj.cells
 [AV.sc
 (Value.string
 (ByteArray.mk
 (Array.mk
 [(112 : UInt8),
 (111 : UInt8),
 (115 : UInt8),
 (105 : UInt8),
 (120 : UInt8)]))),
 AV.sl wEls (0 : Nat),
 AV.sc
 (Value.string
 (ByteArray.mk
 (Array.mk wLow))),
 AV.sc
 (Value.string
 (ByteArray.mk
 (Array.mk wUp))),
 AV.sc
 (Value.slice none (0 : Nat)
 (0 : Nat)),
 AV.sc
 (Value.slice none (0 : Nat)
 (0 : Nat))]))
 (Tr.leaf.node
 (some
 (AObj.cells
 (setC
 (overC
 (repC
 (max k
 (↑(List.map strEl
 x).length :
 Int))
 (AV.sc
 (Value.string
 (ByteArray.mk
 (Array.mk [])))))
 (0 : Nat)
 (flatC (List.map strEl x)
 (max k
 (↑(List.map strEl
 x).length :
 Int)).toNat))
 ((0 : Nat) +
 (IntKind.i64.wrap
 (k -
 (1 : Int))).toNat *
 (1 : Nat))
 (AV.sc
 (Value.string
 (ByteArray.mk
 (Array.mk t)))))))
 Tr.leaf)).node
 none
 ((Tr.leaf.node
 (some
 (AObj.own (1 : Nat) (9 : Nat)
 x_1.length))
 Tr.leaf).node
 (some
 (AObj.cells
 [AV.sc
 (Value.string
 (ByteArray.mk
 (Array.mk
 (List.map byteD
 [[AV.sc
 (Value.int
 IntKind.u8
 (↑c.toNat :
 Int))]])))),
 AV.sc
 (Value.string
 (ByteArray.mk (Array.mk []))),
 AV.sc
 (Value.int IntKind.i64
 (0 : Int)),
 AV.sc
 (Value.int IntKind.i64
 (0 : Int)),
 AV.sc
 (Value.int IntKind.i64
 (0 : Int)),
 AV.sc
 (Value.int IntKind.u64
 (0 : Int)),
 AV.sc
 (Value.int IntKind.u64
 (0 : Int)),
 AV.sc
 (Value.int IntKind.u64
 (0 : Int)),
 AV.sc
 (Value.int IntKind.u64
 (0 : Int)),
 AV.sc
 (Value.int IntKind.i64
 (0 : Int)),
 AV.sc
 (Value.int IntKind.i64
 (0 : Int)),
 AV.sc
 (Value.int IntKind.i64
 (0 : Int)),
 AV.sc
 (Value.slice none (0 : Nat)
 (0 : Nat))]))
 Tr.leaf))
 (0 : Nat)
 (((Tr.leaf.node
 (some
 ((112 : Nat),
 [AV.sc
 (Value.string
 (ByteArray.mk
 (Array.mk
 (List.map byteD
 [[AV.sc
 (Value.int
 IntKind.u8
 (↑c.toNat :
 Int))]])))),
 AV.sc
 (Value.string
 (ByteArray.mk
 (Array.mk []))),
 AV.sc
 (Value.int IntKind.i64
 (0 : Int)),
 AV.sc
 (Value.int IntKind.i64
 (0 : Int)),
 AV.sc
 (Value.int IntKind.i64
 (0 : Int)),
 AV.sc
 (Value.int IntKind.u64
 (0 : Int)),
 AV.sc
 (Value.int IntKind.u64
 (0 : Int)),
 AV.sc
 (Value.int IntKind.u64
 (0 : Int)),
 AV.sc
 (Value.int IntKind.u64
 (0 : Int)),
 AV.sc
 (Value.int IntKind.i64
 (0 : Int)),
 AV.sc
 (Value.int IntKind.i64
 (0 : Int)),
 AV.sc
 (Value.int IntKind.i64
 (0 : Int)),
 AV.sc
 (Value.slice none
 (0 : Nat) (0 : Nat)),
 AV.sc
 (Value.string
 (ByteArray.mk
 (Array.mk
 [(45 : UInt8),
 (45 :
 UInt8)]))),
 AV.sc
 (Value.string
 (ByteArray.mk
 (Array.mk []))),
 AV.sc
 (Value.slice none
 (0 : Nat)
 (0 : Nat))].length))
 Tr.leaf).node
 (some
 ((61 : Nat),
 [AV.sc
 (Value.string
 (ByteArray.mk
 (Array.mk
 [(112 : UInt8),
 (111 : UInt8),
 (115 : UInt8),
 (105 : UInt8),
 (120 : UInt8)]))),
 AV.sl wEls (0 : Nat),
 AV.sc
 (Value.string
 (ByteArray.mk
 (Array.mk wLow))),
 AV.sc
 (Value.string
 (ByteArray.mk
 (Array.mk wUp))),
 AV.sc
 (Value.slice none (0 : Nat)
 (0 : Nat)),
 AV.sc
 (Value.slice none (0 : Nat)
 (0 : Nat))].length))
 Tr.leaf).node
 none
 (Tr.leaf.node
 (some ((108 : Nat), (13 : Nat)))
 Tr.leaf)))
 (5 : Nat) [(45 : UInt8), (45 : UInt8)] x_4 →
 FldsOk
 (Heap.mk (6 : Nat)
 (((Tr.leaf.node
 (some
 (AObj.cells
 [AV.sc
 (Value.string
 (ByteArray.mk
 (Array.mk
 (List.map byteD
 [[AV.sc
 (Value.int
 IntKind.u8
 (↑c.toNat :
 Int))]])))),
 AV.sc
 (Value.string
 (ByteArray.mk
 (Array.mk []))),
 AV.sc
 (Value.int IntKind.i64
 (0 : Int)),
 AV.sc
 (Value.int IntKind.i64
 (0 : Int)),
 AV.sc
 (Value.int IntKind.i64
 (0 : Int)),
 AV.sc
 (Value.int IntKind.u64
 (0 : Int)),
 AV.sc
 (Value.int IntKind.u64
 (0 : Int)),
 AV.sc
 (Value.int IntKind.u64
 (0 : Int)),
 AV.sc
 (Value.int IntKind.u64
 (0 : Int)),
 AV.sc
 (Value.int IntKind.i64
 (0 : Int)),
 AV.sc
 (Value.int IntKind.i64
 (0 : Int)),
 AV.sc
 (Value.int IntKind.i64
 (0 : Int)),
 AV.sc
 (Value.slice none
 (0 : Nat) (0 : Nat)),
 AV.sc
 (Value.string
 (ByteArray.mk
 (Array.mk
 [(45 : UInt8),
 (45 :
 UInt8)]))),
 AV.sc
 (Value.string
 (ByteArray.mk
 (Array.mk x_4))),
 AV.rsl (5 : Nat) (0 : Nat)
 (max k
 (↑(List.map strEl
 x).length :
 Int)).toNat
 (1 : Nat)]))
 Tr.leaf).node
 (some
 (AObj.cells
 [AV.sc
 (Value.string
 (ByteArray.mk
 (Array.mk
 [(112 : UInt8),
 (111 : UInt8),
 (115 : UInt8),
 (105 : UInt8),
 (120 : UInt8)]))),
 AV.sl wEls (0 : Nat),
 AV.sc
 (Value.string
 (ByteArray.mk
 (Array.mk wLow))),
 AV.sc
 (Value.string
 (ByteArray.mk
 (Array.mk wUp))),
 AV.sc
 (Value.slice none (0 : Nat)
 (0 : Nat)),
 AV.sc
 (Value.slice none (0 : Nat)
 (0 : Nat))]))
 (Tr.leaf.node
 (some
 (AObj.cells
 (setC
 (overC
 (repC
 (max k
 (↑(List.map strEl
 x).length :
 Int))
 (AV.sc
 (Value.string
 (ByteArray.mk
 (Array.mk [])))))
 (0 : Nat)
 (flatC (List.map strEl x)
 (max k
 (↑(List.map strEl
 x).length :
 Int)).toNat))
 ((0 : Nat) +
 (IntKind.i64.wrap
 (k -
 (1 :
 Int))).toNat *
 (1 : Nat))
 (AV.sc
 (Value.string
 (ByteArray.mk
 (Array.mk t)))))))
 Tr.leaf)).node
 none
 ((Tr.leaf.node
 (some
 (AObj.own (1 : Nat) (9 : Nat)
 x_1.length))
 Tr.leaf).node
 (some
 (AObj.cells
 [AV.sc
 (Value.string
 (ByteArray.mk
 (Array.mk
 (List.map byteD
 [[AV.sc
 (Value.int
 IntKind.u8
 (↑c.toNat :
 Int))]])))),
 AV.sc
 (Value.string
 (ByteArray.mk
 (Array.mk []))),
 AV.sc
 (Value.int IntKind.i64
 (0 : Int)),
 AV.sc
 (Value.int IntKind.i64
 (0 : Int)),
 AV.sc
 (Value.int IntKind.i64
 (0 : Int)),
 AV.sc
 (Value.int IntKind.u64
 (0 : Int)),
 AV.sc
 (Value.int IntKind.u64
 (0 : Int)),
 AV.sc
 (Value.int IntKind.u64
 (0 : Int)),
 AV.sc
 (Value.int IntKind.u64
 (0 : Int)),
 AV.sc
 (Value.int IntKind.i64
 (0 : Int)),
 AV.sc
 (Value.int IntKind.i64
 (0 : Int)),
 AV.sc
 (Value.int IntKind.i64
 (0 : Int)),
 AV.sc
 (Value.slice none (0 : Nat)
 (0 : Nat))]))
 Tr.leaf))
 (0 : Nat)
 (((Tr.leaf.node
 (some
 ((112 : Nat),
 [AV.sc
 (Value.string
 (ByteArray.mk
 (Array.mk
 (List.map byteD
 [[AV.sc
 (Value.int
 IntKind.u8
 (↑c.toNat :
 Int))]])))),
 AV.sc
 (Value.string
 (ByteArray.mk
 (Array.mk []))),
 AV.sc
 (Value.int IntKind.i64
 (0 : Int)),
 AV.sc
 (Value.int IntKind.i64
 (0 : Int)),
 AV.sc
 (Value.int IntKind.i64
 (0 : Int)),
 AV.sc
 (Value.int IntKind.u64
 (0 : Int)),
 AV.sc
 (Value.int IntKind.u64
 (0 : Int)),
 AV.sc
 (Value.int IntKind.u64
 (0 : Int)),
 AV.sc
 (Value.int IntKind.u64
 (0 : Int)),
 AV.sc
 (Value.int IntKind.i64
 (0 : Int)),
 AV.sc
 (Value.int IntKind.i64
 (0 : Int)),
 AV.sc
 (Value.int IntKind.i64
 (0 : Int)),
 AV.sc
 (Value.slice none
 (0 : Nat)
 (0 : Nat)),
 AV.sc
 (Value.string
 (ByteArray.mk
 (Array.mk
 [(45 : UInt8),
 (45 :
 UInt8)]))),
 AV.sc
 (Value.string
 (ByteArray.mk
 (Array.mk []))),
 AV.sc
 (Value.slice none
 (0 : Nat)
 (0 : Nat))].length))
 Tr.leaf).node
 (some
 ((61 : Nat),
 [AV.sc
 (Value.string
 (ByteArray.mk
 (Array.mk
 [(112 : UInt8),
 (111 : UInt8),
 (115 : UInt8),
 (105 : UInt8),
 (120 : UInt8)]))),
 AV.sl wEls (0 : Nat),
 AV.sc
 (Value.string
 (ByteArray.mk
 (Array.mk wLow))),
 AV.sc
 (Value.string
 (ByteArray.mk
 (Array.mk wUp))),
 AV.sc
 (Value.slice none
 (0 : Nat) (0 : Nat)),
 AV.sc
 (Value.slice none
 (0 : Nat)
 (0 : Nat))].length))
 Tr.leaf).node
 none
 (Tr.leaf.node
 (some ((108 : Nat), (13 : Nat)))
 Tr.leaf))) ∧
 ∀ (x_5 : List (List UInt8)),
 SomeFld
 (Heap.mk (6 : Nat)
 (((Tr.leaf.node
 (some
 (AObj.cells
 [AV.sc
 (Value.string
 (ByteArray.mk
 (Array.mk
 (List.map
 byteD
 [[AV.sc
 (Value.int
 IntKind.u8
 (↑c.toNat :
 Int))]])))),
 AV.sc
 (Value.string
 (ByteArray.mk
 (Array.mk []))),
 AV.sc
 (Value.int
 IntKind.i64
 (0 : Int)),
 AV.sc
 (Value.int
 IntKind.i64
 (0 : Int)),
 AV.sc
 (Value.int
 IntKind.i64
 (0 : Int)),
 AV.sc
 (Value.int
 IntKind.u64
 (0 : Int)),
 AV.sc
 (Value.int
 IntKind.u64
 (0 : Int)),
 AV.sc
 (Value.int
 IntKind.u64
 (0 : Int)),
 AV.sc
 (Value.int
 IntKind.u64
 (0 : Int)),
 AV.sc
 (Value.int
 IntKind.i64
 (0 : Int)),
 AV.sc
 (Value.int
 IntKind.i64
 (0 : Int)),
 AV.sc
 (Value.int
 IntKind.i64
 (0 : Int)),
 AV.sc
 (Value.slice none
 (0 : Nat)
 (0 : Nat)),
 AV.sc
 (Value.string
 (ByteArray.mk
 (Array.mk
 [(45 : UInt8),
 (45 :
 UInt8)]))),
 AV.sc
 (Value.string
 (ByteArray.mk
 (Array.mk
 x_4))),
 AV.rsl (5 : Nat)
 (0 : Nat)
 (max k
 (↑(List.map
 strEl
 x).length :
 Int)).toNat
 (1 : Nat)]))
 Tr.leaf).node
 (some
 (AObj.cells
 [AV.sc
 (Value.string
 (ByteArray.mk
 (Array.mk
 [(112 : UInt8),
 (111 : UInt8),
 (115 : UInt8),
 (105 : UInt8),
 (120 :
 UInt8)]))),
 AV.sl wEls (0 : Nat),
 AV.sc
 (Value.string
 (ByteArray.mk
 (Array.mk wLow))),
 AV.sc
 (Value.string
 (ByteArray.mk
 (Array.mk wUp))),
 AV.sc
 (Value.slice none
 (0 : Nat) (0 : Nat)),
 AV.sc
 (Value.slice none
 (0 : Nat)
 (0 : Nat))]))
 (Tr.leaf.node
 (some
 (AObj.cells
 (setC
 (overC
 (repC
 (max k
 (↑(List.map strEl
 x).length :
 Int))
 (AV.sc
 (Value.string
 (ByteArray.mk
 (Array.mk
 [])))))
 (0 : Nat)
 (flatC
 (List.map strEl x)
 (max k
 (↑(List.map
 strEl
 x).length :
 Int)).toNat))
 ((0 : Nat) +
 (IntKind.i64.wrap
 (k -
 (1 :
 Int))).toNat *
 (1 : Nat))
 (AV.sc
 (Value.string
 (ByteArray.mk
 (Array.mk t)))))))
 Tr.leaf)).node
 none
 ((Tr.leaf.node
 (some
 (AObj.own (1 : Nat)
 (9 : Nat) x_1.length))
 Tr.leaf).node
 (some
 (AObj.cells
 [AV.sc
 (Value.string
 (ByteArray.mk
 (Array.mk
 (List.map byteD
 [[AV.sc
 (Value.int
 IntKind.u8
 (↑c.toNat :
 Int))]])))),
 AV.sc
 (Value.string
 (ByteArray.mk
 (Array.mk []))),
 AV.sc
 (Value.int IntKind.i64
 (0 : Int)),
 AV.sc
 (Value.int IntKind.i64
 (0 : Int)),
 AV.sc
 (Value.int IntKind.i64
 (0 : Int)),
 AV.sc
 (Value.int IntKind.u64
 (0 : Int)),
 AV.sc
 (Value.int IntKind.u64
 (0 : Int)),
 AV.sc
 (Value.int IntKind.u64
 (0 : Int)),
 AV.sc
 (Value.int IntKind.u64
 (0 : Int)),
 AV.sc
 (Value.int IntKind.i64
 (0 : Int)),
 AV.sc
 (Value.int IntKind.i64
 (0 : Int)),
 AV.sc
 (Value.int IntKind.i64
 (0 : Int)),
 AV.sc
 (Value.slice none
 (0 : Nat) (0 : Nat))]))
 Tr.leaf))
 (0 : Nat)
 (((Tr.leaf.node
 (some
 ((112 : Nat),
 [AV.sc
 (Value.string
 (ByteArray.mk
 (Array.mk
 (List.map
 byteD
 [[AV.sc
 (Value.int
 IntKind.u8
 (↑c.toNat :
 Int))]])))),
 AV.sc
 (Value.string
 (ByteArray.mk
 (Array.mk
 []))),
 AV.sc
 (Value.int
 IntKind.i64
 (0 : Int)),
 AV.sc
 (Value.int
 IntKind.i64
 (0 : Int)),
 AV.sc
 (Value.int
 IntKind.i64
 (0 : Int)),
 AV.sc
 (Value.int
 IntKind.u64
 (0 : Int)),
 AV.sc
 (Value.int
 IntKind.u64
 (0 : Int)),
 AV.sc
 (Value.int
 IntKind.u64
 (0 : Int)),
 AV.sc
 (Value.int
 IntKind.u64
 (0 : Int)),
 AV.sc
 (Value.int
 IntKind.i64
 (0 : Int)),
 AV.sc
 (Value.int
 IntKind.i64
 (0 : Int)),
 AV.sc
 (Value.int
 IntKind.i64
 (0 : Int)),
 AV.sc
 (Value.slice none
 (0 : Nat)
 (0 : Nat)),
 AV.sc
 (Value.string
 (ByteArray.mk
 (Array.mk
 [(45 :
 UInt8),
 (45 :
 UInt8)]))),
 AV.sc
 (Value.string
 (ByteArray.mk
 (Array.mk
 []))),
 AV.sc
 (Value.slice none
 (0 : Nat)
 (0 :
 Nat))].length))
 Tr.leaf).node
 (some
 ((61 : Nat),
 [AV.sc
 (Value.string
 (ByteArray.mk
 (Array.mk
 [(112 : UInt8),
 (111 : UInt8),
 (115 : UInt8),
 (105 : UInt8),
 (120 :
 UInt8)]))),
 AV.sl wEls (0 : Nat),
 AV.sc
 (Value.string
 (ByteArray.mk
 (Array.mk wLow))),
 AV.sc
 (Value.string
 (ByteArray.mk
 (Array.mk wUp))),
 AV.sc
 (Value.slice none
 (0 : Nat)
 (0 : Nat)),
 AV.sc
 (Value.slice none
 (0 : Nat)
 (0 : Nat))].length))
 Tr.leaf).node
 none
 (Tr.leaf.node
 (some ((108 : Nat), (13 : Nat)))
 Tr.leaf)))
 x_5 →
 iteP
 ((↑(List.map strEl x_5).length : Int) !=
 max
 (↑(List.map strEl x_1).length : Int)
 k)
 (K (AV.sc (Value.bool false)))
 (JoinOk (List.map strEl x_5)
 [(45 : UInt8), (45 : UInt8)] ∧
 ∀ (x_6 : List UInt8),
 IsJoin x_6 (List.map strEl x_5)
 [(45 : UInt8), (45 : UInt8)] →
 iteP (decide (x_4 ≠ x_6))
 (K (AV.sc (Value.bool false)))
 (iteP
 (inRange
 (IntKind.i64.wrap
 (k - (1 : Int)))
 (List.map strEl x_5).length)
 (getI
 (IntKind.i64.wrap
 (k -
 (1 : Int))).toNat
 (List.map strEl x_5) =
 some
 [AV.sc
 (Value.string
 (ByteArray.mk
 (Array.mk
 (cellStr
 (List.map
 strEl x_5)
 (IntKind.i64.wrap
 (k -
 (1 :
 Int)))
 (0 :
 Nat)))))] ∧
 iteP
 (decide
 (cellStr
 (List.map strEl x_5)
 (IntKind.i64.wrap
 (k - (1 : Int)))
 (0 : Nat) ≠
 t))
 (K
 (AV.sc
 (Value.bool false)))
 (loopAt Tryz.prog
 (8 : Nat)
 (17 : Nat) =
 loopAt Tryz.prog
 (8 : Nat)
 (17 : Nat) ∧
 (I8 op k t
 (AV.sl
 (List.map
 strEl x_1)
 ((3 : Nat) +
 (1 :
 Nat) +
 (1 : Nat)))
 (List.map strEl
 x_5)
 (7 : Nat)
 (0 : Int)
 (Heap.mk
 (7 : Nat)
 (((Tr.leaf.node
 (some
 (AObj.cells
 [AV.sc
 (Value.string
 (ByteArray.mk
 (Array.mk
 (List.map
 byteD
 [[AV.sc
 (Value.int
 IntKind.u8
 (↑c.toNat :
 Int))]])))),
 AV.sc
 (Value.string
 (ByteArray.mk
 (Array.mk
 []))),
 AV.sc
 (Value.int
 IntKind.i64
 (0 :
 Int)),
 AV.sc
 (Value.int
 IntKind.i64
 (0 :
 Int)),
 AV.sc
 (Value.int
 IntKind.i64
 (0 :
 Int)),
 AV.sc
 (Value.int
 IntKind.u64
 (0 :
 Int)),
 AV.sc
 (Value.int
 IntKind.u64
 (0 :
 Int)),
 AV.sc
 (Value.int
 IntKind.u64
 (0 :
 Int)),
 AV.sc
 (Value.int
 IntKind.u64
 (0 :
 Int)),
 AV.sc
 (Value.int
 IntKind.i64
 (0 :
 Int)),
 AV.sc
 (Value.int
 IntKind.i64
 (0 :
 Int)),
 AV.sc
 (Value.int
 IntKind.i64
 (0 :
 Int)),
 AV.sc
 (Value.slice
 none
 (0 :
 Nat)
 (0 :
 Nat)),
 AV.sc
 (Value.string
 (ByteArray.mk
 (Array.mk
 [(45 :
 UInt8),
 (45 :
 UInt8)]))),
 AV.sc
 (Value.string
 (ByteArray.mk
 (Array.mk
 x_4))),
 AV.rsl
 (5 :
 Nat)
 (0 :
 Nat)
 (max
 k
 (↑(List.map
 strEl
 x).length :
 Int)).toNat
 (1 :
 Nat)]))
 Tr.leaf).node
 (some
 (AObj.cells
 [AV.sc
 (Value.string
 (ByteArray.mk
 (Array.mk
 [(112 :
 UInt8),
 (111 :
 UInt8),
 (115 :
 UInt8),
 (105 :
 UInt8),
 (120 :
 UInt8)]))),
 AV.sl
 wEls
 (0 :
 Nat),
 AV.sc
 (Value.string
 (ByteArray.mk
 (Array.mk
 wLow))),
 AV.sc
 (Value.string
 (ByteArray.mk
 (Array.mk
 wUp))),
 AV.sc
 (Value.slice
 none
 (0 :
 Nat)
 (0 :
 Nat)),
 AV.sc
 (Value.slice
 none
 (0 :
 Nat)
 (0 :
 Nat))]))
 (Tr.leaf.node
 (some
 (AObj.cells
 (setC
 (overC
 (repC
 (max
 k
 (↑(List.map
 strEl
 x).length :
 Int))
 (AV.sc
 (Value.string
 (ByteArray.mk
 (Array.mk
 [])))))
 (0 :
 Nat)
 (flatC
 (List.map
 strEl
 x)
 (max
 k
 (↑(List.map
 strEl
 x).length :
 Int)).toNat))
 ((0 :
 Nat) +
 (IntKind.i64.wrap
 (k -
 (1 :
 Int))).toNat *
 (1 :
 Nat))
 (AV.sc
 (Value.string
 (ByteArray.mk
 (Array.mk
 t)))))))
 Tr.leaf)).node
 none
 ((Tr.leaf.node
 (some
 (AObj.own
 (1 :
 Nat)
 (9 :
 Nat)
 x_1.length))
 Tr.leaf).node
 (some
 (AObj.cells
 [AV.sc
 (Value.string
 (ByteArray.mk
 (Array.mk
 (List.map
 byteD
 [[AV.sc
 (Value.int
 IntKind.u8
 (↑c.toNat :
 Int))]])))),
 AV.sc
 (Value.string
 (ByteArray.mk
 (Array.mk
 []))),
 AV.sc
 (Value.int
 IntKind.i64
 (0 :
 Int)),
 AV.sc
 (Value.int
 IntKind.i64
 (0 :
 Int)),
 AV.sc
 (Value.int
 IntKind.i64
 (0 :
 Int)),
 AV.sc
 (Value.int
 IntKind.u64
 (0 :
 Int)),
 AV.sc
 (Value.int
 IntKind.u64
 (0 :
 Int)),
 AV.sc
 (Value.int
 IntKind.u64
 (0 :
 Int)),
 AV.sc
 (Value.int
 IntKind.u64
 (0 :
 Int)),
 AV.sc
 (Value.int
 IntKind.i64
 (0 :
 Int)),
 AV.sc
 (Value.int
 IntKind.i64
 (0 :
 Int)),
 AV.sc
 (Value.int
 IntKind.i64
 (0 :
 Int)),
 AV.sc
 (Value.slice
 none
 (0 :
 Nat)
 (0 :
 Nat))]))
 (Tr.leaf.node
 (some
 (AObj.own
 (1 :
 Nat)
 (9 :
 Nat)
 x_5.length))
 Tr.leaf)))
 (0 : Nat)
 (((Tr.leaf.node
 (some
 ((112 :
 Nat),
 [AV.sc
 (Value.string
 (ByteArray.mk
 (Array.mk
 (List.map
 byteD
 [[AV.sc
 (Value.int
 IntKind.u8
 (↑c.toNat :
 Int))]])))),
 AV.sc
 (Value.string
 (ByteArray.mk
 (Array.mk
 []))),
 AV.sc
 (Value.int
 IntKind.i64
 (0 :
 Int)),
 AV.sc
 (Value.int
 IntKind.i64
 (0 :
 Int)),
 AV.sc
 (Value.int
 IntKind.i64
 (0 :
 Int)),
 AV.sc
 (Value.int
 IntKind.u64
 (0 :
 Int)),
 AV.sc
 (Value.int
 IntKind.u64
 (0 :
 Int)),
 AV.sc
 (Value.int
 IntKind.u64
 (0 :
 Int)),
 AV.sc
 (Value.int
 IntKind.u64
 (0 :
 Int)),
 AV.sc
 (Value.int
 IntKind.i64
 (0 :
 Int)),
 AV.sc
 (Value.int
 IntKind.i64
 (0 :
 Int)),
 AV.sc
 (Value.int
 IntKind.i64
 (0 :
 Int)),
 AV.sc
 (Value.slice
 none
 (0 :
 Nat)
 (0 :
 Nat)),
 AV.sc
 (Value.string
 (ByteArray.mk
 (Array.mk
 [(45 :
 UInt8),
 (45 :
 UInt8)]))),
 AV.sc
 (Value.string
 (ByteArray.mk
 (Array.mk
 []))),
 AV.sc
 (Value.slice
 none
 (0 :
 Nat)
 (0 :
 Nat))].length))
 Tr.leaf).node
 (some
 ((61 :
 Nat),
 [AV.sc
 (Value.string
 (ByteArray.mk
 (Array.mk
 [(112 :
 UInt8),
 (111 :
 UInt8),
 (115 :
 UInt8),
 (105 :
 UInt8),
 (120 :
 UInt8)]))),
 AV.sl
 wEls
 (0 :
 Nat),
 AV.sc
 (Value.string
 (ByteArray.mk
 (Array.mk
 wLow))),
 AV.sc
 (Value.string
 (ByteArray.mk
 (Array.mk
 wUp))),
 AV.sc
 (Value.slice
 none
 (0 :
 Nat)
 (0 :
 Nat)),
 AV.sc
 (Value.slice
 none
 (0 :
 Nat)
 (0 :
 Nat))].length))
 Tr.leaf).node
 none
 (Tr.leaf.node
 (some
 ((108 :
 Nat),
 (13 :
 Nat)))
 Tr.leaf))) =
 I8 op k t
 (AV.sl
 (List.map
 strEl x_1)
 ((3 : Nat) +
 (1 :
 Nat) +
 (1 : Nat)))
 (List.map strEl
 x_5)
 (7 : Nat)
 (0 : Int)
 (Heap.mk
 (7 : Nat)
 (((Tr.leaf.node
 (some
 (AObj.cells
 [AV.sc
 (Value.string
 (ByteArray.mk
 (Array.mk
 (List.map
 byteD
 [[AV.sc
 (Value.int
 IntKind.u8
 (↑c.toNat :
 Int))]])))),
 AV.sc
 (Value.string
 (ByteArray.mk
 (Array.mk
 []))),
 AV.sc
 (Value.int
 IntKind.i64
 (0 :
 Int)),
 AV.sc
 (Value.int
 IntKind.i64
 (0 :
 Int)),
 AV.sc
 (Value.int
 IntKind.i64
 (0 :
 Int)),
 AV.sc
 (Value.int
 IntKind.u64
 (0 :
 Int)),
 AV.sc
 (Value.int
 IntKind.u64
 (0 :
 Int)),
 AV.sc
 (Value.int
 IntKind.u64
 (0 :
 Int)),
 AV.sc
 (Value.int
 IntKind.u64
 (0 :
 Int)),
 AV.sc
 (Value.int
 IntKind.i64
 (0 :
 Int)),
 AV.sc
 (Value.int
 IntKind.i64
 (0 :
 Int)),
 AV.sc
 (Value.int
 IntKind.i64
 (0 :
 Int)),
 AV.sc
 (Value.slice
 none
 (0 :
 Nat)
 (0 :
 Nat)),
 AV.sc
 (Value.string
 (ByteArray.mk
 (Array.mk
 [(45 :
 UInt8),
 (45 :
 UInt8)]))),
 AV.sc
 (Value.string
 (ByteArray.mk
 (Array.mk
 x_4))),
 AV.rsl
 (5 :
 Nat)
 (0 :
 Nat)
 (max
 k
 (↑(List.map
 strEl
 x).length :
 Int)).toNat
 (1 :
 Nat)]))
 Tr.leaf).node
 (some
 (AObj.cells
 [AV.sc
 (Value.string
 (ByteArray.mk
 (Array.mk
 [(112 :
 UInt8),
 (111 :
 UInt8),
 (115 :
 UInt8),
 (105 :
 UInt8),
 (120 :
 UInt8)]))),
 AV.sl
 wEls
 (0 :
 Nat),
 AV.sc
 (Value.string
 (ByteArray.mk
 (Array.mk
 wLow))),
 AV.sc
 (Value.string
 (ByteArray.mk
 (Array.mk
 wUp))),
 AV.sc
 (Value.slice
 none
 (0 :
 Nat)
 (0 :
 Nat)),
 AV.sc
 (Value.slice
 none
 (0 :
 Nat)
 (0 :
 Nat))]))
 (Tr.leaf.node
 (some
 (AObj.cells
 (setC
 (overC
 (repC
 (max
 k
 (↑(List.map
 strEl
 x).length :
 Int))
 (AV.sc
 (Value.string
 (ByteArray.mk
 (Array.mk
 [])))))
 (0 :
 Nat)
 (flatC
 (List.map
 strEl
 x)
 (max
 k
 (↑(List.map
 strEl
 x).length :
 Int)).toNat))
 ((0 :
 Nat) +
 (IntKind.i64.wrap
 (k -
 (1 :
 Int))).toNat *
 (1 :
 Nat))
 (AV.sc
 (Value.string
 (ByteArray.mk
 (Array.mk
 t)))))))
 Tr.leaf)).node
 none
 ((Tr.leaf.node
 (some
 (AObj.own
 (1 :
 Nat)
 (9 :
 Nat)
 x_1.length))
 Tr.leaf).node
 (some
 (AObj.cells
 [AV.sc
 (Value.string
 (ByteArray.mk
 (Array.mk
 (List.map
 byteD
 [[AV.sc
 (Value.int
 IntKind.u8
 (↑c.toNat :
 Int))]])))),
 AV.sc
 (Value.string
 (ByteArray.mk
 (Array.mk
 []))),
 AV.sc
 (Value.int
 IntKind.i64
 (0 :
 Int)),
 AV.sc
 (Value.int
 IntKind.i64
 (0 :
 Int)),
 AV.sc
 (Value.int
 IntKind.i64
 (0 :
 Int)),
 AV.sc
 (Value.int
 IntKind.u64
 (0 :
 Int)),
 AV.sc
 (Value.int
 IntKind.u64
 (0 :
 Int)),
 AV.sc
 (Value.int
 IntKind.u64
 (0 :
 Int)),
 AV.sc
 (Value.int
 IntKind.u64
 (0 :
 Int)),
 AV.sc
 (Value.int
 IntKind.i64
 (0 :
 Int)),
 AV.sc
 (Value.int
 IntKind.i64
 (0 :
 Int)),
 AV.sc
 (Value.int
 IntKind.i64
 (0 :
 Int)),
 AV.sc
 (Value.slice
 none
 (0 :
 Nat)
 (0 :
 Nat))]))
 (Tr.leaf.node
 (some
 (AObj.own
 (1 :
 Nat)
 (9 :
 Nat)
 x_5.length))
 Tr.leaf)))
 (0 : Nat)
 (((Tr.leaf.node
 (some
 ((112 :
 Nat),
 [AV.sc
 (Value.string
 (ByteArray.mk
 (Array.mk
 (List.map
 byteD
 [[AV.sc
 (Value.int
 IntKind.u8
 (↑c.toNat :
 Int))]])))),
 AV.sc
 (Value.string
 (ByteArray.mk
 (Array.mk
 []))),
 AV.sc
 (Value.int
 IntKind.i64
 (0 :
 Int)),
 AV.sc
 (Value.int
 IntKind.i64
 (0 :
 Int)),
 AV.sc
 (Value.int
 IntKind.i64
 (0 :
 Int)),
 AV.sc
 (Value.int
 IntKind.u64
 (0 :
 Int)),
 AV.sc
 (Value.int
 IntKind.u64
 (0 :
 Int)),
 AV.sc
 (Value.int
 IntKind.u64
 (0 :
 Int)),
 AV.sc
 (Value.int
 IntKind.u64
 (0 :
 Int)),
 AV.sc
 (Value.int
 IntKind.i64
 (0 :
 Int)),
 AV.sc
 (Value.int
 IntKind.i64
 (0 :
 Int)),
 AV.sc
 (Value.int
 IntKind.i64
 (0 :
 Int)),
 AV.sc
 (Value.slice
 none
 (0 :
 Nat)
 (0 :
 Nat)),
 AV.sc
 (Value.string
 (ByteArray.mk
 (Array.mk
 [(45 :
 UInt8),
 (45 :
 UInt8)]))),
 AV.sc
 (Value.string
 (ByteArray.mk
 (Array.mk
 []))),
 AV.sc
 (Value.slice
 none
 (0 :
 Nat)
 (0 :
 Nat))].length))
 Tr.leaf).node
 (some
 ((61 :
 Nat),
 [AV.sc
 (Value.string
 (ByteArray.mk
 (Array.mk
 [(112 :
 UInt8),
 (111 :
 UInt8),
 (115 :
 UInt8),
 (105 :
 UInt8),
 (120 :
 UInt8)]))),
 AV.sl
 wEls
 (0 :
 Nat),
 AV.sc
 (Value.string
 (ByteArray.mk
 (Array.mk
 wLow))),
 AV.sc
 (Value.string
 (ByteArray.mk
 (Array.mk
 wUp))),
 AV.sc
 (Value.slice
 none
 (0 :
 Nat)
 (0 :
 Nat)),
 AV.sc
 (Value.slice
 none
 (0 :
 Nat)
 (0 :
 Nat))].length))
 Tr.leaf).node
 none
 (Tr.leaf.node
 (some
 ((108 :
 Nat),
 (13 :
 Nat)))
 Tr.leaf))) ∧
 Changed
 (AV.sl
 (List.map strEl
 x_1)
 ((3 : Nat) +
 (1 : Nat) +
 (1 : Nat)))
 (List.map strEl
 x_5)
 k t) ∧
 ∀ (_ : Unit),
 True →
 True ∧
 ∀ (_ : Unit),
 True →
 K
 (AV.sc
 (Value.bool
 true))))
 False)))
 False)
 False))
 False)
 False))
 False))))))))))) :
 (fun (m : Int) (s : List UInt8) (c : UInt8) (op k : Int) (t : List UInt8) (K : AV → Prop) => wpCall T8a (cf m) Tryz.prog 60 8 [aStr s, aK .u8 c.toNat, .agg [.sc (.int .i64 op), .sc (.int .i64 k), aStr t]] heap0 fun r _ => K r) m s c op k t K :=
 Eq.mp (by kernel_rfl) h
end
end Go.Proofs.Rd
namespace Go.Proofs.Rd
open Go Go.Ef
noncomputable section
set_option maxRecDepth 100000
theorem v8s (m : Int) (op : Int) (k : Int) (t : List UInt8) (els1 : List (List AV)) (tok1 : Nat) (els : List (List AV)) (tok : Nat) (i : Int) (H : Heap) (N : Int → Prop) (X : Prop) (h :
 iteP (decide (i < (↑els.length : Int)))
 (iteP (i != IntKind.i64.wrap (k - (1 : Int)))
 (iteP (decide (i < (↑els1.length : Int)))
 (iteP (inRange i els.length)
 (getI i.toNat els = some [AV.sc (Value.string (ByteArray.mk (Array.mk (cellStr els i (0 : Nat)))))] ∧
 iteP (inRange i els1.length)
 (getI i.toNat els1 = some [AV.sc (Value.string (ByteArray.mk (Array.mk (cellStr els1 i (0 : Nat)))))] ∧
 iteP (decide (cellStr els i (0 : Nat) ≠ cellStr els1 i (0 : Nat))) False
 (iteP (decide ((↑els1.length : Int) ≤ i))
 (iteP (inRange i els.length)
 (getI i.toNat els =
 some [AV.sc (Value.string (ByteArray.mk (Array.mk (cellStr els i (0 : Nat)))))] ∧
 iteP (decide (cellStr els i (0 : Nat) ≠ [])) False
 (I8 op k t (AV.sl els1 tok1) els tok (IntKind.i64.wrap (i + (1 : Int))) H =
 I8 op k t (AV.sl els1 tok1) els tok (IntKind.i64.wrap (i + (1 : Int))) H ∧
 N (IntKind.i64.wrap (i + (1 : Int)))))
 False)
 (I8 op k t (AV.sl els1 tok1) els tok (IntKind.i64.wrap (i + (1 : Int))) H =
 I8 op k t (AV.sl els1 tok1) els tok (IntKind.i64.wrap (i + (1 : Int))) H ∧
 N (IntKind.i64.wrap (i + (1 : Int))))))
 False)
 False)
 (iteP (decide ((↑els1.length : Int) ≤ i))
 (iteP (inRange i els.length)
 (getI i.toNat els = some [AV.sc (Value.string (ByteArray.mk (Array.mk (cellStr els i (0 : Nat)))))] ∧
 iteP (decide (cellStr els i (0 : Nat) ≠ [])) False
 (I8 op k t (AV.sl els1 tok1) els tok (IntKind.i64.wrap (i + (1 : Int))) H =
 I8 op k t (AV.sl els1 tok1) els tok (IntKind.i64.wrap (i + (1 : Int))) H ∧
 N (IntKind.i64.wrap (i + (1 : Int)))))
 False)
 (I8 op k t (AV.sl els1 tok1) els tok (IntKind.i64.wrap (i + (1 : Int))) H =
 I8 op k t (AV.sl els1 tok1) els tok (IntKind.i64.wrap (i + (1 : Int))) H ∧
 N (IntKind.i64.wrap (i + (1 : Int))))))
 (I8 op k t (AV.sl els1 tok1) els tok (IntKind.i64.wrap (i + (1 : Int))) H =
 I8 op k t (AV.sl els1 tok1) els tok (IntKind.i64.wrap (i + (1 : Int))) H ∧
 N (IntKind.i64.wrap (i + (1 : Int)))))
 (Ex.exit (0 : Nat) = Ex.exit (0 : Nat) ∧ E8 op k t H = E8 op k t H ∧ X)) :
 (fun (m : Int) (op k : Int) (t : List UInt8) (els1 : List (List AV)) (tok1 : Nat) (els : List (List AV)) (tok : Nat) (i : Int) (H : Heap) (N : Int → Prop) (X : Prop) => wpRound lz (cf m) Tryz.prog 60 8 17 (I8 op k t (.sl els1 tok1) els tok i H) (fun τ => τ = I8 op k t (.sl els1 tok1) els tok (slI τ 14) H ∧ N (slI τ 14)) (q8 op k t H X)) m op k t els1 tok1 els tok i H N X :=
 Eq.mp (by kernel_rfl) h
theorem v8n (m : Int) (op : Int) (k : Int) (t : List UInt8) (els : List (List AV)) (tok : Nat) (i : Int) (H : Heap) (N : Int → Prop) (X : Prop) (h :
 iteP (decide (i < (↑els.length : Int)))
 (iteP (i != IntKind.i64.wrap (k - (1 : Int)))
 (iteP (decide (i < (0 : Int)))
 (iteP (inRange i els.length)
 (getI i.toNat els = some [AV.sc (Value.string (ByteArray.mk (Array.mk (cellStr els i (0 : Nat)))))] ∧ False)
 False)
 (iteP (decide ((0 : Int) ≤ i))
 (iteP (inRange i els.length)
 (getI i.toNat els = some [AV.sc (Value.string (ByteArray.mk (Array.mk (cellStr els i (0 : Nat)))))] ∧
 iteP (decide (cellStr els i (0 : Nat) ≠ [])) False
 (I8 op k t (AV.sc (Value.slice none (0 : Nat) (0 : Nat))) els tok (IntKind.i64.wrap (i + (1 : Int))) H =
 I8 op k t (AV.sc (Value.slice none (0 : Nat) (0 : Nat))) els tok (IntKind.i64.wrap (i + (1 : Int)))
 H ∧
 N (IntKind.i64.wrap (i + (1 : Int)))))
 False)
 (I8 op k t (AV.sc (Value.slice none (0 : Nat) (0 : Nat))) els tok (IntKind.i64.wrap (i + (1 : Int))) H =
 I8 op k t (AV.sc (Value.slice none (0 : Nat) (0 : Nat))) els tok (IntKind.i64.wrap (i + (1 : Int))) H ∧
 N (IntKind.i64.wrap (i + (1 : Int))))))
 (I8 op k t (AV.sc (Value.slice none (0 : Nat) (0 : Nat))) els tok (IntKind.i64.wrap (i + (1 : Int))) H =
 I8 op k t (AV.sc (Value.slice none (0 : Nat) (0 : Nat))) els tok (IntKind.i64.wrap (i + (1 : Int))) H ∧
 N (IntKind.i64.wrap (i + (1 : Int)))))
 (Ex.exit (0 : Nat) = Ex.exit (0 : Nat) ∧ E8 op k t H = E8 op k t H ∧ X)) :
 (fun (m : Int) (op k : Int) (t : List UInt8) (els : List (List AV)) (tok : Nat) (i : Int) (H : Heap) (N : Int → Prop) (X : Prop) => wpRound lz (cf m) Tryz.prog 60 8 17 (I8 op k t nilA els tok i H) (fun τ => τ = I8 op k t nilA els tok (slI τ 14) H ∧ N (slI τ 14)) (q8 op k t H X)) m op k t els tok i H N X :=
 Eq.mp (by kernel_rfl) h
end
end Go.Proofs.Rd
namespace Go.Proofs.Rd
open Go Go.Ef
noncomputable section
set_option maxRecDepth 100000
variable {m : Int} {T : Tab}
theorem putL_len (L : List (List UInt8)) (j : Nat) (t : List UInt8) : (putL L j t).length = max L.length j := by
 unfold putL
 rw [List.length_set, List.length_append, List.length_replicate]; omega
theorem putL_other {L : List (List UInt8)} {j i : Nat} {t : List UInt8} (hi : i < max L.length j) (hne : i ≠ j - 1) : (putL L j t)[i]? = some ((L[i]?).getD []) := by
 unfold putL
 rw [List.getElem?_set_ne (by omega)]
 by_cases h : i < L.length
 ·rw [List.getElem?_append_left h, List.getElem?_eq_getElem h]; rfl
 ·rw [List.getElem?_append_right (by omega), List.getElem?_replicate, if_pos (by omega), List.getElem?_eq_none (by omega)]; rfl
theorem putL_at {L : List (List UInt8)} {j : Nat} {t : List UInt8} (hj : 1 ≤ j) : (putL L j t)[j - 1]? = some t := by
 unfold putL
 rw [List.getElem?_set_self]
 simp; omega
theorem okz8 : Ok m lz := ⟨fun _ _ _ _ _ ht => (by cases ht), fun _ _ _ _ _ ht => (by cases ht)⟩
theorem loop8 (m : Int) (op : Int) (j : Nat) (t : List UInt8) (b : AV) (L : List (List UInt8)) (tok : Nat) (H : Heap) (hB : Before b L) (hj : 1 ≤ j) (hl : L.length ≤ 1024) (hj2 : j ≤ 1024) : ∀ (f i : Nat), max L.length j - i = f → i ≤ max L.length j →
  Ev (cf m) Tryz.prog 8 (.loop (loopAt Tryz.prog 8 17)) (I8 op j t b ((putL L j t).map strEl) tok i H) fun e τ => e = .exit 0 ∧ τ = E8 op j t H := by
 have can : ∀ i : Nat, (I8 op j t b ((putL L j t).map strEl) tok i H).tidy [5, 10, 12, 14] 1 = I8 op j t b ((putL L j t).map strEl) tok i H := fun i => by kernel_rfl
 have out : ∀ e τ, q8 op j t H True e τ → e = .exit 0 ∧ τ = E8 op j t H := by
  intro e τ h
  unfold q8 at h
  split at h
  ·exact ⟨h.1, h.2.1⟩
  ·exact h.elim
 have wk : IntKind.i64.wrap ((j : Int) - 1) = ((j - 1 : Nat) : Int) := by rw [wrap_in (by omega) (by omega)]; omega
 have hM := putL_len L j t
 intro f
 induction f with
 | zero =>
  intro i hf hi
  have hge : ¬ (i : Int) < (((putL L j t).map strEl).length : Int) := by rw [List.length_map, hM]; omega
  cases hB with
  | nil =>
   refine Ev.round (t := ⟨[5, 10, 12, 14], [6], 1⟩) okz8 (by kernel_rfl) rfl (can i) (v8n m op j t _ tok i H (fun _ => False) True ?_) (fun τ h => h.2.elim) out
   rw [decide_eq_false hge, iteP_f]
   exact ⟨rfl, rfl, trivial⟩
  | sl L tok1 =>
   refine Ev.round (t := ⟨[5, 10, 12, 14], [6], 1⟩) okz8 (by kernel_rfl) rfl (can i) (v8s m op j t _ tok1 _ tok i H (fun _ => False) True ?_) (fun τ h => h.2.elim) out
   rw [decide_eq_false hge, iteP_f]
   exact ⟨rfl, rfl, trivial⟩
 | succ f ih =>
  intro i hf hi
  have hlt : i < max L.length j := by omega
  have hw : IntKind.i64.wrap ((i : Int) + 1) = ((i + 1 : Nat) : Int) := by rw [wrap_in (by omega) (by omega)]; rfl
  have hlen : ((putL L j t).map strEl).length = max L.length j := by rw [List.length_map, hM]
  have hr : inRange (i : Int) (max L.length j) = true := by rw [inRange_iff]; omega
  have next : ∀ τ : St, τ = I8 op j t b ((putL L j t).map strEl) tok (slI τ 14) H ∧ slI τ 14 = ((i + 1 : Nat) : Int) → Ev (cf m) Tryz.prog 8 (.loop (loopAt Tryz.prog 8 17)) τ fun e τ => e = .exit 0 ∧ τ = E8 op j t H := by
   rintro τ ⟨h1, h2⟩
   rw [h2] at h1
   rw [h1]
   exact ih (i + 1) (by omega) (by omega)
  have outF : ∀ e τ, q8 op j t H False e τ → e = .exit 0 ∧ τ = E8 op j t H := by
   intro e τ h
   unfold q8 at h
   split at h
   ·exact h.2.2.elim
   ·exact h.elim
  cases hB with
  | nil =>
   refine Ev.round (t := ⟨[5, 10, 12, 14], [6], 1⟩) okz8 (by kernel_rfl) rfl (can i) (v8n m op j t _ tok i H (fun n => n = ((i + 1 : Nat) : Int)) False ?_) next outF
   rw [hlen, decide_eq_true (by omega), iteP_t, wk, hr, hw]
   by_cases hne : i = j - 1
   ·subst hne
    rw [show (((j - 1 : Nat) : Int) != ((j - 1 : Nat) : Int)) = false by simp, iteP_f]
    exact ⟨rfl, rfl⟩
   ·have hx := putL_other (t := t) hlt hne
    have hx : (putL [] j t)[i]? = some [] := hx
    rw [show ((i : Int) != ((j - 1 : Nat) : Int)) = true by simp; omega, iteP_t, decide_eq_false (by omega), iteP_f, decide_eq_true (by omega), iteP_t, iteP_t]
    refine ⟨Rc.cell_some hx, ?_⟩
    rw [Rc.cell_str hx, decide_eq_false (by simp), iteP_f]
    exact ⟨rfl, rfl⟩
  | sl L tok1 =>
   refine Ev.round (t := ⟨[5, 10, 12, 14], [6], 1⟩) okz8 (by kernel_rfl) rfl (can i) (v8s m op j t _ tok1 _ tok i H (fun n => n = ((i + 1 : Nat) : Int)) False ?_) next outF
   rw [hlen, decide_eq_true (by omega), iteP_t, wk, hr, hw]
   by_cases hne : i = j - 1
   ·subst hne
    rw [show (((j - 1 : Nat) : Int) != ((j - 1 : Nat) : Int)) = false by simp, iteP_f]
    exact ⟨rfl, rfl⟩
   ·have hx := putL_other (t := t) hlt hne
    rw [show ((i : Int) != ((j - 1 : Nat) : Int)) = true by simp; omega, iteP_t, List.length_map]
    by_cases hi2 : i < L.length
    ·have hy : L[i]? = some L[i] := List.getElem?_eq_getElem hi2
     have hx : (putL L j t)[i]? = some L[i] := by rw [hx, hy]; rfl
     rw [decide_eq_true (by omega), iteP_t, iteP_t]
     refine ⟨Rc.cell_some hx, ?_⟩
     rw [show inRange (i : Int) L.length = true by rw [inRange_iff]; omega, iteP_t]
     refine ⟨Rc.cell_some hy, ?_⟩
     rw [Rc.cell_str hx, Rc.cell_str hy, decide_eq_false (by simp), iteP_f, decide_eq_false (by omega), iteP_f]
     exact ⟨rfl, rfl⟩
    ·have hx : (putL L j t)[i]? = some [] := by rw [hx, List.getElem?_eq_none (by omega)]; rfl
     rw [decide_eq_false (by omega), iteP_f, decide_eq_true (by omega), iteP_t, iteP_t]
     refine ⟨Rc.cell_some hx, ?_⟩
     rw [Rc.cell_str hx, decide_eq_false (by simp), iteP_f]
     exact ⟨rfl, rfl⟩
theorem ok8L (O : Ok m T) : Ok m (T.addL 8 17 L8) := by
 refine addL_ok O fun σ s hs hp => ?_
 cases hs
 obtain ⟨e, L, j, hB, hk, hj, hels, hl, hj2⟩ := hp
 have he : Ev (cf m) Tryz.prog 8 (.loop (loopAt Tryz.prog 8 17)) σ fun e τ => e = .exit 0 ∧ τ = E8 (lcI σ 0 0) (lcI σ 0 1) (lcS σ 0 2) σ.h := by
  refine Ev.tidied (t := ⟨[5, 10, 12, 14], [6], 1⟩) (τ := I8 (lcI σ 0 0) j (lcS σ 0 2) (avAt σ 10) ((putL L j (lcS σ 0 2)).map strEl) (tokAt σ 12) (0 : Nat) σ.h) (by kernel_rfl) (by rw [e, hk, hels]; kernel_rfl) ?_
  rw [hk]
  exact loop8 m (lcI σ 0 0) j (lcS σ 0 2) (avAt σ 10) L (tokAt σ 12) σ.h hB hj hl hj2 _ 0 rfl (Nat.zero_le _)
 obtain ⟨n, ex, τ, h6, rfl, rfl⟩ := he
 exact ⟨_, List.mem_singleton.2 rfl, (), trivial, n, h6⟩
theorem ev22 (m : Int) : evIs m 22 [] locA = true := by kernel_rfl
theorem ok22 (O : Ok m T) : Ok m (T.addC 22 C22) := by
 refine addC_ok O fun args h s hs _ => ?_
 unfold C22 at hs
 split at hs
 ·cases hs
  refine ⟨_, List.mem_singleton.2 rfl, (), 1000, trivial, ?_⟩
  show callP (cf m) (evCall (cf m) Tryz.prog 1000) 22 [] h = some (locL, h)
  rw [locL_eq]
  have hf : (cf m).fresh 22 = true := by kernel_rfl
  have hp : (cf m).prim 22 = none := by kernel_rfl
  have hv := ev22 m
  unfold evIs at hv
  unfold callP at hv ⊢
  rw [hp] at hv ⊢
  simp only [] at hv ⊢
  rw [hf] at hv ⊢
  simp only [cond_true] at hv ⊢
  cases ha : mapO (stripA 8) ([] : List AV) with
  | none => rw [ha] at hv; cases hv
  | some args' =>
   rw [ha] at hv
   simp only [] at hv ⊢
   cases hr : evCall (cf m) Tryz.prog 1000 22 args' heapF with
   | none => rw [hr] at hv; cases hv
   | some r =>
    obtain ⟨r, h'⟩ := r
    rw [hr] at hv
    simp only [] at hv ⊢
    cases hs : strip 8 h' r with
    | none => rw [hs] at hv; cases hv
    | some r' =>
     rw [hs] at hv
     simp only [] at hv ⊢
     rw [eqA_spec _ _ _ hv]
 ·cases hs
theorem okT8a : Ok m T8a := ok8L (ok49L (ok73 (ok31 (ok30 (ok48a (ok22 (Rc.ok20 okz8)))))))
theorem okT8b : Ok m T8b := ok8L (ok49L (ok73 (ok31 (ok30 (ok48b (ok22 (Rc.ok20 okz8)))))))
end
end Go.Proofs.Rd
namespace Go.Proofs.Rd
open Go Go.Ef
noncomputable section
set_option maxRecDepth 100000
theorem byte1 (c : UInt8) : List.map byteD [[AV.sc (Value.int IntKind.u8 (c.toNat : Int))]] = [c] := by
 show [(UInt8.ofNat (c.toNat : Int).toNat)] = [c]
 rw [Int.toNat_natCast, UInt8.ofNat_toNat]
theorem parts_pos (c : UInt8) (s : List UInt8) : partsOf c s ≠ [] := Rc.parts_ne c s
theorem join_cons2 {x : List UInt8} {P : List (List UInt8)} (h : P ≠ []) (t : List UInt8) : Lib.join (x :: P) t = x ++ t ++ Lib.join P t := by
 cases P with
 | nil => exact absurd rfl h
 | cons p r =>
  rw [Lib.join_cons, Lib.join_cons]
  simp [Lib.joinTail]
theorem join_parts (c : UInt8) (s : List UInt8) : Lib.join (partsOf c s) [c] = s := by
 induction s with
 | nil => rfl
 | cons b l ih =>
  rw [partsOf_cons]
  by_cases h : b = c
  ·rw [if_pos h, join_cons2 (parts_pos c l), ih, h]; rfl
  ·rw [if_neg h]
   cases hq : partsOf c l with
   | nil => exact absurd hq (parts_pos c l)
   | cons p r =>
    rw [hq] at ih
    show Lib.join ((b :: p) :: r) [c] = b :: l
    rw [Lib.join_cons]
    rw [Lib.join_cons] at ih
    rw [← ih]; rfl
theorem parts_small (c : UInt8) (s : List UInt8) : ∀ x ∈ partsOf c s, x.length ≤ s.length := by
 induction s with
 | nil => intro x hx; simp [partsOf] at hx; subst hx; exact Nat.le_refl _
 | cons b l ih =>
  intro x hx
  rw [partsOf_cons] at hx
  by_cases h : b = c
  ·rw [if_pos h] at hx
   rcases List.mem_cons.1 hx with rfl | hx
   ·exact Nat.zero_le _
   ·have := ih x hx
    simp; omega
  ·rw [if_neg h] at hx
   cases hq : partsOf c l with
   | nil => exact absurd hq (parts_pos c l)
   | cons p r =>
    rw [hq] at hx ih
    rcases List.mem_cons.1 (show x ∈ (b :: p) :: r from hx) with rfl | hx
    ·have := ih p (List.mem_cons_self ..)
     simp; omega
    ·have := ih x (List.mem_cons_of_mem _ hx)
     simp; omega
theorem join_bound {M : List (List UInt8)} {t : List UInt8} {b : Nat} (h : ∀ x ∈ M, x.length ≤ b) : (Lib.join M t).length ≤ M.length * (b + t.length) := by
 induction M with
 | nil => simp [Lib.join_nil]
 | cons x r ih =>
  have h1 := h x (List.mem_cons_self ..)
  by_cases hr : r = []
  ·subst hr; rw [Lib.join_one]; simp; omega
  ·rw [join_cons2 hr]
   have := ih fun y hy => h y (List.mem_cons_of_mem _ hy)
   simp only [List.length_append, List.length_cons, Nat.add_mul, Nat.one_mul]
   omega
theorem putL_mem {L : List (List UInt8)} {j : Nat} {t : List UInt8} {b : Nat} (h : ∀ x ∈ L, x.length ≤ b) (ht : t.length ≤ b) : ∀ x ∈ putL L j t, x.length ≤ b := by
 intro x hx
 unfold putL at hx
 rcases List.mem_or_eq_of_mem_set hx with hx | rfl
 ·rcases List.mem_append.1 hx with hx | hx
  ·exact h x hx
  ·rw [List.eq_of_mem_replicate hx]; exact Nat.zero_le _
 ·exact ht
theorem flat_str (L : List (List UInt8)) {n : Nat} (h : L.length ≤ n) : flatC (L.map strEl) n = L.map aStr := by
 unfold flatC
 rw [List.take_of_length_le (by simpa using h)]
 induction L with
 | nil => rfl
 | cons a L ih =>
  rw [List.map_cons, List.flatten_cons, ih (by simp at h; omega)]; rfl
theorem row_put (L : List (List UInt8)) (j i : Nat) (t : List UInt8) (N : Nat) (hN : N = max j L.length) (hi : i = j - 1) :
  setC (overC (repC ((N : Nat) : Int) (AV.sc (Value.string (ByteArray.mk (Array.mk []))))) 0 (flatC (L.map strEl) N)) i (AV.sc (Value.string (ByteArray.mk (Array.mk t)))) = (putL L j t).map aStr := by
 rw [flat_str L (by omega)]
 unfold setC overC repC putL
 rw [Int.toNat_natCast, List.take_zero, List.nil_append, List.length_map, Nat.zero_add, List.drop_replicate, hi, List.map_set, List.map_append, List.map_replicate, show N - L.length = j - L.length by omega]
 rfl
theorem row_fit (L : List (List UInt8)) (N : Nat) (h : L.length ≤ N) : fitC (repC ((N : Nat) : Int) (AV.sc (Value.string (ByteArray.mk (Array.mk []))))) 0 (flatC (L.map strEl) N) = true := by
 rw [flat_str L h]
 unfold fitC repC
 rw [List.length_map, Int.toNat_natCast, List.length_replicate, Nat.zero_add, Nat.ble_eq_true_of_le h, Bool.true_and, List.all_map]
 exact List.all_eq_true.2 fun _ _ => rfl
theorem row_ne (L : List (List UInt8)) (N : Nat) (h : L.length ≤ N) (hne : L ≠ []) : (flatC (L.map strEl) N).isEmpty = false := by
 rw [flat_str L h]
 cases L with
 | nil => exact absurd rfl hne
 | cons _ _ => rfl
theorem row_in8 (L : List (List UInt8)) (N i : Nat) (h : L.length ≤ N) (hi : i < N) : ltLen i (overC (repC ((N : Nat) : Int) (AV.sc (Value.string (ByteArray.mk (Array.mk []))))) 0 (flatC (L.map strEl) N)) = true := by
 rw [flat_str L h]
 unfold ltLen overC repC
 refine Nat.ble_eq_true_of_le ?_
 simp
 omega
theorem all_len1 (L : List (List UInt8)) : (L.map strEl).all (fun (e : List AV) => e.length.beq 1) = true := by
 rw [List.all_map]
 exact List.all_eq_true.2 fun _ _ => rfl
end
end Go.Proofs.Rd
namespace Go.Proofs.Rd
open Go Go.Ef
noncomputable section
set_option maxRecDepth 100000
set_option maxHeartbeats 4000000 in
theorem law8a (m : Int) (s : List UInt8) (c : UInt8) (op k : Int) (t : List UInt8) (hne : s ≠ []) : ∃ n h, evCall (cf m) Tryz.prog n 8 [aStr s, aK .u8 c.toNat, .agg [.sc (.int .i64 op), .sc (.int .i64 k), aStr t]] heap0 = some (aBool true, h) := by
 have key := call_okW (okT8a (m := m)) 60 8 [aStr s, aK .u8 c.toNat, .agg [.sc (.int .i64 op), .sc (.int .i64 k), aStr t]] heap0 (fun r _ => r = aBool true) (c8a m s c op k t (fun r => r = aBool true) ?_)
 ·obtain ⟨n, r, h', h1, rfl⟩ := key
  exact ⟨n, h', h1⟩
 by_cases h1 : (200 : Int) < (s.length : Int)
 ·rw [decide_eq_true h1, iteP_t]; exact ⟨trivial, fun _ _ => rfl⟩
 rw [decide_eq_false h1, iteP_f]
 by_cases h2 : c = 32
 ·subst h2; exact ⟨trivial, fun _ _ => rfl⟩
 rw [show ((c.toNat : Int) == 32) = false by
  rw [beq_eq_false_iff_ne]
  intro e
  exact h2 (UInt8.toNat_inj.1 (by have : (32 : UInt8).toNat = 32 := rfl; omega)), iteP_f]
 by_cases h3 : k < 1
 ·rw [decide_eq_true h3, iteP_t]; exact ⟨trivial, fun _ _ => rfl⟩
 rw [decide_eq_false h3, iteP_f]
 by_cases h4 : 50 < k
 ·rw [decide_eq_true h4, iteP_t]; exact ⟨trivial, fun _ _ => rfl⟩
 rw [decide_eq_false h4, iteP_f]
 by_cases h5 : (200 : Int) < (t.length : Int)
 ·rw [decide_eq_true h5, iteP_t]; exact ⟨trivial, fun _ _ => rfl⟩
 rw [decide_eq_false h5, iteP_f]
 obtain ⟨j, rfl⟩ : ∃ j : Nat, k = j := ⟨k.toNat, by omega⟩
 refine ⟨trivial, fun _ _ => ?_⟩
 rw [decide_eq_false (by omega), iteP_f, byte1 c]
 have hlen : (partsOf c s).length ≤ 201 := by have := Rc.parts_len c s; omega
 refine ⟨⟨c, rfl, hne, h2, by omega, by omega⟩, fun L hL => ?_⟩
 have hL := hL.is c rfl
 have hLne : L ≠ [] := by rw [hL]; exact parts_pos c s
 have hLlen : L.length ≤ 201 := by rw [hL]; exact hlen
 have hLs : ∀ x ∈ L, x.length ≤ 200 := fun x hx => by
  rw [hL] at hx
  have := parts_small c s x hx
  omega
 have hLr : ∀ x ∈ L, Room x := fun x hx => ⟨by have := hLs x hx; omega⟩
 have hj : Lib.join L [c] = s := by rw [hL]; exact join_parts c s
 rw [decide_eq_false (by simp), iteP_f]
 refine ⟨⟨⟨L, ⟨c, [45, 45], s, _, rfl, .sl L hLne⟩, by omega, hLr⟩, Nat.zero_le _⟩, fun B hB => ?_⟩
 have hB : L = B := IsRec.uniq ⟨c, [45, 45], s, _, rfl, .sl L hLne⟩ hB.is
 subst hB
 refine ⟨⟨L, rfl, by rw [hj]; omega, by omega⟩, fun x2 hx2 => ?_⟩
 have hx2 := hx2.is L rfl
 rw [hj] at hx2
 subst hx2
 rw [decide_eq_false (by simp), iteP_f, iteP_f, decide_eq_false (by omega), iteP_f]
 obtain ⟨M, hMd⟩ : ∃ M, M = putL L j t := ⟨_, rfl⟩
 have hM : M.length = max j L.length := by rw [hMd, putL_len]; omega
 have hMne : M ≠ [] := by
  intro e
  rw [e] at hM
  have : ([] : List (List UInt8)).length = 0 := rfl
  omega
 have hMs : ∀ x ∈ M, x.length ≤ 200 := by rw [hMd]; exact putL_mem hLs (by omega)
 have hMr : ∀ x ∈ M, Room x := fun x hx => ⟨by have := hMs x hx; omega⟩
 have hMj : (Lib.join M [45, 45]).length ≤ 50000 := by
  have h1 := join_bound (t := [45, 45]) hMs
  have h2 : M.length * (200 + 2) ≤ 201 * (200 + 2) := Nat.mul_le_mul_right _ (by omega)
  have h3 : ([45, 45] : List UInt8).length = 2 := rfl
  rw [h3] at h1
  omega
 have hMat : M[j - 1]? = some t := by rw [hMd]; exact putL_at (by omega)
 have hmax : max (j : Int) ((L.map strEl).length : Int) = (M.length : Int) := by rw [List.length_map]; omega
 have hk1 : IntKind.i64.wrap ((j : Int) - 1) = ((j - 1 : Nat) : Int) := by rw [wrap_in (by omega) (by omega)]; omega
 rw [hmax, hk1, Int.toNat_natCast M.length, Int.toNat_natCast (j - 1), show 0 + (j - 1) * 1 = j - 1 by omega, row_put L j (j - 1) t M.length hM rfl, ← hMd]
 have q1 : (decide ((0 : Int) ≤ (M.length : Int)) && decide ((M.length : Int) ≤ (M.length : Int)) && decide ((M.length : Int) ≤ 140737488355328) && (M.length * 16).ble 140737488355328) = true := by
  rw [decide_eq_true (by omega), decide_eq_true (by omega), decide_eq_true (by omega), Nat.ble_eq_true_of_le (by omega)]; rfl
 have q2 : M.length.beq 0 = false := by
  cases hq : M.length.beq 0 with
  | false => rfl
  | true => exact absurd (Nat.eq_of_beq_eq_true hq) (by omega)
 rw [q1, iteP_t, q2, iteP_f, all_len1, iteP_t, row_fit L M.length (by omega), iteP_t, row_ne L M.length (by omega) hLne, iteP_f, show inRange ((j - 1 : Nat) : Int) M.length = true by rw [inRange_iff]; omega, iteP_t, row_in8 L M.length (j - 1) (by omega) (by omega), iteP_t]
 refine ⟨rfl, ⟨rfl, ⟨M, c, [45, 45], _, _, rfl, rfl, rfl, by omega, by omega⟩⟩, fun _ _ => ⟨⟨M, rfl, rfl, by omega, by omega⟩, fun x4 hx4 => ?_⟩⟩
 have hx4 := hx4.is M rfl
 subst hx4
 refine ⟨⟨⟨M, ⟨c, [45, 45], _, _, rfl, .row _ M hMne rfl⟩, by omega, hMr⟩, Nat.zero_le _⟩, fun B hB => ?_⟩
 have hB : M = B := IsRec.uniq ⟨c, [45, 45], _, _, rfl, .row _ M hMne rfl⟩ hB.is
 subst hB
 have hmax2 : max ((L.map strEl).length : Int) (j : Int) = (M.length : Int) := by rw [List.length_map]; omega
 rw [hmax2, List.length_map, show ((M.length : Int) != (M.length : Int)) = false by simp, iteP_f]
 refine ⟨⟨M, rfl, by omega, by omega⟩, fun x6 hx6 => ?_⟩
 have hx6 := hx6.is M rfl
 subst hx6
 rw [decide_eq_false (by simp), iteP_f, show inRange ((j - 1 : Nat) : Int) M.length = true by rw [inRange_iff]; omega, iteP_t]
 refine ⟨by rw [Rc.cell_get, hMat, Rc.cell_str hMat]; rfl, ?_⟩
 rw [Rc.cell_str hMat, decide_eq_false (by simp), iteP_f]
 exact ⟨rfl, ⟨rfl, ⟨L, j, .sl L _, rfl, by omega, by rw [hMd], by omega, by omega⟩⟩, fun _ _ => ⟨trivial, fun _ _ => rfl⟩⟩
end
end Go.Proofs.Rd
namespace Go.Proofs.Rd
open Go Go.Ef
noncomputable section
set_option maxRecDepth 100000
theorem c8b (m : Int) (c : UInt8) (op : Int) (k : Int) (t : List UInt8) (K : AV → Prop) (h :
 iteP ((↑c.toNat : Int) == (32 : Int)) (True ∧ ∀ (_ : Unit), True → K (AV.sc (Value.bool true)))
 (iteP (decide (k < (1 : Int))) (True ∧ ∀ (_ : Unit), True → K (AV.sc (Value.bool true)))
 (iteP (decide ((50 : Int) < k)) (True ∧ ∀ (_ : Unit), True → K (AV.sc (Value.bool true)))
 (iteP (decide ((200 : Int) < (↑t.length : Int))) (True ∧ ∀ (_ : Unit), True → K (AV.sc (Value.bool true)))
 (True ∧
 ∀ (_ : Unit),
 True →
 SplNil
 (AV.agg
 [AV.sc
 (Value.string
 (ByteArray.mk (Array.mk (List.map byteD [[AV.sc (Value.int IntKind.u8 (↑c.toNat : Int))]])))),
 AV.sc (Value.string (ByteArray.mk (Array.mk []))), AV.sc (Value.int IntKind.i64 (0 : Int)),
 AV.sc (Value.int IntKind.i64 (0 : Int)), AV.sc (Value.int IntKind.i64 (0 : Int)),
 AV.sc (Value.int IntKind.u64 (0 : Int)), AV.sc (Value.int IntKind.u64 (0 : Int)),
 AV.sc (Value.int IntKind.u64 (0 : Int)), AV.sc (Value.int IntKind.u64 (0 : Int)),
 AV.sc (Value.int IntKind.i64 (0 : Int)), AV.sc (Value.int IntKind.i64 (0 : Int)),
 AV.sc (Value.int IntKind.i64 (0 : Int)), AV.sc (Value.slice none (0 : Nat) (0 : Nat))])
 [] ∧
 ∀ (_ : Unit),
 True →
 FldsOk
 (Heap.mk (4 : Nat)
 (((Tr.leaf.node
 (some
 (AObj.cells
 [AV.sc
 (Value.string
 (ByteArray.mk
 (Array.mk
 (List.map byteD [[AV.sc (Value.int IntKind.u8 (↑c.toNat : Int))]])))),
 AV.sc (Value.string (ByteArray.mk (Array.mk []))),
 AV.sc (Value.int IntKind.i64 (0 : Int)),
 AV.sc (Value.int IntKind.i64 (0 : Int)),
 AV.sc (Value.int IntKind.i64 (0 : Int)),
 AV.sc (Value.int IntKind.u64 (0 : Int)),
 AV.sc (Value.int IntKind.u64 (0 : Int)),
 AV.sc (Value.int IntKind.u64 (0 : Int)),
 AV.sc (Value.int IntKind.u64 (0 : Int)),
 AV.sc (Value.int IntKind.i64 (0 : Int)),
 AV.sc (Value.int IntKind.i64 (0 : Int)),
 AV.sc (Value.int IntKind.i64 (0 : Int)),
 AV.sc (Value.slice none (0 : Nat) (0 : Nat)),
 AV.sc (Value.string (ByteArray.mk (Array.mk [(45 : UInt8), (45 : UInt8)]))),
 AV.sc (Value.string (ByteArray.mk (Array.mk []))),
 AV.sc (Value.slice none (0 : Nat) (0 : Nat))]))
 Tr.leaf).node
 (some
 (AObj.cells
 [AV.sc
 (Value.string
 (ByteArray.mk
 (Array.mk
 [(112 : UInt8), (111 : UInt8), (115 : UInt8), (105 : UInt8),
 (120 : UInt8)]))),
 AV.sl wEls (0 : Nat), AV.sc (Value.string (ByteArray.mk (Array.mk wLow))),
 AV.sc (Value.string (ByteArray.mk (Array.mk wUp))),
 AV.sc (Value.slice none (0 : Nat) (0 : Nat)),
 AV.sc (Value.slice none (0 : Nat) (0 : Nat))]))
 Tr.leaf).node
 none
 (Tr.leaf.node
 (some
 (AObj.cells
 [AV.sc
 (Value.string
 (ByteArray.mk
 (Array.mk
 (List.map byteD [[AV.sc (Value.int IntKind.u8 (↑c.toNat : Int))]])))),
 AV.sc (Value.string (ByteArray.mk (Array.mk []))),
 AV.sc (Value.int IntKind.i64 (0 : Int)), AV.sc (Value.int IntKind.i64 (0 : Int)),
 AV.sc (Value.int IntKind.i64 (0 : Int)), AV.sc (Value.int IntKind.u64 (0 : Int)),
 AV.sc (Value.int IntKind.u64 (0 : Int)), AV.sc (Value.int IntKind.u64 (0 : Int)),
 AV.sc (Value.int IntKind.u64 (0 : Int)), AV.sc (Value.int IntKind.i64 (0 : Int)),
 AV.sc (Value.int IntKind.i64 (0 : Int)), AV.sc (Value.int IntKind.i64 (0 : Int)),
 AV.sc (Value.slice none (0 : Nat) (0 : Nat))]))
 Tr.leaf))
 (0 : Nat)
 (((Tr.leaf.node
 (some
 ((112 : Nat),
 [AV.sc
 (Value.string
 (ByteArray.mk
 (Array.mk
 (List.map byteD
 [[AV.sc (Value.int IntKind.u8 (↑c.toNat : Int))]])))),
 AV.sc (Value.string (ByteArray.mk (Array.mk []))),
 AV.sc (Value.int IntKind.i64 (0 : Int)),
 AV.sc (Value.int IntKind.i64 (0 : Int)),
 AV.sc (Value.int IntKind.i64 (0 : Int)),
 AV.sc (Value.int IntKind.u64 (0 : Int)),
 AV.sc (Value.int IntKind.u64 (0 : Int)),
 AV.sc (Value.int IntKind.u64 (0 : Int)),
 AV.sc (Value.int IntKind.u64 (0 : Int)),
 AV.sc (Value.int IntKind.i64 (0 : Int)),
 AV.sc (Value.int IntKind.i64 (0 : Int)),
 AV.sc (Value.int IntKind.i64 (0 : Int)),
 AV.sc (Value.slice none (0 : Nat) (0 : Nat)),
 AV.sc (Value.string (ByteArray.mk (Array.mk [(45 : UInt8), (45 : UInt8)]))),
 AV.sc (Value.string (ByteArray.mk (Array.mk []))),
 AV.sc (Value.slice none (0 : Nat) (0 : Nat))].length))
 Tr.leaf).node
 (some
 ((61 : Nat),
 [AV.sc
 (Value.string
 (ByteArray.mk
 (Array.mk
 [(112 : UInt8), (111 : UInt8), (115 : UInt8), (105 : UInt8),
 (120 : UInt8)]))),
 AV.sl wEls (0 : Nat), AV.sc (Value.string (ByteArray.mk (Array.mk wLow))),
 AV.sc (Value.string (ByteArray.mk (Array.mk wUp))),
 AV.sc (Value.slice none (0 : Nat) (0 : Nat)),
 AV.sc (Value.slice none (0 : Nat) (0 : Nat))].length))
 Tr.leaf).node
 none (Tr.leaf.node (some ((108 : Nat), (13 : Nat))) Tr.leaf))) ∧
 ∀ (_ : Unit),
 NoFld
 (Heap.mk (4 : Nat)
 (((Tr.leaf.node
 (some
 (AObj.cells
 [AV.sc
 (Value.string
 (ByteArray.mk
 (Array.mk
 (List.map byteD
 [[AV.sc (Value.int IntKind.u8 (↑c.toNat : Int))]])))),
 AV.sc (Value.string (ByteArray.mk (Array.mk []))),
 AV.sc (Value.int IntKind.i64 (0 : Int)),
 AV.sc (Value.int IntKind.i64 (0 : Int)),
 AV.sc (Value.int IntKind.i64 (0 : Int)),
 AV.sc (Value.int IntKind.u64 (0 : Int)),
 AV.sc (Value.int IntKind.u64 (0 : Int)),
 AV.sc (Value.int IntKind.u64 (0 : Int)),
 AV.sc (Value.int IntKind.u64 (0 : Int)),
 AV.sc (Value.int IntKind.i64 (0 : Int)),
 AV.sc (Value.int IntKind.i64 (0 : Int)),
 AV.sc (Value.int IntKind.i64 (0 : Int)),
 AV.sc (Value.slice none (0 : Nat) (0 : Nat)),
 AV.sc
 (Value.string (ByteArray.mk (Array.mk [(45 : UInt8), (45 : UInt8)]))),
 AV.sc (Value.string (ByteArray.mk (Array.mk []))),
 AV.sc (Value.slice none (0 : Nat) (0 : Nat))]))
 Tr.leaf).node
 (some
 (AObj.cells
 [AV.sc
 (Value.string
 (ByteArray.mk
 (Array.mk
 [(112 : UInt8), (111 : UInt8), (115 : UInt8), (105 : UInt8),
 (120 : UInt8)]))),
 AV.sl wEls (0 : Nat), AV.sc (Value.string (ByteArray.mk (Array.mk wLow))),
 AV.sc (Value.string (ByteArray.mk (Array.mk wUp))),
 AV.sc (Value.slice none (0 : Nat) (0 : Nat)),
 AV.sc (Value.slice none (0 : Nat) (0 : Nat))]))
 Tr.leaf).node
 none
 (Tr.leaf.node
 (some
 (AObj.cells
 [AV.sc
 (Value.string
 (ByteArray.mk
 (Array.mk
 (List.map byteD [[AV.sc (Value.int IntKind.u8 (↑c.toNat : Int))]])))),
 AV.sc (Value.string (ByteArray.mk (Array.mk []))),
 AV.sc (Value.int IntKind.i64 (0 : Int)),
 AV.sc (Value.int IntKind.i64 (0 : Int)),
 AV.sc (Value.int IntKind.i64 (0 : Int)),
 AV.sc (Value.int IntKind.u64 (0 : Int)),
 AV.sc (Value.int IntKind.u64 (0 : Int)),
 AV.sc (Value.int IntKind.u64 (0 : Int)),
 AV.sc (Value.int IntKind.u64 (0 : Int)),
 AV.sc (Value.int IntKind.i64 (0 : Int)),
 AV.sc (Value.int IntKind.i64 (0 : Int)),
 AV.sc (Value.int IntKind.i64 (0 : Int)),
 AV.sc (Value.slice none (0 : Nat) (0 : Nat))]))
 Tr.leaf))
 (0 : Nat)
 (((Tr.leaf.node
 (some
 ((112 : Nat),
 [AV.sc
 (Value.string
 (ByteArray.mk
 (Array.mk
 (List.map byteD
 [[AV.sc (Value.int IntKind.u8 (↑c.toNat : Int))]])))),
 AV.sc (Value.string (ByteArray.mk (Array.mk []))),
 AV.sc (Value.int IntKind.i64 (0 : Int)),
 AV.sc (Value.int IntKind.i64 (0 : Int)),
 AV.sc (Value.int IntKind.i64 (0 : Int)),
 AV.sc (Value.int IntKind.u64 (0 : Int)),
 AV.sc (Value.int IntKind.u64 (0 : Int)),
 AV.sc (Value.int IntKind.u64 (0 : Int)),
 AV.sc (Value.int IntKind.u64 (0 : Int)),
 AV.sc (Value.int IntKind.i64 (0 : Int)),
 AV.sc (Value.int IntKind.i64 (0 : Int)),
 AV.sc (Value.int IntKind.i64 (0 : Int)),
 AV.sc (Value.slice none (0 : Nat) (0 : Nat)),
 AV.sc
 (Value.string (ByteArray.mk (Array.mk [(45 : UInt8), (45 : UInt8)]))),
 AV.sc (Value.string (ByteArray.mk (Array.mk []))),
 AV.sc (Value.slice none (0 : Nat) (0 : Nat))].length))
 Tr.leaf).node
 (some
 ((61 : Nat),
 [AV.sc
 (Value.string
 (ByteArray.mk
 (Array.mk
 [(112 : UInt8), (111 : UInt8), (115 : UInt8), (105 : UInt8),
 (120 : UInt8)]))),
 AV.sl wEls (0 : Nat), AV.sc (Value.string (ByteArray.mk (Array.mk wLow))),
 AV.sc (Value.string (ByteArray.mk (Array.mk wUp))),
 AV.sc (Value.slice none (0 : Nat) (0 : Nat)),
 AV.sc (Value.slice none (0 : Nat) (0 : Nat))].length))
 Tr.leaf).node
 none (Tr.leaf.node (some ((108 : Nat), (13 : Nat))) Tr.leaf))) →
 True ∧
 ∀ (_ : Unit),
 True →
 iteP (decide (k < (1 : Int))) (K (AV.sc (Value.bool false)))
 (iteP (decide ((1024 : Int) < k)) (K (AV.sc (Value.bool false)))
 (iteP
 (decide ((0 : Int) ≤ max k (0 : Int)) &&
 decide (max k (0 : Int) ≤ max k (0 : Int)) &&
 decide (max k (0 : Int) ≤ (140737488355328 : Int)) &&
 ((max k (0 : Int)).toNat * (16 : Nat)).ble (140737488355328 : Nat))
 (iteP ((max k (0 : Int)).toNat.beq (0 : Nat))
 (iteP (inRange (IntKind.i64.wrap (k - (1 : Int))) (0 : Nat))
 (none =
 some
 [AV.sc
 (Value.string
 (ByteArray.mk
 (Array.mk
 (cellStr [] (IntKind.i64.wrap (k - (1 : Int)))
 (0 : Nat)))))] ∧
 False)
 False)
 (iteP (inRange (IntKind.i64.wrap (k - (1 : Int))) (max k (0 : Int)).toNat)
 (iteP
 (ltLen ((0 : Nat) + (IntKind.i64.wrap (k - (1 : Int))).toNat * (1 : Nat))
 (repC (max k (0 : Int))
 (AV.sc (Value.string (ByteArray.mk (Array.mk []))))))
 (loopAt Tryz.prog (49 : Nat) (4 : Nat) =
 loopAt Tryz.prog (49 : Nat) (4 : Nat) ∧
 (I49 (4 : Nat) (max k (0 : Int)).toNat (0 : Int) (0 : Int)
 (Heap.mk (5 : Nat)
 (((Tr.leaf.node
 (some
 (AObj.cells
 [AV.sc
 (Value.string
 (ByteArray.mk
 (Array.mk
 (List.map byteD
 [[AV.sc
 (Value.int IntKind.u8
 (↑c.toNat : Int))]])))),
 AV.sc
 (Value.string (ByteArray.mk (Array.mk []))),
 AV.sc (Value.int IntKind.i64 (0 : Int)),
 AV.sc (Value.int IntKind.i64 (0 : Int)),
 AV.sc (Value.int IntKind.i64 (0 : Int)),
 AV.sc (Value.int IntKind.u64 (0 : Int)),
 AV.sc (Value.int IntKind.u64 (0 : Int)),
 AV.sc (Value.int IntKind.u64 (0 : Int)),
 AV.sc (Value.int IntKind.u64 (0 : Int)),
 AV.sc (Value.int IntKind.i64 (0 : Int)),
 AV.sc (Value.int IntKind.i64 (0 : Int)),
 AV.sc (Value.int IntKind.i64 (0 : Int)),
 AV.sc (Value.slice none (0 : Nat) (0 : Nat)),
 AV.sc
 (Value.string
 (ByteArray.mk
 (Array.mk [(45 : UInt8), (45 : UInt8)]))),
 AV.sc
 (Value.string (ByteArray.mk (Array.mk []))),
 AV.sc (Value.slice none (0 : Nat) (0 : Nat))]))
 Tr.leaf).node
 (some
 (AObj.cells
 [AV.sc
 (Value.string
 (ByteArray.mk
 (Array.mk
 [(112 : UInt8), (111 : UInt8),
 (115 : UInt8), (105 : UInt8),
 (120 : UInt8)]))),
 AV.sl wEls (0 : Nat),
 AV.sc (Value.string (ByteArray.mk (Array.mk wLow))),
 AV.sc (Value.string (ByteArray.mk (Array.mk wUp))),
 AV.sc (Value.slice none (0 : Nat) (0 : Nat)),
 AV.sc (Value.slice none (0 : Nat) (0 : Nat))]))
 Tr.leaf).node
 none
 ((Tr.leaf.node
 (some
 (AObj.cells
 (setC
 (repC (max k (0 : Int))
 (AV.sc
 (Value.string (ByteArray.mk (Array.mk [])))))
 ((0 : Nat) +
 (IntKind.i64.wrap (k - (1 : Int))).toNat *
 (1 : Nat))
 (AV.sc
 (Value.string (ByteArray.mk (Array.mk t)))))))
 Tr.leaf).node
 (some
 (AObj.cells
 [AV.sc
 (Value.string
 (ByteArray.mk
 (Array.mk
 (List.map byteD
 [[AV.sc
 (Value.int IntKind.u8
 (↑c.toNat : Int))]])))),
 AV.sc (Value.string (ByteArray.mk (Array.mk []))),
 AV.sc (Value.int IntKind.i64 (0 : Int)),
 AV.sc (Value.int IntKind.i64 (0 : Int)),
 AV.sc (Value.int IntKind.i64 (0 : Int)),
 AV.sc (Value.int IntKind.u64 (0 : Int)),
 AV.sc (Value.int IntKind.u64 (0 : Int)),
 AV.sc (Value.int IntKind.u64 (0 : Int)),
 AV.sc (Value.int IntKind.u64 (0 : Int)),
 AV.sc (Value.int IntKind.i64 (0 : Int)),
 AV.sc (Value.int IntKind.i64 (0 : Int)),
 AV.sc (Value.int IntKind.i64 (0 : Int)),
 AV.sc (Value.slice none (0 : Nat) (0 : Nat))]))
 Tr.leaf))
 (0 : Nat)
 (((Tr.leaf.node
 (some
 ((112 : Nat),
 [AV.sc
 (Value.string
 (ByteArray.mk
 (Array.mk
 (List.map byteD
 [[AV.sc
 (Value.int IntKind.u8
 (↑c.toNat : Int))]])))),
 AV.sc
 (Value.string (ByteArray.mk (Array.mk []))),
 AV.sc (Value.int IntKind.i64 (0 : Int)),
 AV.sc (Value.int IntKind.i64 (0 : Int)),
 AV.sc (Value.int IntKind.i64 (0 : Int)),
 AV.sc (Value.int IntKind.u64 (0 : Int)),
 AV.sc (Value.int IntKind.u64 (0 : Int)),
 AV.sc (Value.int IntKind.u64 (0 : Int)),
 AV.sc (Value.int IntKind.u64 (0 : Int)),
 AV.sc (Value.int IntKind.i64 (0 : Int)),
 AV.sc (Value.int IntKind.i64 (0 : Int)),
 AV.sc (Value.int IntKind.i64 (0 : Int)),
 AV.sc (Value.slice none (0 : Nat) (0 : Nat)),
 AV.sc
 (Value.string
 (ByteArray.mk
 (Array.mk
 [(45 : UInt8), (45 : UInt8)]))),
 AV.sc
 (Value.string (ByteArray.mk (Array.mk []))),
 AV.sc
 (Value.slice none (0 : Nat)
 (0 : Nat))].length))
 Tr.leaf).node
 (some
 ((61 : Nat),
 [AV.sc
 (Value.string
 (ByteArray.mk
 (Array.mk
 [(112 : UInt8), (111 : UInt8),
 (115 : UInt8), (105 : UInt8),
 (120 : UInt8)]))),
 AV.sl wEls (0 : Nat),
 AV.sc
 (Value.string (ByteArray.mk (Array.mk wLow))),
 AV.sc
 (Value.string (ByteArray.mk (Array.mk wUp))),
 AV.sc (Value.slice none (0 : Nat) (0 : Nat)),
 AV.sc
 (Value.slice none (0 : Nat) (0 : Nat))].length))
 Tr.leaf).node
 none
 (Tr.leaf.node (some ((108 : Nat), (13 : Nat))) Tr.leaf))) =
 I49 (4 : Nat) (max k (0 : Int)).toNat (0 : Int) (0 : Int)
 (Heap.mk (5 : Nat)
 (((Tr.leaf.node
 (some
 (AObj.cells
 [AV.sc
 (Value.string
 (ByteArray.mk
 (Array.mk
 (List.map byteD
 [[AV.sc
 (Value.int IntKind.u8
 (↑c.toNat : Int))]])))),
 AV.sc
 (Value.string (ByteArray.mk (Array.mk []))),
 AV.sc (Value.int IntKind.i64 (0 : Int)),
 AV.sc (Value.int IntKind.i64 (0 : Int)),
 AV.sc (Value.int IntKind.i64 (0 : Int)),
 AV.sc (Value.int IntKind.u64 (0 : Int)),
 AV.sc (Value.int IntKind.u64 (0 : Int)),
 AV.sc (Value.int IntKind.u64 (0 : Int)),
 AV.sc (Value.int IntKind.u64 (0 : Int)),
 AV.sc (Value.int IntKind.i64 (0 : Int)),
 AV.sc (Value.int IntKind.i64 (0 : Int)),
 AV.sc (Value.int IntKind.i64 (0 : Int)),
 AV.sc (Value.slice none (0 : Nat) (0 : Nat)),
 AV.sc
 (Value.string
 (ByteArray.mk
 (Array.mk [(45 : UInt8), (45 : UInt8)]))),
 AV.sc
 (Value.string (ByteArray.mk (Array.mk []))),
 AV.sc (Value.slice none (0 : Nat) (0 : Nat))]))
 Tr.leaf).node
 (some
 (AObj.cells
 [AV.sc
 (Value.string
 (ByteArray.mk
 (Array.mk
 [(112 : UInt8), (111 : UInt8),
 (115 : UInt8), (105 : UInt8),
 (120 : UInt8)]))),
 AV.sl wEls (0 : Nat),
 AV.sc (Value.string (ByteArray.mk (Array.mk wLow))),
 AV.sc (Value.string (ByteArray.mk (Array.mk wUp))),
 AV.sc (Value.slice none (0 : Nat) (0 : Nat)),
 AV.sc (Value.slice none (0 : Nat) (0 : Nat))]))
 Tr.leaf).node
 none
 ((Tr.leaf.node
 (some
 (AObj.cells
 (setC
 (repC (max k (0 : Int))
 (AV.sc
 (Value.string (ByteArray.mk (Array.mk [])))))
 ((0 : Nat) +
 (IntKind.i64.wrap (k - (1 : Int))).toNat *
 (1 : Nat))
 (AV.sc
 (Value.string (ByteArray.mk (Array.mk t)))))))
 Tr.leaf).node
 (some
 (AObj.cells
 [AV.sc
 (Value.string
 (ByteArray.mk
 (Array.mk
 (List.map byteD
 [[AV.sc
 (Value.int IntKind.u8
 (↑c.toNat : Int))]])))),
 AV.sc (Value.string (ByteArray.mk (Array.mk []))),
 AV.sc (Value.int IntKind.i64 (0 : Int)),
 AV.sc (Value.int IntKind.i64 (0 : Int)),
 AV.sc (Value.int IntKind.i64 (0 : Int)),
 AV.sc (Value.int IntKind.u64 (0 : Int)),
 AV.sc (Value.int IntKind.u64 (0 : Int)),
 AV.sc (Value.int IntKind.u64 (0 : Int)),
 AV.sc (Value.int IntKind.u64 (0 : Int)),
 AV.sc (Value.int IntKind.i64 (0 : Int)),
 AV.sc (Value.int IntKind.i64 (0 : Int)),
 AV.sc (Value.int IntKind.i64 (0 : Int)),
 AV.sc (Value.slice none (0 : Nat) (0 : Nat))]))
 Tr.leaf))
 (0 : Nat)
 (((Tr.leaf.node
 (some
 ((112 : Nat),
 [AV.sc
 (Value.string
 (ByteArray.mk
 (Array.mk
 (List.map byteD
 [[AV.sc
 (Value.int IntKind.u8
 (↑c.toNat : Int))]])))),
 AV.sc
 (Value.string (ByteArray.mk (Array.mk []))),
 AV.sc (Value.int IntKind.i64 (0 : Int)),
 AV.sc (Value.int IntKind.i64 (0 : Int)),
 AV.sc (Value.int IntKind.i64 (0 : Int)),
 AV.sc (Value.int IntKind.u64 (0 : Int)),
 AV.sc (Value.int IntKind.u64 (0 : Int)),
 AV.sc (Value.int IntKind.u64 (0 : Int)),
 AV.sc (Value.int IntKind.u64 (0 : Int)),
 AV.sc (Value.int IntKind.i64 (0 : Int)),
 AV.sc (Value.int IntKind.i64 (0 : Int)),
 AV.sc (Value.int IntKind.i64 (0 : Int)),
 AV.sc (Value.slice none (0 : Nat) (0 : Nat)),
 AV.sc
 (Value.string
 (ByteArray.mk
 (Array.mk
 [(45 : UInt8), (45 : UInt8)]))),
 AV.sc
 (Value.string (ByteArray.mk (Array.mk []))),
 AV.sc
 (Value.slice none (0 : Nat)
 (0 : Nat))].length))
 Tr.leaf).node
 (some
 ((61 : Nat),
 [AV.sc
 (Value.string
 (ByteArray.mk
 (Array.mk
 [(112 : UInt8), (111 : UInt8),
 (115 : UInt8), (105 : UInt8),
 (120 : UInt8)]))),
 AV.sl wEls (0 : Nat),
 AV.sc
 (Value.string (ByteArray.mk (Array.mk wLow))),
 AV.sc
 (Value.string (ByteArray.mk (Array.mk wUp))),
 AV.sc (Value.slice none (0 : Nat) (0 : Nat)),
 AV.sc
 (Value.slice none (0 : Nat) (0 : Nat))].length))
 Tr.leaf).node
 none
 (Tr.leaf.node (some ((108 : Nat), (13 : Nat))) Tr.leaf))) ∧
 Whole
 (Heap.mk (5 : Nat)
 (((Tr.leaf.node
 (some
 (AObj.cells
 [AV.sc
 (Value.string
 (ByteArray.mk
 (Array.mk
 (List.map byteD
 [[AV.sc
 (Value.int IntKind.u8
 (↑c.toNat : Int))]])))),
 AV.sc (Value.string (ByteArray.mk (Array.mk []))),
 AV.sc (Value.int IntKind.i64 (0 : Int)),
 AV.sc (Value.int IntKind.i64 (0 : Int)),
 AV.sc (Value.int IntKind.i64 (0 : Int)),
 AV.sc (Value.int IntKind.u64 (0 : Int)),
 AV.sc (Value.int IntKind.u64 (0 : Int)),
 AV.sc (Value.int IntKind.u64 (0 : Int)),
 AV.sc (Value.int IntKind.u64 (0 : Int)),
 AV.sc (Value.int IntKind.i64 (0 : Int)),
 AV.sc (Value.int IntKind.i64 (0 : Int)),
 AV.sc (Value.int IntKind.i64 (0 : Int)),
 AV.sc (Value.slice none (0 : Nat) (0 : Nat)),
 AV.sc
 (Value.string
 (ByteArray.mk
 (Array.mk [(45 : UInt8), (45 : UInt8)]))),
 AV.sc (Value.string (ByteArray.mk (Array.mk []))),
 AV.sc (Value.slice none (0 : Nat) (0 : Nat))]))
 Tr.leaf).node
 (some
 (AObj.cells
 [AV.sc
 (Value.string
 (ByteArray.mk
 (Array.mk
 [(112 : UInt8), (111 : UInt8), (115 : UInt8),
 (105 : UInt8), (120 : UInt8)]))),
 AV.sl wEls (0 : Nat),
 AV.sc (Value.string (ByteArray.mk (Array.mk wLow))),
 AV.sc (Value.string (ByteArray.mk (Array.mk wUp))),
 AV.sc (Value.slice none (0 : Nat) (0 : Nat)),
 AV.sc (Value.slice none (0 : Nat) (0 : Nat))]))
 Tr.leaf).node
 none
 ((Tr.leaf.node
 (some
 (AObj.cells
 (setC
 (repC (max k (0 : Int))
 (AV.sc
 (Value.string (ByteArray.mk (Array.mk [])))))
 ((0 : Nat) +
 (IntKind.i64.wrap (k - (1 : Int))).toNat *
 (1 : Nat))
 (AV.sc
 (Value.string (ByteArray.mk (Array.mk t)))))))
 Tr.leaf).node
 (some
 (AObj.cells
 [AV.sc
 (Value.string
 (ByteArray.mk
 (Array.mk
 (List.map byteD
 [[AV.sc
 (Value.int IntKind.u8
 (↑c.toNat : Int))]])))),
 AV.sc (Value.string (ByteArray.mk (Array.mk []))),
 AV.sc (Value.int IntKind.i64 (0 : Int)),
 AV.sc (Value.int IntKind.i64 (0 : Int)),
 AV.sc (Value.int IntKind.i64 (0 : Int)),
 AV.sc (Value.int IntKind.u64 (0 : Int)),
 AV.sc (Value.int IntKind.u64 (0 : Int)),
 AV.sc (Value.int IntKind.u64 (0 : Int)),
 AV.sc (Value.int IntKind.u64 (0 : Int)),
 AV.sc (Value.int IntKind.i64 (0 : Int)),
 AV.sc (Value.int IntKind.i64 (0 : Int)),
 AV.sc (Value.int IntKind.i64 (0 : Int)),
 AV.sc (Value.slice none (0 : Nat) (0 : Nat))]))
 Tr.leaf))
 (0 : Nat)
 (((Tr.leaf.node
 (some
 ((112 : Nat),
 [AV.sc
 (Value.string
 (ByteArray.mk
 (Array.mk
 (List.map byteD
 [[AV.sc
 (Value.int IntKind.u8
 (↑c.toNat : Int))]])))),
 AV.sc
 (Value.string (ByteArray.mk (Array.mk []))),
 AV.sc (Value.int IntKind.i64 (0 : Int)),
 AV.sc (Value.int IntKind.i64 (0 : Int)),
 AV.sc (Value.int IntKind.i64 (0 : Int)),
 AV.sc (Value.int IntKind.u64 (0 : Int)),
 AV.sc (Value.int IntKind.u64 (0 : Int)),
 AV.sc (Value.int IntKind.u64 (0 : Int)),
 AV.sc (Value.int IntKind.u64 (0 : Int)),
 AV.sc (Value.int IntKind.i64 (0 : Int)),
 AV.sc (Value.int IntKind.i64 (0 : Int)),
 AV.sc (Value.int IntKind.i64 (0 : Int)),
 AV.sc (Value.slice none (0 : Nat) (0 : Nat)),
 AV.sc
 (Value.string
 (ByteArray.mk
 (Array.mk [(45 : UInt8), (45 : UInt8)]))),
 AV.sc
 (Value.string (ByteArray.mk (Array.mk []))),
 AV.sc
 (Value.slice none (0 : Nat)
 (0 : Nat))].length))
 Tr.leaf).node
 (some
 ((61 : Nat),
 [AV.sc
 (Value.string
 (ByteArray.mk
 (Array.mk
 [(112 : UInt8), (111 : UInt8),
 (115 : UInt8), (105 : UInt8),
 (120 : UInt8)]))),
 AV.sl wEls (0 : Nat),
 AV.sc (Value.string (ByteArray.mk (Array.mk wLow))),
 AV.sc (Value.string (ByteArray.mk (Array.mk wUp))),
 AV.sc (Value.slice none (0 : Nat) (0 : Nat)),
 AV.sc
 (Value.slice none (0 : Nat) (0 : Nat))].length))
 Tr.leaf).node
 none (Tr.leaf.node (some ((108 : Nat), (13 : Nat))) Tr.leaf)))
 (4 : Nat) (max k (0 : Int)).toNat) ∧
 ∀ (_ : Unit),
 True →
 RowOk
 (Heap.mk (5 : Nat)
 (((Tr.leaf.node
 (some
 (AObj.cells
 [AV.sc
 (Value.string
 (ByteArray.mk
 (Array.mk
 (List.map byteD
 [[AV.sc
 (Value.int IntKind.u8
 (↑c.toNat : Int))]])))),
 AV.sc
 (Value.string (ByteArray.mk (Array.mk []))),
 AV.sc (Value.int IntKind.i64 (0 : Int)),
 AV.sc (Value.int IntKind.i64 (0 : Int)),
 AV.sc (Value.int IntKind.i64 (0 : Int)),
 AV.sc (Value.int IntKind.u64 (0 : Int)),
 AV.sc (Value.int IntKind.u64 (0 : Int)),
 AV.sc (Value.int IntKind.u64 (0 : Int)),
 AV.sc (Value.int IntKind.u64 (0 : Int)),
 AV.sc (Value.int IntKind.i64 (0 : Int)),
 AV.sc (Value.int IntKind.i64 (0 : Int)),
 AV.sc (Value.int IntKind.i64 (0 : Int)),
 AV.sc (Value.slice none (0 : Nat) (0 : Nat)),
 AV.sc
 (Value.string
 (ByteArray.mk
 (Array.mk
 [(45 : UInt8), (45 : UInt8)]))),
 AV.sc
 (Value.string (ByteArray.mk (Array.mk []))),
 AV.sc
 (Value.slice none (0 : Nat) (0 : Nat))]))
 Tr.leaf).node
 (some
 (AObj.cells
 [AV.sc
 (Value.string
 (ByteArray.mk
 (Array.mk
 [(112 : UInt8), (111 : UInt8),
 (115 : UInt8), (105 : UInt8),
 (120 : UInt8)]))),
 AV.sl wEls (0 : Nat),
 AV.sc
 (Value.string (ByteArray.mk (Array.mk wLow))),
 AV.sc
 (Value.string (ByteArray.mk (Array.mk wUp))),
 AV.sc (Value.slice none (0 : Nat) (0 : Nat)),
 AV.sc (Value.slice none (0 : Nat) (0 : Nat))]))
 Tr.leaf).node
 none
 ((Tr.leaf.node
 (some
 (AObj.cells
 (setC
 (repC (max k (0 : Int))
 (AV.sc
 (Value.string
 (ByteArray.mk (Array.mk [])))))
 ((0 : Nat) +
 (IntKind.i64.wrap (k - (1 : Int))).toNat *
 (1 : Nat))
 (AV.sc
 (Value.string (ByteArray.mk (Array.mk t)))))))
 Tr.leaf).node
 (some
 (AObj.cells
 [AV.sc
 (Value.string
 (ByteArray.mk
 (Array.mk
 (List.map byteD
 [[AV.sc
 (Value.int IntKind.u8
 (↑c.toNat : Int))]])))),
 AV.sc (Value.string (ByteArray.mk (Array.mk []))),
 AV.sc (Value.int IntKind.i64 (0 : Int)),
 AV.sc (Value.int IntKind.i64 (0 : Int)),
 AV.sc (Value.int IntKind.i64 (0 : Int)),
 AV.sc (Value.int IntKind.u64 (0 : Int)),
 AV.sc (Value.int IntKind.u64 (0 : Int)),
 AV.sc (Value.int IntKind.u64 (0 : Int)),
 AV.sc (Value.int IntKind.u64 (0 : Int)),
 AV.sc (Value.int IntKind.i64 (0 : Int)),
 AV.sc (Value.int IntKind.i64 (0 : Int)),
 AV.sc (Value.int IntKind.i64 (0 : Int)),
 AV.sc (Value.slice none (0 : Nat) (0 : Nat))]))
 Tr.leaf))
 (0 : Nat)
 (((Tr.leaf.node
 (some
 ((112 : Nat),
 [AV.sc
 (Value.string
 (ByteArray.mk
 (Array.mk
 (List.map byteD
 [[AV.sc
 (Value.int IntKind.u8
 (↑c.toNat : Int))]])))),
 AV.sc
 (Value.string
 (ByteArray.mk (Array.mk []))),
 AV.sc (Value.int IntKind.i64 (0 : Int)),
 AV.sc (Value.int IntKind.i64 (0 : Int)),
 AV.sc (Value.int IntKind.i64 (0 : Int)),
 AV.sc (Value.int IntKind.u64 (0 : Int)),
 AV.sc (Value.int IntKind.u64 (0 : Int)),
 AV.sc (Value.int IntKind.u64 (0 : Int)),
 AV.sc (Value.int IntKind.u64 (0 : Int)),
 AV.sc (Value.int IntKind.i64 (0 : Int)),
 AV.sc (Value.int IntKind.i64 (0 : Int)),
 AV.sc (Value.int IntKind.i64 (0 : Int)),
 AV.sc
 (Value.slice none (0 : Nat) (0 : Nat)),
 AV.sc
 (Value.string
 (ByteArray.mk
 (Array.mk
 [(45 : UInt8), (45 : UInt8)]))),
 AV.sc
 (Value.string
 (ByteArray.mk (Array.mk []))),
 AV.sc
 (Value.slice none (0 : Nat)
 (0 : Nat))].length))
 Tr.leaf).node
 (some
 ((61 : Nat),
 [AV.sc
 (Value.string
 (ByteArray.mk
 (Array.mk
 [(112 : UInt8), (111 : UInt8),
 (115 : UInt8), (105 : UInt8),
 (120 : UInt8)]))),
 AV.sl wEls (0 : Nat),
 AV.sc
 (Value.string (ByteArray.mk (Array.mk wLow))),
 AV.sc
 (Value.string (ByteArray.mk (Array.mk wUp))),
 AV.sc (Value.slice none (0 : Nat) (0 : Nat)),
 AV.sc
 (Value.slice none (0 : Nat)
 (0 : Nat))].length))
 Tr.leaf).node
 none
 (Tr.leaf.node (some ((108 : Nat), (13 : Nat))) Tr.leaf)))
 (4 : Nat) (max k (0 : Int)).toNat [(45 : UInt8), (45 : UInt8)] ∧
 ∀ (x : List UInt8),
 RowJoin
 (Heap.mk (5 : Nat)
 (((Tr.leaf.node
 (some
 (AObj.cells
 [AV.sc
 (Value.string
 (ByteArray.mk
 (Array.mk
 (List.map byteD
 [[AV.sc
 (Value.int IntKind.u8
 (↑c.toNat : Int))]])))),
 AV.sc
 (Value.string
 (ByteArray.mk (Array.mk []))),
 AV.sc (Value.int IntKind.i64 (0 : Int)),
 AV.sc (Value.int IntKind.i64 (0 : Int)),
 AV.sc (Value.int IntKind.i64 (0 : Int)),
 AV.sc (Value.int IntKind.u64 (0 : Int)),
 AV.sc (Value.int IntKind.u64 (0 : Int)),
 AV.sc (Value.int IntKind.u64 (0 : Int)),
 AV.sc (Value.int IntKind.u64 (0 : Int)),
 AV.sc (Value.int IntKind.i64 (0 : Int)),
 AV.sc (Value.int IntKind.i64 (0 : Int)),
 AV.sc (Value.int IntKind.i64 (0 : Int)),
 AV.sc
 (Value.slice none (0 : Nat) (0 : Nat)),
 AV.sc
 (Value.string
 (ByteArray.mk
 (Array.mk
 [(45 : UInt8), (45 : UInt8)]))),
 AV.sc
 (Value.string
 (ByteArray.mk (Array.mk []))),
 AV.sc
 (Value.slice none (0 : Nat)
 (0 : Nat))]))
 Tr.leaf).node
 (some
 (AObj.cells
 [AV.sc
 (Value.string
 (ByteArray.mk
 (Array.mk
 [(112 : UInt8), (111 : UInt8),
 (115 : UInt8), (105 : UInt8),
 (120 : UInt8)]))),
 AV.sl wEls (0 : Nat),
 AV.sc
 (Value.string
 (ByteArray.mk (Array.mk wLow))),
 AV.sc
 (Value.string
 (ByteArray.mk (Array.mk wUp))),
 AV.sc (Value.slice none (0 : Nat) (0 : Nat)),
 AV.sc
 (Value.slice none (0 : Nat) (0 : Nat))]))
 Tr.leaf).node
 none
 ((Tr.leaf.node
 (some
 (AObj.cells
 (setC
 (repC (max k (0 : Int))
 (AV.sc
 (Value.string
 (ByteArray.mk (Array.mk [])))))
 ((0 : Nat) +
 (IntKind.i64.wrap (k - (1 : Int))).toNat *
 (1 : Nat))
 (AV.sc
 (Value.string
 (ByteArray.mk (Array.mk t)))))))
 Tr.leaf).node
 (some
 (AObj.cells
 [AV.sc
 (Value.string
 (ByteArray.mk
 (Array.mk
 (List.map byteD
 [[AV.sc
 (Value.int IntKind.u8
 (↑c.toNat : Int))]])))),
 AV.sc
 (Value.string (ByteArray.mk (Array.mk []))),
 AV.sc (Value.int IntKind.i64 (0 : Int)),
 AV.sc (Value.int IntKind.i64 (0 : Int)),
 AV.sc (Value.int IntKind.i64 (0 : Int)),
 AV.sc (Value.int IntKind.u64 (0 : Int)),
 AV.sc (Value.int IntKind.u64 (0 : Int)),
 AV.sc (Value.int IntKind.u64 (0 : Int)),
 AV.sc (Value.int IntKind.u64 (0 : Int)),
 AV.sc (Value.int IntKind.i64 (0 : Int)),
 AV.sc (Value.int IntKind.i64 (0 : Int)),
 AV.sc (Value.int IntKind.i64 (0 : Int)),
 AV.sc (Value.slice none (0 : Nat) (0 : Nat))]))
 Tr.leaf))
 (0 : Nat)
 (((Tr.leaf.node
 (some
 ((112 : Nat),
 [AV.sc
 (Value.string
 (ByteArray.mk
 (Array.mk
 (List.map byteD
 [[AV.sc
 (Value.int IntKind.u8
 (↑c.toNat :
 Int))]])))),
 AV.sc
 (Value.string
 (ByteArray.mk (Array.mk []))),
 AV.sc (Value.int IntKind.i64 (0 : Int)),
 AV.sc (Value.int IntKind.i64 (0 : Int)),
 AV.sc (Value.int IntKind.i64 (0 : Int)),
 AV.sc (Value.int IntKind.u64 (0 : Int)),
 AV.sc (Value.int IntKind.u64 (0 : Int)),
 AV.sc (Value.int IntKind.u64 (0 : Int)),
 AV.sc (Value.int IntKind.u64 (0 : Int)),
 AV.sc (Value.int IntKind.i64 (0 : Int)),
 AV.sc (Value.int IntKind.i64 (0 : Int)),
 AV.sc (Value.int IntKind.i64 (0 : Int)),
 AV.sc
 (Value.slice none (0 : Nat)
 (0 : Nat)),
 AV.sc
 (Value.string
 (ByteArray.mk
 (Array.mk
 [(45 : UInt8), (45 : UInt8)]))),
 AV.sc
 (Value.string
 (ByteArray.mk (Array.mk []))),
 AV.sc
 (Value.slice none (0 : Nat)
 (0 : Nat))].length))
 Tr.leaf).node
 (some
 ((61 : Nat),
 [AV.sc
 (Value.string
 (ByteArray.mk
 (Array.mk
 [(112 : UInt8), (111 : UInt8),
 (115 : UInt8), (105 : UInt8),
 (120 : UInt8)]))),
 AV.sl wEls (0 : Nat),
 AV.sc
 (Value.string
 (ByteArray.mk (Array.mk wLow))),
 AV.sc
 (Value.string
 (ByteArray.mk (Array.mk wUp))),
 AV.sc
 (Value.slice none (0 : Nat) (0 : Nat)),
 AV.sc
 (Value.slice none (0 : Nat)
 (0 : Nat))].length))
 Tr.leaf).node
 none
 (Tr.leaf.node (some ((108 : Nat), (13 : Nat)))
 Tr.leaf)))
 (4 : Nat) [(45 : UInt8), (45 : UInt8)] x →
 FldsOk
 (Heap.mk (5 : Nat)
 (((Tr.leaf.node
 (some
 (AObj.cells
 [AV.sc
 (Value.string
 (ByteArray.mk
 (Array.mk
 (List.map byteD
 [[AV.sc
 (Value.int IntKind.u8
 (↑c.toNat :
 Int))]])))),
 AV.sc
 (Value.string
 (ByteArray.mk (Array.mk []))),
 AV.sc (Value.int IntKind.i64 (0 : Int)),
 AV.sc (Value.int IntKind.i64 (0 : Int)),
 AV.sc (Value.int IntKind.i64 (0 : Int)),
 AV.sc (Value.int IntKind.u64 (0 : Int)),
 AV.sc (Value.int IntKind.u64 (0 : Int)),
 AV.sc (Value.int IntKind.u64 (0 : Int)),
 AV.sc (Value.int IntKind.u64 (0 : Int)),
 AV.sc (Value.int IntKind.i64 (0 : Int)),
 AV.sc (Value.int IntKind.i64 (0 : Int)),
 AV.sc (Value.int IntKind.i64 (0 : Int)),
 AV.sc
 (Value.slice none (0 : Nat)
 (0 : Nat)),
 AV.sc
 (Value.string
 (ByteArray.mk
 (Array.mk
 [(45 : UInt8), (45 : UInt8)]))),
 AV.sc
 (Value.string
 (ByteArray.mk (Array.mk x))),
 AV.rsl (4 : Nat) (0 : Nat)
 (max k (0 : Int)).toNat (1 : Nat)]))
 Tr.leaf).node
 (some
 (AObj.cells
 [AV.sc
 (Value.string
 (ByteArray.mk
 (Array.mk
 [(112 : UInt8), (111 : UInt8),
 (115 : UInt8), (105 : UInt8),
 (120 : UInt8)]))),
 AV.sl wEls (0 : Nat),
 AV.sc
 (Value.string
 (ByteArray.mk (Array.mk wLow))),
 AV.sc
 (Value.string
 (ByteArray.mk (Array.mk wUp))),
 AV.sc
 (Value.slice none (0 : Nat) (0 : Nat)),
 AV.sc
 (Value.slice none (0 : Nat) (0 : Nat))]))
 Tr.leaf).node
 none
 ((Tr.leaf.node
 (some
 (AObj.cells
 (setC
 (repC (max k (0 : Int))
 (AV.sc
 (Value.string
 (ByteArray.mk (Array.mk [])))))
 ((0 : Nat) +
 (IntKind.i64.wrap
 (k - (1 : Int))).toNat *
 (1 : Nat))
 (AV.sc
 (Value.string
 (ByteArray.mk (Array.mk t)))))))
 Tr.leaf).node
 (some
 (AObj.cells
 [AV.sc
 (Value.string
 (ByteArray.mk
 (Array.mk
 (List.map byteD
 [[AV.sc
 (Value.int IntKind.u8
 (↑c.toNat : Int))]])))),
 AV.sc
 (Value.string (ByteArray.mk (Array.mk []))),
 AV.sc (Value.int IntKind.i64 (0 : Int)),
 AV.sc (Value.int IntKind.i64 (0 : Int)),
 AV.sc (Value.int IntKind.i64 (0 : Int)),
 AV.sc (Value.int IntKind.u64 (0 : Int)),
 AV.sc (Value.int IntKind.u64 (0 : Int)),
 AV.sc (Value.int IntKind.u64 (0 : Int)),
 AV.sc (Value.int IntKind.u64 (0 : Int)),
 AV.sc (Value.int IntKind.i64 (0 : Int)),
 AV.sc (Value.int IntKind.i64 (0 : Int)),
 AV.sc (Value.int IntKind.i64 (0 : Int)),
 AV.sc
 (Value.slice none (0 : Nat) (0 : Nat))]))
 Tr.leaf))
 (0 : Nat)
 (((Tr.leaf.node
 (some
 ((112 : Nat),
 [AV.sc
 (Value.string
 (ByteArray.mk
 (Array.mk
 (List.map byteD
 [[AV.sc
 (Value.int IntKind.u8
 (↑c.toNat :
 Int))]])))),
 AV.sc
 (Value.string
 (ByteArray.mk (Array.mk []))),
 AV.sc
 (Value.int IntKind.i64 (0 : Int)),
 AV.sc
 (Value.int IntKind.i64 (0 : Int)),
 AV.sc
 (Value.int IntKind.i64 (0 : Int)),
 AV.sc
 (Value.int IntKind.u64 (0 : Int)),
 AV.sc
 (Value.int IntKind.u64 (0 : Int)),
 AV.sc
 (Value.int IntKind.u64 (0 : Int)),
 AV.sc
 (Value.int IntKind.u64 (0 : Int)),
 AV.sc
 (Value.int IntKind.i64 (0 : Int)),
 AV.sc
 (Value.int IntKind.i64 (0 : Int)),
 AV.sc
 (Value.int IntKind.i64 (0 : Int)),
 AV.sc
 (Value.slice none (0 : Nat)
 (0 : Nat)),
 AV.sc
 (Value.string
 (ByteArray.mk
 (Array.mk
 [(45 : UInt8),
 (45 : UInt8)]))),
 AV.sc
 (Value.string
 (ByteArray.mk (Array.mk []))),
 AV.sc
 (Value.slice none (0 : Nat)
 (0 : Nat))].length))
 Tr.leaf).node
 (some
 ((61 : Nat),
 [AV.sc
 (Value.string
 (ByteArray.mk
 (Array.mk
 [(112 : UInt8), (111 : UInt8),
 (115 : UInt8), (105 : UInt8),
 (120 : UInt8)]))),
 AV.sl wEls (0 : Nat),
 AV.sc
 (Value.string
 (ByteArray.mk (Array.mk wLow))),
 AV.sc
 (Value.string
 (ByteArray.mk (Array.mk wUp))),
 AV.sc
 (Value.slice none (0 : Nat) (0 : Nat)),
 AV.sc
 (Value.slice none (0 : Nat)
 (0 : Nat))].length))
 Tr.leaf).node
 none
 (Tr.leaf.node (some ((108 : Nat), (13 : Nat)))
 Tr.leaf))) ∧
 ∀ (x_1 : List (List UInt8)),
 SomeFld
 (Heap.mk (5 : Nat)
 (((Tr.leaf.node
 (some
 (AObj.cells
 [AV.sc
 (Value.string
 (ByteArray.mk
 (Array.mk
 (List.map byteD
 [[AV.sc
 (Value.int
 IntKind.u8
 (↑c.toNat :
 Int))]])))),
 AV.sc
 (Value.string
 (ByteArray.mk (Array.mk []))),
 AV.sc
 (Value.int IntKind.i64 (0 : Int)),
 AV.sc
 (Value.int IntKind.i64 (0 : Int)),
 AV.sc
 (Value.int IntKind.i64 (0 : Int)),
 AV.sc
 (Value.int IntKind.u64 (0 : Int)),
 AV.sc
 (Value.int IntKind.u64 (0 : Int)),
 AV.sc
 (Value.int IntKind.u64 (0 : Int)),
 AV.sc
 (Value.int IntKind.u64 (0 : Int)),
 AV.sc
 (Value.int IntKind.i64 (0 : Int)),
 AV.sc
 (Value.int IntKind.i64 (0 : Int)),
 AV.sc
 (Value.int IntKind.i64 (0 : Int)),
 AV.sc
 (Value.slice none (0 : Nat)
 (0 : Nat)),
 AV.sc
 (Value.string
 (ByteArray.mk
 (Array.mk
 [(45 : UInt8),
 (45 : UInt8)]))),
 AV.sc
 (Value.string
 (ByteArray.mk (Array.mk x))),
 AV.rsl (4 : Nat) (0 : Nat)
 (max k (0 : Int)).toNat
 (1 : Nat)]))
 Tr.leaf).node
 (some
 (AObj.cells
 [AV.sc
 (Value.string
 (ByteArray.mk
 (Array.mk
 [(112 : UInt8), (111 : UInt8),
 (115 : UInt8), (105 : UInt8),
 (120 : UInt8)]))),
 AV.sl wEls (0 : Nat),
 AV.sc
 (Value.string
 (ByteArray.mk (Array.mk wLow))),
 AV.sc
 (Value.string
 (ByteArray.mk (Array.mk wUp))),
 AV.sc
 (Value.slice none (0 : Nat)
 (0 : Nat)),
 AV.sc
 (Value.slice none (0 : Nat)
 (0 : Nat))]))
 Tr.leaf).node
 none
 ((Tr.leaf.node
 (some
 (AObj.cells
 (setC
 (repC (max k (0 : Int))
 (AV.sc
 (Value.string
 (ByteArray.mk (Array.mk [])))))
 ((0 : Nat) +
 (IntKind.i64.wrap
 (k - (1 : Int))).toNat *
 (1 : Nat))
 (AV.sc
 (Value.string
 (ByteArray.mk (Array.mk t)))))))
 Tr.leaf).node
 (some
 (AObj.cells
 [AV.sc
 (Value.string
 (ByteArray.mk
 (Array.mk
 (List.map byteD
 [[AV.sc
 (Value.int IntKind.u8
 (↑c.toNat : Int))]])))),
 AV.sc
 (Value.string
 (ByteArray.mk (Array.mk []))),
 AV.sc (Value.int IntKind.i64 (0 : Int)),
 AV.sc (Value.int IntKind.i64 (0 : Int)),
 AV.sc (Value.int IntKind.i64 (0 : Int)),
 AV.sc (Value.int IntKind.u64 (0 : Int)),
 AV.sc (Value.int IntKind.u64 (0 : Int)),
 AV.sc (Value.int IntKind.u64 (0 : Int)),
 AV.sc (Value.int IntKind.u64 (0 : Int)),
 AV.sc (Value.int IntKind.i64 (0 : Int)),
 AV.sc (Value.int IntKind.i64 (0 : Int)),
 AV.sc (Value.int IntKind.i64 (0 : Int)),
 AV.sc
 (Value.slice none (0 : Nat)
 (0 : Nat))]))
 Tr.leaf))
 (0 : Nat)
 (((Tr.leaf.node
 (some
 ((112 : Nat),
 [AV.sc
 (Value.string
 (ByteArray.mk
 (Array.mk
 (List.map byteD
 [[AV.sc
 (Value.int
 IntKind.u8
 (↑c.toNat :
 Int))]])))),
 AV.sc
 (Value.string
 (ByteArray.mk (Array.mk []))),
 AV.sc
 (Value.int IntKind.i64
 (0 : Int)),
 AV.sc
 (Value.int IntKind.i64
 (0 : Int)),
 AV.sc
 (Value.int IntKind.i64
 (0 : Int)),
 AV.sc
 (Value.int IntKind.u64
 (0 : Int)),
 AV.sc
 (Value.int IntKind.u64
 (0 : Int)),
 AV.sc
 (Value.int IntKind.u64
 (0 : Int)),
 AV.sc
 (Value.int IntKind.u64
 (0 : Int)),
 AV.sc
 (Value.int IntKind.i64
 (0 : Int)),
 AV.sc
 (Value.int IntKind.i64
 (0 : Int)),
 AV.sc
 (Value.int IntKind.i64
 (0 : Int)),
 AV.sc
 (Value.slice none (0 : Nat)
 (0 : Nat)),
 AV.sc
 (Value.string
 (ByteArray.mk
 (Array.mk
 [(45 : UInt8),
 (45 : UInt8)]))),
 AV.sc
 (Value.string
 (ByteArray.mk (Array.mk []))),
 AV.sc
 (Value.slice none (0 : Nat)
 (0 : Nat))].length))
 Tr.leaf).node
 (some
 ((61 : Nat),
 [AV.sc
 (Value.string
 (ByteArray.mk
 (Array.mk
 [(112 : UInt8), (111 : UInt8),
 (115 : UInt8),
 (105 : UInt8),
 (120 : UInt8)]))),
 AV.sl wEls (0 : Nat),
 AV.sc
 (Value.string
 (ByteArray.mk (Array.mk wLow))),
 AV.sc
 (Value.string
 (ByteArray.mk (Array.mk wUp))),
 AV.sc
 (Value.slice none (0 : Nat)
 (0 : Nat)),
 AV.sc
 (Value.slice none (0 : Nat)
 (0 : Nat))].length))
 Tr.leaf).node
 none
 (Tr.leaf.node (some ((108 : Nat), (13 : Nat)))
 Tr.leaf)))
 x_1 →
 iteP
 ((↑(List.map strEl x_1).length : Int) !=
 max (0 : Int) k)
 (K (AV.sc (Value.bool false)))
 (JoinOk (List.map strEl x_1)
 [(45 : UInt8), (45 : UInt8)] ∧
 ∀ (x_2 : List UInt8),
 IsJoin x_2 (List.map strEl x_1)
 [(45 : UInt8), (45 : UInt8)] →
 iteP (decide (x ≠ x_2))
 (K (AV.sc (Value.bool false)))
 (iteP
 (inRange (IntKind.i64.wrap (k - (1 : Int)))
 (List.map strEl x_1).length)
 (getI
 (IntKind.i64.wrap
 (k - (1 : Int))).toNat
 (List.map strEl x_1) =
 some
 [AV.sc
 (Value.string
 (ByteArray.mk
 (Array.mk
 (cellStr
 (List.map strEl x_1)
 (IntKind.i64.wrap
 (k - (1 : Int)))
 (0 : Nat)))))] ∧
 iteP
 (decide
 (cellStr (List.map strEl x_1)
 (IntKind.i64.wrap (k - (1 : Int)))
 (0 : Nat) ≠
 t))
 (K (AV.sc (Value.bool false)))
 (loopAt Tryz.prog (8 : Nat) (17 : Nat) =
 loopAt Tryz.prog (8 : Nat)
 (17 : Nat) ∧
 (I8 op k t
 (AV.sc
 (Value.slice none (0 : Nat)
 (0 : Nat)))
 (List.map strEl x_1) (6 : Nat)
 (0 : Int)
 (Heap.mk (6 : Nat)
 (((Tr.leaf.node
 (some
 (AObj.cells
 [AV.sc
 (Value.string
 (ByteArray.mk
 (Array.mk
 (List.map
 byteD
 [[AV.sc
 (Value.int
 IntKind.u8
 (↑c.toNat :
 Int))]])))),
 AV.sc
 (Value.string
 (ByteArray.mk
 (Array.mk
 []))),
 AV.sc
 (Value.int
 IntKind.i64
 (0 :
 Int)),
 AV.sc
 (Value.int
 IntKind.i64
 (0 :
 Int)),
 AV.sc
 (Value.int
 IntKind.i64
 (0 :
 Int)),
 AV.sc
 (Value.int
 IntKind.u64
 (0 :
 Int)),
 AV.sc
 (Value.int
 IntKind.u64
 (0 :
 Int)),
 AV.sc
 (Value.int
 IntKind.u64
 (0 :
 Int)),
 AV.sc
 (Value.int
 IntKind.u64
 (0 :
 Int)),
 AV.sc
 (Value.int
 IntKind.i64
 (0 :
 Int)),
 AV.sc
 (Value.int
 IntKind.i64
 (0 :
 Int)),
 AV.sc
 (Value.int
 IntKind.i64
 (0 :
 Int)),
 AV.sc
 (Value.slice
 none
 (0 :
 Nat)
 (0 :
 Nat)),
 AV.sc
 (Value.string
 (ByteArray.mk
 (Array.mk
 [(45 :
 UInt8),
 (45 :
 UInt8)]))),
 AV.sc
 (Value.string
 (ByteArray.mk
 (Array.mk
 x))),
 AV.rsl
 (4 : Nat)
 (0 : Nat)
 (max k
 (0 :
 Int)).toNat
 (1 :
 Nat)]))
 Tr.leaf).node
 (some
 (AObj.cells
 [AV.sc
 (Value.string
 (ByteArray.mk
 (Array.mk
 [(112 :
 UInt8),
 (111 :
 UInt8),
 (115 :
 UInt8),
 (105 :
 UInt8),
 (120 :
 UInt8)]))),
 AV.sl wEls
 (0 : Nat),
 AV.sc
 (Value.string
 (ByteArray.mk
 (Array.mk
 wLow))),
 AV.sc
 (Value.string
 (ByteArray.mk
 (Array.mk
 wUp))),
 AV.sc
 (Value.slice
 none
 (0 : Nat)
 (0 : Nat)),
 AV.sc
 (Value.slice
 none
 (0 : Nat)
 (0 :
 Nat))]))
 (Tr.leaf.node
 (some
 (AObj.own
 (1 : Nat)
 (9 : Nat)
 x_1.length))
 Tr.leaf)).node
 none
 ((Tr.leaf.node
 (some
 (AObj.cells
 (setC
 (repC
 (max k
 (0 : Int))
 (AV.sc
 (Value.string
 (ByteArray.mk
 (Array.mk
 [])))))
 ((0 : Nat) +
 (IntKind.i64.wrap
 (k -
 (1 :
 Int))).toNat *
 (1 : Nat))
 (AV.sc
 (Value.string
 (ByteArray.mk
 (Array.mk
 t)))))))
 Tr.leaf).node
 (some
 (AObj.cells
 [AV.sc
 (Value.string
 (ByteArray.mk
 (Array.mk
 (List.map
 byteD
 [[AV.sc
 (Value.int
 IntKind.u8
 (↑c.toNat :
 Int))]])))),
 AV.sc
 (Value.string
 (ByteArray.mk
 (Array.mk
 []))),
 AV.sc
 (Value.int
 IntKind.i64
 (0 : Int)),
 AV.sc
 (Value.int
 IntKind.i64
 (0 : Int)),
 AV.sc
 (Value.int
 IntKind.i64
 (0 : Int)),
 AV.sc
 (Value.int
 IntKind.u64
 (0 : Int)),
 AV.sc
 (Value.int
 IntKind.u64
 (0 : Int)),
 AV.sc
 (Value.int
 IntKind.u64
 (0 : Int)),
 AV.sc
 (Value.int
 IntKind.u64
 (0 : Int)),
 AV.sc
 (Value.int
 IntKind.i64
 (0 : Int)),
 AV.sc
 (Value.int
 IntKind.i64
 (0 : Int)),
 AV.sc
 (Value.int
 IntKind.i64
 (0 : Int)),
 AV.sc
 (Value.slice
 none (0 : Nat)
 (0 : Nat))]))
 Tr.leaf))
 (0 : Nat)
 (((Tr.leaf.node
 (some
 ((112 : Nat),
 [AV.sc
 (Value.string
 (ByteArray.mk
 (Array.mk
 (List.map
 byteD
 [[AV.sc
 (Value.int
 IntKind.u8
 (↑c.toNat :
 Int))]])))),
 AV.sc
 (Value.string
 (ByteArray.mk
 (Array.mk
 []))),
 AV.sc
 (Value.int
 IntKind.i64
 (0 :
 Int)),
 AV.sc
 (Value.int
 IntKind.i64
 (0 :
 Int)),
 AV.sc
 (Value.int
 IntKind.i64
 (0 :
 Int)),
 AV.sc
 (Value.int
 IntKind.u64
 (0 :
 Int)),
 AV.sc
 (Value.int
 IntKind.u64
 (0 :
 Int)),
 AV.sc
 (Value.int
 IntKind.u64
 (0 :
 Int)),
 AV.sc
 (Value.int
 IntKind.u64
 (0 :
 Int)),
 AV.sc
 (Value.int
 IntKind.i64
 (0 :
 Int)),
 AV.sc
 (Value.int
 IntKind.i64
 (0 :
 Int)),
 AV.sc
 (Value.int
 IntKind.i64
 (0 :
 Int)),
 AV.sc
 (Value.slice
 none
 (0 :
 Nat)
 (0 :
 Nat)),
 AV.sc
 (Value.string
 (ByteArray.mk
 (Array.mk
 [(45 :
 UInt8),
 (45 :
 UInt8)]))),
 AV.sc
 (Value.string
 (ByteArray.mk
 (Array.mk
 []))),
 AV.sc
 (Value.slice
 none
 (0 :
 Nat)
 (0 :
 Nat))].length))
 Tr.leaf).node
 (some
 ((61 : Nat),
 [AV.sc
 (Value.string
 (ByteArray.mk
 (Array.mk
 [(112 :
 UInt8),
 (111 :
 UInt8),
 (115 :
 UInt8),
 (105 :
 UInt8),
 (120 :
 UInt8)]))),
 AV.sl wEls
 (0 : Nat),
 AV.sc
 (Value.string
 (ByteArray.mk
 (Array.mk
 wLow))),
 AV.sc
 (Value.string
 (ByteArray.mk
 (Array.mk
 wUp))),
 AV.sc
 (Value.slice
 none
 (0 : Nat)
 (0 :
 Nat)),
 AV.sc
 (Value.slice
 none
 (0 : Nat)
 (0 :
 Nat))].length))
 Tr.leaf).node
 none
 (Tr.leaf.node
 (some
 ((108 : Nat),
 (13 : Nat)))
 Tr.leaf))) =
 I8 op k t
 (AV.sc
 (Value.slice none (0 : Nat)
 (0 : Nat)))
 (List.map strEl x_1) (6 : Nat)
 (0 : Int)
 (Heap.mk (6 : Nat)
 (((Tr.leaf.node
 (some
 (AObj.cells
 [AV.sc
 (Value.string
 (ByteArray.mk
 (Array.mk
 (List.map
 byteD
 [[AV.sc
 (Value.int
 IntKind.u8
 (↑c.toNat :
 Int))]])))),
 AV.sc
 (Value.string
 (ByteArray.mk
 (Array.mk
 []))),
 AV.sc
 (Value.int
 IntKind.i64
 (0 :
 Int)),
 AV.sc
 (Value.int
 IntKind.i64
 (0 :
 Int)),
 AV.sc
 (Value.int
 IntKind.i64
 (0 :
 Int)),
 AV.sc
 (Value.int
 IntKind.u64
 (0 :
 Int)),
 AV.sc
 (Value.int
 IntKind.u64
 (0 :
 Int)),
 AV.sc
 (Value.int
 IntKind.u64
 (0 :
 Int)),
 AV.sc
 (Value.int
 IntKind.u64
 (0 :
 Int)),
 AV.sc
 (Value.int
 IntKind.i64
 (0 :
 Int)),
 AV.sc
 (Value.int
 IntKind.i64
 (0 :
 Int)),
 AV.sc
 (Value.int
 IntKind.i64
 (0 :
 Int)),
 AV.sc
 (Value.slice
 none
 (0 :
 Nat)
 (0 :
 Nat)),
 AV.sc
 (Value.string
 (ByteArray.mk
 (Array.mk
 [(45 :
 UInt8),
 (45 :
 UInt8)]))),
 AV.sc
 (Value.string
 (ByteArray.mk
 (Array.mk
 x))),
 AV.rsl
 (4 : Nat)
 (0 : Nat)
 (max k
 (0 :
 Int)).toNat
 (1 :
 Nat)]))
 Tr.leaf).node
 (some
 (AObj.cells
 [AV.sc
 (Value.string
 (ByteArray.mk
 (Array.mk
 [(112 :
 UInt8),
 (111 :
 UInt8),
 (115 :
 UInt8),
 (105 :
 UInt8),
 (120 :
 UInt8)]))),
 AV.sl wEls
 (0 : Nat),
 AV.sc
 (Value.string
 (ByteArray.mk
 (Array.mk
 wLow))),
 AV.sc
 (Value.string
 (ByteArray.mk
 (Array.mk
 wUp))),
 AV.sc
 (Value.slice
 none
 (0 : Nat)
 (0 : Nat)),
 AV.sc
 (Value.slice
 none
 (0 : Nat)
 (0 :
 Nat))]))
 (Tr.leaf.node
 (some
 (AObj.own
 (1 : Nat)
 (9 : Nat)
 x_1.length))
 Tr.leaf)).node
 none
 ((Tr.leaf.node
 (some
 (AObj.cells
 (setC
 (repC
 (max k
 (0 : Int))
 (AV.sc
 (Value.string
 (ByteArray.mk
 (Array.mk
 [])))))
 ((0 : Nat) +
 (IntKind.i64.wrap
 (k -
 (1 :
 Int))).toNat *
 (1 : Nat))
 (AV.sc
 (Value.string
 (ByteArray.mk
 (Array.mk
 t)))))))
 Tr.leaf).node
 (some
 (AObj.cells
 [AV.sc
 (Value.string
 (ByteArray.mk
 (Array.mk
 (List.map
 byteD
 [[AV.sc
 (Value.int
 IntKind.u8
 (↑c.toNat :
 Int))]])))),
 AV.sc
 (Value.string
 (ByteArray.mk
 (Array.mk
 []))),
 AV.sc
 (Value.int
 IntKind.i64
 (0 : Int)),
 AV.sc
 (Value.int
 IntKind.i64
 (0 : Int)),
 AV.sc
 (Value.int
 IntKind.i64
 (0 : Int)),
 AV.sc
 (Value.int
 IntKind.u64
 (0 : Int)),
 AV.sc
 (Value.int
 IntKind.u64
 (0 : Int)),
 AV.sc
 (Value.int
 IntKind.u64
 (0 : Int)),
 AV.sc
 (Value.int
 IntKind.u64
 (0 : Int)),
 AV.sc
 (Value.int
 IntKind.i64
 (0 : Int)),
 AV.sc
 (Value.int
 IntKind.i64
 (0 : Int)),
 AV.sc
 (Value.int
 IntKind.i64
 (0 : Int)),
 AV.sc
 (Value.slice
 none (0 : Nat)
 (0 : Nat))]))
 Tr.leaf))
 (0 : Nat)
 (((Tr.leaf.node
 (some
 ((112 : Nat),
 [AV.sc
 (Value.string
 (ByteArray.mk
 (Array.mk
 (List.map
 byteD
 [[AV.sc
 (Value.int
 IntKind.u8
 (↑c.toNat :
 Int))]])))),
 AV.sc
 (Value.string
 (ByteArray.mk
 (Array.mk
 []))),
 AV.sc
 (Value.int
 IntKind.i64
 (0 :
 Int)),
 AV.sc
 (Value.int
 IntKind.i64
 (0 :
 Int)),
 AV.sc
 (Value.int
 IntKind.i64
 (0 :
 Int)),
 AV.sc
 (Value.int
 IntKind.u64
 (0 :
 Int)),
 AV.sc
 (Value.int
 IntKind.u64
 (0 :
 Int)),
 AV.sc
 (Value.int
 IntKind.u64
 (0 :
 Int)),
 AV.sc
 (Value.int
 IntKind.u64
 (0 :
 Int)),
 AV.sc
 (Value.int
 IntKind.i64
 (0 :
 Int)),
 AV.sc
 (Value.int
 IntKind.i64
 (0 :
 Int)),
 AV.sc
 (Value.int
 IntKind.i64
 (0 :
 Int)),
 AV.sc
 (Value.slice
 none
 (0 :
 Nat)
 (0 :
 Nat)),
 AV.sc
 (Value.string
 (ByteArray.mk
 (Array.mk
 [(45 :
 UInt8),
 (45 :
 UInt8)]))),
 AV.sc
 (Value.string
 (ByteArray.mk
 (Array.mk
 []))),
 AV.sc
 (Value.slice
 none
 (0 :
 Nat)
 (0 :
 Nat))].length))
 Tr.leaf).node
 (some
 ((61 : Nat),
 [AV.sc
 (Value.string
 (ByteArray.mk
 (Array.mk
 [(112 :
 UInt8),
 (111 :
 UInt8),
 (115 :
 UInt8),
 (105 :
 UInt8),
 (120 :
 UInt8)]))),
 AV.sl wEls
 (0 : Nat),
 AV.sc
 (Value.string
 (ByteArray.mk
 (Array.mk
 wLow))),
 AV.sc
 (Value.string
 (ByteArray.mk
 (Array.mk
 wUp))),
 AV.sc
 (Value.slice
 none
 (0 : Nat)
 (0 :
 Nat)),
 AV.sc
 (Value.slice
 none
 (0 : Nat)
 (0 :
 Nat))].length))
 Tr.leaf).node
 none
 (Tr.leaf.node
 (some
 ((108 : Nat),
 (13 : Nat)))
 Tr.leaf))) ∧
 Changed
 (AV.sc
 (Value.slice none (0 : Nat)
 (0 : Nat)))
 (List.map strEl x_1) k t) ∧
 ∀ (_ : Unit),
 True →
 True ∧
 ∀ (_ : Unit),
 True →
 K
 (AV.sc
 (Value.bool true))))
 False)))
 False)
 False))
 False))))))) :
 (fun (m : Int) (c : UInt8) (op k : Int) (t : List UInt8) (K : AV → Prop) => wpCall T8b (cf m) Tryz.prog 60 8 [aStr [], aK .u8 c.toNat, .agg [.sc (.int .i64 op), .sc (.int .i64 k), aStr t]] heap0 fun r _ => K r) m c op k t K :=
 Eq.mp (by kernel_rfl) h
end
end Go.Proofs.Rd
namespace Go.Proofs.Rd
open Go Go.Ef
noncomputable section
set_option maxRecDepth 100000
theorem row_put0 (j : Nat) (t : List UInt8) (N : Nat) (hN : N = j) : setC (repC ((N : Nat) : Int) (AV.sc (Value.string (ByteArray.mk (Array.mk []))))) (j - 1) (AV.sc (Value.string (ByteArray.mk (Array.mk t)))) = (putL [] j t).map aStr := by
 unfold setC repC putL
 rw [Int.toNat_natCast, List.map_set, List.nil_append, List.map_replicate, hN]
 rfl
theorem row_in0 (N i : Nat) (hi : i < N) : ltLen i (repC ((N : Nat) : Int) (AV.sc (Value.string (ByteArray.mk (Array.mk []))))) = true := by
 unfold ltLen repC
 refine Nat.ble_eq_true_of_le ?_
 rw [List.length_replicate, Int.toNat_natCast]; omega
set_option maxHeartbeats 4000000 in
theorem law8b (m : Int) (c : UInt8) (op k : Int) (t : List UInt8) : ∃ n h, evCall (cf m) Tryz.prog n 8 [aStr [], aK .u8 c.toNat, .agg [.sc (.int .i64 op), .sc (.int .i64 k), aStr t]] heap0 = some (aBool true, h) := by
 have key := call_okW (okT8b (m := m)) 60 8 [aStr [], aK .u8 c.toNat, .agg [.sc (.int .i64 op), .sc (.int .i64 k), aStr t]] heap0 (fun r _ => r = aBool true) (c8b m c op k t (fun r => r = aBool true) ?_)
 ·obtain ⟨n, r, h', h1, rfl⟩ := key
  exact ⟨n, h', h1⟩
 by_cases h2 : c = 32
 ·subst h2; exact ⟨trivial, fun _ _ => rfl⟩
 rw [show ((c.toNat : Int) == 32) = false by
  rw [beq_eq_false_iff_ne]
  intro e
  exact h2 (UInt8.toNat_inj.1 (by have : (32 : UInt8).toNat = 32 := rfl; omega)), iteP_f]
 by_cases h3 : k < 1
 ·rw [decide_eq_true h3, iteP_t]; exact ⟨trivial, fun _ _ => rfl⟩
 rw [decide_eq_false h3, iteP_f]
 by_cases h4 : 50 < k
 ·rw [decide_eq_true h4, iteP_t]; exact ⟨trivial, fun _ _ => rfl⟩
 rw [decide_eq_false h4, iteP_f]
 by_cases h5 : (200 : Int) < (t.length : Int)
 ·rw [decide_eq_true h5, iteP_t]; exact ⟨trivial, fun _ _ => rfl⟩
 rw [decide_eq_false h5, iteP_f]
 obtain ⟨j, rfl⟩ : ∃ j : Nat, k = j := ⟨k.toNat, by omega⟩
 refine ⟨trivial, fun _ _ => ?_⟩
 rw [byte1 c]
 refine ⟨⟨c, rfl, h2, rfl⟩, fun _ _ => ⟨⟨⟨[], ⟨c, [45, 45], [], _, rfl, .nil⟩, by simp, by simp⟩, Nat.zero_le _⟩, fun _ _ => ⟨trivial, fun _ _ => ?_⟩⟩⟩
 rw [iteP_f, decide_eq_false (by omega), iteP_f]
 obtain ⟨M, hMd⟩ : ∃ M, M = putL [] j t := ⟨_, rfl⟩
 have hM : M.length = j := by rw [hMd, putL_len]; simp
 have hMne : M ≠ [] := by
  intro e
  rw [e] at hM
  have : ([] : List (List UInt8)).length = 0 := rfl
  omega
 have hMs : ∀ x ∈ M, x.length ≤ 200 := by rw [hMd]; exact putL_mem (by simp) (by omega)
 have hMr : ∀ x ∈ M, Room x := fun x hx => ⟨by have := hMs x hx; omega⟩
 have hMj : (Lib.join M [45, 45]).length ≤ 50000 := by
  have h1 := join_bound (t := [45, 45]) hMs
  have h2 : M.length * (200 + 2) ≤ 201 * (200 + 2) := Nat.mul_le_mul_right _ (by omega)
  have h3 : ([45, 45] : List UInt8).length = 2 := rfl
  rw [h3] at h1
  omega
 have hMat : M[j - 1]? = some t := by rw [hMd]; exact putL_at (by omega)
 have hmax : max (j : Int) 0 = (M.length : Int) := by omega
 have hk1 : IntKind.i64.wrap ((j : Int) - 1) = ((j - 1 : Nat) : Int) := by rw [wrap_in (by omega) (by omega)]; omega
 rw [hmax, hk1, Int.toNat_natCast M.length, Int.toNat_natCast (j - 1), show 0 + (j - 1) * 1 = j - 1 by omega, row_put0 j t M.length hM, ← hMd]
 have q1 : (decide ((0 : Int) ≤ (M.length : Int)) && decide ((M.length : Int) ≤ (M.length : Int)) && decide ((M.length : Int) ≤ 140737488355328) && (M.length * 16).ble 140737488355328) = true := by
  rw [decide_eq_true (by omega), decide_eq_true (by omega), decide_eq_true (by omega), Nat.ble_eq_true_of_le (by omega)]; rfl
 have q2 : M.length.beq 0 = false := by
  cases hq : M.length.beq 0 with
  | false => rfl
  | true => exact absurd (Nat.eq_of_beq_eq_true hq) (by omega)
 rw [q1, iteP_t, q2, iteP_f, show inRange ((j - 1 : Nat) : Int) M.length = true by rw [inRange_iff]; omega, iteP_t, row_in0 M.length (j - 1) (by omega), iteP_t]
 refine ⟨rfl, ⟨rfl, ⟨M, c, [45, 45], _, _, rfl, rfl, rfl, by omega, by omega⟩⟩, fun _ _ => ⟨⟨M, rfl, rfl, by omega, by omega⟩, fun x4 hx4 => ?_⟩⟩
 have hx4 := hx4.is M rfl
 subst hx4
 refine ⟨⟨⟨M, ⟨c, [45, 45], _, _, rfl, .row _ M hMne rfl⟩, by omega, hMr⟩, Nat.zero_le _⟩, fun B hB => ?_⟩
 have hB : M = B := IsRec.uniq ⟨c, [45, 45], _, _, rfl, .row _ M hMne rfl⟩ hB.is
 subst hB
 have hmax2 : max (0 : Int) (j : Int) = (M.length : Int) := by omega
 rw [hmax2, List.length_map, show ((M.length : Int) != (M.length : Int)) = false by simp, iteP_f]
 refine ⟨⟨M, rfl, by omega, by omega⟩, fun x6 hx6 => ?_⟩
 have hx6 := hx6.is M rfl
 subst hx6
 rw [decide_eq_false (by simp), iteP_f, show inRange ((j - 1 : Nat) : Int) M.length = true by rw [inRange_iff]; omega, iteP_t]
 refine ⟨by rw [Rc.cell_get, hMat, Rc.cell_str hMat]; rfl, ?_⟩
 rw [Rc.cell_str hMat, decide_eq_false (by simp), iteP_f]
 exact ⟨rfl, ⟨rfl, ⟨[], j, .nil, rfl, by omega, by rw [hMd], by simp, by omega⟩⟩, fun _ _ => ⟨trivial, fun _ _ => rfl⟩⟩
theorem law8 (m : Int) (s : List UInt8) (c : UInt8) (op k : Int) (t : List UInt8) : ∃ n h, evCall (cf m) Tryz.prog n 8 [aStr s, aK .u8 c.toNat, .agg [.sc (.int .i64 op), .sc (.int .i64 k), aStr t]] heap0 = some (aBool true, h) := by
 by_cases h : s = []
 ·subst h; exact law8b m c op k t
 ·exact law8a m s c op k t h
end
end Go.Proofs.Rd
namespace Go.Proofs.YtdnekbapjlbeaaaGreatDoor
open Go Go.Ef Go.ChangeShapes Go.WideShapes Go.ChangeAt Go.RowKit
open Go.ChangeMaps (open_string shut_string)
theorem room_any {W : World} (h : W.ShapedOpen Tryz.prog) : ∃ m, GlobOk (Rec.cfg m) W := by
 obtain ⟨m, hm⟩ := cell_of_shapedOpen_int (g := 1) (zero := #[.int .i64 0]) (t := 3) h (of_decide_eq_true (by kernel_rfl)) (by kernel_rfl) rfl (by kernel_rfl) (by kernel_rfl) Tryz.underlying3
 refine ⟨m, fun g cs hg i x hx => ?_⟩
 replace hg : Rec.globs m g = some cs := hg
 unfold Rec.globs at hg
 split at hg
 ·cases hg
  match i with
  | 0 => simp at hx; subst hx; exact ⟨_, hm, .sc rfl⟩
  | i + 1 => simp at hx
 ·cases hg
theorem byte_wf {n : Int} (h : (Lit.int .u8 n).wf = true) : 0 ≤ n ∧ n ≤ 255 := by
 simp [Lit.wf, IntKind.min, IntKind.max, IntKind.signed, IntKind.bits] at h
 omega
theorem own : ownKnob Tryz.prog.godebug = none := by kernel_rfl
theorem row_witness {H : Type} {enc : TypeId × Value → H} {C : Checked} {os : Os} {f : FuncId} {fn : Func} {s : OpenSpec} {conds : List PathCond} {apart : Bool} {laid : List (String × DataW Unit)} (w0 : World) (args : Array Value) (hos : w0.os = os)
  (hsh : (w0.forCall (fun _ _ => 0) ⟨#[], args, []⟩).Shaped C.prog) (hok : Input.okWideB C.prog (w0.forCall (fun _ _ => 0) ⟨#[], args, []⟩) f ⟨#[], args, []⟩ = true)
  (hrow : s.preRow enc C.prog fn conds apart laid (w0.forCall (fun _ _ => 0) ⟨#[], args, []⟩).memory args) :
  ∃ (w : World) (tape : Tape) (i : Input), w.os = os ∧ (w.forCall tape i).Shaped C.prog ∧ i.vars = [] ∧ Input.okWide C.prog (w.forCall tape i) .any w.heap.size f i ∧
   s.preRow enc C.prog fn conds apart laid (w.forCall tape i).memory i.args ∧ ({} : Assume).holds C.prog (lone (Frame.enter C.prog f i.args .normal) [] (w.forCall tape i)) :=
 ⟨w0, fun _ _ => 0, ⟨#[], args, []⟩, hos, hsh, (Input.okWide_of_okWideB (base := 0) hok).1, (Input.okWide_of_okWideB hok).2, hrow, by
  simp only [Assume.holds]
  exact ⟨by simp, by simp, fun _ => Modest.zero, by simp, by simp⟩⟩
end Go.Proofs.YtdnekbapjlbeaaaGreatDoor
