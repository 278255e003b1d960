/- A part of the proof: definitions and lemmas. -/
import Derived.Test.YtdnekbapjlbeaaaGreatDoorLimitsD
import Derived.Test.YtdnekbapjlbeaaaGreatDoorCards
import Derived.Test.YtdnekbapjlbeaaaGreatDoorTie
import Derived.WalkKit
import Derived.ProofKit
import Derived.Handy
import Derived.Lay
import Derived.Shelf.Vars
import Derived.Deep.DeepHandedRow
import Derived.SevenTiedAt
namespace Go.Proofs.Rd
open Go Go.Ef
noncomputable section
set_option maxRecDepth 100000
def hQa1 : List AV := [AV.sc (Value.string (ByteArray.mk (Array.mk [(112 : UInt8), (111 : UInt8), (115 : UInt8), (105 : UInt8), (120 : UInt8)]))), AV.sl wEls (0 : Nat), AV.sc (Value.string (ByteArray.mk (Array.mk wLow))), AV.sc (Value.string (ByteArray.mk (Array.mk wUp))), AV.sc (Value.slice none (0 : Nat) (0 : Nat)), AV.sc (Value.slice none (0 : Nat) (0 : Nat))]
def hQa2 : List AV := [AV.sc (Value.string (ByteArray.mk (Array.mk [(58 : UInt8)]))), AV.sc (Value.string (ByteArray.mk (Array.mk []))), AV.sc (Value.int IntKind.i64 (0 : Int)), AV.sc (Value.int IntKind.i64 (0 : Int)), AV.sc (Value.int IntKind.i64 (0 : Int)), AV.sc (Value.int IntKind.u64 (0 : Int)), AV.sc (Value.int IntKind.u64 (0 : Int)), AV.sc (Value.int IntKind.u64 (0 : Int)), AV.sc (Value.int IntKind.u64 (0 : Int)), AV.sc (Value.int IntKind.i64 (0 : Int)), AV.sc (Value.int IntKind.i64 (0 : Int)), AV.sc (Value.int IntKind.i64 (0 : Int)), AV.sc (Value.slice none (0 : Nat) (0 : Nat))]
def hQa3 : List AV := [AV.sc (Value.string (ByteArray.mk (Array.mk [(58 : UInt8)]))), AV.sc (Value.string (ByteArray.mk (Array.mk []))), AV.sc (Value.int IntKind.i64 (0 : Int)), AV.sc (Value.int IntKind.i64 (0 : Int)), AV.sc (Value.int IntKind.i64 (0 : Int)), AV.sc (Value.int IntKind.u64 (0 : Int)), AV.sc (Value.int IntKind.u64 (0 : Int)), AV.sc (Value.int IntKind.u64 (0 : Int)), AV.sc (Value.int IntKind.u64 (0 : Int)), AV.sc (Value.int IntKind.i64 (0 : Int)), AV.sc (Value.int IntKind.i64 (0 : Int)), AV.sc (Value.int IntKind.i64 (0 : Int)), AV.sc (Value.slice none (0 : Nat) (0 : Nat)), AV.sc (Value.string (ByteArray.mk (Array.mk [(44 : UInt8)]))), AV.sc (Value.string (ByteArray.mk (Array.mk []))), AV.sc (Value.slice none (0 : Nat) (0 : Nat))]
def hQa4 (n : Int) : Heap := (Heap.mk (5 : Nat) (((Tr.leaf.node (some (AObj.cells (hQa3))) Tr.leaf).node (some (AObj.cells (hQa1))) Tr.leaf).node none ((Tr.leaf.node (some (AObj.cells (repC n (AV.sc (Value.int IntKind.u8 (0 : Int)))))) Tr.leaf).node (some (AObj.cells (hQa2))) Tr.leaf)) (0 : Nat) (((Tr.leaf.node (some ((112 : Nat), (16 : Nat))) Tr.leaf).node (some ((61 : Nat), (hQa1).length)) Tr.leaf).node none (Tr.leaf.node (some ((108 : Nat), (13 : Nat))) Tr.leaf)))
def hQa5 (n : Int) : Heap := (Heap.mk (5 : Nat) (((Tr.leaf.node (some (AObj.cells (hQa3))) Tr.leaf).node (some (AObj.cells (hQa1))) Tr.leaf).node none ((Tr.leaf.node (some (AObj.cells (List.replicate n.toNat (AV.sc (Value.int IntKind.u8 (58 : Int)))))) Tr.leaf).node (some (AObj.cells (hQa2))) Tr.leaf)) (0 : Nat) (((Tr.leaf.node (some ((112 : Nat), (16 : Nat))) Tr.leaf).node (some ((61 : Nat), (hQa1).length)) Tr.leaf).node none (Tr.leaf.node (some ((108 : Nat), (13 : Nat))) Tr.leaf)))
def hQa6 (n : Int) : List AV := [AV.sc (Value.string (ByteArray.mk (Array.mk [(58 : UInt8)]))), AV.sc (Value.string (ByteArray.mk (Array.mk []))), AV.sc (Value.int IntKind.i64 (0 : Int)), AV.sc (Value.int IntKind.i64 (0 : Int)), AV.sc (Value.int IntKind.i64 (0 : Int)), AV.sc (Value.int IntKind.u64 (0 : Int)), AV.sc (Value.int IntKind.u64 (0 : Int)), AV.sc (Value.int IntKind.u64 (0 : Int)), AV.sc (Value.int IntKind.u64 (0 : Int)), AV.sc (Value.int IntKind.i64 (0 : Int)), AV.sc (Value.int IntKind.i64 (0 : Int)), AV.sc (Value.int IntKind.i64 (0 : Int)), AV.sc (Value.slice none (0 : Nat) (0 : Nat)), AV.sc (Value.string (ByteArray.mk (Array.mk [(44 : UInt8)]))), AV.sc (Value.string (ByteArray.mk (Array.mk (joinC (zRow [] n.toNat))))), AV.rsl (hQa5 n).next (0 : Nat) n.toNat (1 : Nat)]
def hQa7 (n : Int) : Heap := (Heap.mk (6 : Nat) (((Tr.leaf.node (some (AObj.cells (hQa6 n))) Tr.leaf).node (some (AObj.cells (hQa1))) (Tr.leaf.node (some (AObj.cells (zRow [] n.toNat))) Tr.leaf)).node none ((Tr.leaf.node (some (AObj.cells (List.replicate n.toNat (AV.sc (Value.int IntKind.u8 (58 : Int)))))) Tr.leaf).node (some (AObj.cells (hQa2))) Tr.leaf)) (0 : Nat) (((Tr.leaf.node (some ((112 : Nat), (16 : Nat))) Tr.leaf).node (some ((61 : Nat), (hQa1).length)) Tr.leaf).node none (Tr.leaf.node (some ((108 : Nat), (13 : Nat))) Tr.leaf)))
def hQa8 (n : Int) : List AV := [AV.sc (Value.string (ByteArray.mk (Array.mk [(58 : UInt8)]))), AV.sc (Value.string (ByteArray.mk (Array.mk []))), AV.sc (Value.int IntKind.i64 (0 : Int)), AV.sc (Value.int IntKind.i64 (0 : Int)), AV.sc (Value.int IntKind.i64 (0 : Int)), AV.sc (Value.int IntKind.u64 (0 : Int)), AV.sc (Value.int IntKind.u64 (0 : Int)), AV.sc (Value.int IntKind.u64 (0 : Int)), AV.sc (Value.int IntKind.u64 (0 : Int)), AV.sc (Value.int IntKind.i64 (0 : Int)), AV.sc (Value.int IntKind.i64 (0 : Int)), AV.sc (Value.int IntKind.i64 (0 : Int)), AV.sc (Value.slice none (0 : Nat) (0 : Nat)), AV.sc (Value.string (ByteArray.mk (Array.mk [(44 : UInt8)]))), AV.sc (Value.string (ByteArray.mk (Array.mk (joinC (pRow (zRow [] n.toNat) n.toNat [(97 : UInt8)]))))), AV.rsl (hQa7 n).next (0 : Nat) (max n.toNat n.toNat) (1 : Nat)]
def hQa9 (n : Int) : Heap := (Heap.mk (7 : Nat) (((Tr.leaf.node (some (AObj.cells (hQa8 n))) Tr.leaf).node (some (AObj.cells (hQa1))) (Tr.leaf.node (some (AObj.cells (zRow [] n.toNat))) Tr.leaf)).node none ((Tr.leaf.node (some (AObj.cells (List.replicate n.toNat (AV.sc (Value.int IntKind.u8 (58 : Int)))))) Tr.leaf).node (some (AObj.cells (hQa2))) (Tr.leaf.node (some (AObj.cells (pRow (zRow [] n.toNat) n.toNat [(97 : UInt8)]))) Tr.leaf))) (0 : Nat) (((Tr.leaf.node (some ((112 : Nat), (16 : Nat))) Tr.leaf).node (some ((61 : Nat), (hQa1).length)) Tr.leaf).node none (Tr.leaf.node (some ((108 : Nat), (13 : Nat))) Tr.leaf)))
def hQa10 (n : Int) : Heap := (Heap.mk (8 : Nat) ((((Tr.leaf.node (some (AObj.own (1 : Nat) (5 : Nat) (0 : Nat))) Tr.leaf).node (some (AObj.cells (hQa8 n))) Tr.leaf).node (some (AObj.cells (hQa1))) (Tr.leaf.node (some (AObj.cells (zRow [] n.toNat))) Tr.leaf)).node none ((Tr.leaf.node (some (AObj.cells (List.replicate n.toNat (AV.sc (Value.int IntKind.u8 (58 : Int)))))) Tr.leaf).node (some (AObj.cells (hQa2))) (Tr.leaf.node (some (AObj.cells (pRow (zRow [] n.toNat) n.toNat [(97 : UInt8)]))) Tr.leaf))) (0 : Nat) (((Tr.leaf.node (some ((112 : Nat), (16 : Nat))) Tr.leaf).node (some ((61 : Nat), (hQa1).length)) Tr.leaf).node none (Tr.leaf.node (some ((108 : Nat), (13 : Nat))) Tr.leaf)))
def hQa11 (n : Int) : List AV := [AV.sc (Value.string (ByteArray.mk (Array.mk [(58 : UInt8)]))), AV.sc (Value.string (ByteArray.mk (Array.mk []))), AV.sc (Value.int IntKind.i64 (0 : Int)), AV.sc (Value.int IntKind.i64 (0 : Int)), AV.sc (Value.int IntKind.i64 (0 : Int)), AV.sc (Value.int IntKind.u64 (0 : Int)), AV.sc (Value.int IntKind.u64 (0 : Int)), AV.sc (Value.int IntKind.u64 (0 : Int)), AV.sc (Value.int IntKind.u64 (0 : Int)), AV.sc (Value.int IntKind.i64 (0 : Int)), AV.sc (Value.int IntKind.i64 (0 : Int)), AV.sc (Value.int IntKind.i64 (0 : Int)), AV.sc (Value.slice none (0 : Nat) (0 : Nat)), AV.sc (Value.string (ByteArray.mk (Array.mk [(44 : UInt8)]))), AV.sc (Value.string (ByteArray.mk (Array.mk (joinC (zRow (pRow (zRow [] n.toNat) n.toNat [(97 : UInt8)]) (2 : Nat)))))), AV.rsl ((hQa9 n).next + (1 : Nat)) (0 : Nat) (2 : Nat) (1 : Nat)]
def hQa12 (n : Int) : Heap := (Heap.mk (9 : Nat) ((((Tr.leaf.node (some (AObj.own (1 : Nat) (5 : Nat) (0 : Nat))) Tr.leaf).node (some (AObj.cells (hQa11 n))) Tr.leaf).node (some (AObj.cells (hQa1))) (Tr.leaf.node (some (AObj.cells (zRow [] n.toNat))) Tr.leaf)).node none (((Tr.leaf.node (some (AObj.cells (zRow (pRow (zRow [] n.toNat) n.toNat [(97 : UInt8)]) (2 : Nat)))) Tr.leaf).node (some (AObj.cells (List.replicate n.toNat (AV.sc (Value.int IntKind.u8 (58 : Int)))))) Tr.leaf).node (some (AObj.cells (hQa2))) (Tr.leaf.node (some (AObj.cells (pRow (zRow [] n.toNat) n.toNat [(97 : UInt8)]))) Tr.leaf))) (0 : Nat) (((Tr.leaf.node (some ((112 : Nat), (16 : Nat))) Tr.leaf).node (some ((61 : Nat), (hQa1).length)) Tr.leaf).node none (Tr.leaf.node (some ((108 : Nat), (13 : Nat))) Tr.leaf)))
def hQa13 (n : Int) : List AV := [AV.sc (Value.string (ByteArray.mk (Array.mk [(58 : UInt8)]))), AV.sc (Value.string (ByteArray.mk (Array.mk []))), AV.sc (Value.int IntKind.i64 (0 : Int)), AV.sc (Value.int IntKind.i64 (0 : Int)), AV.sc (Value.int IntKind.i64 (0 : Int)), AV.sc (Value.int IntKind.u64 (0 : Int)), AV.sc (Value.int IntKind.u64 (0 : Int)), AV.sc (Value.int IntKind.u64 (0 : Int)), AV.sc (Value.int IntKind.u64 (0 : Int)), AV.sc (Value.int IntKind.i64 (0 : Int)), AV.sc (Value.int IntKind.i64 (0 : Int)), AV.sc (Value.int IntKind.i64 (0 : Int)), AV.sc (Value.slice none (0 : Nat) (0 : Nat)), AV.sc (Value.string (ByteArray.mk (Array.mk [(44 : UInt8)]))), AV.sc (Value.string (ByteArray.mk (Array.mk (joinC (pRow (zRow (pRow (zRow [] n.toNat) n.toNat [(97 : UInt8)]) (2 : Nat)) (1 : Nat) (List.map byteD [])))))), AV.rsl (hQa12 n).next (0 : Nat) (max (1 : Nat) (Int.toNat (2 : Int))) (1 : Nat)]
def hQa14 (n : Int) : Heap := (Heap.mk (10 : Nat) ((((Tr.leaf.node (some (AObj.own (1 : Nat) (5 : Nat) (0 : Nat))) Tr.leaf).node (some (AObj.cells (hQa13 n))) Tr.leaf).node (some (AObj.cells (hQa1))) ((Tr.leaf.node (some (AObj.cells (pRow (zRow (pRow (zRow [] n.toNat) n.toNat [(97 : UInt8)]) (2 : Nat)) (1 : Nat) (List.map byteD [])))) Tr.leaf).node (some (AObj.cells (zRow [] n.toNat))) Tr.leaf)).node none (((Tr.leaf.node (some (AObj.cells (zRow (pRow (zRow [] n.toNat) n.toNat [(97 : UInt8)]) (2 : Nat)))) Tr.leaf).node (some (AObj.cells (List.replicate n.toNat (AV.sc (Value.int IntKind.u8 (58 : Int)))))) Tr.leaf).node (some (AObj.cells (hQa2))) (Tr.leaf.node (some (AObj.cells (pRow (zRow [] n.toNat) n.toNat [(97 : UInt8)]))) Tr.leaf))) (0 : Nat) (((Tr.leaf.node (some ((112 : Nat), (16 : Nat))) Tr.leaf).node (some ((61 : Nat), (hQa1).length)) Tr.leaf).node none (Tr.leaf.node (some ((108 : Nat), (13 : Nat))) Tr.leaf)))
def hQa15 (n : Int) : Heap := (Heap.mk (10 : Nat) ((((Tr.leaf.node (some (AObj.own (1 : Nat) (5 : Nat) (0 : Nat))) Tr.leaf).node (some (AObj.cells (hQa11 n))) Tr.leaf).node (some (AObj.cells (hQa1))) ((Tr.leaf.node (some (AObj.cells (pRow (zRow (pRow (zRow [] n.toNat) n.toNat [(97 : UInt8)]) (2 : Nat)) (1 : Nat) (List.map byteD [])))) Tr.leaf).node (some (AObj.cells (zRow [] n.toNat))) Tr.leaf)).node none (((Tr.leaf.node (some (AObj.cells (zRow (pRow (zRow [] n.toNat) n.toNat [(97 : UInt8)]) (2 : Nat)))) Tr.leaf).node (some (AObj.cells (List.replicate n.toNat (AV.sc (Value.int IntKind.u8 (58 : Int)))))) Tr.leaf).node (some (AObj.cells (hQa2))) (Tr.leaf.node (some (AObj.cells (pRow (zRow [] n.toNat) n.toNat [(97 : UInt8)]))) Tr.leaf))) (0 : Nat) (((Tr.leaf.node (some ((112 : Nat), (16 : Nat))) Tr.leaf).node (some ((61 : Nat), (hQa1).length)) Tr.leaf).node none (Tr.leaf.node (some ((108 : Nat), (13 : Nat))) Tr.leaf)))
theorem c7C0 (m : Int) (n : Int) (K : AV → Prop) (h :
 iteP (decide (n < (0 : Int))) (True ∧
 ∀ (_ : Unit), True → K (AV.sc (Value.bool true)))
 (iteP (decide ((70000 : Int) < n)) (True ∧
 ∀ (_ : Unit), True → K (AV.sc (Value.bool true))) (True ∧
 ∀ (_ : Unit), True →
 iteP (decide ((0 : Int) ≤ n) && decide (n ≤ n) && decide (n ≤ (140737488355328 : Int)) && (n.toNat * (1 : Nat)).ble (140737488355328 : Nat))
 (iteP (n.toNat.beq (0 : Nat)) False (loopAt Tryz.prog (7 : Nat) (9 : Nat) = loopAt Tryz.prog (7 : Nat) (9 : Nat) ∧ (I7a n (0 : Int) n.toNat (0 : Int) (hQa4 n) = I7a n (0 : Int) n.toNat (0 : Int) (hQa4 n) ∧ Fill (hQa4 n) (4 : Nat) n n.toNat) ∧
 ∀ (_ : Unit), True →
 iteP (decide ((1024 : Int) ≤ n))
 (iteP (endCells ((0 : Nat) + n.toNat) (List.replicate n.toNat (AV.sc (Value.int IntKind.u8 (58 : Int)))))
 (iteP (decide ((65536 : Int) < (↑(List.map u8B (cutC (List.replicate n.toNat (AV.sc (Value.int IntKind.u8 (58 : Int)))) (0 : Nat) n.toNat)).length : Int))) (Rz (hQa5 n) (AV.sc (Value.slice none (0 : Nat) (0 : Nat))) n ∧
 ∀ (_ : Unit), True → PutIn (hQa7 n) (AV.rsl (hQa5 n).next (0 : Nat) n.toNat (1 : Nat)) n [(97 : UInt8)] ∧
 ∀ (_ : Unit), True →
 iteP (decide ((1024 : Int) < n)) (K (AV.sc (Value.bool false)))
 (iteP (decide ((0 : Int) < n))
 (iteP ((↑(max n.toNat n.toNat) : Int) != n) (K (AV.sc (Value.bool false))) (loopAt Tryz.prog (7 : Nat) (24 : Nat) = loopAt Tryz.prog (7 : Nat) (24 : Nat) ∧ (I7bs (0 : Int) ((hQa9 n).next + (1 : Nat)) (0 : Int) (hQa10 n) = I7bs (0 : Int) ((hQa9 n).next + (1 : Nat)) (0 : Int) (hQa10 n) ∧ (0 : Int) = (0 : Int)) ∧
 ∀ (_ : Unit), True → Rz (hQa10 n) (AV.rsl (hQa7 n).next (0 : Nat) (max n.toNat n.toNat) (1 : Nat)) (2 : Int) ∧
 ∀ (_ : Unit), True → PutOr (hQa12 n) (AV.rsl ((hQa9 n).next + (1 : Nat)) (0 : Nat) (2 : Nat) (1 : Nat)) (1 : Int) (List.map byteD []) ∧ (∀ (_ : Unit), FitP (joinC (pRow (zRow (pRow (zRow [] n.toNat) n.toNat [(97 : UInt8)]) (2 : Nat)) (1 : Nat) (List.map byteD []))) → GetEasy (hQa14 n) (2 : Int) ∧
 ∀ (y0 : List UInt8), IsGet (hQa14 n) (2 : Int) y0 →
 ∀ (y1m : Int), y1m = IntKind.i64.wrap (IntKind.i64.wrap ((0 : Int) + (1 : Int)) + (↑y0.length : Int)) →
 iteP (decide (y1m ≤ (65536 : Int))) (∀ (y1m : Int), y1m = (↑(joinC (pRow (zRow (pRow (zRow [] n.toNat) n.toNat [(97 : UInt8)]) (2 : Nat)) (1 : Nat) (List.map byteD []))).length : Int) →
 iteP (decide (y1m ≤ (65536 : Int))) (True ∧
 ∀ (_ : Unit), True → K (AV.sc (Value.bool true))) (K (AV.sc (Value.bool false)))) (K (AV.sc (Value.bool false)))) ∧
 ∀ (_ : Unit), OverP (joinC (pRow (zRow (pRow (zRow [] n.toNat) n.toNat [(97 : UInt8)]) (2 : Nat)) (1 : Nat) (List.map byteD []))) → GetEasy (hQa15 n) (2 : Int) ∧
 ∀ (y0 : List UInt8), IsGet (hQa15 n) (2 : Int) y0 →
 ∀ (y1m : Int), y1m = IntKind.i64.wrap (IntKind.i64.wrap ((0 : Int) + (1 : Int)) + (↑y0.length : Int)) →
 iteP (decide (y1m ≤ (65536 : Int))) (K (AV.sc (Value.bool false))) (∀ (y1m : Int), y1m = (↑(joinC (zRow (pRow (zRow [] n.toNat) n.toNat [(97 : UInt8)]) (2 : Nat))).length : Int) →
 iteP (decide (y1m ≤ (65536 : Int))) (True ∧
 ∀ (_ : Unit), True → K (AV.sc (Value.bool true))) (K (AV.sc (Value.bool false)))))) (K (AV.sc (Value.bool false))))) (SplOver (AV.agg (hQa2)) (List.map u8B (cutC (List.replicate n.toNat (AV.sc (Value.int IntKind.u8 (58 : Int)))) (0 : Nat) n.toNat)) ∧
 ∀ (_ : Unit), True → Rz (hQa5 n) (AV.sc (Value.slice none (0 : Nat) (0 : Nat))) n ∧
 ∀ (_ : Unit), True → PutIn (hQa7 n) (AV.rsl (hQa5 n).next (0 : Nat) n.toNat (1 : Nat)) n [(97 : UInt8)] ∧
 ∀ (_ : Unit), True →
 iteP (decide ((1024 : Int) < n)) (K (AV.sc (Value.bool false)))
 (iteP (decide ((0 : Int) < n))
 (iteP ((↑(max n.toNat n.toNat) : Int) != n) (K (AV.sc (Value.bool false))) (loopAt Tryz.prog (7 : Nat) (24 : Nat) = loopAt Tryz.prog (7 : Nat) (24 : Nat) ∧ (I7bs (0 : Int) ((hQa9 n).next + (1 : Nat)) (0 : Int) (hQa10 n) = I7bs (0 : Int) ((hQa9 n).next + (1 : Nat)) (0 : Int) (hQa10 n) ∧ (0 : Int) = (0 : Int)) ∧
 ∀ (_ : Unit), True → Rz (hQa10 n) (AV.rsl (hQa7 n).next (0 : Nat) (max n.toNat n.toNat) (1 : Nat)) (2 : Int) ∧
 ∀ (_ : Unit), True → PutOr (hQa12 n) (AV.rsl ((hQa9 n).next + (1 : Nat)) (0 : Nat) (2 : Nat) (1 : Nat)) (1 : Int) (List.map byteD []) ∧ (∀ (_ : Unit), FitP (joinC (pRow (zRow (pRow (zRow [] n.toNat) n.toNat [(97 : UInt8)]) (2 : Nat)) (1 : Nat) (List.map byteD []))) → GetEasy (hQa14 n) (2 : Int) ∧
 ∀ (y0 : List UInt8), IsGet (hQa14 n) (2 : Int) y0 →
 ∀ (y1m : Int), y1m = IntKind.i64.wrap (IntKind.i64.wrap ((0 : Int) + (1 : Int)) + (↑y0.length : Int)) →
 iteP (decide (y1m ≤ (65536 : Int))) (∀ (y1m : Int), y1m = (↑(joinC (pRow (zRow (pRow (zRow [] n.toNat) n.toNat [(97 : UInt8)]) (2 : Nat)) (1 : Nat) (List.map byteD []))).length : Int) →
 iteP (decide (y1m ≤ (65536 : Int))) (True ∧
 ∀ (_ : Unit), True → K (AV.sc (Value.bool true))) (K (AV.sc (Value.bool false)))) (K (AV.sc (Value.bool false)))) ∧
 ∀ (_ : Unit), OverP (joinC (pRow (zRow (pRow (zRow [] n.toNat) n.toNat [(97 : UInt8)]) (2 : Nat)) (1 : Nat) (List.map byteD []))) → GetEasy (hQa15 n) (2 : Int) ∧
 ∀ (y0 : List UInt8), IsGet (hQa15 n) (2 : Int) y0 →
 ∀ (y1m : Int), y1m = IntKind.i64.wrap (IntKind.i64.wrap ((0 : Int) + (1 : Int)) + (↑y0.length : Int)) →
 iteP (decide (y1m ≤ (65536 : Int))) (K (AV.sc (Value.bool false))) (∀ (y1m : Int), y1m = (↑(joinC (zRow (pRow (zRow [] n.toNat) n.toNat [(97 : UInt8)]) (2 : Nat))).length : Int) →
 iteP (decide (y1m ≤ (65536 : Int))) (True ∧
 ∀ (_ : Unit), True → K (AV.sc (Value.bool true))) (K (AV.sc (Value.bool false)))))) (K (AV.sc (Value.bool false)))))) False)
 (iteP (endCells ((0 : Nat) + n.toNat) (List.replicate n.toNat (AV.sc (Value.int IntKind.u8 (58 : Int)))))
 (iteP (decide ((65536 : Int) < (↑(List.map u8B (cutC (List.replicate n.toNat (AV.sc (Value.int IntKind.u8 (58 : Int)))) (0 : Nat) n.toNat)).length : Int))) (K (AV.sc (Value.bool false))) (SplOver (AV.agg (hQa2)) (List.map u8B (cutC (List.replicate n.toNat (AV.sc (Value.int IntKind.u8 (58 : Int)))) (0 : Nat) n.toNat)) ∧
 ∀ (_ : Unit), True → K (AV.sc (Value.bool false)))) False))) False))) :
 (fun (m : Int) (n : Int) (K : AV → Prop) => wpCall TC (cf m) Tryz.prog 60 7 [.sc (.int .i64 n), .sc (.int .i64 0)] heap0 fun r _ => K r) m n K :=
 Eq.mp (by kernel_rfl) h
end
end Go.Proofs.Rd
namespace Go.Proofs.Rd
open Go Go.Ef
noncomputable section
set_option maxRecDepth 100000
def hNa1 : List AV := [AV.sc (Value.string (ByteArray.mk (Array.mk [(112 : UInt8), (111 : UInt8), (115 : UInt8), (105 : UInt8), (120 : UInt8)]))), AV.sl wEls (0 : Nat), AV.sc (Value.string (ByteArray.mk (Array.mk wLow))), AV.sc (Value.string (ByteArray.mk (Array.mk wUp))), AV.sc (Value.slice none (0 : Nat) (0 : Nat)), AV.sc (Value.slice none (0 : Nat) (0 : Nat))]
def hNa2 : List AV := [AV.sc (Value.string (ByteArray.mk (Array.mk [(58 : UInt8)]))), AV.sc (Value.string (ByteArray.mk (Array.mk []))), AV.sc (Value.int IntKind.i64 (0 : Int)), AV.sc (Value.int IntKind.i64 (0 : Int)), AV.sc (Value.int IntKind.i64 (0 : Int)), AV.sc (Value.int IntKind.u64 (0 : Int)), AV.sc (Value.int IntKind.u64 (0 : Int)), AV.sc (Value.int IntKind.u64 (0 : Int)), AV.sc (Value.int IntKind.u64 (0 : Int)), AV.sc (Value.int IntKind.i64 (0 : Int)), AV.sc (Value.int IntKind.i64 (0 : Int)), AV.sc (Value.int IntKind.i64 (0 : Int)), AV.sc (Value.slice none (0 : Nat) (0 : Nat))]
def hNa3 : List AV := [AV.sc (Value.string (ByteArray.mk (Array.mk [(58 : UInt8)]))), AV.sc (Value.string (ByteArray.mk (Array.mk []))), AV.sc (Value.int IntKind.i64 (0 : Int)), AV.sc (Value.int IntKind.i64 (0 : Int)), AV.sc (Value.int IntKind.i64 (0 : Int)), AV.sc (Value.int IntKind.u64 (0 : Int)), AV.sc (Value.int IntKind.u64 (0 : Int)), AV.sc (Value.int IntKind.u64 (0 : Int)), AV.sc (Value.int IntKind.u64 (0 : Int)), AV.sc (Value.int IntKind.i64 (0 : Int)), AV.sc (Value.int IntKind.i64 (0 : Int)), AV.sc (Value.int IntKind.i64 (0 : Int)), AV.sc (Value.slice none (0 : Nat) (0 : Nat)), AV.sc (Value.string (ByteArray.mk (Array.mk [(44 : UInt8)]))), AV.sc (Value.string (ByteArray.mk (Array.mk []))), AV.sc (Value.slice none (0 : Nat) (0 : Nat))]
def hNa4 (n : Int) : Heap := (Heap.mk (5 : Nat) (((Tr.leaf.node (some (AObj.cells (hNa3))) Tr.leaf).node (some (AObj.cells (hNa1))) Tr.leaf).node none ((Tr.leaf.node (some (AObj.cells (repC n (AV.sc (Value.int IntKind.u8 (0 : Int)))))) Tr.leaf).node (some (AObj.cells (hNa2))) Tr.leaf)) (0 : Nat) (((Tr.leaf.node (some ((112 : Nat), (16 : Nat))) Tr.leaf).node (some ((61 : Nat), (hNa1).length)) Tr.leaf).node none (Tr.leaf.node (some ((108 : Nat), (13 : Nat))) Tr.leaf)))
def hNa5 (n : Int) : Heap := (Heap.mk (5 : Nat) (((Tr.leaf.node (some (AObj.cells (hNa3))) Tr.leaf).node (some (AObj.cells (hNa1))) Tr.leaf).node none ((Tr.leaf.node (some (AObj.cells (List.replicate n.toNat (AV.sc (Value.int IntKind.u8 (58 : Int)))))) Tr.leaf).node (some (AObj.cells (hNa2))) Tr.leaf)) (0 : Nat) (((Tr.leaf.node (some ((112 : Nat), (16 : Nat))) Tr.leaf).node (some ((61 : Nat), (hNa1).length)) Tr.leaf).node none (Tr.leaf.node (some ((108 : Nat), (13 : Nat))) Tr.leaf)))
def hNa6 (n : Int) : List AV := [AV.sc (Value.string (ByteArray.mk (Array.mk [(58 : UInt8)]))), AV.sc (Value.string (ByteArray.mk (Array.mk []))), AV.sc (Value.int IntKind.i64 (0 : Int)), AV.sc (Value.int IntKind.i64 (0 : Int)), AV.sc (Value.int IntKind.i64 (0 : Int)), AV.sc (Value.int IntKind.u64 (0 : Int)), AV.sc (Value.int IntKind.u64 (0 : Int)), AV.sc (Value.int IntKind.u64 (0 : Int)), AV.sc (Value.int IntKind.u64 (0 : Int)), AV.sc (Value.int IntKind.i64 (0 : Int)), AV.sc (Value.int IntKind.i64 (0 : Int)), AV.sc (Value.int IntKind.i64 (0 : Int)), AV.sc (Value.slice none (0 : Nat) (0 : Nat)), AV.sc (Value.string (ByteArray.mk (Array.mk [(44 : UInt8)]))), AV.sc (Value.string (ByteArray.mk (Array.mk (joinC (zRow [] n.toNat))))), AV.rsl (hNa5 n).next (0 : Nat) n.toNat (1 : Nat)]
def hNa7 (n : Int) : Heap := (Heap.mk (6 : Nat) (((Tr.leaf.node (some (AObj.cells (hNa6 n))) Tr.leaf).node (some (AObj.cells (hNa1))) (Tr.leaf.node (some (AObj.cells (zRow [] n.toNat))) Tr.leaf)).node none ((Tr.leaf.node (some (AObj.cells (List.replicate n.toNat (AV.sc (Value.int IntKind.u8 (58 : Int)))))) Tr.leaf).node (some (AObj.cells (hNa2))) Tr.leaf)) (0 : Nat) (((Tr.leaf.node (some ((112 : Nat), (16 : Nat))) Tr.leaf).node (some ((61 : Nat), (hNa1).length)) Tr.leaf).node none (Tr.leaf.node (some ((108 : Nat), (13 : Nat))) Tr.leaf)))
def hNa8 (y2 : List (List UInt8)) (n : Int) : List AV := [AV.sc (Value.string (ByteArray.mk (Array.mk [(58 : UInt8)]))), AV.sc (Value.string (ByteArray.mk (Array.mk []))), AV.sc (Value.int IntKind.i64 (0 : Int)), AV.sc (Value.int IntKind.i64 (0 : Int)), AV.sc (Value.int IntKind.i64 (0 : Int)), AV.sc (Value.int IntKind.u64 (0 : Int)), AV.sc (Value.int IntKind.u64 (0 : Int)), AV.sc (Value.int IntKind.u64 (0 : Int)), AV.sc (Value.int IntKind.u64 (0 : Int)), AV.sc (Value.int IntKind.i64 (0 : Int)), AV.sc (Value.int IntKind.i64 (0 : Int)), AV.sc (Value.int IntKind.i64 (0 : Int)), AV.sc (Value.slice none (0 : Nat) (0 : Nat)), AV.sc (Value.string (ByteArray.mk (Array.mk [(44 : UInt8)]))), AV.sc (Value.string (ByteArray.mk (Array.mk (joinC (zRow (rowS (List.map strEl y2)) n.toNat))))), AV.rsl (hNa5 n).next (0 : Nat) n.toNat (1 : Nat)]
def hNa9 (y2 : List (List UInt8)) (n : Int) : Heap := (Heap.mk (6 : Nat) (((Tr.leaf.node (some (AObj.cells (hNa8 y2 n))) Tr.leaf).node (some (AObj.cells (hNa1))) (Tr.leaf.node (some (AObj.cells (zRow (rowS (List.map strEl y2)) n.toNat))) Tr.leaf)).node none ((Tr.leaf.node (some (AObj.cells (List.replicate n.toNat (AV.sc (Value.int IntKind.u8 (58 : Int)))))) Tr.leaf).node (some (AObj.cells (hNa2))) Tr.leaf)) (0 : Nat) (((Tr.leaf.node (some ((112 : Nat), (16 : Nat))) Tr.leaf).node (some ((61 : Nat), (hNa1).length)) Tr.leaf).node none (Tr.leaf.node (some ((108 : Nat), (13 : Nat))) Tr.leaf)))
def hNa10 (n : Int) : List AV := [AV.sc (Value.string (ByteArray.mk (Array.mk [(58 : UInt8)]))), AV.sc (Value.string (ByteArray.mk (Array.mk []))), AV.sc (Value.int IntKind.i64 (0 : Int)), AV.sc (Value.int IntKind.i64 (0 : Int)), AV.sc (Value.int IntKind.i64 (0 : Int)), AV.sc (Value.int IntKind.u64 (0 : Int)), AV.sc (Value.int IntKind.u64 (0 : Int)), AV.sc (Value.int IntKind.u64 (0 : Int)), AV.sc (Value.int IntKind.u64 (0 : Int)), AV.sc (Value.int IntKind.i64 (0 : Int)), AV.sc (Value.int IntKind.i64 (0 : Int)), AV.sc (Value.int IntKind.i64 (0 : Int)), AV.sc (Value.slice none (0 : Nat) (0 : Nat)), AV.sc (Value.string (ByteArray.mk (Array.mk [(44 : UInt8)]))), AV.sc (Value.string (ByteArray.mk (Array.mk (joinC (pRow (zRow [] n.toNat) n.toNat [(97 : UInt8)]))))), AV.rsl (hNa7 n).next (0 : Nat) (max n.toNat n.toNat) (1 : Nat)]
def hNa11 (size : Int) (n : Int) : Heap := (Heap.mk (8 : Nat) ((((Tr.leaf.node (some (AObj.cells (repC size (AV.sc (Value.int IntKind.u8 (0 : Int)))))) Tr.leaf).node (some (AObj.cells (hNa10 n))) Tr.leaf).node (some (AObj.cells (hNa1))) (Tr.leaf.node (some (AObj.cells (zRow [] n.toNat))) Tr.leaf)).node none ((Tr.leaf.node (some (AObj.cells (List.replicate n.toNat (AV.sc (Value.int IntKind.u8 (58 : Int)))))) Tr.leaf).node (some (AObj.cells (hNa2))) (Tr.leaf.node (some (AObj.cells (pRow (zRow [] n.toNat) n.toNat [(97 : UInt8)]))) Tr.leaf))) (0 : Nat) (((Tr.leaf.node (some ((112 : Nat), (16 : Nat))) Tr.leaf).node (some ((61 : Nat), (hNa1).length)) Tr.leaf).node none (Tr.leaf.node (some ((108 : Nat), (13 : Nat))) Tr.leaf)))
def hNa12 (size : Int) (n : Int) : Heap := (Heap.mk (8 : Nat) ((((Tr.leaf.node (some (AObj.cells (List.replicate size.toNat (AV.sc (Value.int IntKind.u8 (120 : Int)))))) Tr.leaf).node (some (AObj.cells (hNa10 n))) Tr.leaf).node (some (AObj.cells (hNa1))) (Tr.leaf.node (some (AObj.cells (zRow [] n.toNat))) Tr.leaf)).node none ((Tr.leaf.node (some (AObj.cells (List.replicate n.toNat (AV.sc (Value.int IntKind.u8 (58 : Int)))))) Tr.leaf).node (some (AObj.cells (hNa2))) (Tr.leaf.node (some (AObj.cells (pRow (zRow [] n.toNat) n.toNat [(97 : UInt8)]))) Tr.leaf))) (0 : Nat) (((Tr.leaf.node (some ((112 : Nat), (16 : Nat))) Tr.leaf).node (some ((61 : Nat), (hNa1).length)) Tr.leaf).node none (Tr.leaf.node (some ((108 : Nat), (13 : Nat))) Tr.leaf)))
def hNa13 (n : Int) (size : Int) : List AV := [AV.sc (Value.string (ByteArray.mk (Array.mk [(58 : UInt8)]))), AV.sc (Value.string (ByteArray.mk (Array.mk []))), AV.sc (Value.int IntKind.i64 (0 : Int)), AV.sc (Value.int IntKind.i64 (0 : Int)), AV.sc (Value.int IntKind.i64 (0 : Int)), AV.sc (Value.int IntKind.u64 (0 : Int)), AV.sc (Value.int IntKind.u64 (0 : Int)), AV.sc (Value.int IntKind.u64 (0 : Int)), AV.sc (Value.int IntKind.u64 (0 : Int)), AV.sc (Value.int IntKind.i64 (0 : Int)), AV.sc (Value.int IntKind.i64 (0 : Int)), AV.sc (Value.int IntKind.i64 (0 : Int)), AV.sc (Value.slice none (0 : Nat) (0 : Nat)), AV.sc (Value.string (ByteArray.mk (Array.mk [(44 : UInt8)]))), AV.sc (Value.string (ByteArray.mk (Array.mk (joinC (zRow (pRow (zRow [] n.toNat) n.toNat [(97 : UInt8)]) (2 : Nat)))))), AV.rsl (hNa12 size n).next (0 : Nat) (2 : Nat) (1 : Nat)]
def hNa14 (size : Int) (n : Int) : Heap := (Heap.mk (9 : Nat) ((((Tr.leaf.node (some (AObj.cells (List.replicate size.toNat (AV.sc (Value.int IntKind.u8 (120 : Int)))))) Tr.leaf).node (some (AObj.cells (hNa13 n size))) Tr.leaf).node (some (AObj.cells (hNa1))) (Tr.leaf.node (some (AObj.cells (zRow [] n.toNat))) Tr.leaf)).node none (((Tr.leaf.node (some (AObj.cells (zRow (pRow (zRow [] n.toNat) n.toNat [(97 : UInt8)]) (2 : Nat)))) Tr.leaf).node (some (AObj.cells (List.replicate n.toNat (AV.sc (Value.int IntKind.u8 (58 : Int)))))) Tr.leaf).node (some (AObj.cells (hNa2))) (Tr.leaf.node (some (AObj.cells (pRow (zRow [] n.toNat) n.toNat [(97 : UInt8)]))) Tr.leaf))) (0 : Nat) (((Tr.leaf.node (some ((112 : Nat), (16 : Nat))) Tr.leaf).node (some ((61 : Nat), (hNa1).length)) Tr.leaf).node none (Tr.leaf.node (some ((108 : Nat), (13 : Nat))) Tr.leaf)))
def hNa15 (y2 : List (List UInt8)) (n : Int) : List AV := [AV.sc (Value.string (ByteArray.mk (Array.mk [(58 : UInt8)]))), AV.sc (Value.string (ByteArray.mk (Array.mk []))), AV.sc (Value.int IntKind.i64 (0 : Int)), AV.sc (Value.int IntKind.i64 (0 : Int)), AV.sc (Value.int IntKind.i64 (0 : Int)), AV.sc (Value.int IntKind.u64 (0 : Int)), AV.sc (Value.int IntKind.u64 (0 : Int)), AV.sc (Value.int IntKind.u64 (0 : Int)), AV.sc (Value.int IntKind.u64 (0 : Int)), AV.sc (Value.int IntKind.i64 (0 : Int)), AV.sc (Value.int IntKind.i64 (0 : Int)), AV.sc (Value.int IntKind.i64 (0 : Int)), AV.sc (Value.slice none (0 : Nat) (0 : Nat)), AV.sc (Value.string (ByteArray.mk (Array.mk [(44 : UInt8)]))), AV.sc (Value.string (ByteArray.mk (Array.mk (joinC (pRow (zRow (rowS (List.map strEl y2)) n.toNat) n.toNat [(97 : UInt8)]))))), AV.rsl (hNa9 y2 n).next (0 : Nat) (max n.toNat n.toNat) (1 : Nat)]
def hNa16 (size : Int) (y2 : List (List UInt8)) (n : Int) : Heap := (Heap.mk (8 : Nat) ((((Tr.leaf.node (some (AObj.cells (repC size (AV.sc (Value.int IntKind.u8 (0 : Int)))))) Tr.leaf).node (some (AObj.cells (hNa15 y2 n))) Tr.leaf).node (some (AObj.cells (hNa1))) (Tr.leaf.node (some (AObj.cells (zRow (rowS (List.map strEl y2)) n.toNat))) Tr.leaf)).node none ((Tr.leaf.node (some (AObj.cells (List.replicate n.toNat (AV.sc (Value.int IntKind.u8 (58 : Int)))))) Tr.leaf).node (some (AObj.cells (hNa2))) (Tr.leaf.node (some (AObj.cells (pRow (zRow (rowS (List.map strEl y2)) n.toNat) n.toNat [(97 : UInt8)]))) Tr.leaf))) (0 : Nat) (((Tr.leaf.node (some ((112 : Nat), (16 : Nat))) Tr.leaf).node (some ((61 : Nat), (hNa1).length)) Tr.leaf).node none (Tr.leaf.node (some ((108 : Nat), (13 : Nat))) Tr.leaf)))
def hNa17 (size : Int) (y2 : List (List UInt8)) (n : Int) : Heap := (Heap.mk (8 : Nat) ((((Tr.leaf.node (some (AObj.cells (List.replicate size.toNat (AV.sc (Value.int IntKind.u8 (120 : Int)))))) Tr.leaf).node (some (AObj.cells (hNa15 y2 n))) Tr.leaf).node (some (AObj.cells (hNa1))) (Tr.leaf.node (some (AObj.cells (zRow (rowS (List.map strEl y2)) n.toNat))) Tr.leaf)).node none ((Tr.leaf.node (some (AObj.cells (List.replicate n.toNat (AV.sc (Value.int IntKind.u8 (58 : Int)))))) Tr.leaf).node (some (AObj.cells (hNa2))) (Tr.leaf.node (some (AObj.cells (pRow (zRow (rowS (List.map strEl y2)) n.toNat) n.toNat [(97 : UInt8)]))) Tr.leaf))) (0 : Nat) (((Tr.leaf.node (some ((112 : Nat), (16 : Nat))) Tr.leaf).node (some ((61 : Nat), (hNa1).length)) Tr.leaf).node none (Tr.leaf.node (some ((108 : Nat), (13 : Nat))) Tr.leaf)))
def hNa18 (y2 : List (List UInt8)) (n : Int) (size : Int) : List AV := [AV.sc (Value.string (ByteArray.mk (Array.mk [(58 : UInt8)]))), AV.sc (Value.string (ByteArray.mk (Array.mk []))), AV.sc (Value.int IntKind.i64 (0 : Int)), AV.sc (Value.int IntKind.i64 (0 : Int)), AV.sc (Value.int IntKind.i64 (0 : Int)), AV.sc (Value.int IntKind.u64 (0 : Int)), AV.sc (Value.int IntKind.u64 (0 : Int)), AV.sc (Value.int IntKind.u64 (0 : Int)), AV.sc (Value.int IntKind.u64 (0 : Int)), AV.sc (Value.int IntKind.i64 (0 : Int)), AV.sc (Value.int IntKind.i64 (0 : Int)), AV.sc (Value.int IntKind.i64 (0 : Int)), AV.sc (Value.slice none (0 : Nat) (0 : Nat)), AV.sc (Value.string (ByteArray.mk (Array.mk [(44 : UInt8)]))), AV.sc (Value.string (ByteArray.mk (Array.mk (joinC (zRow (pRow (zRow (rowS (List.map strEl y2)) n.toNat) n.toNat [(97 : UInt8)]) (2 : Nat)))))), AV.rsl (hNa17 size y2 n).next (0 : Nat) (2 : Nat) (1 : Nat)]
def hNa19 (n : Int) (size : Int) : List AV := [AV.sc (Value.string (ByteArray.mk (Array.mk [(58 : UInt8)]))), AV.sc (Value.string (ByteArray.mk (Array.mk []))), AV.sc (Value.int IntKind.i64 (0 : Int)), AV.sc (Value.int IntKind.i64 (0 : Int)), AV.sc (Value.int IntKind.i64 (0 : Int)), AV.sc (Value.int IntKind.u64 (0 : Int)), AV.sc (Value.int IntKind.u64 (0 : Int)), AV.sc (Value.int IntKind.u64 (0 : Int)), AV.sc (Value.int IntKind.u64 (0 : Int)), AV.sc (Value.int IntKind.i64 (0 : Int)), AV.sc (Value.int IntKind.i64 (0 : Int)), AV.sc (Value.int IntKind.i64 (0 : Int)), AV.sc (Value.slice none (0 : Nat) (0 : Nat)), AV.sc (Value.string (ByteArray.mk (Array.mk [(44 : UInt8)]))), AV.sc (Value.string (ByteArray.mk (Array.mk (joinC (pRow (zRow (pRow (zRow [] n.toNat) n.toNat [(97 : UInt8)]) (2 : Nat)) (1 : Nat) (List.map u8B (cutC (List.replicate size.toNat (AV.sc (Value.int IntKind.u8 (120 : Int)))) (0 : Nat) size.toNat))))))), AV.rsl (hNa14 size n).next (0 : Nat) (max (1 : Nat) (Int.toNat (2 : Int))) (1 : Nat)]
def hNa20 (size : Int) (y2 : List (List UInt8)) (n : Int) : Heap := (Heap.mk (9 : Nat) ((((Tr.leaf.node (some (AObj.cells (List.replicate size.toNat (AV.sc (Value.int IntKind.u8 (120 : Int)))))) Tr.leaf).node (some (AObj.cells (hNa18 y2 n size))) Tr.leaf).node (some (AObj.cells (hNa1))) (Tr.leaf.node (some (AObj.cells (zRow (rowS (List.map strEl y2)) n.toNat))) Tr.leaf)).node none (((Tr.leaf.node (some (AObj.cells (zRow (pRow (zRow (rowS (List.map strEl y2)) n.toNat) n.toNat [(97 : UInt8)]) (2 : Nat)))) Tr.leaf).node (some (AObj.cells (List.replicate n.toNat (AV.sc (Value.int IntKind.u8 (58 : Int)))))) Tr.leaf).node (some (AObj.cells (hNa2))) (Tr.leaf.node (some (AObj.cells (pRow (zRow (rowS (List.map strEl y2)) n.toNat) n.toNat [(97 : UInt8)]))) Tr.leaf))) (0 : Nat) (((Tr.leaf.node (some ((112 : Nat), (16 : Nat))) Tr.leaf).node (some ((61 : Nat), (hNa1).length)) Tr.leaf).node none (Tr.leaf.node (some ((108 : Nat), (13 : Nat))) Tr.leaf)))
def hNa21 (y2 : List (List UInt8)) (n : Int) (size : Int) : List AV := [AV.sc (Value.string (ByteArray.mk (Array.mk [(58 : UInt8)]))), AV.sc (Value.string (ByteArray.mk (Array.mk []))), AV.sc (Value.int IntKind.i64 (0 : Int)), AV.sc (Value.int IntKind.i64 (0 : Int)), AV.sc (Value.int IntKind.i64 (0 : Int)), AV.sc (Value.int IntKind.u64 (0 : Int)), AV.sc (Value.int IntKind.u64 (0 : Int)), AV.sc (Value.int IntKind.u64 (0 : Int)), AV.sc (Value.int IntKind.u64 (0 : Int)), AV.sc (Value.int IntKind.i64 (0 : Int)), AV.sc (Value.int IntKind.i64 (0 : Int)), AV.sc (Value.int IntKind.i64 (0 : Int)), AV.sc (Value.slice none (0 : Nat) (0 : Nat)), AV.sc (Value.string (ByteArray.mk (Array.mk [(44 : UInt8)]))), AV.sc (Value.string (ByteArray.mk (Array.mk (joinC (pRow (zRow (pRow (zRow (rowS (List.map strEl y2)) n.toNat) n.toNat [(97 : UInt8)]) (2 : Nat)) (1 : Nat) (List.map u8B (cutC (List.replicate size.toNat (AV.sc (Value.int IntKind.u8 (120 : Int)))) (0 : Nat) size.toNat))))))), AV.rsl (hNa20 size y2 n).next (0 : Nat) (max (1 : Nat) (Int.toNat (2 : Int))) (1 : Nat)]
def hNa22 (size : Int) (n : Int) : Heap := (Heap.mk (10 : Nat) ((((Tr.leaf.node (some (AObj.cells (List.replicate size.toNat (AV.sc (Value.int IntKind.u8 (120 : Int)))))) Tr.leaf).node (some (AObj.cells (hNa19 n size))) Tr.leaf).node (some (AObj.cells (hNa1))) ((Tr.leaf.node (some (AObj.cells (pRow (zRow (pRow (zRow [] n.toNat) n.toNat [(97 : UInt8)]) (2 : Nat)) (1 : Nat) (List.map u8B (cutC (List.replicate size.toNat (AV.sc (Value.int IntKind.u8 (120 : Int)))) (0 : Nat) size.toNat))))) Tr.leaf).node (some (AObj.cells (zRow [] n.toNat))) Tr.leaf)).node none (((Tr.leaf.node (some (AObj.cells (zRow (pRow (zRow [] n.toNat) n.toNat [(97 : UInt8)]) (2 : Nat)))) Tr.leaf).node (some (AObj.cells (List.replicate n.toNat (AV.sc (Value.int IntKind.u8 (58 : Int)))))) Tr.leaf).node (some (AObj.cells (hNa2))) (Tr.leaf.node (some (AObj.cells (pRow (zRow [] n.toNat) n.toNat [(97 : UInt8)]))) Tr.leaf))) (0 : Nat) (((Tr.leaf.node (some ((112 : Nat), (16 : Nat))) Tr.leaf).node (some ((61 : Nat), (hNa1).length)) Tr.leaf).node none (Tr.leaf.node (some ((108 : Nat), (13 : Nat))) Tr.leaf)))
def hNa23 (size : Int) (n : Int) : Heap := (Heap.mk (10 : Nat) ((((Tr.leaf.node (some (AObj.cells (List.replicate size.toNat (AV.sc (Value.int IntKind.u8 (120 : Int)))))) Tr.leaf).node (some (AObj.cells (hNa13 n size))) Tr.leaf).node (some (AObj.cells (hNa1))) ((Tr.leaf.node (some (AObj.cells (pRow (zRow (pRow (zRow [] n.toNat) n.toNat [(97 : UInt8)]) (2 : Nat)) (1 : Nat) (List.map u8B (cutC (List.replicate size.toNat (AV.sc (Value.int IntKind.u8 (120 : Int)))) (0 : Nat) size.toNat))))) Tr.leaf).node (some (AObj.cells (zRow [] n.toNat))) Tr.leaf)).node none (((Tr.leaf.node (some (AObj.cells (zRow (pRow (zRow [] n.toNat) n.toNat [(97 : UInt8)]) (2 : Nat)))) Tr.leaf).node (some (AObj.cells (List.replicate n.toNat (AV.sc (Value.int IntKind.u8 (58 : Int)))))) Tr.leaf).node (some (AObj.cells (hNa2))) (Tr.leaf.node (some (AObj.cells (pRow (zRow [] n.toNat) n.toNat [(97 : UInt8)]))) Tr.leaf))) (0 : Nat) (((Tr.leaf.node (some ((112 : Nat), (16 : Nat))) Tr.leaf).node (some ((61 : Nat), (hNa1).length)) Tr.leaf).node none (Tr.leaf.node (some ((108 : Nat), (13 : Nat))) Tr.leaf)))
def hNa24 (size : Int) (y2 : List (List UInt8)) (n : Int) : Heap := (Heap.mk (10 : Nat) ((((Tr.leaf.node (some (AObj.cells (List.replicate size.toNat (AV.sc (Value.int IntKind.u8 (120 : Int)))))) Tr.leaf).node (some (AObj.cells (hNa21 y2 n size))) Tr.leaf).node (some (AObj.cells (hNa1))) ((Tr.leaf.node (some (AObj.cells (pRow (zRow (pRow (zRow (rowS (List.map strEl y2)) n.toNat) n.toNat [(97 : UInt8)]) (2 : Nat)) (1 : Nat) (List.map u8B (cutC (List.replicate size.toNat (AV.sc (Value.int IntKind.u8 (120 : Int)))) (0 : Nat) size.toNat))))) Tr.leaf).node (some (AObj.cells (zRow (rowS (List.map strEl y2)) n.toNat))) Tr.leaf)).node none (((Tr.leaf.node (some (AObj.cells (zRow (pRow (zRow (rowS (List.map strEl y2)) n.toNat) n.toNat [(97 : UInt8)]) (2 : Nat)))) Tr.leaf).node (some (AObj.cells (List.replicate n.toNat (AV.sc (Value.int IntKind.u8 (58 : Int)))))) Tr.leaf).node (some (AObj.cells (hNa2))) (Tr.leaf.node (some (AObj.cells (pRow (zRow (rowS (List.map strEl y2)) n.toNat) n.toNat [(97 : UInt8)]))) Tr.leaf))) (0 : Nat) (((Tr.leaf.node (some ((112 : Nat), (16 : Nat))) Tr.leaf).node (some ((61 : Nat), (hNa1).length)) Tr.leaf).node none (Tr.leaf.node (some ((108 : Nat), (13 : Nat))) Tr.leaf)))
def hNa25 (size : Int) (y2 : List (List UInt8)) (n : Int) : Heap := (Heap.mk (10 : Nat) ((((Tr.leaf.node (some (AObj.cells (List.replicate size.toNat (AV.sc (Value.int IntKind.u8 (120 : Int)))))) Tr.leaf).node (some (AObj.cells (hNa18 y2 n size))) Tr.leaf).node (some (AObj.cells (hNa1))) ((Tr.leaf.node (some (AObj.cells (pRow (zRow (pRow (zRow (rowS (List.map strEl y2)) n.toNat) n.toNat [(97 : UInt8)]) (2 : Nat)) (1 : Nat) (List.map u8B (cutC (List.replicate size.toNat (AV.sc (Value.int IntKind.u8 (120 : Int)))) (0 : Nat) size.toNat))))) Tr.leaf).node (some (AObj.cells (zRow (rowS (List.map strEl y2)) n.toNat))) Tr.leaf)).node none (((Tr.leaf.node (some (AObj.cells (zRow (pRow (zRow (rowS (List.map strEl y2)) n.toNat) n.toNat [(97 : UInt8)]) (2 : Nat)))) Tr.leaf).node (some (AObj.cells (List.replicate n.toNat (AV.sc (Value.int IntKind.u8 (58 : Int)))))) Tr.leaf).node (some (AObj.cells (hNa2))) (Tr.leaf.node (some (AObj.cells (pRow (zRow (rowS (List.map strEl y2)) n.toNat) n.toNat [(97 : UInt8)]))) Tr.leaf))) (0 : Nat) (((Tr.leaf.node (some ((112 : Nat), (16 : Nat))) Tr.leaf).node (some ((61 : Nat), (hNa1).length)) Tr.leaf).node none (Tr.leaf.node (some ((108 : Nat), (13 : Nat))) Tr.leaf)))
theorem c7B (m : Int) (n : Int) (size : Int) (K : AV → Prop) (h :
 iteP (decide (n < (0 : Int))) (True ∧
 ∀ (_ : Unit), True → K (AV.sc (Value.bool true)))
 (iteP (decide ((70000 : Int) < n)) (True ∧
 ∀ (_ : Unit), True → K (AV.sc (Value.bool true)))
 (iteP (decide (size < (0 : Int))) (True ∧
 ∀ (_ : Unit), True → K (AV.sc (Value.bool true)))
 (iteP (decide ((70000 : Int) < size)) (True ∧
 ∀ (_ : Unit), True → K (AV.sc (Value.bool true))) (True ∧
 ∀ (_ : Unit), True →
 iteP (decide ((0 : Int) ≤ n) && decide (n ≤ n) && decide (n ≤ (140737488355328 : Int)) && (n.toNat * (1 : Nat)).ble (140737488355328 : Nat))
 (iteP (n.toNat.beq (0 : Nat)) False (loopAt Tryz.prog (7 : Nat) (9 : Nat) = loopAt Tryz.prog (7 : Nat) (9 : Nat) ∧ (I7a n size n.toNat (0 : Int) (hNa4 n) = I7a n size n.toNat (0 : Int) (hNa4 n) ∧ Fill (hNa4 n) (4 : Nat) n n.toNat) ∧
 ∀ (_ : Unit), True →
 iteP (decide ((1024 : Int) ≤ n))
 (iteP (endCells ((0 : Nat) + n.toNat) (List.replicate n.toNat (AV.sc (Value.int IntKind.u8 (58 : Int)))))
 (iteP (decide ((65536 : Int) < (↑(List.map u8B (cutC (List.replicate n.toNat (AV.sc (Value.int IntKind.u8 (58 : Int)))) (0 : Nat) n.toNat)).length : Int))) (Rz (hNa5 n) (AV.sc (Value.slice none (0 : Nat) (0 : Nat))) n ∧
 ∀ (_ : Unit), True → PutIn (hNa7 n) (AV.rsl (hNa5 n).next (0 : Nat) n.toNat (1 : Nat)) n [(97 : UInt8)] ∧
 ∀ (_ : Unit), True →
 iteP (decide ((1024 : Int) < n)) (K (AV.sc (Value.bool false)))
 (iteP (decide ((0 : Int) < n))
 (iteP ((↑(max n.toNat n.toNat) : Int) != n) (K (AV.sc (Value.bool false)))
 (iteP (decide ((0 : Int) ≤ size) && decide (size ≤ size) && decide (size ≤ (140737488355328 : Int)) && (size.toNat * (1 : Nat)).ble (140737488355328 : Nat))
 (iteP (size.toNat.beq (0 : Nat)) False (loopAt Tryz.prog (7 : Nat) (24 : Nat) = loopAt Tryz.prog (7 : Nat) (24 : Nat) ∧ (I7b size (7 : Nat) size.toNat (0 : Int) (hNa11 size n) = I7b size (7 : Nat) size.toNat (0 : Int) (hNa11 size n) ∧ Fill (hNa11 size n) (7 : Nat) size size.toNat) ∧
 ∀ (_ : Unit), True → Rz (hNa12 size n) (AV.rsl (hNa7 n).next (0 : Nat) (max n.toNat n.toNat) (1 : Nat)) (2 : Int) ∧
 ∀ (_ : Unit), True →
 iteP (endCells ((0 : Nat) + size.toNat) (List.replicate size.toNat (AV.sc (Value.int IntKind.u8 (120 : Int))))) (PutOr (hNa14 size n) (AV.rsl (hNa12 size n).next (0 : Nat) (2 : Nat) (1 : Nat)) (1 : Int) (List.map u8B (cutC (List.replicate size.toNat (AV.sc (Value.int IntKind.u8 (120 : Int)))) (0 : Nat) size.toNat)) ∧ (∀ (_ : Unit), FitP (joinC (pRow (zRow (pRow (zRow [] n.toNat) n.toNat [(97 : UInt8)]) (2 : Nat)) (1 : Nat) (List.map u8B (cutC (List.replicate size.toNat (AV.sc (Value.int IntKind.u8 (120 : Int)))) (0 : Nat) size.toNat)))) → GetEasy (hNa22 size n) (2 : Int) ∧
 ∀ (y0 : List UInt8), IsGet (hNa22 size n) (2 : Int) y0 →
 ∀ (y1m : Int), y1m = IntKind.i64.wrap (IntKind.i64.wrap (size + (1 : Int)) + (↑y0.length : Int)) →
 iteP (decide (y1m ≤ (65536 : Int))) (∀ (y1m : Int), y1m = (↑(joinC (pRow (zRow (pRow (zRow [] n.toNat) n.toNat [(97 : UInt8)]) (2 : Nat)) (1 : Nat) (List.map u8B (cutC (List.replicate size.toNat (AV.sc (Value.int IntKind.u8 (120 : Int)))) (0 : Nat) size.toNat)))).length : Int) →
 iteP (decide (y1m ≤ (65536 : Int))) (True ∧
 ∀ (_ : Unit), True → K (AV.sc (Value.bool true))) (K (AV.sc (Value.bool false)))) (K (AV.sc (Value.bool false)))) ∧
 ∀ (_ : Unit), OverP (joinC (pRow (zRow (pRow (zRow [] n.toNat) n.toNat [(97 : UInt8)]) (2 : Nat)) (1 : Nat) (List.map u8B (cutC (List.replicate size.toNat (AV.sc (Value.int IntKind.u8 (120 : Int)))) (0 : Nat) size.toNat)))) → GetEasy (hNa23 size n) (2 : Int) ∧
 ∀ (y0 : List UInt8), IsGet (hNa23 size n) (2 : Int) y0 →
 ∀ (y1m : Int), y1m = IntKind.i64.wrap (IntKind.i64.wrap (size + (1 : Int)) + (↑y0.length : Int)) →
 iteP (decide (y1m ≤ (65536 : Int))) (K (AV.sc (Value.bool false))) (∀ (y1m : Int), y1m = (↑(joinC (zRow (pRow (zRow [] n.toNat) n.toNat [(97 : UInt8)]) (2 : Nat))).length : Int) →
 iteP (decide (y1m ≤ (65536 : Int))) (True ∧
 ∀ (_ : Unit), True → K (AV.sc (Value.bool true))) (K (AV.sc (Value.bool false))))) False)) False)) (K (AV.sc (Value.bool false))))) (SplOk (AV.agg (hNa2)) (List.map u8B (cutC (List.replicate n.toNat (AV.sc (Value.int IntKind.u8 (58 : Int)))) (0 : Nat) n.toNat)) ∧
 ∀ (y2 : List (List UInt8)), IsSpl (AV.agg (hNa2)) (List.map u8B (cutC (List.replicate n.toNat (AV.sc (Value.int IntKind.u8 (58 : Int)))) (0 : Nat) n.toNat)) y2 → K (AV.sc (Value.bool false)))) False)
 (iteP (endCells ((0 : Nat) + n.toNat) (List.replicate n.toNat (AV.sc (Value.int IntKind.u8 (58 : Int)))))
 (iteP (decide ((65536 : Int) < (↑(List.map u8B (cutC (List.replicate n.toNat (AV.sc (Value.int IntKind.u8 (58 : Int)))) (0 : Nat) n.toNat)).length : Int))) (K (AV.sc (Value.bool false))) (SplOk (AV.agg (hNa2)) (List.map u8B (cutC (List.replicate n.toNat (AV.sc (Value.int IntKind.u8 (58 : Int)))) (0 : Nat) n.toNat)) ∧
 ∀ (y2 : List (List UInt8)), IsSpl (AV.agg (hNa2)) (List.map u8B (cutC (List.replicate n.toNat (AV.sc (Value.int IntKind.u8 (58 : Int)))) (0 : Nat) n.toNat)) y2 → Rz (Heap.mk (5 : Nat) (((Tr.leaf.node (some (AObj.cells [AV.sc (Value.string (ByteArray.mk (Array.mk [(58 : UInt8)]))), AV.sc (Value.string (ByteArray.mk (Array.mk []))), AV.sc (Value.int IntKind.i64 (0 : Int)), AV.sc (Value.int IntKind.i64 (0 : Int)), AV.sc (Value.int IntKind.i64 (0 : Int)), AV.sc (Value.int IntKind.u64 (0 : Int)), AV.sc (Value.int IntKind.u64 (0 : Int)), AV.sc (Value.int IntKind.u64 (0 : Int)), AV.sc (Value.int IntKind.u64 (0 : Int)), AV.sc (Value.int IntKind.i64 (0 : Int)), AV.sc (Value.int IntKind.i64 (0 : Int)), AV.sc (Value.int IntKind.i64 (0 : Int)), AV.sc (Value.slice none (0 : Nat) (0 : Nat)), AV.sc (Value.string (ByteArray.mk (Array.mk [(44 : UInt8)]))), AV.sc (Value.string (ByteArray.mk (Array.mk (List.map u8B (cutC (List.replicate n.toNat (AV.sc (Value.int IntKind.u8 (58 : Int)))) (0 : Nat) n.toNat))))), AV.sl (List.map strEl y2) (0 : Nat)])) Tr.leaf).node (some (AObj.cells (hNa1))) Tr.leaf).node none ((Tr.leaf.node (some (AObj.cells (List.replicate n.toNat (AV.sc (Value.int IntKind.u8 (58 : Int)))))) Tr.leaf).node (some (AObj.cells (hNa2))) Tr.leaf)) (0 : Nat) (((Tr.leaf.node (some ((112 : Nat), (16 : Nat))) Tr.leaf).node (some ((61 : Nat), (hNa1).length)) Tr.leaf).node none (Tr.leaf.node (some ((108 : Nat), (13 : Nat))) Tr.leaf))) (AV.sl (List.map strEl y2) (0 : Nat)) n ∧
 ∀ (_ : Unit), True → PutIn (hNa9 y2 n) (AV.rsl (hNa5 n).next (0 : Nat) n.toNat (1 : Nat)) n [(97 : UInt8)] ∧
 ∀ (_ : Unit), True →
 iteP (decide ((1024 : Int) < n)) (K (AV.sc (Value.bool false)))
 (iteP (decide ((0 : Int) < n))
 (iteP ((↑(max n.toNat n.toNat) : Int) != n) (K (AV.sc (Value.bool false)))
 (iteP (decide ((0 : Int) ≤ size) && decide (size ≤ size) && decide (size ≤ (140737488355328 : Int)) && (size.toNat * (1 : Nat)).ble (140737488355328 : Nat))
 (iteP (size.toNat.beq (0 : Nat)) False (loopAt Tryz.prog (7 : Nat) (24 : Nat) = loopAt Tryz.prog (7 : Nat) (24 : Nat) ∧ (I7b size (7 : Nat) size.toNat (0 : Int) (hNa16 size y2 n) = I7b size (7 : Nat) size.toNat (0 : Int) (hNa16 size y2 n) ∧ Fill (hNa16 size y2 n) (7 : Nat) size size.toNat) ∧
 ∀ (_ : Unit), True → Rz (hNa17 size y2 n) (AV.rsl (hNa9 y2 n).next (0 : Nat) (max n.toNat n.toNat) (1 : Nat)) (2 : Int) ∧
 ∀ (_ : Unit), True →
 iteP (endCells ((0 : Nat) + size.toNat) (List.replicate size.toNat (AV.sc (Value.int IntKind.u8 (120 : Int))))) (PutOr (hNa20 size y2 n) (AV.rsl (hNa17 size y2 n).next (0 : Nat) (2 : Nat) (1 : Nat)) (1 : Int) (List.map u8B (cutC (List.replicate size.toNat (AV.sc (Value.int IntKind.u8 (120 : Int)))) (0 : Nat) size.toNat)) ∧ (∀ (_ : Unit), FitP (joinC (pRow (zRow (pRow (zRow (rowS (List.map strEl y2)) n.toNat) n.toNat [(97 : UInt8)]) (2 : Nat)) (1 : Nat) (List.map u8B (cutC (List.replicate size.toNat (AV.sc (Value.int IntKind.u8 (120 : Int)))) (0 : Nat) size.toNat)))) → GetEasy (hNa24 size y2 n) (2 : Int) ∧
 ∀ (y0_6 : List UInt8), IsGet (hNa24 size y2 n) (2 : Int) y0_6 →
 ∀ (y1m : Int), y1m = IntKind.i64.wrap (IntKind.i64.wrap (size + (1 : Int)) + (↑y0_6.length : Int)) →
 iteP (decide (y1m ≤ (65536 : Int))) (∀ (y1m : Int), y1m = (↑(joinC (pRow (zRow (pRow (zRow (rowS (List.map strEl y2)) n.toNat) n.toNat [(97 : UInt8)]) (2 : Nat)) (1 : Nat) (List.map u8B (cutC (List.replicate size.toNat (AV.sc (Value.int IntKind.u8 (120 : Int)))) (0 : Nat) size.toNat)))).length : Int) →
 iteP (decide (y1m ≤ (65536 : Int))) (True ∧
 ∀ (_ : Unit), True → K (AV.sc (Value.bool true))) (K (AV.sc (Value.bool false)))) (K (AV.sc (Value.bool false)))) ∧
 ∀ (_ : Unit), OverP (joinC (pRow (zRow (pRow (zRow (rowS (List.map strEl y2)) n.toNat) n.toNat [(97 : UInt8)]) (2 : Nat)) (1 : Nat) (List.map u8B (cutC (List.replicate size.toNat (AV.sc (Value.int IntKind.u8 (120 : Int)))) (0 : Nat) size.toNat)))) → GetEasy (hNa25 size y2 n) (2 : Int) ∧
 ∀ (y0_6 : List UInt8), IsGet (hNa25 size y2 n) (2 : Int) y0_6 →
 ∀ (y1m : Int), y1m = IntKind.i64.wrap (IntKind.i64.wrap (size + (1 : Int)) + (↑y0_6.length : Int)) →
 iteP (decide (y1m ≤ (65536 : Int))) (K (AV.sc (Value.bool false))) (∀ (y1m : Int), y1m = (↑(joinC (zRow (pRow (zRow (rowS (List.map strEl y2)) n.toNat) n.toNat [(97 : UInt8)]) (2 : Nat))).length : Int) →
 iteP (decide (y1m ≤ (65536 : Int))) (True ∧
 ∀ (_ : Unit), True → K (AV.sc (Value.bool true))) (K (AV.sc (Value.bool false))))) False)) False)) (K (AV.sc (Value.bool false)))))) False))) False))))) :
 (fun (m : Int) (n size : Int) (K : AV → Prop) => wpCall TBs (cf m) Tryz.prog 60 7 [.sc (.int .i64 n), .sc (.int .i64 size)] heap0 fun r _ => K r) m n size K :=
 Eq.mp (by kernel_rfl) h
end
end Go.Proofs.Rd
namespace Go.Proofs.Rd
open Go Go.Ef
noncomputable section
set_option maxRecDepth 100000
def hOa1 : List AV := [AV.sc (Value.string (ByteArray.mk (Array.mk [(112 : UInt8), (111 : UInt8), (115 : UInt8), (105 : UInt8), (120 : UInt8)]))), AV.sl wEls (0 : Nat), AV.sc (Value.string (ByteArray.mk (Array.mk wLow))), AV.sc (Value.string (ByteArray.mk (Array.mk wUp))), AV.sc (Value.slice none (0 : Nat) (0 : Nat)), AV.sc (Value.slice none (0 : Nat) (0 : Nat))]
def hOa2 : List AV := [AV.sc (Value.string (ByteArray.mk (Array.mk [(58 : UInt8)]))), AV.sc (Value.string (ByteArray.mk (Array.mk []))), AV.sc (Value.int IntKind.i64 (0 : Int)), AV.sc (Value.int IntKind.i64 (0 : Int)), AV.sc (Value.int IntKind.i64 (0 : Int)), AV.sc (Value.int IntKind.u64 (0 : Int)), AV.sc (Value.int IntKind.u64 (0 : Int)), AV.sc (Value.int IntKind.u64 (0 : Int)), AV.sc (Value.int IntKind.u64 (0 : Int)), AV.sc (Value.int IntKind.i64 (0 : Int)), AV.sc (Value.int IntKind.i64 (0 : Int)), AV.sc (Value.int IntKind.i64 (0 : Int)), AV.sc (Value.slice none (0 : Nat) (0 : Nat))]
def hOa3 : List AV := [AV.sc (Value.string (ByteArray.mk (Array.mk [(58 : UInt8)]))), AV.sc (Value.string (ByteArray.mk (Array.mk []))), AV.sc (Value.int IntKind.i64 (0 : Int)), AV.sc (Value.int IntKind.i64 (0 : Int)), AV.sc (Value.int IntKind.i64 (0 : Int)), AV.sc (Value.int IntKind.u64 (0 : Int)), AV.sc (Value.int IntKind.u64 (0 : Int)), AV.sc (Value.int IntKind.u64 (0 : Int)), AV.sc (Value.int IntKind.u64 (0 : Int)), AV.sc (Value.int IntKind.i64 (0 : Int)), AV.sc (Value.int IntKind.i64 (0 : Int)), AV.sc (Value.int IntKind.i64 (0 : Int)), AV.sc (Value.slice none (0 : Nat) (0 : Nat)), AV.sc (Value.string (ByteArray.mk (Array.mk [(44 : UInt8)]))), AV.sc (Value.string (ByteArray.mk (Array.mk []))), AV.sc (Value.slice none (0 : Nat) (0 : Nat))]
def hOa4 (n : Int) : Heap := (Heap.mk (5 : Nat) (((Tr.leaf.node (some (AObj.cells (hOa3))) Tr.leaf).node (some (AObj.cells (hOa1))) Tr.leaf).node none ((Tr.leaf.node (some (AObj.cells (repC n (AV.sc (Value.int IntKind.u8 (0 : Int)))))) Tr.leaf).node (some (AObj.cells (hOa2))) Tr.leaf)) (0 : Nat) (((Tr.leaf.node (some ((112 : Nat), (16 : Nat))) Tr.leaf).node (some ((61 : Nat), (hOa1).length)) Tr.leaf).node none (Tr.leaf.node (some ((108 : Nat), (13 : Nat))) Tr.leaf)))
def hOa5 (n : Int) : Heap := (Heap.mk (5 : Nat) (((Tr.leaf.node (some (AObj.cells (hOa3))) Tr.leaf).node (some (AObj.cells (hOa1))) Tr.leaf).node none ((Tr.leaf.node (some (AObj.cells (List.replicate n.toNat (AV.sc (Value.int IntKind.u8 (58 : Int)))))) Tr.leaf).node (some (AObj.cells (hOa2))) Tr.leaf)) (0 : Nat) (((Tr.leaf.node (some ((112 : Nat), (16 : Nat))) Tr.leaf).node (some ((61 : Nat), (hOa1).length)) Tr.leaf).node none (Tr.leaf.node (some ((108 : Nat), (13 : Nat))) Tr.leaf)))
def hOa6 (n : Int) : List AV := [AV.sc (Value.string (ByteArray.mk (Array.mk [(58 : UInt8)]))), AV.sc (Value.string (ByteArray.mk (Array.mk []))), AV.sc (Value.int IntKind.i64 (0 : Int)), AV.sc (Value.int IntKind.i64 (0 : Int)), AV.sc (Value.int IntKind.i64 (0 : Int)), AV.sc (Value.int IntKind.u64 (0 : Int)), AV.sc (Value.int IntKind.u64 (0 : Int)), AV.sc (Value.int IntKind.u64 (0 : Int)), AV.sc (Value.int IntKind.u64 (0 : Int)), AV.sc (Value.int IntKind.i64 (0 : Int)), AV.sc (Value.int IntKind.i64 (0 : Int)), AV.sc (Value.int IntKind.i64 (0 : Int)), AV.sc (Value.slice none (0 : Nat) (0 : Nat)), AV.sc (Value.string (ByteArray.mk (Array.mk [(44 : UInt8)]))), AV.sc (Value.string (ByteArray.mk (Array.mk (joinC (zRow [] n.toNat))))), AV.rsl (hOa5 n).next (0 : Nat) n.toNat (1 : Nat)]
def hOa7 (n : Int) : Heap := (Heap.mk (6 : Nat) (((Tr.leaf.node (some (AObj.cells (hOa6 n))) Tr.leaf).node (some (AObj.cells (hOa1))) (Tr.leaf.node (some (AObj.cells (zRow [] n.toNat))) Tr.leaf)).node none ((Tr.leaf.node (some (AObj.cells (List.replicate n.toNat (AV.sc (Value.int IntKind.u8 (58 : Int)))))) Tr.leaf).node (some (AObj.cells (hOa2))) Tr.leaf)) (0 : Nat) (((Tr.leaf.node (some ((112 : Nat), (16 : Nat))) Tr.leaf).node (some ((61 : Nat), (hOa1).length)) Tr.leaf).node none (Tr.leaf.node (some ((108 : Nat), (13 : Nat))) Tr.leaf)))
def hOa8 (y2 : List (List UInt8)) (n : Int) : List AV := [AV.sc (Value.string (ByteArray.mk (Array.mk [(58 : UInt8)]))), AV.sc (Value.string (ByteArray.mk (Array.mk []))), AV.sc (Value.int IntKind.i64 (0 : Int)), AV.sc (Value.int IntKind.i64 (0 : Int)), AV.sc (Value.int IntKind.i64 (0 : Int)), AV.sc (Value.int IntKind.u64 (0 : Int)), AV.sc (Value.int IntKind.u64 (0 : Int)), AV.sc (Value.int IntKind.u64 (0 : Int)), AV.sc (Value.int IntKind.u64 (0 : Int)), AV.sc (Value.int IntKind.i64 (0 : Int)), AV.sc (Value.int IntKind.i64 (0 : Int)), AV.sc (Value.int IntKind.i64 (0 : Int)), AV.sc (Value.slice none (0 : Nat) (0 : Nat)), AV.sc (Value.string (ByteArray.mk (Array.mk [(44 : UInt8)]))), AV.sc (Value.string (ByteArray.mk (Array.mk (joinC (zRow (rowS (List.map strEl y2)) n.toNat))))), AV.rsl (hOa5 n).next (0 : Nat) n.toNat (1 : Nat)]
def hOa9 (y2 : List (List UInt8)) (n : Int) : Heap := (Heap.mk (6 : Nat) (((Tr.leaf.node (some (AObj.cells (hOa8 y2 n))) Tr.leaf).node (some (AObj.cells (hOa1))) (Tr.leaf.node (some (AObj.cells (zRow (rowS (List.map strEl y2)) n.toNat))) Tr.leaf)).node none ((Tr.leaf.node (some (AObj.cells (List.replicate n.toNat (AV.sc (Value.int IntKind.u8 (58 : Int)))))) Tr.leaf).node (some (AObj.cells (hOa2))) Tr.leaf)) (0 : Nat) (((Tr.leaf.node (some ((112 : Nat), (16 : Nat))) Tr.leaf).node (some ((61 : Nat), (hOa1).length)) Tr.leaf).node none (Tr.leaf.node (some ((108 : Nat), (13 : Nat))) Tr.leaf)))
def hOa10 (n : Int) : List AV := [AV.sc (Value.string (ByteArray.mk (Array.mk [(58 : UInt8)]))), AV.sc (Value.string (ByteArray.mk (Array.mk []))), AV.sc (Value.int IntKind.i64 (0 : Int)), AV.sc (Value.int IntKind.i64 (0 : Int)), AV.sc (Value.int IntKind.i64 (0 : Int)), AV.sc (Value.int IntKind.u64 (0 : Int)), AV.sc (Value.int IntKind.u64 (0 : Int)), AV.sc (Value.int IntKind.u64 (0 : Int)), AV.sc (Value.int IntKind.u64 (0 : Int)), AV.sc (Value.int IntKind.i64 (0 : Int)), AV.sc (Value.int IntKind.i64 (0 : Int)), AV.sc (Value.int IntKind.i64 (0 : Int)), AV.sc (Value.slice none (0 : Nat) (0 : Nat)), AV.sc (Value.string (ByteArray.mk (Array.mk [(44 : UInt8)]))), AV.sc (Value.string (ByteArray.mk (Array.mk (joinC (pRow (zRow [] n.toNat) n.toNat [(97 : UInt8)]))))), AV.rsl (hOa7 n).next (0 : Nat) (max n.toNat n.toNat) (1 : Nat)]
def hOa11 (n : Int) : Heap := (Heap.mk (7 : Nat) (((Tr.leaf.node (some (AObj.cells (hOa10 n))) Tr.leaf).node (some (AObj.cells (hOa1))) (Tr.leaf.node (some (AObj.cells (zRow [] n.toNat))) Tr.leaf)).node none ((Tr.leaf.node (some (AObj.cells (List.replicate n.toNat (AV.sc (Value.int IntKind.u8 (58 : Int)))))) Tr.leaf).node (some (AObj.cells (hOa2))) (Tr.leaf.node (some (AObj.cells (pRow (zRow [] n.toNat) n.toNat [(97 : UInt8)]))) Tr.leaf))) (0 : Nat) (((Tr.leaf.node (some ((112 : Nat), (16 : Nat))) Tr.leaf).node (some ((61 : Nat), (hOa1).length)) Tr.leaf).node none (Tr.leaf.node (some ((108 : Nat), (13 : Nat))) Tr.leaf)))
def hOa12 (n : Int) : Heap := (Heap.mk (8 : Nat) ((((Tr.leaf.node (some (AObj.own (1 : Nat) (5 : Nat) (0 : Nat))) Tr.leaf).node (some (AObj.cells (hOa10 n))) Tr.leaf).node (some (AObj.cells (hOa1))) (Tr.leaf.node (some (AObj.cells (zRow [] n.toNat))) Tr.leaf)).node none ((Tr.leaf.node (some (AObj.cells (List.replicate n.toNat (AV.sc (Value.int IntKind.u8 (58 : Int)))))) Tr.leaf).node (some (AObj.cells (hOa2))) (Tr.leaf.node (some (AObj.cells (pRow (zRow [] n.toNat) n.toNat [(97 : UInt8)]))) Tr.leaf))) (0 : Nat) (((Tr.leaf.node (some ((112 : Nat), (16 : Nat))) Tr.leaf).node (some ((61 : Nat), (hOa1).length)) Tr.leaf).node none (Tr.leaf.node (some ((108 : Nat), (13 : Nat))) Tr.leaf)))
def hOa13 (n : Int) : List AV := [AV.sc (Value.string (ByteArray.mk (Array.mk [(58 : UInt8)]))), AV.sc (Value.string (ByteArray.mk (Array.mk []))), AV.sc (Value.int IntKind.i64 (0 : Int)), AV.sc (Value.int IntKind.i64 (0 : Int)), AV.sc (Value.int IntKind.i64 (0 : Int)), AV.sc (Value.int IntKind.u64 (0 : Int)), AV.sc (Value.int IntKind.u64 (0 : Int)), AV.sc (Value.int IntKind.u64 (0 : Int)), AV.sc (Value.int IntKind.u64 (0 : Int)), AV.sc (Value.int IntKind.i64 (0 : Int)), AV.sc (Value.int IntKind.i64 (0 : Int)), AV.sc (Value.int IntKind.i64 (0 : Int)), AV.sc (Value.slice none (0 : Nat) (0 : Nat)), AV.sc (Value.string (ByteArray.mk (Array.mk [(44 : UInt8)]))), AV.sc (Value.string (ByteArray.mk (Array.mk (joinC (zRow (pRow (zRow [] n.toNat) n.toNat [(97 : UInt8)]) (2 : Nat)))))), AV.rsl ((hOa11 n).next + (1 : Nat)) (0 : Nat) (2 : Nat) (1 : Nat)]
def hOa14 (n : Int) : Heap := (Heap.mk (9 : Nat) ((((Tr.leaf.node (some (AObj.own (1 : Nat) (5 : Nat) (0 : Nat))) Tr.leaf).node (some (AObj.cells (hOa13 n))) Tr.leaf).node (some (AObj.cells (hOa1))) (Tr.leaf.node (some (AObj.cells (zRow [] n.toNat))) Tr.leaf)).node none (((Tr.leaf.node (some (AObj.cells (zRow (pRow (zRow [] n.toNat) n.toNat [(97 : UInt8)]) (2 : Nat)))) Tr.leaf).node (some (AObj.cells (List.replicate n.toNat (AV.sc (Value.int IntKind.u8 (58 : Int)))))) Tr.leaf).node (some (AObj.cells (hOa2))) (Tr.leaf.node (some (AObj.cells (pRow (zRow [] n.toNat) n.toNat [(97 : UInt8)]))) Tr.leaf))) (0 : Nat) (((Tr.leaf.node (some ((112 : Nat), (16 : Nat))) Tr.leaf).node (some ((61 : Nat), (hOa1).length)) Tr.leaf).node none (Tr.leaf.node (some ((108 : Nat), (13 : Nat))) Tr.leaf)))
def hOa15 (n : Int) : List AV := [AV.sc (Value.string (ByteArray.mk (Array.mk [(58 : UInt8)]))), AV.sc (Value.string (ByteArray.mk (Array.mk []))), AV.sc (Value.int IntKind.i64 (0 : Int)), AV.sc (Value.int IntKind.i64 (0 : Int)), AV.sc (Value.int IntKind.i64 (0 : Int)), AV.sc (Value.int IntKind.u64 (0 : Int)), AV.sc (Value.int IntKind.u64 (0 : Int)), AV.sc (Value.int IntKind.u64 (0 : Int)), AV.sc (Value.int IntKind.u64 (0 : Int)), AV.sc (Value.int IntKind.i64 (0 : Int)), AV.sc (Value.int IntKind.i64 (0 : Int)), AV.sc (Value.int IntKind.i64 (0 : Int)), AV.sc (Value.slice none (0 : Nat) (0 : Nat)), AV.sc (Value.string (ByteArray.mk (Array.mk [(44 : UInt8)]))), AV.sc (Value.string (ByteArray.mk (Array.mk (joinC (pRow (zRow (pRow (zRow [] n.toNat) n.toNat [(97 : UInt8)]) (2 : Nat)) (1 : Nat) (List.map byteD [])))))), AV.rsl (hOa14 n).next (0 : Nat) (max (1 : Nat) (Int.toNat (2 : Int))) (1 : Nat)]
def hOa16 (y2 : List (List UInt8)) (n : Int) : List AV := [AV.sc (Value.string (ByteArray.mk (Array.mk [(58 : UInt8)]))), AV.sc (Value.string (ByteArray.mk (Array.mk []))), AV.sc (Value.int IntKind.i64 (0 : Int)), AV.sc (Value.int IntKind.i64 (0 : Int)), AV.sc (Value.int IntKind.i64 (0 : Int)), AV.sc (Value.int IntKind.u64 (0 : Int)), AV.sc (Value.int IntKind.u64 (0 : Int)), AV.sc (Value.int IntKind.u64 (0 : Int)), AV.sc (Value.int IntKind.u64 (0 : Int)), AV.sc (Value.int IntKind.i64 (0 : Int)), AV.sc (Value.int IntKind.i64 (0 : Int)), AV.sc (Value.int IntKind.i64 (0 : Int)), AV.sc (Value.slice none (0 : Nat) (0 : Nat)), AV.sc (Value.string (ByteArray.mk (Array.mk [(44 : UInt8)]))), AV.sc (Value.string (ByteArray.mk (Array.mk (joinC (pRow (zRow (rowS (List.map strEl y2)) n.toNat) n.toNat [(97 : UInt8)]))))), AV.rsl (hOa9 y2 n).next (0 : Nat) (max n.toNat n.toNat) (1 : Nat)]
def hOa17 (y2 : List (List UInt8)) (n : Int) : Heap := (Heap.mk (7 : Nat) (((Tr.leaf.node (some (AObj.cells (hOa16 y2 n))) Tr.leaf).node (some (AObj.cells (hOa1))) (Tr.leaf.node (some (AObj.cells (zRow (rowS (List.map strEl y2)) n.toNat))) Tr.leaf)).node none ((Tr.leaf.node (some (AObj.cells (List.replicate n.toNat (AV.sc (Value.int IntKind.u8 (58 : Int)))))) Tr.leaf).node (some (AObj.cells (hOa2))) (Tr.leaf.node (some (AObj.cells (pRow (zRow (rowS (List.map strEl y2)) n.toNat) n.toNat [(97 : UInt8)]))) Tr.leaf))) (0 : Nat) (((Tr.leaf.node (some ((112 : Nat), (16 : Nat))) Tr.leaf).node (some ((61 : Nat), (hOa1).length)) Tr.leaf).node none (Tr.leaf.node (some ((108 : Nat), (13 : Nat))) Tr.leaf)))
def hOa18 (y2 : List (List UInt8)) (n : Int) : Heap := (Heap.mk (8 : Nat) ((((Tr.leaf.node (some (AObj.own (1 : Nat) (5 : Nat) (0 : Nat))) Tr.leaf).node (some (AObj.cells (hOa16 y2 n))) Tr.leaf).node (some (AObj.cells (hOa1))) (Tr.leaf.node (some (AObj.cells (zRow (rowS (List.map strEl y2)) n.toNat))) Tr.leaf)).node none ((Tr.leaf.node (some (AObj.cells (List.replicate n.toNat (AV.sc (Value.int IntKind.u8 (58 : Int)))))) Tr.leaf).node (some (AObj.cells (hOa2))) (Tr.leaf.node (some (AObj.cells (pRow (zRow (rowS (List.map strEl y2)) n.toNat) n.toNat [(97 : UInt8)]))) Tr.leaf))) (0 : Nat) (((Tr.leaf.node (some ((112 : Nat), (16 : Nat))) Tr.leaf).node (some ((61 : Nat), (hOa1).length)) Tr.leaf).node none (Tr.leaf.node (some ((108 : Nat), (13 : Nat))) Tr.leaf)))
def hOa19 (y2 : List (List UInt8)) (n : Int) : List AV := [AV.sc (Value.string (ByteArray.mk (Array.mk [(58 : UInt8)]))), AV.sc (Value.string (ByteArray.mk (Array.mk []))), AV.sc (Value.int IntKind.i64 (0 : Int)), AV.sc (Value.int IntKind.i64 (0 : Int)), AV.sc (Value.int IntKind.i64 (0 : Int)), AV.sc (Value.int IntKind.u64 (0 : Int)), AV.sc (Value.int IntKind.u64 (0 : Int)), AV.sc (Value.int IntKind.u64 (0 : Int)), AV.sc (Value.int IntKind.u64 (0 : Int)), AV.sc (Value.int IntKind.i64 (0 : Int)), AV.sc (Value.int IntKind.i64 (0 : Int)), AV.sc (Value.int IntKind.i64 (0 : Int)), AV.sc (Value.slice none (0 : Nat) (0 : Nat)), AV.sc (Value.string (ByteArray.mk (Array.mk [(44 : UInt8)]))), AV.sc (Value.string (ByteArray.mk (Array.mk (joinC (zRow (pRow (zRow (rowS (List.map strEl y2)) n.toNat) n.toNat [(97 : UInt8)]) (2 : Nat)))))), AV.rsl ((hOa17 y2 n).next + (1 : Nat)) (0 : Nat) (2 : Nat) (1 : Nat)]
def hOa20 (y2 : List (List UInt8)) (n : Int) : Heap := (Heap.mk (9 : Nat) ((((Tr.leaf.node (some (AObj.own (1 : Nat) (5 : Nat) (0 : Nat))) Tr.leaf).node (some (AObj.cells (hOa19 y2 n))) Tr.leaf).node (some (AObj.cells (hOa1))) (Tr.leaf.node (some (AObj.cells (zRow (rowS (List.map strEl y2)) n.toNat))) Tr.leaf)).node none (((Tr.leaf.node (some (AObj.cells (zRow (pRow (zRow (rowS (List.map strEl y2)) n.toNat) n.toNat [(97 : UInt8)]) (2 : Nat)))) Tr.leaf).node (some (AObj.cells (List.replicate n.toNat (AV.sc (Value.int IntKind.u8 (58 : Int)))))) Tr.leaf).node (some (AObj.cells (hOa2))) (Tr.leaf.node (some (AObj.cells (pRow (zRow (rowS (List.map strEl y2)) n.toNat) n.toNat [(97 : UInt8)]))) Tr.leaf))) (0 : Nat) (((Tr.leaf.node (some ((112 : Nat), (16 : Nat))) Tr.leaf).node (some ((61 : Nat), (hOa1).length)) Tr.leaf).node none (Tr.leaf.node (some ((108 : Nat), (13 : Nat))) Tr.leaf)))
def hOa21 (n : Int) : Heap := (Heap.mk (10 : Nat) ((((Tr.leaf.node (some (AObj.own (1 : Nat) (5 : Nat) (0 : Nat))) Tr.leaf).node (some (AObj.cells (hOa15 n))) Tr.leaf).node (some (AObj.cells (hOa1))) ((Tr.leaf.node (some (AObj.cells (pRow (zRow (pRow (zRow [] n.toNat) n.toNat [(97 : UInt8)]) (2 : Nat)) (1 : Nat) (List.map byteD [])))) Tr.leaf).node (some (AObj.cells (zRow [] n.toNat))) Tr.leaf)).node none (((Tr.leaf.node (some (AObj.cells (zRow (pRow (zRow [] n.toNat) n.toNat [(97 : UInt8)]) (2 : Nat)))) Tr.leaf).node (some (AObj.cells (List.replicate n.toNat (AV.sc (Value.int IntKind.u8 (58 : Int)))))) Tr.leaf).node (some (AObj.cells (hOa2))) (Tr.leaf.node (some (AObj.cells (pRow (zRow [] n.toNat) n.toNat [(97 : UInt8)]))) Tr.leaf))) (0 : Nat) (((Tr.leaf.node (some ((112 : Nat), (16 : Nat))) Tr.leaf).node (some ((61 : Nat), (hOa1).length)) Tr.leaf).node none (Tr.leaf.node (some ((108 : Nat), (13 : Nat))) Tr.leaf)))
def hOa22 (n : Int) : Heap := (Heap.mk (10 : Nat) ((((Tr.leaf.node (some (AObj.own (1 : Nat) (5 : Nat) (0 : Nat))) Tr.leaf).node (some (AObj.cells (hOa13 n))) Tr.leaf).node (some (AObj.cells (hOa1))) ((Tr.leaf.node (some (AObj.cells (pRow (zRow (pRow (zRow [] n.toNat) n.toNat [(97 : UInt8)]) (2 : Nat)) (1 : Nat) (List.map byteD [])))) Tr.leaf).node (some (AObj.cells (zRow [] n.toNat))) Tr.leaf)).node none (((Tr.leaf.node (some (AObj.cells (zRow (pRow (zRow [] n.toNat) n.toNat [(97 : UInt8)]) (2 : Nat)))) Tr.leaf).node (some (AObj.cells (List.replicate n.toNat (AV.sc (Value.int IntKind.u8 (58 : Int)))))) Tr.leaf).node (some (AObj.cells (hOa2))) (Tr.leaf.node (some (AObj.cells (pRow (zRow [] n.toNat) n.toNat [(97 : UInt8)]))) Tr.leaf))) (0 : Nat) (((Tr.leaf.node (some ((112 : Nat), (16 : Nat))) Tr.leaf).node (some ((61 : Nat), (hOa1).length)) Tr.leaf).node none (Tr.leaf.node (some ((108 : Nat), (13 : Nat))) Tr.leaf)))
def hOa23 (y2 : List (List UInt8)) (n : Int) : List AV := [AV.sc (Value.string (ByteArray.mk (Array.mk [(58 : UInt8)]))), AV.sc (Value.string (ByteArray.mk (Array.mk []))), AV.sc (Value.int IntKind.i64 (0 : Int)), AV.sc (Value.int IntKind.i64 (0 : Int)), AV.sc (Value.int IntKind.i64 (0 : Int)), AV.sc (Value.int IntKind.u64 (0 : Int)), AV.sc (Value.int IntKind.u64 (0 : Int)), AV.sc (Value.int IntKind.u64 (0 : Int)), AV.sc (Value.int IntKind.u64 (0 : Int)), AV.sc (Value.int IntKind.i64 (0 : Int)), AV.sc (Value.int IntKind.i64 (0 : Int)), AV.sc (Value.int IntKind.i64 (0 : Int)), AV.sc (Value.slice none (0 : Nat) (0 : Nat)), AV.sc (Value.string (ByteArray.mk (Array.mk [(44 : UInt8)]))), AV.sc (Value.string (ByteArray.mk (Array.mk (joinC (pRow (zRow (pRow (zRow (rowS (List.map strEl y2)) n.toNat) n.toNat [(97 : UInt8)]) (2 : Nat)) (1 : Nat) (List.map byteD [])))))), AV.rsl (hOa20 y2 n).next (0 : Nat) (max (1 : Nat) (Int.toNat (2 : Int))) (1 : Nat)]
def hOa24 (y2 : List (List UInt8)) (n : Int) : Heap := (Heap.mk (10 : Nat) ((((Tr.leaf.node (some (AObj.own (1 : Nat) (5 : Nat) (0 : Nat))) Tr.leaf).node (some (AObj.cells (hOa23 y2 n))) Tr.leaf).node (some (AObj.cells (hOa1))) ((Tr.leaf.node (some (AObj.cells (pRow (zRow (pRow (zRow (rowS (List.map strEl y2)) n.toNat) n.toNat [(97 : UInt8)]) (2 : Nat)) (1 : Nat) (List.map byteD [])))) Tr.leaf).node (some (AObj.cells (zRow (rowS (List.map strEl y2)) n.toNat))) Tr.leaf)).node none (((Tr.leaf.node (some (AObj.cells (zRow (pRow (zRow (rowS (List.map strEl y2)) n.toNat) n.toNat [(97 : UInt8)]) (2 : Nat)))) Tr.leaf).node (some (AObj.cells (List.replicate n.toNat (AV.sc (Value.int IntKind.u8 (58 : Int)))))) Tr.leaf).node (some (AObj.cells (hOa2))) (Tr.leaf.node (some (AObj.cells (pRow (zRow (rowS (List.map strEl y2)) n.toNat) n.toNat [(97 : UInt8)]))) Tr.leaf))) (0 : Nat) (((Tr.leaf.node (some ((112 : Nat), (16 : Nat))) Tr.leaf).node (some ((61 : Nat), (hOa1).length)) Tr.leaf).node none (Tr.leaf.node (some ((108 : Nat), (13 : Nat))) Tr.leaf)))
def hOa25 (y2 : List (List UInt8)) (n : Int) : Heap := (Heap.mk (10 : Nat) ((((Tr.leaf.node (some (AObj.own (1 : Nat) (5 : Nat) (0 : Nat))) Tr.leaf).node (some (AObj.cells (hOa19 y2 n))) Tr.leaf).node (some (AObj.cells (hOa1))) ((Tr.leaf.node (some (AObj.cells (pRow (zRow (pRow (zRow (rowS (List.map strEl y2)) n.toNat) n.toNat [(97 : UInt8)]) (2 : Nat)) (1 : Nat) (List.map byteD [])))) Tr.leaf).node (some (AObj.cells (zRow (rowS (List.map strEl y2)) n.toNat))) Tr.leaf)).node none (((Tr.leaf.node (some (AObj.cells (zRow (pRow (zRow (rowS (List.map strEl y2)) n.toNat) n.toNat [(97 : UInt8)]) (2 : Nat)))) Tr.leaf).node (some (AObj.cells (List.replicate n.toNat (AV.sc (Value.int IntKind.u8 (58 : Int)))))) Tr.leaf).node (some (AObj.cells (hOa2))) (Tr.leaf.node (some (AObj.cells (pRow (zRow (rowS (List.map strEl y2)) n.toNat) n.toNat [(97 : UInt8)]))) Tr.leaf))) (0 : Nat) (((Tr.leaf.node (some ((112 : Nat), (16 : Nat))) Tr.leaf).node (some ((61 : Nat), (hOa1).length)) Tr.leaf).node none (Tr.leaf.node (some ((108 : Nat), (13 : Nat))) Tr.leaf)))
theorem c7B0 (m : Int) (n : Int) (K : AV → Prop) (h :
 iteP (decide (n < (0 : Int))) (True ∧
 ∀ (_ : Unit), True → K (AV.sc (Value.bool true)))
 (iteP (decide ((70000 : Int) < n)) (True ∧
 ∀ (_ : Unit), True → K (AV.sc (Value.bool true))) (True ∧
 ∀ (_ : Unit), True →
 iteP (decide ((0 : Int) ≤ n) && decide (n ≤ n) && decide (n ≤ (140737488355328 : Int)) && (n.toNat * (1 : Nat)).ble (140737488355328 : Nat))
 (iteP (n.toNat.beq (0 : Nat)) False (loopAt Tryz.prog (7 : Nat) (9 : Nat) = loopAt Tryz.prog (7 : Nat) (9 : Nat) ∧ (I7a n (0 : Int) n.toNat (0 : Int) (hOa4 n) = I7a n (0 : Int) n.toNat (0 : Int) (hOa4 n) ∧ Fill (hOa4 n) (4 : Nat) n n.toNat) ∧
 ∀ (_ : Unit), True →
 iteP (decide ((1024 : Int) ≤ n))
 (iteP (endCells ((0 : Nat) + n.toNat) (List.replicate n.toNat (AV.sc (Value.int IntKind.u8 (58 : Int)))))
 (iteP (decide ((65536 : Int) < (↑(List.map u8B (cutC (List.replicate n.toNat (AV.sc (Value.int IntKind.u8 (58 : Int)))) (0 : Nat) n.toNat)).length : Int))) (Rz (hOa5 n) (AV.sc (Value.slice none (0 : Nat) (0 : Nat))) n ∧
 ∀ (_ : Unit), True → PutIn (hOa7 n) (AV.rsl (hOa5 n).next (0 : Nat) n.toNat (1 : Nat)) n [(97 : UInt8)] ∧
 ∀ (_ : Unit), True →
 iteP (decide ((1024 : Int) < n)) (K (AV.sc (Value.bool false)))
 (iteP (decide ((0 : Int) < n))
 (iteP ((↑(max n.toNat n.toNat) : Int) != n) (K (AV.sc (Value.bool false))) (loopAt Tryz.prog (7 : Nat) (24 : Nat) = loopAt Tryz.prog (7 : Nat) (24 : Nat) ∧ (I7bs (0 : Int) ((hOa11 n).next + (1 : Nat)) (0 : Int) (hOa12 n) = I7bs (0 : Int) ((hOa11 n).next + (1 : Nat)) (0 : Int) (hOa12 n) ∧ (0 : Int) = (0 : Int)) ∧
 ∀ (_ : Unit), True → Rz (hOa12 n) (AV.rsl (hOa7 n).next (0 : Nat) (max n.toNat n.toNat) (1 : Nat)) (2 : Int) ∧
 ∀ (_ : Unit), True → PutOr (hOa14 n) (AV.rsl ((hOa11 n).next + (1 : Nat)) (0 : Nat) (2 : Nat) (1 : Nat)) (1 : Int) (List.map byteD []) ∧ (∀ (_ : Unit), FitP (joinC (pRow (zRow (pRow (zRow [] n.toNat) n.toNat [(97 : UInt8)]) (2 : Nat)) (1 : Nat) (List.map byteD []))) → GetEasy (hOa21 n) (2 : Int) ∧
 ∀ (y0 : List UInt8), IsGet (hOa21 n) (2 : Int) y0 →
 ∀ (y1m : Int), y1m = IntKind.i64.wrap (IntKind.i64.wrap ((0 : Int) + (1 : Int)) + (↑y0.length : Int)) →
 iteP (decide (y1m ≤ (65536 : Int))) (∀ (y1m : Int), y1m = (↑(joinC (pRow (zRow (pRow (zRow [] n.toNat) n.toNat [(97 : UInt8)]) (2 : Nat)) (1 : Nat) (List.map byteD []))).length : Int) →
 iteP (decide (y1m ≤ (65536 : Int))) (True ∧
 ∀ (_ : Unit), True → K (AV.sc (Value.bool true))) (K (AV.sc (Value.bool false)))) (K (AV.sc (Value.bool false)))) ∧
 ∀ (_ : Unit), OverP (joinC (pRow (zRow (pRow (zRow [] n.toNat) n.toNat [(97 : UInt8)]) (2 : Nat)) (1 : Nat) (List.map byteD []))) → GetEasy (hOa22 n) (2 : Int) ∧
 ∀ (y0 : List UInt8), IsGet (hOa22 n) (2 : Int) y0 →
 ∀ (y1m : Int), y1m = IntKind.i64.wrap (IntKind.i64.wrap ((0 : Int) + (1 : Int)) + (↑y0.length : Int)) →
 iteP (decide (y1m ≤ (65536 : Int))) (K (AV.sc (Value.bool false))) (∀ (y1m : Int), y1m = (↑(joinC (zRow (pRow (zRow [] n.toNat) n.toNat [(97 : UInt8)]) (2 : Nat))).length : Int) →
 iteP (decide (y1m ≤ (65536 : Int))) (True ∧
 ∀ (_ : Unit), True → K (AV.sc (Value.bool true))) (K (AV.sc (Value.bool false)))))) (K (AV.sc (Value.bool false))))) (SplOk (AV.agg (hOa2)) (List.map u8B (cutC (List.replicate n.toNat (AV.sc (Value.int IntKind.u8 (58 : Int)))) (0 : Nat) n.toNat)) ∧
 ∀ (y2 : List (List UInt8)), IsSpl (AV.agg (hOa2)) (List.map u8B (cutC (List.replicate n.toNat (AV.sc (Value.int IntKind.u8 (58 : Int)))) (0 : Nat) n.toNat)) y2 → K (AV.sc (Value.bool false)))) False)
 (iteP (endCells ((0 : Nat) + n.toNat) (List.replicate n.toNat (AV.sc (Value.int IntKind.u8 (58 : Int)))))
 (iteP (decide ((65536 : Int) < (↑(List.map u8B (cutC (List.replicate n.toNat (AV.sc (Value.int IntKind.u8 (58 : Int)))) (0 : Nat) n.toNat)).length : Int))) (K (AV.sc (Value.bool false))) (SplOk (AV.agg (hOa2)) (List.map u8B (cutC (List.replicate n.toNat (AV.sc (Value.int IntKind.u8 (58 : Int)))) (0 : Nat) n.toNat)) ∧
 ∀ (y2 : List (List UInt8)), IsSpl (AV.agg (hOa2)) (List.map u8B (cutC (List.replicate n.toNat (AV.sc (Value.int IntKind.u8 (58 : Int)))) (0 : Nat) n.toNat)) y2 → Rz (Heap.mk (5 : Nat) (((Tr.leaf.node (some (AObj.cells [AV.sc (Value.string (ByteArray.mk (Array.mk [(58 : UInt8)]))), AV.sc (Value.string (ByteArray.mk (Array.mk []))), AV.sc (Value.int IntKind.i64 (0 : Int)), AV.sc (Value.int IntKind.i64 (0 : Int)), AV.sc (Value.int IntKind.i64 (0 : Int)), AV.sc (Value.int IntKind.u64 (0 : Int)), AV.sc (Value.int IntKind.u64 (0 : Int)), AV.sc (Value.int IntKind.u64 (0 : Int)), AV.sc (Value.int IntKind.u64 (0 : Int)), AV.sc (Value.int IntKind.i64 (0 : Int)), AV.sc (Value.int IntKind.i64 (0 : Int)), AV.sc (Value.int IntKind.i64 (0 : Int)), AV.sc (Value.slice none (0 : Nat) (0 : Nat)), AV.sc (Value.string (ByteArray.mk (Array.mk [(44 : UInt8)]))), AV.sc (Value.string (ByteArray.mk (Array.mk (List.map u8B (cutC (List.replicate n.toNat (AV.sc (Value.int IntKind.u8 (58 : Int)))) (0 : Nat) n.toNat))))), AV.sl (List.map strEl y2) (0 : Nat)])) Tr.leaf).node (some (AObj.cells (hOa1))) Tr.leaf).node none ((Tr.leaf.node (some (AObj.cells (List.replicate n.toNat (AV.sc (Value.int IntKind.u8 (58 : Int)))))) Tr.leaf).node (some (AObj.cells (hOa2))) Tr.leaf)) (0 : Nat) (((Tr.leaf.node (some ((112 : Nat), (16 : Nat))) Tr.leaf).node (some ((61 : Nat), (hOa1).length)) Tr.leaf).node none (Tr.leaf.node (some ((108 : Nat), (13 : Nat))) Tr.leaf))) (AV.sl (List.map strEl y2) (0 : Nat)) n ∧
 ∀ (_ : Unit), True → PutIn (hOa9 y2 n) (AV.rsl (hOa5 n).next (0 : Nat) n.toNat (1 : Nat)) n [(97 : UInt8)] ∧
 ∀ (_ : Unit), True →
 iteP (decide ((1024 : Int) < n)) (K (AV.sc (Value.bool false)))
 (iteP (decide ((0 : Int) < n))
 (iteP ((↑(max n.toNat n.toNat) : Int) != n) (K (AV.sc (Value.bool false))) (loopAt Tryz.prog (7 : Nat) (24 : Nat) = loopAt Tryz.prog (7 : Nat) (24 : Nat) ∧ (I7bs (0 : Int) ((hOa17 y2 n).next + (1 : Nat)) (0 : Int) (hOa18 y2 n) = I7bs (0 : Int) ((hOa17 y2 n).next + (1 : Nat)) (0 : Int) (hOa18 y2 n) ∧ (0 : Int) = (0 : Int)) ∧
 ∀ (_ : Unit), True → Rz (hOa18 y2 n) (AV.rsl (hOa9 y2 n).next (0 : Nat) (max n.toNat n.toNat) (1 : Nat)) (2 : Int) ∧
 ∀ (_ : Unit), True → PutOr (hOa20 y2 n) (AV.rsl ((hOa17 y2 n).next + (1 : Nat)) (0 : Nat) (2 : Nat) (1 : Nat)) (1 : Int) (List.map byteD []) ∧ (∀ (_ : Unit), FitP (joinC (pRow (zRow (pRow (zRow (rowS (List.map strEl y2)) n.toNat) n.toNat [(97 : UInt8)]) (2 : Nat)) (1 : Nat) (List.map byteD []))) → GetEasy (hOa24 y2 n) (2 : Int) ∧
 ∀ (y0_6 : List UInt8), IsGet (hOa24 y2 n) (2 : Int) y0_6 →
 ∀ (y1m : Int), y1m = IntKind.i64.wrap (IntKind.i64.wrap ((0 : Int) + (1 : Int)) + (↑y0_6.length : Int)) →
 iteP (decide (y1m ≤ (65536 : Int))) (∀ (y1m : Int), y1m = (↑(joinC (pRow (zRow (pRow (zRow (rowS (List.map strEl y2)) n.toNat) n.toNat [(97 : UInt8)]) (2 : Nat)) (1 : Nat) (List.map byteD []))).length : Int) →
 iteP (decide (y1m ≤ (65536 : Int))) (True ∧
 ∀ (_ : Unit), True → K (AV.sc (Value.bool true))) (K (AV.sc (Value.bool false)))) (K (AV.sc (Value.bool false)))) ∧
 ∀ (_ : Unit), OverP (joinC (pRow (zRow (pRow (zRow (rowS (List.map strEl y2)) n.toNat) n.toNat [(97 : UInt8)]) (2 : Nat)) (1 : Nat) (List.map byteD []))) → GetEasy (hOa25 y2 n) (2 : Int) ∧
 ∀ (y0_6 : List UInt8), IsGet (hOa25 y2 n) (2 : Int) y0_6 →
 ∀ (y1m : Int), y1m = IntKind.i64.wrap (IntKind.i64.wrap ((0 : Int) + (1 : Int)) + (↑y0_6.length : Int)) →
 iteP (decide (y1m ≤ (65536 : Int))) (K (AV.sc (Value.bool false))) (∀ (y1m : Int), y1m = (↑(joinC (zRow (pRow (zRow (rowS (List.map strEl y2)) n.toNat) n.toNat [(97 : UInt8)]) (2 : Nat))).length : Int) →
 iteP (decide (y1m ≤ (65536 : Int))) (True ∧
 ∀ (_ : Unit), True → K (AV.sc (Value.bool true))) (K (AV.sc (Value.bool false)))))) (K (AV.sc (Value.bool false)))))) False))) False))) :
 (fun (m : Int) (n : Int) (K : AV → Prop) => wpCall TB (cf m) Tryz.prog 60 7 [.sc (.int .i64 n), .sc (.int .i64 0)] heap0 fun r _ => K r) m n K :=
 Eq.mp (by kernel_rfl) h
end
end Go.Proofs.Rd
namespace Go.Proofs.Rd
open Go Go.Ef
noncomputable section
set_option maxRecDepth 100000
def hMa1 (whole : List UInt8) : List AV := [AV.sc (Value.string (ByteArray.mk (Array.mk [(58 : UInt8)]))), AV.sc (Value.string (ByteArray.mk (Array.mk []))), AV.sc (Value.int IntKind.i64 (0 : Int)), AV.sc (Value.int IntKind.i64 (0 : Int)), AV.sc (Value.int IntKind.i64 (0 : Int)), AV.sc (Value.int IntKind.u64 (0 : Int)), AV.sc (Value.int IntKind.u64 (0 : Int)), AV.sc (Value.int IntKind.u64 (0 : Int)), AV.sc (Value.int IntKind.u64 (0 : Int)), AV.sc (Value.int IntKind.i64 (0 : Int)), AV.sc (Value.int IntKind.i64 (0 : Int)), AV.sc (Value.int IntKind.i64 (0 : Int)), AV.sc (Value.slice none (0 : Nat) (0 : Nat)), AV.sc (Value.string (ByteArray.mk (Array.mk [(44 : UInt8)]))), AV.sc (Value.string (ByteArray.mk (Array.mk whole))), AV.sc (Value.slice none (0 : Nat) (0 : Nat))]
def hMa2 (a : Tr AObj) (whole : List UInt8) (b : Tr AObj) (v1 : Option AObj) (n : Int) (v0 : Option AObj) (r0 : Tr AObj) (ty : Tr (Nat × Nat)) : Heap := (Heap.mk (6 : Nat) (((a.node (some (AObj.cells (hMa1 whole))) b).node v1 (Tr.leaf.node (some (AObj.cells (repC n (AV.sc (Value.string (ByteArray.mk (Array.mk []))))))) Tr.leaf)).node v0 r0) (0 : Nat) ty)
theorem c24n (m : Int) (a : Tr AObj) (b : Tr AObj) (v1 : Option AObj) (v0 : Option AObj) (r0 : Tr AObj) (ty : Tr (Nat × Nat)) (whole : List UInt8) (n : Int) (K : AV → Heap → Prop) (h :
 iteP (decide (n < (0 : Int))) (K (AV.sc (Value.int IntKind.i64 (2 : Int))) (Heap.mk (5 : Nat) (((a.node (some (AObj.cells (hMa1 whole))) b).node v1 Tr.leaf).node v0 r0) (0 : Nat) ty))
 (iteP (decide ((1024 : Int) < n)) (K (AV.sc (Value.int IntKind.i64 (3 : Int))) (Heap.mk (5 : Nat) (((a.node (some (AObj.cells (hMa1 whole))) b).node v1 Tr.leaf).node v0 r0) (0 : Nat) ty))
 (iteP (decide ((0 : Int) ≤ n) && decide (n ≤ n) && decide (n ≤ (140737488355328 : Int)) && (n.toNat * (16 : Nat)).ble (140737488355328 : Nat))
 (iteP (n.toNat.beq (0 : Nat)) False (loopAt Tryz.prog (49 : Nat) (4 : Nat) = loopAt Tryz.prog (49 : Nat) (4 : Nat) ∧ (I49 (5 : Nat) n.toNat (0 : Int) (0 : Int) (hMa2 a whole b v1 n v0 r0 ty) = I49 (5 : Nat) n.toNat (0 : Int) (0 : Int) (hMa2 a whole b v1 n v0 r0 ty) ∧ Whole (hMa2 a whole b v1 n v0 r0 ty) (5 : Nat) n.toNat) ∧
 ∀ (_ : Unit), True → RowOk (hMa2 a whole b v1 n v0 r0 ty) (5 : Nat) n.toNat [(44 : UInt8)] ∧
 ∀ (y0 : List UInt8), RowJoin (hMa2 a whole b v1 n v0 r0 ty) (5 : Nat) [(44 : UInt8)] y0 → K (AV.sc (Value.int IntKind.i64 (0 : Int))) (Heap.mk (6 : Nat) (((a.node (some (AObj.cells [AV.sc (Value.string (ByteArray.mk (Array.mk [(58 : UInt8)]))), AV.sc (Value.string (ByteArray.mk (Array.mk []))), AV.sc (Value.int IntKind.i64 (0 : Int)), AV.sc (Value.int IntKind.i64 (0 : Int)), AV.sc (Value.int IntKind.i64 (0 : Int)), AV.sc (Value.int IntKind.u64 (0 : Int)), AV.sc (Value.int IntKind.u64 (0 : Int)), AV.sc (Value.int IntKind.u64 (0 : Int)), AV.sc (Value.int IntKind.u64 (0 : Int)), AV.sc (Value.int IntKind.i64 (0 : Int)), AV.sc (Value.int IntKind.i64 (0 : Int)), AV.sc (Value.int IntKind.i64 (0 : Int)), AV.sc (Value.slice none (0 : Nat) (0 : Nat)), AV.sc (Value.string (ByteArray.mk (Array.mk [(44 : UInt8)]))), AV.sc (Value.string (ByteArray.mk (Array.mk y0))), AV.rsl (5 : Nat) (0 : Nat) n.toNat (1 : Nat)])) b).node v1 (Tr.leaf.node (some (AObj.cells (repC n (AV.sc (Value.string (ByteArray.mk (Array.mk []))))))) Tr.leaf)).node v0 r0) (0 : Nat) ty))) False))) :
 (fun (m : Int) (a b : Tr AObj) (v1 v0 : Option AObj) (r0 : Tr AObj) (ty : Tr (Nat × Nat)) (whole : List UInt8) (n : Int) (K : AV → Heap → Prop) => wpCall TZ (cf m) Tryz.prog 40 24 [.ptr 3 0, .sc (.int .i64 n)] (hS5 a b v1 v0 r0 ty (recC 58 [44] whole nilA)) K) m a b v1 v0 r0 ty whole n K :=
 Eq.mp (by kernel_rfl) h
def hMb1 (whole : List UInt8) (els : List (List AV)) : List AV := [AV.sc (Value.string (ByteArray.mk (Array.mk [(58 : UInt8)]))), AV.sc (Value.string (ByteArray.mk (Array.mk []))), AV.sc (Value.int IntKind.i64 (0 : Int)), AV.sc (Value.int IntKind.i64 (0 : Int)), AV.sc (Value.int IntKind.i64 (0 : Int)), AV.sc (Value.int IntKind.u64 (0 : Int)), AV.sc (Value.int IntKind.u64 (0 : Int)), AV.sc (Value.int IntKind.u64 (0 : Int)), AV.sc (Value.int IntKind.u64 (0 : Int)), AV.sc (Value.int IntKind.i64 (0 : Int)), AV.sc (Value.int IntKind.i64 (0 : Int)), AV.sc (Value.int IntKind.i64 (0 : Int)), AV.sc (Value.slice none (0 : Nat) (0 : Nat)), AV.sc (Value.string (ByteArray.mk (Array.mk [(44 : UInt8)]))), AV.sc (Value.string (ByteArray.mk (Array.mk whole))), AV.sl els (0 : Nat)]
def hMb2 (a : Tr AObj) (whole : List UInt8) (els : List (List AV)) (b : Tr AObj) (v1 : Option AObj) (n : Int) (v0 : Option AObj) (r0 : Tr AObj) (ty : Tr (Nat × Nat)) : Heap := (Heap.mk (6 : Nat) (((a.node (some (AObj.cells (hMb1 whole els))) b).node v1 (Tr.leaf.node (some (AObj.cells (repC n (AV.sc (Value.string (ByteArray.mk (Array.mk []))))))) Tr.leaf)).node v0 r0) (0 : Nat) ty)
def hMb3 (a : Tr AObj) (whole : List UInt8) (els : List (List AV)) (b : Tr AObj) (v1 : Option AObj) (n : Int) (v0 : Option AObj) (r0 : Tr AObj) (ty : Tr (Nat × Nat)) : Heap := (Heap.mk (6 : Nat) (((a.node (some (AObj.cells (hMb1 whole els))) b).node v1 (Tr.leaf.node (some (AObj.cells (overC (repC n (AV.sc (Value.string (ByteArray.mk (Array.mk []))))) (0 : Nat) (flatC els n.toNat)))) Tr.leaf)).node v0 r0) (0 : Nat) ty)
def hMb4 (y0 : List UInt8) (n : Int) : List AV := [AV.sc (Value.string (ByteArray.mk (Array.mk [(58 : UInt8)]))), AV.sc (Value.string (ByteArray.mk (Array.mk []))), AV.sc (Value.int IntKind.i64 (0 : Int)), AV.sc (Value.int IntKind.i64 (0 : Int)), AV.sc (Value.int IntKind.i64 (0 : Int)), AV.sc (Value.int IntKind.u64 (0 : Int)), AV.sc (Value.int IntKind.u64 (0 : Int)), AV.sc (Value.int IntKind.u64 (0 : Int)), AV.sc (Value.int IntKind.u64 (0 : Int)), AV.sc (Value.int IntKind.i64 (0 : Int)), AV.sc (Value.int IntKind.i64 (0 : Int)), AV.sc (Value.int IntKind.i64 (0 : Int)), AV.sc (Value.slice none (0 : Nat) (0 : Nat)), AV.sc (Value.string (ByteArray.mk (Array.mk [(44 : UInt8)]))), AV.sc (Value.string (ByteArray.mk (Array.mk y0))), AV.rsl (5 : Nat) (0 : Nat) n.toNat (1 : Nat)]
theorem c24s (m : Int) (a : Tr AObj) (b : Tr AObj) (v1 : Option AObj) (v0 : Option AObj) (r0 : Tr AObj) (ty : Tr (Nat × Nat)) (whole : List UInt8) (els : List (List AV)) (n : Int) (K : AV → Heap → Prop) (h :
 iteP (decide (n < (0 : Int))) (K (AV.sc (Value.int IntKind.i64 (2 : Int))) (Heap.mk (5 : Nat) (((a.node (some (AObj.cells (hMb1 whole els))) b).node v1 Tr.leaf).node v0 r0) (0 : Nat) ty))
 (iteP (decide ((1024 : Int) < n)) (K (AV.sc (Value.int IntKind.i64 (3 : Int))) (Heap.mk (5 : Nat) (((a.node (some (AObj.cells (hMb1 whole els))) b).node v1 Tr.leaf).node v0 r0) (0 : Nat) ty))
 (iteP (decide ((0 : Int) ≤ n) && decide (n ≤ n) && decide (n ≤ (140737488355328 : Int)) && (n.toNat * (16 : Nat)).ble (140737488355328 : Nat))
 (iteP (n.toNat.beq (0 : Nat)) False
 (iteP (els.all fun (e : List AV) => e.length.beq (1 : Nat))
 (iteP (fitC (repC n (AV.sc (Value.string (ByteArray.mk (Array.mk []))))) (0 : Nat) (flatC els n.toNat))
 (iteP (flatC els n.toNat).isEmpty (loopAt Tryz.prog (49 : Nat) (4 : Nat) = loopAt Tryz.prog (49 : Nat) (4 : Nat) ∧ (I49 (5 : Nat) n.toNat (0 : Int) (0 : Int) (hMb2 a whole els b v1 n v0 r0 ty) = I49 (5 : Nat) n.toNat (0 : Int) (0 : Int) (hMb2 a whole els b v1 n v0 r0 ty) ∧ Whole (hMb2 a whole els b v1 n v0 r0 ty) (5 : Nat) n.toNat) ∧
 ∀ (_ : Unit), True → RowOk (hMb2 a whole els b v1 n v0 r0 ty) (5 : Nat) n.toNat [(44 : UInt8)] ∧
 ∀ (y0 : List UInt8), RowJoin (hMb2 a whole els b v1 n v0 r0 ty) (5 : Nat) [(44 : UInt8)] y0 → K (AV.sc (Value.int IntKind.i64 (0 : Int))) (Heap.mk (6 : Nat) (((a.node (some (AObj.cells (hMb4 y0 n))) b).node v1 (Tr.leaf.node (some (AObj.cells (repC n (AV.sc (Value.string (ByteArray.mk (Array.mk []))))))) Tr.leaf)).node v0 r0) (0 : Nat) ty)) (loopAt Tryz.prog (49 : Nat) (4 : Nat) = loopAt Tryz.prog (49 : Nat) (4 : Nat) ∧ (I49 (5 : Nat) n.toNat (0 : Int) (0 : Int) (hMb3 a whole els b v1 n v0 r0 ty) = I49 (5 : Nat) n.toNat (0 : Int) (0 : Int) (hMb3 a whole els b v1 n v0 r0 ty) ∧ Whole (hMb3 a whole els b v1 n v0 r0 ty) (5 : Nat) n.toNat) ∧
 ∀ (_ : Unit), True → RowOk (hMb3 a whole els b v1 n v0 r0 ty) (5 : Nat) n.toNat [(44 : UInt8)] ∧
 ∀ (y0 : List UInt8), RowJoin (hMb3 a whole els b v1 n v0 r0 ty) (5 : Nat) [(44 : UInt8)] y0 → K (AV.sc (Value.int IntKind.i64 (0 : Int))) (Heap.mk (6 : Nat) (((a.node (some (AObj.cells (hMb4 y0 n))) b).node v1 (Tr.leaf.node (some (AObj.cells (overC (repC n (AV.sc (Value.string (ByteArray.mk (Array.mk []))))) (0 : Nat) (flatC els n.toNat)))) Tr.leaf)).node v0 r0) (0 : Nat) ty))) False) False)) False))) :
 (fun (m : Int) (a b : Tr AObj) (v1 v0 : Option AObj) (r0 : Tr AObj) (ty : Tr (Nat × Nat)) (whole : List UInt8) (els : List (List AV)) (n : Int) (K : AV → Heap → Prop) => wpCall TZ (cf m) Tryz.prog 40 24 [.ptr 3 0, .sc (.int .i64 n)] (hS5 a b v1 v0 r0 ty (recC 58 [44] whole (.sl els 0))) K) m a b v1 v0 r0 ty whole els n K :=
 Eq.mp (by kernel_rfl) h
def hMc1 (whole : List UInt8) (w : Nat) : List AV := [AV.sc (Value.string (ByteArray.mk (Array.mk [(58 : UInt8)]))), AV.sc (Value.string (ByteArray.mk (Array.mk []))), AV.sc (Value.int IntKind.i64 (0 : Int)), AV.sc (Value.int IntKind.i64 (0 : Int)), AV.sc (Value.int IntKind.i64 (0 : Int)), AV.sc (Value.int IntKind.u64 (0 : Int)), AV.sc (Value.int IntKind.u64 (0 : Int)), AV.sc (Value.int IntKind.u64 (0 : Int)), AV.sc (Value.int IntKind.u64 (0 : Int)), AV.sc (Value.int IntKind.i64 (0 : Int)), AV.sc (Value.int IntKind.i64 (0 : Int)), AV.sc (Value.int IntKind.i64 (0 : Int)), AV.sc (Value.slice none (0 : Nat) (0 : Nat)), AV.sc (Value.string (ByteArray.mk (Array.mk [(44 : UInt8)]))), AV.sc (Value.string (ByteArray.mk (Array.mk whole))), AV.rsl (6 : Nat) (0 : Nat) w (1 : Nat)]
def hMc2 (a : Tr AObj) (whole : List UInt8) (w : Nat) (b : Tr AObj) (v1 : Option AObj) (c : Tr AObj) (v0 : Option AObj) (v4 : Option AObj) (d4 : Tr AObj) (v2 : Option AObj) (d : Tr AObj) (row : List AV) (e : Tr AObj) (ty : Tr (Nat × Nat)) : Heap := (Heap.mk (8 : Nat) (((a.node (some (AObj.cells (hMc1 whole w))) b).node v1 c).node v0 ((Tr.leaf.node v4 d4).node v2 (d.node (some (AObj.cells row)) e))) (0 : Nat) ty)
def hMc3 (a : Tr AObj) (whole : List UInt8) (w : Nat) (b : Tr AObj) (v1 : Option AObj) (c : Tr AObj) (v0 : Option AObj) (n : Int) (v4 : Option AObj) (d4 : Tr AObj) (v2 : Option AObj) (d : Tr AObj) (row : List AV) (e : Tr AObj) (ty : Tr (Nat × Nat)) : Heap := (Heap.mk (9 : Nat) (((a.node (some (AObj.cells (hMc1 whole w))) b).node v1 c).node v0 (((Tr.leaf.node (some (AObj.cells (repC n (AV.sc (Value.string (ByteArray.mk (Array.mk []))))))) Tr.leaf).node v4 d4).node v2 (d.node (some (AObj.cells row)) e))) (0 : Nat) ty)
def hMc4 (a : Tr AObj) (whole : List UInt8) (w : Nat) (b : Tr AObj) (v1 : Option AObj) (c : Tr AObj) (v0 : Option AObj) (n : Int) (row : List AV) (v4 : Option AObj) (d4 : Tr AObj) (v2 : Option AObj) (d : Tr AObj) (e : Tr AObj) (ty : Tr (Nat × Nat)) : Heap := (Heap.mk (9 : Nat) (((a.node (some (AObj.cells (hMc1 whole w))) b).node v1 c).node v0 (((Tr.leaf.node (some (AObj.cells (overC (repC n (AV.sc (Value.string (ByteArray.mk (Array.mk []))))) (0 : Nat) (cutC row (0 : Nat) (min n.toNat w))))) Tr.leaf).node v4 d4).node v2 (d.node (some (AObj.cells row)) e))) (0 : Nat) ty)
def hMc5 (y0 : List UInt8) (n : Int) : List AV := [AV.sc (Value.string (ByteArray.mk (Array.mk [(58 : UInt8)]))), AV.sc (Value.string (ByteArray.mk (Array.mk []))), AV.sc (Value.int IntKind.i64 (0 : Int)), AV.sc (Value.int IntKind.i64 (0 : Int)), AV.sc (Value.int IntKind.i64 (0 : Int)), AV.sc (Value.int IntKind.u64 (0 : Int)), AV.sc (Value.int IntKind.u64 (0 : Int)), AV.sc (Value.int IntKind.u64 (0 : Int)), AV.sc (Value.int IntKind.u64 (0 : Int)), AV.sc (Value.int IntKind.i64 (0 : Int)), AV.sc (Value.int IntKind.i64 (0 : Int)), AV.sc (Value.int IntKind.i64 (0 : Int)), AV.sc (Value.slice none (0 : Nat) (0 : Nat)), AV.sc (Value.string (ByteArray.mk (Array.mk [(44 : UInt8)]))), AV.sc (Value.string (ByteArray.mk (Array.mk y0))), AV.rsl (8 : Nat) (0 : Nat) n.toNat (1 : Nat)]
theorem c24r (m : Int) (a : Tr AObj) (b : Tr AObj) (c : Tr AObj) (d : Tr AObj) (e : Tr AObj) (d4 : Tr AObj) (v1 : Option AObj) (v0 : Option AObj) (v2 : Option AObj) (v4 : Option AObj) (ty : Tr (Nat × Nat)) (whole : List UInt8) (row : List AV) (w : Nat) (n : Int) (K : AV → Heap → Prop) (h :
 iteP (decide (n < (0 : Int))) (K (AV.sc (Value.int IntKind.i64 (2 : Int))) (hMc2 a whole w b v1 c v0 v4 d4 v2 d row e ty))
 (iteP (decide ((1024 : Int) < n)) (K (AV.sc (Value.int IntKind.i64 (3 : Int))) (hMc2 a whole w b v1 c v0 v4 d4 v2 d row e ty))
 (iteP (decide ((0 : Int) ≤ n) && decide (n ≤ n) && decide (n ≤ (140737488355328 : Int)) && (n.toNat * (16 : Nat)).ble (140737488355328 : Nat))
 (iteP (n.toNat.beq (0 : Nat)) False
 (iteP (((0 : Nat) + w).ble row.length)
 (iteP (fitC (repC n (AV.sc (Value.string (ByteArray.mk (Array.mk []))))) (0 : Nat) (cutC row (0 : Nat) (min n.toNat w)))
 (iteP (cutC row (0 : Nat) (min n.toNat w)).isEmpty (loopAt Tryz.prog (49 : Nat) (4 : Nat) = loopAt Tryz.prog (49 : Nat) (4 : Nat) ∧ (I49 (8 : Nat) n.toNat (0 : Int) (0 : Int) (hMc3 a whole w b v1 c v0 n v4 d4 v2 d row e ty) = I49 (8 : Nat) n.toNat (0 : Int) (0 : Int) (hMc3 a whole w b v1 c v0 n v4 d4 v2 d row e ty) ∧ Whole (hMc3 a whole w b v1 c v0 n v4 d4 v2 d row e ty) (8 : Nat) n.toNat) ∧
 ∀ (_ : Unit), True → RowOk (hMc3 a whole w b v1 c v0 n v4 d4 v2 d row e ty) (8 : Nat) n.toNat [(44 : UInt8)] ∧
 ∀ (y0 : List UInt8), RowJoin (hMc3 a whole w b v1 c v0 n v4 d4 v2 d row e ty) (8 : Nat) [(44 : UInt8)] y0 → K (AV.sc (Value.int IntKind.i64 (0 : Int))) (Heap.mk (9 : Nat) (((a.node (some (AObj.cells (hMc5 y0 n))) b).node v1 c).node v0 (((Tr.leaf.node (some (AObj.cells (repC n (AV.sc (Value.string (ByteArray.mk (Array.mk []))))))) Tr.leaf).node v4 d4).node v2 (d.node (some (AObj.cells row)) e))) (0 : Nat) ty)) (loopAt Tryz.prog (49 : Nat) (4 : Nat) = loopAt Tryz.prog (49 : Nat) (4 : Nat) ∧ (I49 (8 : Nat) n.toNat (0 : Int) (0 : Int) (hMc4 a whole w b v1 c v0 n row v4 d4 v2 d e ty) = I49 (8 : Nat) n.toNat (0 : Int) (0 : Int) (hMc4 a whole w b v1 c v0 n row v4 d4 v2 d e ty) ∧ Whole (hMc4 a whole w b v1 c v0 n row v4 d4 v2 d e ty) (8 : Nat) n.toNat) ∧
 ∀ (_ : Unit), True → RowOk (hMc4 a whole w b v1 c v0 n row v4 d4 v2 d e ty) (8 : Nat) n.toNat [(44 : UInt8)] ∧
 ∀ (y0 : List UInt8), RowJoin (hMc4 a whole w b v1 c v0 n row v4 d4 v2 d e ty) (8 : Nat) [(44 : UInt8)] y0 → K (AV.sc (Value.int IntKind.i64 (0 : Int))) (Heap.mk (9 : Nat) (((a.node (some (AObj.cells (hMc5 y0 n))) b).node v1 c).node v0 (((Tr.leaf.node (some (AObj.cells (overC (repC n (AV.sc (Value.string (ByteArray.mk (Array.mk []))))) (0 : Nat) (cutC row (0 : Nat) (min n.toNat w))))) Tr.leaf).node v4 d4).node v2 (d.node (some (AObj.cells row)) e))) (0 : Nat) ty))) False) False)) False))) :
 (fun (m : Int) (a b c d e d4 : Tr AObj) (v1 v0 v2 v4 : Option AObj) (ty : Tr (Nat × Nat)) (whole : List UInt8) (row : List AV) (w : Nat) (n : Int) (K : AV → Heap → Prop) => wpCall TZ (cf m) Tryz.prog 40 24 [.ptr 3 0, .sc (.int .i64 n)] (hS8 a b c d e d4 v1 v0 v2 v4 ty row (recC 58 [44] whole (.rsl 6 0 w 1))) K) m a b c d e d4 v1 v0 v2 v4 ty whole row w n K :=
 Eq.mp (by kernel_rfl) h
def hMd1 (whole : List UInt8) (w : Nat) : List AV := [AV.sc (Value.string (ByteArray.mk (Array.mk [(58 : UInt8)]))), AV.sc (Value.string (ByteArray.mk (Array.mk []))), AV.sc (Value.int IntKind.i64 (0 : Int)), AV.sc (Value.int IntKind.i64 (0 : Int)), AV.sc (Value.int IntKind.i64 (0 : Int)), AV.sc (Value.int IntKind.u64 (0 : Int)), AV.sc (Value.int IntKind.u64 (0 : Int)), AV.sc (Value.int IntKind.u64 (0 : Int)), AV.sc (Value.int IntKind.u64 (0 : Int)), AV.sc (Value.int IntKind.i64 (0 : Int)), AV.sc (Value.int IntKind.i64 (0 : Int)), AV.sc (Value.int IntKind.i64 (0 : Int)), AV.sc (Value.slice none (0 : Nat) (0 : Nat)), AV.sc (Value.string (ByteArray.mk (Array.mk [(44 : UInt8)]))), AV.sc (Value.string (ByteArray.mk (Array.mk whole))), AV.rsl (5 : Nat) (0 : Nat) w (1 : Nat)]
def hMd2 (a : Tr AObj) (whole : List UInt8) (w : Nat) (b : Tr AObj) (v1 : Option AObj) (c : Tr AObj) (row : List AV) (d : Tr AObj) (v0 : Option AObj) (e : Tr AObj) (v2 : Option AObj) (ty : Tr (Nat × Nat)) : Heap := (Heap.mk (6 : Nat) (((a.node (some (AObj.cells (hMd1 whole w))) b).node v1 (c.node (some (AObj.cells row)) d)).node v0 (e.node v2 Tr.leaf)) (0 : Nat) ty)
def hMd3 (a : Tr AObj) (whole : List UInt8) (w : Nat) (b : Tr AObj) (v1 : Option AObj) (c : Tr AObj) (row : List AV) (d : Tr AObj) (v0 : Option AObj) (e : Tr AObj) (v2 : Option AObj) (k : Int) (s : List UInt8) (ty : Tr (Nat × Nat)) : Heap := (Heap.mk (7 : Nat) (((a.node (some (AObj.cells (hMd1 whole w))) b).node v1 (c.node (some (AObj.cells row)) d)).node v0 (e.node v2 (Tr.leaf.node (some (AObj.cells (setC (repC (max k (↑w : Int)) (AV.sc (Value.string (ByteArray.mk (Array.mk []))))) ((0 : Nat) + (IntKind.i64.wrap (k - (1 : Int))).toNat * (1 : Nat)) (AV.sc (Value.string (ByteArray.mk (Array.mk s))))))) Tr.leaf))) (0 : Nat) ty)
def hMd4 (a : Tr AObj) (whole : List UInt8) (w : Nat) (b : Tr AObj) (v1 : Option AObj) (c : Tr AObj) (row : List AV) (d : Tr AObj) (v0 : Option AObj) (e : Tr AObj) (v2 : Option AObj) (k : Int) (s : List UInt8) (ty : Tr (Nat × Nat)) : Heap := (Heap.mk (7 : Nat) (((a.node (some (AObj.cells (hMd1 whole w))) b).node v1 (c.node (some (AObj.cells row)) d)).node v0 (e.node v2 (Tr.leaf.node (some (AObj.cells (setC (overC (repC (max k (↑w : Int)) (AV.sc (Value.string (ByteArray.mk (Array.mk []))))) (0 : Nat) (cutC row (0 : Nat) (min (max k (↑w : Int)).toNat w))) ((0 : Nat) + (IntKind.i64.wrap (k - (1 : Int))).toNat * (1 : Nat)) (AV.sc (Value.string (ByteArray.mk (Array.mk s))))))) Tr.leaf))) (0 : Nat) ty)
def hMd5 (y0 : List UInt8) (k : Int) (w : Nat) : List AV := [AV.sc (Value.string (ByteArray.mk (Array.mk [(58 : UInt8)]))), AV.sc (Value.string (ByteArray.mk (Array.mk []))), AV.sc (Value.int IntKind.i64 (0 : Int)), AV.sc (Value.int IntKind.i64 (0 : Int)), AV.sc (Value.int IntKind.i64 (0 : Int)), AV.sc (Value.int IntKind.u64 (0 : Int)), AV.sc (Value.int IntKind.u64 (0 : Int)), AV.sc (Value.int IntKind.u64 (0 : Int)), AV.sc (Value.int IntKind.u64 (0 : Int)), AV.sc (Value.int IntKind.i64 (0 : Int)), AV.sc (Value.int IntKind.i64 (0 : Int)), AV.sc (Value.int IntKind.i64 (0 : Int)), AV.sc (Value.slice none (0 : Nat) (0 : Nat)), AV.sc (Value.string (ByteArray.mk (Array.mk [(44 : UInt8)]))), AV.sc (Value.string (ByteArray.mk (Array.mk y0))), AV.rsl (6 : Nat) (0 : Nat) (max k (↑w : Int)).toNat (1 : Nat)]
theorem c25a (m : Int) (a : Tr AObj) (b : Tr AObj) (c : Tr AObj) (d : Tr AObj) (e : Tr AObj) (v1 : Option AObj) (v0 : Option AObj) (v2 : Option AObj) (ty : Tr (Nat × Nat)) (whole : List UInt8) (row : List AV) (w : Nat) (k : Int) (s : List UInt8) (K : AV → Heap → Prop) (h :
 iteP (decide (k < (1 : Int))) (K (AV.sc (Value.int IntKind.i64 (2 : Int))) (hMd2 a whole w b v1 c row d v0 e v2 ty))
 (iteP (decide ((1024 : Int) < k)) (K (AV.sc (Value.int IntKind.i64 (3 : Int))) (hMd2 a whole w b v1 c row d v0 e v2 ty))
 (iteP (decide ((0 : Int) ≤ max k (↑w : Int)) && decide (max k (↑w : Int) ≤ max k (↑w : Int)) && decide (max k (↑w : Int) ≤ (140737488355328 : Int)) && ((max k (↑w : Int)).toNat * (16 : Nat)).ble (140737488355328 : Nat))
 (iteP ((max k (↑w : Int)).toNat.beq (0 : Nat)) False
 (iteP (((0 : Nat) + w).ble row.length)
 (iteP (fitC (repC (max k (↑w : Int)) (AV.sc (Value.string (ByteArray.mk (Array.mk []))))) (0 : Nat) (cutC row (0 : Nat) (min (max k (↑w : Int)).toNat w)))
 (iteP (cutC row (0 : Nat) (min (max k (↑w : Int)).toNat w)).isEmpty
 (iteP (inRange (IntKind.i64.wrap (k - (1 : Int))) (max k (↑w : Int)).toNat)
 (iteP (ltLen ((0 : Nat) + (IntKind.i64.wrap (k - (1 : Int))).toNat * (1 : Nat)) (repC (max k (↑w : Int)) (AV.sc (Value.string (ByteArray.mk (Array.mk [])))))) (loopAt Tryz.prog (49 : Nat) (4 : Nat) = loopAt Tryz.prog (49 : Nat) (4 : Nat) ∧ (I49 (6 : Nat) (max k (↑w : Int)).toNat (0 : Int) (0 : Int) (hMd3 a whole w b v1 c row d v0 e v2 k s ty) = I49 (6 : Nat) (max k (↑w : Int)).toNat (0 : Int) (0 : Int) (hMd3 a whole w b v1 c row d v0 e v2 k s ty) ∧ Whole (hMd3 a whole w b v1 c row d v0 e v2 k s ty) (6 : Nat) (max k (↑w : Int)).toNat) ∧
 ∀ (_ : Unit), True → RowOk (hMd3 a whole w b v1 c row d v0 e v2 k s ty) (6 : Nat) (max k (↑w : Int)).toNat [(44 : UInt8)] ∧
 ∀ (y0 : List UInt8), RowJoin (hMd3 a whole w b v1 c row d v0 e v2 k s ty) (6 : Nat) [(44 : UInt8)] y0 → K (AV.sc (Value.int IntKind.i64 (0 : Int))) (Heap.mk (7 : Nat) (((a.node (some (AObj.cells (hMd5 y0 k w))) b).node v1 (c.node (some (AObj.cells row)) d)).node v0 (e.node v2 (Tr.leaf.node (some (AObj.cells (setC (repC (max k (↑w : Int)) (AV.sc (Value.string (ByteArray.mk (Array.mk []))))) ((0 : Nat) + (IntKind.i64.wrap (k - (1 : Int))).toNat * (1 : Nat)) (AV.sc (Value.string (ByteArray.mk (Array.mk s))))))) Tr.leaf))) (0 : Nat) ty)) False) False)
 (iteP (inRange (IntKind.i64.wrap (k - (1 : Int))) (max k (↑w : Int)).toNat)
 (iteP (ltLen ((0 : Nat) + (IntKind.i64.wrap (k - (1 : Int))).toNat * (1 : Nat)) (overC (repC (max k (↑w : Int)) (AV.sc (Value.string (ByteArray.mk (Array.mk []))))) (0 : Nat) (cutC row (0 : Nat) (min (max k (↑w : Int)).toNat w)))) (loopAt Tryz.prog (49 : Nat) (4 : Nat) = loopAt Tryz.prog (49 : Nat) (4 : Nat) ∧ (I49 (6 : Nat) (max k (↑w : Int)).toNat (0 : Int) (0 : Int) (hMd4 a whole w b v1 c row d v0 e v2 k s ty) = I49 (6 : Nat) (max k (↑w : Int)).toNat (0 : Int) (0 : Int) (hMd4 a whole w b v1 c row d v0 e v2 k s ty) ∧ Whole (hMd4 a whole w b v1 c row d v0 e v2 k s ty) (6 : Nat) (max k (↑w : Int)).toNat) ∧
 ∀ (_ : Unit), True → RowOk (hMd4 a whole w b v1 c row d v0 e v2 k s ty) (6 : Nat) (max k (↑w : Int)).toNat [(44 : UInt8)] ∧
 ∀ (y0 : List UInt8), RowJoin (hMd4 a whole w b v1 c row d v0 e v2 k s ty) (6 : Nat) [(44 : UInt8)] y0 → K (AV.sc (Value.int IntKind.i64 (0 : Int))) (Heap.mk (7 : Nat) (((a.node (some (AObj.cells (hMd5 y0 k w))) b).node v1 (c.node (some (AObj.cells row)) d)).node v0 (e.node v2 (Tr.leaf.node (some (AObj.cells (setC (overC (repC (max k (↑w : Int)) (AV.sc (Value.string (ByteArray.mk (Array.mk []))))) (0 : Nat) (cutC row (0 : Nat) (min (max k (↑w : Int)).toNat w))) ((0 : Nat) + (IntKind.i64.wrap (k - (1 : Int))).toNat * (1 : Nat)) (AV.sc (Value.string (ByteArray.mk (Array.mk s))))))) Tr.leaf))) (0 : Nat) ty)) False) False)) False) False)) False))) :
 (fun (m : Int) (a b c d e : Tr AObj) (v1 v0 v2 : Option AObj) (ty : Tr (Nat × Nat)) (whole : List UInt8) (row : List AV) (w : Nat) (k : Int) (s : List UInt8) (K : AV → Heap → Prop) => wpCall TZ (cf m) Tryz.prog 40 25 [.ptr 3 0, .sc (.int .i64 k), aStr s] (hS6 a b c d e v1 v0 v2 ty row (recC 58 [44] whole (.rsl 5 0 w 1))) K) m a b c d e v1 v0 v2 ty whole row w k s K :=
 Eq.mp (by kernel_rfl) h
def hMe1 (whole : List UInt8) (w : Nat) : List AV := [AV.sc (Value.string (ByteArray.mk (Array.mk [(58 : UInt8)]))), AV.sc (Value.string (ByteArray.mk (Array.mk []))), AV.sc (Value.int IntKind.i64 (0 : Int)), AV.sc (Value.int IntKind.i64 (0 : Int)), AV.sc (Value.int IntKind.i64 (0 : Int)), AV.sc (Value.int IntKind.u64 (0 : Int)), AV.sc (Value.int IntKind.u64 (0 : Int)), AV.sc (Value.int IntKind.u64 (0 : Int)), AV.sc (Value.int IntKind.u64 (0 : Int)), AV.sc (Value.int IntKind.i64 (0 : Int)), AV.sc (Value.int IntKind.i64 (0 : Int)), AV.sc (Value.int IntKind.i64 (0 : Int)), AV.sc (Value.slice none (0 : Nat) (0 : Nat)), AV.sc (Value.string (ByteArray.mk (Array.mk [(44 : UInt8)]))), AV.sc (Value.string (ByteArray.mk (Array.mk whole))), AV.rsl (8 : Nat) (0 : Nat) w (1 : Nat)]
def hMe2 (a : Tr AObj) (whole : List UInt8) (w : Nat) (b : Tr AObj) (v1 : Option AObj) (v5 : Option AObj) (d5 : Tr AObj) (v0 : Option AObj) (c : Tr AObj) (row : List AV) (d : Tr AObj) (v4 : Option AObj) (d4 : Tr AObj) (v2 : Option AObj) (r2 : Tr AObj) (ty : Tr (Nat × Nat)) : Heap := (Heap.mk (9 : Nat) (((a.node (some (AObj.cells (hMe1 whole w))) b).node v1 (Tr.leaf.node v5 d5)).node v0 (((c.node (some (AObj.cells row)) d).node v4 d4).node v2 r2)) (0 : Nat) ty)
def hMe3 (a : Tr AObj) (whole : List UInt8) (w : Nat) (b : Tr AObj) (v1 : Option AObj) (k : Int) (s : List UInt8) (v5 : Option AObj) (d5 : Tr AObj) (v0 : Option AObj) (c : Tr AObj) (row : List AV) (d : Tr AObj) (v4 : Option AObj) (d4 : Tr AObj) (v2 : Option AObj) (r2 : Tr AObj) (ty : Tr (Nat × Nat)) : Heap := (Heap.mk (10 : Nat) (((a.node (some (AObj.cells (hMe1 whole w))) b).node v1 ((Tr.leaf.node (some (AObj.cells (setC (repC (max k (↑w : Int)) (AV.sc (Value.string (ByteArray.mk (Array.mk []))))) ((0 : Nat) + (IntKind.i64.wrap (k - (1 : Int))).toNat * (1 : Nat)) (AV.sc (Value.string (ByteArray.mk (Array.mk s))))))) Tr.leaf).node v5 d5)).node v0 (((c.node (some (AObj.cells row)) d).node v4 d4).node v2 r2)) (0 : Nat) ty)
def hMe4 (a : Tr AObj) (whole : List UInt8) (w : Nat) (b : Tr AObj) (v1 : Option AObj) (k : Int) (row : List AV) (s : List UInt8) (v5 : Option AObj) (d5 : Tr AObj) (v0 : Option AObj) (c : Tr AObj) (d : Tr AObj) (v4 : Option AObj) (d4 : Tr AObj) (v2 : Option AObj) (r2 : Tr AObj) (ty : Tr (Nat × Nat)) : Heap := (Heap.mk (10 : Nat) (((a.node (some (AObj.cells (hMe1 whole w))) b).node v1 ((Tr.leaf.node (some (AObj.cells (setC (overC (repC (max k (↑w : Int)) (AV.sc (Value.string (ByteArray.mk (Array.mk []))))) (0 : Nat) (cutC row (0 : Nat) (min (max k (↑w : Int)).toNat w))) ((0 : Nat) + (IntKind.i64.wrap (k - (1 : Int))).toNat * (1 : Nat)) (AV.sc (Value.string (ByteArray.mk (Array.mk s))))))) Tr.leaf).node v5 d5)).node v0 (((c.node (some (AObj.cells row)) d).node v4 d4).node v2 r2)) (0 : Nat) ty)
def hMe5 (y0 : List UInt8) (k : Int) (w : Nat) : List AV := [AV.sc (Value.string (ByteArray.mk (Array.mk [(58 : UInt8)]))), AV.sc (Value.string (ByteArray.mk (Array.mk []))), AV.sc (Value.int IntKind.i64 (0 : Int)), AV.sc (Value.int IntKind.i64 (0 : Int)), AV.sc (Value.int IntKind.i64 (0 : Int)), AV.sc (Value.int IntKind.u64 (0 : Int)), AV.sc (Value.int IntKind.u64 (0 : Int)), AV.sc (Value.int IntKind.u64 (0 : Int)), AV.sc (Value.int IntKind.u64 (0 : Int)), AV.sc (Value.int IntKind.i64 (0 : Int)), AV.sc (Value.int IntKind.i64 (0 : Int)), AV.sc (Value.int IntKind.i64 (0 : Int)), AV.sc (Value.slice none (0 : Nat) (0 : Nat)), AV.sc (Value.string (ByteArray.mk (Array.mk [(44 : UInt8)]))), AV.sc (Value.string (ByteArray.mk (Array.mk y0))), AV.rsl (9 : Nat) (0 : Nat) (max k (↑w : Int)).toNat (1 : Nat)]
theorem c25b (m : Int) (a : Tr AObj) (b : Tr AObj) (c : Tr AObj) (d : Tr AObj) (d4 : Tr AObj) (d5 : Tr AObj) (r2 : Tr AObj) (v1 : Option AObj) (v0 : Option AObj) (v2 : Option AObj) (v4 : Option AObj) (v5 : Option AObj) (ty : Tr (Nat × Nat)) (whole : List UInt8) (row : List AV) (w : Nat) (k : Int) (s : List UInt8) (K : AV → Heap → Prop) (h :
 iteP (decide (k < (1 : Int))) (K (AV.sc (Value.int IntKind.i64 (2 : Int))) (hMe2 a whole w b v1 v5 d5 v0 c row d v4 d4 v2 r2 ty))
 (iteP (decide ((1024 : Int) < k)) (K (AV.sc (Value.int IntKind.i64 (3 : Int))) (hMe2 a whole w b v1 v5 d5 v0 c row d v4 d4 v2 r2 ty))
 (iteP (decide ((0 : Int) ≤ max k (↑w : Int)) && decide (max k (↑w : Int) ≤ max k (↑w : Int)) && decide (max k (↑w : Int) ≤ (140737488355328 : Int)) && ((max k (↑w : Int)).toNat * (16 : Nat)).ble (140737488355328 : Nat))
 (iteP ((max k (↑w : Int)).toNat.beq (0 : Nat)) False
 (iteP (((0 : Nat) + w).ble row.length)
 (iteP (fitC (repC (max k (↑w : Int)) (AV.sc (Value.string (ByteArray.mk (Array.mk []))))) (0 : Nat) (cutC row (0 : Nat) (min (max k (↑w : Int)).toNat w)))
 (iteP (cutC row (0 : Nat) (min (max k (↑w : Int)).toNat w)).isEmpty
 (iteP (inRange (IntKind.i64.wrap (k - (1 : Int))) (max k (↑w : Int)).toNat)
 (iteP (ltLen ((0 : Nat) + (IntKind.i64.wrap (k - (1 : Int))).toNat * (1 : Nat)) (repC (max k (↑w : Int)) (AV.sc (Value.string (ByteArray.mk (Array.mk [])))))) (loopAt Tryz.prog (49 : Nat) (4 : Nat) = loopAt Tryz.prog (49 : Nat) (4 : Nat) ∧ (I49 (9 : Nat) (max k (↑w : Int)).toNat (0 : Int) (0 : Int) (hMe3 a whole w b v1 k s v5 d5 v0 c row d v4 d4 v2 r2 ty) = I49 (9 : Nat) (max k (↑w : Int)).toNat (0 : Int) (0 : Int) (hMe3 a whole w b v1 k s v5 d5 v0 c row d v4 d4 v2 r2 ty) ∧ WholeE (hMe3 a whole w b v1 k s v5 d5 v0 c row d v4 d4 v2 r2 ty) (9 : Nat) (max k (↑w : Int)).toNat) ∧ (∀ (_ : Unit), Fits (hMe3 a whole w b v1 k s v5 d5 v0 c row d v4 d4 v2 r2 ty) (9 : Nat) → RowOk (hMe3 a whole w b v1 k s v5 d5 v0 c row d v4 d4 v2 r2 ty) (9 : Nat) (max k (↑w : Int)).toNat [(44 : UInt8)] ∧
 ∀ (y0 : List UInt8), RowJoin (hMe3 a whole w b v1 k s v5 d5 v0 c row d v4 d4 v2 r2 ty) (9 : Nat) [(44 : UInt8)] y0 → K (AV.sc (Value.int IntKind.i64 (0 : Int))) (Heap.mk (10 : Nat) (((a.node (some (AObj.cells (hMe5 y0 k w))) b).node v1 ((Tr.leaf.node (some (AObj.cells (setC (repC (max k (↑w : Int)) (AV.sc (Value.string (ByteArray.mk (Array.mk []))))) ((0 : Nat) + (IntKind.i64.wrap (k - (1 : Int))).toNat * (1 : Nat)) (AV.sc (Value.string (ByteArray.mk (Array.mk s))))))) Tr.leaf).node v5 d5)).node v0 (((c.node (some (AObj.cells row)) d).node v4 d4).node v2 r2)) (0 : Nat) ty)) ∧
 ∀ (_ : Unit), Over (hMe3 a whole w b v1 k s v5 d5 v0 c row d v4 d4 v2 r2 ty) (9 : Nat) → K (AV.sc (Value.int IntKind.i64 (3 : Int))) (hMe3 a whole w b v1 k s v5 d5 v0 c row d v4 d4 v2 r2 ty)) False) False)
 (iteP (inRange (IntKind.i64.wrap (k - (1 : Int))) (max k (↑w : Int)).toNat)
 (iteP (ltLen ((0 : Nat) + (IntKind.i64.wrap (k - (1 : Int))).toNat * (1 : Nat)) (overC (repC (max k (↑w : Int)) (AV.sc (Value.string (ByteArray.mk (Array.mk []))))) (0 : Nat) (cutC row (0 : Nat) (min (max k (↑w : Int)).toNat w)))) (loopAt Tryz.prog (49 : Nat) (4 : Nat) = loopAt Tryz.prog (49 : Nat) (4 : Nat) ∧ (I49 (9 : Nat) (max k (↑w : Int)).toNat (0 : Int) (0 : Int) (hMe4 a whole w b v1 k row s v5 d5 v0 c d v4 d4 v2 r2 ty) = I49 (9 : Nat) (max k (↑w : Int)).toNat (0 : Int) (0 : Int) (hMe4 a whole w b v1 k row s v5 d5 v0 c d v4 d4 v2 r2 ty) ∧ WholeE (hMe4 a whole w b v1 k row s v5 d5 v0 c d v4 d4 v2 r2 ty) (9 : Nat) (max k (↑w : Int)).toNat) ∧ (∀ (_ : Unit), Fits (hMe4 a whole w b v1 k row s v5 d5 v0 c d v4 d4 v2 r2 ty) (9 : Nat) → RowOk (hMe4 a whole w b v1 k row s v5 d5 v0 c d v4 d4 v2 r2 ty) (9 : Nat) (max k (↑w : Int)).toNat [(44 : UInt8)] ∧
 ∀ (y0 : List UInt8), RowJoin (hMe4 a whole w b v1 k row s v5 d5 v0 c d v4 d4 v2 r2 ty) (9 : Nat) [(44 : UInt8)] y0 → K (AV.sc (Value.int IntKind.i64 (0 : Int))) (Heap.mk (10 : Nat) (((a.node (some (AObj.cells (hMe5 y0 k w))) b).node v1 ((Tr.leaf.node (some (AObj.cells (setC (overC (repC (max k (↑w : Int)) (AV.sc (Value.string (ByteArray.mk (Array.mk []))))) (0 : Nat) (cutC row (0 : Nat) (min (max k (↑w : Int)).toNat w))) ((0 : Nat) + (IntKind.i64.wrap (k - (1 : Int))).toNat * (1 : Nat)) (AV.sc (Value.string (ByteArray.mk (Array.mk s))))))) Tr.leaf).node v5 d5)).node v0 (((c.node (some (AObj.cells row)) d).node v4 d4).node v2 r2)) (0 : Nat) ty)) ∧
 ∀ (_ : Unit), Over (hMe4 a whole w b v1 k row s v5 d5 v0 c d v4 d4 v2 r2 ty) (9 : Nat) → K (AV.sc (Value.int IntKind.i64 (3 : Int))) (hMe4 a whole w b v1 k row s v5 d5 v0 c d v4 d4 v2 r2 ty)) False) False)) False) False)) False))) :
 (fun (m : Int) (a b c d d4 d5 r2 : Tr AObj) (v1 v0 v2 v4 v5 : Option AObj) (ty : Tr (Nat × Nat)) (whole : List UInt8) (row : List AV) (w : Nat) (k : Int) (s : List UInt8) (K : AV → Heap → Prop) => wpCall TQ (cf m) Tryz.prog 40 25 [.ptr 3 0, .sc (.int .i64 k), aStr s] (hS9 a b c d d4 d5 r2 v1 v0 v2 v4 v5 ty row (recC 58 [44] whole (.rsl 8 0 w 1))) K) m a b c d d4 d5 r2 v1 v0 v2 v4 v5 ty whole row w k s K :=
 Eq.mp (by kernel_rfl) h
end
end Go.Proofs.Rd
namespace Go.Proofs.Rd
open Go Go.Ef
noncomputable section
set_option maxRecDepth 100000
theorem c27e (m : Int) (k : Nat) (a : Tr AObj) (b : Tr AObj) (r1 : Tr AObj) (r0 : Tr AObj) (v1 : Option AObj) (v0 : Option AObj) (ro : Nat) (ty : Tr (Nat × Nat)) (c : UInt8) (out : List UInt8) (whole : List UInt8) (id : Nat) (n : Nat) (i : Int) (K : AV → Heap → Prop) (h :
 iteP (decide (i < (0 : Int)))
 (K
 (AV.tup
 [AV.agg
 [AV.sc (Value.int IntKind.i64 (0 : Int)), AV.sc (Value.int IntKind.i64 (0 : Int)),
 AV.sc (Value.string (ByteArray.mk (Array.mk [])))],
 AV.sc (Value.int IntKind.i64 (2 : Int))])
 (Heap.mk (k + (4 : Nat))
 (((a.node
 (some
 (AObj.cells
 [AV.sc (Value.string (ByteArray.mk (Array.mk [c]))),
 AV.sc (Value.string (ByteArray.mk (Array.mk []))), AV.sc (Value.int IntKind.i64 (0 : Int)),
 AV.sc (Value.int IntKind.i64 (0 : Int)), AV.sc (Value.int IntKind.i64 (0 : Int)),
 AV.sc (Value.int IntKind.u64 (0 : Int)), AV.sc (Value.int IntKind.u64 (0 : Int)),
 AV.sc (Value.int IntKind.u64 (0 : Int)), AV.sc (Value.int IntKind.u64 (0 : Int)),
 AV.sc (Value.int IntKind.i64 (0 : Int)), AV.sc (Value.int IntKind.i64 (0 : Int)),
 AV.sc (Value.int IntKind.i64 (0 : Int)), AV.sc (Value.slice none (0 : Nat) (0 : Nat)),
 AV.sc (Value.string (ByteArray.mk (Array.mk out))),
 AV.sc (Value.string (ByteArray.mk (Array.mk whole))), AV.rsl id (0 : Nat) n (1 : Nat)]))
 b).node
 v1 r1).node
 v0 r0)
 ro ty))
 (iteP (decide ((1024 : Int) < i))
 (K
 (AV.tup
 [AV.agg
 [AV.sc (Value.int IntKind.i64 (0 : Int)), AV.sc (Value.int IntKind.i64 (0 : Int)),
 AV.sc (Value.string (ByteArray.mk (Array.mk [])))],
 AV.sc (Value.int IntKind.i64 (3 : Int))])
 (Heap.mk (k + (4 : Nat))
 (((a.node
 (some
 (AObj.cells
 [AV.sc (Value.string (ByteArray.mk (Array.mk [c]))),
 AV.sc (Value.string (ByteArray.mk (Array.mk []))), AV.sc (Value.int IntKind.i64 (0 : Int)),
 AV.sc (Value.int IntKind.i64 (0 : Int)), AV.sc (Value.int IntKind.i64 (0 : Int)),
 AV.sc (Value.int IntKind.u64 (0 : Int)), AV.sc (Value.int IntKind.u64 (0 : Int)),
 AV.sc (Value.int IntKind.u64 (0 : Int)), AV.sc (Value.int IntKind.u64 (0 : Int)),
 AV.sc (Value.int IntKind.i64 (0 : Int)), AV.sc (Value.int IntKind.i64 (0 : Int)),
 AV.sc (Value.int IntKind.i64 (0 : Int)), AV.sc (Value.slice none (0 : Nat) (0 : Nat)),
 AV.sc (Value.string (ByteArray.mk (Array.mk out))),
 AV.sc (Value.string (ByteArray.mk (Array.mk whole))), AV.rsl id (0 : Nat) n (1 : Nat)]))
 b).node
 v1 r1).node
 v0 r0)
 ro ty))
 (iteP (i == (0 : Int))
 (Easy whole ∧
 ∀ (_ : Unit),
 True →
 K
 (AV.tup
 [AV.agg
 [AV.sc (Value.int IntKind.i64 (2 : Int)), AV.sc (Value.int IntKind.i64 (0 : Int)),
 AV.sc (Value.string (ByteArray.mk (Array.mk whole)))],
 AV.sc (Value.int IntKind.i64 (0 : Int))])
 (Heap.mk (k + (4 : Nat))
 (((a.node
 (some
 (AObj.cells
 [AV.sc (Value.string (ByteArray.mk (Array.mk [c]))),
 AV.sc (Value.string (ByteArray.mk (Array.mk []))),
 AV.sc (Value.int IntKind.i64 (0 : Int)), AV.sc (Value.int IntKind.i64 (0 : Int)),
 AV.sc (Value.int IntKind.i64 (0 : Int)), AV.sc (Value.int IntKind.u64 (0 : Int)),
 AV.sc (Value.int IntKind.u64 (0 : Int)), AV.sc (Value.int IntKind.u64 (0 : Int)),
 AV.sc (Value.int IntKind.u64 (0 : Int)), AV.sc (Value.int IntKind.i64 (0 : Int)),
 AV.sc (Value.int IntKind.i64 (0 : Int)), AV.sc (Value.int IntKind.i64 (0 : Int)),
 AV.sc (Value.slice none (0 : Nat) (0 : Nat)),
 AV.sc (Value.string (ByteArray.mk (Array.mk out))),
 AV.sc (Value.string (ByteArray.mk (Array.mk whole))), AV.rsl id (0 : Nat) n (1 : Nat)]))
 b).node
 v1 r1).node
 v0 r0)
 ro ty))
 (iteP (decide ((↑n : Int) < i))
 (K
 (AV.tup
 [AV.agg
 [AV.sc (Value.int IntKind.i64 (0 : Int)), AV.sc (Value.int IntKind.i64 (0 : Int)),
 AV.sc (Value.string (ByteArray.mk (Array.mk [])))],
 AV.sc (Value.int IntKind.i64 (0 : Int))])
 (Heap.mk (k + (4 : Nat))
 (((a.node
 (some
 (AObj.cells
 [AV.sc (Value.string (ByteArray.mk (Array.mk [c]))),
 AV.sc (Value.string (ByteArray.mk (Array.mk []))), AV.sc (Value.int IntKind.i64 (0 : Int)),
 AV.sc (Value.int IntKind.i64 (0 : Int)), AV.sc (Value.int IntKind.i64 (0 : Int)),
 AV.sc (Value.int IntKind.u64 (0 : Int)), AV.sc (Value.int IntKind.u64 (0 : Int)),
 AV.sc (Value.int IntKind.u64 (0 : Int)), AV.sc (Value.int IntKind.u64 (0 : Int)),
 AV.sc (Value.int IntKind.i64 (0 : Int)), AV.sc (Value.int IntKind.i64 (0 : Int)),
 AV.sc (Value.int IntKind.i64 (0 : Int)), AV.sc (Value.slice none (0 : Nat) (0 : Nat)),
 AV.sc (Value.string (ByteArray.mk (Array.mk out))),
 AV.sc (Value.string (ByteArray.mk (Array.mk whole))), AV.rsl id (0 : Nat) n (1 : Nat)]))
 b).node
 v1 r1).node
 v0 r0)
 ro ty))
 (iteP (inRange (IntKind.i64.wrap (i - (1 : Int))) n)
 (iteP
 (hasStr
 (Heap.mk (k + (4 : Nat))
 (((a.node
 (some
 (AObj.cells
 [AV.sc (Value.string (ByteArray.mk (Array.mk [c]))),
 AV.sc (Value.string (ByteArray.mk (Array.mk []))),
 AV.sc (Value.int IntKind.i64 (0 : Int)), AV.sc (Value.int IntKind.i64 (0 : Int)),
 AV.sc (Value.int IntKind.i64 (0 : Int)), AV.sc (Value.int IntKind.u64 (0 : Int)),
 AV.sc (Value.int IntKind.u64 (0 : Int)), AV.sc (Value.int IntKind.u64 (0 : Int)),
 AV.sc (Value.int IntKind.u64 (0 : Int)), AV.sc (Value.int IntKind.i64 (0 : Int)),
 AV.sc (Value.int IntKind.i64 (0 : Int)), AV.sc (Value.int IntKind.i64 (0 : Int)),
 AV.sc (Value.slice none (0 : Nat) (0 : Nat)),
 AV.sc (Value.string (ByteArray.mk (Array.mk out))),
 AV.sc (Value.string (ByteArray.mk (Array.mk whole))), AV.rsl id (0 : Nat) n (1 : Nat)]))
 b).node
 v1 r1).node
 v0 r0)
 ro ty)
 id ((0 : Nat) + (IntKind.i64.wrap (i - (1 : Int))).toNat * (1 : Nat)))
 (Easy
 (strIn
 (Heap.mk (k + (4 : Nat))
 (((a.node
 (some
 (AObj.cells
 [AV.sc (Value.string (ByteArray.mk (Array.mk [c]))),
 AV.sc (Value.string (ByteArray.mk (Array.mk []))),
 AV.sc (Value.int IntKind.i64 (0 : Int)), AV.sc (Value.int IntKind.i64 (0 : Int)),
 AV.sc (Value.int IntKind.i64 (0 : Int)), AV.sc (Value.int IntKind.u64 (0 : Int)),
 AV.sc (Value.int IntKind.u64 (0 : Int)), AV.sc (Value.int IntKind.u64 (0 : Int)),
 AV.sc (Value.int IntKind.u64 (0 : Int)), AV.sc (Value.int IntKind.i64 (0 : Int)),
 AV.sc (Value.int IntKind.i64 (0 : Int)), AV.sc (Value.int IntKind.i64 (0 : Int)),
 AV.sc (Value.slice none (0 : Nat) (0 : Nat)),
 AV.sc (Value.string (ByteArray.mk (Array.mk out))),
 AV.sc (Value.string (ByteArray.mk (Array.mk whole))),
 AV.rsl id (0 : Nat) n (1 : Nat)]))
 b).node
 v1 r1).node
 v0 r0)
 ro ty)
 id ((0 : Nat) + (IntKind.i64.wrap (i - (1 : Int))).toNat * (1 : Nat))) ∧
 ∀ (_ : Unit),
 True →
 K
 (AV.tup
 [AV.agg
 [AV.sc (Value.int IntKind.i64 (2 : Int)), AV.sc (Value.int IntKind.i64 (0 : Int)),
 AV.sc
 (Value.string
 (ByteArray.mk
 (Array.mk
 (strIn
 (Heap.mk (k + (4 : Nat))
 (((a.node
 (some
 (AObj.cells
 [AV.sc (Value.string (ByteArray.mk (Array.mk [c]))),
 AV.sc (Value.string (ByteArray.mk (Array.mk []))),
 AV.sc (Value.int IntKind.i64 (0 : Int)),
 AV.sc (Value.int IntKind.i64 (0 : Int)),
 AV.sc (Value.int IntKind.i64 (0 : Int)),
 AV.sc (Value.int IntKind.u64 (0 : Int)),
 AV.sc (Value.int IntKind.u64 (0 : Int)),
 AV.sc (Value.int IntKind.u64 (0 : Int)),
 AV.sc (Value.int IntKind.u64 (0 : Int)),
 AV.sc (Value.int IntKind.i64 (0 : Int)),
 AV.sc (Value.int IntKind.i64 (0 : Int)),
 AV.sc (Value.int IntKind.i64 (0 : Int)),
 AV.sc (Value.slice none (0 : Nat) (0 : Nat)),
 AV.sc (Value.string (ByteArray.mk (Array.mk out))),
 AV.sc (Value.string (ByteArray.mk (Array.mk whole))),
 AV.rsl id (0 : Nat) n (1 : Nat)]))
 b).node
 v1 r1).node
 v0 r0)
 ro ty)
 id ((0 : Nat) + (IntKind.i64.wrap (i - (1 : Int))).toNat * (1 : Nat))))))],
 AV.sc (Value.int IntKind.i64 (0 : Int))])
 (Heap.mk (k + (4 : Nat))
 (((a.node
 (some
 (AObj.cells
 [AV.sc (Value.string (ByteArray.mk (Array.mk [c]))),
 AV.sc (Value.string (ByteArray.mk (Array.mk []))),
 AV.sc (Value.int IntKind.i64 (0 : Int)), AV.sc (Value.int IntKind.i64 (0 : Int)),
 AV.sc (Value.int IntKind.i64 (0 : Int)), AV.sc (Value.int IntKind.u64 (0 : Int)),
 AV.sc (Value.int IntKind.u64 (0 : Int)), AV.sc (Value.int IntKind.u64 (0 : Int)),
 AV.sc (Value.int IntKind.u64 (0 : Int)), AV.sc (Value.int IntKind.i64 (0 : Int)),
 AV.sc (Value.int IntKind.i64 (0 : Int)), AV.sc (Value.int IntKind.i64 (0 : Int)),
 AV.sc (Value.slice none (0 : Nat) (0 : Nat)),
 AV.sc (Value.string (ByteArray.mk (Array.mk out))),
 AV.sc (Value.string (ByteArray.mk (Array.mk whole))),
 AV.rsl id (0 : Nat) n (1 : Nat)]))
 b).node
 v1 r1).node
 v0 r0)
 ro ty))
 False)
 False))))) :
 (fun (m : Int) (k : Nat) (a b r1 r0 : Tr AObj) (v1 v0 : Option AObj) (ro : Nat) (ty : Tr (Nat × Nat)) (c : UInt8) (out whole : List UInt8) (id n : Nat) (i : Int) (K : AV → Heap → Prop) => wpCall T27s (cf m) Tryz.prog 40 27 [.ptr 3 0, .sc (.int .i64 i)] (hG k a b r1 r0 v1 v0 ro ty (recC c out whole (.rsl id 0 n 1))) K) m k a b r1 r0 v1 v0 ro ty c out whole id n i K :=
 Eq.mp (by kernel_rfl) h
end
end Go.Proofs.Rd
namespace Go.Proofs.Rd
open Go Go.Ef
noncomputable section
set_option maxRecDepth 100000
variable {m : Int} {T : Tab}
theorem ok49r (O : Ok m T) : Ok m (T.addL 49 4 L49r) := by
 refine addL_ok O fun σ s hs hp => ?_
 unfold L49r at hs
 split at hs
 ·exact (ok49L (m := m) (T := tab0) tab0_ok).loop 49 4 L49 σ s rfl hs hp |> fun ⟨a, ha, x, n, h1, h2⟩ => ⟨a, ha, x, h1, n, h2⟩
 ·cases hs
theorem ok49q (O : Ok m T) : Ok m (T.addL 49 4 L49q) := by
 refine addL_ok O fun σ s hs hp => ?_
 unfold L49q at hs
 split at hs
 ·exact (ok49e (m := m) (T := tab0) tab0_ok).loop 49 4 L49e σ s rfl hs hp |> fun ⟨a, ha, x, n, h1, h2⟩ => ⟨a, ha, x, h1, n, h2⟩
 ·cases hs
theorem okTZ : Ok m TZ := ok49r (ok73 okLy)
theorem okTQ : Ok m TQ := ok49q (ok73 okLy)
theorem qmk {x : Int} (h0 : 0 ≤ x) (h1 : x ≤ 100000) : (decide ((0 : Int) ≤ x) && decide (x ≤ x) && decide (x ≤ 140737488355328) && (x.toNat * 16).ble 140737488355328) = true := by
 rw [decide_eq_true h0, decide_eq_true (by omega), decide_eq_true (by omega), Nat.ble_eq_true_of_le (by omega)]; rfl
theorem qnz {x : Int} (h0 : 1 ≤ x) : x.toNat.beq 0 = false := by
 cases hq : x.toNat.beq 0 with
 | false => rfl
 | true => exact absurd (Nat.eq_of_beq_eq_true hq) (by omega)
theorem put_row (L : List (List UInt8)) (j : Nat) (s : List UInt8) (h1 : 1 ≤ j) (h2 : j ≤ 1024) :
  setC (overC (repC (max (j : Int) (L.length : Int)) z1) 0 (cutC (L.map aStr) 0 (min (max (j : Int) (L.length : Int)).toNat L.length))) (0 + (IntKind.i64.wrap ((j : Int) - 1)).toNat * 1) (AV.sc (Value.string (ByteArray.mk (Array.mk s)))) = pRow (L.map aStr) j s := by
 have e1 : max (j : Int) (L.length : Int) = ((max j L.length : Nat) : Int) := by omega
 have e2 : IntKind.i64.wrap ((j : Int) - 1) = ((j - 1 : Nat) : Int) := by rw [wrap_in (by omega) (by omega)]; omega
 have e3 := over_cut (L.map aStr) (max j L.length)
 rw [List.length_map] at e3
 rw [e1, e2, Int.toNat_natCast, Int.toNat_natCast, e3, Nat.zero_add, Nat.mul_one]
 unfold pRow setC
 rw [List.length_map]; rfl
theorem put_fit (L : List (List UInt8)) (j : Nat) : fitC (repC (max (j : Int) (L.length : Int)) z1) 0 (cutC (L.map aStr) 0 (min (max (j : Int) (L.length : Int)).toNat L.length)) = true := by
 have e1 : max (j : Int) (L.length : Int) = ((max j L.length : Nat) : Int) := by omega
 have e3 := fit_cut L (max j L.length)
 rw [List.length_map] at e3
 rw [e1, Int.toNat_natCast, e3]
theorem put_ne {L : List (List UInt8)} {j : Nat} (hne : L ≠ []) : (cutC (L.map aStr) 0 (min (max (j : Int) (L.length : Int)).toNat L.length)).isEmpty = false := by
 have e1 : max (j : Int) (L.length : Int) = ((max j L.length : Nat) : Int) := by omega
 have e3 := cut_take (L.map aStr) (max j L.length)
 rw [List.length_map] at e3
 rw [e1, Int.toNat_natCast, e3]
 refine ne_take hne ?_
 have : L.length ≠ 0 := fun h => hne (List.length_eq_zero_iff.1 h)
 omega
theorem put_lt (L : List (List UInt8)) (j : Nat) (h1 : 1 ≤ j) (h2 : j ≤ 1024) : ltLen (0 + (IntKind.i64.wrap ((j : Int) - 1)).toNat * 1) (overC (repC (max (j : Int) (L.length : Int)) z1) 0 (cutC (L.map aStr) 0 (min (max (j : Int) (L.length : Int)).toNat L.length))) = true := by
 have e1 : max (j : Int) (L.length : Int) = ((max j L.length : Nat) : Int) := by omega
 have e2 : IntKind.i64.wrap ((j : Int) - 1) = ((j - 1 : Nat) : Int) := by rw [wrap_in (by omega) (by omega)]; omega
 have e3 := over_cut (L.map aStr) (max j L.length)
 rw [List.length_map] at e3
 rw [e1, e2, Int.toNat_natCast, Int.toNat_natCast, e3]
 unfold ltLen
 rw [zRow_len]
 exact Nat.ble_eq_true_of_le (by omega)
def pL (L : List (List UInt8)) (k : Nat) (s : List UInt8) : List (List UInt8) := (zL L (max k L.length)).set (k - 1) s
theorem pRow_pL (L : List (List UInt8)) (k : Nat) (s : List UInt8) : pRow (L.map aStr) k s = (pL L k s).map aStr := pRow_map L k s
theorem pL_len (L : List (List UInt8)) (k : Nat) (s : List UInt8) : (pL L k s).length = max k L.length := by unfold pL; rw [List.length_set, zL_len]
theorem joinP_eq (L : List (List UInt8)) (k : Nat) (s : List UInt8) : joinC (pRow (L.map aStr) k s) = Lib.join (pL L k s) [44] := by rw [pRow_pL, joinC_map]
theorem joinZ_eq (L : List (List UInt8)) (n : Nat) : joinC (zRow (L.map aStr) n) = Lib.join (zL L n) [44] := by rw [zRow_map, joinC_map]
theorem ShZ.row {h : Heap} {f : AV} {L : List (List UInt8)} (H : ShZ h f L) : rowAt h f = L.map aStr := by
 cases H with
 | n5 => rfl
 | s5 a b v1 v0 r0 ty whole L hne => exact rowS_map L
 | r8 => rfl
theorem ShP.row {h : Heap} {f : AV} {L : List (List UInt8)} (H : ShP h f L) : rowAt h f = L.map aStr ∧ lenF f = L.length ∧ h.next = 6 := by
 cases H; exact ⟨rfl, rfl, rfl⟩
theorem ShQ.row {h : Heap} {f : AV} {L : List (List UInt8)} (H : ShQ h f L) : rowAt h f = L.map aStr ∧ lenF f = L.length ∧ h.next = 9 := by
 cases H; exact ⟨rfl, rfl, rfl⟩
theorem ok24 (O : Ok m T) : Ok m (T.addC 24 C24) := by
 refine addC_ok O fun args h s hs hp => ?_
 unfold C24 at hs
 split at hs
 ·rename_i n
  split at hs
  ·rename_i f hf
   cases hs
   obtain ⟨L, hsh, h1, h2, h3, h4⟩ := hp
   obtain ⟨j, rfl⟩ : ∃ j : Nat, n = j := ⟨n.toNat, by omega⟩
   rw [Int.toNat_natCast, joinZ_eq] at h4
   have key : EvP (cf m) Tryz.prog 24 [.ptr 3 0, .sc (.int .i64 (j : Int))] h fun r h' => r = intA 0 ∧ h' = withRow h (zRow (L.map aStr) j) (joinC (zRow (L.map aStr) j)) j := by
    refine EvP.direct (by kernel_rfl) (by kernel_rfl) ?_
    have hl : (zL L j).length = j := zL_len L j
    cases hsh with
    | n5 a b v1 v0 r0 ty whole =>
     refine call_okW okTZ 40 24 _ _ _ (c24n m a b v1 v0 r0 ty whole j _ ?_)
     rw [decide_eq_false (by omega), iteP_f, decide_eq_false (by omega), iteP_f, qmk (by omega) (by omega), iteP_t, qnz (by omega), iteP_f]
     have er : repC (j : Int) z1 = zRow ([].map aStr) j := by rw [rep_eq]; exact (zRow_nil j).symm ▸ (by rw [List.map_replicate])
     have hg : (hMa2 a whole b v1 j v0 r0 ty).get 5 = some (.cells ((zL [] j).map aStr)) := by
      show some (AObj.cells (repC (j : Int) z1)) = _
      rw [er, zRow_map]
     refine ⟨rfl, ⟨rfl, ⟨zL [] j, 58, [44], whole, _, hg, by rw [hl, Int.toNat_natCast], rfl, h4, by omega⟩⟩, fun _ _ => ⟨⟨zL [] j, hg, by rw [hl, Int.toNat_natCast], show (Lib.join (zL [] j) [44]).length ≤ _ by omega, by omega⟩, fun x hx => ?_⟩⟩
     have hx := hx.is _ hg
     have hx : x = Lib.join (zL [] j) [44] := hx
     subst hx
     rw [joinZ_eq, er]
     exact ⟨rfl, rfl⟩
    | s5 a b v1 v0 r0 ty whole L hne =>
     refine call_okW okTZ 40 24 _ _ _ (c24s m a b v1 v0 r0 ty whole (L.map strEl) j _ ?_)
     have er := over_flat L j
     rw [decide_eq_false (by omega), iteP_f, decide_eq_false (by omega), iteP_f, qmk (by omega) (by omega), iteP_t, qnz (by omega), iteP_f, all_len1, iteP_t, Int.toNat_natCast, fit_flat, iteP_t, flat_take, ne_take hne (by omega), iteP_f]
     have hg : (hMb3 a whole (L.map strEl) b v1 j v0 r0 ty).get 5 = some (.cells ((zL L j).map aStr)) := by
      show some (AObj.cells (overC (repC (j : Int) z1) 0 (flatC (L.map strEl) (j : Int).toNat))) = _
      rw [Int.toNat_natCast, er, zRow_map]
     refine ⟨rfl, ⟨rfl, ⟨zL L j, 58, [44], whole, _, hg, hl.symm, rfl, h4, by omega⟩⟩, fun _ _ => ⟨⟨zL L j, hg, hl.symm, show (Lib.join (zL L j) [44]).length ≤ _ by omega, by omega⟩, fun x hx => ?_⟩⟩
     have hx := hx.is _ hg
     have hx : x = Lib.join (zL L j) [44] := hx
     subst hx
     rw [← flat_take, er, joinZ_eq]
     exact ⟨rfl, rfl⟩
    | r8 a b c d e d4 v1 v0 v2 v4 ty whole L hne =>
     refine call_okW okTZ 40 24 _ _ _ (c24r m a b c d e d4 v1 v0 v2 v4 ty whole (L.map aStr) L.length j _ ?_)
     have er := over_cut (L.map aStr) j
     have ef := fit_cut L j
     have ec := cut_take (L.map aStr) j
     rw [List.length_map] at er ef ec
     rw [decide_eq_false (by omega), iteP_f, decide_eq_false (by omega), iteP_f, qmk (by omega) (by omega), iteP_t, qnz (by omega), iteP_f, List.length_map, Nat.ble_eq_true_of_le (by omega), iteP_t, Int.toNat_natCast, ef, iteP_t, ec, ne_take hne (by omega), iteP_f]
     have hg : (hMc4 a whole L.length b v1 c v0 j (L.map aStr) v4 d4 v2 d e ty).get 8 = some (.cells ((zL L j).map aStr)) := by
      show some (AObj.cells (overC (repC (j : Int) z1) 0 (cutC (L.map aStr) 0 (min (j : Int).toNat L.length)))) = _
      rw [Int.toNat_natCast, er, zRow_map]
     refine ⟨rfl, ⟨rfl, ⟨zL L j, 58, [44], whole, _, hg, hl.symm, rfl, h4, by omega⟩⟩, fun _ _ => ⟨⟨zL L j, hg, hl.symm, show (Lib.join (zL L j) [44]).length ≤ _ by omega, by omega⟩, fun x hx => ?_⟩⟩
     have hx := hx.is _ hg
     have hx : x = Lib.join (zL L j) [44] := hx
     subst hx
     rw [← ec, er, joinZ_eq]
     exact ⟨rfl, rfl⟩
   obtain ⟨n', v, h', g1, rfl, rfl⟩ := key
   refine ⟨_, List.mem_singleton.2 rfl, (), n', trivial, ?_⟩
   show callP (cf m) (evCall (cf m) Tryz.prog n') 24 _ h = some (intA 0, withRow h (zRow (rowAt h f) (j : Int).toNat) (joinC (zRow (rowAt h f) (j : Int).toNat)) (j : Int).toNat)
   rw [hsh.row, Int.toNat_natCast]
   exact g1
  ·cases hs
 ·cases hs
theorem ok25 (O : Ok m T) : Ok m (T.addC 25 C25) := by
 refine addC_ok O fun args h s hs hp => ?_
 unfold C25 at hs
 split at hs
 ·rename_i k s0
  obtain ⟨⟨s0⟩⟩ := s0
  split at hs
  ·rename_i f hf
   cases hb : Nat.beq h.next 6 with
   | true =>
    rw [hb] at hs
    cases hs
    obtain ⟨L, hsh, h1, h2, h3, h4⟩ := hp
    obtain ⟨j, rfl⟩ : ∃ j : Nat, k = j := ⟨k.toNat, by omega⟩
    have h4 : (joinC (pRow (L.map aStr) (j : Int).toNat s0)).length ≤ 65536 := h4
    rw [Int.toNat_natCast, joinP_eq] at h4
    have key : EvP (cf m) Tryz.prog 25 [.ptr 3 0, .sc (.int .i64 (j : Int)), aStr s0] h fun r h' => r = intA 0 ∧ h' = withRow h (pRow (L.map aStr) j s0) (joinC (pRow (L.map aStr) j s0)) (max j L.length) := by
     refine EvP.direct (by kernel_rfl) (by kernel_rfl) ?_
     have hl : (pL L j s0).length = max j L.length := pL_len L j s0
     have e1 : (max (j : Int) (L.length : Int)).toNat = max j L.length := by omega
     cases hsh with
     | r6 a b c d e v1 v0 v2 ty whole L hne =>
      refine call_okW okTZ 40 25 _ _ _ (c25a m a b c d e v1 v0 v2 ty whole (L.map aStr) L.length j s0 _ ?_)
      have er := put_row L j s0 (by omega) (by omega)
      have hr : inRange (IntKind.i64.wrap ((j : Int) - 1)) (max (j : Int) (L.length : Int)).toNat = true := by rw [wrap_in (by omega) (by omega), inRange_iff]; omega
      rw [decide_eq_false (by omega), iteP_f, decide_eq_false (by omega), iteP_f, qmk (by omega) (by omega), iteP_t, qnz (by omega), iteP_f, List.length_map, Nat.ble_eq_true_of_le (by omega), iteP_t, put_fit, iteP_t, put_ne hne, iteP_f, hr, iteP_t, put_lt L j (by omega) (by omega), iteP_t]
      have hg : (hMd4 a whole L.length b v1 c (L.map aStr) d v0 e v2 j s0 ty).get 6 = some (.cells ((pL L j s0).map aStr)) := by
       rw [← pRow_pL, ← er]; rfl
      refine ⟨rfl, ⟨rfl, ⟨pL L j s0, 58, [44], whole, _, hg, by rw [hl, e1], rfl, h4, by omega⟩⟩, fun _ _ => ⟨⟨pL L j s0, hg, by rw [hl, e1], show (Lib.join (pL L j s0) [44]).length ≤ _ by omega, by omega⟩, fun x hx => ?_⟩⟩
      have hx := hx.is _ hg
      have hx : x = Lib.join (pL L j s0) [44] := hx
      subst hx
      rw [er, joinP_eq, ← e1]
      exact ⟨rfl, rfl⟩
    obtain ⟨n', v, h', g1, rfl, rfl⟩ := key
    refine ⟨_, List.mem_singleton.2 rfl, (), n', trivial, ?_⟩
    show callP (cf m) (evCall (cf m) Tryz.prog n') 25 _ h = some (intA 0, withRow h (pRow (rowAt h f) (j : Int).toNat s0) (joinC (pRow (rowAt h f) (j : Int).toNat s0)) (max (j : Int).toNat (lenF f)))
    rw [hsh.row.1, hsh.row.2.1, Int.toNat_natCast]
    exact g1
   | false =>
    rw [hb] at hs
    cases hs
    obtain ⟨L, hsh, h1, h2, h3, h4⟩ := hp
    obtain ⟨j, rfl⟩ : ∃ j : Nat, k = j := ⟨k.toNat, by omega⟩
    have h4 : (joinC (pRow (L.map aStr) (j : Int).toNat s0)).length ≤ 1000000 := h4
    rw [Int.toNat_natCast, joinP_eq] at h4
    have key : EvP (cf m) Tryz.prog 25 [.ptr 3 0, .sc (.int .i64 (j : Int)), aStr s0] h fun r h' => ((joinC (pRow (L.map aStr) j s0)).length ≤ 65536 ∧ r = intA 0 ∧ h' = withRow h (pRow (L.map aStr) j s0) (joinC (pRow (L.map aStr) j s0)) (max j L.length)) ∨
      (65536 < (joinC (pRow (L.map aStr) j s0)).length ∧ r = intA 3 ∧ h' = (h.new (.cells (pRow (L.map aStr) j s0))).2) := by
     refine EvP.direct (by kernel_rfl) (by kernel_rfl) ?_
     have hl : (pL L j s0).length = max j L.length := pL_len L j s0
     have e1 : (max (j : Int) (L.length : Int)).toNat = max j L.length := by omega
     cases hsh with
     | r9 a b c d d4 d5 r2 v1 v0 v2 v4 v5 ty whole L hne =>
      refine call_okW okTQ 40 25 _ _ _ (c25b m a b c d d4 d5 r2 v1 v0 v2 v4 v5 ty whole (L.map aStr) L.length j s0 _ ?_)
      have er := put_row L j s0 (by omega) (by omega)
      have hr : inRange (IntKind.i64.wrap ((j : Int) - 1)) (max (j : Int) (L.length : Int)).toNat = true := by rw [wrap_in (by omega) (by omega), inRange_iff]; omega
      rw [decide_eq_false (by omega), iteP_f, decide_eq_false (by omega), iteP_f, qmk (by omega) (by omega), iteP_t, qnz (by omega), iteP_f, List.length_map, Nat.ble_eq_true_of_le (by omega), iteP_t, put_fit, iteP_t, put_ne hne, iteP_f, hr, iteP_t, put_lt L j (by omega) (by omega), iteP_t]
      have hg : (hMe4 a whole L.length b v1 j (L.map aStr) s0 v5 d5 v0 c d v4 d4 v2 r2 ty).get 9 = some (.cells ((pL L j s0).map aStr)) := by
       rw [← pRow_pL, ← er]; rfl
      refine ⟨rfl, ⟨rfl, ⟨pL L j s0, 58, [44], whole, _, hg, by rw [hl, e1], rfl, h4, by omega⟩⟩, fun _ hF => ⟨⟨pL L j s0, hg, by rw [hl, e1], show (Lib.join (pL L j s0) [44]).length ≤ _ by omega, by omega⟩, fun x hx => .inl ?_⟩, fun _ hO => .inr ?_⟩
      ·have hx := hx.is _ hg
       have hx : x = Lib.join (pL L j s0) [44] := hx
       subst hx
       have hF := hF.is _ 58 [44] whole _ hg rfl
       rw [er, joinP_eq, ← e1]
       exact ⟨hF, rfl, rfl⟩
      ·have hO := hO.is _ 58 [44] whole _ hg rfl
       rw [joinP_eq]
       refine ⟨hO, rfl, ?_⟩
       rw [← er]; rfl
    obtain ⟨n', v, h', g1, ⟨g2, rfl, rfl⟩ | ⟨g2, rfl, rfl⟩⟩ := key
    ·refine ⟨_, List.mem_cons_self .., (), n', ⟨?_⟩, ?_⟩
     ·show (joinC (pRow (rowAt h f) (j : Int).toNat s0)).length ≤ 65536
      rw [hsh.row.1, Int.toNat_natCast]; exact g2
     ·show callP (cf m) (evCall (cf m) Tryz.prog n') 25 _ h = some (intA 0, withRow h (pRow (rowAt h f) (j : Int).toNat s0) (joinC (pRow (rowAt h f) (j : Int).toNat s0)) (max (j : Int).toNat (lenF f)))
      rw [hsh.row.1, hsh.row.2.1, Int.toNat_natCast]
      exact g1
    ·refine ⟨_, List.mem_cons_of_mem _ (List.mem_cons_self ..), (), n', ⟨?_⟩, ?_⟩
     ·show 65536 < (joinC (pRow (rowAt h f) (j : Int).toNat s0)).length
      rw [hsh.row.1, Int.toNat_natCast]; exact g2
     ·show callP (cf m) (evCall (cf m) Tryz.prog n') 25 _ h = some (intA 3, (h.new (.cells (pRow (rowAt h f) (j : Int).toNat s0))).2)
      rw [hsh.row.1, Int.toNat_natCast]
      exact g1
  ·cases hs
 ·cases hs
theorem evIs_ok {g : FuncId} {args : List AV} {v : AV} (hf : (cf m).fresh g = true) (hp : (cf m).prim g = none) (hv : evIs m g args v = true) (h : Heap) : callP (cf m) (evCall (cf m) Tryz.prog 1000) g args h = some (v, h) := by
 unfold evIs at hv
 unfold callP at hv ⊢
 rw [hp] at hv ⊢
 simp only [] at hv ⊢
 rw [hf] at hv ⊢
 simp only [cond_true] at hv ⊢
 cases ha : mapO (stripA 8) args with
 | none => rw [ha] at hv; cases hv
 | some args' =>
  rw [ha] at hv
  simp only [] at hv ⊢
  cases hr : evCall (cf m) Tryz.prog 1000 g args' heapF with
  | none => rw [hr] at hv; cases hv
  | some r =>
   obtain ⟨r, h'⟩ := r
   rw [hr] at hv
   simp only [] at hv ⊢
   cases hs : strip 8 h' r with
   | none => rw [hs] at hv; cases hv
   | some r' =>
    rw [hs] at hv
    simp only [] at hv ⊢
    rw [eqA_spec _ _ _ hv]
theorem ev50a (m : Int) : evIs m 50 [aStr []] (txtV []) = true := by kernel_rfl
theorem ev50b (m : Int) : evIs m 50 [aStr [97]] (txtV [97]) = true := by kernel_rfl
theorem ok50s (O : Ok m T) : Ok m (T.addC 50 C50s) := by
 refine addC_ok O fun args h s hs hp => ?_
 unfold C50s at hs
 split at hs
 ·rename_i s0
  obtain ⟨⟨s0⟩⟩ := s0
  cases hs
  obtain ⟨hp⟩ := hp
  have hp : s0 = [] ∨ s0 = [97] := hp
  refine ⟨_, List.mem_singleton.2 rfl, (), 1000, trivial, ?_⟩
  rcases hp with rfl | rfl
  ·exact evIs_ok (by kernel_rfl) (by kernel_rfl) (ev50a m) h
  ·exact evIs_ok (by kernel_rfl) (by kernel_rfl) (ev50b m) h
 ·cases hs
theorem ok27s (O : Ok m T) : Ok m (T.addC 27 C27s) := by
 refine addC_ok O fun args h s hs hp => ?_
 unfold C27s at hs
 split at hs
 ·rename_i i
  cases hs
  obtain ⟨c, out, whole, id, L, x, hg, g, h1, h2, hx, h3⟩ := hp
  have hlt : (i - 1).toNat < L.length := by
   rcases Nat.lt_or_ge (i - 1).toNat L.length with h | h
   ·exact h
   ·rw [List.getElem?_eq_none h] at hx; cases hx
  have hne : L ≠ [] := by intro e; subst e; exact absurd hlt (by simp)
  have hR : IsRec h L := ⟨c, out, whole, _, hg, .row id L hne g⟩
  have hget : IsGet h i x := ⟨fun M hM => by rw [hM.uniq hR]; exact hx⟩
  have hw : IntKind.i64.wrap (i - 1) = i - 1 := wrap_in (by omega) (by omega)
  have key : EvP (cf m) Tryz.prog 27 [.ptr 3 0, .sc (.int .i64 i)] h fun r h' => r = .tup [txtV x, intA 0] ∧ h' = h := by
   refine EvP.direct (by kernel_rfl) (by kernel_rfl) ?_
   have okS : Ok m T27s := ok50s ⟨fun _ _ _ _ _ ht => (by cases ht), fun _ _ _ _ _ ht => (by cases ht)⟩
   obtain ⟨k, a, b, r1, r0, v1, v0, ro, ty, rfl⟩ := hG_of hg
   refine call_okW okS 40 27 _ _ _ (c27e m k a b r1 r0 v1 v0 ro ty c out whole id L.length i _ ?_)
   rw [decide_eq_false (by omega), iteP_f, decide_eq_false (by omega), iteP_f, show (i == 0) = false by simp; omega, iteP_f, decide_eq_false (by omega), iteP_f, hw, show inRange (i - 1) L.length = true by rw [inRange_iff]; omega, iteP_t]
   have hc : (L.map aStr)[(i - 1).toNat]? = some (aStr x) := by rw [List.getElem?_map, hx]; rfl
   have e1 : strIn (hG k a b r1 r0 v1 v0 ro ty (recC c out whole (.rsl id 0 L.length 1))) id (0 + (i - 1).toNat * 1) = x := by
    unfold strIn
    rw [g]; simp only []; rw [Nat.zero_add, Nat.mul_one, hc]; rfl
   have e2 : hasStr (hG k a b r1 r0 v1 v0 ro ty (recC c out whole (.rsl id 0 L.length 1))) id (0 + (i - 1).toNat * 1) = true := by
    unfold hasStr
    rw [g]; simp only []; rw [Nat.zero_add, Nat.mul_one, hc]; rfl
   refine iteP_intro (fun _ => ?_) (fun hq => absurd (e2.symm.trans hq) (by simp))
   refine ⟨?_, fun _ _ => ⟨?_, rfl⟩⟩
   ·exact (congrArg Easy e1).symm ▸ h3
   ·exact congrArg (fun x => AV.tup [txtV x, intA 0]) e1
  obtain ⟨n, v, h', g1, rfl, rfl⟩ := key
  exact ⟨_, List.mem_singleton.2 rfl, x, n, hget, g1⟩
 ·cases hs
theorem okTBs : Ok m TBs := name_ok (name_ok (ok7b (ok7a (ok27s (ok25 (ok24 (ok48a (ok22 (Rc.ok20 okLy)))))))) 7 121) 7 142
theorem okTCs : Ok m TCs := name_ok (name_ok (ok7b (ok7a (ok27s (ok25 (ok24 (ok48c (ok22 (Rc.ok20 okLy)))))))) 7 121) 7 142
theorem okTB : Ok m TB := name_ok (name_ok (ok7bz (ok7a (ok27s (ok25 (ok24 (ok48a (ok22 (Rc.ok20 okLy)))))))) 7 121) 7 142
theorem okTC : Ok m TC := name_ok (name_ok (ok7bz (ok7a (ok27s (ok25 (ok24 (ok48c (ok22 (Rc.ok20 okLy)))))))) 7 121) 7 142
end
end Go.Proofs.Rd
namespace Go.Proofs.Rd
open Go Go.Ef
noncomputable section
set_option maxRecDepth 100000
theorem ShZ.of {a b c d e d4 : Tr AObj} {v1 v0 v2 v4 : Option AObj} {ty : Tr (Nat × Nat)} {whole : List UInt8} {row : List AV} {w : Nat} (L : List (List UInt8)) (hr : row = L.map aStr) (hw : w = L.length) (hne : L ≠ []) :
  ShZ (hS8 a b c d e d4 v1 v0 v2 v4 ty row (recC 58 [44] whole (.rsl 6 0 w 1))) (.rsl 6 0 w 1) L := by
 subst hr hw; exact .r8 _ _ _ _ _ _ _ _ _ _ _ _ _ hne
theorem ShP.of {a b c d e : Tr AObj} {v1 v0 v2 : Option AObj} {ty : Tr (Nat × Nat)} {whole : List UInt8} {row : List AV} {w : Nat} (L : List (List UInt8)) (hr : row = L.map aStr) (hw : w = L.length) (hne : L ≠ []) :
  ShP (hS6 a b c d e v1 v0 v2 ty row (recC 58 [44] whole (.rsl 5 0 w 1))) (.rsl 5 0 w 1) L := by
 subst hr hw; exact .r6 _ _ _ _ _ _ _ _ _ _ _ hne
theorem ShQ.of {a b c d d4 d5 r2 : Tr AObj} {v1 v0 v2 v4 v5 : Option AObj} {ty : Tr (Nat × Nat)} {whole : List UInt8} {row : List AV} {w : Nat} (L : List (List UInt8)) (hr : row = L.map aStr) (hw : w = L.length) (hne : L ≠ []) :
  ShQ (hS9 a b c d d4 d5 r2 v1 v0 v2 v4 v5 ty row (recC 58 [44] whole (.rsl 8 0 w 1))) (.rsl 8 0 w 1) L := by
 subst hr hw; exact .r9 _ _ _ _ _ _ _ _ _ _ _ _ _ _ _ hne
theorem two_lB {n : Nat} (h : 1 ≤ n) : ∃ x y : List UInt8, x.length ≤ 1 ∧ Easy y ∧ y.length ≤ 1 ∧ zL (lA n) 2 = [x, y] := by
 match n, h with
 | 1, _ => exact ⟨[97], [], by decide, ⟨.inl rfl⟩, by decide, rfl⟩
 | 2, _ => exact ⟨[], [97], by decide, ⟨.inr rfl⟩, by decide, rfl⟩
 | n + 3, _ =>
  refine ⟨[], [], by decide, ⟨.inl rfl⟩, by decide, ?_⟩
  unfold zL
  rw [lA_len, show 2 - (n + 3) = 0 by omega, List.replicate_zero, List.append_nil]
  unfold lA
  rw [List.take_set_of_le (by omega), List.take_replicate, show min 2 (n + 3) = 2 by omega]; rfl
theorem rep_ne {n : Nat} (h : 1 ≤ n) : List.replicate n ([] : List UInt8) ≠ [] := by
 intro e
 have := congrArg List.length e
 rw [List.length_replicate, List.length_nil] at this; omega
theorem lA_ne {n : Nat} (h : 1 ≤ n) : lA n ≠ [] := by
 intro e
 have := congrArg List.length e
 rw [lA_len, List.length_nil] at this; omega
theorem row1 (n : Nat) : zRow (rowS ((List.replicate (n + 1) ([] : List UInt8)).map strEl)) n = (List.replicate n []).map aStr := by rw [rowS_map, zRow_parts]
theorem row1n (n : Nat) : zRow [] n = (List.replicate n ([] : List UInt8)).map aStr := zRow_nil n
theorem join1 {n : Nat} (h : n ≤ 1024) : (joinC ((List.replicate n ([] : List UInt8)).map aStr)).length ≤ 65536 := by
 rw [joinC_map]
 have := join_small (L := List.replicate n ([] : List UInt8)) (n := 1024) (by rw [List.length_replicate]; exact h) (fun x hx => by rw [List.eq_of_mem_replicate hx]; exact Nat.zero_le _)
 omega
theorem join2 {n : Nat} (h : n ≤ 1024) : (joinC ((lA n).map aStr)).length ≤ 65536 := by
 rw [joinC_map]
 have := join_small (L := lA n) (n := 1024) (by rw [lA_len]; exact h) lA_mem
 omega
theorem q1s {x : Int} (h0 : 0 ≤ x) (h1 : x ≤ 100000) : (decide ((0 : Int) ≤ x) && decide (x ≤ x) && decide (x ≤ 140737488355328) && (x.toNat * 1).ble 140737488355328) = true := by
 rw [decide_eq_true h0, decide_eq_true (by omega), decide_eq_true (by omega), Nat.ble_eq_true_of_le (by omega)]; rfl
set_option maxHeartbeats 2000000 in
theorem law7B (m : Int) (j k : Nat) (h1 : 1 ≤ j) (h2 : j ≤ 1023) (hk : 1 ≤ k) (hk2 : k ≤ 70000) : ∃ n h, evCall (cf m) Tryz.prog n 7 [.sc (.int .i64 (j : Int)), .sc (.int .i64 (k : Int))] heap0 = some (aBool true, h) := by
 have key := call_okW (okTBs (m := m)) 60 7 [.sc (.int .i64 (j : Int)), .sc (.int .i64 (k : Int))] heap0 (fun r _ => r = aBool true) (c7B m j k (fun r => r = aBool true) ?_)
 ·obtain ⟨n, r, h', h1, rfl⟩ := key
  exact ⟨n, h', h1⟩
 rw [decide_eq_false (by omega), iteP_f, decide_eq_false (by omega), iteP_f, decide_eq_false (by omega), iteP_f, decide_eq_false (by omega), iteP_f]
 refine ⟨trivial, fun _ _ => ?_⟩
 rw [q1s (by omega) (by omega), iteP_t, qnz (by omega), iteP_f]
 refine ⟨rfl, ⟨rfl, ⟨rfl, show j ≤ 70000 by omega, rfl, rfl⟩⟩, fun _ _ => ?_⟩
 have e4 : List.map u8B (cutC (List.replicate (j : Int).toNat (AV.sc (Value.int IntKind.u8 58))) 0 (j : Int).toNat) = List.replicate j 58 := row58 j 58
 have e5 : List.map u8B (cutC (List.replicate (k : Int).toNat (AV.sc (Value.int IntKind.u8 120))) 0 (k : Int).toNat) = List.replicate k 120 := row58 k 120
 rw [decide_eq_false (by omega), iteP_f, show endCells (0 + (j : Int).toNat) (List.replicate (j : Int).toNat (AV.sc (Value.int IntKind.u8 58))) = true from end58 j 58, iteP_t, e4, List.length_replicate, decide_eq_false (by omega), iteP_f]
 refine ⟨⟨58, rfl, ⟨?_, by decide, by rw [parts58]; omega, by rw [List.length_replicate]; omega⟩⟩, fun L hL => ?_⟩
 ·intro e
  have := congrArg List.length e
  rw [List.length_replicate, List.length_nil] at this; omega
 have hL := hL.is 58 rfl
 rw [parts58_eq] at hL
 subst hL
 obtain ⟨x, y, hx, hy, hy1, hxy⟩ := two_lB h1
 have r1 : zRow (rowS ((List.replicate (j + 1) ([] : List UInt8)).map strEl)) (j : Int).toNat = (List.replicate j []).map aStr := row1 j
 have r2 : pRow (zRow (rowS ((List.replicate (j + 1) ([] : List UInt8)).map strEl)) (j : Int).toNat) (j : Int).toNat [97] = (lA j).map aStr := by rw [r1]; exact pRow_lA j
 have r3 : zRow (pRow (zRow (rowS ((List.replicate (j + 1) ([] : List UInt8)).map strEl)) (j : Int).toNat) (j : Int).toNat [97]) 2 = [x, y].map aStr := by rw [r2, zRow_map, hxy]
 have r4 : pRow (zRow (pRow (zRow (rowS ((List.replicate (j + 1) ([] : List UInt8)).map strEl)) (j : Int).toNat) (j : Int).toNat [97]) 2) 1 (List.replicate k 120) = [List.replicate k 120, y].map aStr := by rw [r3]; exact put_two _ _ _
 have j4 : (joinC ([List.replicate k 120, y].map aStr)).length = k + 1 + y.length := by rw [joinC_map, join_two, List.length_replicate]
 have j3 : (joinC ([x, y].map aStr)).length = x.length + 1 + y.length := by rw [joinC_map, join_two]
 refine ⟨⟨List.replicate (j + 1) [], .s5 _ _ _ _ _ _ _ _ (rep_ne (by omega)), by omega, by omega, by rw [List.length_replicate]; omega, ?_⟩, fun _ _ => ⟨⟨List.replicate j [], .of _ r1 (by simp) (rep_ne h1), by omega, by omega, by rw [List.length_replicate]; omega, ?_⟩, fun _ _ => ?_⟩⟩
 ·rw [Int.toNat_natCast, zRow_parts]; exact join1 (by omega)
 ·show (joinC (pRow _ (j : Int).toNat [97])).length ≤ 65536
  rw [Int.toNat_natCast, pRow_lA]; exact join2 (by omega)
 rw [decide_eq_false (by omega), iteP_f, decide_eq_true (by omega), iteP_t, show (((max (j : Int).toNat (j : Int).toNat : Nat) : Int) != (j : Int)) = false by simp, iteP_f, q1s (by omega) (by omega), iteP_t, qnz (by omega), iteP_f]
 refine ⟨rfl, ⟨rfl, ⟨rfl, hk2, rfl, rfl⟩⟩, fun _ _ => ⟨⟨lA j, .of _ r2 (by rw [lA_len]; simp) (lA_ne h1), by omega, by omega, by rw [lA_len]; omega, ?_⟩, fun _ _ => ?_⟩⟩
 ·show (joinC (zRow ((lA j).map aStr) 2)).length ≤ 65536
  rw [zRow_map, hxy, j3]; omega
 rw [show endCells (0 + (k : Int).toNat) (List.replicate (k : Int).toNat (AV.sc (Value.int IntKind.u8 120))) = true from end58 k 120, iteP_t]
 have r5 := (congrArg (pRow (zRow (pRow (zRow (rowS ((List.replicate (j + 1) ([] : List UInt8)).map strEl)) (j : Int).toNat) (j : Int).toNat [97]) 2) 1) e5).trans r4
 refine ⟨⟨[x, y], .of _ r3 rfl (by simp), by omega, by omega, by simp, ?_⟩, fun _ hF => ?_, fun _ hO => ?_⟩
 ·show (joinC (pRow ([x, y].map aStr) 1 _)).length ≤ 1000000
  rw [e5, put_two, j4]; omega
 ·have hF := hF.le
  rw [r5, j4] at hF
  have hg : (hNa24 (k : Int) (List.replicate (j + 1) []) (j : Int)).get 9 = some (.cells ([List.replicate k 120, y].map aStr)) := congrArg (fun c => some (AObj.cells c)) r5
  have hR : IsRec (hNa24 (k : Int) (List.replicate (j + 1) []) (j : Int)) [List.replicate k 120, y] := ⟨58, [44], _, _, rfl, .row 9 _ (by simp) hg⟩
  refine ⟨⟨58, [44], _, 9, [List.replicate k 120, y], y, rfl, hg, by omega, by omega, rfl, hy⟩, fun z hz n1 hn1 => ?_⟩
  have hz := hz.is _ hR
  have hz : y = z := by simpa using hz
  subst hz
  rw [wrap_in (x := (k : Int) + 1) (by omega) (by omega), wrap_in (by omega) (by omega)] at hn1
  rw [decide_eq_true (by omega), iteP_t]
  intro n2 hn2
  rw [r5, j4] at hn2
  rw [decide_eq_true (by omega), iteP_t]
  exact ⟨trivial, fun _ _ => rfl⟩
 ·have hO := hO.gt
  rw [r5, j4] at hO
  have hg : (hNa25 (k : Int) (List.replicate (j + 1) []) (j : Int)).get 8 = some (.cells ([x, y].map aStr)) := congrArg (fun c => some (AObj.cells c)) r3
  have hR : IsRec (hNa25 (k : Int) (List.replicate (j + 1) []) (j : Int)) [x, y] := ⟨58, [44], _, _, rfl, .row 8 _ (by simp) hg⟩
  refine ⟨⟨58, [44], _, 8, [x, y], y, rfl, hg, by omega, by omega, rfl, hy⟩, fun z hz n1 hn1 => ?_⟩
  have hz := hz.is _ hR
  have hz : y = z := by simpa using hz
  subst hz
  rw [wrap_in (x := (k : Int) + 1) (by omega) (by omega), wrap_in (by omega) (by omega)] at hn1
  rw [decide_eq_false (by omega), iteP_f]
  intro n2 hn2
  rw [r3, j3] at hn2
  rw [decide_eq_true (by omega), iteP_t]
  exact ⟨trivial, fun _ _ => rfl⟩
set_option maxHeartbeats 2000000 in
theorem law7B0 (m : Int) (j : Nat) (h1 : 1 ≤ j) (h2 : j ≤ 1023) : ∃ n h, evCall (cf m) Tryz.prog n 7 [.sc (.int .i64 (j : Int)), .sc (.int .i64 0)] heap0 = some (aBool true, h) := by
 have key := call_okW (okTB (m := m)) 60 7 [.sc (.int .i64 (j : Int)), .sc (.int .i64 0)] heap0 (fun r _ => r = aBool true) (c7B0 m j (fun r => r = aBool true) ?_)
 ·obtain ⟨n, r, h', h1, rfl⟩ := key
  exact ⟨n, h', h1⟩
 rw [decide_eq_false (by omega), iteP_f, decide_eq_false (by omega), iteP_f]
 refine ⟨trivial, fun _ _ => ?_⟩
 rw [q1s (by omega) (by omega), iteP_t, qnz (by omega), iteP_f]
 refine ⟨rfl, ⟨rfl, ⟨rfl, show j ≤ 70000 by omega, rfl, rfl⟩⟩, fun _ _ => ?_⟩
 have e4 : List.map u8B (cutC (List.replicate (j : Int).toNat (AV.sc (Value.int IntKind.u8 58))) 0 (j : Int).toNat) = List.replicate j 58 := row58 j 58
 have e5 : List.map byteD ([] : List (List AV)) = [] := rfl
 rw [decide_eq_false (by omega), iteP_f, show endCells (0 + (j : Int).toNat) (List.replicate (j : Int).toNat (AV.sc (Value.int IntKind.u8 58))) = true from end58 j 58, iteP_t, e4, List.length_replicate, decide_eq_false (by omega), iteP_f]
 refine ⟨⟨58, rfl, ⟨?_, by decide, by rw [parts58]; omega, by rw [List.length_replicate]; omega⟩⟩, fun L hL => ?_⟩
 ·intro e
  have := congrArg List.length e
  rw [List.length_replicate, List.length_nil] at this; omega
 have hL := hL.is 58 rfl
 rw [parts58_eq] at hL
 subst hL
 obtain ⟨x, y, hx, hy, hy1, hxy⟩ := two_lB h1
 have r1 : zRow (rowS ((List.replicate (j + 1) ([] : List UInt8)).map strEl)) (j : Int).toNat = (List.replicate j []).map aStr := row1 j
 have r2 : pRow (zRow (rowS ((List.replicate (j + 1) ([] : List UInt8)).map strEl)) (j : Int).toNat) (j : Int).toNat [97] = (lA j).map aStr := by rw [r1]; exact pRow_lA j
 have r3 : zRow (pRow (zRow (rowS ((List.replicate (j + 1) ([] : List UInt8)).map strEl)) (j : Int).toNat) (j : Int).toNat [97]) 2 = [x, y].map aStr := by rw [r2, zRow_map, hxy]
 have r4 : pRow (zRow (pRow (zRow (rowS ((List.replicate (j + 1) ([] : List UInt8)).map strEl)) (j : Int).toNat) (j : Int).toNat [97]) 2) 1 (([] : List UInt8)) = [([] : List UInt8), y].map aStr := by rw [r3]; exact put_two _ _ _
 have j4 : (joinC ([([] : List UInt8), y].map aStr)).length = 0 + 1 + y.length := by rw [joinC_map, join_two]; rfl
 have j3 : (joinC ([x, y].map aStr)).length = x.length + 1 + y.length := by rw [joinC_map, join_two]
 refine ⟨⟨List.replicate (j + 1) [], .s5 _ _ _ _ _ _ _ _ (rep_ne (by omega)), by omega, by omega, by rw [List.length_replicate]; omega, ?_⟩, fun _ _ => ⟨⟨List.replicate j [], .of _ r1 (by simp) (rep_ne h1), by omega, by omega, by rw [List.length_replicate]; omega, ?_⟩, fun _ _ => ?_⟩⟩
 ·rw [Int.toNat_natCast, zRow_parts]; exact join1 (by omega)
 ·show (joinC (pRow _ (j : Int).toNat [97])).length ≤ 65536
  rw [Int.toNat_natCast, pRow_lA]; exact join2 (by omega)
 rw [decide_eq_false (by omega), iteP_f, decide_eq_true (by omega), iteP_t, show (((max (j : Int).toNat (j : Int).toNat : Nat) : Int) != (j : Int)) = false by simp, iteP_f]
 refine ⟨rfl, ⟨rfl, rfl⟩, fun _ _ => ⟨⟨lA j, .of _ r2 (by rw [lA_len]; simp) (lA_ne h1), by omega, by omega, by rw [lA_len]; omega, ?_⟩, fun _ _ => ?_⟩⟩
 ·show (joinC (zRow ((lA j).map aStr) 2)).length ≤ 65536
  rw [zRow_map, hxy, j3]; omega
 have r5 := (congrArg (pRow (zRow (pRow (zRow (rowS ((List.replicate (j + 1) ([] : List UInt8)).map strEl)) (j : Int).toNat) (j : Int).toNat [97]) 2) 1) e5).trans r4
 refine ⟨⟨[x, y], .of _ r3 rfl (by simp), by omega, by omega, by simp, ?_⟩, fun _ hF => ?_, fun _ hO => ?_⟩
 ·show (joinC (pRow ([x, y].map aStr) 1 _)).length ≤ 1000000
  rw [e5, put_two, j4]; omega
 ·have hF := hF.le
  rw [r5, j4] at hF
  have hg : (hOa24 (List.replicate (j + 1) []) (j : Int)).get 9 = some (.cells ([([] : List UInt8), y].map aStr)) := congrArg (fun c => some (AObj.cells c)) r5
  have hR : IsRec (hOa24 (List.replicate (j + 1) []) (j : Int)) [([] : List UInt8), y] := ⟨58, [44], _, _, rfl, .row 9 _ (by simp) hg⟩
  refine ⟨⟨58, [44], _, 9, [([] : List UInt8), y], y, rfl, hg, by omega, by omega, rfl, hy⟩, fun z hz n1 hn1 => ?_⟩
  have hz := hz.is _ hR
  have hz : y = z := by simpa using hz
  subst hz
  rw [wrap_in (x := (0 : Int) + 1) (by omega) (by omega), wrap_in (by omega) (by omega)] at hn1
  rw [decide_eq_true (by omega), iteP_t]
  intro n2 hn2
  rw [r5, j4] at hn2
  rw [decide_eq_true (by omega), iteP_t]
  exact ⟨trivial, fun _ _ => rfl⟩
 ·have hO := hO.gt
  rw [r5, j4] at hO
  have hg : (hOa25 (List.replicate (j + 1) []) (j : Int)).get 8 = some (.cells ([x, y].map aStr)) := congrArg (fun c => some (AObj.cells c)) r3
  have hR : IsRec (hOa25 (List.replicate (j + 1) []) (j : Int)) [x, y] := ⟨58, [44], _, _, rfl, .row 8 _ (by simp) hg⟩
  refine ⟨⟨58, [44], _, 8, [x, y], y, rfl, hg, by omega, by omega, rfl, hy⟩, fun z hz n1 hn1 => ?_⟩
  have hz := hz.is _ hR
  have hz : y = z := by simpa using hz
  subst hz
  rw [wrap_in (x := (0 : Int) + 1) (by omega) (by omega), wrap_in (by omega) (by omega)] at hn1
  rw [decide_eq_false (by omega), iteP_f]
  intro n2 hn2
  rw [r3, j3] at hn2
  rw [decide_eq_true (by omega), iteP_t]
  exact ⟨trivial, fun _ _ => rfl⟩
end
end Go.Proofs.Rd
namespace Go.Proofs.Rd
open Go Go.Ef
noncomputable section
set_option maxRecDepth 100000
set_option maxHeartbeats 2000000 in
theorem law7C (m : Int) (j k : Nat) (h0 : j = 1024) (hk : 1 ≤ k) (hk2 : k ≤ 70000) : ∃ n h, evCall (cf m) Tryz.prog n 7 [.sc (.int .i64 (j : Int)), .sc (.int .i64 (k : Int))] heap0 = some (aBool true, h) := by
 have key := call_okW (okTCs (m := m)) 60 7 [.sc (.int .i64 (j : Int)), .sc (.int .i64 (k : Int))] heap0 (fun r _ => r = aBool true) (c7C m j k (fun r => r = aBool true) ?_)
 ·obtain ⟨n, r, h', h1, rfl⟩ := key
  exact ⟨n, h', h1⟩
 rw [decide_eq_false (by omega), iteP_f, decide_eq_false (by omega), iteP_f, decide_eq_false (by omega), iteP_f, decide_eq_false (by omega), iteP_f]
 refine ⟨trivial, fun _ _ => ?_⟩
 rw [q1s (by omega) (by omega), iteP_t, qnz (by omega), iteP_f]
 refine ⟨rfl, ⟨rfl, ⟨rfl, show j ≤ 70000 by omega, rfl, rfl⟩⟩, fun _ _ => ?_⟩
 have e4 : List.map u8B (cutC (List.replicate (j : Int).toNat (AV.sc (Value.int IntKind.u8 58))) 0 (j : Int).toNat) = List.replicate j 58 := row58 j 58
 have e5 : List.map u8B (cutC (List.replicate (k : Int).toNat (AV.sc (Value.int IntKind.u8 120))) 0 (k : Int).toNat) = List.replicate k 120 := row58 k 120
 have h1 : 1 ≤ j := by omega
 rw [decide_eq_true (by omega), iteP_t, show endCells (0 + (j : Int).toNat) (List.replicate (j : Int).toNat (AV.sc (Value.int IntKind.u8 58))) = true from end58 j 58, iteP_t, e4, List.length_replicate, decide_eq_false (by omega), iteP_f]
 refine ⟨⟨58, rfl, ?_, by decide, by rw [parts58]; omega, by rw [List.length_replicate]; omega⟩, fun _ _ => ?_⟩
 ·intro e
  have := congrArg List.length e
  rw [List.length_replicate, List.length_nil] at this; omega
 obtain ⟨x, y, hx, hy, hy1, hxy⟩ := two_lB h1
 have r1 : zRow [] (j : Int).toNat = (List.replicate j []).map aStr := row1n j
 have r2 : pRow (zRow [] (j : Int).toNat) (j : Int).toNat [97] = (lA j).map aStr := by rw [r1]; exact pRow_lA j
 have r3 : zRow (pRow (zRow [] (j : Int).toNat) (j : Int).toNat [97]) 2 = [x, y].map aStr := by rw [r2, zRow_map, hxy]
 have r4 : pRow (zRow (pRow (zRow [] (j : Int).toNat) (j : Int).toNat [97]) 2) 1 (List.replicate k 120) = [List.replicate k 120, y].map aStr := by rw [r3]; exact put_two _ _ _
 have j4 : (joinC ([List.replicate k 120, y].map aStr)).length = k + 1 + y.length := by rw [joinC_map, join_two, List.length_replicate]
 have j3 : (joinC ([x, y].map aStr)).length = x.length + 1 + y.length := by rw [joinC_map, join_two]
 refine ⟨⟨[], .n5 _ _ _ _ _ _ _, by omega, by omega, by simp, ?_⟩, fun _ _ => ⟨⟨List.replicate j [], .of _ r1 (by simp) (rep_ne h1), by omega, by omega, by rw [List.length_replicate]; omega, ?_⟩, fun _ _ => ?_⟩⟩
 ·show (joinC (zRow [] (j : Int).toNat)).length ≤ 65536
  rw [r1]; exact join1 (by omega)
 ·show (joinC (pRow _ (j : Int).toNat [97])).length ≤ 65536
  rw [Int.toNat_natCast, pRow_lA]; exact join2 (by omega)
 rw [decide_eq_false (by omega), iteP_f, decide_eq_true (by omega), iteP_t, show (((max (j : Int).toNat (j : Int).toNat : Nat) : Int) != (j : Int)) = false by simp, iteP_f, q1s (by omega) (by omega), iteP_t, qnz (by omega), iteP_f]
 refine ⟨rfl, ⟨rfl, ⟨rfl, hk2, rfl, rfl⟩⟩, fun _ _ => ⟨⟨lA j, .of _ r2 (by rw [lA_len]; simp) (lA_ne h1), by omega, by omega, by rw [lA_len]; omega, ?_⟩, fun _ _ => ?_⟩⟩
 ·show (joinC (zRow ((lA j).map aStr) 2)).length ≤ 65536
  rw [zRow_map, hxy, j3]; omega
 rw [show endCells (0 + (k : Int).toNat) (List.replicate (k : Int).toNat (AV.sc (Value.int IntKind.u8 120))) = true from end58 k 120, iteP_t]
 have r5 := (congrArg (pRow (zRow (pRow (zRow [] (j : Int).toNat) (j : Int).toNat [97]) 2) 1) e5).trans r4
 refine ⟨⟨[x, y], .of _ r3 rfl (by simp), by omega, by omega, by simp, ?_⟩, fun _ hF => ?_, fun _ hO => ?_⟩
 ·show (joinC (pRow ([x, y].map aStr) 1 _)).length ≤ 1000000
  rw [e5, put_two, j4]; omega
 ·have hF := hF.le
  rw [r5, j4] at hF
  have hg : (hPa14 (k : Int) (j : Int)).get 9 = some (.cells ([List.replicate k 120, y].map aStr)) := congrArg (fun c => some (AObj.cells c)) r5
  have hR : IsRec (hPa14 (k : Int) (j : Int)) [List.replicate k 120, y] := ⟨58, [44], _, _, rfl, .row 9 _ (by simp) hg⟩
  refine ⟨⟨58, [44], _, 9, [List.replicate k 120, y], y, rfl, hg, by omega, by omega, rfl, hy⟩, fun z hz n1 hn1 => ?_⟩
  have hz := hz.is _ hR
  have hz : y = z := by simpa using hz
  subst hz
  rw [wrap_in (x := (k : Int) + 1) (by omega) (by omega), wrap_in (by omega) (by omega)] at hn1
  rw [decide_eq_true (by omega), iteP_t]
  intro n2 hn2
  rw [r5, j4] at hn2
  rw [decide_eq_true (by omega), iteP_t]
  exact ⟨trivial, fun _ _ => rfl⟩
 ·have hO := hO.gt
  rw [r5, j4] at hO
  have hg : (hPa15 (k : Int) (j : Int)).get 8 = some (.cells ([x, y].map aStr)) := congrArg (fun c => some (AObj.cells c)) r3
  have hR : IsRec (hPa15 (k : Int) (j : Int)) [x, y] := ⟨58, [44], _, _, rfl, .row 8 _ (by simp) hg⟩
  refine ⟨⟨58, [44], _, 8, [x, y], y, rfl, hg, by omega, by omega, rfl, hy⟩, fun z hz n1 hn1 => ?_⟩
  have hz := hz.is _ hR
  have hz : y = z := by simpa using hz
  subst hz
  rw [wrap_in (x := (k : Int) + 1) (by omega) (by omega), wrap_in (by omega) (by omega)] at hn1
  rw [decide_eq_false (by omega), iteP_f]
  intro n2 hn2
  rw [r3, j3] at hn2
  rw [decide_eq_true (by omega), iteP_t]
  exact ⟨trivial, fun _ _ => rfl⟩
set_option maxHeartbeats 2000000 in
theorem law7C0 (m : Int) (j : Nat) (h0 : j = 1024) : ∃ n h, evCall (cf m) Tryz.prog n 7 [.sc (.int .i64 (j : Int)), .sc (.int .i64 0)] heap0 = some (aBool true, h) := by
 have key := call_okW (okTC (m := m)) 60 7 [.sc (.int .i64 (j : Int)), .sc (.int .i64 0)] heap0 (fun r _ => r = aBool true) (c7C0 m j (fun r => r = aBool true) ?_)
 ·obtain ⟨n, r, h', h1, rfl⟩ := key
  exact ⟨n, h', h1⟩
 rw [decide_eq_false (by omega), iteP_f, decide_eq_false (by omega), iteP_f]
 refine ⟨trivial, fun _ _ => ?_⟩
 rw [q1s (by omega) (by omega), iteP_t, qnz (by omega), iteP_f]
 refine ⟨rfl, ⟨rfl, ⟨rfl, show j ≤ 70000 by omega, rfl, rfl⟩⟩, fun _ _ => ?_⟩
 have e4 : List.map u8B (cutC (List.replicate (j : Int).toNat (AV.sc (Value.int IntKind.u8 58))) 0 (j : Int).toNat) = List.replicate j 58 := row58 j 58
 have e5 : List.map byteD ([] : List (List AV)) = [] := rfl
 have h1 : 1 ≤ j := by omega
 rw [decide_eq_true (by omega), iteP_t, show endCells (0 + (j : Int).toNat) (List.replicate (j : Int).toNat (AV.sc (Value.int IntKind.u8 58))) = true from end58 j 58, iteP_t, e4, List.length_replicate, decide_eq_false (by omega), iteP_f]
 refine ⟨⟨58, rfl, ?_, by decide, by rw [parts58]; omega, by rw [List.length_replicate]; omega⟩, fun _ _ => ?_⟩
 ·intro e
  have := congrArg List.length e
  rw [List.length_replicate, List.length_nil] at this; omega
 obtain ⟨x, y, hx, hy, hy1, hxy⟩ := two_lB h1
 have r1 : zRow [] (j : Int).toNat = (List.replicate j []).map aStr := row1n j
 have r2 : pRow (zRow [] (j : Int).toNat) (j : Int).toNat [97] = (lA j).map aStr := by rw [r1]; exact pRow_lA j
 have r3 : zRow (pRow (zRow [] (j : Int).toNat) (j : Int).toNat [97]) 2 = [x, y].map aStr := by rw [r2, zRow_map, hxy]
 have r4 : pRow (zRow (pRow (zRow [] (j : Int).toNat) (j : Int).toNat [97]) 2) 1 (([] : List UInt8)) = [([] : List UInt8), y].map aStr := by rw [r3]; exact put_two _ _ _
 have j4 : (joinC ([([] : List UInt8), y].map aStr)).length = 0 + 1 + y.length := by rw [joinC_map, join_two]; rfl
 have j3 : (joinC ([x, y].map aStr)).length = x.length + 1 + y.length := by rw [joinC_map, join_two]
 refine ⟨⟨[], .n5 _ _ _ _ _ _ _, by omega, by omega, by simp, ?_⟩, fun _ _ => ⟨⟨List.replicate j [], .of _ r1 (by simp) (rep_ne h1), by omega, by omega, by rw [List.length_replicate]; omega, ?_⟩, fun _ _ => ?_⟩⟩
 ·show (joinC (zRow [] (j : Int).toNat)).length ≤ 65536
  rw [r1]; exact join1 (by omega)
 ·show (joinC (pRow _ (j : Int).toNat [97])).length ≤ 65536
  rw [Int.toNat_natCast, pRow_lA]; exact join2 (by omega)
 rw [decide_eq_false (by omega), iteP_f, decide_eq_true (by omega), iteP_t, show (((max (j : Int).toNat (j : Int).toNat : Nat) : Int) != (j : Int)) = false by simp, iteP_f]
 refine ⟨rfl, ⟨rfl, rfl⟩, fun _ _ => ⟨⟨lA j, .of _ r2 (by rw [lA_len]; simp) (lA_ne h1), by omega, by omega, by rw [lA_len]; omega, ?_⟩, fun _ _ => ?_⟩⟩
 ·show (joinC (zRow ((lA j).map aStr) 2)).length ≤ 65536
  rw [zRow_map, hxy, j3]; omega
 have r5 := (congrArg (pRow (zRow (pRow (zRow [] (j : Int).toNat) (j : Int).toNat [97]) 2) 1) e5).trans r4
 refine ⟨⟨[x, y], .of _ r3 rfl (by simp), by omega, by omega, by simp, ?_⟩, fun _ hF => ?_, fun _ hO => ?_⟩
 ·show (joinC (pRow ([x, y].map aStr) 1 _)).length ≤ 1000000
  rw [e5, put_two, j4]; omega
 ·have hF := hF.le
  rw [r5, j4] at hF
  have hg : (hQa14 (j : Int)).get 9 = some (.cells ([([] : List UInt8), y].map aStr)) := congrArg (fun c => some (AObj.cells c)) r5
  have hR : IsRec (hQa14 (j : Int)) [([] : List UInt8), y] := ⟨58, [44], _, _, rfl, .row 9 _ (by simp) hg⟩
  refine ⟨⟨58, [44], _, 9, [([] : List UInt8), y], y, rfl, hg, by omega, by omega, rfl, hy⟩, fun z hz n1 hn1 => ?_⟩
  have hz := hz.is _ hR
  have hz : y = z := by simpa using hz
  subst hz
  rw [wrap_in (x := (0 : Int) + 1) (by omega) (by omega), wrap_in (by omega) (by omega)] at hn1
  rw [decide_eq_true (by omega), iteP_t]
  intro n2 hn2
  rw [r5, j4] at hn2
  rw [decide_eq_true (by omega), iteP_t]
  exact ⟨trivial, fun _ _ => rfl⟩
 ·have hO := hO.gt
  rw [r5, j4] at hO
  have hg : (hQa15 (j : Int)).get 8 = some (.cells ([x, y].map aStr)) := congrArg (fun c => some (AObj.cells c)) r3
  have hR : IsRec (hQa15 (j : Int)) [x, y] := ⟨58, [44], _, _, rfl, .row 8 _ (by simp) hg⟩
  refine ⟨⟨58, [44], _, 8, [x, y], y, rfl, hg, by omega, by omega, rfl, hy⟩, fun z hz n1 hn1 => ?_⟩
  have hz := hz.is _ hR
  have hz : y = z := by simpa using hz
  subst hz
  rw [wrap_in (x := (0 : Int) + 1) (by omega) (by omega), wrap_in (by omega) (by omega)] at hn1
  rw [decide_eq_false (by omega), iteP_f]
  intro n2 hn2
  rw [r3, j3] at hn2
  rw [decide_eq_true (by omega), iteP_t]
  exact ⟨trivial, fun _ _ => rfl⟩
end
end Go.Proofs.Rd
namespace Go.Proofs.Rd
open Go Go.Ef
noncomputable section
set_option maxRecDepth 100000
variable {m : Int} {T : Tab}
theorem hP6_of {h : Heap} {cs : List AV} (hro : h.ro = 0) (hg : h.get 6 = some (.cells cs)) : ∃ k l l1 a b v v1 ty, h = hP6 k l l1 a b v v1 ty cs := by
 obtain ⟨nx, ob, ro, ty⟩ := h
 have hro : ro = 0 := hro
 subst hro
 have hb : Nat.blt 6 nx = true := by
  cases hb : Nat.blt 6 nx with
  | true => rfl
  | false => simp only [Heap.get, hb, cond_false] at hg; cases hg
 have hn : 7 ≤ nx := Nat.le_of_ble_eq_true hb
 have h2 : ob.get 6 = some (.cells cs) := by
  simp only [Heap.get, hb, cond_true] at hg; exact hg
 obtain ⟨k, rfl⟩ : ∃ k, nx = k + 7 := ⟨nx - 7, by omega⟩
 cases ob with
 | leaf => cases h2
 | node l v r =>
  have h3 : r.get 2 = some (.cells cs) := h2
  cases r with
  | leaf => cases h3
  | node l1 v1 r1 =>
   have h4 : r1.get 0 = some (.cells cs) := h3
   cases r1 with
   | leaf => cases h4
   | node a u b =>
    have h5 : u = some (.cells cs) := h4
    subst h5
    exact ⟨k, l, l1, a, b, v, v1, ty, rfl⟩
theorem loop7b6 (m : Int) (n : Nat) (k : Nat) (l l1 a b : Tr AObj) (v v1 : Option AObj) (ty : Tr (Nat × Nat)) (hn : n ≤ 70000) : ∀ (f i : Nat), n - i = f → i ≤ n →
  Ev (cf m) Tryz.prog 7 (.loop (loopAt Tryz.prog 7 24)) (I7b n 6 n i (hP6 k l l1 a b v v1 ty (fillB n 120 i))) fun e τ => e = .exit 2 ∧ τ = E7b n 6 n (hP6 k l l1 a b v v1 ty (List.replicate n (bC 120))) := by
 have can : ∀ (i : Nat) (h : Heap), (I7b n 6 n i h).tidy [1, 5, 12, 13] 0 = I7b n 6 n i h := fun i h => by kernel_rfl
 intro f
 induction f with
 | zero =>
  intro i hf hi
  have hi : i = n := by omega
  refine Ev.round (t := ⟨[1, 5, 12, 13], [1, 5, 12], 0⟩) ok7z (by kernel_rfl) rfl (can i _) (v7b6 m n n i k l l1 a b v v1 ty _ (fun _ _ => False) True ?_) (fun τ h => h.2.elim) (fun e τ h => ?_)
  ·rw [decide_eq_false (by omega), iteP_f]
   exact ⟨rfl, rfl, trivial⟩
  ·unfold q7b at h
   split at h
   ·obtain ⟨h1, h2, _⟩ := h
    refine ⟨h1, ?_⟩
    rw [h2, hi]
    unfold fillB
    rw [Nat.sub_self, List.replicate_zero, List.append_nil]
   ·exact h.elim
 | succ f ih =>
  intro i hf hi
  have hlt : i < n := by omega
  have hw : IntKind.i64.wrap ((i : Int) + 1) = ((i + 1 : Nat) : Int) := by rw [wrap_in (by omega) (by omega)]; rfl
  refine Ev.round (t := ⟨[1, 5, 12, 13], [1, 5, 12], 0⟩) ok7z (by kernel_rfl) rfl (can i _) (v7b6 m n n i k l l1 a b v v1 ty _ (fun cs j => cs = fillB n 120 (i + 1) ∧ j = ((i + 1 : Nat) : Int)) False ?_) (fun τ h => ?_) (fun e τ h => ?_)
  ·rw [Int.toNat_natCast, Nat.zero_add, Nat.mul_one, hw, decide_eq_true (by omega), iteP_t, show inRange (i : Int) n = true by rw [inRange_iff]; omega, iteP_t, fill_lt hlt, iteP_t]
   exact ⟨rfl, fill_set hlt, rfl⟩
  ·obtain ⟨h1, h2, h3⟩ := h
   rw [h2, h3] at h1
   rw [h1]
   exact ih (i + 1) (by omega) (by omega)
  ·unfold q7b at h
   split at h
   ·exact h.2.2.elim
   ·exact h.elim
theorem ok7by (O : Ok m T) : Ok m (T.addL 7 24 L7by) := by
 refine addL_ok O fun σ s hs hp => ?_
 unfold L7by at hs
 split at hs
 ·rename_i w hw
  cases hs
  obtain ⟨e, h1, h2, h3, h4⟩ := hp
  obtain ⟨k, l, l1, a, b, v, v1, ty, hh⟩ := hP6_of h3 h4
  have hc : repC (slI σ 1) (bC 0) = fillB w 120 0 := by rw [h1]; unfold repC fillB; rw [Int.toNat_natCast]; simp
  rw [hc] at hh
  have he : Ev (cf m) Tryz.prog 7 (.loop (loopAt Tryz.prog 7 24)) σ fun e τ => e = .exit 2 ∧ τ = E7b (slI σ 1) 6 w (putH σ.h 6 (List.replicate w (bC 120))) := by
   refine Ev.tidied (t := ⟨[1, 5, 12, 13], [1, 5, 12], 0⟩) (τ := I7b w 6 w (0 : Nat) (hP6 k l l1 a b v v1 ty (fillB w 120 0))) (by kernel_rfl) (by rw [e, h1, hh]; kernel_rfl) ?_
   ·rw [hh, h1]
    exact loop7b6 m w k l l1 a b v v1 ty h2 _ 0 rfl (Nat.zero_le _)
  obtain ⟨n, ex, τ, h6, rfl, rfl⟩ := he
  exact ⟨_, List.mem_singleton.2 rfl, (), trivial, n, h6⟩
 ·cases hs
theorem okT0b : Ok m T0b := name_ok (name_ok (ok7by (ok7az (ok49Z (ok73z (ok27s (ok48b (ok22 (Rc.ok20 okLy)))))))) 7 121) 7 142
theorem okT0s : Ok m T0s := name_ok (name_ok (ok7bz (ok7az (ok49Z (ok73z (ok27s (ok48b (ok22 (Rc.ok20 okLy)))))))) 7 121) 7 142
set_option maxHeartbeats 2000000 in
theorem law7Z (m : Int) (k : Nat) (hk : 1 ≤ k) (hk2 : k ≤ 70000) : ∃ n h, evCall (cf m) Tryz.prog n 7 [.sc (.int .i64 0), .sc (.int .i64 (k : Int))] heap0 = some (aBool true, h) := by
 have key := call_okW (okT0b (m := m)) 60 7 [.sc (.int .i64 0), .sc (.int .i64 (k : Int))] heap0 (fun r _ => r = aBool true) (c7Zb m k (fun r => r = aBool true) ?_)
 ·obtain ⟨n, r, h', h1, rfl⟩ := key
  exact ⟨n, h', h1⟩
 rw [decide_eq_false (by omega), iteP_f, decide_eq_false (by omega), iteP_f]
 refine ⟨trivial, fun _ _ => ⟨rfl, ⟨rfl, rfl⟩, fun _ _ => ⟨⟨58, rfl, by decide, rfl⟩, fun _ _ => ⟨rfl, rfl, fun _ _ => ⟨trivial, fun _ _ => ?_⟩⟩⟩⟩⟩
 rw [q1s (by omega) (by omega), iteP_t, qnz (by omega), iteP_f]
 have j1 : (Lib.join [([] : List UInt8), []] [44]).length = 1 := join_two _ _
 have hk5 : (List.map u8B (cutC (List.replicate (k : Int).toNat (AV.sc (Value.int IntKind.u8 120))) 0 (k : Int).toNat)).length = k := by rw [show List.map u8B (cutC (List.replicate (k : Int).toNat (AV.sc (Value.int IntKind.u8 120))) 0 (k : Int).toNat) = List.replicate k 120 from row58 k 120, List.length_replicate]
 have j2 : (Lib.join [List.map u8B (cutC (List.replicate (k : Int).toNat (AV.sc (Value.int IntKind.u8 120))) 0 (k : Int).toNat), []] [44]).length = k + 1 := by rw [join_two, hk5]; rfl
 have g1 : (hSa8 (k : Int)).get 7 = some (.cells ([[], []].map aStr)) := rfl
 refine ⟨rfl, ⟨rfl, ⟨rfl, hk2, rfl, rfl⟩⟩, fun _ _ => ⟨rfl, ⟨rfl, ⟨[[], []], 58, [44], _, _, g1, rfl, rfl, by omega, by simp⟩⟩, fun _ _ => ⟨⟨[[], []], g1, rfl, show (Lib.join [[], []] [44]).length ≤ _ by omega, by simp⟩, fun y0 hy0 => ?_⟩, fun _ hO => ?_⟩⟩
 ·have hy0 := hy0.is _ g1
  have hy0 : y0 = Lib.join [[], []] [44] := hy0
  rw [show endCells (0 + (k : Int).toNat) (List.replicate (k : Int).toNat (AV.sc (Value.int IntKind.u8 120))) = true from end58 k 120, iteP_t]
  have g2 : (hSa13 y0 (k : Int)).get 8 = some (.cells ([List.map u8B (cutC (List.replicate (k : Int).toNat (AV.sc (Value.int IntKind.u8 120))) 0 (k : Int).toNat), []].map aStr)) := rfl
  refine ⟨rfl, ⟨rfl, ⟨_, 58, [44], _, _, g2, rfl, rfl, by omega, by simp⟩⟩, fun _ hF => ⟨⟨_, g2, rfl, show (Lib.join _ [44]).length ≤ _ by omega, by simp⟩, fun y2 hy2 => ?_⟩, fun _ hO => ?_⟩
  ·have hF := hF.is _ 58 [44] _ _ g2 rfl
   rw [j2] at hF
   have hy2 := hy2.is _ g2
   have hy2 : y2 = Lib.join [List.map u8B (cutC (List.replicate (k : Int).toNat (AV.sc (Value.int IntKind.u8 120))) 0 (k : Int).toNat), []] [44] := hy2
   have g3 : (hSa14 y2 (k : Int)).get 8 = some (.cells ([List.map u8B (cutC (List.replicate (k : Int).toNat (AV.sc (Value.int IntKind.u8 120))) 0 (k : Int).toNat), []].map aStr)) := rfl
   have hR : IsRec (hSa14 y2 (k : Int)) [List.map u8B (cutC (List.replicate (k : Int).toNat (AV.sc (Value.int IntKind.u8 120))) 0 (k : Int).toNat), []] := ⟨58, [44], _, _, rfl, .row 8 _ (by simp) g3⟩
   refine ⟨⟨58, [44], _, 8, _, [], rfl, g3, by omega, by omega, rfl, ⟨.inl rfl⟩⟩, fun z hz n1 hn1 => ?_⟩
   have hz := hz.is _ hR
   have hz : [] = z := by simpa using hz
   subst hz
   rw [wrap_in (x := (k : Int) + 1) (by omega) (by omega), wrap_in (by simp; omega) (by simp; omega)] at hn1
   simp only [List.length_nil] at hn1
   rw [decide_eq_true (by omega), iteP_t]
   intro n2 hn2
   rw [hy2, j2] at hn2
   rw [decide_eq_true (by omega), iteP_t]
   exact ⟨trivial, fun _ _ => rfl⟩
  ·have hO := hO.is _ 58 [44] _ _ g2 rfl
   rw [j2] at hO
   have g3 : (hSa13 y0 (k : Int)).get 7 = some (.cells ([[], []].map aStr)) := rfl
   have hR : IsRec (hSa13 y0 (k : Int)) [[], []] := ⟨58, [44], _, _, rfl, .row 7 _ (by simp) g3⟩
   refine ⟨⟨58, [44], _, 7, _, [], rfl, g3, by omega, by omega, rfl, ⟨.inl rfl⟩⟩, fun z hz n1 hn1 => ?_⟩
   have hz := hz.is _ hR
   have hz : [] = z := by simpa using hz
   subst hz
   rw [wrap_in (x := (k : Int) + 1) (by omega) (by omega), wrap_in (by simp; omega) (by simp; omega)] at hn1
   simp only [List.length_nil] at hn1
   rw [decide_eq_false (by omega), iteP_f]
   intro n2 hn2
   rw [hy0, j1] at hn2
   rw [decide_eq_true (by omega), iteP_t]
   exact ⟨trivial, fun _ _ => rfl⟩
 ·have hO := hO.is _ 58 [44] _ _ g1 rfl
  rw [j1] at hO
  omega
end
end Go.Proofs.Rd
namespace Go.Proofs.Rd
open Go Go.Ef
noncomputable section
set_option maxRecDepth 100000
set_option maxHeartbeats 2000000 in
theorem law7Z0 (m : Int) : ∃ n h, evCall (cf m) Tryz.prog n 7 [.sc (.int .i64 0), .sc (.int .i64 0)] heap0 = some (aBool true, h) := by
 have key := call_okW (okT0s (m := m)) 60 7 [.sc (.int .i64 0), .sc (.int .i64 0)] heap0 (fun r _ => r = aBool true) (c7Zs m (fun r => r = aBool true) ?_)
 ·obtain ⟨n, r, h', h1, rfl⟩ := key
  exact ⟨n, h', h1⟩
 have j1 : (Lib.join [([] : List UInt8), []] [44]).length = 1 := join_two _ _
 have g1 : hSb7.get 7 = some (.cells ([[], []].map aStr)) := rfl
 refine ⟨trivial, fun _ _ => ⟨rfl, ⟨rfl, rfl⟩, fun _ _ => ⟨⟨58, rfl, by decide, rfl⟩, fun _ _ => ⟨rfl, rfl, fun _ _ => ⟨trivial, fun _ _ => ⟨rfl, ⟨rfl, rfl⟩, fun _ _ => ⟨rfl, ⟨rfl, ⟨[[], []], 58, [44], _, _, g1, rfl, rfl, by omega, by simp⟩⟩, fun _ _ => ⟨⟨[[], []], g1, rfl, show (Lib.join [[], []] [44]).length ≤ _ by omega, by simp⟩, fun y0 hy0 => ?_⟩, fun _ hO => ?_⟩⟩⟩⟩⟩⟩⟩
 ·have hy0 := hy0.is _ g1
  have hy0 : y0 = Lib.join [[], []] [44] := hy0
  have g2 : (hSb12 y0).get 8 = some (.cells ([[], []].map aStr)) := rfl
  refine ⟨rfl, ⟨rfl, ⟨[[], []], 58, [44], _, _, g2, rfl, rfl, by omega, by simp⟩⟩, fun _ hF => ⟨⟨[[], []], g2, rfl, show (Lib.join [[], []] [44]).length ≤ _ by omega, by simp⟩, fun y2 hy2 => ?_⟩, fun _ hO => ?_⟩
  ·have hy2 := hy2.is _ g2
   have hy2 : y2 = Lib.join [[], []] [44] := hy2
   have g3 : (hSb13 y2).get 8 = some (.cells ([[], []].map aStr)) := rfl
   have hR : IsRec (hSb13 y2) [[], []] := ⟨58, [44], _, _, rfl, .row 8 _ (by simp) g3⟩
   refine ⟨⟨58, [44], _, 8, [[], []], [], rfl, g3, by omega, by omega, rfl, ⟨.inl rfl⟩⟩, fun z hz n1 hn1 => ?_⟩
   have hz := hz.is _ hR
   have hz : [] = z := by simpa using hz
   subst hz
   have hn1 : n1 = 1 := hn1
   subst hn1
   intro n2 hn2
   rw [hy2, j1] at hn2
   rw [decide_eq_true (by omega), iteP_t]
   exact ⟨trivial, fun _ _ => rfl⟩
  ·have hO := hO.is _ 58 [44] _ _ g2 rfl
   rw [j1] at hO
   omega
 ·have hO := hO.is _ 58 [44] _ _ g1 rfl
  rw [j1] at hO
  omega
theorem law7out (m : Int) (n size : Int) (h : n < 0 ∨ 70000 < n ∨ size < 0 ∨ 70000 < size) : ∃ k h, evCall (cf m) Tryz.prog k 7 [.sc (.int .i64 n), .sc (.int .i64 size)] heap0 = some (aBool true, h) := by
 have key := call_okW (okTBs (m := m)) 60 7 [.sc (.int .i64 n), .sc (.int .i64 size)] heap0 (fun r _ => r = aBool true) (c7B m n size (fun r => r = aBool true) ?_)
 ·obtain ⟨n, r, h', h1, rfl⟩ := key
  exact ⟨n, h', h1⟩
 by_cases h1 : n < 0
 ·rw [decide_eq_true h1, iteP_t]; exact ⟨trivial, fun _ _ => rfl⟩
 rw [decide_eq_false h1, iteP_f]
 by_cases h2 : 70000 < n
 ·rw [decide_eq_true h2, iteP_t]; exact ⟨trivial, fun _ _ => rfl⟩
 rw [decide_eq_false h2, iteP_f]
 by_cases h3 : size < 0
 ·rw [decide_eq_true h3, iteP_t]; exact ⟨trivial, fun _ _ => rfl⟩
 rw [decide_eq_false h3, iteP_f]
 by_cases h4 : 70000 < size
 ·rw [decide_eq_true h4, iteP_t]; exact ⟨trivial, fun _ _ => rfl⟩
 omega
theorem law7 (m : Int) (n size : Int) : ∃ k h, evCall (cf m) Tryz.prog k 7 [.sc (.int .i64 n), .sc (.int .i64 size)] heap0 = some (aBool true, h) := by
 by_cases h : n < 0 ∨ 70000 < n ∨ size < 0 ∨ 70000 < size
 ·exact law7out m n size h
 obtain ⟨j, rfl⟩ : ∃ j : Nat, n = j := ⟨n.toNat, by omega⟩
 obtain ⟨k, rfl⟩ : ∃ k : Nat, size = k := ⟨size.toNat, by omega⟩
 by_cases h1 : 1024 < j
 ·exact law7A m j k h1
 by_cases h2 : j = 0
 ·subst h2
  by_cases h3 : k = 0
  ·subst h3; exact law7Z0 m
  ·exact law7Z m k (by omega) (by omega)
 by_cases h4 : j = 1024
 ·by_cases h3 : k = 0
  ·subst h3; exact law7C0 m j h4
  ·exact law7C m j k h4 (by omega) (by omega)
 by_cases h3 : k = 0
 ·subst h3; exact law7B0 m j (by omega) (by omega)
 ·exact law7B m j k (by omega) (by omega) (by omega) (by omega)
end
end Go.Proofs.Rd
namespace Go.Proofs.YtdnekbapjlbeaaaGreatDoor
open Go Go.Ef Go.ChangeShapes Go.WideShapes Go.ChangeAt Go.RowKit
open Go.ChangeMaps (open_string shut_string)
theorem room_any {W : World} (h : W.ShapedOpen Tryz.prog) : ∃ m, GlobOk (Rec.cfg m) W := by
 obtain ⟨m, hm⟩ := cell_of_shapedOpen_int (g := 1) (zero := #[.int .i64 0]) (t := 3) h (of_decide_eq_true (by kernel_rfl)) (by kernel_rfl) rfl (by kernel_rfl) (by kernel_rfl) Tryz.underlying3
 refine ⟨m, fun g cs hg i x hx => ?_⟩
 replace hg : Rec.globs m g = some cs := hg
 unfold Rec.globs at hg
 split at hg
 ·cases hg
  match i with
  | 0 => simp at hx; subst hx; exact ⟨_, hm, .sc rfl⟩
  | i + 1 => simp at hx
 ·cases hg
theorem own : ownKnob Tryz.prog.godebug = none := by kernel_rfl
theorem row_witness {H : Type} {enc : TypeId × Value → H} {C : Checked} {os : Os} {f : FuncId} {fn : Func} {s : OpenSpec} {conds : List PathCond} {apart : Bool} {laid : List (String × DataW Unit)} (w0 : World) (args : Array Value) (hos : w0.os = os)
  (hsh : (w0.forCall (fun _ _ => 0) ⟨#[], args, []⟩).Shaped C.prog) (hok : Input.okWideB C.prog (w0.forCall (fun _ _ => 0) ⟨#[], args, []⟩) f ⟨#[], args, []⟩ = true)
  (hrow : s.preRow enc C.prog fn conds apart laid (w0.forCall (fun _ _ => 0) ⟨#[], args, []⟩).memory args) :
  ∃ (w : World) (tape : Tape) (i : Input), w.os = os ∧ (w.forCall tape i).Shaped C.prog ∧ i.vars = [] ∧ Input.okWide C.prog (w.forCall tape i) .any w.heap.size f i ∧
   s.preRow enc C.prog fn conds apart laid (w.forCall tape i).memory i.args ∧ ({} : Assume).holds C.prog (lone (Frame.enter C.prog f i.args .normal) [] (w.forCall tape i)) :=
 ⟨w0, fun _ _ => 0, ⟨#[], args, []⟩, hos, hsh, (Input.okWide_of_okWideB (base := 0) hok).1, (Input.okWide_of_okWideB hok).2, hrow, by
  simp only [Assume.holds]
  exact ⟨by simp, by simp, fun _ => Modest.zero, by simp, by simp⟩⟩
end Go.Proofs.YtdnekbapjlbeaaaGreatDoor
