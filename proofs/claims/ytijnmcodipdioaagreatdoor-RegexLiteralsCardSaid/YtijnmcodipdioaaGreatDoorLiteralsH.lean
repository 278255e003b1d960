/- A part of the proof: definitions and lemmas. -/
import Derived.Test.YtijnmcodipdioaaGreatDoorLiteralsA
import Derived.Test.YtijnmcodipdioaaGreatDoorLiteralsB
import Derived.Test.YtijnmcodipdioaaGreatDoorLiteralsC
import Derived.Test.YtijnmcodipdioaaGreatDoorLiteralsD
import Derived.Test.YtijnmcodipdioaaGreatDoorLiteralsE
import Derived.Test.YtijnmcodipdioaaGreatDoorLiteralsF
import Derived.Test.YtijnmcodipdioaaGreatDoorLiteralsG
namespace Go.Proofs.Rl
open Go Go.Ef
noncomputable section
set_option maxRecDepth 100000
theorem v33 (b : UInt8) (c : UInt8) (s : List UInt8) (r : List UInt8) (K : AV → Prop) (h :
 iteP (decide ((↑(c :: r).length : Int) ≤ (↑(b :: s).length : Int)))
 (iteP (decide ((0 : Int) ≤ (↑(c :: r).length : Int)) && decide ((↑(c :: r).length : Int) ≤ (↑(b :: s).length : Int)))
 (iteP (decide (List.take (↑(c :: r).length : Int).toNat (b :: s) = c :: r)) (K (AV.sc (Value.bool true)))
 (K (AV.sc (Value.bool false))))
 False)
 (K (AV.sc (Value.bool false)))) :
 (fun (b c : UInt8) (s r : List UInt8) (K : AV → Prop) => wpCall tab0 cfg Tryz.prog 60 33 [aStr (b :: s), aStr (c :: r)] heapF fun r h' => wpBack h' r K) b c s r K :=
 Eq.mp (by kernel_rfl) h
theorem v33n (c : UInt8) (r : List UInt8) (K : AV → Prop) (h :
 K (AV.sc (Value.bool false))) :
 (fun (c : UInt8) (r : List UInt8) (K : AV → Prop) => wpCall tab0 cfg Tryz.prog 60 33 [aStr [], aStr (c :: r)] heapF fun r h' => wpBack h' r K) c r K :=
 Eq.mp (by kernel_rfl) h
theorem v50 (e : List AV) (f : List AV) (r : List (List AV)) (K : AV → Prop) (h :
 iteP (decide ((2 : Int) ≤ (↑(e :: f :: r).length : Int))) (K (AV.sc (Value.bool true))) (K (AV.sc (Value.bool false)))) :
 (fun (e f : List AV) (r : List (List AV)) (K : AV → Prop) => wpCall tab0 cfg Tryz.prog 60 50 [.agg [iA 3, uA 0, uA 0, uA 0, uA 0, iA 0, iA 0, iA 0, .sl (e :: f :: r) 0]] heapF fun r h' => wpBack h' r K) e f r K :=
 Eq.mp (by kernel_rfl) h
theorem v47t (l : List UInt8) (i : Nat) (k : Nat) (q : Tr AObj) (r1 : Tr AObj) (r0 : Tr AObj) (v0 : Option AObj) (ty : Tr (Nat × Nat)) (x0 : AV) (x1 : AV) (x2 : AV) (x3 : AV) (x4 : AV) (x5 : AV) (x6 : AV) (x7 : AV) (x8 : AV) (x9 : AV) (x10 : AV) (x11 : AV) (x12 : AV) (x13 : AV) (x14 : AV) (x15 : AV) (x16 : AV) (x17 : AV) (x18 : AV) (x19 : AV) (K : AV → Heap → Prop) (h :
 iteP (Int.ofNat i == (↑l.length : Int)) (False ∧ True)
 (iteP (inRange (Int.ofNat i) l.length)
 (iteP (decide ((0 : Int) ≤ Int.ofNat i) && decide (Int.ofNat i ≤ (↑l.length : Int)))
 (HdAl (List.drop (Int.ofNat i).toNat l) ∧
 ∀ (_ : Unit),
 True →
 iteP (byteAt l (Int.ofNat i) == (46 : Int)) (False ∧ True)
 (iteP (byteAt l (Int.ofNat i) == (91 : Int)) (False ∧ True)
 (iteP (byteAt l (Int.ofNat i) == (92 : Int)) (False ∧ True)
 (iteP (byteAt l (Int.ofNat i) == (93 : Int))
 (iteP
 (decide ((0 : Int) ≤ IntKind.i64.wrap (IntKind.i64.wrap (Int.ofNat i + (1 : Int)) - (1 : Int))) &&
 (decide
 (IntKind.i64.wrap (IntKind.i64.wrap (Int.ofNat i + (1 : Int)) - (1 : Int)) ≤
 IntKind.i64.wrap (Int.ofNat i + (1 : Int))) &&
 decide (IntKind.i64.wrap (Int.ofNat i + (1 : Int)) ≤ (↑l.length : Int))))
 (One
 (cutL l (IntKind.i64.wrap (IntKind.i64.wrap (Int.ofNat i + (1 : Int)) - (1 : Int)))
 (IntKind.i64.wrap (Int.ofNat i + (1 : Int)))) ∧
 ∀ (_ : Unit),
 True →
 K
 (AV.agg
 [AV.sc (Value.int IntKind.i64 (2 : Int)),
 AV.sc
 (Value.int IntKind.u64
 (wd
 (hdB
 (cutL l
 (IntKind.i64.wrap (IntKind.i64.wrap (Int.ofNat i + (1 : Int)) - (1 : Int)))
 (IntKind.i64.wrap (Int.ofNat i + (1 : Int)))))
 (0 : Nat))),
 AV.sc
 (Value.int IntKind.u64
 (wd
 (hdB
 (cutL l
 (IntKind.i64.wrap (IntKind.i64.wrap (Int.ofNat i + (1 : Int)) - (1 : Int)))
 (IntKind.i64.wrap (Int.ofNat i + (1 : Int)))))
 (1 : Nat))),
 AV.sc
 (Value.int IntKind.u64
 (wd
 (hdB
 (cutL l
 (IntKind.i64.wrap (IntKind.i64.wrap (Int.ofNat i + (1 : Int)) - (1 : Int)))
 (IntKind.i64.wrap (Int.ofNat i + (1 : Int)))))
 (2 : Nat))),
 AV.sc
 (Value.int IntKind.u64
 (wd
 (hdB
 (cutL l
 (IntKind.i64.wrap (IntKind.i64.wrap (Int.ofNat i + (1 : Int)) - (1 : Int)))
 (IntKind.i64.wrap (Int.ofNat i + (1 : Int)))))
 (3 : Nat))),
 AV.sc (Value.int IntKind.i64 (0 : Int)), AV.sc (Value.int IntKind.i64 (0 : Int)),
 AV.sc (Value.int IntKind.i64 (0 : Int)),
 AV.sc (Value.slice none (0 : Nat) (0 : Nat))])
 (Heap.mk (k + (2 : Nat))
 ((q.node
 (some
 (AObj.cells
 [AV.sc (Value.string (ByteArray.mk (Array.mk l))),
 AV.sc (Value.int IntKind.i64 (IntKind.i64.wrap (Int.ofNat i + (1 : Int)))),
 AV.sc (Value.bool true), AV.sc (Value.bool false), x0, x1, x2, x3, x4, x5,
 x6, x7, x8, x9, x10, x11, x12, x13, x14, x15, x16, x17, x18, x19]))
 r1).node
 v0 r0)
 (1 : Nat) ty))
 False)
 (iteP (byteAt l (Int.ofNat i) == (125 : Int))
 (iteP
 (decide
 ((0 : Int) ≤ IntKind.i64.wrap (IntKind.i64.wrap (Int.ofNat i + (1 : Int)) - (1 : Int))) &&
 (decide
 (IntKind.i64.wrap (IntKind.i64.wrap (Int.ofNat i + (1 : Int)) - (1 : Int)) ≤
 IntKind.i64.wrap (Int.ofNat i + (1 : Int))) &&
 decide (IntKind.i64.wrap (Int.ofNat i + (1 : Int)) ≤ (↑l.length : Int))))
 (One
 (cutL l (IntKind.i64.wrap (IntKind.i64.wrap (Int.ofNat i + (1 : Int)) - (1 : Int)))
 (IntKind.i64.wrap (Int.ofNat i + (1 : Int)))) ∧
 ∀ (_ : Unit),
 True →
 K
 (AV.agg
 [AV.sc (Value.int IntKind.i64 (2 : Int)),
 AV.sc
 (Value.int IntKind.u64
 (wd
 (hdB
 (cutL l
 (IntKind.i64.wrap
 (IntKind.i64.wrap (Int.ofNat i + (1 : Int)) - (1 : Int)))
 (IntKind.i64.wrap (Int.ofNat i + (1 : Int)))))
 (0 : Nat))),
 AV.sc
 (Value.int IntKind.u64
 (wd
 (hdB
 (cutL l
 (IntKind.i64.wrap
 (IntKind.i64.wrap (Int.ofNat i + (1 : Int)) - (1 : Int)))
 (IntKind.i64.wrap (Int.ofNat i + (1 : Int)))))
 (1 : Nat))),
 AV.sc
 (Value.int IntKind.u64
 (wd
 (hdB
 (cutL l
 (IntKind.i64.wrap
 (IntKind.i64.wrap (Int.ofNat i + (1 : Int)) - (1 : Int)))
 (IntKind.i64.wrap (Int.ofNat i + (1 : Int)))))
 (2 : Nat))),
 AV.sc
 (Value.int IntKind.u64
 (wd
 (hdB
 (cutL l
 (IntKind.i64.wrap
 (IntKind.i64.wrap (Int.ofNat i + (1 : Int)) - (1 : Int)))
 (IntKind.i64.wrap (Int.ofNat i + (1 : Int)))))
 (3 : Nat))),
 AV.sc (Value.int IntKind.i64 (0 : Int)), AV.sc (Value.int IntKind.i64 (0 : Int)),
 AV.sc (Value.int IntKind.i64 (0 : Int)),
 AV.sc (Value.slice none (0 : Nat) (0 : Nat))])
 (Heap.mk (k + (2 : Nat))
 ((q.node
 (some
 (AObj.cells
 [AV.sc (Value.string (ByteArray.mk (Array.mk l))),
 AV.sc
 (Value.int IntKind.i64 (IntKind.i64.wrap (Int.ofNat i + (1 : Int)))),
 AV.sc (Value.bool true), AV.sc (Value.bool false), x0, x1, x2, x3, x4, x5,
 x6, x7, x8, x9, x10, x11, x12, x13, x14, x15, x16, x17, x18, x19]))
 r1).node
 v0 r0)
 (1 : Nat) ty))
 False)
 (iteP (inRange (Int.ofNat i) l.length)
 (AlI (byteAt l (Int.ofNat i)) ∧
 ∀ (_ : Unit),
 True →
 iteP
 (decide
 ((0 : Int) ≤
 IntKind.i64.wrap (IntKind.i64.wrap (Int.ofNat i + (1 : Int)) - (1 : Int))) &&
 (decide
 (IntKind.i64.wrap (IntKind.i64.wrap (Int.ofNat i + (1 : Int)) - (1 : Int)) ≤
 IntKind.i64.wrap (Int.ofNat i + (1 : Int))) &&
 decide (IntKind.i64.wrap (Int.ofNat i + (1 : Int)) ≤ (↑l.length : Int))))
 (One
 (cutL l (IntKind.i64.wrap (IntKind.i64.wrap (Int.ofNat i + (1 : Int)) - (1 : Int)))
 (IntKind.i64.wrap (Int.ofNat i + (1 : Int)))) ∧
 ∀ (_ : Unit),
 True →
 K
 (AV.agg
 [AV.sc (Value.int IntKind.i64 (2 : Int)),
 AV.sc
 (Value.int IntKind.u64
 (wd
 (hdB
 (cutL l
 (IntKind.i64.wrap
 (IntKind.i64.wrap (Int.ofNat i + (1 : Int)) - (1 : Int)))
 (IntKind.i64.wrap (Int.ofNat i + (1 : Int)))))
 (0 : Nat))),
 AV.sc
 (Value.int IntKind.u64
 (wd
 (hdB
 (cutL l
 (IntKind.i64.wrap
 (IntKind.i64.wrap (Int.ofNat i + (1 : Int)) - (1 : Int)))
 (IntKind.i64.wrap (Int.ofNat i + (1 : Int)))))
 (1 : Nat))),
 AV.sc
 (Value.int IntKind.u64
 (wd
 (hdB
 (cutL l
 (IntKind.i64.wrap
 (IntKind.i64.wrap (Int.ofNat i + (1 : Int)) - (1 : Int)))
 (IntKind.i64.wrap (Int.ofNat i + (1 : Int)))))
 (2 : Nat))),
 AV.sc
 (Value.int IntKind.u64
 (wd
 (hdB
 (cutL l
 (IntKind.i64.wrap
 (IntKind.i64.wrap (Int.ofNat i + (1 : Int)) - (1 : Int)))
 (IntKind.i64.wrap (Int.ofNat i + (1 : Int)))))
 (3 : Nat))),
 AV.sc (Value.int IntKind.i64 (0 : Int)),
 AV.sc (Value.int IntKind.i64 (0 : Int)),
 AV.sc (Value.int IntKind.i64 (0 : Int)),
 AV.sc (Value.slice none (0 : Nat) (0 : Nat))])
 (Heap.mk (k + (2 : Nat))
 ((q.node
 (some
 (AObj.cells
 [AV.sc (Value.string (ByteArray.mk (Array.mk l))),
 AV.sc
 (Value.int IntKind.i64
 (IntKind.i64.wrap (Int.ofNat i + (1 : Int)))),
 AV.sc (Value.bool true), AV.sc (Value.bool false), x0, x1, x2, x3,
 x4, x5, x6, x7, x8, x9, x10, x11, x12, x13, x14, x15, x16, x17,
 x18, x19]))
 r1).node
 v0 r0)
 (1 : Nat) ty))
 False)
 False))))))
 False)
 False)) :
 (fun (l : List UInt8) (i k : Nat) (q r1 r0 : Tr AObj) (v0 : Option AObj) (ty : Tr (Nat × Nat)) (x0 x1 x2 x3 x4 x5 x6 x7 x8 x9 x10 x11 x12 x13 x14 x15 x16 x17 x18 x19 : AV) (K : AV → Heap → Prop) => wpCall T47 cfg Tryz.prog 60 47 [.ptr 1 0] (hG k q r1 r0 v0 ty (pC l i true [x0, x1, x2, x3, x4, x5, x6, x7, x8, x9, x10, x11, x12, x13, x14, x15, x16, x17, x18, x19])) fun r h' => K r h') l i k q r1 r0 v0 ty x0 x1 x2 x3 x4 x5 x6 x7 x8 x9 x10 x11 x12 x13 x14 x15 x16 x17 x18 x19 K :=
 Eq.mp (by kernel_rfl) h
theorem v47f (l : List UInt8) (i : Nat) (k : Nat) (q : Tr AObj) (r1 : Tr AObj) (r0 : Tr AObj) (v0 : Option AObj) (ty : Tr (Nat × Nat)) (x0 : AV) (x1 : AV) (x2 : AV) (x3 : AV) (x4 : AV) (x5 : AV) (x6 : AV) (x7 : AV) (x8 : AV) (x9 : AV) (x10 : AV) (x11 : AV) (x12 : AV) (x13 : AV) (x14 : AV) (x15 : AV) (x16 : AV) (x17 : AV) (x18 : AV) (x19 : AV) (K : AV → Heap → Prop) (h :
 iteP (Int.ofNat i == (↑l.length : Int)) (False ∧ True)
 (iteP (inRange (Int.ofNat i) l.length)
 (iteP (decide ((0 : Int) ≤ Int.ofNat i) && decide (Int.ofNat i ≤ (↑l.length : Int)))
 (HdAl (List.drop (Int.ofNat i).toNat l) ∧
 ∀ (_ : Unit),
 True →
 iteP (byteAt l (Int.ofNat i) == (46 : Int)) (False ∧ True)
 (iteP (byteAt l (Int.ofNat i) == (91 : Int)) (False ∧ True)
 (iteP (byteAt l (Int.ofNat i) == (92 : Int)) (False ∧ True)
 (iteP (byteAt l (Int.ofNat i) == (93 : Int))
 (iteP
 (decide ((0 : Int) ≤ IntKind.i64.wrap (IntKind.i64.wrap (Int.ofNat i + (1 : Int)) - (1 : Int))) &&
 (decide
 (IntKind.i64.wrap (IntKind.i64.wrap (Int.ofNat i + (1 : Int)) - (1 : Int)) ≤
 IntKind.i64.wrap (Int.ofNat i + (1 : Int))) &&
 decide (IntKind.i64.wrap (Int.ofNat i + (1 : Int)) ≤ (↑l.length : Int))))
 (One
 (cutL l (IntKind.i64.wrap (IntKind.i64.wrap (Int.ofNat i + (1 : Int)) - (1 : Int)))
 (IntKind.i64.wrap (Int.ofNat i + (1 : Int)))) ∧
 ∀ (_ : Unit),
 True →
 K
 (AV.agg
 [AV.sc (Value.int IntKind.i64 (2 : Int)),
 AV.sc
 (Value.int IntKind.u64
 (wd
 (hdB
 (cutL l
 (IntKind.i64.wrap (IntKind.i64.wrap (Int.ofNat i + (1 : Int)) - (1 : Int)))
 (IntKind.i64.wrap (Int.ofNat i + (1 : Int)))))
 (0 : Nat))),
 AV.sc
 (Value.int IntKind.u64
 (wd
 (hdB
 (cutL l
 (IntKind.i64.wrap (IntKind.i64.wrap (Int.ofNat i + (1 : Int)) - (1 : Int)))
 (IntKind.i64.wrap (Int.ofNat i + (1 : Int)))))
 (1 : Nat))),
 AV.sc
 (Value.int IntKind.u64
 (wd
 (hdB
 (cutL l
 (IntKind.i64.wrap (IntKind.i64.wrap (Int.ofNat i + (1 : Int)) - (1 : Int)))
 (IntKind.i64.wrap (Int.ofNat i + (1 : Int)))))
 (2 : Nat))),
 AV.sc
 (Value.int IntKind.u64
 (wd
 (hdB
 (cutL l
 (IntKind.i64.wrap (IntKind.i64.wrap (Int.ofNat i + (1 : Int)) - (1 : Int)))
 (IntKind.i64.wrap (Int.ofNat i + (1 : Int)))))
 (3 : Nat))),
 AV.sc (Value.int IntKind.i64 (0 : Int)), AV.sc (Value.int IntKind.i64 (0 : Int)),
 AV.sc (Value.int IntKind.i64 (0 : Int)),
 AV.sc (Value.slice none (0 : Nat) (0 : Nat))])
 (Heap.mk (k + (2 : Nat))
 ((q.node
 (some
 (AObj.cells
 [AV.sc (Value.string (ByteArray.mk (Array.mk l))),
 AV.sc (Value.int IntKind.i64 (IntKind.i64.wrap (Int.ofNat i + (1 : Int)))),
 AV.sc (Value.bool false), AV.sc (Value.bool false), x0, x1, x2, x3, x4, x5,
 x6, x7, x8, x9, x10, x11, x12, x13, x14, x15, x16, x17, x18, x19]))
 r1).node
 v0 r0)
 (1 : Nat) ty))
 False)
 (iteP (byteAt l (Int.ofNat i) == (125 : Int))
 (iteP
 (decide
 ((0 : Int) ≤ IntKind.i64.wrap (IntKind.i64.wrap (Int.ofNat i + (1 : Int)) - (1 : Int))) &&
 (decide
 (IntKind.i64.wrap (IntKind.i64.wrap (Int.ofNat i + (1 : Int)) - (1 : Int)) ≤
 IntKind.i64.wrap (Int.ofNat i + (1 : Int))) &&
 decide (IntKind.i64.wrap (Int.ofNat i + (1 : Int)) ≤ (↑l.length : Int))))
 (One
 (cutL l (IntKind.i64.wrap (IntKind.i64.wrap (Int.ofNat i + (1 : Int)) - (1 : Int)))
 (IntKind.i64.wrap (Int.ofNat i + (1 : Int)))) ∧
 ∀ (_ : Unit),
 True →
 K
 (AV.agg
 [AV.sc (Value.int IntKind.i64 (2 : Int)),
 AV.sc
 (Value.int IntKind.u64
 (wd
 (hdB
 (cutL l
 (IntKind.i64.wrap
 (IntKind.i64.wrap (Int.ofNat i + (1 : Int)) - (1 : Int)))
 (IntKind.i64.wrap (Int.ofNat i + (1 : Int)))))
 (0 : Nat))),
 AV.sc
 (Value.int IntKind.u64
 (wd
 (hdB
 (cutL l
 (IntKind.i64.wrap
 (IntKind.i64.wrap (Int.ofNat i + (1 : Int)) - (1 : Int)))
 (IntKind.i64.wrap (Int.ofNat i + (1 : Int)))))
 (1 : Nat))),
 AV.sc
 (Value.int IntKind.u64
 (wd
 (hdB
 (cutL l
 (IntKind.i64.wrap
 (IntKind.i64.wrap (Int.ofNat i + (1 : Int)) - (1 : Int)))
 (IntKind.i64.wrap (Int.ofNat i + (1 : Int)))))
 (2 : Nat))),
 AV.sc
 (Value.int IntKind.u64
 (wd
 (hdB
 (cutL l
 (IntKind.i64.wrap
 (IntKind.i64.wrap (Int.ofNat i + (1 : Int)) - (1 : Int)))
 (IntKind.i64.wrap (Int.ofNat i + (1 : Int)))))
 (3 : Nat))),
 AV.sc (Value.int IntKind.i64 (0 : Int)), AV.sc (Value.int IntKind.i64 (0 : Int)),
 AV.sc (Value.int IntKind.i64 (0 : Int)),
 AV.sc (Value.slice none (0 : Nat) (0 : Nat))])
 (Heap.mk (k + (2 : Nat))
 ((q.node
 (some
 (AObj.cells
 [AV.sc (Value.string (ByteArray.mk (Array.mk l))),
 AV.sc
 (Value.int IntKind.i64 (IntKind.i64.wrap (Int.ofNat i + (1 : Int)))),
 AV.sc (Value.bool false), AV.sc (Value.bool false), x0, x1, x2, x3, x4,
 x5, x6, x7, x8, x9, x10, x11, x12, x13, x14, x15, x16, x17, x18, x19]))
 r1).node
 v0 r0)
 (1 : Nat) ty))
 False)
 (iteP (inRange (Int.ofNat i) l.length)
 (AlI (byteAt l (Int.ofNat i)) ∧
 ∀ (_ : Unit),
 True →
 iteP
 (decide
 ((0 : Int) ≤
 IntKind.i64.wrap (IntKind.i64.wrap (Int.ofNat i + (1 : Int)) - (1 : Int))) &&
 (decide
 (IntKind.i64.wrap (IntKind.i64.wrap (Int.ofNat i + (1 : Int)) - (1 : Int)) ≤
 IntKind.i64.wrap (Int.ofNat i + (1 : Int))) &&
 decide (IntKind.i64.wrap (Int.ofNat i + (1 : Int)) ≤ (↑l.length : Int))))
 (One
 (cutL l (IntKind.i64.wrap (IntKind.i64.wrap (Int.ofNat i + (1 : Int)) - (1 : Int)))
 (IntKind.i64.wrap (Int.ofNat i + (1 : Int)))) ∧
 ∀ (_ : Unit),
 True →
 K
 (AV.agg
 [AV.sc (Value.int IntKind.i64 (2 : Int)),
 AV.sc
 (Value.int IntKind.u64
 (wd
 (hdB
 (cutL l
 (IntKind.i64.wrap
 (IntKind.i64.wrap (Int.ofNat i + (1 : Int)) - (1 : Int)))
 (IntKind.i64.wrap (Int.ofNat i + (1 : Int)))))
 (0 : Nat))),
 AV.sc
 (Value.int IntKind.u64
 (wd
 (hdB
 (cutL l
 (IntKind.i64.wrap
 (IntKind.i64.wrap (Int.ofNat i + (1 : Int)) - (1 : Int)))
 (IntKind.i64.wrap (Int.ofNat i + (1 : Int)))))
 (1 : Nat))),
 AV.sc
 (Value.int IntKind.u64
 (wd
 (hdB
 (cutL l
 (IntKind.i64.wrap
 (IntKind.i64.wrap (Int.ofNat i + (1 : Int)) - (1 : Int)))
 (IntKind.i64.wrap (Int.ofNat i + (1 : Int)))))
 (2 : Nat))),
 AV.sc
 (Value.int IntKind.u64
 (wd
 (hdB
 (cutL l
 (IntKind.i64.wrap
 (IntKind.i64.wrap (Int.ofNat i + (1 : Int)) - (1 : Int)))
 (IntKind.i64.wrap (Int.ofNat i + (1 : Int)))))
 (3 : Nat))),
 AV.sc (Value.int IntKind.i64 (0 : Int)),
 AV.sc (Value.int IntKind.i64 (0 : Int)),
 AV.sc (Value.int IntKind.i64 (0 : Int)),
 AV.sc (Value.slice none (0 : Nat) (0 : Nat))])
 (Heap.mk (k + (2 : Nat))
 ((q.node
 (some
 (AObj.cells
 [AV.sc (Value.string (ByteArray.mk (Array.mk l))),
 AV.sc
 (Value.int IntKind.i64
 (IntKind.i64.wrap (Int.ofNat i + (1 : Int)))),
 AV.sc (Value.bool false), AV.sc (Value.bool false), x0, x1, x2,
 x3, x4, x5, x6, x7, x8, x9, x10, x11, x12, x13, x14, x15, x16,
 x17, x18, x19]))
 r1).node
 v0 r0)
 (1 : Nat) ty))
 False)
 False))))))
 False)
 False)) :
 (fun (l : List UInt8) (i k : Nat) (q r1 r0 : Tr AObj) (v0 : Option AObj) (ty : Tr (Nat × Nat)) (x0 x1 x2 x3 x4 x5 x6 x7 x8 x9 x10 x11 x12 x13 x14 x15 x16 x17 x18 x19 : AV) (K : AV → Heap → Prop) => wpCall T47 cfg Tryz.prog 60 47 [.ptr 1 0] (hG k q r1 r0 v0 ty (pC l i false [x0, x1, x2, x3, x4, x5, x6, x7, x8, x9, x10, x11, x12, x13, x14, x15, x16, x17, x18, x19])) fun r h' => K r h') l i k q r1 r0 v0 ty x0 x1 x2 x3 x4 x5 x6 x7 x8 x9 x10 x11 x12 x13 x14 x15 x16 x17 x18 x19 K :=
 Eq.mp (by kernel_rfl) h
end
end Go.Proofs.Rl
namespace Go.Proofs.Rl
open Go Go.Ef
noncomputable section
set_option maxRecDepth 1000000
theorem callP_plain {call : CallF} {g : FuncId} {args : List AV} {h : Heap} (hp : cfg.prim g = none) (hf : cfg.fresh g = false) (hi : cfg.imp g = false) : callP cfg call g args h = call g args h := by
 unfold callP
 rw [hp]; simp only []; rw [hf]; simp only [cond_false]; rw [hi]; rfl
theorem fresh_at {T' : Tab} {g : FuncId} {args args' : List AV} {v : AV} (O' : Ok T') (h : Heap) (hf : cfg.fresh g = true) (hp : cfg.prim g = none) (ha : mapO (stripA 8) args = some args')
  (H : wpCall T' cfg Tryz.prog 60 g args' heapF fun r h' => wpBack h' r fun y => y = v) : ∃ m, callP cfg (evCall cfg Tryz.prog m) g args h = some (v, h) := by
 obtain ⟨m, v', h', e, rfl, rfl⟩ := EvP.freshV (g := g) (args := args) (h := h) (v := v) O' (n := 60) hf hp (args' := args') ha H
 exact ⟨m, e⟩
theorem al_ne {b c : UInt8} (hb : isAl b = true) (hc : isAl c = false) : b ≠ c := by
 intro e; subst e; rw [hb] at hc; cases hc
theorem has_no {b c : UInt8} {s r : List UInt8} (hb : isAl b = true) (hc : isAl c = false) (h : Heap) : ∃ m, callP cfg (evCall cfg Tryz.prog m) 33 [aStr (b :: s), aStr (c :: r)] h = some (bA false, h) := by
 refine fresh_at (T' := tab0) tab0_ok h rfl rfl rfl (v33 b c s r _ ?_)
 by_cases h1 : ((c :: r).length : Int) ≤ ((b :: s).length : Int)
 ·refine it (dt h1) (it ?_ (ie (df ?_) rfl))
  ·rw [Bool.and_eq_true]; exact ⟨dt (by omega), dt h1⟩
  ·intro e
   rw [Int.toNat_natCast, List.length_cons, List.take_succ_cons] at e
   exact al_ne hb hc (List.cons.inj e).1
 ·exact ie (df h1) rfl
theorem okC33 {T : Tab} (O : Ok T) : Ok (T.addC 33 C33) := by
 refine addC_ok O fun args h s hs hp => ?_
 unfold C33 at hs
 split at hs
 ·rename_i b s' c r
  cases hs
  replace hp : (bif isAl c then False else Al b) := hp
  cases hc : isAl c with
  | true => rw [hc] at hp; exact hp.elim
  | false =>
   rw [hc] at hp
   obtain ⟨m, e⟩ := has_no (s := s') (r := r) (Al.is hp) hc h
   exact ⟨_, List.mem_singleton.2 rfl, (), m, trivial, e⟩
 ·rename_i c r
  cases hs
  obtain ⟨m, e⟩ := fresh_at (T' := tab0) (args := [aStr [], aStr (c :: r)]) (v := bA false) tab0_ok h rfl rfl rfl (v33n c r _ rfl)
  exact ⟨_, List.mem_singleton.2 rfl, (), m, trivial, e⟩
 ·cases hs
theorem okD33 {T : Tab} (O : Ok T) : Ok (T.addC 33 D33) := by
 refine addC_ok O fun args h s hs hp => ?_
 unfold D33 at hs
 split at hs
 ·rename_i s' c r
  cases hs
  replace hp : (bif isAl c then False else HdAl s') := hp
  cases hc : isAl c with
  | true => rw [hc] at hp; exact hp.elim
  | false =>
   rw [hc] at hp
   obtain ⟨b, s'', rfl, hb⟩ := HdAl.is hp
   obtain ⟨m, e⟩ := has_no (s := s'') (r := r) hb hc h
   exact ⟨_, List.mem_singleton.2 rfl, (), m, trivial, e⟩
 ·cases hs
theorem ok50 {T : Tab} (O : Ok T) : Ok (T.addC 50 C50) := by
 refine addC_ok O fun args h s hs hp => ?_
 unfold C50 at hs
 split at hs
 ·rename_i o a b c d x y z els
  cases hs
  replace hp : (bif eqI o 3 && (z7 a b c d x y z && two2 els) then FlatA _ else False) := hp
  cases hc : eqI o 3 && (z7 a b c d x y z && two2 els) with
  | false => rw [hc] at hp; exact hp.elim
  | true =>
   rw [hc] at hp
   simp only [z7, Bool.and_eq_true] at hc
   obtain ⟨h0, ⟨⟨h1, h2, h3, h4⟩, h5, h6, h7⟩, h8⟩ := hc
   obtain rfl := eqI_ok _ _ h0
   obtain rfl := eqI_ok _ _ h1
   obtain rfl := eqI_ok _ _ h2
   obtain rfl := eqI_ok _ _ h3
   obtain rfl := eqI_ok _ _ h4
   obtain rfl := eqA_ok _ _ _ h5
   obtain rfl := eqA_ok _ _ _ h6
   obtain rfl := eqA_ok _ _ _ h7
   unfold two2 at h8
   split at h8
   ·rename_i e f r
    obtain ⟨m, k⟩ := fresh_at (T' := tab0) (args := [.agg [iA 3, uA 0, uA 0, uA 0, uA 0, iA 0, iA 0, iA 0, .sl (e :: f :: r) 0]]) (v := bA true) tab0_ok h rfl rfl (FlatA.is hp) (v50 e f r _ (it (dt (by simp only [List.length_cons]; omega)) rfl))
    exact ⟨_, List.mem_singleton.2 rfl, (), m, trivial, k⟩
   ·cases h8
 ·rename_i o a b c d x y z u _
  cases hs
  replace hp : (bif eqI o 2 && z4 x y z u then NZ a b c d else False) := hp
  cases hc : eqI o 2 && z4 x y z u with
  | false => rw [hc] at hp; exact hp.elim
  | true =>
   rw [hc] at hp
   simp only [z4, Bool.and_eq_true] at hc
   obtain ⟨h0, h1, h2, h3, h4⟩ := hc
   obtain rfl := eqI_ok _ _ h0
   obtain rfl := eqA_ok _ _ _ h1
   obtain rfl := eqA_ok _ _ _ h2
   obtain rfl := eqA_ok _ _ _ h3
   obtain rfl := eqA_ok _ _ _ h4
   obtain ⟨w, hw, rfl, rfl, rfl, rfl⟩ := NZ.is hp
   have := byte_all (p := fun c => (!isAl c) || ans 50 [.agg (rowR c)] (bA true)) all50 w
   simp only [hw, Bool.not_true, Bool.false_or] at this
   exact ⟨_, List.mem_singleton.2 rfl, (), 100, trivial, ans_ok this rfl rfl h⟩
 ·cases hs
theorem hG_of {h : Heap} {rec : List AV} (hr : h.ro = 1) (hg : h.get 1 = some (.cells rec)) : ∃ k q r1 r0 v0 ty, h = hG k q r1 r0 v0 ty rec := by
 obtain ⟨nx, ob, ro, ty⟩ := h
 have hr' : ro = 1 := hr
 subst hr'
 have hb : Nat.blt 1 nx = true := by
  cases hb : Nat.blt 1 nx with
  | true => rfl
  | false => simp only [Heap.get, hb, cond_false] at hg; cases hg
 have hn : 2 ≤ nx := Nat.le_of_ble_eq_true hb
 have h2 : ob.get 1 = some (.cells rec) := by
  simp only [Heap.get, hb, cond_true] at hg; exact hg
 obtain ⟨k, rfl⟩ : ∃ k, nx = k + 2 := ⟨nx - 2, by omega⟩
 cases ob with
 | leaf => cases h2
 | node l v0 r0 =>
  have h3 : l.get 0 = some (.cells rec) := h2
  cases l with
  | leaf => cases h3
  | node q v r1 =>
   have h5 : v = some (.cells rec) := h3
   subst h5
   exact ⟨k, q, r1, r0, v0, ty, rfl⟩
end
end Go.Proofs.Rl
namespace Go.Proofs.Rl
open Go Go.Ef
noncomputable section
set_option maxRecDepth 1000000
theorem okNo {T : Tab} (O : Ok T) {g : FuncId} : Ok (T.addC g CNo) :=
 addC_ok O fun args h s hs hp => by
  unfold CNo at hs
  cases hs
  exact hp.elim
theorem ok47T : Ok T47 := by
 have := okNo (okNo (okNo (okNo (okNo (ok90 (ok80 (okD33 tab0_ok)) ) (g := 63)) (g := 64)) (g := 65)) (g := 66)) (g := 22)
 exact ⟨this.call, this.loop⟩
theorem cut_one {l : List UInt8} {i : Nat} {b : UInt8} {r : List UInt8} (h : l.drop i = b :: r) : cutL l (i : Int) ((i : Int) + 1) = [b] := by
 unfold cutL
 rw [show ((i : Int) + 1).toNat = i + 1 by omega, Int.toNat_natCast, List.drop_take, h, show i + 1 - i = 1 by omega]
 rfl
theorem at47 (l : List UInt8) (i k : Nat) (e : Bool) (q r1 r0 : Tr AObj) (v0 : Option AObj) (ty : Tr (Nat × Nat)) (x0 x1 x2 x3 x4 x5 x6 x7 x8 x9 x10 x11 x12 x13 x14 x15 x16 x17 x18 x19 : AV) (b : UInt8) (r : List UInt8) (hd : l.drop i = b :: r) (hb : isAl b = true) (hl : l.length ≤ 300) :
  wpCall T47 cfg Tryz.prog 60 47 [.ptr 1 0] (hG k q r1 r0 v0 ty (pC l i e [x0, x1, x2, x3, x4, x5, x6, x7, x8, x9, x10, x11, x12, x13, x14, x15, x16, x17, x18, x19])) fun v h' => v = .agg (rowR b) ∧ h' = hG k q r1 r0 v0 ty (pC l (i + 1) e [x0, x1, x2, x3, x4, x5, x6, x7, x8, x9, x10, x11, x12, x13, x14, x15, x16, x17, x18, x19]) := by
 have hd' : l.drop (Int.ofNat i).toNat = b :: r := hd
 obtain ⟨ha, hi, _⟩ := byteAt_drop (k := Int.ofNat i) hd'
 replace hi : i < l.length := hi
 have c0 : (Int.ofNat i == (l.length : Int)) = false := by
  rw [beq_eq_false_iff_ne]
  intro e
  have : (i : Int) = l.length := e
  omega
 have c1 : inRange (Int.ofNat i) l.length = true := by
  rw [inRange_iff]; exact ⟨Int.natCast_nonneg i, by show (i : Int) < _; omega⟩
 have c2 : (decide ((0 : Int) ≤ Int.ofNat i) && decide (Int.ofNat i ≤ (l.length : Int))) = true := by
  rw [Bool.and_eq_true]; exact ⟨dt (Int.natCast_nonneg i), dt (by show (i : Int) ≤ _; omega)⟩
 have ne : ∀ c : UInt8, isAl c = false → (byteAt l (Int.ofNat i) == (c.toNat : Int)) = false := by
  intro c hc
  rw [ha, beq_eq_false_iff_ne]
  intro e
  have e' : b.toNat = c.toNat := by omega
  exact al_ne hb hc (UInt8.toNat_inj.1 e')
 have w1 : IntKind.i64.wrap (Int.ofNat i + 1) = (i : Int) + 1 := wrap_in (by show _ ≤ (i : Int) + 1; omega) (by show (i : Int) + 1 ≤ _; omega)
 have w2 : IntKind.i64.wrap ((i : Int) + 1 - 1) = (i : Int) := by rw [show (i : Int) + 1 - 1 = i by omega]; exact wrap_in (by omega) (by omega)
 have c3 : (decide ((0 : Int) ≤ (i : Int)) && (decide ((i : Int) ≤ (i : Int) + 1) && decide ((i : Int) + 1 ≤ (l.length : Int)))) = true := by
  rw [Bool.and_eq_true, Bool.and_eq_true]; exact ⟨dt (by omega), dt (by omega), dt (by omega)⟩
 have one : One (cutL l (i : Int) ((i : Int) + 1)) := ⟨b, hb, cut_one hd⟩
 cases e with
 | true =>
  refine v47t l i k q r1 r0 v0 ty x0 x1 x2 x3 x4 x5 x6 x7 x8 x9 x10 x11 x12 x13 x14 x15 x16 x17 x18 x19 _ ?_
  rw [w1, w2]
  refine ie c0 (it c1 (it c2 ⟨⟨b, r, hd', hb⟩, fun _ _ => ie (ne 46 rfl) (ie (ne 91 rfl) (ie (ne 92 rfl) (ie (ne 93 rfl) (ie (ne 125 rfl) (it c1 ⟨⟨b, hb, ha⟩, fun _ _ => it c3 ⟨one, fun _ _ => ?_⟩⟩)))))⟩))
  rw [cut_one hd]
  exact ⟨rfl, rfl⟩
 | false =>
  refine v47f l i k q r1 r0 v0 ty x0 x1 x2 x3 x4 x5 x6 x7 x8 x9 x10 x11 x12 x13 x14 x15 x16 x17 x18 x19 _ ?_
  rw [w1, w2]
  refine ie c0 (it c1 (it c2 ⟨⟨b, r, hd', hb⟩, fun _ _ => ie (ne 46 rfl) (ie (ne 91 rfl) (ie (ne 92 rfl) (ie (ne 93 rfl) (ie (ne 125 rfl) (it c1 ⟨⟨b, hb, ha⟩, fun _ _ => it c3 ⟨one, fun _ _ => ?_⟩⟩)))))⟩))
  rw [cut_one hd]
  exact ⟨rfl, rfl⟩
theorem ok47 {T : Tab} (O : Ok T) : Ok (T.addC 47 C47) := by
 refine addC_ok O fun args h s hs hp => ?_
 unfold C47 at hs
 split at hs
 ·split at hs
  ·rename_i l i e x0 x1 x2 x3 x4 x5 x6 x7 x8 x9 x10 x11 x12 x13 x14 x15 x16 x17 x18 x19 hg
   split at hs
   ·rename_i b r h' hd hput
    cases hs
    have hr : h.ro = 1 := by
     cases hq : Nat.beq h.ro 1 with
     | true => exact Nat.eq_of_beq_eq_true hq
     | false => rw [hq] at hg; cases hg
    rw [hr] at hg
    replace hg : h.get 1 = _ := hg
    have hl : l.length ≤ 300 := by
     cases hq : Nat.ble l.length 300 with
     | true => exact Nat.le_of_ble_eq_true hq
     | false => rw [hq] at hd; cases hd
    have hd2 : l.drop i = b :: r := by
     rw [show Nat.ble l.length 300 = true from Nat.ble_eq_true_of_le hl] at hd; exact hd
    obtain ⟨k, q, r1, r0, v0, ty, rfl⟩ := hG_of hr hg
    obtain ⟨m, v, h2, e1, rfl, rfl⟩ := call_okW ok47T 60 47 _ _ _ (at47 l i k e q r1 r0 v0 ty x0 x1 x2 x3 x4 x5 x6 x7 x8 x9 x10 x11 x12 x13 x14 x15 x16 x17 x18 x19 b r hd2 (Al.is hp) hl)
    have e2 : h' = hG k q r1 r0 v0 ty (pC l (i + 1) e [x0, x1, x2, x3, x4, x5, x6, x7, x8, x9, x10, x11, x12, x13, x14, x15, x16, x17, x18, x19]) := by
     cases hput; rfl
    subst e2
    exact ⟨_, List.mem_singleton.2 rfl, (), m, trivial, by rw [callP_plain rfl rfl rfl]; exact e1⟩
   ·cases hs
  ·cases hs
 ·cases hs
theorem okTPa : Ok TPa := ok90 (ok80 (ok47 (okC33 tab0_ok)))
theorem okTTr : Ok TTr := ok50 tab0_ok
end
end Go.Proofs.Rl
