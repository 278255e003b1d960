/- A part of the proof: definitions and lemmas. -/
import Derived.Test.YtlegmhhgkpdheaaGreatDoorLevelsA
import Derived.Test.YtlegmhhgkpdheaaGreatDoorLevelsB
import Derived.Test.YtlegmhhgkpdheaaGreatDoorLevelsC
import Derived.Test.YtlegmhhgkpdheaaGreatDoorLevelsD
import Derived.Test.YtlegmhhgkpdheaaGreatDoorLevelsE
import Derived.Test.YtlegmhhgkpdheaaGreatDoorLevelsF
import Derived.Test.YtlegmhhgkpdheaaGreatDoorLevelsK
namespace Go.Proofs.Sc
open Go Go.Ef
noncomputable section
set_option maxRecDepth 100000
theorem yse (level : Int) (loop : Bool) (Y2 : List AV) (K : AV → Heap → Prop) (h :
 K (AV.sc (Value.bool true))
 (Heap.mk ((Nat.add (1 : Nat) (1 : Nat)).add (1 : Nat)).succ
 (((Tr.leaf.node
 (some (AObj.cells [AV.sc (Value.int IntKind.i64 (0 : Int)), AV.sc (Value.int IntKind.i64 (0 : Int))]))
 Tr.leaf).node
 (some (AObj.cells [AV.fn (Fn.func (21 : Nat)) [] [AV.ptr (3 : Nat) (0 : Nat)]])) Tr.leaf).node
 none
 (Tr.leaf.node
 (some
 (AObj.cells
 [AV.sc (Value.int IntKind.i64 (1 : Int)), AV.sc (Value.string (ByteArray.mk (Array.mk []))),
 AV.sc (Value.string (ByteArray.mk (Array.mk []))), AV.sl [Y2] (0 : Nat),
 AV.sc (Value.slice none (0 : Nat) (0 : Nat)), AV.sc (Value.slice none (0 : Nat) (0 : Nat)),
 AV.sc (Value.bool false), AV.sc (Value.int IntKind.i64 (500 : Int))]))
 Tr.leaf))
 ((Nat.add (1 : Nat) (1 : Nat)).add (1 : Nat)).succ Tr.leaf)) :
 (fun (level : Int) (loop : Bool) (Y2 : List AV) (K : AV → Heap → Prop) => wpCall tabX cfgI Tryz.prog 60 47 [vS, nilA, wA level loop, (fnA 56 [.ptr 2 0])] (hS1 (exprC Y2)) K) level loop Y2 K :=
 Eq.mp (by kernel_rfl) h
theorem yne (level : Int) (loop : Bool) (R : List AV) (Y2 : List AV) (K : AV → Heap → Prop) (h :
 K (AV.sc (Value.bool true))
 (Heap.mk
 ((((((Nat.add (1 : Nat) (1 : Nat)).add (1 : Nat)).add (1 : Nat)).add (1 : Nat)).add (1 : Nat)).add (1 : Nat)).succ
 ((((Tr.leaf.node (some (AObj.map [])) Tr.leaf).node (some (AObj.cells [AV.mp (7 : Nat)])) Tr.leaf).node
 (some (AObj.cells [AV.fn (Fn.func (32 : Nat)) [] [AV.ptr (5 : Nat) (0 : Nat)]]))
 (Tr.leaf.node
 (some (AObj.cells [AV.sc (Value.int IntKind.i64 (0 : Int)), AV.sc (Value.int IntKind.i64 (0 : Int))]))
 Tr.leaf)).node
 none
 ((Tr.leaf.node (some (AObj.cells [AV.sl [R] (0 : Nat), AV.sc (Value.slice none (0 : Nat) (0 : Nat))]))
 Tr.leaf).node
 (some (AObj.cells [AV.fn (Fn.func (33 : Nat)) [] [AV.ptr (3 : Nat) (0 : Nat), AV.ptr (4 : Nat) (0 : Nat)]]))
 (Tr.leaf.node
 (some
 (AObj.cells
 [AV.sc (Value.int IntKind.i64 (1 : Int)), AV.sc (Value.string (ByteArray.mk (Array.mk []))),
 AV.sc (Value.string (ByteArray.mk (Array.mk []))), AV.sl [Y2] (0 : Nat),
 AV.sc (Value.slice none (0 : Nat) (0 : Nat)), AV.sc (Value.slice none (0 : Nat) (0 : Nat)),
 AV.sc (Value.bool false), AV.sc (Value.int IntKind.i64 (500 : Int))]))
 Tr.leaf)))
 ((((((Nat.add (1 : Nat) (1 : Nat)).add (1 : Nat)).add (1 : Nat)).add (1 : Nat)).add (1 : Nat)).add (1 : Nat)).succ
 Tr.leaf)) :
 (fun (level : Int) (loop : Bool) (R Y2 : List AV) (K : AV → Heap → Prop) => wpCall tabX cfgI Tryz.prog 60 47 [vN, nilA, wA level loop, (fnA 56 [.ptr 6 0])] (hN1 R (exprC Y2)) K) level loop R Y2 K :=
 Eq.mp (by kernel_rfl) h
theorem yue (level : Int) (loop : Bool) (Y2 : List AV) (K : AV → Heap → Prop) (h :
 K (AV.sc (Value.bool true))
 (Heap.mk (((Nat.add (1 : Nat) (1 : Nat)).add (1 : Nat)).add (1 : Nat)).succ
 (((Tr.leaf.node
 (some
 (AObj.cells
 [AV.sc (Value.int IntKind.i64 (1 : Int)), AV.sc (Value.string (ByteArray.mk (Array.mk []))),
 AV.sc (Value.string (ByteArray.mk (Array.mk []))), AV.sl [Y2] (0 : Nat),
 AV.sc (Value.slice none (0 : Nat) (0 : Nat)), AV.sc (Value.slice none (0 : Nat) (0 : Nat)),
 AV.sc (Value.bool false), AV.sc (Value.int IntKind.i64 (500 : Int))]))
 Tr.leaf).node
 (some (AObj.cells [AV.mp (4 : Nat)])) Tr.leaf).node
 none
 ((Tr.leaf.node (some (AObj.map [])) Tr.leaf).node
 (some (AObj.cells [AV.sc (Value.slice none (0 : Nat) (0 : Nat))])) Tr.leaf))
 (((Nat.add (1 : Nat) (1 : Nat)).add (1 : Nat)).add (1 : Nat)).succ Tr.leaf)) :
 (fun (level : Int) (loop : Bool) (Y2 : List AV) (K : AV → Heap → Prop) => wpCall tabX cfgI Tryz.prog 60 47 [vU, nilA, wA level loop, (fnA 56 [.ptr 3 0])] (hU1 (exprC Y2)) K) level loop Y2 K :=
 Eq.mp (by kernel_rfl) h
theorem es0 (m : Nat) (level : Int) (loop : Bool) (Y : List AV) (K : AV → Heap → Prop) (h :
 iteP loop
 (iteP (decide ((32 : Int) < level)) False
 (Vis1 (100 : Nat)
 [AV.agg
 [AV.fn (Fn.func (22 : Nat)) [] [AV.ptr (1 : Nat) (0 : Nat)],
 AV.fn (Fn.func (24 : Nat)) [] [AV.ptr (1 : Nat) (0 : Nat)]],
 AV.sl [Y] (0 : Nat),
 AV.agg
 [AV.sc (Value.int IntKind.i64 (IntKind.i64.wrap (level + (1 : Int)))),
 AV.sc (Value.int IntKind.i64 (3 : Int)), AV.sc (Value.int IntKind.i64 (-1 : Int)),
 AV.sc (Value.bool true)],
 AV.sc (Value.pointer none)]
 (Heap.mk (4 : Nat)
 (((Tr.leaf.node
 (some
 (AObj.cells
 [AV.sc (Value.int IntKind.i64 (1 : Int)), AV.sc (Value.string (ByteArray.mk (Array.mk []))),
 AV.sc (Value.string (ByteArray.mk (Array.mk []))), AV.sl [Y] (0 : Nat),
 AV.sc (Value.slice none (0 : Nat) (0 : Nat)), AV.sc (Value.slice none (0 : Nat) (0 : Nat)),
 AV.sc (Value.bool false), AV.sc (Value.int IntKind.i64 (500 : Int))]))
 Tr.leaf).node
 (some (AObj.cells [AV.fn (Fn.func (21 : Nat)) [] [AV.ptr (2 : Nat) (0 : Nat)]])) Tr.leaf).node
 none
 (Tr.leaf.node
 (some (AObj.cells [AV.sc (Value.int IntKind.i64 (0 : Int)), AV.sc (Value.int IntKind.i64 (0 : Int))]))
 Tr.leaf))
 (3 : Nat) (((Tr.leaf.node (some ((29 : Nat), (8 : Nat))) Tr.leaf).node none Tr.leaf).node none Tr.leaf)) ∧
 ∀ (_ : Unit),
 True →
 Vis0
 [AV.agg
 [AV.fn (Fn.func (22 : Nat)) [] [AV.ptr (1 : Nat) (0 : Nat)],
 AV.fn (Fn.func (24 : Nat)) [] [AV.ptr (1 : Nat) (0 : Nat)]],
 AV.sc (Value.slice none (0 : Nat) (0 : Nat)),
 AV.agg
 [AV.sc (Value.int IntKind.i64 (IntKind.i64.wrap (level + (1 : Int)))),
 AV.sc (Value.int IntKind.i64 (3 : Int)), AV.sc (Value.int IntKind.i64 (-1 : Int)),
 AV.sc (Value.bool true)],
 AV.sc (Value.pointer none)]
 (Heap.mk (4 : Nat)
 (((Tr.leaf.node
 (some
 (AObj.cells
 [AV.sc (Value.int IntKind.i64 (1 : Int)),
 AV.sc (Value.string (ByteArray.mk (Array.mk []))),
 AV.sc (Value.string (ByteArray.mk (Array.mk []))), AV.sl [Y] (0 : Nat),
 AV.sc (Value.slice none (0 : Nat) (0 : Nat)),
 AV.sc (Value.slice none (0 : Nat) (0 : Nat)), AV.sc (Value.bool false),
 AV.sc (Value.int IntKind.i64 (500 : Int))]))
 Tr.leaf).node
 (some (AObj.cells [AV.fn (Fn.func (21 : Nat)) [] [AV.ptr (2 : Nat) (0 : Nat)]])) Tr.leaf).node
 none
 (Tr.leaf.node
 (some
 (AObj.cells [AV.sc (Value.int IntKind.i64 (0 : Int)), AV.sc (Value.int IntKind.i64 (0 : Int))]))
 Tr.leaf))
 (3 : Nat)
 (((Tr.leaf.node (some ((29 : Nat), (8 : Nat))) Tr.leaf).node none Tr.leaf).node none Tr.leaf)) ∧
 ∀ (_ : Unit),
 True →
 Sta0
 [AV.agg
 [AV.fn (Fn.func (22 : Nat)) [] [AV.ptr (1 : Nat) (0 : Nat)],
 AV.fn (Fn.func (24 : Nat)) [] [AV.ptr (1 : Nat) (0 : Nat)]],
 AV.sc (Value.slice none (0 : Nat) (0 : Nat)),
 AV.agg
 [AV.sc (Value.int IntKind.i64 (IntKind.i64.wrap (level + (1 : Int)))),
 AV.sc (Value.int IntKind.i64 (3 : Int)), AV.sc (Value.int IntKind.i64 (-1 : Int)),
 AV.sc (Value.bool true)],
 AV.fn (Fn.func (56 : Nat)) [] [AV.ptr (Nat.succ (2 : Nat)) (0 : Nat)]]
 (Heap.mk (4 : Nat)
 (((Tr.leaf.node
 (some
 (AObj.cells
 [AV.sc (Value.int IntKind.i64 (1 : Int)),
 AV.sc (Value.string (ByteArray.mk (Array.mk []))),
 AV.sc (Value.string (ByteArray.mk (Array.mk []))), AV.sl [Y] (0 : Nat),
 AV.sc (Value.slice none (0 : Nat) (0 : Nat)),
 AV.sc (Value.slice none (0 : Nat) (0 : Nat)), AV.sc (Value.bool false),
 AV.sc (Value.int IntKind.i64 (500 : Int))]))
 Tr.leaf).node
 (some (AObj.cells [AV.fn (Fn.func (21 : Nat)) [] [AV.ptr (2 : Nat) (0 : Nat)]]))
 Tr.leaf).node
 none
 (Tr.leaf.node
 (some
 (AObj.cells
 [AV.sc (Value.int IntKind.i64 (0 : Int)), AV.sc (Value.int IntKind.i64 (0 : Int))]))
 Tr.leaf))
 (3 : Nat)
 (((Tr.leaf.node (some ((29 : Nat), (8 : Nat))) Tr.leaf).node none Tr.leaf).node none Tr.leaf)) ∧
 ∀ (_ : Unit),
 True →
 K (AV.sc (Value.bool true))
 (Heap.mk (4 : Nat)
 (((Tr.leaf.node
 (some
 (AObj.cells
 [AV.sc (Value.int IntKind.i64 (1 : Int)),
 AV.sc (Value.string (ByteArray.mk (Array.mk []))),
 AV.sc (Value.string (ByteArray.mk (Array.mk []))), AV.sl [Y] (0 : Nat),
 AV.sc (Value.slice none (0 : Nat) (0 : Nat)),
 AV.sc (Value.slice none (0 : Nat) (0 : Nat)), AV.sc (Value.bool false),
 AV.sc (Value.int IntKind.i64 (500 : Int))]))
 Tr.leaf).node
 (some (AObj.cells [AV.fn (Fn.func (21 : Nat)) [] [AV.ptr (2 : Nat) (0 : Nat)]]))
 Tr.leaf).node
 none
 (Tr.leaf.node
 (some
 (AObj.cells
 [AV.sc (Value.int IntKind.i64 (0 : Int)), AV.sc (Value.int IntKind.i64 (0 : Int))]))
 Tr.leaf))
 (3 : Nat)
 (((Tr.leaf.node (some ((29 : Nat), (8 : Nat))) Tr.leaf).node none Tr.leaf).node none
 Tr.leaf))))
 (iteP (decide ((32 : Int) < level)) False
 (Vis1 (100 : Nat)
 [AV.agg
 [AV.fn (Fn.func (22 : Nat)) [] [AV.ptr (1 : Nat) (0 : Nat)],
 AV.fn (Fn.func (24 : Nat)) [] [AV.ptr (1 : Nat) (0 : Nat)]],
 AV.sl [Y] (0 : Nat),
 AV.agg
 [AV.sc (Value.int IntKind.i64 (IntKind.i64.wrap (level + (1 : Int)))),
 AV.sc (Value.int IntKind.i64 (3 : Int)), AV.sc (Value.int IntKind.i64 (-1 : Int)),
 AV.sc (Value.bool false)],
 AV.sc (Value.pointer none)]
 (Heap.mk (4 : Nat)
 (((Tr.leaf.node
 (some
 (AObj.cells
 [AV.sc (Value.int IntKind.i64 (1 : Int)), AV.sc (Value.string (ByteArray.mk (Array.mk []))),
 AV.sc (Value.string (ByteArray.mk (Array.mk []))), AV.sl [Y] (0 : Nat),
 AV.sc (Value.slice none (0 : Nat) (0 : Nat)), AV.sc (Value.slice none (0 : Nat) (0 : Nat)),
 AV.sc (Value.bool false), AV.sc (Value.int IntKind.i64 (500 : Int))]))
 Tr.leaf).node
 (some (AObj.cells [AV.fn (Fn.func (21 : Nat)) [] [AV.ptr (2 : Nat) (0 : Nat)]])) Tr.leaf).node
 none
 (Tr.leaf.node
 (some (AObj.cells [AV.sc (Value.int IntKind.i64 (0 : Int)), AV.sc (Value.int IntKind.i64 (0 : Int))]))
 Tr.leaf))
 (3 : Nat) (((Tr.leaf.node (some ((29 : Nat), (8 : Nat))) Tr.leaf).node none Tr.leaf).node none Tr.leaf)) ∧
 ∀ (_ : Unit),
 True →
 Vis0
 [AV.agg
 [AV.fn (Fn.func (22 : Nat)) [] [AV.ptr (1 : Nat) (0 : Nat)],
 AV.fn (Fn.func (24 : Nat)) [] [AV.ptr (1 : Nat) (0 : Nat)]],
 AV.sc (Value.slice none (0 : Nat) (0 : Nat)),
 AV.agg
 [AV.sc (Value.int IntKind.i64 (IntKind.i64.wrap (level + (1 : Int)))),
 AV.sc (Value.int IntKind.i64 (3 : Int)), AV.sc (Value.int IntKind.i64 (-1 : Int)),
 AV.sc (Value.bool false)],
 AV.sc (Value.pointer none)]
 (Heap.mk (4 : Nat)
 (((Tr.leaf.node
 (some
 (AObj.cells
 [AV.sc (Value.int IntKind.i64 (1 : Int)),
 AV.sc (Value.string (ByteArray.mk (Array.mk []))),
 AV.sc (Value.string (ByteArray.mk (Array.mk []))), AV.sl [Y] (0 : Nat),
 AV.sc (Value.slice none (0 : Nat) (0 : Nat)),
 AV.sc (Value.slice none (0 : Nat) (0 : Nat)), AV.sc (Value.bool false),
 AV.sc (Value.int IntKind.i64 (500 : Int))]))
 Tr.leaf).node
 (some (AObj.cells [AV.fn (Fn.func (21 : Nat)) [] [AV.ptr (2 : Nat) (0 : Nat)]])) Tr.leaf).node
 none
 (Tr.leaf.node
 (some
 (AObj.cells [AV.sc (Value.int IntKind.i64 (0 : Int)), AV.sc (Value.int IntKind.i64 (0 : Int))]))
 Tr.leaf))
 (3 : Nat)
 (((Tr.leaf.node (some ((29 : Nat), (8 : Nat))) Tr.leaf).node none Tr.leaf).node none Tr.leaf)) ∧
 ∀ (_ : Unit),
 True →
 Sta0
 [AV.agg
 [AV.fn (Fn.func (22 : Nat)) [] [AV.ptr (1 : Nat) (0 : Nat)],
 AV.fn (Fn.func (24 : Nat)) [] [AV.ptr (1 : Nat) (0 : Nat)]],
 AV.sc (Value.slice none (0 : Nat) (0 : Nat)),
 AV.agg
 [AV.sc (Value.int IntKind.i64 (IntKind.i64.wrap (level + (1 : Int)))),
 AV.sc (Value.int IntKind.i64 (3 : Int)), AV.sc (Value.int IntKind.i64 (-1 : Int)),
 AV.sc (Value.bool false)],
 AV.fn (Fn.func (56 : Nat)) [] [AV.ptr (Nat.succ (2 : Nat)) (0 : Nat)]]
 (Heap.mk (4 : Nat)
 (((Tr.leaf.node
 (some
 (AObj.cells
 [AV.sc (Value.int IntKind.i64 (1 : Int)),
 AV.sc (Value.string (ByteArray.mk (Array.mk []))),
 AV.sc (Value.string (ByteArray.mk (Array.mk []))), AV.sl [Y] (0 : Nat),
 AV.sc (Value.slice none (0 : Nat) (0 : Nat)),
 AV.sc (Value.slice none (0 : Nat) (0 : Nat)), AV.sc (Value.bool false),
 AV.sc (Value.int IntKind.i64 (500 : Int))]))
 Tr.leaf).node
 (some (AObj.cells [AV.fn (Fn.func (21 : Nat)) [] [AV.ptr (2 : Nat) (0 : Nat)]]))
 Tr.leaf).node
 none
 (Tr.leaf.node
 (some
 (AObj.cells
 [AV.sc (Value.int IntKind.i64 (0 : Int)), AV.sc (Value.int IntKind.i64 (0 : Int))]))
 Tr.leaf))
 (3 : Nat)
 (((Tr.leaf.node (some ((29 : Nat), (8 : Nat))) Tr.leaf).node none Tr.leaf).node none Tr.leaf)) ∧
 ∀ (_ : Unit),
 True →
 K (AV.sc (Value.bool true))
 (Heap.mk (4 : Nat)
 (((Tr.leaf.node
 (some
 (AObj.cells
 [AV.sc (Value.int IntKind.i64 (1 : Int)),
 AV.sc (Value.string (ByteArray.mk (Array.mk []))),
 AV.sc (Value.string (ByteArray.mk (Array.mk []))), AV.sl [Y] (0 : Nat),
 AV.sc (Value.slice none (0 : Nat) (0 : Nat)),
 AV.sc (Value.slice none (0 : Nat) (0 : Nat)), AV.sc (Value.bool false),
 AV.sc (Value.int IntKind.i64 (500 : Int))]))
 Tr.leaf).node
 (some (AObj.cells [AV.fn (Fn.func (21 : Nat)) [] [AV.ptr (2 : Nat) (0 : Nat)]]))
 Tr.leaf).node
 none
 (Tr.leaf.node
 (some
 (AObj.cells
 [AV.sc (Value.int IntKind.i64 (0 : Int)), AV.sc (Value.int IntKind.i64 (0 : Int))]))
 Tr.leaf))
 (3 : Nat)
 (((Tr.leaf.node (some ((29 : Nat), (8 : Nat))) Tr.leaf).node none Tr.leaf).node none
 Tr.leaf))))) :
 (fun (m : Nat) (level : Int) (loop : Bool) (Y : List AV) (K : AV → Heap → Prop) => wpCall (T47 m) cfgI Tryz.prog 60 47 [vS, .sl [exprC Y] 0, wA level loop, loopO] hS0 K) m level loop Y K :=
 Eq.mp (by kernel_rfl) h
theorem bs0 (m : Nat) (level : Int) (loop : Bool) (Y : List AV) (at_ : Int) (K : AV → Heap → Prop) (h :
 iteP loop
 (iteP (decide ((32 : Int) < level)) False
 (Vis0
 [AV.agg
 [AV.fn (Fn.func (22 : Nat)) [] [AV.ptr (1 : Nat) (0 : Nat)],
 AV.fn (Fn.func (24 : Nat)) [] [AV.ptr (1 : Nat) (0 : Nat)]],
 AV.sc (Value.slice none (0 : Nat) (0 : Nat)),
 AV.agg
 [AV.sc (Value.int IntKind.i64 (IntKind.i64.wrap (level + (1 : Int)))),
 AV.sc (Value.int IntKind.i64 (3 : Int)), AV.sc (Value.int IntKind.i64 (-1 : Int)),
 AV.sc (Value.bool true)],
 AV.sc (Value.pointer none)]
 (Heap.mk (4 : Nat)
 (((Tr.leaf.node
 (some
 (AObj.cells
 [AV.sc (Value.int IntKind.i64 (9 : Int)), AV.sc (Value.string (ByteArray.mk (Array.mk []))),
 AV.sc (Value.string (ByteArray.mk (Array.mk []))),
 AV.sc (Value.slice none (0 : Nat) (0 : Nat)), AV.sl [Y] (0 : Nat),
 AV.sc (Value.slice none (0 : Nat) (0 : Nat)), AV.sc (Value.bool false),
 AV.sc (Value.int IntKind.i64 at_)]))
 Tr.leaf).node
 (some (AObj.cells [AV.fn (Fn.func (21 : Nat)) [] [AV.ptr (2 : Nat) (0 : Nat)]])) Tr.leaf).node
 none
 (Tr.leaf.node
 (some (AObj.cells [AV.sc (Value.int IntKind.i64 (0 : Int)), AV.sc (Value.int IntKind.i64 (0 : Int))]))
 Tr.leaf))
 (3 : Nat) (((Tr.leaf.node (some ((29 : Nat), (8 : Nat))) Tr.leaf).node none Tr.leaf).node none Tr.leaf)) ∧
 ∀ (_ : Unit),
 True →
 Vis0
 [AV.agg
 [AV.fn (Fn.func (22 : Nat)) [] [AV.ptr (1 : Nat) (0 : Nat)],
 AV.fn (Fn.func (24 : Nat)) [] [AV.ptr (1 : Nat) (0 : Nat)]],
 AV.sc (Value.slice none (0 : Nat) (0 : Nat)),
 AV.agg
 [AV.sc (Value.int IntKind.i64 (IntKind.i64.wrap (level + (1 : Int)))),
 AV.sc (Value.int IntKind.i64 (3 : Int)), AV.sc (Value.int IntKind.i64 (-1 : Int)),
 AV.sc (Value.bool true)],
 AV.sc (Value.pointer none)]
 (Heap.mk (4 : Nat)
 (((Tr.leaf.node
 (some
 (AObj.cells
 [AV.sc (Value.int IntKind.i64 (9 : Int)),
 AV.sc (Value.string (ByteArray.mk (Array.mk []))),
 AV.sc (Value.string (ByteArray.mk (Array.mk []))),
 AV.sc (Value.slice none (0 : Nat) (0 : Nat)), AV.sl [Y] (0 : Nat),
 AV.sc (Value.slice none (0 : Nat) (0 : Nat)), AV.sc (Value.bool false),
 AV.sc (Value.int IntKind.i64 at_)]))
 Tr.leaf).node
 (some (AObj.cells [AV.fn (Fn.func (21 : Nat)) [] [AV.ptr (2 : Nat) (0 : Nat)]])) Tr.leaf).node
 none
 (Tr.leaf.node
 (some
 (AObj.cells [AV.sc (Value.int IntKind.i64 (0 : Int)), AV.sc (Value.int IntKind.i64 (0 : Int))]))
 Tr.leaf))
 (3 : Nat)
 (((Tr.leaf.node (some ((29 : Nat), (8 : Nat))) Tr.leaf).node none Tr.leaf).node none Tr.leaf)) ∧
 ∀ (_ : Unit),
 True →
 Sta1 m
 [AV.agg
 [AV.fn (Fn.func (22 : Nat)) [] [AV.ptr (1 : Nat) (0 : Nat)],
 AV.fn (Fn.func (24 : Nat)) [] [AV.ptr (1 : Nat) (0 : Nat)]],
 AV.sl [Y] (0 : Nat),
 AV.agg
 [AV.sc (Value.int IntKind.i64 (IntKind.i64.wrap (level + (1 : Int)))),
 AV.sc (Value.int IntKind.i64 (3 : Int)), AV.sc (Value.int IntKind.i64 (-1 : Int)),
 AV.sc (Value.bool true)],
 AV.fn (Fn.func (56 : Nat)) [] [AV.ptr (Nat.succ (2 : Nat)) (0 : Nat)]]
 (Heap.mk (4 : Nat)
 (((Tr.leaf.node
 (some
 (AObj.cells
 [AV.sc (Value.int IntKind.i64 (9 : Int)),
 AV.sc (Value.string (ByteArray.mk (Array.mk []))),
 AV.sc (Value.string (ByteArray.mk (Array.mk []))),
 AV.sc (Value.slice none (0 : Nat) (0 : Nat)), AV.sl [Y] (0 : Nat),
 AV.sc (Value.slice none (0 : Nat) (0 : Nat)), AV.sc (Value.bool false),
 AV.sc (Value.int IntKind.i64 at_)]))
 Tr.leaf).node
 (some (AObj.cells [AV.fn (Fn.func (21 : Nat)) [] [AV.ptr (2 : Nat) (0 : Nat)]]))
 Tr.leaf).node
 none
 (Tr.leaf.node
 (some
 (AObj.cells
 [AV.sc (Value.int IntKind.i64 (0 : Int)), AV.sc (Value.int IntKind.i64 (0 : Int))]))
 Tr.leaf))
 (3 : Nat)
 (((Tr.leaf.node (some ((29 : Nat), (8 : Nat))) Tr.leaf).node none Tr.leaf).node none Tr.leaf)) ∧
 ∀ (_ : Unit),
 True →
 K (AV.sc (Value.bool true))
 (Heap.mk (4 : Nat)
 (((Tr.leaf.node
 (some
 (AObj.cells
 [AV.sc (Value.int IntKind.i64 (9 : Int)),
 AV.sc (Value.string (ByteArray.mk (Array.mk []))),
 AV.sc (Value.string (ByteArray.mk (Array.mk []))),
 AV.sc (Value.slice none (0 : Nat) (0 : Nat)), AV.sl [Y] (0 : Nat),
 AV.sc (Value.slice none (0 : Nat) (0 : Nat)), AV.sc (Value.bool false),
 AV.sc (Value.int IntKind.i64 at_)]))
 Tr.leaf).node
 (some (AObj.cells [AV.fn (Fn.func (21 : Nat)) [] [AV.ptr (2 : Nat) (0 : Nat)]]))
 Tr.leaf).node
 none
 (Tr.leaf.node
 (some
 (AObj.cells
 [AV.sc (Value.int IntKind.i64 (0 : Int)), AV.sc (Value.int IntKind.i64 (0 : Int))]))
 Tr.leaf))
 (3 : Nat)
 (((Tr.leaf.node (some ((29 : Nat), (8 : Nat))) Tr.leaf).node none Tr.leaf).node none
 Tr.leaf))))
 (iteP (decide ((32 : Int) < level)) False
 (Vis0
 [AV.agg
 [AV.fn (Fn.func (22 : Nat)) [] [AV.ptr (1 : Nat) (0 : Nat)],
 AV.fn (Fn.func (24 : Nat)) [] [AV.ptr (1 : Nat) (0 : Nat)]],
 AV.sc (Value.slice none (0 : Nat) (0 : Nat)),
 AV.agg
 [AV.sc (Value.int IntKind.i64 (IntKind.i64.wrap (level + (1 : Int)))),
 AV.sc (Value.int IntKind.i64 (3 : Int)), AV.sc (Value.int IntKind.i64 (-1 : Int)),
 AV.sc (Value.bool false)],
 AV.sc (Value.pointer none)]
 (Heap.mk (4 : Nat)
 (((Tr.leaf.node
 (some
 (AObj.cells
 [AV.sc (Value.int IntKind.i64 (9 : Int)), AV.sc (Value.string (ByteArray.mk (Array.mk []))),
 AV.sc (Value.string (ByteArray.mk (Array.mk []))),
 AV.sc (Value.slice none (0 : Nat) (0 : Nat)), AV.sl [Y] (0 : Nat),
 AV.sc (Value.slice none (0 : Nat) (0 : Nat)), AV.sc (Value.bool false),
 AV.sc (Value.int IntKind.i64 at_)]))
 Tr.leaf).node
 (some (AObj.cells [AV.fn (Fn.func (21 : Nat)) [] [AV.ptr (2 : Nat) (0 : Nat)]])) Tr.leaf).node
 none
 (Tr.leaf.node
 (some (AObj.cells [AV.sc (Value.int IntKind.i64 (0 : Int)), AV.sc (Value.int IntKind.i64 (0 : Int))]))
 Tr.leaf))
 (3 : Nat) (((Tr.leaf.node (some ((29 : Nat), (8 : Nat))) Tr.leaf).node none Tr.leaf).node none Tr.leaf)) ∧
 ∀ (_ : Unit),
 True →
 Vis0
 [AV.agg
 [AV.fn (Fn.func (22 : Nat)) [] [AV.ptr (1 : Nat) (0 : Nat)],
 AV.fn (Fn.func (24 : Nat)) [] [AV.ptr (1 : Nat) (0 : Nat)]],
 AV.sc (Value.slice none (0 : Nat) (0 : Nat)),
 AV.agg
 [AV.sc (Value.int IntKind.i64 (IntKind.i64.wrap (level + (1 : Int)))),
 AV.sc (Value.int IntKind.i64 (3 : Int)), AV.sc (Value.int IntKind.i64 (-1 : Int)),
 AV.sc (Value.bool false)],
 AV.sc (Value.pointer none)]
 (Heap.mk (4 : Nat)
 (((Tr.leaf.node
 (some
 (AObj.cells
 [AV.sc (Value.int IntKind.i64 (9 : Int)),
 AV.sc (Value.string (ByteArray.mk (Array.mk []))),
 AV.sc (Value.string (ByteArray.mk (Array.mk []))),
 AV.sc (Value.slice none (0 : Nat) (0 : Nat)), AV.sl [Y] (0 : Nat),
 AV.sc (Value.slice none (0 : Nat) (0 : Nat)), AV.sc (Value.bool false),
 AV.sc (Value.int IntKind.i64 at_)]))
 Tr.leaf).node
 (some (AObj.cells [AV.fn (Fn.func (21 : Nat)) [] [AV.ptr (2 : Nat) (0 : Nat)]])) Tr.leaf).node
 none
 (Tr.leaf.node
 (some
 (AObj.cells [AV.sc (Value.int IntKind.i64 (0 : Int)), AV.sc (Value.int IntKind.i64 (0 : Int))]))
 Tr.leaf))
 (3 : Nat)
 (((Tr.leaf.node (some ((29 : Nat), (8 : Nat))) Tr.leaf).node none Tr.leaf).node none Tr.leaf)) ∧
 ∀ (_ : Unit),
 True →
 Sta1 m
 [AV.agg
 [AV.fn (Fn.func (22 : Nat)) [] [AV.ptr (1 : Nat) (0 : Nat)],
 AV.fn (Fn.func (24 : Nat)) [] [AV.ptr (1 : Nat) (0 : Nat)]],
 AV.sl [Y] (0 : Nat),
 AV.agg
 [AV.sc (Value.int IntKind.i64 (IntKind.i64.wrap (level + (1 : Int)))),
 AV.sc (Value.int IntKind.i64 (3 : Int)), AV.sc (Value.int IntKind.i64 (-1 : Int)),
 AV.sc (Value.bool false)],
 AV.fn (Fn.func (56 : Nat)) [] [AV.ptr (Nat.succ (2 : Nat)) (0 : Nat)]]
 (Heap.mk (4 : Nat)
 (((Tr.leaf.node
 (some
 (AObj.cells
 [AV.sc (Value.int IntKind.i64 (9 : Int)),
 AV.sc (Value.string (ByteArray.mk (Array.mk []))),
 AV.sc (Value.string (ByteArray.mk (Array.mk []))),
 AV.sc (Value.slice none (0 : Nat) (0 : Nat)), AV.sl [Y] (0 : Nat),
 AV.sc (Value.slice none (0 : Nat) (0 : Nat)), AV.sc (Value.bool false),
 AV.sc (Value.int IntKind.i64 at_)]))
 Tr.leaf).node
 (some (AObj.cells [AV.fn (Fn.func (21 : Nat)) [] [AV.ptr (2 : Nat) (0 : Nat)]]))
 Tr.leaf).node
 none
 (Tr.leaf.node
 (some
 (AObj.cells
 [AV.sc (Value.int IntKind.i64 (0 : Int)), AV.sc (Value.int IntKind.i64 (0 : Int))]))
 Tr.leaf))
 (3 : Nat)
 (((Tr.leaf.node (some ((29 : Nat), (8 : Nat))) Tr.leaf).node none Tr.leaf).node none Tr.leaf)) ∧
 ∀ (_ : Unit),
 True →
 K (AV.sc (Value.bool true))
 (Heap.mk (4 : Nat)
 (((Tr.leaf.node
 (some
 (AObj.cells
 [AV.sc (Value.int IntKind.i64 (9 : Int)),
 AV.sc (Value.string (ByteArray.mk (Array.mk []))),
 AV.sc (Value.string (ByteArray.mk (Array.mk []))),
 AV.sc (Value.slice none (0 : Nat) (0 : Nat)), AV.sl [Y] (0 : Nat),
 AV.sc (Value.slice none (0 : Nat) (0 : Nat)), AV.sc (Value.bool false),
 AV.sc (Value.int IntKind.i64 at_)]))
 Tr.leaf).node
 (some (AObj.cells [AV.fn (Fn.func (21 : Nat)) [] [AV.ptr (2 : Nat) (0 : Nat)]]))
 Tr.leaf).node
 none
 (Tr.leaf.node
 (some
 (AObj.cells
 [AV.sc (Value.int IntKind.i64 (0 : Int)), AV.sc (Value.int IntKind.i64 (0 : Int))]))
 Tr.leaf))
 (3 : Nat)
 (((Tr.leaf.node (some ((29 : Nat), (8 : Nat))) Tr.leaf).node none Tr.leaf).node none
 Tr.leaf))))) :
 (fun (m : Nat) (level : Int) (loop : Bool) (Y : List AV) (at_ : Int) (K : AV → Heap → Prop) => wpCall (T47 m) cfgI Tryz.prog 60 47 [vS, .sl [blkC Y at_] 0, wA level loop, loopO] hS0 K) m level loop Y at_ K :=
 Eq.mp (by kernel_rfl) h
theorem esb (m : Nat) (level : Int) (loop : Bool) (Y : List AV) (Y2 : List AV) (a2 : Int) (K : AV → Heap → Prop) (h :
 iteP loop
 (iteP (decide ((32 : Int) < level)) False
 (Vis1 (100 : Nat)
 [AV.agg
 [AV.fn (Fn.func (22 : Nat)) [] [AV.ptr (1 : Nat) (0 : Nat)],
 AV.fn (Fn.func (24 : Nat)) [] [AV.ptr (1 : Nat) (0 : Nat)]],
 AV.sl [Y] (0 : Nat),
 AV.agg
 [AV.sc (Value.int IntKind.i64 (IntKind.i64.wrap (level + (1 : Int)))),
 AV.sc (Value.int IntKind.i64 (3 : Int)), AV.sc (Value.int IntKind.i64 (-1 : Int)),
 AV.sc (Value.bool true)],
 AV.sc (Value.pointer none)]
 (Heap.mk (((Nat.add (1 : Nat) (1 : Nat)).add (1 : Nat)).succ + (1 : Nat))
 (((Tr.leaf.node
 (some
 (AObj.cells [AV.sc (Value.int IntKind.i64 (0 : Int)), AV.sc (Value.int IntKind.i64 (0 : Int))]))
 Tr.leaf).node
 (some (AObj.cells [AV.fn (Fn.func (21 : Nat)) [] [AV.ptr (3 : Nat) (0 : Nat)]])) Tr.leaf).node
 none
 ((Tr.leaf.node
 (some
 (AObj.cells
 [AV.sc (Value.int IntKind.i64 (1 : Int)), AV.sc (Value.string (ByteArray.mk (Array.mk []))),
 AV.sc (Value.string (ByteArray.mk (Array.mk []))), AV.sl [Y] (0 : Nat),
 AV.sc (Value.slice none (0 : Nat) (0 : Nat)), AV.sc (Value.slice none (0 : Nat) (0 : Nat)),
 AV.sc (Value.bool false), AV.sc (Value.int IntKind.i64 (500 : Int))]))
 Tr.leaf).node
 (some
 (AObj.cells
 [AV.sc (Value.int IntKind.i64 (9 : Int)), AV.sc (Value.string (ByteArray.mk (Array.mk []))),
 AV.sc (Value.string (ByteArray.mk (Array.mk []))), AV.sc (Value.slice none (0 : Nat) (0 : Nat)),
 AV.sl [Y2] (0 : Nat), AV.sc (Value.slice none (0 : Nat) (0 : Nat)), AV.sc (Value.bool false),
 AV.sc (Value.int IntKind.i64 a2)]))
 Tr.leaf))
 ((Nat.add (1 : Nat) (1 : Nat)).add (1 : Nat)).succ
 (Tr.leaf.node none ((Tr.leaf.node (some ((29 : Nat), (8 : Nat))) Tr.leaf).node none Tr.leaf))) ∧
 ∀ (_ : Unit),
 True →
 Vis0
 [AV.agg
 [AV.fn (Fn.func (22 : Nat)) [] [AV.ptr (1 : Nat) (0 : Nat)],
 AV.fn (Fn.func (24 : Nat)) [] [AV.ptr (1 : Nat) (0 : Nat)]],
 AV.sc (Value.slice none (0 : Nat) (0 : Nat)),
 AV.agg
 [AV.sc (Value.int IntKind.i64 (IntKind.i64.wrap (level + (1 : Int)))),
 AV.sc (Value.int IntKind.i64 (3 : Int)), AV.sc (Value.int IntKind.i64 (-1 : Int)),
 AV.sc (Value.bool true)],
 AV.sc (Value.pointer none)]
 (Heap.mk (((Nat.add (1 : Nat) (1 : Nat)).add (1 : Nat)).succ + (1 : Nat))
 (((Tr.leaf.node
 (some
 (AObj.cells
 [AV.sc (Value.int IntKind.i64 (0 : Int)), AV.sc (Value.int IntKind.i64 (0 : Int))]))
 Tr.leaf).node
 (some (AObj.cells [AV.fn (Fn.func (21 : Nat)) [] [AV.ptr (3 : Nat) (0 : Nat)]])) Tr.leaf).node
 none
 ((Tr.leaf.node
 (some
 (AObj.cells
 [AV.sc (Value.int IntKind.i64 (1 : Int)), AV.sc (Value.string (ByteArray.mk (Array.mk []))),
 AV.sc (Value.string (ByteArray.mk (Array.mk []))), AV.sl [Y] (0 : Nat),
 AV.sc (Value.slice none (0 : Nat) (0 : Nat)),
 AV.sc (Value.slice none (0 : Nat) (0 : Nat)), AV.sc (Value.bool false),
 AV.sc (Value.int IntKind.i64 (500 : Int))]))
 Tr.leaf).node
 (some
 (AObj.cells
 [AV.sc (Value.int IntKind.i64 (9 : Int)), AV.sc (Value.string (ByteArray.mk (Array.mk []))),
 AV.sc (Value.string (ByteArray.mk (Array.mk []))),
 AV.sc (Value.slice none (0 : Nat) (0 : Nat)), AV.sl [Y2] (0 : Nat),
 AV.sc (Value.slice none (0 : Nat) (0 : Nat)), AV.sc (Value.bool false),
 AV.sc (Value.int IntKind.i64 a2)]))
 Tr.leaf))
 ((Nat.add (1 : Nat) (1 : Nat)).add (1 : Nat)).succ
 (Tr.leaf.node none ((Tr.leaf.node (some ((29 : Nat), (8 : Nat))) Tr.leaf).node none Tr.leaf))) ∧
 ∀ (_ : Unit),
 True →
 Sta0
 [AV.agg
 [AV.fn (Fn.func (22 : Nat)) [] [AV.ptr (1 : Nat) (0 : Nat)],
 AV.fn (Fn.func (24 : Nat)) [] [AV.ptr (1 : Nat) (0 : Nat)]],
 AV.sc (Value.slice none (0 : Nat) (0 : Nat)),
 AV.agg
 [AV.sc (Value.int IntKind.i64 (IntKind.i64.wrap (level + (1 : Int)))),
 AV.sc (Value.int IntKind.i64 (3 : Int)), AV.sc (Value.int IntKind.i64 (-1 : Int)),
 AV.sc (Value.bool true)],
 AV.fn (Fn.func (56 : Nat)) []
 [AV.ptr ((Nat.add (1 : Nat) (1 : Nat)).add (1 : Nat)).succ (0 : Nat)]]
 (Heap.mk (((Nat.add (1 : Nat) (1 : Nat)).add (1 : Nat)).succ + (1 : Nat))
 (((Tr.leaf.node
 (some
 (AObj.cells
 [AV.sc (Value.int IntKind.i64 (0 : Int)), AV.sc (Value.int IntKind.i64 (0 : Int))]))
 Tr.leaf).node
 (some (AObj.cells [AV.fn (Fn.func (21 : Nat)) [] [AV.ptr (3 : Nat) (0 : Nat)]]))
 Tr.leaf).node
 none
 ((Tr.leaf.node
 (some
 (AObj.cells
 [AV.sc (Value.int IntKind.i64 (1 : Int)),
 AV.sc (Value.string (ByteArray.mk (Array.mk []))),
 AV.sc (Value.string (ByteArray.mk (Array.mk []))), AV.sl [Y] (0 : Nat),
 AV.sc (Value.slice none (0 : Nat) (0 : Nat)),
 AV.sc (Value.slice none (0 : Nat) (0 : Nat)), AV.sc (Value.bool false),
 AV.sc (Value.int IntKind.i64 (500 : Int))]))
 Tr.leaf).node
 (some
 (AObj.cells
 [AV.sc (Value.int IntKind.i64 (9 : Int)),
 AV.sc (Value.string (ByteArray.mk (Array.mk []))),
 AV.sc (Value.string (ByteArray.mk (Array.mk []))),
 AV.sc (Value.slice none (0 : Nat) (0 : Nat)), AV.sl [Y2] (0 : Nat),
 AV.sc (Value.slice none (0 : Nat) (0 : Nat)), AV.sc (Value.bool false),
 AV.sc (Value.int IntKind.i64 a2)]))
 Tr.leaf))
 ((Nat.add (1 : Nat) (1 : Nat)).add (1 : Nat)).succ
 (Tr.leaf.node none ((Tr.leaf.node (some ((29 : Nat), (8 : Nat))) Tr.leaf).node none Tr.leaf))) ∧
 ∀ (_ : Unit),
 True →
 K (AV.sc (Value.bool true))
 (Heap.mk (((Nat.add (1 : Nat) (1 : Nat)).add (1 : Nat)).succ + (1 : Nat))
 (((Tr.leaf.node
 (some
 (AObj.cells
 [AV.sc (Value.int IntKind.i64 (0 : Int)),
 AV.sc (Value.int IntKind.i64 (0 : Int))]))
 Tr.leaf).node
 (some (AObj.cells [AV.fn (Fn.func (21 : Nat)) [] [AV.ptr (3 : Nat) (0 : Nat)]]))
 Tr.leaf).node
 none
 ((Tr.leaf.node
 (some
 (AObj.cells
 [AV.sc (Value.int IntKind.i64 (1 : Int)),
 AV.sc (Value.string (ByteArray.mk (Array.mk []))),
 AV.sc (Value.string (ByteArray.mk (Array.mk []))), AV.sl [Y] (0 : Nat),
 AV.sc (Value.slice none (0 : Nat) (0 : Nat)),
 AV.sc (Value.slice none (0 : Nat) (0 : Nat)), AV.sc (Value.bool false),
 AV.sc (Value.int IntKind.i64 (500 : Int))]))
 Tr.leaf).node
 (some
 (AObj.cells
 [AV.sc (Value.int IntKind.i64 (9 : Int)),
 AV.sc (Value.string (ByteArray.mk (Array.mk []))),
 AV.sc (Value.string (ByteArray.mk (Array.mk []))),
 AV.sc (Value.slice none (0 : Nat) (0 : Nat)), AV.sl [Y2] (0 : Nat),
 AV.sc (Value.slice none (0 : Nat) (0 : Nat)), AV.sc (Value.bool false),
 AV.sc (Value.int IntKind.i64 a2)]))
 Tr.leaf))
 ((Nat.add (1 : Nat) (1 : Nat)).add (1 : Nat)).succ
 (Tr.leaf.node none
 ((Tr.leaf.node (some ((29 : Nat), (8 : Nat))) Tr.leaf).node none Tr.leaf)))))
 (iteP (decide ((32 : Int) < level)) False
 (Vis1 (100 : Nat)
 [AV.agg
 [AV.fn (Fn.func (22 : Nat)) [] [AV.ptr (1 : Nat) (0 : Nat)],
 AV.fn (Fn.func (24 : Nat)) [] [AV.ptr (1 : Nat) (0 : Nat)]],
 AV.sl [Y] (0 : Nat),
 AV.agg
 [AV.sc (Value.int IntKind.i64 (IntKind.i64.wrap (level + (1 : Int)))),
 AV.sc (Value.int IntKind.i64 (3 : Int)), AV.sc (Value.int IntKind.i64 (-1 : Int)),
 AV.sc (Value.bool false)],
 AV.sc (Value.pointer none)]
 (Heap.mk (((Nat.add (1 : Nat) (1 : Nat)).add (1 : Nat)).succ + (1 : Nat))
 (((Tr.leaf.node
 (some
 (AObj.cells [AV.sc (Value.int IntKind.i64 (0 : Int)), AV.sc (Value.int IntKind.i64 (0 : Int))]))
 Tr.leaf).node
 (some (AObj.cells [AV.fn (Fn.func (21 : Nat)) [] [AV.ptr (3 : Nat) (0 : Nat)]])) Tr.leaf).node
 none
 ((Tr.leaf.node
 (some
 (AObj.cells
 [AV.sc (Value.int IntKind.i64 (1 : Int)), AV.sc (Value.string (ByteArray.mk (Array.mk []))),
 AV.sc (Value.string (ByteArray.mk (Array.mk []))), AV.sl [Y] (0 : Nat),
 AV.sc (Value.slice none (0 : Nat) (0 : Nat)), AV.sc (Value.slice none (0 : Nat) (0 : Nat)),
 AV.sc (Value.bool false), AV.sc (Value.int IntKind.i64 (500 : Int))]))
 Tr.leaf).node
 (some
 (AObj.cells
 [AV.sc (Value.int IntKind.i64 (9 : Int)), AV.sc (Value.string (ByteArray.mk (Array.mk []))),
 AV.sc (Value.string (ByteArray.mk (Array.mk []))), AV.sc (Value.slice none (0 : Nat) (0 : Nat)),
 AV.sl [Y2] (0 : Nat), AV.sc (Value.slice none (0 : Nat) (0 : Nat)), AV.sc (Value.bool false),
 AV.sc (Value.int IntKind.i64 a2)]))
 Tr.leaf))
 ((Nat.add (1 : Nat) (1 : Nat)).add (1 : Nat)).succ
 (Tr.leaf.node none ((Tr.leaf.node (some ((29 : Nat), (8 : Nat))) Tr.leaf).node none Tr.leaf))) ∧
 ∀ (_ : Unit),
 True →
 Vis0
 [AV.agg
 [AV.fn (Fn.func (22 : Nat)) [] [AV.ptr (1 : Nat) (0 : Nat)],
 AV.fn (Fn.func (24 : Nat)) [] [AV.ptr (1 : Nat) (0 : Nat)]],
 AV.sc (Value.slice none (0 : Nat) (0 : Nat)),
 AV.agg
 [AV.sc (Value.int IntKind.i64 (IntKind.i64.wrap (level + (1 : Int)))),
 AV.sc (Value.int IntKind.i64 (3 : Int)), AV.sc (Value.int IntKind.i64 (-1 : Int)),
 AV.sc (Value.bool false)],
 AV.sc (Value.pointer none)]
 (Heap.mk (((Nat.add (1 : Nat) (1 : Nat)).add (1 : Nat)).succ + (1 : Nat))
 (((Tr.leaf.node
 (some
 (AObj.cells
 [AV.sc (Value.int IntKind.i64 (0 : Int)), AV.sc (Value.int IntKind.i64 (0 : Int))]))
 Tr.leaf).node
 (some (AObj.cells [AV.fn (Fn.func (21 : Nat)) [] [AV.ptr (3 : Nat) (0 : Nat)]])) Tr.leaf).node
 none
 ((Tr.leaf.node
 (some
 (AObj.cells
 [AV.sc (Value.int IntKind.i64 (1 : Int)), AV.sc (Value.string (ByteArray.mk (Array.mk []))),
 AV.sc (Value.string (ByteArray.mk (Array.mk []))), AV.sl [Y] (0 : Nat),
 AV.sc (Value.slice none (0 : Nat) (0 : Nat)),
 AV.sc (Value.slice none (0 : Nat) (0 : Nat)), AV.sc (Value.bool false),
 AV.sc (Value.int IntKind.i64 (500 : Int))]))
 Tr.leaf).node
 (some
 (AObj.cells
 [AV.sc (Value.int IntKind.i64 (9 : Int)), AV.sc (Value.string (ByteArray.mk (Array.mk []))),
 AV.sc (Value.string (ByteArray.mk (Array.mk []))),
 AV.sc (Value.slice none (0 : Nat) (0 : Nat)), AV.sl [Y2] (0 : Nat),
 AV.sc (Value.slice none (0 : Nat) (0 : Nat)), AV.sc (Value.bool false),
 AV.sc (Value.int IntKind.i64 a2)]))
 Tr.leaf))
 ((Nat.add (1 : Nat) (1 : Nat)).add (1 : Nat)).succ
 (Tr.leaf.node none ((Tr.leaf.node (some ((29 : Nat), (8 : Nat))) Tr.leaf).node none Tr.leaf))) ∧
 ∀ (_ : Unit),
 True →
 Sta0
 [AV.agg
 [AV.fn (Fn.func (22 : Nat)) [] [AV.ptr (1 : Nat) (0 : Nat)],
 AV.fn (Fn.func (24 : Nat)) [] [AV.ptr (1 : Nat) (0 : Nat)]],
 AV.sc (Value.slice none (0 : Nat) (0 : Nat)),
 AV.agg
 [AV.sc (Value.int IntKind.i64 (IntKind.i64.wrap (level + (1 : Int)))),
 AV.sc (Value.int IntKind.i64 (3 : Int)), AV.sc (Value.int IntKind.i64 (-1 : Int)),
 AV.sc (Value.bool false)],
 AV.fn (Fn.func (56 : Nat)) []
 [AV.ptr ((Nat.add (1 : Nat) (1 : Nat)).add (1 : Nat)).succ (0 : Nat)]]
 (Heap.mk (((Nat.add (1 : Nat) (1 : Nat)).add (1 : Nat)).succ + (1 : Nat))
 (((Tr.leaf.node
 (some
 (AObj.cells
 [AV.sc (Value.int IntKind.i64 (0 : Int)), AV.sc (Value.int IntKind.i64 (0 : Int))]))
 Tr.leaf).node
 (some (AObj.cells [AV.fn (Fn.func (21 : Nat)) [] [AV.ptr (3 : Nat) (0 : Nat)]]))
 Tr.leaf).node
 none
 ((Tr.leaf.node
 (some
 (AObj.cells
 [AV.sc (Value.int IntKind.i64 (1 : Int)),
 AV.sc (Value.string (ByteArray.mk (Array.mk []))),
 AV.sc (Value.string (ByteArray.mk (Array.mk []))), AV.sl [Y] (0 : Nat),
 AV.sc (Value.slice none (0 : Nat) (0 : Nat)),
 AV.sc (Value.slice none (0 : Nat) (0 : Nat)), AV.sc (Value.bool false),
 AV.sc (Value.int IntKind.i64 (500 : Int))]))
 Tr.leaf).node
 (some
 (AObj.cells
 [AV.sc (Value.int IntKind.i64 (9 : Int)),
 AV.sc (Value.string (ByteArray.mk (Array.mk []))),
 AV.sc (Value.string (ByteArray.mk (Array.mk []))),
 AV.sc (Value.slice none (0 : Nat) (0 : Nat)), AV.sl [Y2] (0 : Nat),
 AV.sc (Value.slice none (0 : Nat) (0 : Nat)), AV.sc (Value.bool false),
 AV.sc (Value.int IntKind.i64 a2)]))
 Tr.leaf))
 ((Nat.add (1 : Nat) (1 : Nat)).add (1 : Nat)).succ
 (Tr.leaf.node none ((Tr.leaf.node (some ((29 : Nat), (8 : Nat))) Tr.leaf).node none Tr.leaf))) ∧
 ∀ (_ : Unit),
 True →
 K (AV.sc (Value.bool true))
 (Heap.mk (((Nat.add (1 : Nat) (1 : Nat)).add (1 : Nat)).succ + (1 : Nat))
 (((Tr.leaf.node
 (some
 (AObj.cells
 [AV.sc (Value.int IntKind.i64 (0 : Int)),
 AV.sc (Value.int IntKind.i64 (0 : Int))]))
 Tr.leaf).node
 (some (AObj.cells [AV.fn (Fn.func (21 : Nat)) [] [AV.ptr (3 : Nat) (0 : Nat)]]))
 Tr.leaf).node
 none
 ((Tr.leaf.node
 (some
 (AObj.cells
 [AV.sc (Value.int IntKind.i64 (1 : Int)),
 AV.sc (Value.string (ByteArray.mk (Array.mk []))),
 AV.sc (Value.string (ByteArray.mk (Array.mk []))), AV.sl [Y] (0 : Nat),
 AV.sc (Value.slice none (0 : Nat) (0 : Nat)),
 AV.sc (Value.slice none (0 : Nat) (0 : Nat)), AV.sc (Value.bool false),
 AV.sc (Value.int IntKind.i64 (500 : Int))]))
 Tr.leaf).node
 (some
 (AObj.cells
 [AV.sc (Value.int IntKind.i64 (9 : Int)),
 AV.sc (Value.string (ByteArray.mk (Array.mk []))),
 AV.sc (Value.string (ByteArray.mk (Array.mk []))),
 AV.sc (Value.slice none (0 : Nat) (0 : Nat)), AV.sl [Y2] (0 : Nat),
 AV.sc (Value.slice none (0 : Nat) (0 : Nat)), AV.sc (Value.bool false),
 AV.sc (Value.int IntKind.i64 a2)]))
 Tr.leaf))
 ((Nat.add (1 : Nat) (1 : Nat)).add (1 : Nat)).succ
 (Tr.leaf.node none
 ((Tr.leaf.node (some ((29 : Nat), (8 : Nat))) Tr.leaf).node none Tr.leaf)))))) :
 (fun (m : Nat) (level : Int) (loop : Bool) (Y : List AV) (Y2 : List AV) (a2 : Int) (K : AV → Heap → Prop) => wpCall (T47 m) cfgI Tryz.prog 60 47 [vS, .sl [exprC Y] 0, wA level loop, (fnA 56 [.ptr 2 0])] (hS1 (blkC Y2 a2)) K) m level loop Y Y2 a2 K :=
 Eq.mp (by kernel_rfl) h
theorem bsb (m : Nat) (level : Int) (loop : Bool) (Y : List AV) (at_ : Int) (Y2 : List AV) (a2 : Int) (K : AV → Heap → Prop) (h :
 iteP loop
 (iteP (decide ((32 : Int) < level)) False
 (Vis0
 [AV.agg
 [AV.fn (Fn.func (22 : Nat)) [] [AV.ptr (1 : Nat) (0 : Nat)],
 AV.fn (Fn.func (24 : Nat)) [] [AV.ptr (1 : Nat) (0 : Nat)]],
 AV.sc (Value.slice none (0 : Nat) (0 : Nat)),
 AV.agg
 [AV.sc (Value.int IntKind.i64 (IntKind.i64.wrap (level + (1 : Int)))),
 AV.sc (Value.int IntKind.i64 (3 : Int)), AV.sc (Value.int IntKind.i64 (-1 : Int)),
 AV.sc (Value.bool true)],
 AV.sc (Value.pointer none)]
 (Heap.mk (((Nat.add (1 : Nat) (1 : Nat)).add (1 : Nat)).succ + (1 : Nat))
 (((Tr.leaf.node
 (some
 (AObj.cells [AV.sc (Value.int IntKind.i64 (0 : Int)), AV.sc (Value.int IntKind.i64 (0 : Int))]))
 Tr.leaf).node
 (some (AObj.cells [AV.fn (Fn.func (21 : Nat)) [] [AV.ptr (3 : Nat) (0 : Nat)]])) Tr.leaf).node
 none
 ((Tr.leaf.node
 (some
 (AObj.cells
 [AV.sc (Value.int IntKind.i64 (9 : Int)), AV.sc (Value.string (ByteArray.mk (Array.mk []))),
 AV.sc (Value.string (ByteArray.mk (Array.mk []))), AV.sc (Value.slice none (0 : Nat) (0 : Nat)),
 AV.sl [Y] (0 : Nat), AV.sc (Value.slice none (0 : Nat) (0 : Nat)), AV.sc (Value.bool false),
 AV.sc (Value.int IntKind.i64 at_)]))
 Tr.leaf).node
 (some
 (AObj.cells
 [AV.sc (Value.int IntKind.i64 (9 : Int)), AV.sc (Value.string (ByteArray.mk (Array.mk []))),
 AV.sc (Value.string (ByteArray.mk (Array.mk []))), AV.sc (Value.slice none (0 : Nat) (0 : Nat)),
 AV.sl [Y2] (0 : Nat), AV.sc (Value.slice none (0 : Nat) (0 : Nat)), AV.sc (Value.bool false),
 AV.sc (Value.int IntKind.i64 a2)]))
 Tr.leaf))
 ((Nat.add (1 : Nat) (1 : Nat)).add (1 : Nat)).succ
 (Tr.leaf.node none ((Tr.leaf.node (some ((29 : Nat), (8 : Nat))) Tr.leaf).node none Tr.leaf))) ∧
 ∀ (_ : Unit),
 True →
 Vis0
 [AV.agg
 [AV.fn (Fn.func (22 : Nat)) [] [AV.ptr (1 : Nat) (0 : Nat)],
 AV.fn (Fn.func (24 : Nat)) [] [AV.ptr (1 : Nat) (0 : Nat)]],
 AV.sc (Value.slice none (0 : Nat) (0 : Nat)),
 AV.agg
 [AV.sc (Value.int IntKind.i64 (IntKind.i64.wrap (level + (1 : Int)))),
 AV.sc (Value.int IntKind.i64 (3 : Int)), AV.sc (Value.int IntKind.i64 (-1 : Int)),
 AV.sc (Value.bool true)],
 AV.sc (Value.pointer none)]
 (Heap.mk (((Nat.add (1 : Nat) (1 : Nat)).add (1 : Nat)).succ + (1 : Nat))
 (((Tr.leaf.node
 (some
 (AObj.cells
 [AV.sc (Value.int IntKind.i64 (0 : Int)), AV.sc (Value.int IntKind.i64 (0 : Int))]))
 Tr.leaf).node
 (some (AObj.cells [AV.fn (Fn.func (21 : Nat)) [] [AV.ptr (3 : Nat) (0 : Nat)]])) Tr.leaf).node
 none
 ((Tr.leaf.node
 (some
 (AObj.cells
 [AV.sc (Value.int IntKind.i64 (9 : Int)), AV.sc (Value.string (ByteArray.mk (Array.mk []))),
 AV.sc (Value.string (ByteArray.mk (Array.mk []))),
 AV.sc (Value.slice none (0 : Nat) (0 : Nat)), AV.sl [Y] (0 : Nat),
 AV.sc (Value.slice none (0 : Nat) (0 : Nat)), AV.sc (Value.bool false),
 AV.sc (Value.int IntKind.i64 at_)]))
 Tr.leaf).node
 (some
 (AObj.cells
 [AV.sc (Value.int IntKind.i64 (9 : Int)), AV.sc (Value.string (ByteArray.mk (Array.mk []))),
 AV.sc (Value.string (ByteArray.mk (Array.mk []))),
 AV.sc (Value.slice none (0 : Nat) (0 : Nat)), AV.sl [Y2] (0 : Nat),
 AV.sc (Value.slice none (0 : Nat) (0 : Nat)), AV.sc (Value.bool false),
 AV.sc (Value.int IntKind.i64 a2)]))
 Tr.leaf))
 ((Nat.add (1 : Nat) (1 : Nat)).add (1 : Nat)).succ
 (Tr.leaf.node none ((Tr.leaf.node (some ((29 : Nat), (8 : Nat))) Tr.leaf).node none Tr.leaf))) ∧
 ∀ (_ : Unit),
 True →
 Sta1 m
 [AV.agg
 [AV.fn (Fn.func (22 : Nat)) [] [AV.ptr (1 : Nat) (0 : Nat)],
 AV.fn (Fn.func (24 : Nat)) [] [AV.ptr (1 : Nat) (0 : Nat)]],
 AV.sl [Y] (0 : Nat),
 AV.agg
 [AV.sc (Value.int IntKind.i64 (IntKind.i64.wrap (level + (1 : Int)))),
 AV.sc (Value.int IntKind.i64 (3 : Int)), AV.sc (Value.int IntKind.i64 (-1 : Int)),
 AV.sc (Value.bool true)],
 AV.fn (Fn.func (56 : Nat)) []
 [AV.ptr ((Nat.add (1 : Nat) (1 : Nat)).add (1 : Nat)).succ (0 : Nat)]]
 (Heap.mk (((Nat.add (1 : Nat) (1 : Nat)).add (1 : Nat)).succ + (1 : Nat))
 (((Tr.leaf.node
 (some
 (AObj.cells
 [AV.sc (Value.int IntKind.i64 (0 : Int)), AV.sc (Value.int IntKind.i64 (0 : Int))]))
 Tr.leaf).node
 (some (AObj.cells [AV.fn (Fn.func (21 : Nat)) [] [AV.ptr (3 : Nat) (0 : Nat)]]))
 Tr.leaf).node
 none
 ((Tr.leaf.node
 (some
 (AObj.cells
 [AV.sc (Value.int IntKind.i64 (9 : Int)),
 AV.sc (Value.string (ByteArray.mk (Array.mk []))),
 AV.sc (Value.string (ByteArray.mk (Array.mk []))),
 AV.sc (Value.slice none (0 : Nat) (0 : Nat)), AV.sl [Y] (0 : Nat),
 AV.sc (Value.slice none (0 : Nat) (0 : Nat)), AV.sc (Value.bool false),
 AV.sc (Value.int IntKind.i64 at_)]))
 Tr.leaf).node
 (some
 (AObj.cells
 [AV.sc (Value.int IntKind.i64 (9 : Int)),
 AV.sc (Value.string (ByteArray.mk (Array.mk []))),
 AV.sc (Value.string (ByteArray.mk (Array.mk []))),
 AV.sc (Value.slice none (0 : Nat) (0 : Nat)), AV.sl [Y2] (0 : Nat),
 AV.sc (Value.slice none (0 : Nat) (0 : Nat)), AV.sc (Value.bool false),
 AV.sc (Value.int IntKind.i64 a2)]))
 Tr.leaf))
 ((Nat.add (1 : Nat) (1 : Nat)).add (1 : Nat)).succ
 (Tr.leaf.node none ((Tr.leaf.node (some ((29 : Nat), (8 : Nat))) Tr.leaf).node none Tr.leaf))) ∧
 ∀ (_ : Unit),
 True →
 K (AV.sc (Value.bool true))
 (Heap.mk (((Nat.add (1 : Nat) (1 : Nat)).add (1 : Nat)).succ + (1 : Nat))
 (((Tr.leaf.node
 (some
 (AObj.cells
 [AV.sc (Value.int IntKind.i64 (0 : Int)),
 AV.sc (Value.int IntKind.i64 (0 : Int))]))
 Tr.leaf).node
 (some (AObj.cells [AV.fn (Fn.func (21 : Nat)) [] [AV.ptr (3 : Nat) (0 : Nat)]]))
 Tr.leaf).node
 none
 ((Tr.leaf.node
 (some
 (AObj.cells
 [AV.sc (Value.int IntKind.i64 (9 : Int)),
 AV.sc (Value.string (ByteArray.mk (Array.mk []))),
 AV.sc (Value.string (ByteArray.mk (Array.mk []))),
 AV.sc (Value.slice none (0 : Nat) (0 : Nat)), AV.sl [Y] (0 : Nat),
 AV.sc (Value.slice none (0 : Nat) (0 : Nat)), AV.sc (Value.bool false),
 AV.sc (Value.int IntKind.i64 at_)]))
 Tr.leaf).node
 (some
 (AObj.cells
 [AV.sc (Value.int IntKind.i64 (9 : Int)),
 AV.sc (Value.string (ByteArray.mk (Array.mk []))),
 AV.sc (Value.string (ByteArray.mk (Array.mk []))),
 AV.sc (Value.slice none (0 : Nat) (0 : Nat)), AV.sl [Y2] (0 : Nat),
 AV.sc (Value.slice none (0 : Nat) (0 : Nat)), AV.sc (Value.bool false),
 AV.sc (Value.int IntKind.i64 a2)]))
 Tr.leaf))
 ((Nat.add (1 : Nat) (1 : Nat)).add (1 : Nat)).succ
 (Tr.leaf.node none
 ((Tr.leaf.node (some ((29 : Nat), (8 : Nat))) Tr.leaf).node none Tr.leaf)))))
 (iteP (decide ((32 : Int) < level)) False
 (Vis0
 [AV.agg
 [AV.fn (Fn.func (22 : Nat)) [] [AV.ptr (1 : Nat) (0 : Nat)],
 AV.fn (Fn.func (24 : Nat)) [] [AV.ptr (1 : Nat) (0 : Nat)]],
 AV.sc (Value.slice none (0 : Nat) (0 : Nat)),
 AV.agg
 [AV.sc (Value.int IntKind.i64 (IntKind.i64.wrap (level + (1 : Int)))),
 AV.sc (Value.int IntKind.i64 (3 : Int)), AV.sc (Value.int IntKind.i64 (-1 : Int)),
 AV.sc (Value.bool false)],
 AV.sc (Value.pointer none)]
 (Heap.mk (((Nat.add (1 : Nat) (1 : Nat)).add (1 : Nat)).succ + (1 : Nat))
 (((Tr.leaf.node
 (some
 (AObj.cells [AV.sc (Value.int IntKind.i64 (0 : Int)), AV.sc (Value.int IntKind.i64 (0 : Int))]))
 Tr.leaf).node
 (some (AObj.cells [AV.fn (Fn.func (21 : Nat)) [] [AV.ptr (3 : Nat) (0 : Nat)]])) Tr.leaf).node
 none
 ((Tr.leaf.node
 (some
 (AObj.cells
 [AV.sc (Value.int IntKind.i64 (9 : Int)), AV.sc (Value.string (ByteArray.mk (Array.mk []))),
 AV.sc (Value.string (ByteArray.mk (Array.mk []))), AV.sc (Value.slice none (0 : Nat) (0 : Nat)),
 AV.sl [Y] (0 : Nat), AV.sc (Value.slice none (0 : Nat) (0 : Nat)), AV.sc (Value.bool false),
 AV.sc (Value.int IntKind.i64 at_)]))
 Tr.leaf).node
 (some
 (AObj.cells
 [AV.sc (Value.int IntKind.i64 (9 : Int)), AV.sc (Value.string (ByteArray.mk (Array.mk []))),
 AV.sc (Value.string (ByteArray.mk (Array.mk []))), AV.sc (Value.slice none (0 : Nat) (0 : Nat)),
 AV.sl [Y2] (0 : Nat), AV.sc (Value.slice none (0 : Nat) (0 : Nat)), AV.sc (Value.bool false),
 AV.sc (Value.int IntKind.i64 a2)]))
 Tr.leaf))
 ((Nat.add (1 : Nat) (1 : Nat)).add (1 : Nat)).succ
 (Tr.leaf.node none ((Tr.leaf.node (some ((29 : Nat), (8 : Nat))) Tr.leaf).node none Tr.leaf))) ∧
 ∀ (_ : Unit),
 True →
 Vis0
 [AV.agg
 [AV.fn (Fn.func (22 : Nat)) [] [AV.ptr (1 : Nat) (0 : Nat)],
 AV.fn (Fn.func (24 : Nat)) [] [AV.ptr (1 : Nat) (0 : Nat)]],
 AV.sc (Value.slice none (0 : Nat) (0 : Nat)),
 AV.agg
 [AV.sc (Value.int IntKind.i64 (IntKind.i64.wrap (level + (1 : Int)))),
 AV.sc (Value.int IntKind.i64 (3 : Int)), AV.sc (Value.int IntKind.i64 (-1 : Int)),
 AV.sc (Value.bool false)],
 AV.sc (Value.pointer none)]
 (Heap.mk (((Nat.add (1 : Nat) (1 : Nat)).add (1 : Nat)).succ + (1 : Nat))
 (((Tr.leaf.node
 (some
 (AObj.cells
 [AV.sc (Value.int IntKind.i64 (0 : Int)), AV.sc (Value.int IntKind.i64 (0 : Int))]))
 Tr.leaf).node
 (some (AObj.cells [AV.fn (Fn.func (21 : Nat)) [] [AV.ptr (3 : Nat) (0 : Nat)]])) Tr.leaf).node
 none
 ((Tr.leaf.node
 (some
 (AObj.cells
 [AV.sc (Value.int IntKind.i64 (9 : Int)), AV.sc (Value.string (ByteArray.mk (Array.mk []))),
 AV.sc (Value.string (ByteArray.mk (Array.mk []))),
 AV.sc (Value.slice none (0 : Nat) (0 : Nat)), AV.sl [Y] (0 : Nat),
 AV.sc (Value.slice none (0 : Nat) (0 : Nat)), AV.sc (Value.bool false),
 AV.sc (Value.int IntKind.i64 at_)]))
 Tr.leaf).node
 (some
 (AObj.cells
 [AV.sc (Value.int IntKind.i64 (9 : Int)), AV.sc (Value.string (ByteArray.mk (Array.mk []))),
 AV.sc (Value.string (ByteArray.mk (Array.mk []))),
 AV.sc (Value.slice none (0 : Nat) (0 : Nat)), AV.sl [Y2] (0 : Nat),
 AV.sc (Value.slice none (0 : Nat) (0 : Nat)), AV.sc (Value.bool false),
 AV.sc (Value.int IntKind.i64 a2)]))
 Tr.leaf))
 ((Nat.add (1 : Nat) (1 : Nat)).add (1 : Nat)).succ
 (Tr.leaf.node none ((Tr.leaf.node (some ((29 : Nat), (8 : Nat))) Tr.leaf).node none Tr.leaf))) ∧
 ∀ (_ : Unit),
 True →
 Sta1 m
 [AV.agg
 [AV.fn (Fn.func (22 : Nat)) [] [AV.ptr (1 : Nat) (0 : Nat)],
 AV.fn (Fn.func (24 : Nat)) [] [AV.ptr (1 : Nat) (0 : Nat)]],
 AV.sl [Y] (0 : Nat),
 AV.agg
 [AV.sc (Value.int IntKind.i64 (IntKind.i64.wrap (level + (1 : Int)))),
 AV.sc (Value.int IntKind.i64 (3 : Int)), AV.sc (Value.int IntKind.i64 (-1 : Int)),
 AV.sc (Value.bool false)],
 AV.fn (Fn.func (56 : Nat)) []
 [AV.ptr ((Nat.add (1 : Nat) (1 : Nat)).add (1 : Nat)).succ (0 : Nat)]]
 (Heap.mk (((Nat.add (1 : Nat) (1 : Nat)).add (1 : Nat)).succ + (1 : Nat))
 (((Tr.leaf.node
 (some
 (AObj.cells
 [AV.sc (Value.int IntKind.i64 (0 : Int)), AV.sc (Value.int IntKind.i64 (0 : Int))]))
 Tr.leaf).node
 (some (AObj.cells [AV.fn (Fn.func (21 : Nat)) [] [AV.ptr (3 : Nat) (0 : Nat)]]))
 Tr.leaf).node
 none
 ((Tr.leaf.node
 (some
 (AObj.cells
 [AV.sc (Value.int IntKind.i64 (9 : Int)),
 AV.sc (Value.string (ByteArray.mk (Array.mk []))),
 AV.sc (Value.string (ByteArray.mk (Array.mk []))),
 AV.sc (Value.slice none (0 : Nat) (0 : Nat)), AV.sl [Y] (0 : Nat),
 AV.sc (Value.slice none (0 : Nat) (0 : Nat)), AV.sc (Value.bool false),
 AV.sc (Value.int IntKind.i64 at_)]))
 Tr.leaf).node
 (some
 (AObj.cells
 [AV.sc (Value.int IntKind.i64 (9 : Int)),
 AV.sc (Value.string (ByteArray.mk (Array.mk []))),
 AV.sc (Value.string (ByteArray.mk (Array.mk []))),
 AV.sc (Value.slice none (0 : Nat) (0 : Nat)), AV.sl [Y2] (0 : Nat),
 AV.sc (Value.slice none (0 : Nat) (0 : Nat)), AV.sc (Value.bool false),
 AV.sc (Value.int IntKind.i64 a2)]))
 Tr.leaf))
 ((Nat.add (1 : Nat) (1 : Nat)).add (1 : Nat)).succ
 (Tr.leaf.node none ((Tr.leaf.node (some ((29 : Nat), (8 : Nat))) Tr.leaf).node none Tr.leaf))) ∧
 ∀ (_ : Unit),
 True →
 K (AV.sc (Value.bool true))
 (Heap.mk (((Nat.add (1 : Nat) (1 : Nat)).add (1 : Nat)).succ + (1 : Nat))
 (((Tr.leaf.node
 (some
 (AObj.cells
 [AV.sc (Value.int IntKind.i64 (0 : Int)),
 AV.sc (Value.int IntKind.i64 (0 : Int))]))
 Tr.leaf).node
 (some (AObj.cells [AV.fn (Fn.func (21 : Nat)) [] [AV.ptr (3 : Nat) (0 : Nat)]]))
 Tr.leaf).node
 none
 ((Tr.leaf.node
 (some
 (AObj.cells
 [AV.sc (Value.int IntKind.i64 (9 : Int)),
 AV.sc (Value.string (ByteArray.mk (Array.mk []))),
 AV.sc (Value.string (ByteArray.mk (Array.mk []))),
 AV.sc (Value.slice none (0 : Nat) (0 : Nat)), AV.sl [Y] (0 : Nat),
 AV.sc (Value.slice none (0 : Nat) (0 : Nat)), AV.sc (Value.bool false),
 AV.sc (Value.int IntKind.i64 at_)]))
 Tr.leaf).node
 (some
 (AObj.cells
 [AV.sc (Value.int IntKind.i64 (9 : Int)),
 AV.sc (Value.string (ByteArray.mk (Array.mk []))),
 AV.sc (Value.string (ByteArray.mk (Array.mk []))),
 AV.sc (Value.slice none (0 : Nat) (0 : Nat)), AV.sl [Y2] (0 : Nat),
 AV.sc (Value.slice none (0 : Nat) (0 : Nat)), AV.sc (Value.bool false),
 AV.sc (Value.int IntKind.i64 a2)]))
 Tr.leaf))
 ((Nat.add (1 : Nat) (1 : Nat)).add (1 : Nat)).succ
 (Tr.leaf.node none
 ((Tr.leaf.node (some ((29 : Nat), (8 : Nat))) Tr.leaf).node none Tr.leaf)))))) :
 (fun (m : Nat) (level : Int) (loop : Bool) (Y : List AV) (at_ : Int) (Y2 : List AV) (a2 : Int) (K : AV → Heap → Prop) => wpCall (T47 m) cfgI Tryz.prog 60 47 [vS, .sl [blkC Y at_] 0, wA level loop, (fnA 56 [.ptr 2 0])] (hS1 (blkC Y2 a2)) K) m level loop Y at_ Y2 a2 K :=
 Eq.mp (by kernel_rfl) h
theorem en0 (m : Nat) (level : Int) (loop : Bool) (Y : List AV) (R : List AV) (K : AV → Heap → Prop) (h :
 iteP loop
 (Vis1 (100 : Nat)
 [AV.agg
 [AV.fn (Fn.func (34 : Nat)) []
 [AV.ptr (1 : Nat) (0 : Nat), AV.ptr (2 : Nat) (0 : Nat), AV.ptr (3 : Nat) (0 : Nat),
 AV.ptr (4 : Nat) (0 : Nat), AV.ptr (5 : Nat) (0 : Nat)],
 AV.fn (Fn.func (37 : Nat)) []
 [AV.ptr (1 : Nat) (0 : Nat), AV.ptr (2 : Nat) (0 : Nat), AV.ptr (5 : Nat) (0 : Nat)]],
 AV.sl [Y] (0 : Nat),
 AV.agg
 [AV.sc (Value.int IntKind.i64 (IntKind.i64.wrap (level + (1 : Int)))),
 AV.sc (Value.int IntKind.i64 (3 : Int)), AV.sc (Value.int IntKind.i64 (-1 : Int)), AV.sc (Value.bool true)],
 AV.sc (Value.pointer none)]
 (Heap.mk (((((Nat.add (2 : Nat) (1 : Nat)).add (1 : Nat)).add (1 : Nat)).add (1 : Nat)).succ + (1 : Nat))
 ((((Tr.leaf.node
 (some
 (AObj.cells
 [AV.sc (Value.int IntKind.i64 (1 : Int)), AV.sc (Value.string (ByteArray.mk (Array.mk []))),
 AV.sc (Value.string (ByteArray.mk (Array.mk []))), AV.sl [Y] (0 : Nat),
 AV.sc (Value.slice none (0 : Nat) (0 : Nat)), AV.sc (Value.slice none (0 : Nat) (0 : Nat)),
 AV.sc (Value.bool false), AV.sc (Value.int IntKind.i64 (500 : Int))]))
 Tr.leaf).node
 (some (AObj.cells [AV.mp (6 : Nat)])) Tr.leaf).node
 (some (AObj.cells [AV.fn (Fn.func (32 : Nat)) [] [AV.ptr (5 : Nat) (0 : Nat)]]))
 (Tr.leaf.node
 (some (AObj.cells [AV.sc (Value.int IntKind.i64 (0 : Int)), AV.sc (Value.int IntKind.i64 (0 : Int))]))
 Tr.leaf)).node
 none
 ((Tr.leaf.node (some (AObj.cells [AV.sl [R] (0 : Nat), AV.sc (Value.slice none (0 : Nat) (0 : Nat))]))
 Tr.leaf).node
 (some (AObj.cells [AV.fn (Fn.func (33 : Nat)) [] [AV.ptr (3 : Nat) (0 : Nat), AV.ptr (4 : Nat) (0 : Nat)]]))
 (Tr.leaf.node (some (AObj.map [])) Tr.leaf)))
 ((((Nat.add (2 : Nat) (1 : Nat)).add (1 : Nat)).add (1 : Nat)).add (1 : Nat)).succ
 ((((Tr.leaf.node (some ((29 : Nat), (8 : Nat))) Tr.leaf).node none Tr.leaf).node none Tr.leaf).node none
 Tr.leaf)) ∧
 ∀ (_ : Unit),
 True →
 Vis0
 [AV.agg
 [AV.fn (Fn.func (34 : Nat)) []
 [AV.ptr (1 : Nat) (0 : Nat), AV.ptr (2 : Nat) (0 : Nat), AV.ptr (3 : Nat) (0 : Nat),
 AV.ptr (4 : Nat) (0 : Nat), AV.ptr (5 : Nat) (0 : Nat)],
 AV.fn (Fn.func (37 : Nat)) []
 [AV.ptr (1 : Nat) (0 : Nat), AV.ptr (2 : Nat) (0 : Nat), AV.ptr (5 : Nat) (0 : Nat)]],
 AV.sc (Value.slice none (0 : Nat) (0 : Nat)),
 AV.agg
 [AV.sc (Value.int IntKind.i64 (IntKind.i64.wrap (level + (1 : Int)))),
 AV.sc (Value.int IntKind.i64 (3 : Int)), AV.sc (Value.int IntKind.i64 (-1 : Int)),
 AV.sc (Value.bool true)],
 AV.sc (Value.pointer none)]
 (Heap.mk (((((Nat.add (2 : Nat) (1 : Nat)).add (1 : Nat)).add (1 : Nat)).add (1 : Nat)).succ + (1 : Nat))
 ((((Tr.leaf.node
 (some
 (AObj.cells
 [AV.sc (Value.int IntKind.i64 (1 : Int)),
 AV.sc (Value.string (ByteArray.mk (Array.mk []))),
 AV.sc (Value.string (ByteArray.mk (Array.mk []))), AV.sl [Y] (0 : Nat),
 AV.sc (Value.slice none (0 : Nat) (0 : Nat)),
 AV.sc (Value.slice none (0 : Nat) (0 : Nat)), AV.sc (Value.bool false),
 AV.sc (Value.int IntKind.i64 (500 : Int))]))
 Tr.leaf).node
 (some (AObj.cells [AV.mp (6 : Nat)])) Tr.leaf).node
 (some (AObj.cells [AV.fn (Fn.func (32 : Nat)) [] [AV.ptr (5 : Nat) (0 : Nat)]]))
 (Tr.leaf.node
 (some
 (AObj.cells [AV.sc (Value.int IntKind.i64 (0 : Int)), AV.sc (Value.int IntKind.i64 (0 : Int))]))
 Tr.leaf)).node
 none
 ((Tr.leaf.node (some (AObj.cells [AV.sl [R] (0 : Nat), AV.sc (Value.slice none (0 : Nat) (0 : Nat))]))
 Tr.leaf).node
 (some
 (AObj.cells
 [AV.fn (Fn.func (33 : Nat)) [] [AV.ptr (3 : Nat) (0 : Nat), AV.ptr (4 : Nat) (0 : Nat)]]))
 (Tr.leaf.node (some (AObj.map [])) Tr.leaf)))
 ((((Nat.add (2 : Nat) (1 : Nat)).add (1 : Nat)).add (1 : Nat)).add (1 : Nat)).succ
 ((((Tr.leaf.node (some ((29 : Nat), (8 : Nat))) Tr.leaf).node none Tr.leaf).node none Tr.leaf).node none
 Tr.leaf)) ∧
 ∀ (_ : Unit),
 True →
 Sta0
 [AV.agg
 [AV.fn (Fn.func (34 : Nat)) []
 [AV.ptr (1 : Nat) (0 : Nat), AV.ptr (2 : Nat) (0 : Nat), AV.ptr (3 : Nat) (0 : Nat),
 AV.ptr (4 : Nat) (0 : Nat), AV.ptr (5 : Nat) (0 : Nat)],
 AV.fn (Fn.func (37 : Nat)) []
 [AV.ptr (1 : Nat) (0 : Nat), AV.ptr (2 : Nat) (0 : Nat), AV.ptr (5 : Nat) (0 : Nat)]],
 AV.sc (Value.slice none (0 : Nat) (0 : Nat)),
 AV.agg
 [AV.sc (Value.int IntKind.i64 (IntKind.i64.wrap (level + (1 : Int)))),
 AV.sc (Value.int IntKind.i64 (3 : Int)), AV.sc (Value.int IntKind.i64 (-1 : Int)),
 AV.sc (Value.bool true)],
 AV.fn (Fn.func (56 : Nat)) []
 [AV.ptr ((((Nat.add (2 : Nat) (1 : Nat)).add (1 : Nat)).add (1 : Nat)).add (1 : Nat)).succ
 (0 : Nat)]]
 (Heap.mk
 (((((Nat.add (2 : Nat) (1 : Nat)).add (1 : Nat)).add (1 : Nat)).add (1 : Nat)).succ + (1 : Nat))
 ((((Tr.leaf.node
 (some
 (AObj.cells
 [AV.sc (Value.int IntKind.i64 (1 : Int)),
 AV.sc (Value.string (ByteArray.mk (Array.mk []))),
 AV.sc (Value.string (ByteArray.mk (Array.mk []))), AV.sl [Y] (0 : Nat),
 AV.sc (Value.slice none (0 : Nat) (0 : Nat)),
 AV.sc (Value.slice none (0 : Nat) (0 : Nat)), AV.sc (Value.bool false),
 AV.sc (Value.int IntKind.i64 (500 : Int))]))
 Tr.leaf).node
 (some (AObj.cells [AV.mp (6 : Nat)])) Tr.leaf).node
 (some (AObj.cells [AV.fn (Fn.func (32 : Nat)) [] [AV.ptr (5 : Nat) (0 : Nat)]]))
 (Tr.leaf.node
 (some
 (AObj.cells
 [AV.sc (Value.int IntKind.i64 (0 : Int)), AV.sc (Value.int IntKind.i64 (0 : Int))]))
 Tr.leaf)).node
 none
 ((Tr.leaf.node
 (some (AObj.cells [AV.sl [R] (0 : Nat), AV.sc (Value.slice none (0 : Nat) (0 : Nat))]))
 Tr.leaf).node
 (some
 (AObj.cells
 [AV.fn (Fn.func (33 : Nat)) [] [AV.ptr (3 : Nat) (0 : Nat), AV.ptr (4 : Nat) (0 : Nat)]]))
 (Tr.leaf.node (some (AObj.map [])) Tr.leaf)))
 ((((Nat.add (2 : Nat) (1 : Nat)).add (1 : Nat)).add (1 : Nat)).add (1 : Nat)).succ
 ((((Tr.leaf.node (some ((29 : Nat), (8 : Nat))) Tr.leaf).node none Tr.leaf).node none Tr.leaf).node
 none Tr.leaf)) ∧
 ∀ (_ : Unit),
 True →
 K (AV.sc (Value.bool true))
 (Heap.mk
 (((((Nat.add (2 : Nat) (1 : Nat)).add (1 : Nat)).add (1 : Nat)).add (1 : Nat)).succ + (1 : Nat))
 ((((Tr.leaf.node
 (some
 (AObj.cells
 [AV.sc (Value.int IntKind.i64 (1 : Int)),
 AV.sc (Value.string (ByteArray.mk (Array.mk []))),
 AV.sc (Value.string (ByteArray.mk (Array.mk []))), AV.sl [Y] (0 : Nat),
 AV.sc (Value.slice none (0 : Nat) (0 : Nat)),
 AV.sc (Value.slice none (0 : Nat) (0 : Nat)), AV.sc (Value.bool false),
 AV.sc (Value.int IntKind.i64 (500 : Int))]))
 Tr.leaf).node
 (some (AObj.cells [AV.mp (6 : Nat)])) Tr.leaf).node
 (some (AObj.cells [AV.fn (Fn.func (32 : Nat)) [] [AV.ptr (5 : Nat) (0 : Nat)]]))
 (Tr.leaf.node
 (some
 (AObj.cells
 [AV.sc (Value.int IntKind.i64 (0 : Int)), AV.sc (Value.int IntKind.i64 (0 : Int))]))
 Tr.leaf)).node
 none
 ((Tr.leaf.node
 (some (AObj.cells [AV.sl [R] (0 : Nat), AV.sc (Value.slice none (0 : Nat) (0 : Nat))]))
 Tr.leaf).node
 (some
 (AObj.cells
 [AV.fn (Fn.func (33 : Nat)) []
 [AV.ptr (3 : Nat) (0 : Nat), AV.ptr (4 : Nat) (0 : Nat)]]))
 (Tr.leaf.node (some (AObj.map [])) Tr.leaf)))
 ((((Nat.add (2 : Nat) (1 : Nat)).add (1 : Nat)).add (1 : Nat)).add (1 : Nat)).succ
 ((((Tr.leaf.node (some ((29 : Nat), (8 : Nat))) Tr.leaf).node none Tr.leaf).node none
 Tr.leaf).node
 none Tr.leaf)))
 (Vis1 (100 : Nat)
 [AV.agg
 [AV.fn (Fn.func (34 : Nat)) []
 [AV.ptr (1 : Nat) (0 : Nat), AV.ptr (2 : Nat) (0 : Nat), AV.ptr (3 : Nat) (0 : Nat),
 AV.ptr (4 : Nat) (0 : Nat), AV.ptr (5 : Nat) (0 : Nat)],
 AV.fn (Fn.func (37 : Nat)) []
 [AV.ptr (1 : Nat) (0 : Nat), AV.ptr (2 : Nat) (0 : Nat), AV.ptr (5 : Nat) (0 : Nat)]],
 AV.sl [Y] (0 : Nat),
 AV.agg
 [AV.sc (Value.int IntKind.i64 (IntKind.i64.wrap (level + (1 : Int)))),
 AV.sc (Value.int IntKind.i64 (3 : Int)), AV.sc (Value.int IntKind.i64 (-1 : Int)),
 AV.sc (Value.bool false)],
 AV.sc (Value.pointer none)]
 (Heap.mk (((((Nat.add (2 : Nat) (1 : Nat)).add (1 : Nat)).add (1 : Nat)).add (1 : Nat)).succ + (1 : Nat))
 ((((Tr.leaf.node
 (some
 (AObj.cells
 [AV.sc (Value.int IntKind.i64 (1 : Int)), AV.sc (Value.string (ByteArray.mk (Array.mk []))),
 AV.sc (Value.string (ByteArray.mk (Array.mk []))), AV.sl [Y] (0 : Nat),
 AV.sc (Value.slice none (0 : Nat) (0 : Nat)), AV.sc (Value.slice none (0 : Nat) (0 : Nat)),
 AV.sc (Value.bool false), AV.sc (Value.int IntKind.i64 (500 : Int))]))
 Tr.leaf).node
 (some (AObj.cells [AV.mp (6 : Nat)])) Tr.leaf).node
 (some (AObj.cells [AV.fn (Fn.func (32 : Nat)) [] [AV.ptr (5 : Nat) (0 : Nat)]]))
 (Tr.leaf.node
 (some (AObj.cells [AV.sc (Value.int IntKind.i64 (0 : Int)), AV.sc (Value.int IntKind.i64 (0 : Int))]))
 Tr.leaf)).node
 none
 ((Tr.leaf.node (some (AObj.cells [AV.sl [R] (0 : Nat), AV.sc (Value.slice none (0 : Nat) (0 : Nat))]))
 Tr.leaf).node
 (some (AObj.cells [AV.fn (Fn.func (33 : Nat)) [] [AV.ptr (3 : Nat) (0 : Nat), AV.ptr (4 : Nat) (0 : Nat)]]))
 (Tr.leaf.node (some (AObj.map [])) Tr.leaf)))
 ((((Nat.add (2 : Nat) (1 : Nat)).add (1 : Nat)).add (1 : Nat)).add (1 : Nat)).succ
 ((((Tr.leaf.node (some ((29 : Nat), (8 : Nat))) Tr.leaf).node none Tr.leaf).node none Tr.leaf).node none
 Tr.leaf)) ∧
 ∀ (_ : Unit),
 True →
 Vis0
 [AV.agg
 [AV.fn (Fn.func (34 : Nat)) []
 [AV.ptr (1 : Nat) (0 : Nat), AV.ptr (2 : Nat) (0 : Nat), AV.ptr (3 : Nat) (0 : Nat),
 AV.ptr (4 : Nat) (0 : Nat), AV.ptr (5 : Nat) (0 : Nat)],
 AV.fn (Fn.func (37 : Nat)) []
 [AV.ptr (1 : Nat) (0 : Nat), AV.ptr (2 : Nat) (0 : Nat), AV.ptr (5 : Nat) (0 : Nat)]],
 AV.sc (Value.slice none (0 : Nat) (0 : Nat)),
 AV.agg
 [AV.sc (Value.int IntKind.i64 (IntKind.i64.wrap (level + (1 : Int)))),
 AV.sc (Value.int IntKind.i64 (3 : Int)), AV.sc (Value.int IntKind.i64 (-1 : Int)),
 AV.sc (Value.bool false)],
 AV.sc (Value.pointer none)]
 (Heap.mk (((((Nat.add (2 : Nat) (1 : Nat)).add (1 : Nat)).add (1 : Nat)).add (1 : Nat)).succ + (1 : Nat))
 ((((Tr.leaf.node
 (some
 (AObj.cells
 [AV.sc (Value.int IntKind.i64 (1 : Int)),
 AV.sc (Value.string (ByteArray.mk (Array.mk []))),
 AV.sc (Value.string (ByteArray.mk (Array.mk []))), AV.sl [Y] (0 : Nat),
 AV.sc (Value.slice none (0 : Nat) (0 : Nat)),
 AV.sc (Value.slice none (0 : Nat) (0 : Nat)), AV.sc (Value.bool false),
 AV.sc (Value.int IntKind.i64 (500 : Int))]))
 Tr.leaf).node
 (some (AObj.cells [AV.mp (6 : Nat)])) Tr.leaf).node
 (some (AObj.cells [AV.fn (Fn.func (32 : Nat)) [] [AV.ptr (5 : Nat) (0 : Nat)]]))
 (Tr.leaf.node
 (some
 (AObj.cells [AV.sc (Value.int IntKind.i64 (0 : Int)), AV.sc (Value.int IntKind.i64 (0 : Int))]))
 Tr.leaf)).node
 none
 ((Tr.leaf.node (some (AObj.cells [AV.sl [R] (0 : Nat), AV.sc (Value.slice none (0 : Nat) (0 : Nat))]))
 Tr.leaf).node
 (some
 (AObj.cells
 [AV.fn (Fn.func (33 : Nat)) [] [AV.ptr (3 : Nat) (0 : Nat), AV.ptr (4 : Nat) (0 : Nat)]]))
 (Tr.leaf.node (some (AObj.map [])) Tr.leaf)))
 ((((Nat.add (2 : Nat) (1 : Nat)).add (1 : Nat)).add (1 : Nat)).add (1 : Nat)).succ
 ((((Tr.leaf.node (some ((29 : Nat), (8 : Nat))) Tr.leaf).node none Tr.leaf).node none Tr.leaf).node none
 Tr.leaf)) ∧
 ∀ (_ : Unit),
 True →
 Sta0
 [AV.agg
 [AV.fn (Fn.func (34 : Nat)) []
 [AV.ptr (1 : Nat) (0 : Nat), AV.ptr (2 : Nat) (0 : Nat), AV.ptr (3 : Nat) (0 : Nat),
 AV.ptr (4 : Nat) (0 : Nat), AV.ptr (5 : Nat) (0 : Nat)],
 AV.fn (Fn.func (37 : Nat)) []
 [AV.ptr (1 : Nat) (0 : Nat), AV.ptr (2 : Nat) (0 : Nat), AV.ptr (5 : Nat) (0 : Nat)]],
 AV.sc (Value.slice none (0 : Nat) (0 : Nat)),
 AV.agg
 [AV.sc (Value.int IntKind.i64 (IntKind.i64.wrap (level + (1 : Int)))),
 AV.sc (Value.int IntKind.i64 (3 : Int)), AV.sc (Value.int IntKind.i64 (-1 : Int)),
 AV.sc (Value.bool false)],
 AV.fn (Fn.func (56 : Nat)) []
 [AV.ptr ((((Nat.add (2 : Nat) (1 : Nat)).add (1 : Nat)).add (1 : Nat)).add (1 : Nat)).succ
 (0 : Nat)]]
 (Heap.mk
 (((((Nat.add (2 : Nat) (1 : Nat)).add (1 : Nat)).add (1 : Nat)).add (1 : Nat)).succ + (1 : Nat))
 ((((Tr.leaf.node
 (some
 (AObj.cells
 [AV.sc (Value.int IntKind.i64 (1 : Int)),
 AV.sc (Value.string (ByteArray.mk (Array.mk []))),
 AV.sc (Value.string (ByteArray.mk (Array.mk []))), AV.sl [Y] (0 : Nat),
 AV.sc (Value.slice none (0 : Nat) (0 : Nat)),
 AV.sc (Value.slice none (0 : Nat) (0 : Nat)), AV.sc (Value.bool false),
 AV.sc (Value.int IntKind.i64 (500 : Int))]))
 Tr.leaf).node
 (some (AObj.cells [AV.mp (6 : Nat)])) Tr.leaf).node
 (some (AObj.cells [AV.fn (Fn.func (32 : Nat)) [] [AV.ptr (5 : Nat) (0 : Nat)]]))
 (Tr.leaf.node
 (some
 (AObj.cells
 [AV.sc (Value.int IntKind.i64 (0 : Int)), AV.sc (Value.int IntKind.i64 (0 : Int))]))
 Tr.leaf)).node
 none
 ((Tr.leaf.node
 (some (AObj.cells [AV.sl [R] (0 : Nat), AV.sc (Value.slice none (0 : Nat) (0 : Nat))]))
 Tr.leaf).node
 (some
 (AObj.cells
 [AV.fn (Fn.func (33 : Nat)) [] [AV.ptr (3 : Nat) (0 : Nat), AV.ptr (4 : Nat) (0 : Nat)]]))
 (Tr.leaf.node (some (AObj.map [])) Tr.leaf)))
 ((((Nat.add (2 : Nat) (1 : Nat)).add (1 : Nat)).add (1 : Nat)).add (1 : Nat)).succ
 ((((Tr.leaf.node (some ((29 : Nat), (8 : Nat))) Tr.leaf).node none Tr.leaf).node none Tr.leaf).node
 none Tr.leaf)) ∧
 ∀ (_ : Unit),
 True →
 K (AV.sc (Value.bool true))
 (Heap.mk
 (((((Nat.add (2 : Nat) (1 : Nat)).add (1 : Nat)).add (1 : Nat)).add (1 : Nat)).succ + (1 : Nat))
 ((((Tr.leaf.node
 (some
 (AObj.cells
 [AV.sc (Value.int IntKind.i64 (1 : Int)),
 AV.sc (Value.string (ByteArray.mk (Array.mk []))),
 AV.sc (Value.string (ByteArray.mk (Array.mk []))), AV.sl [Y] (0 : Nat),
 AV.sc (Value.slice none (0 : Nat) (0 : Nat)),
 AV.sc (Value.slice none (0 : Nat) (0 : Nat)), AV.sc (Value.bool false),
 AV.sc (Value.int IntKind.i64 (500 : Int))]))
 Tr.leaf).node
 (some (AObj.cells [AV.mp (6 : Nat)])) Tr.leaf).node
 (some (AObj.cells [AV.fn (Fn.func (32 : Nat)) [] [AV.ptr (5 : Nat) (0 : Nat)]]))
 (Tr.leaf.node
 (some
 (AObj.cells
 [AV.sc (Value.int IntKind.i64 (0 : Int)), AV.sc (Value.int IntKind.i64 (0 : Int))]))
 Tr.leaf)).node
 none
 ((Tr.leaf.node
 (some (AObj.cells [AV.sl [R] (0 : Nat), AV.sc (Value.slice none (0 : Nat) (0 : Nat))]))
 Tr.leaf).node
 (some
 (AObj.cells
 [AV.fn (Fn.func (33 : Nat)) []
 [AV.ptr (3 : Nat) (0 : Nat), AV.ptr (4 : Nat) (0 : Nat)]]))
 (Tr.leaf.node (some (AObj.map [])) Tr.leaf)))
 ((((Nat.add (2 : Nat) (1 : Nat)).add (1 : Nat)).add (1 : Nat)).add (1 : Nat)).succ
 ((((Tr.leaf.node (some ((29 : Nat), (8 : Nat))) Tr.leaf).node none Tr.leaf).node none
 Tr.leaf).node
 none Tr.leaf)))) :
 (fun (m : Nat) (level : Int) (loop : Bool) (Y : List AV) (R : List AV) (K : AV → Heap → Prop) => wpCall (T47 m) cfgI Tryz.prog 60 47 [vN, .sl [exprC Y] 0, wA level loop, loopO] (hN0 R) K) m level loop Y R K :=
 Eq.mp (by kernel_rfl) h
theorem bn0 (m : Nat) (level : Int) (loop : Bool) (Y : List AV) (at_ : Int) (R : List AV) (K : AV → Heap → Prop) (h :
 iteP loop
 (Vis0
 [AV.agg
 [AV.fn (Fn.func (34 : Nat)) []
 [AV.ptr (1 : Nat) (0 : Nat), AV.ptr (2 : Nat) (0 : Nat), AV.ptr (3 : Nat) (0 : Nat),
 AV.ptr (4 : Nat) (0 : Nat), AV.ptr (5 : Nat) (0 : Nat)],
 AV.fn (Fn.func (37 : Nat)) []
 [AV.ptr (1 : Nat) (0 : Nat), AV.ptr (2 : Nat) (0 : Nat), AV.ptr (5 : Nat) (0 : Nat)]],
 AV.sc (Value.slice none (0 : Nat) (0 : Nat)),
 AV.agg
 [AV.sc (Value.int IntKind.i64 (IntKind.i64.wrap (level + (1 : Int)))),
 AV.sc (Value.int IntKind.i64 (3 : Int)), AV.sc (Value.int IntKind.i64 (-1 : Int)), AV.sc (Value.bool true)],
 AV.sc (Value.pointer none)]
 (Heap.mk (((((Nat.add (2 : Nat) (1 : Nat)).add (1 : Nat)).add (1 : Nat)).add (1 : Nat)).succ + (1 : Nat))
 ((((Tr.leaf.node
 (some
 (AObj.cells
 [AV.sc (Value.int IntKind.i64 (9 : Int)), AV.sc (Value.string (ByteArray.mk (Array.mk []))),
 AV.sc (Value.string (ByteArray.mk (Array.mk []))),
 AV.sc (Value.slice none (0 : Nat) (0 : Nat)), AV.sl [Y] (0 : Nat),
 AV.sc (Value.slice none (0 : Nat) (0 : Nat)), AV.sc (Value.bool false),
 AV.sc (Value.int IntKind.i64 at_)]))
 Tr.leaf).node
 (some (AObj.cells [AV.mp (6 : Nat)])) Tr.leaf).node
 (some (AObj.cells [AV.fn (Fn.func (32 : Nat)) [] [AV.ptr (5 : Nat) (0 : Nat)]]))
 (Tr.leaf.node
 (some (AObj.cells [AV.sc (Value.int IntKind.i64 (0 : Int)), AV.sc (Value.int IntKind.i64 (0 : Int))]))
 Tr.leaf)).node
 none
 ((Tr.leaf.node (some (AObj.cells [AV.sl [R] (0 : Nat), AV.sc (Value.slice none (0 : Nat) (0 : Nat))]))
 Tr.leaf).node
 (some (AObj.cells [AV.fn (Fn.func (33 : Nat)) [] [AV.ptr (3 : Nat) (0 : Nat), AV.ptr (4 : Nat) (0 : Nat)]]))
 (Tr.leaf.node (some (AObj.map [])) Tr.leaf)))
 ((((Nat.add (2 : Nat) (1 : Nat)).add (1 : Nat)).add (1 : Nat)).add (1 : Nat)).succ
 ((((Tr.leaf.node (some ((29 : Nat), (8 : Nat))) Tr.leaf).node none Tr.leaf).node none Tr.leaf).node none
 Tr.leaf)) ∧
 ∀ (_ : Unit),
 True →
 Vis0
 [AV.agg
 [AV.fn (Fn.func (34 : Nat)) []
 [AV.ptr (1 : Nat) (0 : Nat), AV.ptr (2 : Nat) (0 : Nat), AV.ptr (3 : Nat) (0 : Nat),
 AV.ptr (4 : Nat) (0 : Nat), AV.ptr (5 : Nat) (0 : Nat)],
 AV.fn (Fn.func (37 : Nat)) []
 [AV.ptr (1 : Nat) (0 : Nat), AV.ptr (2 : Nat) (0 : Nat), AV.ptr (5 : Nat) (0 : Nat)]],
 AV.sc (Value.slice none (0 : Nat) (0 : Nat)),
 AV.agg
 [AV.sc (Value.int IntKind.i64 (IntKind.i64.wrap (level + (1 : Int)))),
 AV.sc (Value.int IntKind.i64 (3 : Int)), AV.sc (Value.int IntKind.i64 (-1 : Int)),
 AV.sc (Value.bool true)],
 AV.sc (Value.pointer none)]
 (Heap.mk (((((Nat.add (2 : Nat) (1 : Nat)).add (1 : Nat)).add (1 : Nat)).add (1 : Nat)).succ + (1 : Nat))
 ((((Tr.leaf.node
 (some
 (AObj.cells
 [AV.sc (Value.int IntKind.i64 (9 : Int)),
 AV.sc (Value.string (ByteArray.mk (Array.mk []))),
 AV.sc (Value.string (ByteArray.mk (Array.mk []))),
 AV.sc (Value.slice none (0 : Nat) (0 : Nat)), AV.sl [Y] (0 : Nat),
 AV.sc (Value.slice none (0 : Nat) (0 : Nat)), AV.sc (Value.bool false),
 AV.sc (Value.int IntKind.i64 at_)]))
 Tr.leaf).node
 (some (AObj.cells [AV.mp (6 : Nat)])) Tr.leaf).node
 (some (AObj.cells [AV.fn (Fn.func (32 : Nat)) [] [AV.ptr (5 : Nat) (0 : Nat)]]))
 (Tr.leaf.node
 (some
 (AObj.cells [AV.sc (Value.int IntKind.i64 (0 : Int)), AV.sc (Value.int IntKind.i64 (0 : Int))]))
 Tr.leaf)).node
 none
 ((Tr.leaf.node (some (AObj.cells [AV.sl [R] (0 : Nat), AV.sc (Value.slice none (0 : Nat) (0 : Nat))]))
 Tr.leaf).node
 (some
 (AObj.cells
 [AV.fn (Fn.func (33 : Nat)) [] [AV.ptr (3 : Nat) (0 : Nat), AV.ptr (4 : Nat) (0 : Nat)]]))
 (Tr.leaf.node (some (AObj.map [])) Tr.leaf)))
 ((((Nat.add (2 : Nat) (1 : Nat)).add (1 : Nat)).add (1 : Nat)).add (1 : Nat)).succ
 ((((Tr.leaf.node (some ((29 : Nat), (8 : Nat))) Tr.leaf).node none Tr.leaf).node none Tr.leaf).node none
 Tr.leaf)) ∧
 ∀ (_ : Unit),
 True →
 Sta1 m
 [AV.agg
 [AV.fn (Fn.func (34 : Nat)) []
 [AV.ptr (1 : Nat) (0 : Nat), AV.ptr (2 : Nat) (0 : Nat), AV.ptr (3 : Nat) (0 : Nat),
 AV.ptr (4 : Nat) (0 : Nat), AV.ptr (5 : Nat) (0 : Nat)],
 AV.fn (Fn.func (37 : Nat)) []
 [AV.ptr (1 : Nat) (0 : Nat), AV.ptr (2 : Nat) (0 : Nat), AV.ptr (5 : Nat) (0 : Nat)]],
 AV.sl [Y] (0 : Nat),
 AV.agg
 [AV.sc (Value.int IntKind.i64 (IntKind.i64.wrap (level + (1 : Int)))),
 AV.sc (Value.int IntKind.i64 (3 : Int)), AV.sc (Value.int IntKind.i64 (-1 : Int)),
 AV.sc (Value.bool true)],
 AV.fn (Fn.func (56 : Nat)) []
 [AV.ptr ((((Nat.add (2 : Nat) (1 : Nat)).add (1 : Nat)).add (1 : Nat)).add (1 : Nat)).succ
 (0 : Nat)]]
 (Heap.mk
 (((((Nat.add (2 : Nat) (1 : Nat)).add (1 : Nat)).add (1 : Nat)).add (1 : Nat)).succ + (1 : Nat))
 ((((Tr.leaf.node
 (some
 (AObj.cells
 [AV.sc (Value.int IntKind.i64 (9 : Int)),
 AV.sc (Value.string (ByteArray.mk (Array.mk []))),
 AV.sc (Value.string (ByteArray.mk (Array.mk []))),
 AV.sc (Value.slice none (0 : Nat) (0 : Nat)), AV.sl [Y] (0 : Nat),
 AV.sc (Value.slice none (0 : Nat) (0 : Nat)), AV.sc (Value.bool false),
 AV.sc (Value.int IntKind.i64 at_)]))
 Tr.leaf).node
 (some (AObj.cells [AV.mp (6 : Nat)])) Tr.leaf).node
 (some (AObj.cells [AV.fn (Fn.func (32 : Nat)) [] [AV.ptr (5 : Nat) (0 : Nat)]]))
 (Tr.leaf.node
 (some
 (AObj.cells
 [AV.sc (Value.int IntKind.i64 (0 : Int)), AV.sc (Value.int IntKind.i64 (0 : Int))]))
 Tr.leaf)).node
 none
 ((Tr.leaf.node
 (some (AObj.cells [AV.sl [R] (0 : Nat), AV.sc (Value.slice none (0 : Nat) (0 : Nat))]))
 Tr.leaf).node
 (some
 (AObj.cells
 [AV.fn (Fn.func (33 : Nat)) [] [AV.ptr (3 : Nat) (0 : Nat), AV.ptr (4 : Nat) (0 : Nat)]]))
 (Tr.leaf.node (some (AObj.map [])) Tr.leaf)))
 ((((Nat.add (2 : Nat) (1 : Nat)).add (1 : Nat)).add (1 : Nat)).add (1 : Nat)).succ
 ((((Tr.leaf.node (some ((29 : Nat), (8 : Nat))) Tr.leaf).node none Tr.leaf).node none Tr.leaf).node
 none Tr.leaf)) ∧
 ∀ (_ : Unit),
 True →
 K (AV.sc (Value.bool true))
 (Heap.mk
 (((((Nat.add (2 : Nat) (1 : Nat)).add (1 : Nat)).add (1 : Nat)).add (1 : Nat)).succ + (1 : Nat))
 ((((Tr.leaf.node
 (some
 (AObj.cells
 [AV.sc (Value.int IntKind.i64 (9 : Int)),
 AV.sc (Value.string (ByteArray.mk (Array.mk []))),
 AV.sc (Value.string (ByteArray.mk (Array.mk []))),
 AV.sc (Value.slice none (0 : Nat) (0 : Nat)), AV.sl [Y] (0 : Nat),
 AV.sc (Value.slice none (0 : Nat) (0 : Nat)), AV.sc (Value.bool false),
 AV.sc (Value.int IntKind.i64 at_)]))
 Tr.leaf).node
 (some (AObj.cells [AV.mp (6 : Nat)])) Tr.leaf).node
 (some (AObj.cells [AV.fn (Fn.func (32 : Nat)) [] [AV.ptr (5 : Nat) (0 : Nat)]]))
 (Tr.leaf.node
 (some
 (AObj.cells
 [AV.sc (Value.int IntKind.i64 (0 : Int)), AV.sc (Value.int IntKind.i64 (0 : Int))]))
 Tr.leaf)).node
 none
 ((Tr.leaf.node
 (some (AObj.cells [AV.sl [R] (0 : Nat), AV.sc (Value.slice none (0 : Nat) (0 : Nat))]))
 Tr.leaf).node
 (some
 (AObj.cells
 [AV.fn (Fn.func (33 : Nat)) []
 [AV.ptr (3 : Nat) (0 : Nat), AV.ptr (4 : Nat) (0 : Nat)]]))
 (Tr.leaf.node (some (AObj.map [])) Tr.leaf)))
 ((((Nat.add (2 : Nat) (1 : Nat)).add (1 : Nat)).add (1 : Nat)).add (1 : Nat)).succ
 ((((Tr.leaf.node (some ((29 : Nat), (8 : Nat))) Tr.leaf).node none Tr.leaf).node none
 Tr.leaf).node
 none Tr.leaf)))
 (Vis0
 [AV.agg
 [AV.fn (Fn.func (34 : Nat)) []
 [AV.ptr (1 : Nat) (0 : Nat), AV.ptr (2 : Nat) (0 : Nat), AV.ptr (3 : Nat) (0 : Nat),
 AV.ptr (4 : Nat) (0 : Nat), AV.ptr (5 : Nat) (0 : Nat)],
 AV.fn (Fn.func (37 : Nat)) []
 [AV.ptr (1 : Nat) (0 : Nat), AV.ptr (2 : Nat) (0 : Nat), AV.ptr (5 : Nat) (0 : Nat)]],
 AV.sc (Value.slice none (0 : Nat) (0 : Nat)),
 AV.agg
 [AV.sc (Value.int IntKind.i64 (IntKind.i64.wrap (level + (1 : Int)))),
 AV.sc (Value.int IntKind.i64 (3 : Int)), AV.sc (Value.int IntKind.i64 (-1 : Int)),
 AV.sc (Value.bool false)],
 AV.sc (Value.pointer none)]
 (Heap.mk (((((Nat.add (2 : Nat) (1 : Nat)).add (1 : Nat)).add (1 : Nat)).add (1 : Nat)).succ + (1 : Nat))
 ((((Tr.leaf.node
 (some
 (AObj.cells
 [AV.sc (Value.int IntKind.i64 (9 : Int)), AV.sc (Value.string (ByteArray.mk (Array.mk []))),
 AV.sc (Value.string (ByteArray.mk (Array.mk []))),
 AV.sc (Value.slice none (0 : Nat) (0 : Nat)), AV.sl [Y] (0 : Nat),
 AV.sc (Value.slice none (0 : Nat) (0 : Nat)), AV.sc (Value.bool false),
 AV.sc (Value.int IntKind.i64 at_)]))
 Tr.leaf).node
 (some (AObj.cells [AV.mp (6 : Nat)])) Tr.leaf).node
 (some (AObj.cells [AV.fn (Fn.func (32 : Nat)) [] [AV.ptr (5 : Nat) (0 : Nat)]]))
 (Tr.leaf.node
 (some (AObj.cells [AV.sc (Value.int IntKind.i64 (0 : Int)), AV.sc (Value.int IntKind.i64 (0 : Int))]))
 Tr.leaf)).node
 none
 ((Tr.leaf.node (some (AObj.cells [AV.sl [R] (0 : Nat), AV.sc (Value.slice none (0 : Nat) (0 : Nat))]))
 Tr.leaf).node
 (some (AObj.cells [AV.fn (Fn.func (33 : Nat)) [] [AV.ptr (3 : Nat) (0 : Nat), AV.ptr (4 : Nat) (0 : Nat)]]))
 (Tr.leaf.node (some (AObj.map [])) Tr.leaf)))
 ((((Nat.add (2 : Nat) (1 : Nat)).add (1 : Nat)).add (1 : Nat)).add (1 : Nat)).succ
 ((((Tr.leaf.node (some ((29 : Nat), (8 : Nat))) Tr.leaf).node none Tr.leaf).node none Tr.leaf).node none
 Tr.leaf)) ∧
 ∀ (_ : Unit),
 True →
 Vis0
 [AV.agg
 [AV.fn (Fn.func (34 : Nat)) []
 [AV.ptr (1 : Nat) (0 : Nat), AV.ptr (2 : Nat) (0 : Nat), AV.ptr (3 : Nat) (0 : Nat),
 AV.ptr (4 : Nat) (0 : Nat), AV.ptr (5 : Nat) (0 : Nat)],
 AV.fn (Fn.func (37 : Nat)) []
 [AV.ptr (1 : Nat) (0 : Nat), AV.ptr (2 : Nat) (0 : Nat), AV.ptr (5 : Nat) (0 : Nat)]],
 AV.sc (Value.slice none (0 : Nat) (0 : Nat)),
 AV.agg
 [AV.sc (Value.int IntKind.i64 (IntKind.i64.wrap (level + (1 : Int)))),
 AV.sc (Value.int IntKind.i64 (3 : Int)), AV.sc (Value.int IntKind.i64 (-1 : Int)),
 AV.sc (Value.bool false)],
 AV.sc (Value.pointer none)]
 (Heap.mk (((((Nat.add (2 : Nat) (1 : Nat)).add (1 : Nat)).add (1 : Nat)).add (1 : Nat)).succ + (1 : Nat))
 ((((Tr.leaf.node
 (some
 (AObj.cells
 [AV.sc (Value.int IntKind.i64 (9 : Int)),
 AV.sc (Value.string (ByteArray.mk (Array.mk []))),
 AV.sc (Value.string (ByteArray.mk (Array.mk []))),
 AV.sc (Value.slice none (0 : Nat) (0 : Nat)), AV.sl [Y] (0 : Nat),
 AV.sc (Value.slice none (0 : Nat) (0 : Nat)), AV.sc (Value.bool false),
 AV.sc (Value.int IntKind.i64 at_)]))
 Tr.leaf).node
 (some (AObj.cells [AV.mp (6 : Nat)])) Tr.leaf).node
 (some (AObj.cells [AV.fn (Fn.func (32 : Nat)) [] [AV.ptr (5 : Nat) (0 : Nat)]]))
 (Tr.leaf.node
 (some
 (AObj.cells [AV.sc (Value.int IntKind.i64 (0 : Int)), AV.sc (Value.int IntKind.i64 (0 : Int))]))
 Tr.leaf)).node
 none
 ((Tr.leaf.node (some (AObj.cells [AV.sl [R] (0 : Nat), AV.sc (Value.slice none (0 : Nat) (0 : Nat))]))
 Tr.leaf).node
 (some
 (AObj.cells
 [AV.fn (Fn.func (33 : Nat)) [] [AV.ptr (3 : Nat) (0 : Nat), AV.ptr (4 : Nat) (0 : Nat)]]))
 (Tr.leaf.node (some (AObj.map [])) Tr.leaf)))
 ((((Nat.add (2 : Nat) (1 : Nat)).add (1 : Nat)).add (1 : Nat)).add (1 : Nat)).succ
 ((((Tr.leaf.node (some ((29 : Nat), (8 : Nat))) Tr.leaf).node none Tr.leaf).node none Tr.leaf).node none
 Tr.leaf)) ∧
 ∀ (_ : Unit),
 True →
 Sta1 m
 [AV.agg
 [AV.fn (Fn.func (34 : Nat)) []
 [AV.ptr (1 : Nat) (0 : Nat), AV.ptr (2 : Nat) (0 : Nat), AV.ptr (3 : Nat) (0 : Nat),
 AV.ptr (4 : Nat) (0 : Nat), AV.ptr (5 : Nat) (0 : Nat)],
 AV.fn (Fn.func (37 : Nat)) []
 [AV.ptr (1 : Nat) (0 : Nat), AV.ptr (2 : Nat) (0 : Nat), AV.ptr (5 : Nat) (0 : Nat)]],
 AV.sl [Y] (0 : Nat),
 AV.agg
 [AV.sc (Value.int IntKind.i64 (IntKind.i64.wrap (level + (1 : Int)))),
 AV.sc (Value.int IntKind.i64 (3 : Int)), AV.sc (Value.int IntKind.i64 (-1 : Int)),
 AV.sc (Value.bool false)],
 AV.fn (Fn.func (56 : Nat)) []
 [AV.ptr ((((Nat.add (2 : Nat) (1 : Nat)).add (1 : Nat)).add (1 : Nat)).add (1 : Nat)).succ
 (0 : Nat)]]
 (Heap.mk
 (((((Nat.add (2 : Nat) (1 : Nat)).add (1 : Nat)).add (1 : Nat)).add (1 : Nat)).succ + (1 : Nat))
 ((((Tr.leaf.node
 (some
 (AObj.cells
 [AV.sc (Value.int IntKind.i64 (9 : Int)),
 AV.sc (Value.string (ByteArray.mk (Array.mk []))),
 AV.sc (Value.string (ByteArray.mk (Array.mk []))),
 AV.sc (Value.slice none (0 : Nat) (0 : Nat)), AV.sl [Y] (0 : Nat),
 AV.sc (Value.slice none (0 : Nat) (0 : Nat)), AV.sc (Value.bool false),
 AV.sc (Value.int IntKind.i64 at_)]))
 Tr.leaf).node
 (some (AObj.cells [AV.mp (6 : Nat)])) Tr.leaf).node
 (some (AObj.cells [AV.fn (Fn.func (32 : Nat)) [] [AV.ptr (5 : Nat) (0 : Nat)]]))
 (Tr.leaf.node
 (some
 (AObj.cells
 [AV.sc (Value.int IntKind.i64 (0 : Int)), AV.sc (Value.int IntKind.i64 (0 : Int))]))
 Tr.leaf)).node
 none
 ((Tr.leaf.node
 (some (AObj.cells [AV.sl [R] (0 : Nat), AV.sc (Value.slice none (0 : Nat) (0 : Nat))]))
 Tr.leaf).node
 (some
 (AObj.cells
 [AV.fn (Fn.func (33 : Nat)) [] [AV.ptr (3 : Nat) (0 : Nat), AV.ptr (4 : Nat) (0 : Nat)]]))
 (Tr.leaf.node (some (AObj.map [])) Tr.leaf)))
 ((((Nat.add (2 : Nat) (1 : Nat)).add (1 : Nat)).add (1 : Nat)).add (1 : Nat)).succ
 ((((Tr.leaf.node (some ((29 : Nat), (8 : Nat))) Tr.leaf).node none Tr.leaf).node none Tr.leaf).node
 none Tr.leaf)) ∧
 ∀ (_ : Unit),
 True →
 K (AV.sc (Value.bool true))
 (Heap.mk
 (((((Nat.add (2 : Nat) (1 : Nat)).add (1 : Nat)).add (1 : Nat)).add (1 : Nat)).succ + (1 : Nat))
 ((((Tr.leaf.node
 (some
 (AObj.cells
 [AV.sc (Value.int IntKind.i64 (9 : Int)),
 AV.sc (Value.string (ByteArray.mk (Array.mk []))),
 AV.sc (Value.string (ByteArray.mk (Array.mk []))),
 AV.sc (Value.slice none (0 : Nat) (0 : Nat)), AV.sl [Y] (0 : Nat),
 AV.sc (Value.slice none (0 : Nat) (0 : Nat)), AV.sc (Value.bool false),
 AV.sc (Value.int IntKind.i64 at_)]))
 Tr.leaf).node
 (some (AObj.cells [AV.mp (6 : Nat)])) Tr.leaf).node
 (some (AObj.cells [AV.fn (Fn.func (32 : Nat)) [] [AV.ptr (5 : Nat) (0 : Nat)]]))
 (Tr.leaf.node
 (some
 (AObj.cells
 [AV.sc (Value.int IntKind.i64 (0 : Int)), AV.sc (Value.int IntKind.i64 (0 : Int))]))
 Tr.leaf)).node
 none
 ((Tr.leaf.node
 (some (AObj.cells [AV.sl [R] (0 : Nat), AV.sc (Value.slice none (0 : Nat) (0 : Nat))]))
 Tr.leaf).node
 (some
 (AObj.cells
 [AV.fn (Fn.func (33 : Nat)) []
 [AV.ptr (3 : Nat) (0 : Nat), AV.ptr (4 : Nat) (0 : Nat)]]))
 (Tr.leaf.node (some (AObj.map [])) Tr.leaf)))
 ((((Nat.add (2 : Nat) (1 : Nat)).add (1 : Nat)).add (1 : Nat)).add (1 : Nat)).succ
 ((((Tr.leaf.node (some ((29 : Nat), (8 : Nat))) Tr.leaf).node none Tr.leaf).node none
 Tr.leaf).node
 none Tr.leaf)))) :
 (fun (m : Nat) (level : Int) (loop : Bool) (Y : List AV) (at_ : Int) (R : List AV) (K : AV → Heap → Prop) => wpCall (T47 m) cfgI Tryz.prog 60 47 [vN, .sl [blkC Y at_] 0, wA level loop, loopO] (hN0 R) K) m level loop Y at_ R K :=
 Eq.mp (by kernel_rfl) h
theorem enb (m : Nat) (level : Int) (loop : Bool) (Y : List AV) (R : List AV) (Y2 : List AV) (a2 : Int) (K : AV → Heap → Prop) (h :
 iteP loop
 (Vis1 (100 : Nat)
 [AV.agg
 [AV.fn (Fn.func (34 : Nat)) []
 [AV.ptr (1 : Nat) (0 : Nat), AV.ptr (2 : Nat) (0 : Nat), AV.ptr (3 : Nat) (0 : Nat),
 AV.ptr (4 : Nat) (0 : Nat), AV.ptr (5 : Nat) (0 : Nat)],
 AV.fn (Fn.func (37 : Nat)) []
 [AV.ptr (1 : Nat) (0 : Nat), AV.ptr (2 : Nat) (0 : Nat), AV.ptr (5 : Nat) (0 : Nat)]],
 AV.sl [Y] (0 : Nat),
 AV.agg
 [AV.sc (Value.int IntKind.i64 (IntKind.i64.wrap (level + (1 : Int)))),
 AV.sc (Value.int IntKind.i64 (3 : Int)), AV.sc (Value.int IntKind.i64 (-1 : Int)), AV.sc (Value.bool true)],
 AV.sc (Value.pointer none)]
 (Heap.mk
 (((((((Nat.add (1 : Nat) (1 : Nat)).add (1 : Nat)).add (1 : Nat)).add (1 : Nat)).add (1 : Nat)).add
 (1 : Nat)).succ +
 (1 : Nat))
 ((((Tr.leaf.node (some (AObj.map [])) Tr.leaf).node (some (AObj.cells [AV.mp (7 : Nat)])) Tr.leaf).node
 (some (AObj.cells [AV.fn (Fn.func (32 : Nat)) [] [AV.ptr (5 : Nat) (0 : Nat)]]))
 (Tr.leaf.node
 (some (AObj.cells [AV.sc (Value.int IntKind.i64 (0 : Int)), AV.sc (Value.int IntKind.i64 (0 : Int))]))
 Tr.leaf)).node
 none
 (((Tr.leaf.node
 (some
 (AObj.cells
 [AV.sc (Value.int IntKind.i64 (1 : Int)), AV.sc (Value.string (ByteArray.mk (Array.mk []))),
 AV.sc (Value.string (ByteArray.mk (Array.mk []))), AV.sl [Y] (0 : Nat),
 AV.sc (Value.slice none (0 : Nat) (0 : Nat)), AV.sc (Value.slice none (0 : Nat) (0 : Nat)),
 AV.sc (Value.bool false), AV.sc (Value.int IntKind.i64 (500 : Int))]))
 Tr.leaf).node
 (some (AObj.cells [AV.sl [R] (0 : Nat), AV.sc (Value.slice none (0 : Nat) (0 : Nat))])) Tr.leaf).node
 (some (AObj.cells [AV.fn (Fn.func (33 : Nat)) [] [AV.ptr (3 : Nat) (0 : Nat), AV.ptr (4 : Nat) (0 : Nat)]]))
 (Tr.leaf.node
 (some
 (AObj.cells
 [AV.sc (Value.int IntKind.i64 (9 : Int)), AV.sc (Value.string (ByteArray.mk (Array.mk []))),
 AV.sc (Value.string (ByteArray.mk (Array.mk []))), AV.sc (Value.slice none (0 : Nat) (0 : Nat)),
 AV.sl [Y2] (0 : Nat), AV.sc (Value.slice none (0 : Nat) (0 : Nat)), AV.sc (Value.bool false),
 AV.sc (Value.int IntKind.i64 a2)]))
 Tr.leaf)))
 ((((((Nat.add (1 : Nat) (1 : Nat)).add (1 : Nat)).add (1 : Nat)).add (1 : Nat)).add (1 : Nat)).add
 (1 : Nat)).succ
 (Tr.leaf.node none
 (((Tr.leaf.node (some ((29 : Nat), (8 : Nat))) Tr.leaf).node none Tr.leaf).node none Tr.leaf))) ∧
 ∀ (_ : Unit),
 True →
 Vis0
 [AV.agg
 [AV.fn (Fn.func (34 : Nat)) []
 [AV.ptr (1 : Nat) (0 : Nat), AV.ptr (2 : Nat) (0 : Nat), AV.ptr (3 : Nat) (0 : Nat),
 AV.ptr (4 : Nat) (0 : Nat), AV.ptr (5 : Nat) (0 : Nat)],
 AV.fn (Fn.func (37 : Nat)) []
 [AV.ptr (1 : Nat) (0 : Nat), AV.ptr (2 : Nat) (0 : Nat), AV.ptr (5 : Nat) (0 : Nat)]],
 AV.sc (Value.slice none (0 : Nat) (0 : Nat)),
 AV.agg
 [AV.sc (Value.int IntKind.i64 (IntKind.i64.wrap (level + (1 : Int)))),
 AV.sc (Value.int IntKind.i64 (3 : Int)), AV.sc (Value.int IntKind.i64 (-1 : Int)),
 AV.sc (Value.bool true)],
 AV.sc (Value.pointer none)]
 (Heap.mk
 (((((((Nat.add (1 : Nat) (1 : Nat)).add (1 : Nat)).add (1 : Nat)).add (1 : Nat)).add (1 : Nat)).add
 (1 : Nat)).succ +
 (1 : Nat))
 ((((Tr.leaf.node (some (AObj.map [])) Tr.leaf).node (some (AObj.cells [AV.mp (7 : Nat)])) Tr.leaf).node
 (some (AObj.cells [AV.fn (Fn.func (32 : Nat)) [] [AV.ptr (5 : Nat) (0 : Nat)]]))
 (Tr.leaf.node
 (some
 (AObj.cells [AV.sc (Value.int IntKind.i64 (0 : Int)), AV.sc (Value.int IntKind.i64 (0 : Int))]))
 Tr.leaf)).node
 none
 (((Tr.leaf.node
 (some
 (AObj.cells
 [AV.sc (Value.int IntKind.i64 (1 : Int)),
 AV.sc (Value.string (ByteArray.mk (Array.mk []))),
 AV.sc (Value.string (ByteArray.mk (Array.mk []))), AV.sl [Y] (0 : Nat),
 AV.sc (Value.slice none (0 : Nat) (0 : Nat)),
 AV.sc (Value.slice none (0 : Nat) (0 : Nat)), AV.sc (Value.bool false),
 AV.sc (Value.int IntKind.i64 (500 : Int))]))
 Tr.leaf).node
 (some (AObj.cells [AV.sl [R] (0 : Nat), AV.sc (Value.slice none (0 : Nat) (0 : Nat))]))
 Tr.leaf).node
 (some
 (AObj.cells
 [AV.fn (Fn.func (33 : Nat)) [] [AV.ptr (3 : Nat) (0 : Nat), AV.ptr (4 : Nat) (0 : Nat)]]))
 (Tr.leaf.node
 (some
 (AObj.cells
 [AV.sc (Value.int IntKind.i64 (9 : Int)), AV.sc (Value.string (ByteArray.mk (Array.mk []))),
 AV.sc (Value.string (ByteArray.mk (Array.mk []))),
 AV.sc (Value.slice none (0 : Nat) (0 : Nat)), AV.sl [Y2] (0 : Nat),
 AV.sc (Value.slice none (0 : Nat) (0 : Nat)), AV.sc (Value.bool false),
 AV.sc (Value.int IntKind.i64 a2)]))
 Tr.leaf)))
 ((((((Nat.add (1 : Nat) (1 : Nat)).add (1 : Nat)).add (1 : Nat)).add (1 : Nat)).add (1 : Nat)).add
 (1 : Nat)).succ
 (Tr.leaf.node none
 (((Tr.leaf.node (some ((29 : Nat), (8 : Nat))) Tr.leaf).node none Tr.leaf).node none Tr.leaf))) ∧
 ∀ (_ : Unit),
 True →
 Sta0
 [AV.agg
 [AV.fn (Fn.func (34 : Nat)) []
 [AV.ptr (1 : Nat) (0 : Nat), AV.ptr (2 : Nat) (0 : Nat), AV.ptr (3 : Nat) (0 : Nat),
 AV.ptr (4 : Nat) (0 : Nat), AV.ptr (5 : Nat) (0 : Nat)],
 AV.fn (Fn.func (37 : Nat)) []
 [AV.ptr (1 : Nat) (0 : Nat), AV.ptr (2 : Nat) (0 : Nat), AV.ptr (5 : Nat) (0 : Nat)]],
 AV.sc (Value.slice none (0 : Nat) (0 : Nat)),
 AV.agg
 [AV.sc (Value.int IntKind.i64 (IntKind.i64.wrap (level + (1 : Int)))),
 AV.sc (Value.int IntKind.i64 (3 : Int)), AV.sc (Value.int IntKind.i64 (-1 : Int)),
 AV.sc (Value.bool true)],
 AV.fn (Fn.func (56 : Nat)) []
 [AV.ptr
 ((((((Nat.add (1 : Nat) (1 : Nat)).add (1 : Nat)).add (1 : Nat)).add (1 : Nat)).add
 (1 : Nat)).add
 (1 : Nat)).succ
 (0 : Nat)]]
 (Heap.mk
 (((((((Nat.add (1 : Nat) (1 : Nat)).add (1 : Nat)).add (1 : Nat)).add (1 : Nat)).add (1 : Nat)).add
 (1 : Nat)).succ +
 (1 : Nat))
 ((((Tr.leaf.node (some (AObj.map [])) Tr.leaf).node (some (AObj.cells [AV.mp (7 : Nat)]))
 Tr.leaf).node
 (some (AObj.cells [AV.fn (Fn.func (32 : Nat)) [] [AV.ptr (5 : Nat) (0 : Nat)]]))
 (Tr.leaf.node
 (some
 (AObj.cells
 [AV.sc (Value.int IntKind.i64 (0 : Int)), AV.sc (Value.int IntKind.i64 (0 : Int))]))
 Tr.leaf)).node
 none
 (((Tr.leaf.node
 (some
 (AObj.cells
 [AV.sc (Value.int IntKind.i64 (1 : Int)),
 AV.sc (Value.string (ByteArray.mk (Array.mk []))),
 AV.sc (Value.string (ByteArray.mk (Array.mk []))), AV.sl [Y] (0 : Nat),
 AV.sc (Value.slice none (0 : Nat) (0 : Nat)),
 AV.sc (Value.slice none (0 : Nat) (0 : Nat)), AV.sc (Value.bool false),
 AV.sc (Value.int IntKind.i64 (500 : Int))]))
 Tr.leaf).node
 (some (AObj.cells [AV.sl [R] (0 : Nat), AV.sc (Value.slice none (0 : Nat) (0 : Nat))]))
 Tr.leaf).node
 (some
 (AObj.cells
 [AV.fn (Fn.func (33 : Nat)) [] [AV.ptr (3 : Nat) (0 : Nat), AV.ptr (4 : Nat) (0 : Nat)]]))
 (Tr.leaf.node
 (some
 (AObj.cells
 [AV.sc (Value.int IntKind.i64 (9 : Int)),
 AV.sc (Value.string (ByteArray.mk (Array.mk []))),
 AV.sc (Value.string (ByteArray.mk (Array.mk []))),
 AV.sc (Value.slice none (0 : Nat) (0 : Nat)), AV.sl [Y2] (0 : Nat),
 AV.sc (Value.slice none (0 : Nat) (0 : Nat)), AV.sc (Value.bool false),
 AV.sc (Value.int IntKind.i64 a2)]))
 Tr.leaf)))
 ((((((Nat.add (1 : Nat) (1 : Nat)).add (1 : Nat)).add (1 : Nat)).add (1 : Nat)).add (1 : Nat)).add
 (1 : Nat)).succ
 (Tr.leaf.node none
 (((Tr.leaf.node (some ((29 : Nat), (8 : Nat))) Tr.leaf).node none Tr.leaf).node none Tr.leaf))) ∧
 ∀ (_ : Unit),
 True →
 K (AV.sc (Value.bool true))
 (Heap.mk
 (((((((Nat.add (1 : Nat) (1 : Nat)).add (1 : Nat)).add (1 : Nat)).add (1 : Nat)).add
 (1 : Nat)).add
 (1 : Nat)).succ +
 (1 : Nat))
 ((((Tr.leaf.node (some (AObj.map [])) Tr.leaf).node (some (AObj.cells [AV.mp (7 : Nat)]))
 Tr.leaf).node
 (some (AObj.cells [AV.fn (Fn.func (32 : Nat)) [] [AV.ptr (5 : Nat) (0 : Nat)]]))
 (Tr.leaf.node
 (some
 (AObj.cells
 [AV.sc (Value.int IntKind.i64 (0 : Int)), AV.sc (Value.int IntKind.i64 (0 : Int))]))
 Tr.leaf)).node
 none
 (((Tr.leaf.node
 (some
 (AObj.cells
 [AV.sc (Value.int IntKind.i64 (1 : Int)),
 AV.sc (Value.string (ByteArray.mk (Array.mk []))),
 AV.sc (Value.string (ByteArray.mk (Array.mk []))), AV.sl [Y] (0 : Nat),
 AV.sc (Value.slice none (0 : Nat) (0 : Nat)),
 AV.sc (Value.slice none (0 : Nat) (0 : Nat)), AV.sc (Value.bool false),
 AV.sc (Value.int IntKind.i64 (500 : Int))]))
 Tr.leaf).node
 (some (AObj.cells [AV.sl [R] (0 : Nat), AV.sc (Value.slice none (0 : Nat) (0 : Nat))]))
 Tr.leaf).node
 (some
 (AObj.cells
 [AV.fn (Fn.func (33 : Nat)) []
 [AV.ptr (3 : Nat) (0 : Nat), AV.ptr (4 : Nat) (0 : Nat)]]))
 (Tr.leaf.node
 (some
 (AObj.cells
 [AV.sc (Value.int IntKind.i64 (9 : Int)),
 AV.sc (Value.string (ByteArray.mk (Array.mk []))),
 AV.sc (Value.string (ByteArray.mk (Array.mk []))),
 AV.sc (Value.slice none (0 : Nat) (0 : Nat)), AV.sl [Y2] (0 : Nat),
 AV.sc (Value.slice none (0 : Nat) (0 : Nat)), AV.sc (Value.bool false),
 AV.sc (Value.int IntKind.i64 a2)]))
 Tr.leaf)))
 ((((((Nat.add (1 : Nat) (1 : Nat)).add (1 : Nat)).add (1 : Nat)).add (1 : Nat)).add
 (1 : Nat)).add
 (1 : Nat)).succ
 (Tr.leaf.node none
 (((Tr.leaf.node (some ((29 : Nat), (8 : Nat))) Tr.leaf).node none Tr.leaf).node none
 Tr.leaf))))
 (Vis1 (100 : Nat)
 [AV.agg
 [AV.fn (Fn.func (34 : Nat)) []
 [AV.ptr (1 : Nat) (0 : Nat), AV.ptr (2 : Nat) (0 : Nat), AV.ptr (3 : Nat) (0 : Nat),
 AV.ptr (4 : Nat) (0 : Nat), AV.ptr (5 : Nat) (0 : Nat)],
 AV.fn (Fn.func (37 : Nat)) []
 [AV.ptr (1 : Nat) (0 : Nat), AV.ptr (2 : Nat) (0 : Nat), AV.ptr (5 : Nat) (0 : Nat)]],
 AV.sl [Y] (0 : Nat),
 AV.agg
 [AV.sc (Value.int IntKind.i64 (IntKind.i64.wrap (level + (1 : Int)))),
 AV.sc (Value.int IntKind.i64 (3 : Int)), AV.sc (Value.int IntKind.i64 (-1 : Int)),
 AV.sc (Value.bool false)],
 AV.sc (Value.pointer none)]
 (Heap.mk
 (((((((Nat.add (1 : Nat) (1 : Nat)).add (1 : Nat)).add (1 : Nat)).add (1 : Nat)).add (1 : Nat)).add
 (1 : Nat)).succ +
 (1 : Nat))
 ((((Tr.leaf.node (some (AObj.map [])) Tr.leaf).node (some (AObj.cells [AV.mp (7 : Nat)])) Tr.leaf).node
 (some (AObj.cells [AV.fn (Fn.func (32 : Nat)) [] [AV.ptr (5 : Nat) (0 : Nat)]]))
 (Tr.leaf.node
 (some (AObj.cells [AV.sc (Value.int IntKind.i64 (0 : Int)), AV.sc (Value.int IntKind.i64 (0 : Int))]))
 Tr.leaf)).node
 none
 (((Tr.leaf.node
 (some
 (AObj.cells
 [AV.sc (Value.int IntKind.i64 (1 : Int)), AV.sc (Value.string (ByteArray.mk (Array.mk []))),
 AV.sc (Value.string (ByteArray.mk (Array.mk []))), AV.sl [Y] (0 : Nat),
 AV.sc (Value.slice none (0 : Nat) (0 : Nat)), AV.sc (Value.slice none (0 : Nat) (0 : Nat)),
 AV.sc (Value.bool false), AV.sc (Value.int IntKind.i64 (500 : Int))]))
 Tr.leaf).node
 (some (AObj.cells [AV.sl [R] (0 : Nat), AV.sc (Value.slice none (0 : Nat) (0 : Nat))])) Tr.leaf).node
 (some (AObj.cells [AV.fn (Fn.func (33 : Nat)) [] [AV.ptr (3 : Nat) (0 : Nat), AV.ptr (4 : Nat) (0 : Nat)]]))
 (Tr.leaf.node
 (some
 (AObj.cells
 [AV.sc (Value.int IntKind.i64 (9 : Int)), AV.sc (Value.string (ByteArray.mk (Array.mk []))),
 AV.sc (Value.string (ByteArray.mk (Array.mk []))), AV.sc (Value.slice none (0 : Nat) (0 : Nat)),
 AV.sl [Y2] (0 : Nat), AV.sc (Value.slice none (0 : Nat) (0 : Nat)), AV.sc (Value.bool false),
 AV.sc (Value.int IntKind.i64 a2)]))
 Tr.leaf)))
 ((((((Nat.add (1 : Nat) (1 : Nat)).add (1 : Nat)).add (1 : Nat)).add (1 : Nat)).add (1 : Nat)).add
 (1 : Nat)).succ
 (Tr.leaf.node none
 (((Tr.leaf.node (some ((29 : Nat), (8 : Nat))) Tr.leaf).node none Tr.leaf).node none Tr.leaf))) ∧
 ∀ (_ : Unit),
 True →
 Vis0
 [AV.agg
 [AV.fn (Fn.func (34 : Nat)) []
 [AV.ptr (1 : Nat) (0 : Nat), AV.ptr (2 : Nat) (0 : Nat), AV.ptr (3 : Nat) (0 : Nat),
 AV.ptr (4 : Nat) (0 : Nat), AV.ptr (5 : Nat) (0 : Nat)],
 AV.fn (Fn.func (37 : Nat)) []
 [AV.ptr (1 : Nat) (0 : Nat), AV.ptr (2 : Nat) (0 : Nat), AV.ptr (5 : Nat) (0 : Nat)]],
 AV.sc (Value.slice none (0 : Nat) (0 : Nat)),
 AV.agg
 [AV.sc (Value.int IntKind.i64 (IntKind.i64.wrap (level + (1 : Int)))),
 AV.sc (Value.int IntKind.i64 (3 : Int)), AV.sc (Value.int IntKind.i64 (-1 : Int)),
 AV.sc (Value.bool false)],
 AV.sc (Value.pointer none)]
 (Heap.mk
 (((((((Nat.add (1 : Nat) (1 : Nat)).add (1 : Nat)).add (1 : Nat)).add (1 : Nat)).add (1 : Nat)).add
 (1 : Nat)).succ +
 (1 : Nat))
 ((((Tr.leaf.node (some (AObj.map [])) Tr.leaf).node (some (AObj.cells [AV.mp (7 : Nat)])) Tr.leaf).node
 (some (AObj.cells [AV.fn (Fn.func (32 : Nat)) [] [AV.ptr (5 : Nat) (0 : Nat)]]))
 (Tr.leaf.node
 (some
 (AObj.cells [AV.sc (Value.int IntKind.i64 (0 : Int)), AV.sc (Value.int IntKind.i64 (0 : Int))]))
 Tr.leaf)).node
 none
 (((Tr.leaf.node
 (some
 (AObj.cells
 [AV.sc (Value.int IntKind.i64 (1 : Int)),
 AV.sc (Value.string (ByteArray.mk (Array.mk []))),
 AV.sc (Value.string (ByteArray.mk (Array.mk []))), AV.sl [Y] (0 : Nat),
 AV.sc (Value.slice none (0 : Nat) (0 : Nat)),
 AV.sc (Value.slice none (0 : Nat) (0 : Nat)), AV.sc (Value.bool false),
 AV.sc (Value.int IntKind.i64 (500 : Int))]))
 Tr.leaf).node
 (some (AObj.cells [AV.sl [R] (0 : Nat), AV.sc (Value.slice none (0 : Nat) (0 : Nat))]))
 Tr.leaf).node
 (some
 (AObj.cells
 [AV.fn (Fn.func (33 : Nat)) [] [AV.ptr (3 : Nat) (0 : Nat), AV.ptr (4 : Nat) (0 : Nat)]]))
 (Tr.leaf.node
 (some
 (AObj.cells
 [AV.sc (Value.int IntKind.i64 (9 : Int)), AV.sc (Value.string (ByteArray.mk (Array.mk []))),
 AV.sc (Value.string (ByteArray.mk (Array.mk []))),
 AV.sc (Value.slice none (0 : Nat) (0 : Nat)), AV.sl [Y2] (0 : Nat),
 AV.sc (Value.slice none (0 : Nat) (0 : Nat)), AV.sc (Value.bool false),
 AV.sc (Value.int IntKind.i64 a2)]))
 Tr.leaf)))
 ((((((Nat.add (1 : Nat) (1 : Nat)).add (1 : Nat)).add (1 : Nat)).add (1 : Nat)).add (1 : Nat)).add
 (1 : Nat)).succ
 (Tr.leaf.node none
 (((Tr.leaf.node (some ((29 : Nat), (8 : Nat))) Tr.leaf).node none Tr.leaf).node none Tr.leaf))) ∧
 ∀ (_ : Unit),
 True →
 Sta0
 [AV.agg
 [AV.fn (Fn.func (34 : Nat)) []
 [AV.ptr (1 : Nat) (0 : Nat), AV.ptr (2 : Nat) (0 : Nat), AV.ptr (3 : Nat) (0 : Nat),
 AV.ptr (4 : Nat) (0 : Nat), AV.ptr (5 : Nat) (0 : Nat)],
 AV.fn (Fn.func (37 : Nat)) []
 [AV.ptr (1 : Nat) (0 : Nat), AV.ptr (2 : Nat) (0 : Nat), AV.ptr (5 : Nat) (0 : Nat)]],
 AV.sc (Value.slice none (0 : Nat) (0 : Nat)),
 AV.agg
 [AV.sc (Value.int IntKind.i64 (IntKind.i64.wrap (level + (1 : Int)))),
 AV.sc (Value.int IntKind.i64 (3 : Int)), AV.sc (Value.int IntKind.i64 (-1 : Int)),
 AV.sc (Value.bool false)],
 AV.fn (Fn.func (56 : Nat)) []
 [AV.ptr
 ((((((Nat.add (1 : Nat) (1 : Nat)).add (1 : Nat)).add (1 : Nat)).add (1 : Nat)).add
 (1 : Nat)).add
 (1 : Nat)).succ
 (0 : Nat)]]
 (Heap.mk
 (((((((Nat.add (1 : Nat) (1 : Nat)).add (1 : Nat)).add (1 : Nat)).add (1 : Nat)).add (1 : Nat)).add
 (1 : Nat)).succ +
 (1 : Nat))
 ((((Tr.leaf.node (some (AObj.map [])) Tr.leaf).node (some (AObj.cells [AV.mp (7 : Nat)]))
 Tr.leaf).node
 (some (AObj.cells [AV.fn (Fn.func (32 : Nat)) [] [AV.ptr (5 : Nat) (0 : Nat)]]))
 (Tr.leaf.node
 (some
 (AObj.cells
 [AV.sc (Value.int IntKind.i64 (0 : Int)), AV.sc (Value.int IntKind.i64 (0 : Int))]))
 Tr.leaf)).node
 none
 (((Tr.leaf.node
 (some
 (AObj.cells
 [AV.sc (Value.int IntKind.i64 (1 : Int)),
 AV.sc (Value.string (ByteArray.mk (Array.mk []))),
 AV.sc (Value.string (ByteArray.mk (Array.mk []))), AV.sl [Y] (0 : Nat),
 AV.sc (Value.slice none (0 : Nat) (0 : Nat)),
 AV.sc (Value.slice none (0 : Nat) (0 : Nat)), AV.sc (Value.bool false),
 AV.sc (Value.int IntKind.i64 (500 : Int))]))
 Tr.leaf).node
 (some (AObj.cells [AV.sl [R] (0 : Nat), AV.sc (Value.slice none (0 : Nat) (0 : Nat))]))
 Tr.leaf).node
 (some
 (AObj.cells
 [AV.fn (Fn.func (33 : Nat)) [] [AV.ptr (3 : Nat) (0 : Nat), AV.ptr (4 : Nat) (0 : Nat)]]))
 (Tr.leaf.node
 (some
 (AObj.cells
 [AV.sc (Value.int IntKind.i64 (9 : Int)),
 AV.sc (Value.string (ByteArray.mk (Array.mk []))),
 AV.sc (Value.string (ByteArray.mk (Array.mk []))),
 AV.sc (Value.slice none (0 : Nat) (0 : Nat)), AV.sl [Y2] (0 : Nat),
 AV.sc (Value.slice none (0 : Nat) (0 : Nat)), AV.sc (Value.bool false),
 AV.sc (Value.int IntKind.i64 a2)]))
 Tr.leaf)))
 ((((((Nat.add (1 : Nat) (1 : Nat)).add (1 : Nat)).add (1 : Nat)).add (1 : Nat)).add (1 : Nat)).add
 (1 : Nat)).succ
 (Tr.leaf.node none
 (((Tr.leaf.node (some ((29 : Nat), (8 : Nat))) Tr.leaf).node none Tr.leaf).node none Tr.leaf))) ∧
 ∀ (_ : Unit),
 True →
 K (AV.sc (Value.bool true))
 (Heap.mk
 (((((((Nat.add (1 : Nat) (1 : Nat)).add (1 : Nat)).add (1 : Nat)).add (1 : Nat)).add
 (1 : Nat)).add
 (1 : Nat)).succ +
 (1 : Nat))
 ((((Tr.leaf.node (some (AObj.map [])) Tr.leaf).node (some (AObj.cells [AV.mp (7 : Nat)]))
 Tr.leaf).node
 (some (AObj.cells [AV.fn (Fn.func (32 : Nat)) [] [AV.ptr (5 : Nat) (0 : Nat)]]))
 (Tr.leaf.node
 (some
 (AObj.cells
 [AV.sc (Value.int IntKind.i64 (0 : Int)), AV.sc (Value.int IntKind.i64 (0 : Int))]))
 Tr.leaf)).node
 none
 (((Tr.leaf.node
 (some
 (AObj.cells
 [AV.sc (Value.int IntKind.i64 (1 : Int)),
 AV.sc (Value.string (ByteArray.mk (Array.mk []))),
 AV.sc (Value.string (ByteArray.mk (Array.mk []))), AV.sl [Y] (0 : Nat),
 AV.sc (Value.slice none (0 : Nat) (0 : Nat)),
 AV.sc (Value.slice none (0 : Nat) (0 : Nat)), AV.sc (Value.bool false),
 AV.sc (Value.int IntKind.i64 (500 : Int))]))
 Tr.leaf).node
 (some (AObj.cells [AV.sl [R] (0 : Nat), AV.sc (Value.slice none (0 : Nat) (0 : Nat))]))
 Tr.leaf).node
 (some
 (AObj.cells
 [AV.fn (Fn.func (33 : Nat)) []
 [AV.ptr (3 : Nat) (0 : Nat), AV.ptr (4 : Nat) (0 : Nat)]]))
 (Tr.leaf.node
 (some
 (AObj.cells
 [AV.sc (Value.int IntKind.i64 (9 : Int)),
 AV.sc (Value.string (ByteArray.mk (Array.mk []))),
 AV.sc (Value.string (ByteArray.mk (Array.mk []))),
 AV.sc (Value.slice none (0 : Nat) (0 : Nat)), AV.sl [Y2] (0 : Nat),
 AV.sc (Value.slice none (0 : Nat) (0 : Nat)), AV.sc (Value.bool false),
 AV.sc (Value.int IntKind.i64 a2)]))
 Tr.leaf)))
 ((((((Nat.add (1 : Nat) (1 : Nat)).add (1 : Nat)).add (1 : Nat)).add (1 : Nat)).add
 (1 : Nat)).add
 (1 : Nat)).succ
 (Tr.leaf.node none
 (((Tr.leaf.node (some ((29 : Nat), (8 : Nat))) Tr.leaf).node none Tr.leaf).node none
 Tr.leaf))))) :
 (fun (m : Nat) (level : Int) (loop : Bool) (Y : List AV) (R Y2 : List AV) (a2 : Int) (K : AV → Heap → Prop) => wpCall (T47 m) cfgI Tryz.prog 60 47 [vN, .sl [exprC Y] 0, wA level loop, (fnA 56 [.ptr 6 0])] (hN1 R (blkC Y2 a2)) K) m level loop Y R Y2 a2 K :=
 Eq.mp (by kernel_rfl) h
theorem bnb (m : Nat) (level : Int) (loop : Bool) (Y : List AV) (at_ : Int) (R : List AV) (Y2 : List AV) (a2 : Int) (K : AV → Heap → Prop) (h :
 iteP loop
 (Vis0
 [AV.agg
 [AV.fn (Fn.func (34 : Nat)) []
 [AV.ptr (1 : Nat) (0 : Nat), AV.ptr (2 : Nat) (0 : Nat), AV.ptr (3 : Nat) (0 : Nat),
 AV.ptr (4 : Nat) (0 : Nat), AV.ptr (5 : Nat) (0 : Nat)],
 AV.fn (Fn.func (37 : Nat)) []
 [AV.ptr (1 : Nat) (0 : Nat), AV.ptr (2 : Nat) (0 : Nat), AV.ptr (5 : Nat) (0 : Nat)]],
 AV.sc (Value.slice none (0 : Nat) (0 : Nat)),
 AV.agg
 [AV.sc (Value.int IntKind.i64 (IntKind.i64.wrap (level + (1 : Int)))),
 AV.sc (Value.int IntKind.i64 (3 : Int)), AV.sc (Value.int IntKind.i64 (-1 : Int)), AV.sc (Value.bool true)],
 AV.sc (Value.pointer none)]
 (Heap.mk
 (((((((Nat.add (1 : Nat) (1 : Nat)).add (1 : Nat)).add (1 : Nat)).add (1 : Nat)).add (1 : Nat)).add
 (1 : Nat)).succ +
 (1 : Nat))
 ((((Tr.leaf.node (some (AObj.map [])) Tr.leaf).node (some (AObj.cells [AV.mp (7 : Nat)])) Tr.leaf).node
 (some (AObj.cells [AV.fn (Fn.func (32 : Nat)) [] [AV.ptr (5 : Nat) (0 : Nat)]]))
 (Tr.leaf.node
 (some (AObj.cells [AV.sc (Value.int IntKind.i64 (0 : Int)), AV.sc (Value.int IntKind.i64 (0 : Int))]))
 Tr.leaf)).node
 none
 (((Tr.leaf.node
 (some
 (AObj.cells
 [AV.sc (Value.int IntKind.i64 (9 : Int)), AV.sc (Value.string (ByteArray.mk (Array.mk []))),
 AV.sc (Value.string (ByteArray.mk (Array.mk []))),
 AV.sc (Value.slice none (0 : Nat) (0 : Nat)), AV.sl [Y] (0 : Nat),
 AV.sc (Value.slice none (0 : Nat) (0 : Nat)), AV.sc (Value.bool false),
 AV.sc (Value.int IntKind.i64 at_)]))
 Tr.leaf).node
 (some (AObj.cells [AV.sl [R] (0 : Nat), AV.sc (Value.slice none (0 : Nat) (0 : Nat))])) Tr.leaf).node
 (some (AObj.cells [AV.fn (Fn.func (33 : Nat)) [] [AV.ptr (3 : Nat) (0 : Nat), AV.ptr (4 : Nat) (0 : Nat)]]))
 (Tr.leaf.node
 (some
 (AObj.cells
 [AV.sc (Value.int IntKind.i64 (9 : Int)), AV.sc (Value.string (ByteArray.mk (Array.mk []))),
 AV.sc (Value.string (ByteArray.mk (Array.mk []))), AV.sc (Value.slice none (0 : Nat) (0 : Nat)),
 AV.sl [Y2] (0 : Nat), AV.sc (Value.slice none (0 : Nat) (0 : Nat)), AV.sc (Value.bool false),
 AV.sc (Value.int IntKind.i64 a2)]))
 Tr.leaf)))
 ((((((Nat.add (1 : Nat) (1 : Nat)).add (1 : Nat)).add (1 : Nat)).add (1 : Nat)).add (1 : Nat)).add
 (1 : Nat)).succ
 (Tr.leaf.node none
 (((Tr.leaf.node (some ((29 : Nat), (8 : Nat))) Tr.leaf).node none Tr.leaf).node none Tr.leaf))) ∧
 ∀ (_ : Unit),
 True →
 Vis0
 [AV.agg
 [AV.fn (Fn.func (34 : Nat)) []
 [AV.ptr (1 : Nat) (0 : Nat), AV.ptr (2 : Nat) (0 : Nat), AV.ptr (3 : Nat) (0 : Nat),
 AV.ptr (4 : Nat) (0 : Nat), AV.ptr (5 : Nat) (0 : Nat)],
 AV.fn (Fn.func (37 : Nat)) []
 [AV.ptr (1 : Nat) (0 : Nat), AV.ptr (2 : Nat) (0 : Nat), AV.ptr (5 : Nat) (0 : Nat)]],
 AV.sc (Value.slice none (0 : Nat) (0 : Nat)),
 AV.agg
 [AV.sc (Value.int IntKind.i64 (IntKind.i64.wrap (level + (1 : Int)))),
 AV.sc (Value.int IntKind.i64 (3 : Int)), AV.sc (Value.int IntKind.i64 (-1 : Int)),
 AV.sc (Value.bool true)],
 AV.sc (Value.pointer none)]
 (Heap.mk
 (((((((Nat.add (1 : Nat) (1 : Nat)).add (1 : Nat)).add (1 : Nat)).add (1 : Nat)).add (1 : Nat)).add
 (1 : Nat)).succ +
 (1 : Nat))
 ((((Tr.leaf.node (some (AObj.map [])) Tr.leaf).node (some (AObj.cells [AV.mp (7 : Nat)])) Tr.leaf).node
 (some (AObj.cells [AV.fn (Fn.func (32 : Nat)) [] [AV.ptr (5 : Nat) (0 : Nat)]]))
 (Tr.leaf.node
 (some
 (AObj.cells [AV.sc (Value.int IntKind.i64 (0 : Int)), AV.sc (Value.int IntKind.i64 (0 : Int))]))
 Tr.leaf)).node
 none
 (((Tr.leaf.node
 (some
 (AObj.cells
 [AV.sc (Value.int IntKind.i64 (9 : Int)),
 AV.sc (Value.string (ByteArray.mk (Array.mk []))),
 AV.sc (Value.string (ByteArray.mk (Array.mk []))),
 AV.sc (Value.slice none (0 : Nat) (0 : Nat)), AV.sl [Y] (0 : Nat),
 AV.sc (Value.slice none (0 : Nat) (0 : Nat)), AV.sc (Value.bool false),
 AV.sc (Value.int IntKind.i64 at_)]))
 Tr.leaf).node
 (some (AObj.cells [AV.sl [R] (0 : Nat), AV.sc (Value.slice none (0 : Nat) (0 : Nat))]))
 Tr.leaf).node
 (some
 (AObj.cells
 [AV.fn (Fn.func (33 : Nat)) [] [AV.ptr (3 : Nat) (0 : Nat), AV.ptr (4 : Nat) (0 : Nat)]]))
 (Tr.leaf.node
 (some
 (AObj.cells
 [AV.sc (Value.int IntKind.i64 (9 : Int)), AV.sc (Value.string (ByteArray.mk (Array.mk []))),
 AV.sc (Value.string (ByteArray.mk (Array.mk []))),
 AV.sc (Value.slice none (0 : Nat) (0 : Nat)), AV.sl [Y2] (0 : Nat),
 AV.sc (Value.slice none (0 : Nat) (0 : Nat)), AV.sc (Value.bool false),
 AV.sc (Value.int IntKind.i64 a2)]))
 Tr.leaf)))
 ((((((Nat.add (1 : Nat) (1 : Nat)).add (1 : Nat)).add (1 : Nat)).add (1 : Nat)).add (1 : Nat)).add
 (1 : Nat)).succ
 (Tr.leaf.node none
 (((Tr.leaf.node (some ((29 : Nat), (8 : Nat))) Tr.leaf).node none Tr.leaf).node none Tr.leaf))) ∧
 ∀ (_ : Unit),
 True →
 Sta1 m
 [AV.agg
 [AV.fn (Fn.func (34 : Nat)) []
 [AV.ptr (1 : Nat) (0 : Nat), AV.ptr (2 : Nat) (0 : Nat), AV.ptr (3 : Nat) (0 : Nat),
 AV.ptr (4 : Nat) (0 : Nat), AV.ptr (5 : Nat) (0 : Nat)],
 AV.fn (Fn.func (37 : Nat)) []
 [AV.ptr (1 : Nat) (0 : Nat), AV.ptr (2 : Nat) (0 : Nat), AV.ptr (5 : Nat) (0 : Nat)]],
 AV.sl [Y] (0 : Nat),
 AV.agg
 [AV.sc (Value.int IntKind.i64 (IntKind.i64.wrap (level + (1 : Int)))),
 AV.sc (Value.int IntKind.i64 (3 : Int)), AV.sc (Value.int IntKind.i64 (-1 : Int)),
 AV.sc (Value.bool true)],
 AV.fn (Fn.func (56 : Nat)) []
 [AV.ptr
 ((((((Nat.add (1 : Nat) (1 : Nat)).add (1 : Nat)).add (1 : Nat)).add (1 : Nat)).add
 (1 : Nat)).add
 (1 : Nat)).succ
 (0 : Nat)]]
 (Heap.mk
 (((((((Nat.add (1 : Nat) (1 : Nat)).add (1 : Nat)).add (1 : Nat)).add (1 : Nat)).add (1 : Nat)).add
 (1 : Nat)).succ +
 (1 : Nat))
 ((((Tr.leaf.node (some (AObj.map [])) Tr.leaf).node (some (AObj.cells [AV.mp (7 : Nat)]))
 Tr.leaf).node
 (some (AObj.cells [AV.fn (Fn.func (32 : Nat)) [] [AV.ptr (5 : Nat) (0 : Nat)]]))
 (Tr.leaf.node
 (some
 (AObj.cells
 [AV.sc (Value.int IntKind.i64 (0 : Int)), AV.sc (Value.int IntKind.i64 (0 : Int))]))
 Tr.leaf)).node
 none
 (((Tr.leaf.node
 (some
 (AObj.cells
 [AV.sc (Value.int IntKind.i64 (9 : Int)),
 AV.sc (Value.string (ByteArray.mk (Array.mk []))),
 AV.sc (Value.string (ByteArray.mk (Array.mk []))),
 AV.sc (Value.slice none (0 : Nat) (0 : Nat)), AV.sl [Y] (0 : Nat),
 AV.sc (Value.slice none (0 : Nat) (0 : Nat)), AV.sc (Value.bool false),
 AV.sc (Value.int IntKind.i64 at_)]))
 Tr.leaf).node
 (some (AObj.cells [AV.sl [R] (0 : Nat), AV.sc (Value.slice none (0 : Nat) (0 : Nat))]))
 Tr.leaf).node
 (some
 (AObj.cells
 [AV.fn (Fn.func (33 : Nat)) [] [AV.ptr (3 : Nat) (0 : Nat), AV.ptr (4 : Nat) (0 : Nat)]]))
 (Tr.leaf.node
 (some
 (AObj.cells
 [AV.sc (Value.int IntKind.i64 (9 : Int)),
 AV.sc (Value.string (ByteArray.mk (Array.mk []))),
 AV.sc (Value.string (ByteArray.mk (Array.mk []))),
 AV.sc (Value.slice none (0 : Nat) (0 : Nat)), AV.sl [Y2] (0 : Nat),
 AV.sc (Value.slice none (0 : Nat) (0 : Nat)), AV.sc (Value.bool false),
 AV.sc (Value.int IntKind.i64 a2)]))
 Tr.leaf)))
 ((((((Nat.add (1 : Nat) (1 : Nat)).add (1 : Nat)).add (1 : Nat)).add (1 : Nat)).add (1 : Nat)).add
 (1 : Nat)).succ
 (Tr.leaf.node none
 (((Tr.leaf.node (some ((29 : Nat), (8 : Nat))) Tr.leaf).node none Tr.leaf).node none Tr.leaf))) ∧
 ∀ (_ : Unit),
 True →
 K (AV.sc (Value.bool true))
 (Heap.mk
 (((((((Nat.add (1 : Nat) (1 : Nat)).add (1 : Nat)).add (1 : Nat)).add (1 : Nat)).add
 (1 : Nat)).add
 (1 : Nat)).succ +
 (1 : Nat))
 ((((Tr.leaf.node (some (AObj.map [])) Tr.leaf).node (some (AObj.cells [AV.mp (7 : Nat)]))
 Tr.leaf).node
 (some (AObj.cells [AV.fn (Fn.func (32 : Nat)) [] [AV.ptr (5 : Nat) (0 : Nat)]]))
 (Tr.leaf.node
 (some
 (AObj.cells
 [AV.sc (Value.int IntKind.i64 (0 : Int)), AV.sc (Value.int IntKind.i64 (0 : Int))]))
 Tr.leaf)).node
 none
 (((Tr.leaf.node
 (some
 (AObj.cells
 [AV.sc (Value.int IntKind.i64 (9 : Int)),
 AV.sc (Value.string (ByteArray.mk (Array.mk []))),
 AV.sc (Value.string (ByteArray.mk (Array.mk []))),
 AV.sc (Value.slice none (0 : Nat) (0 : Nat)), AV.sl [Y] (0 : Nat),
 AV.sc (Value.slice none (0 : Nat) (0 : Nat)), AV.sc (Value.bool false),
 AV.sc (Value.int IntKind.i64 at_)]))
 Tr.leaf).node
 (some (AObj.cells [AV.sl [R] (0 : Nat), AV.sc (Value.slice none (0 : Nat) (0 : Nat))]))
 Tr.leaf).node
 (some
 (AObj.cells
 [AV.fn (Fn.func (33 : Nat)) []
 [AV.ptr (3 : Nat) (0 : Nat), AV.ptr (4 : Nat) (0 : Nat)]]))
 (Tr.leaf.node
 (some
 (AObj.cells
 [AV.sc (Value.int IntKind.i64 (9 : Int)),
 AV.sc (Value.string (ByteArray.mk (Array.mk []))),
 AV.sc (Value.string (ByteArray.mk (Array.mk []))),
 AV.sc (Value.slice none (0 : Nat) (0 : Nat)), AV.sl [Y2] (0 : Nat),
 AV.sc (Value.slice none (0 : Nat) (0 : Nat)), AV.sc (Value.bool false),
 AV.sc (Value.int IntKind.i64 a2)]))
 Tr.leaf)))
 ((((((Nat.add (1 : Nat) (1 : Nat)).add (1 : Nat)).add (1 : Nat)).add (1 : Nat)).add
 (1 : Nat)).add
 (1 : Nat)).succ
 (Tr.leaf.node none
 (((Tr.leaf.node (some ((29 : Nat), (8 : Nat))) Tr.leaf).node none Tr.leaf).node none
 Tr.leaf))))
 (Vis0
 [AV.agg
 [AV.fn (Fn.func (34 : Nat)) []
 [AV.ptr (1 : Nat) (0 : Nat), AV.ptr (2 : Nat) (0 : Nat), AV.ptr (3 : Nat) (0 : Nat),
 AV.ptr (4 : Nat) (0 : Nat), AV.ptr (5 : Nat) (0 : Nat)],
 AV.fn (Fn.func (37 : Nat)) []
 [AV.ptr (1 : Nat) (0 : Nat), AV.ptr (2 : Nat) (0 : Nat), AV.ptr (5 : Nat) (0 : Nat)]],
 AV.sc (Value.slice none (0 : Nat) (0 : Nat)),
 AV.agg
 [AV.sc (Value.int IntKind.i64 (IntKind.i64.wrap (level + (1 : Int)))),
 AV.sc (Value.int IntKind.i64 (3 : Int)), AV.sc (Value.int IntKind.i64 (-1 : Int)),
 AV.sc (Value.bool false)],
 AV.sc (Value.pointer none)]
 (Heap.mk
 (((((((Nat.add (1 : Nat) (1 : Nat)).add (1 : Nat)).add (1 : Nat)).add (1 : Nat)).add (1 : Nat)).add
 (1 : Nat)).succ +
 (1 : Nat))
 ((((Tr.leaf.node (some (AObj.map [])) Tr.leaf).node (some (AObj.cells [AV.mp (7 : Nat)])) Tr.leaf).node
 (some (AObj.cells [AV.fn (Fn.func (32 : Nat)) [] [AV.ptr (5 : Nat) (0 : Nat)]]))
 (Tr.leaf.node
 (some (AObj.cells [AV.sc (Value.int IntKind.i64 (0 : Int)), AV.sc (Value.int IntKind.i64 (0 : Int))]))
 Tr.leaf)).node
 none
 (((Tr.leaf.node
 (some
 (AObj.cells
 [AV.sc (Value.int IntKind.i64 (9 : Int)), AV.sc (Value.string (ByteArray.mk (Array.mk []))),
 AV.sc (Value.string (ByteArray.mk (Array.mk []))),
 AV.sc (Value.slice none (0 : Nat) (0 : Nat)), AV.sl [Y] (0 : Nat),
 AV.sc (Value.slice none (0 : Nat) (0 : Nat)), AV.sc (Value.bool false),
 AV.sc (Value.int IntKind.i64 at_)]))
 Tr.leaf).node
 (some (AObj.cells [AV.sl [R] (0 : Nat), AV.sc (Value.slice none (0 : Nat) (0 : Nat))])) Tr.leaf).node
 (some (AObj.cells [AV.fn (Fn.func (33 : Nat)) [] [AV.ptr (3 : Nat) (0 : Nat), AV.ptr (4 : Nat) (0 : Nat)]]))
 (Tr.leaf.node
 (some
 (AObj.cells
 [AV.sc (Value.int IntKind.i64 (9 : Int)), AV.sc (Value.string (ByteArray.mk (Array.mk []))),
 AV.sc (Value.string (ByteArray.mk (Array.mk []))), AV.sc (Value.slice none (0 : Nat) (0 : Nat)),
 AV.sl [Y2] (0 : Nat), AV.sc (Value.slice none (0 : Nat) (0 : Nat)), AV.sc (Value.bool false),
 AV.sc (Value.int IntKind.i64 a2)]))
 Tr.leaf)))
 ((((((Nat.add (1 : Nat) (1 : Nat)).add (1 : Nat)).add (1 : Nat)).add (1 : Nat)).add (1 : Nat)).add
 (1 : Nat)).succ
 (Tr.leaf.node none
 (((Tr.leaf.node (some ((29 : Nat), (8 : Nat))) Tr.leaf).node none Tr.leaf).node none Tr.leaf))) ∧
 ∀ (_ : Unit),
 True →
 Vis0
 [AV.agg
 [AV.fn (Fn.func (34 : Nat)) []
 [AV.ptr (1 : Nat) (0 : Nat), AV.ptr (2 : Nat) (0 : Nat), AV.ptr (3 : Nat) (0 : Nat),
 AV.ptr (4 : Nat) (0 : Nat), AV.ptr (5 : Nat) (0 : Nat)],
 AV.fn (Fn.func (37 : Nat)) []
 [AV.ptr (1 : Nat) (0 : Nat), AV.ptr (2 : Nat) (0 : Nat), AV.ptr (5 : Nat) (0 : Nat)]],
 AV.sc (Value.slice none (0 : Nat) (0 : Nat)),
 AV.agg
 [AV.sc (Value.int IntKind.i64 (IntKind.i64.wrap (level + (1 : Int)))),
 AV.sc (Value.int IntKind.i64 (3 : Int)), AV.sc (Value.int IntKind.i64 (-1 : Int)),
 AV.sc (Value.bool false)],
 AV.sc (Value.pointer none)]
 (Heap.mk
 (((((((Nat.add (1 : Nat) (1 : Nat)).add (1 : Nat)).add (1 : Nat)).add (1 : Nat)).add (1 : Nat)).add
 (1 : Nat)).succ +
 (1 : Nat))
 ((((Tr.leaf.node (some (AObj.map [])) Tr.leaf).node (some (AObj.cells [AV.mp (7 : Nat)])) Tr.leaf).node
 (some (AObj.cells [AV.fn (Fn.func (32 : Nat)) [] [AV.ptr (5 : Nat) (0 : Nat)]]))
 (Tr.leaf.node
 (some
 (AObj.cells [AV.sc (Value.int IntKind.i64 (0 : Int)), AV.sc (Value.int IntKind.i64 (0 : Int))]))
 Tr.leaf)).node
 none
 (((Tr.leaf.node
 (some
 (AObj.cells
 [AV.sc (Value.int IntKind.i64 (9 : Int)),
 AV.sc (Value.string (ByteArray.mk (Array.mk []))),
 AV.sc (Value.string (ByteArray.mk (Array.mk []))),
 AV.sc (Value.slice none (0 : Nat) (0 : Nat)), AV.sl [Y] (0 : Nat),
 AV.sc (Value.slice none (0 : Nat) (0 : Nat)), AV.sc (Value.bool false),
 AV.sc (Value.int IntKind.i64 at_)]))
 Tr.leaf).node
 (some (AObj.cells [AV.sl [R] (0 : Nat), AV.sc (Value.slice none (0 : Nat) (0 : Nat))]))
 Tr.leaf).node
 (some
 (AObj.cells
 [AV.fn (Fn.func (33 : Nat)) [] [AV.ptr (3 : Nat) (0 : Nat), AV.ptr (4 : Nat) (0 : Nat)]]))
 (Tr.leaf.node
 (some
 (AObj.cells
 [AV.sc (Value.int IntKind.i64 (9 : Int)), AV.sc (Value.string (ByteArray.mk (Array.mk []))),
 AV.sc (Value.string (ByteArray.mk (Array.mk []))),
 AV.sc (Value.slice none (0 : Nat) (0 : Nat)), AV.sl [Y2] (0 : Nat),
 AV.sc (Value.slice none (0 : Nat) (0 : Nat)), AV.sc (Value.bool false),
 AV.sc (Value.int IntKind.i64 a2)]))
 Tr.leaf)))
 ((((((Nat.add (1 : Nat) (1 : Nat)).add (1 : Nat)).add (1 : Nat)).add (1 : Nat)).add (1 : Nat)).add
 (1 : Nat)).succ
 (Tr.leaf.node none
 (((Tr.leaf.node (some ((29 : Nat), (8 : Nat))) Tr.leaf).node none Tr.leaf).node none Tr.leaf))) ∧
 ∀ (_ : Unit),
 True →
 Sta1 m
 [AV.agg
 [AV.fn (Fn.func (34 : Nat)) []
 [AV.ptr (1 : Nat) (0 : Nat), AV.ptr (2 : Nat) (0 : Nat), AV.ptr (3 : Nat) (0 : Nat),
 AV.ptr (4 : Nat) (0 : Nat), AV.ptr (5 : Nat) (0 : Nat)],
 AV.fn (Fn.func (37 : Nat)) []
 [AV.ptr (1 : Nat) (0 : Nat), AV.ptr (2 : Nat) (0 : Nat), AV.ptr (5 : Nat) (0 : Nat)]],
 AV.sl [Y] (0 : Nat),
 AV.agg
 [AV.sc (Value.int IntKind.i64 (IntKind.i64.wrap (level + (1 : Int)))),
 AV.sc (Value.int IntKind.i64 (3 : Int)), AV.sc (Value.int IntKind.i64 (-1 : Int)),
 AV.sc (Value.bool false)],
 AV.fn (Fn.func (56 : Nat)) []
 [AV.ptr
 ((((((Nat.add (1 : Nat) (1 : Nat)).add (1 : Nat)).add (1 : Nat)).add (1 : Nat)).add
 (1 : Nat)).add
 (1 : Nat)).succ
 (0 : Nat)]]
 (Heap.mk
 (((((((Nat.add (1 : Nat) (1 : Nat)).add (1 : Nat)).add (1 : Nat)).add (1 : Nat)).add (1 : Nat)).add
 (1 : Nat)).succ +
 (1 : Nat))
 ((((Tr.leaf.node (some (AObj.map [])) Tr.leaf).node (some (AObj.cells [AV.mp (7 : Nat)]))
 Tr.leaf).node
 (some (AObj.cells [AV.fn (Fn.func (32 : Nat)) [] [AV.ptr (5 : Nat) (0 : Nat)]]))
 (Tr.leaf.node
 (some
 (AObj.cells
 [AV.sc (Value.int IntKind.i64 (0 : Int)), AV.sc (Value.int IntKind.i64 (0 : Int))]))
 Tr.leaf)).node
 none
 (((Tr.leaf.node
 (some
 (AObj.cells
 [AV.sc (Value.int IntKind.i64 (9 : Int)),
 AV.sc (Value.string (ByteArray.mk (Array.mk []))),
 AV.sc (Value.string (ByteArray.mk (Array.mk []))),
 AV.sc (Value.slice none (0 : Nat) (0 : Nat)), AV.sl [Y] (0 : Nat),
 AV.sc (Value.slice none (0 : Nat) (0 : Nat)), AV.sc (Value.bool false),
 AV.sc (Value.int IntKind.i64 at_)]))
 Tr.leaf).node
 (some (AObj.cells [AV.sl [R] (0 : Nat), AV.sc (Value.slice none (0 : Nat) (0 : Nat))]))
 Tr.leaf).node
 (some
 (AObj.cells
 [AV.fn (Fn.func (33 : Nat)) [] [AV.ptr (3 : Nat) (0 : Nat), AV.ptr (4 : Nat) (0 : Nat)]]))
 (Tr.leaf.node
 (some
 (AObj.cells
 [AV.sc (Value.int IntKind.i64 (9 : Int)),
 AV.sc (Value.string (ByteArray.mk (Array.mk []))),
 AV.sc (Value.string (ByteArray.mk (Array.mk []))),
 AV.sc (Value.slice none (0 : Nat) (0 : Nat)), AV.sl [Y2] (0 : Nat),
 AV.sc (Value.slice none (0 : Nat) (0 : Nat)), AV.sc (Value.bool false),
 AV.sc (Value.int IntKind.i64 a2)]))
 Tr.leaf)))
 ((((((Nat.add (1 : Nat) (1 : Nat)).add (1 : Nat)).add (1 : Nat)).add (1 : Nat)).add (1 : Nat)).add
 (1 : Nat)).succ
 (Tr.leaf.node none
 (((Tr.leaf.node (some ((29 : Nat), (8 : Nat))) Tr.leaf).node none Tr.leaf).node none Tr.leaf))) ∧
 ∀ (_ : Unit),
 True →
 K (AV.sc (Value.bool true))
 (Heap.mk
 (((((((Nat.add (1 : Nat) (1 : Nat)).add (1 : Nat)).add (1 : Nat)).add (1 : Nat)).add
 (1 : Nat)).add
 (1 : Nat)).succ +
 (1 : Nat))
 ((((Tr.leaf.node (some (AObj.map [])) Tr.leaf).node (some (AObj.cells [AV.mp (7 : Nat)]))
 Tr.leaf).node
 (some (AObj.cells [AV.fn (Fn.func (32 : Nat)) [] [AV.ptr (5 : Nat) (0 : Nat)]]))
 (Tr.leaf.node
 (some
 (AObj.cells
 [AV.sc (Value.int IntKind.i64 (0 : Int)), AV.sc (Value.int IntKind.i64 (0 : Int))]))
 Tr.leaf)).node
 none
 (((Tr.leaf.node
 (some
 (AObj.cells
 [AV.sc (Value.int IntKind.i64 (9 : Int)),
 AV.sc (Value.string (ByteArray.mk (Array.mk []))),
 AV.sc (Value.string (ByteArray.mk (Array.mk []))),
 AV.sc (Value.slice none (0 : Nat) (0 : Nat)), AV.sl [Y] (0 : Nat),
 AV.sc (Value.slice none (0 : Nat) (0 : Nat)), AV.sc (Value.bool false),
 AV.sc (Value.int IntKind.i64 at_)]))
 Tr.leaf).node
 (some (AObj.cells [AV.sl [R] (0 : Nat), AV.sc (Value.slice none (0 : Nat) (0 : Nat))]))
 Tr.leaf).node
 (some
 (AObj.cells
 [AV.fn (Fn.func (33 : Nat)) []
 [AV.ptr (3 : Nat) (0 : Nat), AV.ptr (4 : Nat) (0 : Nat)]]))
 (Tr.leaf.node
 (some
 (AObj.cells
 [AV.sc (Value.int IntKind.i64 (9 : Int)),
 AV.sc (Value.string (ByteArray.mk (Array.mk []))),
 AV.sc (Value.string (ByteArray.mk (Array.mk []))),
 AV.sc (Value.slice none (0 : Nat) (0 : Nat)), AV.sl [Y2] (0 : Nat),
 AV.sc (Value.slice none (0 : Nat) (0 : Nat)), AV.sc (Value.bool false),
 AV.sc (Value.int IntKind.i64 a2)]))
 Tr.leaf)))
 ((((((Nat.add (1 : Nat) (1 : Nat)).add (1 : Nat)).add (1 : Nat)).add (1 : Nat)).add
 (1 : Nat)).add
 (1 : Nat)).succ
 (Tr.leaf.node none
 (((Tr.leaf.node (some ((29 : Nat), (8 : Nat))) Tr.leaf).node none Tr.leaf).node none
 Tr.leaf))))) :
 (fun (m : Nat) (level : Int) (loop : Bool) (Y : List AV) (at_ : Int) (R Y2 : List AV) (a2 : Int) (K : AV → Heap → Prop) => wpCall (T47 m) cfgI Tryz.prog 60 47 [vN, .sl [blkC Y at_] 0, wA level loop, (fnA 56 [.ptr 6 0])] (hN1 R (blkC Y2 a2)) K) m level loop Y at_ R Y2 a2 K :=
 Eq.mp (by kernel_rfl) h
theorem eu0 (m : Nat) (level : Int) (loop : Bool) (Y : List AV) (K : AV → Heap → Prop) (h :
 iteP loop
 (Vis1 (100 : Nat)
 [AV.agg
 [AV.fn (Fn.func (39 : Nat)) [] [AV.ptr (1 : Nat) (0 : Nat), AV.ptr (2 : Nat) (0 : Nat)],
 AV.fn (Fn.func (40 : Nat)) [] [AV.ptr (2 : Nat) (0 : Nat)]],
 AV.sl [Y] (0 : Nat),
 AV.agg
 [AV.sc (Value.int IntKind.i64 (IntKind.i64.wrap (level + (1 : Int)))),
 AV.sc (Value.int IntKind.i64 (3 : Int)), AV.sc (Value.int IntKind.i64 (-1 : Int)), AV.sc (Value.bool true)],
 AV.sc (Value.pointer none)]
 (Heap.mk (5 : Nat)
 (((Tr.leaf.node (some (AObj.map [])) Tr.leaf).node (some (AObj.cells [AV.mp (3 : Nat)])) Tr.leaf).node none
 ((Tr.leaf.node
 (some
 (AObj.cells
 [AV.sc (Value.int IntKind.i64 (1 : Int)), AV.sc (Value.string (ByteArray.mk (Array.mk []))),
 AV.sc (Value.string (ByteArray.mk (Array.mk []))), AV.sl [Y] (0 : Nat),
 AV.sc (Value.slice none (0 : Nat) (0 : Nat)), AV.sc (Value.slice none (0 : Nat) (0 : Nat)),
 AV.sc (Value.bool false), AV.sc (Value.int IntKind.i64 (500 : Int))]))
 Tr.leaf).node
 (some (AObj.cells [AV.sc (Value.slice none (0 : Nat) (0 : Nat))])) Tr.leaf))
 (4 : Nat) (Tr.leaf.node none ((Tr.leaf.node (some ((29 : Nat), (8 : Nat))) Tr.leaf).node none Tr.leaf))) ∧
 ∀ (_ : Unit),
 True →
 Vis0
 [AV.agg
 [AV.fn (Fn.func (39 : Nat)) [] [AV.ptr (1 : Nat) (0 : Nat), AV.ptr (2 : Nat) (0 : Nat)],
 AV.fn (Fn.func (40 : Nat)) [] [AV.ptr (2 : Nat) (0 : Nat)]],
 AV.sc (Value.slice none (0 : Nat) (0 : Nat)),
 AV.agg
 [AV.sc (Value.int IntKind.i64 (IntKind.i64.wrap (level + (1 : Int)))),
 AV.sc (Value.int IntKind.i64 (3 : Int)), AV.sc (Value.int IntKind.i64 (-1 : Int)),
 AV.sc (Value.bool true)],
 AV.sc (Value.pointer none)]
 (Heap.mk (5 : Nat)
 (((Tr.leaf.node (some (AObj.map [])) Tr.leaf).node (some (AObj.cells [AV.mp (3 : Nat)])) Tr.leaf).node
 none
 ((Tr.leaf.node
 (some
 (AObj.cells
 [AV.sc (Value.int IntKind.i64 (1 : Int)), AV.sc (Value.string (ByteArray.mk (Array.mk []))),
 AV.sc (Value.string (ByteArray.mk (Array.mk []))), AV.sl [Y] (0 : Nat),
 AV.sc (Value.slice none (0 : Nat) (0 : Nat)), AV.sc (Value.slice none (0 : Nat) (0 : Nat)),
 AV.sc (Value.bool false), AV.sc (Value.int IntKind.i64 (500 : Int))]))
 Tr.leaf).node
 (some (AObj.cells [AV.sc (Value.slice none (0 : Nat) (0 : Nat))])) Tr.leaf))
 (4 : Nat) (Tr.leaf.node none ((Tr.leaf.node (some ((29 : Nat), (8 : Nat))) Tr.leaf).node none Tr.leaf))) ∧
 ∀ (_ : Unit),
 True →
 Sta0
 [AV.agg
 [AV.fn (Fn.func (39 : Nat)) [] [AV.ptr (1 : Nat) (0 : Nat), AV.ptr (2 : Nat) (0 : Nat)],
 AV.fn (Fn.func (40 : Nat)) [] [AV.ptr (2 : Nat) (0 : Nat)]],
 AV.sc (Value.slice none (0 : Nat) (0 : Nat)),
 AV.agg
 [AV.sc (Value.int IntKind.i64 (IntKind.i64.wrap (level + (1 : Int)))),
 AV.sc (Value.int IntKind.i64 (3 : Int)), AV.sc (Value.int IntKind.i64 (-1 : Int)),
 AV.sc (Value.bool true)],
 AV.fn (Fn.func (56 : Nat)) [] [AV.ptr (Nat.succ (3 : Nat)) (0 : Nat)]]
 (Heap.mk (5 : Nat)
 (((Tr.leaf.node (some (AObj.map [])) Tr.leaf).node (some (AObj.cells [AV.mp (3 : Nat)]))
 Tr.leaf).node
 none
 ((Tr.leaf.node
 (some
 (AObj.cells
 [AV.sc (Value.int IntKind.i64 (1 : Int)),
 AV.sc (Value.string (ByteArray.mk (Array.mk []))),
 AV.sc (Value.string (ByteArray.mk (Array.mk []))), AV.sl [Y] (0 : Nat),
 AV.sc (Value.slice none (0 : Nat) (0 : Nat)),
 AV.sc (Value.slice none (0 : Nat) (0 : Nat)), AV.sc (Value.bool false),
 AV.sc (Value.int IntKind.i64 (500 : Int))]))
 Tr.leaf).node
 (some (AObj.cells [AV.sc (Value.slice none (0 : Nat) (0 : Nat))])) Tr.leaf))
 (4 : Nat)
 (Tr.leaf.node none ((Tr.leaf.node (some ((29 : Nat), (8 : Nat))) Tr.leaf).node none Tr.leaf))) ∧
 ∀ (_ : Unit),
 True →
 K (AV.sc (Value.bool true))
 (Heap.mk (5 : Nat)
 (((Tr.leaf.node (some (AObj.map [])) Tr.leaf).node (some (AObj.cells [AV.mp (3 : Nat)]))
 Tr.leaf).node
 none
 ((Tr.leaf.node
 (some
 (AObj.cells
 [AV.sc (Value.int IntKind.i64 (1 : Int)),
 AV.sc (Value.string (ByteArray.mk (Array.mk []))),
 AV.sc (Value.string (ByteArray.mk (Array.mk []))), AV.sl [Y] (0 : Nat),
 AV.sc (Value.slice none (0 : Nat) (0 : Nat)),
 AV.sc (Value.slice none (0 : Nat) (0 : Nat)), AV.sc (Value.bool false),
 AV.sc (Value.int IntKind.i64 (500 : Int))]))
 Tr.leaf).node
 (some (AObj.cells [AV.sc (Value.slice none (0 : Nat) (0 : Nat))])) Tr.leaf))
 (4 : Nat)
 (Tr.leaf.node none ((Tr.leaf.node (some ((29 : Nat), (8 : Nat))) Tr.leaf).node none Tr.leaf))))
 (Vis1 (100 : Nat)
 [AV.agg
 [AV.fn (Fn.func (39 : Nat)) [] [AV.ptr (1 : Nat) (0 : Nat), AV.ptr (2 : Nat) (0 : Nat)],
 AV.fn (Fn.func (40 : Nat)) [] [AV.ptr (2 : Nat) (0 : Nat)]],
 AV.sl [Y] (0 : Nat),
 AV.agg
 [AV.sc (Value.int IntKind.i64 (IntKind.i64.wrap (level + (1 : Int)))),
 AV.sc (Value.int IntKind.i64 (3 : Int)), AV.sc (Value.int IntKind.i64 (-1 : Int)),
 AV.sc (Value.bool false)],
 AV.sc (Value.pointer none)]
 (Heap.mk (5 : Nat)
 (((Tr.leaf.node (some (AObj.map [])) Tr.leaf).node (some (AObj.cells [AV.mp (3 : Nat)])) Tr.leaf).node none
 ((Tr.leaf.node
 (some
 (AObj.cells
 [AV.sc (Value.int IntKind.i64 (1 : Int)), AV.sc (Value.string (ByteArray.mk (Array.mk []))),
 AV.sc (Value.string (ByteArray.mk (Array.mk []))), AV.sl [Y] (0 : Nat),
 AV.sc (Value.slice none (0 : Nat) (0 : Nat)), AV.sc (Value.slice none (0 : Nat) (0 : Nat)),
 AV.sc (Value.bool false), AV.sc (Value.int IntKind.i64 (500 : Int))]))
 Tr.leaf).node
 (some (AObj.cells [AV.sc (Value.slice none (0 : Nat) (0 : Nat))])) Tr.leaf))
 (4 : Nat) (Tr.leaf.node none ((Tr.leaf.node (some ((29 : Nat), (8 : Nat))) Tr.leaf).node none Tr.leaf))) ∧
 ∀ (_ : Unit),
 True →
 Vis0
 [AV.agg
 [AV.fn (Fn.func (39 : Nat)) [] [AV.ptr (1 : Nat) (0 : Nat), AV.ptr (2 : Nat) (0 : Nat)],
 AV.fn (Fn.func (40 : Nat)) [] [AV.ptr (2 : Nat) (0 : Nat)]],
 AV.sc (Value.slice none (0 : Nat) (0 : Nat)),
 AV.agg
 [AV.sc (Value.int IntKind.i64 (IntKind.i64.wrap (level + (1 : Int)))),
 AV.sc (Value.int IntKind.i64 (3 : Int)), AV.sc (Value.int IntKind.i64 (-1 : Int)),
 AV.sc (Value.bool false)],
 AV.sc (Value.pointer none)]
 (Heap.mk (5 : Nat)
 (((Tr.leaf.node (some (AObj.map [])) Tr.leaf).node (some (AObj.cells [AV.mp (3 : Nat)])) Tr.leaf).node
 none
 ((Tr.leaf.node
 (some
 (AObj.cells
 [AV.sc (Value.int IntKind.i64 (1 : Int)), AV.sc (Value.string (ByteArray.mk (Array.mk []))),
 AV.sc (Value.string (ByteArray.mk (Array.mk []))), AV.sl [Y] (0 : Nat),
 AV.sc (Value.slice none (0 : Nat) (0 : Nat)), AV.sc (Value.slice none (0 : Nat) (0 : Nat)),
 AV.sc (Value.bool false), AV.sc (Value.int IntKind.i64 (500 : Int))]))
 Tr.leaf).node
 (some (AObj.cells [AV.sc (Value.slice none (0 : Nat) (0 : Nat))])) Tr.leaf))
 (4 : Nat) (Tr.leaf.node none ((Tr.leaf.node (some ((29 : Nat), (8 : Nat))) Tr.leaf).node none Tr.leaf))) ∧
 ∀ (_ : Unit),
 True →
 Sta0
 [AV.agg
 [AV.fn (Fn.func (39 : Nat)) [] [AV.ptr (1 : Nat) (0 : Nat), AV.ptr (2 : Nat) (0 : Nat)],
 AV.fn (Fn.func (40 : Nat)) [] [AV.ptr (2 : Nat) (0 : Nat)]],
 AV.sc (Value.slice none (0 : Nat) (0 : Nat)),
 AV.agg
 [AV.sc (Value.int IntKind.i64 (IntKind.i64.wrap (level + (1 : Int)))),
 AV.sc (Value.int IntKind.i64 (3 : Int)), AV.sc (Value.int IntKind.i64 (-1 : Int)),
 AV.sc (Value.bool false)],
 AV.fn (Fn.func (56 : Nat)) [] [AV.ptr (Nat.succ (3 : Nat)) (0 : Nat)]]
 (Heap.mk (5 : Nat)
 (((Tr.leaf.node (some (AObj.map [])) Tr.leaf).node (some (AObj.cells [AV.mp (3 : Nat)]))
 Tr.leaf).node
 none
 ((Tr.leaf.node
 (some
 (AObj.cells
 [AV.sc (Value.int IntKind.i64 (1 : Int)),
 AV.sc (Value.string (ByteArray.mk (Array.mk []))),
 AV.sc (Value.string (ByteArray.mk (Array.mk []))), AV.sl [Y] (0 : Nat),
 AV.sc (Value.slice none (0 : Nat) (0 : Nat)),
 AV.sc (Value.slice none (0 : Nat) (0 : Nat)), AV.sc (Value.bool false),
 AV.sc (Value.int IntKind.i64 (500 : Int))]))
 Tr.leaf).node
 (some (AObj.cells [AV.sc (Value.slice none (0 : Nat) (0 : Nat))])) Tr.leaf))
 (4 : Nat)
 (Tr.leaf.node none ((Tr.leaf.node (some ((29 : Nat), (8 : Nat))) Tr.leaf).node none Tr.leaf))) ∧
 ∀ (_ : Unit),
 True →
 K (AV.sc (Value.bool true))
 (Heap.mk (5 : Nat)
 (((Tr.leaf.node (some (AObj.map [])) Tr.leaf).node (some (AObj.cells [AV.mp (3 : Nat)]))
 Tr.leaf).node
 none
 ((Tr.leaf.node
 (some
 (AObj.cells
 [AV.sc (Value.int IntKind.i64 (1 : Int)),
 AV.sc (Value.string (ByteArray.mk (Array.mk []))),
 AV.sc (Value.string (ByteArray.mk (Array.mk []))), AV.sl [Y] (0 : Nat),
 AV.sc (Value.slice none (0 : Nat) (0 : Nat)),
 AV.sc (Value.slice none (0 : Nat) (0 : Nat)), AV.sc (Value.bool false),
 AV.sc (Value.int IntKind.i64 (500 : Int))]))
 Tr.leaf).node
 (some (AObj.cells [AV.sc (Value.slice none (0 : Nat) (0 : Nat))])) Tr.leaf))
 (4 : Nat)
 (Tr.leaf.node none ((Tr.leaf.node (some ((29 : Nat), (8 : Nat))) Tr.leaf).node none Tr.leaf))))) :
 (fun (m : Nat) (level : Int) (loop : Bool) (Y : List AV) (K : AV → Heap → Prop) => wpCall (T47 m) cfgI Tryz.prog 60 47 [vU, .sl [exprC Y] 0, wA level loop, loopO] hU0 K) m level loop Y K :=
 Eq.mp (by kernel_rfl) h
theorem bu0 (m : Nat) (level : Int) (loop : Bool) (Y : List AV) (at_ : Int) (K : AV → Heap → Prop) (h :
 iteP loop
 (Vis0
 [AV.agg
 [AV.fn (Fn.func (39 : Nat)) [] [AV.ptr (1 : Nat) (0 : Nat), AV.ptr (2 : Nat) (0 : Nat)],
 AV.fn (Fn.func (40 : Nat)) [] [AV.ptr (2 : Nat) (0 : Nat)]],
 AV.sc (Value.slice none (0 : Nat) (0 : Nat)),
 AV.agg
 [AV.sc (Value.int IntKind.i64 (IntKind.i64.wrap (level + (1 : Int)))),
 AV.sc (Value.int IntKind.i64 (3 : Int)), AV.sc (Value.int IntKind.i64 (-1 : Int)), AV.sc (Value.bool true)],
 AV.sc (Value.pointer none)]
 (Heap.mk (5 : Nat)
 (((Tr.leaf.node (some (AObj.map [])) Tr.leaf).node (some (AObj.cells [AV.mp (3 : Nat)])) Tr.leaf).node none
 ((Tr.leaf.node
 (some
 (AObj.cells
 [AV.sc (Value.int IntKind.i64 (9 : Int)), AV.sc (Value.string (ByteArray.mk (Array.mk []))),
 AV.sc (Value.string (ByteArray.mk (Array.mk []))), AV.sc (Value.slice none (0 : Nat) (0 : Nat)),
 AV.sl [Y] (0 : Nat), AV.sc (Value.slice none (0 : Nat) (0 : Nat)), AV.sc (Value.bool false),
 AV.sc (Value.int IntKind.i64 at_)]))
 Tr.leaf).node
 (some (AObj.cells [AV.sc (Value.slice none (0 : Nat) (0 : Nat))])) Tr.leaf))
 (4 : Nat) (Tr.leaf.node none ((Tr.leaf.node (some ((29 : Nat), (8 : Nat))) Tr.leaf).node none Tr.leaf))) ∧
 ∀ (_ : Unit),
 True →
 Vis0
 [AV.agg
 [AV.fn (Fn.func (39 : Nat)) [] [AV.ptr (1 : Nat) (0 : Nat), AV.ptr (2 : Nat) (0 : Nat)],
 AV.fn (Fn.func (40 : Nat)) [] [AV.ptr (2 : Nat) (0 : Nat)]],
 AV.sc (Value.slice none (0 : Nat) (0 : Nat)),
 AV.agg
 [AV.sc (Value.int IntKind.i64 (IntKind.i64.wrap (level + (1 : Int)))),
 AV.sc (Value.int IntKind.i64 (3 : Int)), AV.sc (Value.int IntKind.i64 (-1 : Int)),
 AV.sc (Value.bool true)],
 AV.sc (Value.pointer none)]
 (Heap.mk (5 : Nat)
 (((Tr.leaf.node (some (AObj.map [])) Tr.leaf).node (some (AObj.cells [AV.mp (3 : Nat)])) Tr.leaf).node
 none
 ((Tr.leaf.node
 (some
 (AObj.cells
 [AV.sc (Value.int IntKind.i64 (9 : Int)), AV.sc (Value.string (ByteArray.mk (Array.mk []))),
 AV.sc (Value.string (ByteArray.mk (Array.mk []))),
 AV.sc (Value.slice none (0 : Nat) (0 : Nat)), AV.sl [Y] (0 : Nat),
 AV.sc (Value.slice none (0 : Nat) (0 : Nat)), AV.sc (Value.bool false),
 AV.sc (Value.int IntKind.i64 at_)]))
 Tr.leaf).node
 (some (AObj.cells [AV.sc (Value.slice none (0 : Nat) (0 : Nat))])) Tr.leaf))
 (4 : Nat) (Tr.leaf.node none ((Tr.leaf.node (some ((29 : Nat), (8 : Nat))) Tr.leaf).node none Tr.leaf))) ∧
 ∀ (_ : Unit),
 True →
 Sta1 m
 [AV.agg
 [AV.fn (Fn.func (39 : Nat)) [] [AV.ptr (1 : Nat) (0 : Nat), AV.ptr (2 : Nat) (0 : Nat)],
 AV.fn (Fn.func (40 : Nat)) [] [AV.ptr (2 : Nat) (0 : Nat)]],
 AV.sl [Y] (0 : Nat),
 AV.agg
 [AV.sc (Value.int IntKind.i64 (IntKind.i64.wrap (level + (1 : Int)))),
 AV.sc (Value.int IntKind.i64 (3 : Int)), AV.sc (Value.int IntKind.i64 (-1 : Int)),
 AV.sc (Value.bool true)],
 AV.fn (Fn.func (56 : Nat)) [] [AV.ptr (Nat.succ (3 : Nat)) (0 : Nat)]]
 (Heap.mk (5 : Nat)
 (((Tr.leaf.node (some (AObj.map [])) Tr.leaf).node (some (AObj.cells [AV.mp (3 : Nat)]))
 Tr.leaf).node
 none
 ((Tr.leaf.node
 (some
 (AObj.cells
 [AV.sc (Value.int IntKind.i64 (9 : Int)),
 AV.sc (Value.string (ByteArray.mk (Array.mk []))),
 AV.sc (Value.string (ByteArray.mk (Array.mk []))),
 AV.sc (Value.slice none (0 : Nat) (0 : Nat)), AV.sl [Y] (0 : Nat),
 AV.sc (Value.slice none (0 : Nat) (0 : Nat)), AV.sc (Value.bool false),
 AV.sc (Value.int IntKind.i64 at_)]))
 Tr.leaf).node
 (some (AObj.cells [AV.sc (Value.slice none (0 : Nat) (0 : Nat))])) Tr.leaf))
 (4 : Nat)
 (Tr.leaf.node none ((Tr.leaf.node (some ((29 : Nat), (8 : Nat))) Tr.leaf).node none Tr.leaf))) ∧
 ∀ (_ : Unit),
 True →
 K (AV.sc (Value.bool true))
 (Heap.mk (5 : Nat)
 (((Tr.leaf.node (some (AObj.map [])) Tr.leaf).node (some (AObj.cells [AV.mp (3 : Nat)]))
 Tr.leaf).node
 none
 ((Tr.leaf.node
 (some
 (AObj.cells
 [AV.sc (Value.int IntKind.i64 (9 : Int)),
 AV.sc (Value.string (ByteArray.mk (Array.mk []))),
 AV.sc (Value.string (ByteArray.mk (Array.mk []))),
 AV.sc (Value.slice none (0 : Nat) (0 : Nat)), AV.sl [Y] (0 : Nat),
 AV.sc (Value.slice none (0 : Nat) (0 : Nat)), AV.sc (Value.bool false),
 AV.sc (Value.int IntKind.i64 at_)]))
 Tr.leaf).node
 (some (AObj.cells [AV.sc (Value.slice none (0 : Nat) (0 : Nat))])) Tr.leaf))
 (4 : Nat)
 (Tr.leaf.node none ((Tr.leaf.node (some ((29 : Nat), (8 : Nat))) Tr.leaf).node none Tr.leaf))))
 (Vis0
 [AV.agg
 [AV.fn (Fn.func (39 : Nat)) [] [AV.ptr (1 : Nat) (0 : Nat), AV.ptr (2 : Nat) (0 : Nat)],
 AV.fn (Fn.func (40 : Nat)) [] [AV.ptr (2 : Nat) (0 : Nat)]],
 AV.sc (Value.slice none (0 : Nat) (0 : Nat)),
 AV.agg
 [AV.sc (Value.int IntKind.i64 (IntKind.i64.wrap (level + (1 : Int)))),
 AV.sc (Value.int IntKind.i64 (3 : Int)), AV.sc (Value.int IntKind.i64 (-1 : Int)),
 AV.sc (Value.bool false)],
 AV.sc (Value.pointer none)]
 (Heap.mk (5 : Nat)
 (((Tr.leaf.node (some (AObj.map [])) Tr.leaf).node (some (AObj.cells [AV.mp (3 : Nat)])) Tr.leaf).node none
 ((Tr.leaf.node
 (some
 (AObj.cells
 [AV.sc (Value.int IntKind.i64 (9 : Int)), AV.sc (Value.string (ByteArray.mk (Array.mk []))),
 AV.sc (Value.string (ByteArray.mk (Array.mk []))), AV.sc (Value.slice none (0 : Nat) (0 : Nat)),
 AV.sl [Y] (0 : Nat), AV.sc (Value.slice none (0 : Nat) (0 : Nat)), AV.sc (Value.bool false),
 AV.sc (Value.int IntKind.i64 at_)]))
 Tr.leaf).node
 (some (AObj.cells [AV.sc (Value.slice none (0 : Nat) (0 : Nat))])) Tr.leaf))
 (4 : Nat) (Tr.leaf.node none ((Tr.leaf.node (some ((29 : Nat), (8 : Nat))) Tr.leaf).node none Tr.leaf))) ∧
 ∀ (_ : Unit),
 True →
 Vis0
 [AV.agg
 [AV.fn (Fn.func (39 : Nat)) [] [AV.ptr (1 : Nat) (0 : Nat), AV.ptr (2 : Nat) (0 : Nat)],
 AV.fn (Fn.func (40 : Nat)) [] [AV.ptr (2 : Nat) (0 : Nat)]],
 AV.sc (Value.slice none (0 : Nat) (0 : Nat)),
 AV.agg
 [AV.sc (Value.int IntKind.i64 (IntKind.i64.wrap (level + (1 : Int)))),
 AV.sc (Value.int IntKind.i64 (3 : Int)), AV.sc (Value.int IntKind.i64 (-1 : Int)),
 AV.sc (Value.bool false)],
 AV.sc (Value.pointer none)]
 (Heap.mk (5 : Nat)
 (((Tr.leaf.node (some (AObj.map [])) Tr.leaf).node (some (AObj.cells [AV.mp (3 : Nat)])) Tr.leaf).node
 none
 ((Tr.leaf.node
 (some
 (AObj.cells
 [AV.sc (Value.int IntKind.i64 (9 : Int)), AV.sc (Value.string (ByteArray.mk (Array.mk []))),
 AV.sc (Value.string (ByteArray.mk (Array.mk []))),
 AV.sc (Value.slice none (0 : Nat) (0 : Nat)), AV.sl [Y] (0 : Nat),
 AV.sc (Value.slice none (0 : Nat) (0 : Nat)), AV.sc (Value.bool false),
 AV.sc (Value.int IntKind.i64 at_)]))
 Tr.leaf).node
 (some (AObj.cells [AV.sc (Value.slice none (0 : Nat) (0 : Nat))])) Tr.leaf))
 (4 : Nat) (Tr.leaf.node none ((Tr.leaf.node (some ((29 : Nat), (8 : Nat))) Tr.leaf).node none Tr.leaf))) ∧
 ∀ (_ : Unit),
 True →
 Sta1 m
 [AV.agg
 [AV.fn (Fn.func (39 : Nat)) [] [AV.ptr (1 : Nat) (0 : Nat), AV.ptr (2 : Nat) (0 : Nat)],
 AV.fn (Fn.func (40 : Nat)) [] [AV.ptr (2 : Nat) (0 : Nat)]],
 AV.sl [Y] (0 : Nat),
 AV.agg
 [AV.sc (Value.int IntKind.i64 (IntKind.i64.wrap (level + (1 : Int)))),
 AV.sc (Value.int IntKind.i64 (3 : Int)), AV.sc (Value.int IntKind.i64 (-1 : Int)),
 AV.sc (Value.bool false)],
 AV.fn (Fn.func (56 : Nat)) [] [AV.ptr (Nat.succ (3 : Nat)) (0 : Nat)]]
 (Heap.mk (5 : Nat)
 (((Tr.leaf.node (some (AObj.map [])) Tr.leaf).node (some (AObj.cells [AV.mp (3 : Nat)]))
 Tr.leaf).node
 none
 ((Tr.leaf.node
 (some
 (AObj.cells
 [AV.sc (Value.int IntKind.i64 (9 : Int)),
 AV.sc (Value.string (ByteArray.mk (Array.mk []))),
 AV.sc (Value.string (ByteArray.mk (Array.mk []))),
 AV.sc (Value.slice none (0 : Nat) (0 : Nat)), AV.sl [Y] (0 : Nat),
 AV.sc (Value.slice none (0 : Nat) (0 : Nat)), AV.sc (Value.bool false),
 AV.sc (Value.int IntKind.i64 at_)]))
 Tr.leaf).node
 (some (AObj.cells [AV.sc (Value.slice none (0 : Nat) (0 : Nat))])) Tr.leaf))
 (4 : Nat)
 (Tr.leaf.node none ((Tr.leaf.node (some ((29 : Nat), (8 : Nat))) Tr.leaf).node none Tr.leaf))) ∧
 ∀ (_ : Unit),
 True →
 K (AV.sc (Value.bool true))
 (Heap.mk (5 : Nat)
 (((Tr.leaf.node (some (AObj.map [])) Tr.leaf).node (some (AObj.cells [AV.mp (3 : Nat)]))
 Tr.leaf).node
 none
 ((Tr.leaf.node
 (some
 (AObj.cells
 [AV.sc (Value.int IntKind.i64 (9 : Int)),
 AV.sc (Value.string (ByteArray.mk (Array.mk []))),
 AV.sc (Value.string (ByteArray.mk (Array.mk []))),
 AV.sc (Value.slice none (0 : Nat) (0 : Nat)), AV.sl [Y] (0 : Nat),
 AV.sc (Value.slice none (0 : Nat) (0 : Nat)), AV.sc (Value.bool false),
 AV.sc (Value.int IntKind.i64 at_)]))
 Tr.leaf).node
 (some (AObj.cells [AV.sc (Value.slice none (0 : Nat) (0 : Nat))])) Tr.leaf))
 (4 : Nat)
 (Tr.leaf.node none ((Tr.leaf.node (some ((29 : Nat), (8 : Nat))) Tr.leaf).node none Tr.leaf))))) :
 (fun (m : Nat) (level : Int) (loop : Bool) (Y : List AV) (at_ : Int) (K : AV → Heap → Prop) => wpCall (T47 m) cfgI Tryz.prog 60 47 [vU, .sl [blkC Y at_] 0, wA level loop, loopO] hU0 K) m level loop Y at_ K :=
 Eq.mp (by kernel_rfl) h
theorem eub (m : Nat) (level : Int) (loop : Bool) (Y : List AV) (Y2 : List AV) (a2 : Int) (K : AV → Heap → Prop) (h :
 iteP loop
 (Vis1 (100 : Nat)
 [AV.agg
 [AV.fn (Fn.func (39 : Nat)) [] [AV.ptr (1 : Nat) (0 : Nat), AV.ptr (2 : Nat) (0 : Nat)],
 AV.fn (Fn.func (40 : Nat)) [] [AV.ptr (2 : Nat) (0 : Nat)]],
 AV.sl [Y] (0 : Nat),
 AV.agg
 [AV.sc (Value.int IntKind.i64 (IntKind.i64.wrap (level + (1 : Int)))),
 AV.sc (Value.int IntKind.i64 (3 : Int)), AV.sc (Value.int IntKind.i64 (-1 : Int)), AV.sc (Value.bool true)],
 AV.sc (Value.pointer none)]
 (Heap.mk ((((Nat.add (1 : Nat) (1 : Nat)).add (1 : Nat)).add (1 : Nat)).succ + (1 : Nat))
 (((Tr.leaf.node
 (some
 (AObj.cells
 [AV.sc (Value.int IntKind.i64 (9 : Int)), AV.sc (Value.string (ByteArray.mk (Array.mk []))),
 AV.sc (Value.string (ByteArray.mk (Array.mk []))), AV.sc (Value.slice none (0 : Nat) (0 : Nat)),
 AV.sl [Y2] (0 : Nat), AV.sc (Value.slice none (0 : Nat) (0 : Nat)), AV.sc (Value.bool false),
 AV.sc (Value.int IntKind.i64 a2)]))
 Tr.leaf).node
 (some (AObj.cells [AV.mp (4 : Nat)]))
 (Tr.leaf.node
 (some
 (AObj.cells
 [AV.sc (Value.int IntKind.i64 (1 : Int)), AV.sc (Value.string (ByteArray.mk (Array.mk []))),
 AV.sc (Value.string (ByteArray.mk (Array.mk []))), AV.sl [Y] (0 : Nat),
 AV.sc (Value.slice none (0 : Nat) (0 : Nat)), AV.sc (Value.slice none (0 : Nat) (0 : Nat)),
 AV.sc (Value.bool false), AV.sc (Value.int IntKind.i64 (500 : Int))]))
 Tr.leaf)).node
 none
 ((Tr.leaf.node (some (AObj.map [])) Tr.leaf).node
 (some (AObj.cells [AV.sc (Value.slice none (0 : Nat) (0 : Nat))])) Tr.leaf))
 (((Nat.add (1 : Nat) (1 : Nat)).add (1 : Nat)).add (1 : Nat)).succ
 ((Tr.leaf.node none (Tr.leaf.node (some ((29 : Nat), (8 : Nat))) Tr.leaf)).node none Tr.leaf)) ∧
 ∀ (_ : Unit),
 True →
 Vis0
 [AV.agg
 [AV.fn (Fn.func (39 : Nat)) [] [AV.ptr (1 : Nat) (0 : Nat), AV.ptr (2 : Nat) (0 : Nat)],
 AV.fn (Fn.func (40 : Nat)) [] [AV.ptr (2 : Nat) (0 : Nat)]],
 AV.sc (Value.slice none (0 : Nat) (0 : Nat)),
 AV.agg
 [AV.sc (Value.int IntKind.i64 (IntKind.i64.wrap (level + (1 : Int)))),
 AV.sc (Value.int IntKind.i64 (3 : Int)), AV.sc (Value.int IntKind.i64 (-1 : Int)),
 AV.sc (Value.bool true)],
 AV.sc (Value.pointer none)]
 (Heap.mk ((((Nat.add (1 : Nat) (1 : Nat)).add (1 : Nat)).add (1 : Nat)).succ + (1 : Nat))
 (((Tr.leaf.node
 (some
 (AObj.cells
 [AV.sc (Value.int IntKind.i64 (9 : Int)), AV.sc (Value.string (ByteArray.mk (Array.mk []))),
 AV.sc (Value.string (ByteArray.mk (Array.mk []))),
 AV.sc (Value.slice none (0 : Nat) (0 : Nat)), AV.sl [Y2] (0 : Nat),
 AV.sc (Value.slice none (0 : Nat) (0 : Nat)), AV.sc (Value.bool false),
 AV.sc (Value.int IntKind.i64 a2)]))
 Tr.leaf).node
 (some (AObj.cells [AV.mp (4 : Nat)]))
 (Tr.leaf.node
 (some
 (AObj.cells
 [AV.sc (Value.int IntKind.i64 (1 : Int)), AV.sc (Value.string (ByteArray.mk (Array.mk []))),
 AV.sc (Value.string (ByteArray.mk (Array.mk []))), AV.sl [Y] (0 : Nat),
 AV.sc (Value.slice none (0 : Nat) (0 : Nat)), AV.sc (Value.slice none (0 : Nat) (0 : Nat)),
 AV.sc (Value.bool false), AV.sc (Value.int IntKind.i64 (500 : Int))]))
 Tr.leaf)).node
 none
 ((Tr.leaf.node (some (AObj.map [])) Tr.leaf).node
 (some (AObj.cells [AV.sc (Value.slice none (0 : Nat) (0 : Nat))])) Tr.leaf))
 (((Nat.add (1 : Nat) (1 : Nat)).add (1 : Nat)).add (1 : Nat)).succ
 ((Tr.leaf.node none (Tr.leaf.node (some ((29 : Nat), (8 : Nat))) Tr.leaf)).node none Tr.leaf)) ∧
 ∀ (_ : Unit),
 True →
 Sta0
 [AV.agg
 [AV.fn (Fn.func (39 : Nat)) [] [AV.ptr (1 : Nat) (0 : Nat), AV.ptr (2 : Nat) (0 : Nat)],
 AV.fn (Fn.func (40 : Nat)) [] [AV.ptr (2 : Nat) (0 : Nat)]],
 AV.sc (Value.slice none (0 : Nat) (0 : Nat)),
 AV.agg
 [AV.sc (Value.int IntKind.i64 (IntKind.i64.wrap (level + (1 : Int)))),
 AV.sc (Value.int IntKind.i64 (3 : Int)), AV.sc (Value.int IntKind.i64 (-1 : Int)),
 AV.sc (Value.bool true)],
 AV.fn (Fn.func (56 : Nat)) []
 [AV.ptr (((Nat.add (1 : Nat) (1 : Nat)).add (1 : Nat)).add (1 : Nat)).succ (0 : Nat)]]
 (Heap.mk ((((Nat.add (1 : Nat) (1 : Nat)).add (1 : Nat)).add (1 : Nat)).succ + (1 : Nat))
 (((Tr.leaf.node
 (some
 (AObj.cells
 [AV.sc (Value.int IntKind.i64 (9 : Int)),
 AV.sc (Value.string (ByteArray.mk (Array.mk []))),
 AV.sc (Value.string (ByteArray.mk (Array.mk []))),
 AV.sc (Value.slice none (0 : Nat) (0 : Nat)), AV.sl [Y2] (0 : Nat),
 AV.sc (Value.slice none (0 : Nat) (0 : Nat)), AV.sc (Value.bool false),
 AV.sc (Value.int IntKind.i64 a2)]))
 Tr.leaf).node
 (some (AObj.cells [AV.mp (4 : Nat)]))
 (Tr.leaf.node
 (some
 (AObj.cells
 [AV.sc (Value.int IntKind.i64 (1 : Int)),
 AV.sc (Value.string (ByteArray.mk (Array.mk []))),
 AV.sc (Value.string (ByteArray.mk (Array.mk []))), AV.sl [Y] (0 : Nat),
 AV.sc (Value.slice none (0 : Nat) (0 : Nat)),
 AV.sc (Value.slice none (0 : Nat) (0 : Nat)), AV.sc (Value.bool false),
 AV.sc (Value.int IntKind.i64 (500 : Int))]))
 Tr.leaf)).node
 none
 ((Tr.leaf.node (some (AObj.map [])) Tr.leaf).node
 (some (AObj.cells [AV.sc (Value.slice none (0 : Nat) (0 : Nat))])) Tr.leaf))
 (((Nat.add (1 : Nat) (1 : Nat)).add (1 : Nat)).add (1 : Nat)).succ
 ((Tr.leaf.node none (Tr.leaf.node (some ((29 : Nat), (8 : Nat))) Tr.leaf)).node none Tr.leaf)) ∧
 ∀ (_ : Unit),
 True →
 K (AV.sc (Value.bool true))
 (Heap.mk ((((Nat.add (1 : Nat) (1 : Nat)).add (1 : Nat)).add (1 : Nat)).succ + (1 : Nat))
 (((Tr.leaf.node
 (some
 (AObj.cells
 [AV.sc (Value.int IntKind.i64 (9 : Int)),
 AV.sc (Value.string (ByteArray.mk (Array.mk []))),
 AV.sc (Value.string (ByteArray.mk (Array.mk []))),
 AV.sc (Value.slice none (0 : Nat) (0 : Nat)), AV.sl [Y2] (0 : Nat),
 AV.sc (Value.slice none (0 : Nat) (0 : Nat)), AV.sc (Value.bool false),
 AV.sc (Value.int IntKind.i64 a2)]))
 Tr.leaf).node
 (some (AObj.cells [AV.mp (4 : Nat)]))
 (Tr.leaf.node
 (some
 (AObj.cells
 [AV.sc (Value.int IntKind.i64 (1 : Int)),
 AV.sc (Value.string (ByteArray.mk (Array.mk []))),
 AV.sc (Value.string (ByteArray.mk (Array.mk []))), AV.sl [Y] (0 : Nat),
 AV.sc (Value.slice none (0 : Nat) (0 : Nat)),
 AV.sc (Value.slice none (0 : Nat) (0 : Nat)), AV.sc (Value.bool false),
 AV.sc (Value.int IntKind.i64 (500 : Int))]))
 Tr.leaf)).node
 none
 ((Tr.leaf.node (some (AObj.map [])) Tr.leaf).node
 (some (AObj.cells [AV.sc (Value.slice none (0 : Nat) (0 : Nat))])) Tr.leaf))
 (((Nat.add (1 : Nat) (1 : Nat)).add (1 : Nat)).add (1 : Nat)).succ
 ((Tr.leaf.node none (Tr.leaf.node (some ((29 : Nat), (8 : Nat))) Tr.leaf)).node none Tr.leaf)))
 (Vis1 (100 : Nat)
 [AV.agg
 [AV.fn (Fn.func (39 : Nat)) [] [AV.ptr (1 : Nat) (0 : Nat), AV.ptr (2 : Nat) (0 : Nat)],
 AV.fn (Fn.func (40 : Nat)) [] [AV.ptr (2 : Nat) (0 : Nat)]],
 AV.sl [Y] (0 : Nat),
 AV.agg
 [AV.sc (Value.int IntKind.i64 (IntKind.i64.wrap (level + (1 : Int)))),
 AV.sc (Value.int IntKind.i64 (3 : Int)), AV.sc (Value.int IntKind.i64 (-1 : Int)),
 AV.sc (Value.bool false)],
 AV.sc (Value.pointer none)]
 (Heap.mk ((((Nat.add (1 : Nat) (1 : Nat)).add (1 : Nat)).add (1 : Nat)).succ + (1 : Nat))
 (((Tr.leaf.node
 (some
 (AObj.cells
 [AV.sc (Value.int IntKind.i64 (9 : Int)), AV.sc (Value.string (ByteArray.mk (Array.mk []))),
 AV.sc (Value.string (ByteArray.mk (Array.mk []))), AV.sc (Value.slice none (0 : Nat) (0 : Nat)),
 AV.sl [Y2] (0 : Nat), AV.sc (Value.slice none (0 : Nat) (0 : Nat)), AV.sc (Value.bool false),
 AV.sc (Value.int IntKind.i64 a2)]))
 Tr.leaf).node
 (some (AObj.cells [AV.mp (4 : Nat)]))
 (Tr.leaf.node
 (some
 (AObj.cells
 [AV.sc (Value.int IntKind.i64 (1 : Int)), AV.sc (Value.string (ByteArray.mk (Array.mk []))),
 AV.sc (Value.string (ByteArray.mk (Array.mk []))), AV.sl [Y] (0 : Nat),
 AV.sc (Value.slice none (0 : Nat) (0 : Nat)), AV.sc (Value.slice none (0 : Nat) (0 : Nat)),
 AV.sc (Value.bool false), AV.sc (Value.int IntKind.i64 (500 : Int))]))
 Tr.leaf)).node
 none
 ((Tr.leaf.node (some (AObj.map [])) Tr.leaf).node
 (some (AObj.cells [AV.sc (Value.slice none (0 : Nat) (0 : Nat))])) Tr.leaf))
 (((Nat.add (1 : Nat) (1 : Nat)).add (1 : Nat)).add (1 : Nat)).succ
 ((Tr.leaf.node none (Tr.leaf.node (some ((29 : Nat), (8 : Nat))) Tr.leaf)).node none Tr.leaf)) ∧
 ∀ (_ : Unit),
 True →
 Vis0
 [AV.agg
 [AV.fn (Fn.func (39 : Nat)) [] [AV.ptr (1 : Nat) (0 : Nat), AV.ptr (2 : Nat) (0 : Nat)],
 AV.fn (Fn.func (40 : Nat)) [] [AV.ptr (2 : Nat) (0 : Nat)]],
 AV.sc (Value.slice none (0 : Nat) (0 : Nat)),
 AV.agg
 [AV.sc (Value.int IntKind.i64 (IntKind.i64.wrap (level + (1 : Int)))),
 AV.sc (Value.int IntKind.i64 (3 : Int)), AV.sc (Value.int IntKind.i64 (-1 : Int)),
 AV.sc (Value.bool false)],
 AV.sc (Value.pointer none)]
 (Heap.mk ((((Nat.add (1 : Nat) (1 : Nat)).add (1 : Nat)).add (1 : Nat)).succ + (1 : Nat))
 (((Tr.leaf.node
 (some
 (AObj.cells
 [AV.sc (Value.int IntKind.i64 (9 : Int)), AV.sc (Value.string (ByteArray.mk (Array.mk []))),
 AV.sc (Value.string (ByteArray.mk (Array.mk []))),
 AV.sc (Value.slice none (0 : Nat) (0 : Nat)), AV.sl [Y2] (0 : Nat),
 AV.sc (Value.slice none (0 : Nat) (0 : Nat)), AV.sc (Value.bool false),
 AV.sc (Value.int IntKind.i64 a2)]))
 Tr.leaf).node
 (some (AObj.cells [AV.mp (4 : Nat)]))
 (Tr.leaf.node
 (some
 (AObj.cells
 [AV.sc (Value.int IntKind.i64 (1 : Int)), AV.sc (Value.string (ByteArray.mk (Array.mk []))),
 AV.sc (Value.string (ByteArray.mk (Array.mk []))), AV.sl [Y] (0 : Nat),
 AV.sc (Value.slice none (0 : Nat) (0 : Nat)), AV.sc (Value.slice none (0 : Nat) (0 : Nat)),
 AV.sc (Value.bool false), AV.sc (Value.int IntKind.i64 (500 : Int))]))
 Tr.leaf)).node
 none
 ((Tr.leaf.node (some (AObj.map [])) Tr.leaf).node
 (some (AObj.cells [AV.sc (Value.slice none (0 : Nat) (0 : Nat))])) Tr.leaf))
 (((Nat.add (1 : Nat) (1 : Nat)).add (1 : Nat)).add (1 : Nat)).succ
 ((Tr.leaf.node none (Tr.leaf.node (some ((29 : Nat), (8 : Nat))) Tr.leaf)).node none Tr.leaf)) ∧
 ∀ (_ : Unit),
 True →
 Sta0
 [AV.agg
 [AV.fn (Fn.func (39 : Nat)) [] [AV.ptr (1 : Nat) (0 : Nat), AV.ptr (2 : Nat) (0 : Nat)],
 AV.fn (Fn.func (40 : Nat)) [] [AV.ptr (2 : Nat) (0 : Nat)]],
 AV.sc (Value.slice none (0 : Nat) (0 : Nat)),
 AV.agg
 [AV.sc (Value.int IntKind.i64 (IntKind.i64.wrap (level + (1 : Int)))),
 AV.sc (Value.int IntKind.i64 (3 : Int)), AV.sc (Value.int IntKind.i64 (-1 : Int)),
 AV.sc (Value.bool false)],
 AV.fn (Fn.func (56 : Nat)) []
 [AV.ptr (((Nat.add (1 : Nat) (1 : Nat)).add (1 : Nat)).add (1 : Nat)).succ (0 : Nat)]]
 (Heap.mk ((((Nat.add (1 : Nat) (1 : Nat)).add (1 : Nat)).add (1 : Nat)).succ + (1 : Nat))
 (((Tr.leaf.node
 (some
 (AObj.cells
 [AV.sc (Value.int IntKind.i64 (9 : Int)),
 AV.sc (Value.string (ByteArray.mk (Array.mk []))),
 AV.sc (Value.string (ByteArray.mk (Array.mk []))),
 AV.sc (Value.slice none (0 : Nat) (0 : Nat)), AV.sl [Y2] (0 : Nat),
 AV.sc (Value.slice none (0 : Nat) (0 : Nat)), AV.sc (Value.bool false),
 AV.sc (Value.int IntKind.i64 a2)]))
 Tr.leaf).node
 (some (AObj.cells [AV.mp (4 : Nat)]))
 (Tr.leaf.node
 (some
 (AObj.cells
 [AV.sc (Value.int IntKind.i64 (1 : Int)),
 AV.sc (Value.string (ByteArray.mk (Array.mk []))),
 AV.sc (Value.string (ByteArray.mk (Array.mk []))), AV.sl [Y] (0 : Nat),
 AV.sc (Value.slice none (0 : Nat) (0 : Nat)),
 AV.sc (Value.slice none (0 : Nat) (0 : Nat)), AV.sc (Value.bool false),
 AV.sc (Value.int IntKind.i64 (500 : Int))]))
 Tr.leaf)).node
 none
 ((Tr.leaf.node (some (AObj.map [])) Tr.leaf).node
 (some (AObj.cells [AV.sc (Value.slice none (0 : Nat) (0 : Nat))])) Tr.leaf))
 (((Nat.add (1 : Nat) (1 : Nat)).add (1 : Nat)).add (1 : Nat)).succ
 ((Tr.leaf.node none (Tr.leaf.node (some ((29 : Nat), (8 : Nat))) Tr.leaf)).node none Tr.leaf)) ∧
 ∀ (_ : Unit),
 True →
 K (AV.sc (Value.bool true))
 (Heap.mk ((((Nat.add (1 : Nat) (1 : Nat)).add (1 : Nat)).add (1 : Nat)).succ + (1 : Nat))
 (((Tr.leaf.node
 (some
 (AObj.cells
 [AV.sc (Value.int IntKind.i64 (9 : Int)),
 AV.sc (Value.string (ByteArray.mk (Array.mk []))),
 AV.sc (Value.string (ByteArray.mk (Array.mk []))),
 AV.sc (Value.slice none (0 : Nat) (0 : Nat)), AV.sl [Y2] (0 : Nat),
 AV.sc (Value.slice none (0 : Nat) (0 : Nat)), AV.sc (Value.bool false),
 AV.sc (Value.int IntKind.i64 a2)]))
 Tr.leaf).node
 (some (AObj.cells [AV.mp (4 : Nat)]))
 (Tr.leaf.node
 (some
 (AObj.cells
 [AV.sc (Value.int IntKind.i64 (1 : Int)),
 AV.sc (Value.string (ByteArray.mk (Array.mk []))),
 AV.sc (Value.string (ByteArray.mk (Array.mk []))), AV.sl [Y] (0 : Nat),
 AV.sc (Value.slice none (0 : Nat) (0 : Nat)),
 AV.sc (Value.slice none (0 : Nat) (0 : Nat)), AV.sc (Value.bool false),
 AV.sc (Value.int IntKind.i64 (500 : Int))]))
 Tr.leaf)).node
 none
 ((Tr.leaf.node (some (AObj.map [])) Tr.leaf).node
 (some (AObj.cells [AV.sc (Value.slice none (0 : Nat) (0 : Nat))])) Tr.leaf))
 (((Nat.add (1 : Nat) (1 : Nat)).add (1 : Nat)).add (1 : Nat)).succ
 ((Tr.leaf.node none (Tr.leaf.node (some ((29 : Nat), (8 : Nat))) Tr.leaf)).node none Tr.leaf)))) :
 (fun (m : Nat) (level : Int) (loop : Bool) (Y : List AV) (Y2 : List AV) (a2 : Int) (K : AV → Heap → Prop) => wpCall (T47 m) cfgI Tryz.prog 60 47 [vU, .sl [exprC Y] 0, wA level loop, (fnA 56 [.ptr 3 0])] (hU1 (blkC Y2 a2)) K) m level loop Y Y2 a2 K :=
 Eq.mp (by kernel_rfl) h
theorem bub (m : Nat) (level : Int) (loop : Bool) (Y : List AV) (at_ : Int) (Y2 : List AV) (a2 : Int) (K : AV → Heap → Prop) (h :
 iteP loop
 (Vis0
 [AV.agg
 [AV.fn (Fn.func (39 : Nat)) [] [AV.ptr (1 : Nat) (0 : Nat), AV.ptr (2 : Nat) (0 : Nat)],
 AV.fn (Fn.func (40 : Nat)) [] [AV.ptr (2 : Nat) (0 : Nat)]],
 AV.sc (Value.slice none (0 : Nat) (0 : Nat)),
 AV.agg
 [AV.sc (Value.int IntKind.i64 (IntKind.i64.wrap (level + (1 : Int)))),
 AV.sc (Value.int IntKind.i64 (3 : Int)), AV.sc (Value.int IntKind.i64 (-1 : Int)), AV.sc (Value.bool true)],
 AV.sc (Value.pointer none)]
 (Heap.mk ((((Nat.add (1 : Nat) (1 : Nat)).add (1 : Nat)).add (1 : Nat)).succ + (1 : Nat))
 (((Tr.leaf.node
 (some
 (AObj.cells
 [AV.sc (Value.int IntKind.i64 (9 : Int)), AV.sc (Value.string (ByteArray.mk (Array.mk []))),
 AV.sc (Value.string (ByteArray.mk (Array.mk []))), AV.sc (Value.slice none (0 : Nat) (0 : Nat)),
 AV.sl [Y2] (0 : Nat), AV.sc (Value.slice none (0 : Nat) (0 : Nat)), AV.sc (Value.bool false),
 AV.sc (Value.int IntKind.i64 a2)]))
 Tr.leaf).node
 (some (AObj.cells [AV.mp (4 : Nat)]))
 (Tr.leaf.node
 (some
 (AObj.cells
 [AV.sc (Value.int IntKind.i64 (9 : Int)), AV.sc (Value.string (ByteArray.mk (Array.mk []))),
 AV.sc (Value.string (ByteArray.mk (Array.mk []))), AV.sc (Value.slice none (0 : Nat) (0 : Nat)),
 AV.sl [Y] (0 : Nat), AV.sc (Value.slice none (0 : Nat) (0 : Nat)), AV.sc (Value.bool false),
 AV.sc (Value.int IntKind.i64 at_)]))
 Tr.leaf)).node
 none
 ((Tr.leaf.node (some (AObj.map [])) Tr.leaf).node
 (some (AObj.cells [AV.sc (Value.slice none (0 : Nat) (0 : Nat))])) Tr.leaf))
 (((Nat.add (1 : Nat) (1 : Nat)).add (1 : Nat)).add (1 : Nat)).succ
 ((Tr.leaf.node none (Tr.leaf.node (some ((29 : Nat), (8 : Nat))) Tr.leaf)).node none Tr.leaf)) ∧
 ∀ (_ : Unit),
 True →
 Vis0
 [AV.agg
 [AV.fn (Fn.func (39 : Nat)) [] [AV.ptr (1 : Nat) (0 : Nat), AV.ptr (2 : Nat) (0 : Nat)],
 AV.fn (Fn.func (40 : Nat)) [] [AV.ptr (2 : Nat) (0 : Nat)]],
 AV.sc (Value.slice none (0 : Nat) (0 : Nat)),
 AV.agg
 [AV.sc (Value.int IntKind.i64 (IntKind.i64.wrap (level + (1 : Int)))),
 AV.sc (Value.int IntKind.i64 (3 : Int)), AV.sc (Value.int IntKind.i64 (-1 : Int)),
 AV.sc (Value.bool true)],
 AV.sc (Value.pointer none)]
 (Heap.mk ((((Nat.add (1 : Nat) (1 : Nat)).add (1 : Nat)).add (1 : Nat)).succ + (1 : Nat))
 (((Tr.leaf.node
 (some
 (AObj.cells
 [AV.sc (Value.int IntKind.i64 (9 : Int)), AV.sc (Value.string (ByteArray.mk (Array.mk []))),
 AV.sc (Value.string (ByteArray.mk (Array.mk []))),
 AV.sc (Value.slice none (0 : Nat) (0 : Nat)), AV.sl [Y2] (0 : Nat),
 AV.sc (Value.slice none (0 : Nat) (0 : Nat)), AV.sc (Value.bool false),
 AV.sc (Value.int IntKind.i64 a2)]))
 Tr.leaf).node
 (some (AObj.cells [AV.mp (4 : Nat)]))
 (Tr.leaf.node
 (some
 (AObj.cells
 [AV.sc (Value.int IntKind.i64 (9 : Int)), AV.sc (Value.string (ByteArray.mk (Array.mk []))),
 AV.sc (Value.string (ByteArray.mk (Array.mk []))),
 AV.sc (Value.slice none (0 : Nat) (0 : Nat)), AV.sl [Y] (0 : Nat),
 AV.sc (Value.slice none (0 : Nat) (0 : Nat)), AV.sc (Value.bool false),
 AV.sc (Value.int IntKind.i64 at_)]))
 Tr.leaf)).node
 none
 ((Tr.leaf.node (some (AObj.map [])) Tr.leaf).node
 (some (AObj.cells [AV.sc (Value.slice none (0 : Nat) (0 : Nat))])) Tr.leaf))
 (((Nat.add (1 : Nat) (1 : Nat)).add (1 : Nat)).add (1 : Nat)).succ
 ((Tr.leaf.node none (Tr.leaf.node (some ((29 : Nat), (8 : Nat))) Tr.leaf)).node none Tr.leaf)) ∧
 ∀ (_ : Unit),
 True →
 Sta1 m
 [AV.agg
 [AV.fn (Fn.func (39 : Nat)) [] [AV.ptr (1 : Nat) (0 : Nat), AV.ptr (2 : Nat) (0 : Nat)],
 AV.fn (Fn.func (40 : Nat)) [] [AV.ptr (2 : Nat) (0 : Nat)]],
 AV.sl [Y] (0 : Nat),
 AV.agg
 [AV.sc (Value.int IntKind.i64 (IntKind.i64.wrap (level + (1 : Int)))),
 AV.sc (Value.int IntKind.i64 (3 : Int)), AV.sc (Value.int IntKind.i64 (-1 : Int)),
 AV.sc (Value.bool true)],
 AV.fn (Fn.func (56 : Nat)) []
 [AV.ptr (((Nat.add (1 : Nat) (1 : Nat)).add (1 : Nat)).add (1 : Nat)).succ (0 : Nat)]]
 (Heap.mk ((((Nat.add (1 : Nat) (1 : Nat)).add (1 : Nat)).add (1 : Nat)).succ + (1 : Nat))
 (((Tr.leaf.node
 (some
 (AObj.cells
 [AV.sc (Value.int IntKind.i64 (9 : Int)),
 AV.sc (Value.string (ByteArray.mk (Array.mk []))),
 AV.sc (Value.string (ByteArray.mk (Array.mk []))),
 AV.sc (Value.slice none (0 : Nat) (0 : Nat)), AV.sl [Y2] (0 : Nat),
 AV.sc (Value.slice none (0 : Nat) (0 : Nat)), AV.sc (Value.bool false),
 AV.sc (Value.int IntKind.i64 a2)]))
 Tr.leaf).node
 (some (AObj.cells [AV.mp (4 : Nat)]))
 (Tr.leaf.node
 (some
 (AObj.cells
 [AV.sc (Value.int IntKind.i64 (9 : Int)),
 AV.sc (Value.string (ByteArray.mk (Array.mk []))),
 AV.sc (Value.string (ByteArray.mk (Array.mk []))),
 AV.sc (Value.slice none (0 : Nat) (0 : Nat)), AV.sl [Y] (0 : Nat),
 AV.sc (Value.slice none (0 : Nat) (0 : Nat)), AV.sc (Value.bool false),
 AV.sc (Value.int IntKind.i64 at_)]))
 Tr.leaf)).node
 none
 ((Tr.leaf.node (some (AObj.map [])) Tr.leaf).node
 (some (AObj.cells [AV.sc (Value.slice none (0 : Nat) (0 : Nat))])) Tr.leaf))
 (((Nat.add (1 : Nat) (1 : Nat)).add (1 : Nat)).add (1 : Nat)).succ
 ((Tr.leaf.node none (Tr.leaf.node (some ((29 : Nat), (8 : Nat))) Tr.leaf)).node none Tr.leaf)) ∧
 ∀ (_ : Unit),
 True →
 K (AV.sc (Value.bool true))
 (Heap.mk ((((Nat.add (1 : Nat) (1 : Nat)).add (1 : Nat)).add (1 : Nat)).succ + (1 : Nat))
 (((Tr.leaf.node
 (some
 (AObj.cells
 [AV.sc (Value.int IntKind.i64 (9 : Int)),
 AV.sc (Value.string (ByteArray.mk (Array.mk []))),
 AV.sc (Value.string (ByteArray.mk (Array.mk []))),
 AV.sc (Value.slice none (0 : Nat) (0 : Nat)), AV.sl [Y2] (0 : Nat),
 AV.sc (Value.slice none (0 : Nat) (0 : Nat)), AV.sc (Value.bool false),
 AV.sc (Value.int IntKind.i64 a2)]))
 Tr.leaf).node
 (some (AObj.cells [AV.mp (4 : Nat)]))
 (Tr.leaf.node
 (some
 (AObj.cells
 [AV.sc (Value.int IntKind.i64 (9 : Int)),
 AV.sc (Value.string (ByteArray.mk (Array.mk []))),
 AV.sc (Value.string (ByteArray.mk (Array.mk []))),
 AV.sc (Value.slice none (0 : Nat) (0 : Nat)), AV.sl [Y] (0 : Nat),
 AV.sc (Value.slice none (0 : Nat) (0 : Nat)), AV.sc (Value.bool false),
 AV.sc (Value.int IntKind.i64 at_)]))
 Tr.leaf)).node
 none
 ((Tr.leaf.node (some (AObj.map [])) Tr.leaf).node
 (some (AObj.cells [AV.sc (Value.slice none (0 : Nat) (0 : Nat))])) Tr.leaf))
 (((Nat.add (1 : Nat) (1 : Nat)).add (1 : Nat)).add (1 : Nat)).succ
 ((Tr.leaf.node none (Tr.leaf.node (some ((29 : Nat), (8 : Nat))) Tr.leaf)).node none Tr.leaf)))
 (Vis0
 [AV.agg
 [AV.fn (Fn.func (39 : Nat)) [] [AV.ptr (1 : Nat) (0 : Nat), AV.ptr (2 : Nat) (0 : Nat)],
 AV.fn (Fn.func (40 : Nat)) [] [AV.ptr (2 : Nat) (0 : Nat)]],
 AV.sc (Value.slice none (0 : Nat) (0 : Nat)),
 AV.agg
 [AV.sc (Value.int IntKind.i64 (IntKind.i64.wrap (level + (1 : Int)))),
 AV.sc (Value.int IntKind.i64 (3 : Int)), AV.sc (Value.int IntKind.i64 (-1 : Int)),
 AV.sc (Value.bool false)],
 AV.sc (Value.pointer none)]
 (Heap.mk ((((Nat.add (1 : Nat) (1 : Nat)).add (1 : Nat)).add (1 : Nat)).succ + (1 : Nat))
 (((Tr.leaf.node
 (some
 (AObj.cells
 [AV.sc (Value.int IntKind.i64 (9 : Int)), AV.sc (Value.string (ByteArray.mk (Array.mk []))),
 AV.sc (Value.string (ByteArray.mk (Array.mk []))), AV.sc (Value.slice none (0 : Nat) (0 : Nat)),
 AV.sl [Y2] (0 : Nat), AV.sc (Value.slice none (0 : Nat) (0 : Nat)), AV.sc (Value.bool false),
 AV.sc (Value.int IntKind.i64 a2)]))
 Tr.leaf).node
 (some (AObj.cells [AV.mp (4 : Nat)]))
 (Tr.leaf.node
 (some
 (AObj.cells
 [AV.sc (Value.int IntKind.i64 (9 : Int)), AV.sc (Value.string (ByteArray.mk (Array.mk []))),
 AV.sc (Value.string (ByteArray.mk (Array.mk []))), AV.sc (Value.slice none (0 : Nat) (0 : Nat)),
 AV.sl [Y] (0 : Nat), AV.sc (Value.slice none (0 : Nat) (0 : Nat)), AV.sc (Value.bool false),
 AV.sc (Value.int IntKind.i64 at_)]))
 Tr.leaf)).node
 none
 ((Tr.leaf.node (some (AObj.map [])) Tr.leaf).node
 (some (AObj.cells [AV.sc (Value.slice none (0 : Nat) (0 : Nat))])) Tr.leaf))
 (((Nat.add (1 : Nat) (1 : Nat)).add (1 : Nat)).add (1 : Nat)).succ
 ((Tr.leaf.node none (Tr.leaf.node (some ((29 : Nat), (8 : Nat))) Tr.leaf)).node none Tr.leaf)) ∧
 ∀ (_ : Unit),
 True →
 Vis0
 [AV.agg
 [AV.fn (Fn.func (39 : Nat)) [] [AV.ptr (1 : Nat) (0 : Nat), AV.ptr (2 : Nat) (0 : Nat)],
 AV.fn (Fn.func (40 : Nat)) [] [AV.ptr (2 : Nat) (0 : Nat)]],
 AV.sc (Value.slice none (0 : Nat) (0 : Nat)),
 AV.agg
 [AV.sc (Value.int IntKind.i64 (IntKind.i64.wrap (level + (1 : Int)))),
 AV.sc (Value.int IntKind.i64 (3 : Int)), AV.sc (Value.int IntKind.i64 (-1 : Int)),
 AV.sc (Value.bool false)],
 AV.sc (Value.pointer none)]
 (Heap.mk ((((Nat.add (1 : Nat) (1 : Nat)).add (1 : Nat)).add (1 : Nat)).succ + (1 : Nat))
 (((Tr.leaf.node
 (some
 (AObj.cells
 [AV.sc (Value.int IntKind.i64 (9 : Int)), AV.sc (Value.string (ByteArray.mk (Array.mk []))),
 AV.sc (Value.string (ByteArray.mk (Array.mk []))),
 AV.sc (Value.slice none (0 : Nat) (0 : Nat)), AV.sl [Y2] (0 : Nat),
 AV.sc (Value.slice none (0 : Nat) (0 : Nat)), AV.sc (Value.bool false),
 AV.sc (Value.int IntKind.i64 a2)]))
 Tr.leaf).node
 (some (AObj.cells [AV.mp (4 : Nat)]))
 (Tr.leaf.node
 (some
 (AObj.cells
 [AV.sc (Value.int IntKind.i64 (9 : Int)), AV.sc (Value.string (ByteArray.mk (Array.mk []))),
 AV.sc (Value.string (ByteArray.mk (Array.mk []))),
 AV.sc (Value.slice none (0 : Nat) (0 : Nat)), AV.sl [Y] (0 : Nat),
 AV.sc (Value.slice none (0 : Nat) (0 : Nat)), AV.sc (Value.bool false),
 AV.sc (Value.int IntKind.i64 at_)]))
 Tr.leaf)).node
 none
 ((Tr.leaf.node (some (AObj.map [])) Tr.leaf).node
 (some (AObj.cells [AV.sc (Value.slice none (0 : Nat) (0 : Nat))])) Tr.leaf))
 (((Nat.add (1 : Nat) (1 : Nat)).add (1 : Nat)).add (1 : Nat)).succ
 ((Tr.leaf.node none (Tr.leaf.node (some ((29 : Nat), (8 : Nat))) Tr.leaf)).node none Tr.leaf)) ∧
 ∀ (_ : Unit),
 True →
 Sta1 m
 [AV.agg
 [AV.fn (Fn.func (39 : Nat)) [] [AV.ptr (1 : Nat) (0 : Nat), AV.ptr (2 : Nat) (0 : Nat)],
 AV.fn (Fn.func (40 : Nat)) [] [AV.ptr (2 : Nat) (0 : Nat)]],
 AV.sl [Y] (0 : Nat),
 AV.agg
 [AV.sc (Value.int IntKind.i64 (IntKind.i64.wrap (level + (1 : Int)))),
 AV.sc (Value.int IntKind.i64 (3 : Int)), AV.sc (Value.int IntKind.i64 (-1 : Int)),
 AV.sc (Value.bool false)],
 AV.fn (Fn.func (56 : Nat)) []
 [AV.ptr (((Nat.add (1 : Nat) (1 : Nat)).add (1 : Nat)).add (1 : Nat)).succ (0 : Nat)]]
 (Heap.mk ((((Nat.add (1 : Nat) (1 : Nat)).add (1 : Nat)).add (1 : Nat)).succ + (1 : Nat))
 (((Tr.leaf.node
 (some
 (AObj.cells
 [AV.sc (Value.int IntKind.i64 (9 : Int)),
 AV.sc (Value.string (ByteArray.mk (Array.mk []))),
 AV.sc (Value.string (ByteArray.mk (Array.mk []))),
 AV.sc (Value.slice none (0 : Nat) (0 : Nat)), AV.sl [Y2] (0 : Nat),
 AV.sc (Value.slice none (0 : Nat) (0 : Nat)), AV.sc (Value.bool false),
 AV.sc (Value.int IntKind.i64 a2)]))
 Tr.leaf).node
 (some (AObj.cells [AV.mp (4 : Nat)]))
 (Tr.leaf.node
 (some
 (AObj.cells
 [AV.sc (Value.int IntKind.i64 (9 : Int)),
 AV.sc (Value.string (ByteArray.mk (Array.mk []))),
 AV.sc (Value.string (ByteArray.mk (Array.mk []))),
 AV.sc (Value.slice none (0 : Nat) (0 : Nat)), AV.sl [Y] (0 : Nat),
 AV.sc (Value.slice none (0 : Nat) (0 : Nat)), AV.sc (Value.bool false),
 AV.sc (Value.int IntKind.i64 at_)]))
 Tr.leaf)).node
 none
 ((Tr.leaf.node (some (AObj.map [])) Tr.leaf).node
 (some (AObj.cells [AV.sc (Value.slice none (0 : Nat) (0 : Nat))])) Tr.leaf))
 (((Nat.add (1 : Nat) (1 : Nat)).add (1 : Nat)).add (1 : Nat)).succ
 ((Tr.leaf.node none (Tr.leaf.node (some ((29 : Nat), (8 : Nat))) Tr.leaf)).node none Tr.leaf)) ∧
 ∀ (_ : Unit),
 True →
 K (AV.sc (Value.bool true))
 (Heap.mk ((((Nat.add (1 : Nat) (1 : Nat)).add (1 : Nat)).add (1 : Nat)).succ + (1 : Nat))
 (((Tr.leaf.node
 (some
 (AObj.cells
 [AV.sc (Value.int IntKind.i64 (9 : Int)),
 AV.sc (Value.string (ByteArray.mk (Array.mk []))),
 AV.sc (Value.string (ByteArray.mk (Array.mk []))),
 AV.sc (Value.slice none (0 : Nat) (0 : Nat)), AV.sl [Y2] (0 : Nat),
 AV.sc (Value.slice none (0 : Nat) (0 : Nat)), AV.sc (Value.bool false),
 AV.sc (Value.int IntKind.i64 a2)]))
 Tr.leaf).node
 (some (AObj.cells [AV.mp (4 : Nat)]))
 (Tr.leaf.node
 (some
 (AObj.cells
 [AV.sc (Value.int IntKind.i64 (9 : Int)),
 AV.sc (Value.string (ByteArray.mk (Array.mk []))),
 AV.sc (Value.string (ByteArray.mk (Array.mk []))),
 AV.sc (Value.slice none (0 : Nat) (0 : Nat)), AV.sl [Y] (0 : Nat),
 AV.sc (Value.slice none (0 : Nat) (0 : Nat)), AV.sc (Value.bool false),
 AV.sc (Value.int IntKind.i64 at_)]))
 Tr.leaf)).node
 none
 ((Tr.leaf.node (some (AObj.map [])) Tr.leaf).node
 (some (AObj.cells [AV.sc (Value.slice none (0 : Nat) (0 : Nat))])) Tr.leaf))
 (((Nat.add (1 : Nat) (1 : Nat)).add (1 : Nat)).add (1 : Nat)).succ
 ((Tr.leaf.node none (Tr.leaf.node (some ((29 : Nat), (8 : Nat))) Tr.leaf)).node none Tr.leaf)))) :
 (fun (m : Nat) (level : Int) (loop : Bool) (Y : List AV) (at_ : Int) (Y2 : List AV) (a2 : Int) (K : AV → Heap → Prop) => wpCall (T47 m) cfgI Tryz.prog 60 47 [vU, .sl [blkC Y at_] 0, wA level loop, (fnA 56 [.ptr 3 0])] (hU1 (blkC Y2 a2)) K) m level loop Y at_ Y2 a2 K :=
 Eq.mp (by kernel_rfl) h
end
end Go.Proofs.Sc
namespace Go.Proofs.Sc
open Go Go.Ef
noncomputable section
set_option maxRecDepth 100000
abbrev Ok (T : Tab) : Prop := TabOk Tryz.prog cfgI T
theorem okX : Ok tabX := ⟨fun _ _ _ _ _ ht => (by cases ht), fun _ _ _ _ _ ht => (by cases ht)⟩
theorem imp_call {g : FuncId} {args args' : List AV} {h h' : Heap} (hp : cfgI.prim g = none) (hf : cfgI.fresh g = false) (hi : cfgI.imp g = true) (ha : impA args h = some (args', h'))
  (H : EvC cfgI Tryz.prog g args' h' fun r _ => r = bA true) : ∃ n, callP cfgI (evCall cfgI Tryz.prog n) g args h = some (bA true, h) := by
 obtain ⟨n, r, h1, h2, rfl⟩ := H
 refine ⟨n, ?_⟩
 unfold callP
 rw [hp]; simp only []; rw [hf]; simp only [cond_false]; rw [hi]; simp only [cond_true]; rw [ha]; simp only []; rw [h2]; rfl
theorem wrap1 {x : Int} (h0 : 0 ≤ x) (h1 : x ≤ 100) : IntKind.i64.wrap (x + 1) = x + 1 := wrap_in (by omega) (by omega)
theorem vis0 (level : Int) (loop : Bool) {v u : AV} {h : Heap} (c : Can0 v u h) : EvC cfgI Tryz.prog 46 [v, nilA, wA level loop, u] h fun r _ => r = bA true := by
 cases c with
 | of c =>
  cases c with
  | s0 => exact call_okW okX 60 46 _ _ _ (zs0 level loop _ rfl)
  | sg Y a => exact call_okW okX 60 46 _ _ _ (zsg level loop Y a _ rfl)
  | n0 R => exact call_okW okX 60 46 _ _ _ (zn0 level loop R _ rfl)
  | ng R Y a => exact call_okW okX 60 46 _ _ _ (zng level loop R Y a _ rfl)
  | u0 => exact call_okW okX 60 46 _ _ _ (zu0 level loop _ rfl)
  | ug Y a => exact call_okW okX 60 46 _ _ _ (zug level loop Y a _ rfl)
 | sn => exact call_okW okX 60 46 _ _ _ (zsn level loop _ rfl)
 | nn R => exact call_okW okX 60 46 _ _ _ (znn level loop R _ rfl)
 | un => exact call_okW okX 60 46 _ _ _ (zun level loop _ rfl)
theorem vis1 (k : Nat) (O : Ok (T46 k)) (level : Int) (loop : Bool) {v u : AV} {h : Heap} (c : Can v u h) (h0 : 0 ≤ level) (hl : level + k ≤ 32) : EvC cfgI Tryz.prog 46 [v, .sl [tN k] 0, wA level loop, u] h fun r _ => r = bA true := by
 have hw := wrap1 h0 (by omega)
 cases k with
 | zero =>
  cases c with
  | s0 =>
   refine call_okW O 60 46 _ _ _ (is0 0 level loop _ ?_)
   rw [decide_eq_false (by omega), iteP_f]
   exact ⟨⟨vS, (.ptr 2 0), (hS1 numC), IntKind.i64.wrap (level + 1), loop, by kernel_rfl, .sn⟩, fun _ _ => rfl⟩
  | sg Y a =>
   refine call_okW O 60 46 _ _ _ (isg 0 level loop Y a _ ?_)
   rw [decide_eq_false (by omega), iteP_f]
   exact ⟨⟨vS, (.ptr 2 0), (hS1 numC), IntKind.i64.wrap (level + 1), loop, by kernel_rfl, .sn⟩, fun _ _ => rfl⟩
  | n0 R =>
   refine call_okW O 60 46 _ _ _ (in0 0 level loop R _ ?_)
   exact ⟨⟨vN, (.ptr 6 0), (hN1 R numC), IntKind.i64.wrap (level + 1), loop, by kernel_rfl, .nn R⟩, fun _ _ => rfl⟩
  | ng R Y a =>
   refine call_okW O 60 46 _ _ _ (ing 0 level loop R Y a _ ?_)
   exact ⟨⟨vN, (.ptr 6 0), (hN1 R numC), IntKind.i64.wrap (level + 1), loop, by kernel_rfl, .nn R⟩, fun _ _ => rfl⟩
  | u0 =>
   refine call_okW O 60 46 _ _ _ (iu0 0 level loop _ ?_)
   exact ⟨⟨vU, (.ptr 3 0), (hU1 numC), IntKind.i64.wrap (level + 1), loop, by kernel_rfl, .un⟩, fun _ _ => rfl⟩
  | ug Y a =>
   refine call_okW O 60 46 _ _ _ (iug 0 level loop Y a _ ?_)
   exact ⟨⟨vU, (.ptr 3 0), (hU1 numC), IntKind.i64.wrap (level + 1), loop, by kernel_rfl, .un⟩, fun _ _ => rfl⟩
 | succ k =>
  cases c with
  | s0 =>
   refine call_okW O 60 46 _ _ _ (gs0 (k + 1) level loop (tN k) (1000 - ((k + 1 : Nat) : Int)) _ ?_)
   rw [decide_eq_false (by omega), iteP_f]
   exact ⟨⟨vS, (.ptr 2 0), (hS1 (grpC (tN k) (1000 - ((k + 1 : Nat) : Int)))), IntKind.i64.wrap (level + 1), loop, k, by kernel_rfl, .sg (tN k) (1000 - ((k + 1 : Nat) : Int)), by omega, by rw [hw]; omega, by rw [hw]; omega⟩, fun _ _ => rfl⟩
  | sg Y a =>
   refine call_okW O 60 46 _ _ _ (gsg (k + 1) level loop (tN k) (1000 - ((k + 1 : Nat) : Int)) Y a _ ?_)
   rw [decide_eq_false (by omega), iteP_f]
   exact ⟨⟨vS, (.ptr 2 0), (hS1 (grpC (tN k) (1000 - ((k + 1 : Nat) : Int)))), IntKind.i64.wrap (level + 1), loop, k, by kernel_rfl, .sg (tN k) (1000 - ((k + 1 : Nat) : Int)), by omega, by rw [hw]; omega, by rw [hw]; omega⟩, fun _ _ => rfl⟩
  | n0 R =>
   refine call_okW O 60 46 _ _ _ (gn0 (k + 1) level loop (tN k) (1000 - ((k + 1 : Nat) : Int)) R _ ?_)
   exact ⟨⟨vN, (.ptr 6 0), (hN1 R (grpC (tN k) (1000 - ((k + 1 : Nat) : Int)))), IntKind.i64.wrap (level + 1), loop, k, by kernel_rfl, .ng R (tN k) (1000 - ((k + 1 : Nat) : Int)), by omega, by rw [hw]; omega, by rw [hw]; omega⟩, fun _ _ => rfl⟩
  | ng R Y a =>
   refine call_okW O 60 46 _ _ _ (gng (k + 1) level loop (tN k) (1000 - ((k + 1 : Nat) : Int)) R Y a _ ?_)
   exact ⟨⟨vN, (.ptr 6 0), (hN1 R (grpC (tN k) (1000 - ((k + 1 : Nat) : Int)))), IntKind.i64.wrap (level + 1), loop, k, by kernel_rfl, .ng R (tN k) (1000 - ((k + 1 : Nat) : Int)), by omega, by rw [hw]; omega, by rw [hw]; omega⟩, fun _ _ => rfl⟩
  | u0 =>
   refine call_okW O 60 46 _ _ _ (gu0 (k + 1) level loop (tN k) (1000 - ((k + 1 : Nat) : Int)) _ ?_)
   exact ⟨⟨vU, (.ptr 3 0), (hU1 (grpC (tN k) (1000 - ((k + 1 : Nat) : Int)))), IntKind.i64.wrap (level + 1), loop, k, by kernel_rfl, .ug (tN k) (1000 - ((k + 1 : Nat) : Int)), by omega, by rw [hw]; omega, by rw [hw]; omega⟩, fun _ _ => rfl⟩
  | ug Y a =>
   refine call_okW O 60 46 _ _ _ (gug (k + 1) level loop (tN k) (1000 - ((k + 1 : Nat) : Int)) Y a _ ?_)
   exact ⟨⟨vU, (.ptr 3 0), (hU1 (grpC (tN k) (1000 - ((k + 1 : Nat) : Int)))), IntKind.i64.wrap (level + 1), loop, k, by kernel_rfl, .ug (tN k) (1000 - ((k + 1 : Nat) : Int)), by omega, by rw [hw]; omega, by rw [hw]; omega⟩, fun _ _ => rfl⟩
theorem ok46 : ∀ (m : Nat) {T : Tab}, Ok T → Ok (T.addC 46 (C46 m)) := by
 intro m
 induction m using Nat.strongRecOn with
 | ind m ih =>
  intro T O
  refine addC_ok O fun args h s hs hp => ?_
  unfold C46 at hs
  split at hs
  ·cases hs
   obtain ⟨v, u, h', level, loop, hi, c⟩ := hp
   obtain ⟨n, e⟩ := imp_call (by kernel_rfl) (by kernel_rfl) (by kernel_rfl) hi (vis0 level loop c)
   exact ⟨_, List.mem_singleton.2 rfl, (), n, trivial, e⟩
  ·cases hs
   obtain ⟨v, u, h', level, loop, k, hi, c, hk, h0, hl⟩ := hp
   obtain ⟨n, e⟩ := imp_call (by kernel_rfl) (by kernel_rfl) (by kernel_rfl) hi (vis1 k (ih k hk okX) level loop c h0 hl)
   exact ⟨_, List.mem_singleton.2 rfl, (), n, trivial, e⟩
  ·cases hs
theorem sta0 (level : Int) (loop : Bool) {v u : AV} {h : Heap} (c : CanE v u h) : EvC cfgI Tryz.prog 47 [v, nilA, wA level loop, u] h fun r _ => r = bA true := by
 cases c with
 | se Y => exact call_okW okX 60 47 _ _ _ (yse level loop Y _ rfl)
 | ne R Y => exact call_okW okX 60 47 _ _ _ (yne level loop R Y _ rfl)
 | ue Y => exact call_okW okX 60 47 _ _ _ (yue level loop Y _ rfl)
theorem sta1 (k b : Nat) (O : Ok (T47 b)) (level : Int) (loop : Bool) {v u : AV} {h : Heap} (c : CanS v u h) (h0 : 0 ≤ level) (hl : level + k + b + 1 ≤ 32) : EvC cfgI Tryz.prog 47 [v, .sl [tS (tN k) b] 0, wA level loop, u] h fun r _ => r = bA true := by
 have hw := wrap1 h0 (by omega)
 cases b with
 | zero =>
  cases c with
  | s0 =>
   refine call_okW O 60 47 _ _ _ (es0 0 level loop (tN k) _ ?_)
   refine iteP_intro (fun e => ?_) (fun e => ?_)
   ·rw [decide_eq_false (by omega), iteP_f]
    exact ⟨⟨vS, nilP, hS0, IntKind.i64.wrap (level + 1), true, k, by kernel_rfl, .s0, by omega, by rw [hw]; omega, by rw [hw]; omega⟩, fun _ _ => ⟨⟨vS, nilP, hS0, IntKind.i64.wrap (level + 1), true, by kernel_rfl, .of .s0⟩, fun _ _ => ⟨⟨vS, fnA 56 [.ptr 2 0], (hS1 (exprC (tN k))), IntKind.i64.wrap (level + 1), true, by kernel_rfl, .se (tN k)⟩, fun _ _ => rfl⟩⟩⟩
   ·rw [decide_eq_false (by omega), iteP_f]
    exact ⟨⟨vS, nilP, hS0, IntKind.i64.wrap (level + 1), false, k, by kernel_rfl, .s0, by omega, by rw [hw]; omega, by rw [hw]; omega⟩, fun _ _ => ⟨⟨vS, nilP, hS0, IntKind.i64.wrap (level + 1), false, by kernel_rfl, .of .s0⟩, fun _ _ => ⟨⟨vS, fnA 56 [.ptr 2 0], (hS1 (exprC (tN k))), IntKind.i64.wrap (level + 1), false, by kernel_rfl, .se (tN k)⟩, fun _ _ => rfl⟩⟩⟩
  | sb Y a =>
   refine call_okW O 60 47 _ _ _ (esb 0 level loop (tN k) Y a _ ?_)
   refine iteP_intro (fun e => ?_) (fun e => ?_)
   ·rw [decide_eq_false (by omega), iteP_f]
    exact ⟨⟨vS, nilP, hS0, IntKind.i64.wrap (level + 1), true, k, by kernel_rfl, .s0, by omega, by rw [hw]; omega, by rw [hw]; omega⟩, fun _ _ => ⟨⟨vS, nilP, hS0, IntKind.i64.wrap (level + 1), true, by kernel_rfl, .of .s0⟩, fun _ _ => ⟨⟨vS, fnA 56 [.ptr 2 0], (hS1 (exprC (tN k))), IntKind.i64.wrap (level + 1), true, by kernel_rfl, .se (tN k)⟩, fun _ _ => rfl⟩⟩⟩
   ·rw [decide_eq_false (by omega), iteP_f]
    exact ⟨⟨vS, nilP, hS0, IntKind.i64.wrap (level + 1), false, k, by kernel_rfl, .s0, by omega, by rw [hw]; omega, by rw [hw]; omega⟩, fun _ _ => ⟨⟨vS, nilP, hS0, IntKind.i64.wrap (level + 1), false, by kernel_rfl, .of .s0⟩, fun _ _ => ⟨⟨vS, fnA 56 [.ptr 2 0], (hS1 (exprC (tN k))), IntKind.i64.wrap (level + 1), false, by kernel_rfl, .se (tN k)⟩, fun _ _ => rfl⟩⟩⟩
  | n0 R =>
   refine call_okW O 60 47 _ _ _ (en0 0 level loop (tN k) R _ ?_)
   refine iteP_intro (fun e => ?_) (fun e => ?_)
   ·exact ⟨⟨vN, nilP, (hN0 R), IntKind.i64.wrap (level + 1), true, k, by kernel_rfl, (.n0 R), by omega, by rw [hw]; omega, by rw [hw]; omega⟩, fun _ _ => ⟨⟨vN, nilP, (hN0 R), IntKind.i64.wrap (level + 1), true, by kernel_rfl, .of (.n0 R)⟩, fun _ _ => ⟨⟨vN, fnA 56 [.ptr 6 0], (hN1 R (exprC (tN k))), IntKind.i64.wrap (level + 1), true, by kernel_rfl, .ne R (tN k)⟩, fun _ _ => rfl⟩⟩⟩
   ·exact ⟨⟨vN, nilP, (hN0 R), IntKind.i64.wrap (level + 1), false, k, by kernel_rfl, (.n0 R), by omega, by rw [hw]; omega, by rw [hw]; omega⟩, fun _ _ => ⟨⟨vN, nilP, (hN0 R), IntKind.i64.wrap (level + 1), false, by kernel_rfl, .of (.n0 R)⟩, fun _ _ => ⟨⟨vN, fnA 56 [.ptr 6 0], (hN1 R (exprC (tN k))), IntKind.i64.wrap (level + 1), false, by kernel_rfl, .ne R (tN k)⟩, fun _ _ => rfl⟩⟩⟩
  | nb R Y a =>
   refine call_okW O 60 47 _ _ _ (enb 0 level loop (tN k) R Y a _ ?_)
   refine iteP_intro (fun e => ?_) (fun e => ?_)
   ·exact ⟨⟨vN, nilP, (hN0 R), IntKind.i64.wrap (level + 1), true, k, by kernel_rfl, (.n0 R), by omega, by rw [hw]; omega, by rw [hw]; omega⟩, fun _ _ => ⟨⟨vN, nilP, (hN0 R), IntKind.i64.wrap (level + 1), true, by kernel_rfl, .of (.n0 R)⟩, fun _ _ => ⟨⟨vN, fnA 56 [.ptr 6 0], (hN1 R (exprC (tN k))), IntKind.i64.wrap (level + 1), true, by kernel_rfl, .ne R (tN k)⟩, fun _ _ => rfl⟩⟩⟩
   ·exact ⟨⟨vN, nilP, (hN0 R), IntKind.i64.wrap (level + 1), false, k, by kernel_rfl, (.n0 R), by omega, by rw [hw]; omega, by rw [hw]; omega⟩, fun _ _ => ⟨⟨vN, nilP, (hN0 R), IntKind.i64.wrap (level + 1), false, by kernel_rfl, .of (.n0 R)⟩, fun _ _ => ⟨⟨vN, fnA 56 [.ptr 6 0], (hN1 R (exprC (tN k))), IntKind.i64.wrap (level + 1), false, by kernel_rfl, .ne R (tN k)⟩, fun _ _ => rfl⟩⟩⟩
  | u0 =>
   refine call_okW O 60 47 _ _ _ (eu0 0 level loop (tN k) _ ?_)
   refine iteP_intro (fun e => ?_) (fun e => ?_)
   ·exact ⟨⟨vU, nilP, hU0, IntKind.i64.wrap (level + 1), true, k, by kernel_rfl, .u0, by omega, by rw [hw]; omega, by rw [hw]; omega⟩, fun _ _ => ⟨⟨vU, nilP, hU0, IntKind.i64.wrap (level + 1), true, by kernel_rfl, .of .u0⟩, fun _ _ => ⟨⟨vU, fnA 56 [.ptr 3 0], (hU1 (exprC (tN k))), IntKind.i64.wrap (level + 1), true, by kernel_rfl, .ue (tN k)⟩, fun _ _ => rfl⟩⟩⟩
   ·exact ⟨⟨vU, nilP, hU0, IntKind.i64.wrap (level + 1), false, k, by kernel_rfl, .u0, by omega, by rw [hw]; omega, by rw [hw]; omega⟩, fun _ _ => ⟨⟨vU, nilP, hU0, IntKind.i64.wrap (level + 1), false, by kernel_rfl, .of .u0⟩, fun _ _ => ⟨⟨vU, fnA 56 [.ptr 3 0], (hU1 (exprC (tN k))), IntKind.i64.wrap (level + 1), false, by kernel_rfl, .ue (tN k)⟩, fun _ _ => rfl⟩⟩⟩
  | ub Y a =>
   refine call_okW O 60 47 _ _ _ (eub 0 level loop (tN k) Y a _ ?_)
   refine iteP_intro (fun e => ?_) (fun e => ?_)
   ·exact ⟨⟨vU, nilP, hU0, IntKind.i64.wrap (level + 1), true, k, by kernel_rfl, .u0, by omega, by rw [hw]; omega, by rw [hw]; omega⟩, fun _ _ => ⟨⟨vU, nilP, hU0, IntKind.i64.wrap (level + 1), true, by kernel_rfl, .of .u0⟩, fun _ _ => ⟨⟨vU, fnA 56 [.ptr 3 0], (hU1 (exprC (tN k))), IntKind.i64.wrap (level + 1), true, by kernel_rfl, .ue (tN k)⟩, fun _ _ => rfl⟩⟩⟩
   ·exact ⟨⟨vU, nilP, hU0, IntKind.i64.wrap (level + 1), false, k, by kernel_rfl, .u0, by omega, by rw [hw]; omega, by rw [hw]; omega⟩, fun _ _ => ⟨⟨vU, nilP, hU0, IntKind.i64.wrap (level + 1), false, by kernel_rfl, .of .u0⟩, fun _ _ => ⟨⟨vU, fnA 56 [.ptr 3 0], (hU1 (exprC (tN k))), IntKind.i64.wrap (level + 1), false, by kernel_rfl, .ue (tN k)⟩, fun _ _ => rfl⟩⟩⟩
 | succ b =>
  cases c with
  | s0 =>
   refine call_okW O 60 47 _ _ _ (bs0 (b + 1) level loop (tS (tN k) b) (499 - (b : Int)) _ ?_)
   refine iteP_intro (fun e => ?_) (fun e => ?_)
   ·rw [decide_eq_false (by omega), iteP_f]
    exact ⟨⟨vS, nilP, hS0, IntKind.i64.wrap (level + 1), true, by kernel_rfl, .of .s0⟩, fun _ _ => ⟨⟨vS, nilP, hS0, IntKind.i64.wrap (level + 1), true, by kernel_rfl, .of .s0⟩, fun _ _ => ⟨⟨vS, fnA 56 [.ptr 2 0], (hS1 (blkC (tS (tN k) b) (499 - (b : Int)))), IntKind.i64.wrap (level + 1), true, k, b, by kernel_rfl, .sb (tS (tN k) b) (499 - (b : Int)), by omega, by rw [hw]; omega, by rw [hw]; omega⟩, fun _ _ => rfl⟩⟩⟩
   ·rw [decide_eq_false (by omega), iteP_f]
    exact ⟨⟨vS, nilP, hS0, IntKind.i64.wrap (level + 1), false, by kernel_rfl, .of .s0⟩, fun _ _ => ⟨⟨vS, nilP, hS0, IntKind.i64.wrap (level + 1), false, by kernel_rfl, .of .s0⟩, fun _ _ => ⟨⟨vS, fnA 56 [.ptr 2 0], (hS1 (blkC (tS (tN k) b) (499 - (b : Int)))), IntKind.i64.wrap (level + 1), false, k, b, by kernel_rfl, .sb (tS (tN k) b) (499 - (b : Int)), by omega, by rw [hw]; omega, by rw [hw]; omega⟩, fun _ _ => rfl⟩⟩⟩
  | sb Y a =>
   refine call_okW O 60 47 _ _ _ (bsb (b + 1) level loop (tS (tN k) b) (499 - (b : Int)) Y a _ ?_)
   refine iteP_intro (fun e => ?_) (fun e => ?_)
   ·rw [decide_eq_false (by omega), iteP_f]
    exact ⟨⟨vS, nilP, hS0, IntKind.i64.wrap (level + 1), true, by kernel_rfl, .of .s0⟩, fun _ _ => ⟨⟨vS, nilP, hS0, IntKind.i64.wrap (level + 1), true, by kernel_rfl, .of .s0⟩, fun _ _ => ⟨⟨vS, fnA 56 [.ptr 2 0], (hS1 (blkC (tS (tN k) b) (499 - (b : Int)))), IntKind.i64.wrap (level + 1), true, k, b, by kernel_rfl, .sb (tS (tN k) b) (499 - (b : Int)), by omega, by rw [hw]; omega, by rw [hw]; omega⟩, fun _ _ => rfl⟩⟩⟩
   ·rw [decide_eq_false (by omega), iteP_f]
    exact ⟨⟨vS, nilP, hS0, IntKind.i64.wrap (level + 1), false, by kernel_rfl, .of .s0⟩, fun _ _ => ⟨⟨vS, nilP, hS0, IntKind.i64.wrap (level + 1), false, by kernel_rfl, .of .s0⟩, fun _ _ => ⟨⟨vS, fnA 56 [.ptr 2 0], (hS1 (blkC (tS (tN k) b) (499 - (b : Int)))), IntKind.i64.wrap (level + 1), false, k, b, by kernel_rfl, .sb (tS (tN k) b) (499 - (b : Int)), by omega, by rw [hw]; omega, by rw [hw]; omega⟩, fun _ _ => rfl⟩⟩⟩
  | n0 R =>
   refine call_okW O 60 47 _ _ _ (bn0 (b + 1) level loop (tS (tN k) b) (499 - (b : Int)) R _ ?_)
   refine iteP_intro (fun e => ?_) (fun e => ?_)
   ·exact ⟨⟨vN, nilP, (hN0 R), IntKind.i64.wrap (level + 1), true, by kernel_rfl, .of (.n0 R)⟩, fun _ _ => ⟨⟨vN, nilP, (hN0 R), IntKind.i64.wrap (level + 1), true, by kernel_rfl, .of (.n0 R)⟩, fun _ _ => ⟨⟨vN, fnA 56 [.ptr 6 0], (hN1 R (blkC (tS (tN k) b) (499 - (b : Int)))), IntKind.i64.wrap (level + 1), true, k, b, by kernel_rfl, .nb R (tS (tN k) b) (499 - (b : Int)), by omega, by rw [hw]; omega, by rw [hw]; omega⟩, fun _ _ => rfl⟩⟩⟩
   ·exact ⟨⟨vN, nilP, (hN0 R), IntKind.i64.wrap (level + 1), false, by kernel_rfl, .of (.n0 R)⟩, fun _ _ => ⟨⟨vN, nilP, (hN0 R), IntKind.i64.wrap (level + 1), false, by kernel_rfl, .of (.n0 R)⟩, fun _ _ => ⟨⟨vN, fnA 56 [.ptr 6 0], (hN1 R (blkC (tS (tN k) b) (499 - (b : Int)))), IntKind.i64.wrap (level + 1), false, k, b, by kernel_rfl, .nb R (tS (tN k) b) (499 - (b : Int)), by omega, by rw [hw]; omega, by rw [hw]; omega⟩, fun _ _ => rfl⟩⟩⟩
  | nb R Y a =>
   refine call_okW O 60 47 _ _ _ (bnb (b + 1) level loop (tS (tN k) b) (499 - (b : Int)) R Y a _ ?_)
   refine iteP_intro (fun e => ?_) (fun e => ?_)
   ·exact ⟨⟨vN, nilP, (hN0 R), IntKind.i64.wrap (level + 1), true, by kernel_rfl, .of (.n0 R)⟩, fun _ _ => ⟨⟨vN, nilP, (hN0 R), IntKind.i64.wrap (level + 1), true, by kernel_rfl, .of (.n0 R)⟩, fun _ _ => ⟨⟨vN, fnA 56 [.ptr 6 0], (hN1 R (blkC (tS (tN k) b) (499 - (b : Int)))), IntKind.i64.wrap (level + 1), true, k, b, by kernel_rfl, .nb R (tS (tN k) b) (499 - (b : Int)), by omega, by rw [hw]; omega, by rw [hw]; omega⟩, fun _ _ => rfl⟩⟩⟩
   ·exact ⟨⟨vN, nilP, (hN0 R), IntKind.i64.wrap (level + 1), false, by kernel_rfl, .of (.n0 R)⟩, fun _ _ => ⟨⟨vN, nilP, (hN0 R), IntKind.i64.wrap (level + 1), false, by kernel_rfl, .of (.n0 R)⟩, fun _ _ => ⟨⟨vN, fnA 56 [.ptr 6 0], (hN1 R (blkC (tS (tN k) b) (499 - (b : Int)))), IntKind.i64.wrap (level + 1), false, k, b, by kernel_rfl, .nb R (tS (tN k) b) (499 - (b : Int)), by omega, by rw [hw]; omega, by rw [hw]; omega⟩, fun _ _ => rfl⟩⟩⟩
  | u0 =>
   refine call_okW O 60 47 _ _ _ (bu0 (b + 1) level loop (tS (tN k) b) (499 - (b : Int)) _ ?_)
   refine iteP_intro (fun e => ?_) (fun e => ?_)
   ·exact ⟨⟨vU, nilP, hU0, IntKind.i64.wrap (level + 1), true, by kernel_rfl, .of .u0⟩, fun _ _ => ⟨⟨vU, nilP, hU0, IntKind.i64.wrap (level + 1), true, by kernel_rfl, .of .u0⟩, fun _ _ => ⟨⟨vU, fnA 56 [.ptr 3 0], (hU1 (blkC (tS (tN k) b) (499 - (b : Int)))), IntKind.i64.wrap (level + 1), true, k, b, by kernel_rfl, .ub (tS (tN k) b) (499 - (b : Int)), by omega, by rw [hw]; omega, by rw [hw]; omega⟩, fun _ _ => rfl⟩⟩⟩
   ·exact ⟨⟨vU, nilP, hU0, IntKind.i64.wrap (level + 1), false, by kernel_rfl, .of .u0⟩, fun _ _ => ⟨⟨vU, nilP, hU0, IntKind.i64.wrap (level + 1), false, by kernel_rfl, .of .u0⟩, fun _ _ => ⟨⟨vU, fnA 56 [.ptr 3 0], (hU1 (blkC (tS (tN k) b) (499 - (b : Int)))), IntKind.i64.wrap (level + 1), false, k, b, by kernel_rfl, .ub (tS (tN k) b) (499 - (b : Int)), by omega, by rw [hw]; omega, by rw [hw]; omega⟩, fun _ _ => rfl⟩⟩⟩
  | ub Y a =>
   refine call_okW O 60 47 _ _ _ (bub (b + 1) level loop (tS (tN k) b) (499 - (b : Int)) Y a _ ?_)
   refine iteP_intro (fun e => ?_) (fun e => ?_)
   ·exact ⟨⟨vU, nilP, hU0, IntKind.i64.wrap (level + 1), true, by kernel_rfl, .of .u0⟩, fun _ _ => ⟨⟨vU, nilP, hU0, IntKind.i64.wrap (level + 1), true, by kernel_rfl, .of .u0⟩, fun _ _ => ⟨⟨vU, fnA 56 [.ptr 3 0], (hU1 (blkC (tS (tN k) b) (499 - (b : Int)))), IntKind.i64.wrap (level + 1), true, k, b, by kernel_rfl, .ub (tS (tN k) b) (499 - (b : Int)), by omega, by rw [hw]; omega, by rw [hw]; omega⟩, fun _ _ => rfl⟩⟩⟩
   ·exact ⟨⟨vU, nilP, hU0, IntKind.i64.wrap (level + 1), false, by kernel_rfl, .of .u0⟩, fun _ _ => ⟨⟨vU, nilP, hU0, IntKind.i64.wrap (level + 1), false, by kernel_rfl, .of .u0⟩, fun _ _ => ⟨⟨vU, fnA 56 [.ptr 3 0], (hU1 (blkC (tS (tN k) b) (499 - (b : Int)))), IntKind.i64.wrap (level + 1), false, k, b, by kernel_rfl, .ub (tS (tN k) b) (499 - (b : Int)), by omega, by rw [hw]; omega, by rw [hw]; omega⟩, fun _ _ => rfl⟩⟩⟩
theorem ok47 : ∀ (m : Nat) {T : Tab}, Ok T → Ok (T.addC 47 (C47 m)) := by
 intro m
 induction m using Nat.strongRecOn with
 | ind m ih =>
  intro T O
  refine addC_ok O fun args h s hs hp => ?_
  unfold C47 at hs
  split at hs
  ·cases hs
   obtain ⟨v, u, h', level, loop, hi, c⟩ := hp
   obtain ⟨n, e⟩ := imp_call (by kernel_rfl) (by kernel_rfl) (by kernel_rfl) hi (sta0 level loop c)
   exact ⟨_, List.mem_singleton.2 rfl, (), n, trivial, e⟩
  ·cases hs
   obtain ⟨v, u, h', level, loop, k, b, hi, c, hb, h0, hl⟩ := hp
   obtain ⟨n, e⟩ := imp_call (by kernel_rfl) (by kernel_rfl) (by kernel_rfl) hi (sta1 k b (ih b hb (ok46 100 okX)) level loop c h0 hl)
   exact ⟨_, List.mem_singleton.2 rfl, (), n, trivial, e⟩
  ·cases hs
end
end Go.Proofs.Sc
namespace Go.Proofs.Sc
open Go Go.Ef
noncomputable section
set_option maxRecDepth 100000
abbrev OkE (T : Tab) : Prop := TabOk Tryz.prog cfg T
theorem okXE : OkE tabX := ⟨fun _ _ _ _ _ ht => (by cases ht), fun _ _ _ _ _ ht => (by cases ht)⟩
theorem wr {x : Int} (h0 : -10000 ≤ x) (h1 : x ≤ 10000) : IntKind.i64.wrap x = x := wrap_in (by omega) (by omega)
theorem loop1E (n : Nat) (b : Int) (hn : n ≤ 100) : ∀ (f k : Nat), n - (k + 1) = f → k + 1 ≤ n → Ev cfg Tryz.prog 3 (.loop (loopAt Tryz.prog 3 6)) (I1 n b ((k + 1 : Nat) : Int) (tN k)) fun e τ => e = .exit 0 ∧ τ = E1 n b (tN (n - 1)) := by
 have can : ∀ (i : Int) (X : List AV), (I1 n b i X).tidy [0, 1, 5, 6] 1 = I1 n b i X := fun i X => by kernel_rfl
 intro f
 induction f with
 | zero =>
  intro k hf hk
  have hk : k + 1 = n := by omega
  have out : ∀ e τ, q1 n b (tN k) True e τ → e = .exit 0 ∧ τ = E1 n b (tN (n - 1)) := by
   intro e τ h
   unfold q1 at h
   split at h
   ·refine ⟨h.1, ?_⟩
    rw [h.2.1, ← hk]; rfl
   ·exact h.elim
  cases k with
  | zero =>
   refine Ev.round (t := ⟨[0, 1, 5, 6], [0, 1, 5], 1⟩) okXE (by kernel_rfl) rfl (can _ _) (r1nE n b _ (fun _ _ => False) True ?_) (fun τ h => h.2.elim) out
   rw [decide_eq_false (by omega), iteP_f]
   exact ⟨rfl, rfl, trivial⟩
  | succ k =>
   refine Ev.round (t := ⟨[0, 1, 5, 6], [0, 1, 5], 1⟩) okXE (by kernel_rfl) rfl (can _ _) (r1gE n b _ (tN k) (1000 - ((k + 1 : Nat) : Int)) (fun _ _ => False) True ?_) (fun τ h => h.2.elim) out
   rw [decide_eq_false (by omega), iteP_f]
   exact ⟨rfl, rfl, trivial⟩
 | succ f ih =>
  intro k hf hk
  have hw : IntKind.i64.wrap (((k + 1 : Nat) : Int) + 1) = ((k + 1 + 1 : Nat) : Int) := by rw [wr (by omega) (by omega)]; rfl
  have hw2 : IntKind.i64.wrap (1000 - ((k + 1 : Nat) : Int)) = 1000 - ((k + 1 : Nat) : Int) := wr (by omega) (by omega)
  have out : ∀ e τ, q1 n b (tN k) False e τ → e = .exit 0 ∧ τ = E1 n b (tN (n - 1)) := by
   intro e τ h
   unfold q1 at h
   split at h
   ·exact h.2.2.elim
   ·exact h.elim
  have next : ∀ τ : St, τ = I1 n b (slI τ 6) (locC τ 0) ∧ (locC τ 0 = tN (k + 1) ∧ slI τ 6 = ((k + 1 + 1 : Nat) : Int)) → Ev cfg Tryz.prog 3 (.loop (loopAt Tryz.prog 3 6)) τ fun e τ => e = .exit 0 ∧ τ = E1 n b (tN (n - 1)) := by
   rintro τ ⟨h1, h2, h3⟩
   rw [h2, h3] at h1
   rw [h1]
   exact ih (k + 1) (by omega) (by omega)
  cases k with
  | zero =>
   refine Ev.round (t := ⟨[0, 1, 5, 6], [0, 1, 5], 1⟩) okXE (by kernel_rfl) rfl (can _ _) (r1nE n b _ (fun X j => X = tN 1 ∧ j = 2) False ?_) next out
   rw [decide_eq_true (by omega), iteP_t]
   refine ⟨rfl, ?_, hw⟩
   rw [hw2]; rfl
  | succ k =>
   refine Ev.round (t := ⟨[0, 1, 5, 6], [0, 1, 5], 1⟩) okXE (by kernel_rfl) rfl (can _ _) (r1gE n b _ (tN k) (1000 - ((k + 1 : Nat) : Int)) (fun X j => X = tN (k + 1 + 1) ∧ j = ((k + 1 + 1 + 1 : Nat) : Int)) False ?_) next out
   rw [decide_eq_true (by omega), iteP_t]
   refine ⟨rfl, ?_, hw⟩
   rw [hw2]; rfl
theorem loop2E (n : Int) (b : Nat) (hb : b ≤ 100) (X : List AV) (hX : X = numC ∨ ∃ Y a, X = grpC Y a) : ∀ (f k : Nat), b - k = f → k ≤ b → Ev cfg Tryz.prog 3 (.loop (loopAt Tryz.prog 3 11)) (I2 n b (k : Int) X (tS X k)) fun e τ => e = .exit 2 ∧ τ = E2 n b X (tS X b) := by
 have can : ∀ (i : Int) (X S : List AV), (I2 n b i X S).tidy [0, 1, 7, 8] 2 = I2 n b i X S := fun i X S => by kernel_rfl
 intro f
 induction f with
 | zero =>
  intro k hf hk
  have hk : k = b := by omega
  have out : ∀ e τ, q2 n b X (tS X k) True e τ → e = .exit 2 ∧ τ = E2 n b X (tS X b) := by
   intro e τ h
   unfold q2 at h
   split at h
   ·refine ⟨h.1, ?_⟩
    rw [h.2.1, hk]
   ·exact h.elim
  have hd : decide ((k : Int) < (b : Int)) = false := decide_eq_false (by omega)
  rcases hX with rfl | ⟨Y, a, rfl⟩
  ·cases k with
   | zero =>
    refine Ev.round (t := ⟨[0, 1, 7, 8], [0, 1, 7], 2⟩) okXE (by kernel_rfl) rfl (can _ _ _) (r2neE n b _ numC (fun _ _ => False) True ?_) (fun τ h => h.2.elim) out
    rw [hd, iteP_f]
    exact ⟨rfl, rfl, trivial⟩
   | succ k =>
    refine Ev.round (t := ⟨[0, 1, 7, 8], [0, 1, 7], 2⟩) okXE (by kernel_rfl) rfl (can _ _ _) (r2nbE n b _ (tS numC k) (499 - (k : Int)) (fun _ _ => False) True ?_) (fun τ h => h.2.elim) out
    rw [hd, iteP_f]
    exact ⟨rfl, rfl, trivial⟩
  ·cases k with
   | zero =>
    refine Ev.round (t := ⟨[0, 1, 7, 8], [0, 1, 7], 2⟩) okXE (by kernel_rfl) rfl (can _ _ _) (r2geE n b _ Y a (grpC Y a) (fun _ _ => False) True ?_) (fun τ h => h.2.elim) out
    rw [hd, iteP_f]
    exact ⟨rfl, rfl, trivial⟩
   | succ k =>
    refine Ev.round (t := ⟨[0, 1, 7, 8], [0, 1, 7], 2⟩) okXE (by kernel_rfl) rfl (can _ _ _) (r2gbE n b _ Y a (tS (grpC Y a) k) (499 - (k : Int)) (fun _ _ => False) True ?_) (fun τ h => h.2.elim) out
    rw [hd, iteP_f]
    exact ⟨rfl, rfl, trivial⟩
 | succ f ih =>
  intro k hf hk
  have hw : IntKind.i64.wrap ((k : Int) + 1) = ((k + 1 : Nat) : Int) := by rw [wr (by omega) (by omega)]; rfl
  have hw2 : IntKind.i64.wrap (499 - (k : Int)) = 499 - (k : Int) := wr (by omega) (by omega)
  have hd : decide ((k : Int) < (b : Int)) = true := decide_eq_true (by omega)
  have out : ∀ e τ, q2 n b X (tS X k) False e τ → e = .exit 2 ∧ τ = E2 n b X (tS X b) := by
   intro e τ h
   unfold q2 at h
   split at h
   ·exact h.2.2.elim
   ·exact h.elim
  have next : ∀ τ : St, τ = I2 n b (slI τ 8) X (locC τ 1) ∧ (locC τ 1 = tS X (k + 1) ∧ slI τ 8 = ((k + 1 : Nat) : Int)) → Ev cfg Tryz.prog 3 (.loop (loopAt Tryz.prog 3 11)) τ fun e τ => e = .exit 2 ∧ τ = E2 n b X (tS X b) := by
   rintro τ ⟨h1, h2, h3⟩
   rw [h2, h3] at h1
   rw [h1]
   exact ih (k + 1) (by omega) (by omega)
  rcases hX with rfl | ⟨Y, a, rfl⟩
  ·cases k with
   | zero =>
    refine Ev.round (t := ⟨[0, 1, 7, 8], [0, 1, 7], 2⟩) okXE (by kernel_rfl) rfl (can _ _ _) (r2neE n b _ numC (fun S j => S = tS numC 1 ∧ j = 1) False ?_) next out
    rw [hd, iteP_t]
    refine ⟨rfl, ?_, hw⟩
    rw [hw2]; rfl
   | succ k =>
    refine Ev.round (t := ⟨[0, 1, 7, 8], [0, 1, 7], 2⟩) okXE (by kernel_rfl) rfl (can _ _ _) (r2nbE n b _ (tS numC k) (499 - (k : Int)) (fun S j => S = tS numC (k + 1 + 1) ∧ j = ((k + 1 + 1 : Nat) : Int)) False ?_) next out
    rw [hd, iteP_t]
    refine ⟨rfl, ?_, hw⟩
    rw [hw2]; rfl
  ·cases k with
   | zero =>
    refine Ev.round (t := ⟨[0, 1, 7, 8], [0, 1, 7], 2⟩) okXE (by kernel_rfl) rfl (can _ _ _) (r2geE n b _ Y a (grpC Y a) (fun S j => S = tS (grpC Y a) 1 ∧ j = 1) False ?_) next out
    rw [hd, iteP_t]
    refine ⟨rfl, ?_, hw⟩
    rw [hw2]; rfl
   | succ k =>
    refine Ev.round (t := ⟨[0, 1, 7, 8], [0, 1, 7], 2⟩) okXE (by kernel_rfl) rfl (can _ _ _) (r2gbE n b _ Y a (tS (grpC Y a) k) (499 - (k : Int)) (fun S j => S = tS (grpC Y a) (k + 1 + 1) ∧ j = ((k + 1 + 1 : Nat) : Int)) False ?_) next out
    rw [hd, iteP_t]
    refine ⟨rfl, ?_, hw⟩
    rw [hw2]; rfl
theorem okL1E {T : Tab} (O : OkE T) : OkE (T.addL 3 6 L1) := by
 refine addL_ok O fun σ s hs hp => ?_
 cases hs
 obtain ⟨e, h1, h2⟩ := hp
 obtain ⟨n, hn⟩ : ∃ n : Nat, slI σ 0 = n := ⟨(slI σ 0).toNat, by omega⟩
 rw [hn] at e h1 h2
 have he : Ev cfg Tryz.prog 3 (.loop (loopAt Tryz.prog 3 6)) σ fun e τ => e = .exit 0 ∧ τ = E1 n (slI σ 1) (tN (n - 1)) := by
  refine Ev.tidied (t := ⟨[0, 1, 5, 6], [0, 1, 5], 1⟩) (τ := I1 n (slI σ 1) ((0 + 1 : Nat) : Int) (tN 0)) (by kernel_rfl) (by rw [e]; kernel_rfl) ?_
  exact loop1E n (slI σ 1) (by omega) _ 0 rfl (by omega)
 obtain ⟨m, ex, τ, h6, rfl, rfl⟩ := he
 by_cases h : n = 1
 ·refine ⟨_, List.mem_cons_self .., (), ⟨by rw [hn, h]; rfl⟩, m, ?_⟩
  show evCode _ _ _ _ _ _ = some (.exit 0, E1 (slI σ 0) (slI σ 1) numC)
  rw [h6, hn, h]; rfl
 ·obtain ⟨k, rfl⟩ : ∃ k, n = k + 2 := ⟨n - 2, by omega⟩
  refine ⟨_, List.mem_cons_of_mem _ (List.mem_cons_self ..), (tN k, 1000 - ((k + 1 : Nat) : Int)), ⟨by rw [hn]; rfl⟩, m, ?_⟩
  show evCode _ _ _ _ _ _ = some (.exit 0, E1 (slI σ 0) (slI σ 1) (grpC (tN k) (1000 - ((k + 1 : Nat) : Int))))
  rw [h6, hn]; rfl
theorem okL2E {T : Tab} (O : OkE T) : OkE (T.addL 3 11 L2) := by
 refine addL_ok O fun σ s hs hp => ?_
 cases hs
 obtain ⟨e, h1, h2, h3, hX⟩ := hp
 obtain ⟨b, hb⟩ : ∃ b : Nat, slI σ 1 = b := ⟨(slI σ 1).toNat, by omega⟩
 rw [hb] at e h1 h2
 have he : Ev cfg Tryz.prog 3 (.loop (loopAt Tryz.prog 3 11)) σ fun e τ => e = .exit 2 ∧ τ = E2 (slI σ 0) b (locC σ 0) (tS (locC σ 0) b) := by
  refine Ev.tidied (t := ⟨[0, 1, 7, 8], [0, 1, 7], 2⟩) (τ := I2 (slI σ 0) b ((0 : Nat) : Int) (locC σ 0) (tS (locC σ 0) 0)) (by kernel_rfl) (by rw [e, h3]; kernel_rfl) ?_
  exact loop2E (slI σ 0) b (by omega) (locC σ 0) hX _ 0 rfl (by omega)
 obtain ⟨m, ex, τ, h6, rfl, rfl⟩ := he
 cases b with
 | zero =>
  refine ⟨_, List.mem_cons_self .., (), ⟨hb⟩, m, ?_⟩
  show evCode _ _ _ _ _ _ = some (.exit 2, E2 (slI σ 0) (slI σ 1) (locC σ 0) (locC σ 1))
  rw [h6, hb, h3]; rfl
 | succ k =>
  refine ⟨_, List.mem_cons_of_mem _ (List.mem_cons_self ..), (tS (locC σ 0) k, 499 - (k : Int)), ⟨by rw [hb]; rfl⟩, m, ?_⟩
  show evCode _ _ _ _ _ _ = some (.exit 2, E2 (slI σ 0) (slI σ 1) (locC σ 0) (blkC (tS (locC σ 0) k) (499 - (k : Int))))
  rw [h6, hb]; rfl
theorem loop1I (n : Nat) (b : Int) (hn : n ≤ 100) : ∀ (f k : Nat), n - (k + 1) = f → k + 1 ≤ n → Ev cfgI Tryz.prog 3 (.loop (loopAt Tryz.prog 3 6)) (I1 n b ((k + 1 : Nat) : Int) (tN k)) fun e τ => e = .exit 0 ∧ τ = E1 n b (tN (n - 1)) := by
 have can : ∀ (i : Int) (X : List AV), (I1 n b i X).tidy [0, 1, 5, 6] 1 = I1 n b i X := fun i X => by kernel_rfl
 intro f
 induction f with
 | zero =>
  intro k hf hk
  have hk : k + 1 = n := by omega
  have out : ∀ e τ, q1 n b (tN k) True e τ → e = .exit 0 ∧ τ = E1 n b (tN (n - 1)) := by
   intro e τ h
   unfold q1 at h
   split at h
   ·refine ⟨h.1, ?_⟩
    rw [h.2.1, ← hk]; rfl
   ·exact h.elim
  cases k with
  | zero =>
   refine Ev.round (t := ⟨[0, 1, 5, 6], [0, 1, 5], 1⟩) okX (by kernel_rfl) rfl (can _ _) (r1nI n b _ (fun _ _ => False) True ?_) (fun τ h => h.2.elim) out
   rw [decide_eq_false (by omega), iteP_f]
   exact ⟨rfl, rfl, trivial⟩
  | succ k =>
   refine Ev.round (t := ⟨[0, 1, 5, 6], [0, 1, 5], 1⟩) okX (by kernel_rfl) rfl (can _ _) (r1gI n b _ (tN k) (1000 - ((k + 1 : Nat) : Int)) (fun _ _ => False) True ?_) (fun τ h => h.2.elim) out
   rw [decide_eq_false (by omega), iteP_f]
   exact ⟨rfl, rfl, trivial⟩
 | succ f ih =>
  intro k hf hk
  have hw : IntKind.i64.wrap (((k + 1 : Nat) : Int) + 1) = ((k + 1 + 1 : Nat) : Int) := by rw [wr (by omega) (by omega)]; rfl
  have hw2 : IntKind.i64.wrap (1000 - ((k + 1 : Nat) : Int)) = 1000 - ((k + 1 : Nat) : Int) := wr (by omega) (by omega)
  have out : ∀ e τ, q1 n b (tN k) False e τ → e = .exit 0 ∧ τ = E1 n b (tN (n - 1)) := by
   intro e τ h
   unfold q1 at h
   split at h
   ·exact h.2.2.elim
   ·exact h.elim
  have next : ∀ τ : St, τ = I1 n b (slI τ 6) (locC τ 0) ∧ (locC τ 0 = tN (k + 1) ∧ slI τ 6 = ((k + 1 + 1 : Nat) : Int)) → Ev cfgI Tryz.prog 3 (.loop (loopAt Tryz.prog 3 6)) τ fun e τ => e = .exit 0 ∧ τ = E1 n b (tN (n - 1)) := by
   rintro τ ⟨h1, h2, h3⟩
   rw [h2, h3] at h1
   rw [h1]
   exact ih (k + 1) (by omega) (by omega)
  cases k with
  | zero =>
   refine Ev.round (t := ⟨[0, 1, 5, 6], [0, 1, 5], 1⟩) okX (by kernel_rfl) rfl (can _ _) (r1nI n b _ (fun X j => X = tN 1 ∧ j = 2) False ?_) next out
   rw [decide_eq_true (by omega), iteP_t]
   refine ⟨rfl, ?_, hw⟩
   rw [hw2]; rfl
  | succ k =>
   refine Ev.round (t := ⟨[0, 1, 5, 6], [0, 1, 5], 1⟩) okX (by kernel_rfl) rfl (can _ _) (r1gI n b _ (tN k) (1000 - ((k + 1 : Nat) : Int)) (fun X j => X = tN (k + 1 + 1) ∧ j = ((k + 1 + 1 + 1 : Nat) : Int)) False ?_) next out
   rw [decide_eq_true (by omega), iteP_t]
   refine ⟨rfl, ?_, hw⟩
   rw [hw2]; rfl
theorem loop2I (n : Int) (b : Nat) (hb : b ≤ 100) (X : List AV) (hX : X = numC ∨ ∃ Y a, X = grpC Y a) : ∀ (f k : Nat), b - k = f → k ≤ b → Ev cfgI Tryz.prog 3 (.loop (loopAt Tryz.prog 3 11)) (I2 n b (k : Int) X (tS X k)) fun e τ => e = .exit 2 ∧ τ = E2 n b X (tS X b) := by
 have can : ∀ (i : Int) (X S : List AV), (I2 n b i X S).tidy [0, 1, 7, 8] 2 = I2 n b i X S := fun i X S => by kernel_rfl
 intro f
 induction f with
 | zero =>
  intro k hf hk
  have hk : k = b := by omega
  have out : ∀ e τ, q2 n b X (tS X k) True e τ → e = .exit 2 ∧ τ = E2 n b X (tS X b) := by
   intro e τ h
   unfold q2 at h
   split at h
   ·refine ⟨h.1, ?_⟩
    rw [h.2.1, hk]
   ·exact h.elim
  have hd : decide ((k : Int) < (b : Int)) = false := decide_eq_false (by omega)
  rcases hX with rfl | ⟨Y, a, rfl⟩
  ·cases k with
   | zero =>
    refine Ev.round (t := ⟨[0, 1, 7, 8], [0, 1, 7], 2⟩) okX (by kernel_rfl) rfl (can _ _ _) (r2neI n b _ numC (fun _ _ => False) True ?_) (fun τ h => h.2.elim) out
    rw [hd, iteP_f]
    exact ⟨rfl, rfl, trivial⟩
   | succ k =>
    refine Ev.round (t := ⟨[0, 1, 7, 8], [0, 1, 7], 2⟩) okX (by kernel_rfl) rfl (can _ _ _) (r2nbI n b _ (tS numC k) (499 - (k : Int)) (fun _ _ => False) True ?_) (fun τ h => h.2.elim) out
    rw [hd, iteP_f]
    exact ⟨rfl, rfl, trivial⟩
  ·cases k with
   | zero =>
    refine Ev.round (t := ⟨[0, 1, 7, 8], [0, 1, 7], 2⟩) okX (by kernel_rfl) rfl (can _ _ _) (r2geI n b _ Y a (grpC Y a) (fun _ _ => False) True ?_) (fun τ h => h.2.elim) out
    rw [hd, iteP_f]
    exact ⟨rfl, rfl, trivial⟩
   | succ k =>
    refine Ev.round (t := ⟨[0, 1, 7, 8], [0, 1, 7], 2⟩) okX (by kernel_rfl) rfl (can _ _ _) (r2gbI n b _ Y a (tS (grpC Y a) k) (499 - (k : Int)) (fun _ _ => False) True ?_) (fun τ h => h.2.elim) out
    rw [hd, iteP_f]
    exact ⟨rfl, rfl, trivial⟩
 | succ f ih =>
  intro k hf hk
  have hw : IntKind.i64.wrap ((k : Int) + 1) = ((k + 1 : Nat) : Int) := by rw [wr (by omega) (by omega)]; rfl
  have hw2 : IntKind.i64.wrap (499 - (k : Int)) = 499 - (k : Int) := wr (by omega) (by omega)
  have hd : decide ((k : Int) < (b : Int)) = true := decide_eq_true (by omega)
  have out : ∀ e τ, q2 n b X (tS X k) False e τ → e = .exit 2 ∧ τ = E2 n b X (tS X b) := by
   intro e τ h
   unfold q2 at h
   split at h
   ·exact h.2.2.elim
   ·exact h.elim
  have next : ∀ τ : St, τ = I2 n b (slI τ 8) X (locC τ 1) ∧ (locC τ 1 = tS X (k + 1) ∧ slI τ 8 = ((k + 1 : Nat) : Int)) → Ev cfgI Tryz.prog 3 (.loop (loopAt Tryz.prog 3 11)) τ fun e τ => e = .exit 2 ∧ τ = E2 n b X (tS X b) := by
   rintro τ ⟨h1, h2, h3⟩
   rw [h2, h3] at h1
   rw [h1]
   exact ih (k + 1) (by omega) (by omega)
  rcases hX with rfl | ⟨Y, a, rfl⟩
  ·cases k with
   | zero =>
    refine Ev.round (t := ⟨[0, 1, 7, 8], [0, 1, 7], 2⟩) okX (by kernel_rfl) rfl (can _ _ _) (r2neI n b _ numC (fun S j => S = tS numC 1 ∧ j = 1) False ?_) next out
    rw [hd, iteP_t]
    refine ⟨rfl, ?_, hw⟩
    rw [hw2]; rfl
   | succ k =>
    refine Ev.round (t := ⟨[0, 1, 7, 8], [0, 1, 7], 2⟩) okX (by kernel_rfl) rfl (can _ _ _) (r2nbI n b _ (tS numC k) (499 - (k : Int)) (fun S j => S = tS numC (k + 1 + 1) ∧ j = ((k + 1 + 1 : Nat) : Int)) False ?_) next out
    rw [hd, iteP_t]
    refine ⟨rfl, ?_, hw⟩
    rw [hw2]; rfl
  ·cases k with
   | zero =>
    refine Ev.round (t := ⟨[0, 1, 7, 8], [0, 1, 7], 2⟩) okX (by kernel_rfl) rfl (can _ _ _) (r2geI n b _ Y a (grpC Y a) (fun S j => S = tS (grpC Y a) 1 ∧ j = 1) False ?_) next out
    rw [hd, iteP_t]
    refine ⟨rfl, ?_, hw⟩
    rw [hw2]; rfl
   | succ k =>
    refine Ev.round (t := ⟨[0, 1, 7, 8], [0, 1, 7], 2⟩) okX (by kernel_rfl) rfl (can _ _ _) (r2gbI n b _ Y a (tS (grpC Y a) k) (499 - (k : Int)) (fun S j => S = tS (grpC Y a) (k + 1 + 1) ∧ j = ((k + 1 + 1 : Nat) : Int)) False ?_) next out
    rw [hd, iteP_t]
    refine ⟨rfl, ?_, hw⟩
    rw [hw2]; rfl
theorem okL1I {T : Tab} (O : Ok T) : Ok (T.addL 3 6 L1) := by
 refine addL_ok O fun σ s hs hp => ?_
 cases hs
 obtain ⟨e, h1, h2⟩ := hp
 obtain ⟨n, hn⟩ : ∃ n : Nat, slI σ 0 = n := ⟨(slI σ 0).toNat, by omega⟩
 rw [hn] at e h1 h2
 have he : Ev cfgI Tryz.prog 3 (.loop (loopAt Tryz.prog 3 6)) σ fun e τ => e = .exit 0 ∧ τ = E1 n (slI σ 1) (tN (n - 1)) := by
  refine Ev.tidied (t := ⟨[0, 1, 5, 6], [0, 1, 5], 1⟩) (τ := I1 n (slI σ 1) ((0 + 1 : Nat) : Int) (tN 0)) (by kernel_rfl) (by rw [e]; kernel_rfl) ?_
  exact loop1I n (slI σ 1) (by omega) _ 0 rfl (by omega)
 obtain ⟨m, ex, τ, h6, rfl, rfl⟩ := he
 by_cases h : n = 1
 ·refine ⟨_, List.mem_cons_self .., (), ⟨by rw [hn, h]; rfl⟩, m, ?_⟩
  show evCode _ _ _ _ _ _ = some (.exit 0, E1 (slI σ 0) (slI σ 1) numC)
  rw [h6, hn, h]; rfl
 ·obtain ⟨k, rfl⟩ : ∃ k, n = k + 2 := ⟨n - 2, by omega⟩
  refine ⟨_, List.mem_cons_of_mem _ (List.mem_cons_self ..), (tN k, 1000 - ((k + 1 : Nat) : Int)), ⟨by rw [hn]; rfl⟩, m, ?_⟩
  show evCode _ _ _ _ _ _ = some (.exit 0, E1 (slI σ 0) (slI σ 1) (grpC (tN k) (1000 - ((k + 1 : Nat) : Int))))
  rw [h6, hn]; rfl
theorem okL2I {T : Tab} (O : Ok T) : Ok (T.addL 3 11 L2) := by
 refine addL_ok O fun σ s hs hp => ?_
 cases hs
 obtain ⟨e, h1, h2, h3, hX⟩ := hp
 obtain ⟨b, hb⟩ : ∃ b : Nat, slI σ 1 = b := ⟨(slI σ 1).toNat, by omega⟩
 rw [hb] at e h1 h2
 have he : Ev cfgI Tryz.prog 3 (.loop (loopAt Tryz.prog 3 11)) σ fun e τ => e = .exit 2 ∧ τ = E2 (slI σ 0) b (locC σ 0) (tS (locC σ 0) b) := by
  refine Ev.tidied (t := ⟨[0, 1, 7, 8], [0, 1, 7], 2⟩) (τ := I2 (slI σ 0) b ((0 : Nat) : Int) (locC σ 0) (tS (locC σ 0) 0)) (by kernel_rfl) (by rw [e, h3]; kernel_rfl) ?_
  exact loop2I (slI σ 0) b (by omega) (locC σ 0) hX _ 0 rfl (by omega)
 obtain ⟨m, ex, τ, h6, rfl, rfl⟩ := he
 cases b with
 | zero =>
  refine ⟨_, List.mem_cons_self .., (), ⟨hb⟩, m, ?_⟩
  show evCode _ _ _ _ _ _ = some (.exit 2, E2 (slI σ 0) (slI σ 1) (locC σ 0) (locC σ 1))
  rw [h6, hb, h3]; rfl
 | succ k =>
  refine ⟨_, List.mem_cons_of_mem _ (List.mem_cons_self ..), (tS (locC σ 0) k, 499 - (k : Int)), ⟨by rw [hb]; rfl⟩, m, ?_⟩
  show evCode _ _ _ _ _ _ = some (.exit 2, E2 (slI σ 0) (slI σ 1) (locC σ 0) (blkC (tS (locC σ 0) k) (499 - (k : Int))))
  rw [h6, hb]; rfl
end
end Go.Proofs.Sc
