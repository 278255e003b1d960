/- A part of the proof: definitions and lemmas. -/
import Derived.Test.YtciidohmobfciaaGreatDoorJudgesA
import Derived.Test.YtciidohmobfciaaGreatDoorJudgesB
import Derived.Test.YtciidohmobfciaaGreatDoorJudgesC
import Derived.Test.YtciidohmobfciaaGreatDoorJudgesD
import Derived.Test.YtciidohmobfciaaGreatDoorJudgesE
import Derived.Lib.ItoaNum
import Derived.Lib.Replace
import Derived.Lib.CountLaws
import Derived.DataReads
import GoSem.ClaimChange
import Derived.Test.YtciidohmobfciaaGreatDoorRows
import Derived.Handy
import Derived.Lay
namespace Go.Proofs.Pt
open Go.Proofs
def escAt (tabs lets : List UInt8) (c : UInt8) : List UInt8 :=
 match (tabs.zip lets).find? (fun p => p.1 == c) with
 | some p => [92, p.2]
 | none => if c == 92 then [92, 92] else if 32 ≤ c ∧ c ≤ 126 then [c] else [92, 48 + c / 64, 48 + c / 8 % 8, 48 + c % 8]
def quoF (s : List UInt8) : List UInt8 := s.flatMap fun c => if c == 34 then [92, c] else [c]
end Go.Proofs.Pt
namespace Go.Proofs.Pt
open Go.Proofs
def escP (c : UInt8) : List UInt8 := escAt [10, 9, 13, 7, 8, 12, 11] [110, 116, 114, 97, 98, 102, 118] c
def escF (s : List UInt8) : List UInt8 := s.flatMap escP
end Go.Proofs.Pt
namespace Go.Proofs.Pt
open Go.Proofs
def nearM (m d : Int) : Int := if d < -m then -m else if d > m then m else d
def trimZ (s : List UInt8) : List UInt8 := (s.reverse.dropWhile (· == 48)).reverse
def decP (n : Nat) : List UInt8 := Lib.decDigits (n / 10000) ++ (if n % 10000 = 0 then [] else 46 :: trimZ ((Lib.decDigits (10000 + n % 10000)).drop 1))
end Go.Proofs.Pt
namespace Go.Proofs.Sp
open Go Go.Ef Go.Proofs.Pt
noncomputable section
abbrev Cells := List (List AV)
def nilA : AV := .sc (.slice none 0 0)
def iA (n : Int) : AV := .sc (.int .i64 n)
def bA (b : Bool) : AV := .sc (.bool b)
structure I64 (n : Int) : Prop where
 lo : -9223372036854775808 ≤ n
 hi : n ≤ 9223372036854775807
structure Small (s : List UInt8) : Prop where
 le : s.length ≤ 1048576
structure Mid (s : List UInt8) : Prop where
 le : s.length ≤ 4194304
structure Lot (s : List UInt8) : Prop where
 le : s.length ≤ 1099511627776
structure IsNo (s : List UInt8) : Prop where
 is : s = []
def C117 (args : List AV) (h : Heap) : Option CSpec :=
 match args with
 | [.sc (.int .i64 n), .sc (.int .i64 10)] => some (nspec (I64 n) (Lib.itoa n) aStr h)
 | _ => none
def C20 (args : List AV) (h : Heap) : Option CSpec :=
 match args with
 | [.sc (.int .i64 n)] => some (nspec (I64 n) (Lib.itoa n) aStr h)
 | _ => none
structure Dec (n : Int) : Prop where
 lo : -10000000000000 ≤ n
 hi : n ≤ 10000000000000
structure Deci (n : Int) : Prop where
 lo : 0 ≤ n
 hi : n ≤ 10000000000000
structure Zero (n : Int) : Prop where
 is : n = 0
structure Ends (s : List UInt8) : Prop where
 some : s.any (fun b => b != 48) = true
 le : s.length ≤ 1048576
def decT (n : Int) : List UInt8 := (if nearM 10000000000000 n < 0 then [45] else []) ++ decP (nearM 10000000000000 n).natAbs
def C24 := C20
def rowB (s : List UInt8) : Cells := s.map fun b => [AV.sc (.int .u8 b.toNat)]
structure RowOf (s : List UInt8) (q : Cells × Nat) : Prop where
 els : q.1 = rowB s
 n : q.2 = s.length
structure NotNo (s : List UInt8) : Prop where
 is : s ≠ []
def C55 (args : List AV) (h : Heap) : Option CSpec :=
 match args with
 | [.sc (.string s)] => some (nspec (Small s.data.toList) (escF s.data.toList) aStr h)
 | _ => none
def quoT (s : List UInt8) : List UInt8 := 34 :: (quoF (escF s) ++ [34])
def C25 (args : List AV) (h : Heap) : Option CSpec :=
 match args with
 | [.sc (.string s)] => some (nspec (Small s.data.toList) (quoT s.data.toList) aStr h)
 | _ => none
end
end Go.Proofs.Sp
namespace Go.Proofs.Sp
open Go Go.Ef Go.Proofs.Pt
noncomputable section
set_option maxRecDepth 100000
theorem v20 (M : Int) (n : Int) (K : AV → Prop) (h :
 I64 n ∧ ∀ (x : List UInt8), x = Lib.itoa n → K (AV.sc (Value.string (ByteArray.mk (Array.mk x))))) :
 (fun (M : Int) (n : Int) (K : AV → Prop) => wpCall (tab0.addC 117 C117) (cfg M) Tryz.prog 60 20 [iA n] heapF fun r h' => wpBack h' r K) M n K :=
 Eq.mp (by kernel_rfl) h
end
end Go.Proofs.Sp
namespace Go.Proofs.Sp
open Go Go.Ef Go.Proofs.Pt
noncomputable section
set_option maxRecDepth 100000
variable {M : Int}
abbrev Ok (M : Int) (T : Tab) : Prop := TabOk Tryz.prog (cfg M) T
theorem ok0 : Ok M tab0 := tab0_ok
theorem it {q : Bool} {A B : Prop} (h : q = true) (k : A) : iteP q A B := by rw [h]; exact k
theorem ie {q : Bool} {A B : Prop} (h : q = false) (k : B) : iteP q A B := by rw [h]; exact k
theorem iti {q : Bool} {A B : Prop} (h : q = true → A) (k : q = false → B) : iteP q A B := by
 cases q with
 | true => exact h rfl
 | false => exact k rfl
theorem dt {p : Prop} [Decidable p] (h : p) : decide p = true := decide_eq_true h
theorem df {p : Prop} [Decidable p] (h : ¬p) : decide p = false := decide_eq_false h
theorem fitsS {a b : List UInt8} (h : (a.length : Int) + b.length ≤ 9223372036854775807) : strFits a b = true := by rw [strFits_iff]; exact h
end
end Go.Proofs.Sp
namespace Go.Proofs.Sp
open Go Go.Ef Go.Proofs.Pt
noncomputable section
set_option maxRecDepth 100000
variable {M : Int}
theorem tm4 (u : Nat) : (u : Int).tmod 10000 = ((u % 10000 : Nat) : Int) := (Int.ofNat_tmod u 10000).symm
end
end Go.Proofs.Sp
namespace Go.Proofs.Sp
open Go Go.Ef Go.Proofs.Pt
noncomputable section
def hb0 : Heap := { next := 2, objs := (Tr.leaf : Tr AObj).set 1 (.cells [.sc (.pointer none), .sc (.slice none 0 0)]), ro := 1, ty := (Tr.leaf : Tr (Nat × Nat)).set 1 (63, 2) }
def hN (h : Heap) : Nat :=
 match h.objs.get 2 with
 | some (.own _ _ n) => n
 | _ => 0
structure Row (b : Cells) (n : Nat) : Prop where
 len : b.length = n
 all : allLen 1 b = true
 le : n ≤ 1099511627776
structure Text (s : List UInt8) : Prop where
 ne : s ≠ []
 le : s.length ≤ 1099511627776
def tabs : List UInt8 := [10, 9, 13, 7, 8, 12, 11]
def lets : List UInt8 := [110, 116, 114, 97, 98, 102, 118]
structure HasRow (b : Cells) (n : Nat) : Prop where
 is : ∃ q, b = rowB q ∧ n = q.length ∧ q ≠ [] ∧ q.length ≤ 1099511627776
structure IsRow (b : Cells) (q : List UInt8) : Prop where
 is : b = rowB q
def C52 := C55
structure Quote (old new : List UInt8) : Prop where
 o : old = [34]
 n : new = [92, 34]
def C51 (args : List AV) (h : Heap) : Option CSpec :=
 match args with
 | [.sc (.string s), .sc (.string o), .sc (.string n)] => some (nspec (Mid s.data.toList ∧ Quote o.data.toList n.data.toList) (quoF s.data.toList) aStr h)
 | _ => none
def T21 : Tab := (tab0.addC 51 C51).addC 52 C52
def C21 := C25
end
end Go.Proofs.Sp
namespace Go.Proofs.Sp
open Go Go.Ef Go.Proofs.Pt
noncomputable section
set_option maxRecDepth 100000
theorem v21 (M : Int) (s : List UInt8) (K : AV → Prop) (h :
 Small s ∧
 ∀ (x : List UInt8),
 x = escF s →
 (Mid x ∧ Quote [(34 : UInt8)] [(92 : UInt8), (34 : UInt8)]) ∧
 ∀ (x_1 : List UInt8),
 x_1 = quoF x →
 iteP (strFits [(34 : UInt8)] x_1)
 (iteP (strFits ([(34 : UInt8)] ++ x_1) [(34 : UInt8)])
 (K (AV.sc (Value.string (ByteArray.mk (Array.mk ([(34 : UInt8)] ++ x_1 ++ [(34 : UInt8)])))))) False)
 False) :
 (fun (M : Int) (s : List UInt8) (K : AV → Prop) => wpCall T21 (cfg M) Tryz.prog 60 21 [aStr s] heapF fun r h' => wpBack h' r K) M s K :=
 Eq.mp (by kernel_rfl) h
end
end Go.Proofs.Sp
namespace Go.Proofs.Sp
open Go Go.Ef Go.Proofs.Pt
noncomputable section
def progTab : List (List UInt8 × List UInt8) := [([115, 116, 101, 112], []), ([110, 117, 109, 98, 101, 114], [110]), ([115, 116, 114, 105, 110, 103], [116]), ([110, 111, 110, 101], []), ([114, 101, 99, 111, 114, 100], [116]), ([118, 97, 114], [120, 116]), ([102, 105, 101, 108, 100], []), ([107, 101, 121], [121]), ([101, 108, 101, 109], [120, 116]), ([105, 110], [120, 116]), ([115, 101, 116, 118, 97, 114], [120, 121, 116]), ([115, 101, 116, 102, 105, 101, 108, 100], [121]), ([115, 101, 116, 101, 108, 101, 109], [120, 121, 116]), ([115, 116, 101, 112, 118, 97, 114], [120, 121, 116]), ([115, 116, 101, 112, 102, 105, 101, 108, 100], [121]), ([115, 116, 101, 112, 101, 108, 101, 109], [120, 121, 116]), ([109, 97, 116, 99, 104], [121]), ([98, 105, 110, 97, 114, 121], [121]), ([99, 111, 110, 99, 97, 116], []), ([117, 110, 97, 114, 121], [121]), ([116, 114, 117, 116, 104], []), ([106, 117, 109, 112], [120]), ([106, 117, 109, 112, 102, 97, 108, 115, 101], [120]), ([106, 117, 109, 112, 116, 114, 117, 101], [120]), ([112, 111, 112], []), ([97, 114, 114, 97, 121], [120, 116]), ([110, 101, 119, 97, 114, 114, 97, 121], []), ([99, 97, 108, 108], [120]), ([114, 101, 116, 117, 114, 110], []), ([103, 101, 116], [120, 121, 116]), ([112, 117, 114, 101], [121, 116]), ([115, 112, 108, 105, 116], [120, 116]), ([115, 117, 98], [120, 121, 116]), ([102, 105, 110, 100], []), ([106, 111, 105, 110], [121]), ([115, 112, 114, 105, 110, 116, 102], [121]), ([119, 114, 105, 116, 101], [120]), ([108, 105, 115, 116], [120, 116]), ([110, 101, 120, 116], [120]), ([100, 114, 111, 112, 108, 105, 115, 116], []), ([100, 101, 108, 101, 116, 101], [120, 116]), ([99, 108, 101, 97, 114], [120, 116]), ([110, 101, 120, 116, 114, 101, 99, 111, 114, 100], []), ([101, 120, 105, 116], [121]), ([114, 97, 110, 103, 101], [120, 121]), ([111, 112, 101, 110], [121]), ([99, 108, 111, 115, 101], [121]), ([100, 111, 110, 101], []), ([113, 117, 105, 116], [])]
def descW (op : Int) : List UInt8 × List UInt8 := if 1 ≤ op ∧ op ≤ 49 then (progTab[op.toNat - 1]?).getD ([], []) else ([111, 112, 32] ++ Lib.itoa op, [])
def opP (x y n : Int) (t : List UInt8) (c : UInt8) : List UInt8 := 32 :: (if c = 120 then Lib.itoa x else if c = 121 then Lib.itoa y else if c = 110 then decT n else quoT t)
def shownT (op x y n : Int) (t : List UInt8) : List UInt8 := (descW op).1 ++ (descW op).2.flatMap (opP x y n t)
structure InstOk (op x y n : Int) (t : List UInt8) : Prop where
 op : I64 op
 x : I64 x
 y : I64 y
 n : I64 n
 t : Small t
end
end Go.Proofs.Sp
namespace Go.Proofs.Sp
open Go Go.Ef Go.Proofs.Pt
noncomputable section
def namesL : List UInt8 := [115, 116, 101, 112, 32, 110, 117, 109, 98, 101, 114, 32, 115, 116, 114, 105, 110, 103, 32, 110, 111, 110, 101, 32, 114, 101, 99, 111, 114, 100, 32, 118, 97, 114, 32, 102, 105, 101, 108, 100, 32, 107, 101, 121, 32, 101, 108, 101, 109, 32, 105, 110, 32, 115, 101, 116, 118, 97, 114, 32, 115, 101, 116, 102, 105, 101, 108, 100, 32, 115, 101, 116, 101, 108, 101, 109, 32, 115, 116, 101, 112, 118, 97, 114, 32, 115, 116, 101, 112, 102, 105, 101, 108, 100, 32, 115, 116, 101, 112, 101, 108, 101, 109, 32, 109, 97, 116, 99, 104, 32, 98, 105, 110, 97, 114, 121, 32, 99, 111, 110, 99, 97, 116, 32, 117, 110, 97, 114, 121, 32, 116, 114, 117, 116, 104, 32, 106, 117, 109, 112, 32, 106, 117, 109, 112, 102, 97, 108, 115, 101, 32, 106, 117, 109, 112, 116, 114, 117, 101, 32, 112, 111, 112, 32, 97, 114, 114, 97, 121, 32, 110, 101, 119, 97, 114, 114, 97, 121, 32, 99, 97, 108, 108, 32, 114, 101, 116, 117, 114, 110, 32, 103, 101, 116, 32, 112, 117, 114, 101, 32, 115, 112, 108, 105, 116, 32, 115, 117, 98, 32, 102, 105, 110, 100, 32, 106, 111, 105, 110, 32, 115, 112, 114, 105, 110, 116, 102, 32, 119, 114, 105, 116, 101, 32, 108, 105, 115, 116, 32, 110, 101, 120, 116, 32, 100, 114, 111, 112, 108, 105, 115, 116, 32, 100, 101, 108, 101, 116, 101, 32, 99, 108, 101, 97, 114, 32, 110, 101, 120, 116, 114, 101, 99, 111, 114, 100, 32, 101, 120, 105, 116, 32, 114, 97, 110, 103, 101, 32, 111, 112, 101, 110, 32, 99, 108, 111, 115, 101, 32, 100, 111, 110, 101, 32, 113, 117, 105, 116]
def usesL : List UInt8 := [45, 32, 78, 32, 84, 32, 45, 32, 84, 32, 88, 84, 32, 45, 32, 89, 32, 88, 84, 32, 88, 84, 32, 88, 89, 84, 32, 89, 32, 88, 89, 84, 32, 88, 89, 84, 32, 89, 32, 88, 89, 84, 32, 89, 32, 89, 32, 45, 32, 89, 32, 45, 32, 88, 32, 88, 32, 88, 32, 45, 32, 88, 84, 32, 45, 32, 88, 32, 45, 32, 88, 89, 84, 32, 89, 84, 32, 88, 84, 32, 88, 89, 84, 32, 45, 32, 89, 32, 89, 32, 88, 32, 88, 84, 32, 88, 32, 45, 32, 88, 84, 32, 88, 84, 32, 45, 32, 89, 32, 88, 89, 32, 89, 32, 89, 32, 45, 32, 45]
def namesR : List (List UInt8) := [[115, 116, 101, 112], [110, 117, 109, 98, 101, 114], [115, 116, 114, 105, 110, 103], [110, 111, 110, 101], [114, 101, 99, 111, 114, 100], [118, 97, 114], [102, 105, 101, 108, 100], [107, 101, 121], [101, 108, 101, 109], [105, 110], [115, 101, 116, 118, 97, 114], [115, 101, 116, 102, 105, 101, 108, 100], [115, 101, 116, 101, 108, 101, 109], [115, 116, 101, 112, 118, 97, 114], [115, 116, 101, 112, 102, 105, 101, 108, 100], [115, 116, 101, 112, 101, 108, 101, 109], [109, 97, 116, 99, 104], [98, 105, 110, 97, 114, 121], [99, 111, 110, 99, 97, 116], [117, 110, 97, 114, 121], [116, 114, 117, 116, 104], [106, 117, 109, 112], [106, 117, 109, 112, 102, 97, 108, 115, 101], [106, 117, 109, 112, 116, 114, 117, 101], [112, 111, 112], [97, 114, 114, 97, 121], [110, 101, 119, 97, 114, 114, 97, 121], [99, 97, 108, 108], [114, 101, 116, 117, 114, 110], [103, 101, 116], [112, 117, 114, 101], [115, 112, 108, 105, 116], [115, 117, 98], [102, 105, 110, 100], [106, 111, 105, 110], [115, 112, 114, 105, 110, 116, 102], [119, 114, 105, 116, 101], [108, 105, 115, 116], [110, 101, 120, 116], [100, 114, 111, 112, 108, 105, 115, 116], [100, 101, 108, 101, 116, 101], [99, 108, 101, 97, 114], [110, 101, 120, 116, 114, 101, 99, 111, 114, 100], [101, 120, 105, 116], [114, 97, 110, 103, 101], [111, 112, 101, 110], [99, 108, 111, 115, 101], [100, 111, 110, 101], [113, 117, 105, 116]]
def usesR : List (List UInt8) := [[45], [78], [84], [45], [84], [88, 84], [45], [89], [88, 84], [88, 84], [88, 89, 84], [89], [88, 89, 84], [88, 89, 84], [89], [88, 89, 84], [89], [89], [45], [89], [45], [88], [88], [88], [45], [88, 84], [45], [88], [45], [88, 89, 84], [89, 84], [88, 84], [88, 89, 84], [45], [89], [89], [88], [88, 84], [88], [45], [88, 84], [88, 84], [45], [89], [88, 89], [89], [89], [45], [45]]
def rowS (l : List (List UInt8)) : Cells := l.map fun w => [aStr w]
def tabR (s : List UInt8) : List (List UInt8) := bif Nat.beq s.length 308 then namesR else usesR
structure IsList (s : List UInt8) : Prop where
 is : s = namesL ∨ s = usesL
structure WordsIs (s : List UInt8) (q : Cells) : Prop where
 is : q = rowS (tabR s)
structure Idx (k : Int) : Prop where
 lo : 0 ≤ k
 hi : k < 49
structure Short (l : List UInt8) : Prop where
 le : l.length ≤ 1000
end
end Go.Proofs.Sp
namespace Go.Proofs.Sp
open Go Go.Ef Go.Proofs.Pt
noncomputable section
structure FunD where
 name : List UInt8
 entry : Int
 params : List (List UInt8)
 arrays : List Bool
structure InsD where
 op : Int
 x : Int
 y : Int
 n : Int
 t : List UInt8
 a : Int
def rowO (l : List Bool) : Cells := l.map fun b => [bA b]
def cellF (f : FunD) : List AV := [aStr f.name, iA f.entry, .sl (rowS f.params) 0, .sl (rowO f.arrays) 0]
def cellI (i : InsD) : List AV := [iA i.op, iA i.x, iA i.y, iA i.n, aStr i.t, iA i.a]
def rowF (l : List FunD) : Cells := l.map cellF
def rowI (l : List InsD) : Cells := l.map cellI
def hG (nx : Nat) (a1 b1 : Tr AObj) (v : Option AObj) (c1 d1 : Tr AObj) (ta tb : Tr (Nat × Nat)) (tv : Option (Nat × Nat)) (tc : Tr (Nat × Nat)) (b : Cells) (n : Nat) : Heap :=
 { next := nx + 3, objs := .node (.node a1 (some (.cells [.ptr 1 0, .sl b 3])) b1) v (.node c1 (some (.own 1 5 n)) d1), ro := 1, ty := .node (.node ta (some (63, 2)) tb) tv tc }
structure Bl2 (h : Heap) (acc : List UInt8) : Prop where
 one : h.get 1 = some (.cells [.ptr 1 0, .sl (rowB acc) 3])
 two : h.get 2 = some (.own 1 5 acc.length)
 ro : h.ro = 1
 ty : h.ty.get 1 = some (63, 2)
structure Bld (h : Heap) (acc : List UInt8) : Prop where
 is : (h = hb0 ∧ acc = []) ∨ Bl2 h acc
structure HasB (h : Heap) (s : List UInt8) : Prop where
 is : ∃ acc, Bld h acc ∧ acc.length ≤ 1000000000000
 t : Text s
structure Wrote (h : Heap) (s : List UInt8) (h' : Heap) : Prop where
 is : ∀ acc, Bld h acc → Bl2 h' (acc ++ s)
structure Joins (els : Cells) (sep : List UInt8) : Prop where
 sep : sep = [32]
 is : ∃ l, els = rowS l ∧ l.length ≤ 1000000000000 ∧ (Lib.join l [32]).length ≤ 1000000000000
structure IsJoin (els : Cells) (z : List UInt8) : Prop where
 is : ∀ l, els = rowS l → z = Lib.join l [32]
structure LineOk (h : Heap) (els : Cells) : Prop where
 is : ∃ l acc, els = rowS l ∧ Bld h acc ∧ l.length ≤ 1000000000000 ∧ acc.length + (Lib.join l [32]).length ≤ 1000000000000
structure Lined (h : Heap) (els : Cells) (h' : Heap) : Prop where
 is : ∀ acc l, Bld h acc → els = rowS l → Bl2 h' (acc ++ (Lib.join l [32] ++ [10]))
structure Held (h : Heap) : Prop where
 is : ∃ acc, Bl2 h acc ∧ acc ≠ [] ∧ acc.length ≤ 1000000000000
structure Holds1 (h : Heap) (z : List UInt8) : Prop where
 is : ∀ acc, Bl2 h acc → z = acc
def codeC (si sf : Cells) (b e n r : Int) : List AV := [.sl si 0, .sl sf 0, iA b, iA e, iA n, iA r]
def codeA (si sf : Cells) (b e n r : Int) : AV := .agg (codeC si sf b e n r)
def funC (nm : List UInt8) (en : Int) (ps bs : Cells) : List AV := [aStr nm, iA en, .sl ps 0, .sl bs 0]
def lcE (σ : St) (k j : Nat) : Cells :=
 match getI k σ.loc with
 | some (.cells cs) => match getI j cs with
  | some (.sl e _) => e
  | _ => []
 | _ => []
def parW (ps : List (List UInt8)) (bs : List Bool) (j : Nat) : List UInt8 := quoT ((ps[j]?).getD []) ++ (if (bs[j]?).getD false then [91, 93] else [])
def wordsT (ps : List (List UInt8)) (bs : List Bool) (k : Nat) : List (List UInt8) := (List.range k).map (parW ps bs)
structure P13 (h : Heap) (w : Cells) (k : Nat) (ps bs : Cells) (j : Int) : Prop where
 jz : j = 0
 kz : 3 ≤ k
 own : isOwn h k 1 9 w.length = true
 wz : ∃ l, w = rowS l ∧ l.length ≤ 10
 pz : ∃ l, ps = rowS l ∧ (∀ p ∈ l, Small p) ∧ l.length ≤ 1048576
 bz : ∃ m, bs = rowO m ∧ m.length ≤ 1048576
structure R13 (h : Heap) (w ps bs : Cells) (q : Cells × Heap) : Prop where
 is : ∀ l0 l m, w = rowS l0 → ps = rowS l → bs = rowO m → q.1 = rowS (l0 ++ wordsT l m l.length)
 hz : ∀ acc, Bl2 h acc → Bl2 q.2 acc
def sym8 (T : Tab) : Tab := { T with symN := fun f => Nat.beq f 8 }
def T13 : Tab := sym8 ((tab0.addC 21 C21).idle 8)
def funW (f : FunD) : List (List UInt8) := [102, 117, 110, 99, 116, 105, 111, 110] :: quoT f.name :: Lib.itoa f.entry :: wordsT f.params f.arrays f.params.length
def funT (f : FunD) : List UInt8 := Lib.join (funW f) [32] ++ [10]
def fw (f : FunD) : Nat := f.name.length + 1 + (f.params.map fun p => p.length + 1).sum
structure FunOk (f : FunD) : Prop where
 name : Small f.name
 entry : I64 f.entry
 ps : ∀ p ∈ f.params, Small p
 np : f.params.length ≤ 1048576
 na : f.arrays.length ≤ 1048576
def insT (l : List InsD) (k : Nat) : List UInt8 := match l[k]? with
 | some i => Lib.itoa k ++ 32 :: shownT i.op i.x i.y i.n i.t ++ [10]
 | none => []
def iw (i : InsD) : Nat := i.t.length + 1
structure Funs (l : List FunD) : Prop where
 ok : ∀ f ∈ l, FunOk f
 w : (l.map fw).sum ≤ 1048576
structure Inss (l : List InsD) : Prop where
 ok : ∀ i ∈ l, InstOk i.op i.x i.y i.n i.t
 w : (l.map iw).sum ≤ 1048576
structure PF (h : Heap) (sf : Cells) (i : Int) : Prop where
 iz : i = 0
 is : ∃ l acc, sf = rowF l ∧ Funs l ∧ Bl2 h acc ∧ acc.length ≤ 1000
structure FunsDone (h : Heap) (sf : Cells) (h' : Heap) : Prop where
 is : ∀ acc l, Bl2 h acc → sf = rowF l → Bl2 h' (acc ++ l.flatMap funT)
structure PI (h : Heap) (si : Cells) (i : Int) : Prop where
 iz : i = 0
 is : ∃ l acc, si = rowI l ∧ Inss l ∧ Bl2 h acc ∧ acc.length ≤ 100000000
structure InsDone (h : Heap) (si : Cells) (h' : Heap) : Prop where
 is : ∀ acc l, Bl2 h acc → si = rowI l → Bl2 h' (acc ++ (List.range l.length).flatMap (insT l))
structure CodeOk (si sf : Cells) (b e n r : Int) : Prop where
 b : I64 b
 e : I64 e
 n : I64 n
 r : I64 r
 f : ∃ l, sf = rowF l ∧ Funs l
 i : ∃ l, si = rowI l ∧ Inss l
def headT (b e n r : Int) : List UInt8 := [98, 101, 103, 105, 110, 32] ++ Lib.itoa b ++ [10, 101, 97, 99, 104, 32] ++ Lib.itoa e ++ [10, 101, 110, 100, 32] ++ Lib.itoa n ++ [10, 114, 97, 110, 103, 101, 115, 32] ++ Lib.itoa r ++ [10]
structure Printed (si sf : Cells) (b e n r : Int) (z : List UInt8) : Prop where
 is : ∀ lf li, sf = rowF lf → si = rowI li → z = headT b e n r ++ lf.flatMap funT ++ (List.range li.length).flatMap (insT li)
def C8 (args : List AV) (h : Heap) : Option CSpec :=
 match args with
 | [.agg [.sl si 0, .sl sf 0, .sc (.int .i64 b), .sc (.int .i64 e), .sc (.int .i64 n), .sc (.int .i64 r)]] => some { pre := CodeOk si sf b e n r, alts := [{ α := List UInt8, post := fun z => Printed si sf b e n r z, val := aStr, heap := fun _ => h }] }
 | _ => none
end
end Go.Proofs.Sp
namespace Go.Proofs.Sp
open Go Go.Ef Go.Proofs.Pt
noncomputable section
set_option maxRecDepth 100000
variable {M : Int}
theorem rowS_len (l : List (List UInt8)) : (rowS l).length = l.length := by simp [rowS]
theorem rowO_len (l : List Bool) : (rowO l).length = l.length := by simp [rowO]
theorem rowF_at {l : List FunD} {j : Nat} (h : j < l.length) : getI j (rowF l) = some (cellF l[j]) ∧ cellStr (rowF l) (j : Int) 0 = l[j].name ∧ cellInt (rowF l) (j : Int) 1 = l[j].entry ∧ cellSl (rowF l) (j : Int) 2 = rowS l[j].params ∧ cellSl (rowF l) (j : Int) 3 = rowO l[j].arrays := by
 have e : getI j (rowF l) = some (cellF l[j]) := by rw [getI_eq]; unfold rowF; rw [List.getElem?_map, List.getElem?_eq_getElem h]; rfl
 refine ⟨e, ?_, ?_, ?_, ?_⟩
 ·unfold cellStr cellAt; rw [Int.toNat_natCast, e]; rfl
 ·unfold cellInt cellAt; rw [Int.toNat_natCast, e]; rfl
 ·unfold cellSl cellAt; rw [Int.toNat_natCast, e]; rfl
 ·unfold cellSl cellAt; rw [Int.toNat_natCast, e]; rfl
theorem rowI_at {l : List InsD} {j : Nat} (h : j < l.length) : getI j (rowI l) = some (cellI l[j]) ∧ cellInt (rowI l) (j : Int) 0 = l[j].op ∧ cellInt (rowI l) (j : Int) 1 = l[j].x ∧ cellInt (rowI l) (j : Int) 2 = l[j].y ∧ cellInt (rowI l) (j : Int) 3 = l[j].n ∧ cellStr (rowI l) (j : Int) 4 = l[j].t ∧ cellInt (rowI l) (j : Int) 5 = l[j].a := by
 have e : getI j (rowI l) = some (cellI l[j]) := by rw [getI_eq]; unfold rowI; rw [List.getElem?_map, List.getElem?_eq_getElem h]; rfl
 refine ⟨e, ?_, ?_, ?_, ?_, ?_, ?_⟩
 ·unfold cellInt cellAt; rw [Int.toNat_natCast, e]; rfl
 ·unfold cellInt cellAt; rw [Int.toNat_natCast, e]; rfl
 ·unfold cellInt cellAt; rw [Int.toNat_natCast, e]; rfl
 ·unfold cellInt cellAt; rw [Int.toNat_natCast, e]; rfl
 ·unfold cellStr cellAt; rw [Int.toNat_natCast, e]; rfl
 ·unfold cellInt cellAt; rw [Int.toNat_natCast, e]; rfl
theorem fits16 {n : Nat} (h : n ≤ 100000000) : fits n 16 = true := by
 unfold fits
 have e : maxRoom = 140737488355328 := rfl
 simp only [e, Bool.and_eq_true]
 refine ⟨?_, ?_⟩ <;> exact Nat.ble_eq_true_of_le (by omega)
end
end Go.Proofs.Sp
namespace Go.Ef
open Go
theorem build_list {α : Type} {Q : Nat → α → Prop} : ∀ n : Nat, (∀ i, i < n → ∃ x, Q i x) → ∃ l : List α, l.length = n ∧ ∀ (i : Nat) (x : α), l[i]? = some x → Q i x := by
 intro n
 induction n with
 | zero => intro _; exact ⟨[], rfl, fun i x h => by simp at h⟩
 | succ n ih =>
  intro h
  obtain ⟨l, h1, h2⟩ := ih fun i hi => h i (by omega)
  obtain ⟨x, hx⟩ := h n (by omega)
  refine ⟨l ++ [x], by simp [h1], fun i y hy => ?_⟩
  rcases Nat.lt_trichotomy i n with hi | hi | hi
  ·rw [List.getElem?_append_left (by omega)] at hy; exact h2 i y hy
  ·subst hi
   rw [List.getElem?_append_right (by omega), h1] at hy
   simp at hy; subst hy; exact hx
  ·have := lt_of_get? hy
   simp [h1] at this; omega
def CellsV (w : World) (avs : List AV) (cs : List Value) : Prop := avs.length = cs.length ∧ ∀ (i : Nat) (x : AV) (y : Value), avs[i]? = some x → cs[i]? = some y → V (imm0 w) x y
end Go.Ef
namespace Go.Ef
open Go
theorem addr_add (a : Addr) (m n : Nat) : (a.add m).add n = a.add (m + n) := by
 unfold Addr.add
 by_cases hm : m = 0 <;> by_cases hn : n = 0 <;> simp [hm, hn, Nat.add_assoc]
theorem trod_sliceD {H : Type} {enc : TypeId × Value → H} {P : Program} {w : World} {base : Nat} {spare : Nat → Bool} {held : Bool} {t e : TypeId} {k : Nat} (ht : P.underlying t = some (.slice e)) (hk : P.cellsOf e = k) (hk0 : 0 < k) (Good : List AV → DataW H → Prop)
  (each : ∀ (fuel : Nat) (cs : List Value) (d : DataW H) (ps : List MemPlace), DataW.trod enc P w base spare held fuel e cs = some (d, ps) → cs.length = k → ∃ avs, Good avs d ∧ CellsV w avs cs)
  {fuel : Nat} {c : Value} {d : DataW H} {ps : List MemPlace} (h : DataW.trod enc P w base spare held fuel t [c] = some (d, ps)) :
  ∃ els : List (List AV), V (imm0 w) (.sl els 0) c ∧ ((els = [] ∧ d = .nil) ∨ ∃ ds sp, d = .slice ds sp ∧ ds.length = els.length ∧ ∀ (i : Nat) (x : List AV) (y : DataW H), els[i]? = some x → ds[i]? = some y → Good x y ∧ x.length = k) := by
 cases fuel with
 | zero => cases h
 | succ fuel =>
  simp only [DataW.trod, ht] at h
  split at h
  all_goals first | (rename_i hq _; cases hq; done) | skip
  all_goals try (rename_i hq1 hq2; first | (cases hq1; done) | (cases hq2; done))
  all_goals try (cases h; done)
  ·rename_i hq1 hq2
   cases hq2; cases h
   exact ⟨[], .slE, .inl ⟨rfl, rfl⟩⟩
  ·rename_i e' a len cap hq1 hq2
   cases hq1; cases hq2
   split at h
   ·rename_i hc
    rw [Option.bind_eq_some_iff] at h
    obtain ⟨elems, hel, h⟩ := h
    rw [Option.map_eq_some_iff] at h
    obtain ⟨rest, _, h⟩ := h
    cases h
    have hlen : elems.length = len := by simpa using mapM_some_length hel
    obtain ⟨b, o, spot⟩ := a
    have hcell : ∀ i, i < len → ∃ (avs : List AV) (x : DataW H × List MemPlace), elems[i]? = some x ∧ Good avs x.1 ∧ avs.length = k ∧ ∃ cs : List Value, (∀ j, j < k → w.cell? ((⟨b, o, spot⟩ : Addr).add (i * k + j)) = cs[j]?) ∧ CellsV w avs cs := by
     intro i hi
     have := mapM_some_get hel i i (by simp [hi])
     rw [List.getElem?_eq_getElem (by omega)] at this
     rw [Option.bind_eq_some_iff] at this
     obtain ⟨cs, h1, h2⟩ := this
     obtain ⟨_, h4, h5⟩ := World.cells?_some h1
     rw [hk] at h4 h5
     obtain ⟨avs, g1, g2⟩ := each fuel cs _ _ h2 h4
     refine ⟨avs, _, List.getElem?_eq_getElem (by omega), g1, by rw [g2.1, h4], cs, fun j hj => ?_, g2⟩
     rw [← h5 j hj]
     rw [addr_add]
    rcases Nat.eq_zero_or_pos len with h0 | h0
    ·subst h0
     have : elems = [] := List.length_eq_zero_iff.1 hlen
     subst this
     exact ⟨[], .slE, .inr ⟨_, _, rfl, rfl, fun i x y hx => by simp at hx⟩⟩
    ·have hspot : spot = none := by
      obtain ⟨avs, x, _, _, hl, cs, hcs, hg⟩ := hcell 0 h0
      have h1 := hcs 0 hk0
      rw [List.getElem?_eq_getElem (by rw [← hg.1, hl]; exact hk0)] at h1
      have := World.cell?_spot h1
      unfold Addr.add at this
      simp only [] at this
      split at this <;> simp_all
     subst hspot
     have hadd : ∀ n, (⟨b, o, none⟩ : Addr).add n = ⟨b, o + n, none⟩ := by
      intro n; unfold Addr.add; split <;> simp_all
     obtain ⟨els, e1, e2⟩ := build_list len hcell
     refine ⟨els, ?_, .inr ⟨_, _, rfl, by simp [e1, hlen], fun i x y hx hy => ?_⟩⟩
     ·refine .sl0 (k := k) (c := fun i j => (w.cell? ⟨b, o + i * k + j, none⟩).getD undef) e1.symm hc.2.1 (fun a ha => ?_) (fun i a j x hx hy => ?_) (fun i a j x hx hy => ?_)
      ·obtain ⟨i, hi, rfl⟩ := List.getElem_of_mem ha
       obtain ⟨_, _, _, q, _⟩ := e2 i _ (List.getElem?_eq_getElem hi)
       exact q
      ·obtain ⟨_, _, _, g2, cs, g3, g4⟩ := e2 i a hx
       have hj : j < k := g2 ▸ lt_of_get? hy
       have hjc : j < cs.length := by rw [← g4.1, g2]; exact hj
       show w.cell? _ = _
       have := g3 j hj
       rw [hadd, ← Nat.add_assoc] at this
       rw [this, List.getElem?_eq_getElem hjc]; rfl
      ·obtain ⟨_, _, _, g2, cs, g3, g4⟩ := e2 i a hx
       have hj : j < k := g2 ▸ lt_of_get? hy
       have hjc : j < cs.length := by rw [← g4.1, g2]; exact hj
       have := g3 j hj
       rw [hadd, ← Nat.add_assoc] at this
       rw [imm0_bare, this, List.getElem?_eq_getElem hjc]
       exact g4.2 j x _ hy (List.getElem?_eq_getElem hjc)
     ·obtain ⟨x', hx', g1, g2, _⟩ := e2 i x hx
      simp only [List.getElem?_map, hx', Option.map_some, Option.some.injEq] at hy
      subst hy
      exact ⟨g1, g2⟩
   ·cases h
end Go.Ef
namespace Go.Proofs.Sp
open Go Go.Ef Go.RowKit Go.Proofs.Pt Go.Proofs.YtciidohmobfciaaGreatDoor.Rows
theorem trod_int {H : Type} {enc : TypeId × Value → H} {P : Program} {w : World} {base : Nat} {spare : Nat → Bool} {held : Bool} {t : TypeId} (ht : P.underlying t = some (.int .i64)) {fuel : Nat} {c : Value} {x : DataW H × List MemPlace}
  (h : DataW.trod enc P w base spare held fuel t [c] = some x) : ∃ n, c = .int .i64 n ∧ I64 n ∧ uptoBulk x.1 = 1 := by
 cases fuel with
 | zero => cases h
 | succ fuel =>
  simp only [DataW.trod, ht] at h
  split at h
  all_goals first | (rename_i hq _; cases hq; done) | skip
  all_goals try (rename_i hq1 hq2; first | (cases hq1; done) | (cases hq2; done))
  all_goals try (cases h; done)
  rename_i k k' n hq1 hq2
  cases hq1; cases hq2
  split at h
  ·rename_i hc
   obtain ⟨rfl, hwf⟩ := hc
   cases h
   refine ⟨n, rfl, ?_, rfl⟩
   simp [Lit.wf, IntKind.min, IntKind.max, IntKind.signed, IntKind.bits] at hwf
   exact ⟨by omega, by omega⟩
  ·cases h
theorem trod_str {H : Type} {enc : TypeId × Value → H} {P : Program} {w : World} {base : Nat} {spare : Nat → Bool} {held : Bool} {t : TypeId} (ht : P.underlying t = some .string) {fuel : Nat} {c : Value} {x : DataW H × List MemPlace}
  (h : DataW.trod enc P w base spare held fuel t [c] = some x) : ∃ l : List UInt8, c = .string ⟨⟨l⟩⟩ ∧ uptoBulk x.1 = l.length + 1 := by
 cases fuel with
 | zero => cases h
 | succ fuel =>
  simp only [DataW.trod, ht] at h
  split at h
  all_goals first | (rename_i hq _; cases hq; done) | skip
  all_goals try (rename_i hq1 hq2; first | (cases hq1; done) | (cases hq2; done))
  all_goals try (cases h; done)
  rename_i s hq1 hq2
  cases hq2
  split at h
  ·cases h
   obtain ⟨⟨l⟩⟩ := s
   exact ⟨l, rfl, rfl⟩
  ·cases h
theorem trod_bool {H : Type} {enc : TypeId × Value → H} {P : Program} {w : World} {base : Nat} {spare : Nat → Bool} {held : Bool} {t : TypeId} (ht : P.underlying t = some .bool) {fuel : Nat} {c : Value} {x : DataW H × List MemPlace}
  (h : DataW.trod enc P w base spare held fuel t [c] = some x) : ∃ b, c = .bool b ∧ uptoBulk x.1 = 1 := by
 cases fuel with
 | zero => cases h
 | succ fuel =>
  simp only [DataW.trod, ht] at h
  split at h
  all_goals first | (rename_i hq _; cases hq; done) | skip
  all_goals try (rename_i hq1 hq2; first | (cases hq1; done) | (cases hq2; done))
  all_goals try (cases h; done)
  rename_i b hq1 hq2
  cases hq2
  cases h
  exact ⟨b, rfl, rfl⟩
theorem gather {α H : Type} (cell : α → List AV) (wt : α → Nat) (Q : α → Prop) : ∀ (els : List (List AV)) (ds : List (DataW H)), ds.length = els.length →
  (∀ (i : Nat) (x : List AV) (y : DataW H), els[i]? = some x → ds[i]? = some y → ∃ a, x = cell a ∧ Q a ∧ wt a ≤ uptoBulk y) → ∃ l : List α, els = l.map cell ∧ (∀ a ∈ l, Q a) ∧ (l.map wt).sum ≤ uptoBulkAll ds := by
 intro els
 induction els with
 | nil => intro ds _ _; exact ⟨[], rfl, fun a h => (by cases h), by simp⟩
 | cons x els ih =>
  intro ds hl h
  cases ds with
  | nil => cases hl
  | cons d ds =>
   obtain ⟨a, h1, h2, h3⟩ := h 0 x d rfl rfl
   obtain ⟨l, g1, g2, g3⟩ := ih ds (by simpa using hl) fun i y z hy hz => h (i + 1) y z (by simpa using hy) (by simpa using hz)
   refine ⟨a :: l, by rw [h1, g1]; rfl, fun b hb => ?_, ?_⟩
   ·rcases List.mem_cons.1 hb with rfl | hb
    ·exact h2
    ·exact g2 b hb
   ·rw [List.map_cons, List.sum_cons]
    show _ ≤ uptoBulk d + uptoBulkAll ds
    omega
theorem gatherD {α H : Type} {w : World} {c : Value} (cell : α → List AV) (wt : α → Nat) (Q : α → Prop) {k : Nat} {d : DataW H}
  (h : ∃ els : List (List AV), V (imm0 w) (.sl els 0) c ∧ ((els = [] ∧ d = .nil) ∨ ∃ ds sp, d = .slice ds sp ∧ ds.length = els.length ∧ ∀ (i : Nat) (x : List AV) (y : DataW H), els[i]? = some x → ds[i]? = some y → (∃ a, x = cell a ∧ Q a ∧ wt a ≤ uptoBulk y) ∧ x.length = k)) :
  ∃ l : List α, V (imm0 w) (.sl (l.map cell) 0) c ∧ (∀ a ∈ l, Q a) ∧ (l.map wt).sum + 1 ≤ uptoBulk d := by
 obtain ⟨els, hv, h⟩ := h
 rcases h with ⟨rfl, rfl⟩ | ⟨ds, sp, rfl, hl, hg⟩
 ·exact ⟨[], hv, fun a h => (by cases h), by simp [uptoBulk]⟩
 ·obtain ⟨l, g1, g2, g3⟩ := gather cell wt Q els ds hl fun i x y hx hy => (hg i x y hx hy).1
  refine ⟨l, g1 ▸ hv, g2, ?_⟩
  show _ ≤ uptoBulkAll ds + uptoBulkAll sp + 1
  omega
set_option maxRecDepth 100000 in
theorem inst_reads {H : Type} {enc : TypeId × Value → H} {w : World} {base : Nat} {spare : Nat → Bool} {held : Bool} {fuel : Nat} {cs : List Value} {d : DataW H} {ps : List MemPlace}
  (h : DataW.trod enc Tryz.prog w base spare held fuel 39 cs = some (d, ps)) (hl : cs.length = 6) : ∃ avs, (∃ i : InsD, avs = cellI i ∧ (I64 i.op ∧ I64 i.x ∧ I64 i.y ∧ I64 i.n) ∧ iw i ≤ uptoBulk d) ∧ CellsV w avs cs := by
 cases fuel with
 | zero => cases h
 | succ fuel =>
  have e3 : Tryz.prog.cellsOf 3 = 1 := by kernel_rfl
  have e37 : Tryz.prog.cellsOf 37 = 1 := by kernel_rfl
  have e9 : Tryz.prog.cellsOf 9 = 1 := by kernel_rfl
  match cs, hl with
  | [c0, c1, c2, c3, c4, c5], _ =>
   simp only [DataW.trod, Tryz.underlying39] at h
   split at h
   ·rw [Option.map_eq_some_iff] at h
    obtain ⟨xs, hm, hd⟩ := h
    have g0 := mapM_some_get hm 0 _ rfl
    have g1 := mapM_some_get hm 1 _ rfl
    have g2 := mapM_some_get hm 2 _ rfl
    have g3 := mapM_some_get hm 3 _ rfl
    have g4 := mapM_some_get hm 4 _ rfl
    have g5 := mapM_some_get hm 5 _ rfl
    have hlen := mapM_some_length hm
    replace hlen : xs.length = 6 := hlen
    match xs, hlen with
    | [x0, x1, x2, x3, x4, x5], _ =>
     simp only [e3, e37, e9] at g0 g1 g2 g3 g4 g5
     obtain ⟨n0, rfl, b0, _⟩ := trod_int Tryz.underlying3 g0
     obtain ⟨n1, rfl, b1, _⟩ := trod_int Tryz.underlying3 g1
     obtain ⟨n2, rfl, b2, _⟩ := trod_int Tryz.underlying3 g2
     obtain ⟨n3, rfl, b3, _⟩ := trod_int Tryz.underlying37 g3
     obtain ⟨s, rfl, hs⟩ := trod_str Tryz.underlying9 g4
     obtain ⟨n5, rfl, b5, _⟩ := trod_int Tryz.underlying3 g5
     cases hd
     refine ⟨_, ⟨⟨n0, n1, n2, n3, s, n5⟩, rfl, ⟨b0, b1, b2, b3⟩, ?_⟩, rfl, fun i x y hx hy => ?_⟩
     ·show s.length + 1 ≤ uptoBulk x0.1 + (uptoBulk x1.1 + (uptoBulk x2.1 + (uptoBulk x3.1 + (uptoBulk x4.1 + (uptoBulk x5.1 + 0))))) + 1
      omega
     ·match i with
      | 0 => simp [cellI] at hx hy; subst hx; subst hy; exact .sc rfl
      | 1 => simp [cellI] at hx hy; subst hx; subst hy; exact .sc rfl
      | 2 => simp [cellI] at hx hy; subst hx; subst hy; exact .sc rfl
      | 3 => simp [cellI] at hx hy; subst hx; subst hy; exact .sc rfl
      | 4 => simp [cellI] at hx hy; subst hx; subst hy; exact .sc rfl
      | 5 => simp [cellI] at hx hy; subst hx; subst hy; exact .sc rfl
      | i + 6 => simp [cellI] at hx
   ·cases h
set_option maxRecDepth 100000 in
theorem str_reads {H : Type} {enc : TypeId × Value → H} {w : World} {base : Nat} {spare : Nat → Bool} {held : Bool} {fuel : Nat} {cs : List Value} {d : DataW H} {ps : List MemPlace}
  (h : DataW.trod enc Tryz.prog w base spare held fuel 9 cs = some (d, ps)) (hl : cs.length = 1) : ∃ avs, (∃ s : List UInt8, avs = [aStr s] ∧ True ∧ s.length + 1 ≤ uptoBulk d) ∧ CellsV w avs cs := by
 match cs, hl with
 | [c0], _ =>
  obtain ⟨s, rfl, hs⟩ := trod_str Tryz.underlying9 h
  have hs : uptoBulk d = s.length + 1 := hs
  refine ⟨_, ⟨s, rfl, trivial, by omega⟩, rfl, fun i x y hx hy => ?_⟩
  match i with
  | 0 => simp at hx hy; subst hx; subst hy; exact .sc rfl
  | i + 1 => simp at hx
set_option maxRecDepth 100000 in
theorem bool_reads {H : Type} {enc : TypeId × Value → H} {w : World} {base : Nat} {spare : Nat → Bool} {held : Bool} {fuel : Nat} {cs : List Value} {d : DataW H} {ps : List MemPlace}
  (h : DataW.trod enc Tryz.prog w base spare held fuel 4 cs = some (d, ps)) (hl : cs.length = 1) : ∃ avs, (∃ s : Bool, avs = [bA s] ∧ True ∧ 1 ≤ uptoBulk d) ∧ CellsV w avs cs := by
 match cs, hl with
 | [c0], _ =>
  obtain ⟨s, rfl, hs⟩ := trod_bool Tryz.underlying4 h
  have hs : uptoBulk d = 1 := hs
  refine ⟨_, ⟨s, rfl, trivial, by omega⟩, rfl, fun i x y hx hy => ?_⟩
  match i with
  | 0 => simp at hx hy; subst hx; subst hy; exact .sc rfl
  | i + 1 => simp at hx
theorem sum_one {α : Type} : ∀ l : List α, (l.map fun _ => 1).sum = l.length := by
 intro l
 induction l with
 | nil => rfl
 | cons a l ih => rw [List.map_cons, List.sum_cons, ih, List.length_cons]; omega
set_option maxRecDepth 100000 in
theorem fun_reads {H : Type} {enc : TypeId × Value → H} {w : World} {base : Nat} {spare : Nat → Bool} {held : Bool} {fuel : Nat} {cs : List Value} {d : DataW H} {ps : List MemPlace}
  (h : DataW.trod enc Tryz.prog w base spare held fuel 36 cs = some (d, ps)) (hl : cs.length = 4) : ∃ avs, (∃ f : FunD, avs = cellF f ∧ I64 f.entry ∧ fw f + f.arrays.length ≤ uptoBulk d) ∧ CellsV w avs cs := by
 cases fuel with
 | zero => cases h
 | succ fuel =>
  have e3 : Tryz.prog.cellsOf 3 = 1 := by kernel_rfl
  have e33 : Tryz.prog.cellsOf 33 = 1 := by kernel_rfl
  have e34 : Tryz.prog.cellsOf 34 = 1 := by kernel_rfl
  have e9 : Tryz.prog.cellsOf 9 = 1 := by kernel_rfl
  match cs, hl with
  | [c0, c1, c2, c3], _ =>
   simp only [DataW.trod, Tryz.underlying36] at h
   split at h
   ·rw [Option.map_eq_some_iff] at h
    obtain ⟨xs, hm, hd⟩ := h
    have g0 := mapM_some_get hm 0 _ rfl
    have g1 := mapM_some_get hm 1 _ rfl
    have g2 := mapM_some_get hm 2 _ rfl
    have g3 := mapM_some_get hm 3 _ rfl
    have hlen := mapM_some_length hm
    replace hlen : xs.length = 4 := hlen
    match xs, hlen with
    | [x0, x1, x2, x3], _ =>
     simp only [e3, e33, e34, e9] at g0 g1 g2 g3
     obtain ⟨s, rfl, hs⟩ := trod_str Tryz.underlying9 g0
     obtain ⟨n1, rfl, b1, u1⟩ := trod_int Tryz.underlying3 g1
     obtain ⟨pl, v2, _, u2⟩ := gatherD (fun s : List UInt8 => [aStr s]) (fun s => s.length + 1) (fun _ => True) (trod_sliceD (k := 1) Tryz.underlying33 (by kernel_rfl) (by omega) (fun avs d => ∃ s : List UInt8, avs = [aStr s] ∧ True ∧ s.length + 1 ≤ uptoBulk d) (fun fuel cs d ps h hl => str_reads h hl) g2)
     obtain ⟨bl, v3, _, u3⟩ := gatherD (fun s : Bool => [bA s]) (fun _ => 1) (fun _ => True) (trod_sliceD (k := 1) Tryz.underlying34 (by kernel_rfl) (by omega) (fun avs d => ∃ s : Bool, avs = [bA s] ∧ True ∧ 1 ≤ uptoBulk d) (fun fuel cs d ps h hl => bool_reads h hl) g3)
     rw [sum_one] at u3
     cases hd
     refine ⟨_, ⟨⟨s, n1, pl, bl⟩, rfl, b1, ?_⟩, rfl, fun i x y hx hy => ?_⟩
     ·show s.length + 1 + (pl.map fun p => p.length + 1).sum + bl.length ≤ uptoBulk x0.1 + (uptoBulk x1.1 + (uptoBulk x2.1 + (uptoBulk x3.1 + 0))) + 1
      omega
     ·match i with
      | 0 => simp [cellF] at hx hy; subst hx; subst hy; exact .sc rfl
      | 1 => simp [cellF] at hx hy; subst hx; subst hy; exact .sc rfl
      | 2 => simp [cellF] at hx hy; subst hx; subst hy; exact v2
      | 3 => simp [cellF] at hx hy; subst hx; subst hy; exact v3
      | i + 4 => simp [cellF] at hx
   ·cases h
theorem mem_sum {α : Type} (f : α → Nat) : ∀ (l : List α) (a : α), a ∈ l → f a ≤ (l.map f).sum := by
 intro l
 induction l with
 | nil => intro a h; cases h
 | cons b l ih =>
  intro a h
  rw [List.map_cons, List.sum_cons]
  rcases List.mem_cons.1 h with rfl | h
  ·omega
  ·have := ih a h; omega
theorem sum_le {α : Type} (f g : α → Nat) : ∀ l : List α, (∀ a ∈ l, f a ≤ g a) → (l.map f).sum ≤ (l.map g).sum := by
 intro l
 induction l with
 | nil => intro _; exact Nat.le_refl _
 | cons b l ih =>
  intro h
  have h1 := h b (by simp)
  have h2 := ih fun a ha => h a (by simp [ha])
  rw [List.map_cons, List.sum_cons, List.map_cons, List.sum_cons]
  omega
set_option maxRecDepth 100000 in
theorem code_reads {H : Type} {enc : TypeId × Value → H} {w : World} {base : Nat} {spare : Nat → Bool} {held : Bool} {v : Value} {d : DataW H} {p : List MemPlace} (hv : ∃ cs, v = .agg cs ∧ cs.size = Tryz.prog.cellsOf 25)
  (h : DataW.Trod enc Tryz.prog w base spare held 25 v d p) (hu : uptoBulk d ≤ 1048576) : ∃ si sf b e n r, CodeOk si sf b e n r ∧ V (imm0 w) (codeA si sf b e n r) v := by
 obtain ⟨fuel, h⟩ := h
 obtain ⟨⟨cs⟩, rfl, hsz⟩ := hv
 have e25 : Tryz.prog.cellsOf 25 = 6 := by kernel_rfl
 rw [e25] at hsz
 replace hsz : cs.length = 6 := hsz
 replace h : DataW.trod enc Tryz.prog w base spare held fuel 25 cs = some (d, p) := h
 cases fuel with
 | zero => cases h
 | succ fuel =>
  have e3 : Tryz.prog.cellsOf 3 = 1 := by kernel_rfl
  have e22 : Tryz.prog.cellsOf 22 = 1 := by kernel_rfl
  have e23 : Tryz.prog.cellsOf 23 = 1 := by kernel_rfl
  match cs, hsz with
  | [c0, c1, c2, c3, c4, c5], _ =>
   simp only [DataW.trod, Tryz.underlying25] at h
   split at h
   ·rw [Option.map_eq_some_iff] at h
    obtain ⟨xs, hm, hd⟩ := h
    have g0 := mapM_some_get hm 0 _ rfl
    have g1 := mapM_some_get hm 1 _ rfl
    have g2 := mapM_some_get hm 2 _ rfl
    have g3 := mapM_some_get hm 3 _ rfl
    have g4 := mapM_some_get hm 4 _ rfl
    have g5 := mapM_some_get hm 5 _ rfl
    have hlen := mapM_some_length hm
    replace hlen : xs.length = 6 := hlen
    match xs, hlen with
    | [x0, x1, x2, x3, x4, x5], _ =>
     simp only [e3, e22, e23] at g0 g1 g2 g3 g4 g5
     obtain ⟨il, v0, q0, u0⟩ := gatherD cellI iw (fun i => I64 i.op ∧ I64 i.x ∧ I64 i.y ∧ I64 i.n) (trod_sliceD (k := 6) Tryz.underlying22 (by kernel_rfl) (by omega) (fun avs d => ∃ i : InsD, avs = cellI i ∧ (I64 i.op ∧ I64 i.x ∧ I64 i.y ∧ I64 i.n) ∧ iw i ≤ uptoBulk d) (fun fuel cs d ps h hl => inst_reads h hl) g0)
     obtain ⟨fl, v1, q1, u1⟩ := gatherD cellF (fun f => fw f + f.arrays.length) (fun f => I64 f.entry) (trod_sliceD (k := 4) Tryz.underlying23 (by kernel_rfl) (by omega) (fun avs d => ∃ f : FunD, avs = cellF f ∧ I64 f.entry ∧ fw f + f.arrays.length ≤ uptoBulk d) (fun fuel cs d ps h hl => fun_reads h hl) g1)
     obtain ⟨n2, rfl, b2, _⟩ := trod_int Tryz.underlying3 g2
     obtain ⟨n3, rfl, b3, _⟩ := trod_int Tryz.underlying3 g3
     obtain ⟨n4, rfl, b4, _⟩ := trod_int Tryz.underlying3 g4
     obtain ⟨n5, rfl, b5, _⟩ := trod_int Tryz.underlying3 g5
     cases hd
     replace hu : uptoBulk x0.1 + (uptoBulk x1.1 + (uptoBulk x2.1 + (uptoBulk x3.1 + (uptoBulk x4.1 + (uptoBulk x5.1 + 0))))) + 1 ≤ 1048576 := hu
     have hfw := sum_le fw (fun f => fw f + f.arrays.length) fl fun a _ => by omega
     refine ⟨rowI il, rowF fl, n2, n3, n4, n5, ⟨b2, b3, b4, b5, ⟨fl, rfl, fun f hf => ?_, by omega⟩, ⟨il, rfl, fun i hi => ?_, by omega⟩⟩, .agg rfl fun i x y hx hy => ?_⟩
     ·have h1 : fw f + f.arrays.length ≤ _ := mem_sum (fun f : FunD => fw f + f.arrays.length) fl f hf
      have h2 : fw f ≤ 1048576 := by omega
      unfold fw at h2
      refine ⟨⟨by omega⟩, q1 f hf, fun p hp => ?_, ?_, by omega⟩
      ·have h3 : p.length + 1 ≤ _ := mem_sum (fun p : List UInt8 => p.length + 1) f.params p hp
       exact ⟨by omega⟩
      ·have := sum_le (fun _ : List UInt8 => 1) (fun p => p.length + 1) f.params fun a _ => by omega
       rw [sum_one] at this
       omega
     ·have h1 : i.t.length + 1 ≤ _ := mem_sum iw il i hi
      obtain ⟨a1, a2, a3, a4⟩ := q0 i hi
      exact ⟨a1, a2, a3, a4, ⟨by omega⟩⟩
     ·match i with
      | 0 => simp [codeC] at hx hy; subst hx; subst hy; exact v0
      | 1 => simp [codeC] at hx hy; subst hx; subst hy; exact v1
      | 2 => simp [codeC] at hx hy; subst hx; subst hy; exact .sc rfl
      | 3 => simp [codeC] at hx hy; subst hx; subst hy; exact .sc rfl
      | 4 => simp [codeC] at hx hy; subst hx; subst hy; exact .sc rfl
      | 5 => simp [codeC] at hx hy; subst hx; subst hy; exact .sc rfl
      | i + 6 => simp [codeC] at hx
   ·cases h
end Go.Proofs.Sp
namespace Go.Proofs.Sp.Sj
open Go Go.Ef Go.Proofs.Pt
noncomputable section
def wB (a lo hi : Int) : Bool := decide (lo ≤ a) && decide (a ≤ hi)
def C10 (args : List AV) (h : Heap) : Option CSpec :=
 match args with
 | [.sc (.int .i64 a), .sc (.int .i64 lo), .sc (.int .i64 hi)] => some (nspec True (wB a lo hi) bA h)
 | _ => none
def C29 (args : List AV) (h : Heap) : Option CSpec :=
 match args with
 | [.sc (.int .i64 n)] => some (nspec True (wB n (-10000000000000) 10000000000000) bA h)
 | _ => none
def aboutB (op : Int) : Bool :=
 if op = 6 then true else if op = 9 then true else if op = 10 then true else if op = 11 then true else if op = 13 then true else if op = 14 then true else if op = 16 then true else if op = 26 then true else
 if op = 30 then true else if op = 32 then true else if op = 33 then true else if op = 38 then true else if op = 41 then true else if op = 42 then true else false
def C31 (args : List AV) (h : Heap) : Option CSpec :=
 match args with
 | [.sc (.int .i64 op)] => some (nspec True (aboutB op) bA h)
 | _ => none
def nameB (op y : Int) : Bool :=
 if op = 11 then wB y 0 6 else if op = 13 then wB y 0 6 else if op = 14 then wB y 1 4 else if op = 16 then wB y 1 4 else if op = 30 then wB y 0 3 else if op = 33 then wB y 1 7 && decide (y ≠ 4) else true
def C32 (args : List AV) (h : Heap) : Option CSpec :=
 match args with
 | [.agg [.sc (.int .i64 op), .sc (.int .i64 _), .sc (.int .i64 y), .sc (.int .i64 _), .sc (.string _), .sc (.int .i64 _)]] => some (nspec True (nameB op y) bA h)
 | _ => none
def tLength : List UInt8 := [108, 101, 110, 103, 116, 104]
def tSubstr : List UInt8 := [115, 117, 98, 115, 116, 114]
def tSplit : List UInt8 := [115, 112, 108, 105, 116]
def tSub : List UInt8 := [115, 117, 98]
def tGsub : List UInt8 := [103, 115, 117, 98]
def tIndex : List UInt8 := [105, 110, 100, 101, 120]
def tMatch : List UInt8 := [109, 97, 116, 99, 104]
def tLower : List UInt8 := [116, 111, 108, 111, 119, 101, 114]
def tUpper : List UInt8 := [116, 111, 117, 112, 112, 101, 114]
def tInt : List UInt8 := [105, 110, 116]
def tSprintf : List UInt8 := [115, 112, 114, 105, 110, 116, 102]
def builtF (t : List UInt8) : Int × Int × Bool :=
 if t = tLength then (0, 1, true) else if t = tSubstr ∨ t = tSplit ∨ t = tSub ∨ t = tGsub then (2, 3, true) else if t = tIndex ∨ t = tMatch then (2, 2, true) else
 if t = tLower ∨ t = tUpper ∨ t = tInt then (1, 1, true) else if t = tSprintf then (1, 1024, true) else (0, 0, false)
def triA (q : Int × Int × Bool) : AV := .tup [iA q.1, iA q.2.1, bA q.2.2]
def C30 (args : List AV) (h : Heap) : Option CSpec :=
 match args with
 | [.sc (.string t)] => some (nspec True (builtF t.data.toList) triA h)
 | _ => none
def placeF (t : List UInt8) : Int := if t = tMatch then 1 else if t = tSplit then 2 else if t = tSub then 3 else if t = tGsub then 4 else 0
structure IsL (a b : List UInt8) : Prop where
 is : a = b
def tSpec : List UInt8 := [109, 97, 116, 99, 104, 32, 115, 112, 108, 105, 116, 32, 115, 117, 98, 32, 103, 115, 117, 98]
def C63 (args : List AV) (h : Heap) : Option CSpec :=
 match args with
 | [.sc (.string s), .sc (.string t)] => some (nspec (IsL s.data.toList tSpec) (placeF t.data.toList) iA h)
 | _ => none
def lA : List UInt8 := [116, 111, 108, 111, 119, 101, 114, 32, 116, 111, 117, 112, 112, 101, 114, 32, 105, 110, 116]
def lB : List UInt8 := [105, 110, 100, 101, 120, 32, 109, 97, 116, 99, 104]
def lC : List UInt8 := [115, 117, 98, 115, 116, 114, 32, 115, 112, 108, 105, 116, 32, 115, 117, 98, 32, 103, 115, 117, 98]
def tabW (s : List UInt8) : List (List UInt8) := bif Nat.beq (lenL s) 19 then [tLower, tUpper, tInt] else bif Nat.beq (lenL s) 11 then [tIndex, tMatch] else bif Nat.beq (lenL s) 20 then [tMatch, tSplit, tSub, tGsub] else [tSubstr, tSplit, tSub, tGsub]
structure IsW (s : List UInt8) : Prop where
 is : s = lA ∨ s = lB ∨ s = lC ∨ s = tSpec
def C56w (args : List AV) (h : Heap) : Option CSpec :=
 match args with
 | [.sc (.string s)] => some (fspec (IsW s.data.toList) (.sl (rowS (tabW s.data.toList)) 0) h)
 | _ => none
def exact62 (T : Tab) : Tab := { T with exact := fun f t => (Nat.beq f 92 || Nat.beq f 63) && Nat.beq t 17 }
def T62 : Tab := exact62 (tab0.addC 56 C56w)
def properB (n nf r op x y nm : Int) (t : List UInt8) : Bool :=
 if op = 22 then wB x 0 (n - 1) else if op = 23 then wB x 0 (n - 1) else if op = 24 then wB x 0 (n - 1) else if op = 39 then wB x 0 (n - 1) else
 if op = 45 then wB x 0 (n - 1) && wB y 0 (r - 1) else if op = 46 then wB y 0 (r - 1) else if op = 47 then wB y 0 (r - 1) else
 if op = 28 then wB x 0 (nf - 1) else if op = 37 then wB x 0 2 else if op = 2 then wB nm (-10000000000000) 10000000000000 else
 if op = 8 then wB y 1 4096 else if op = 35 then wB y 1 4096 else if op = 36 then wB y 1 4096 else
 if op = 12 then wB y 0 6 else if op = 15 then wB y 1 4 else if op = 17 then wB y 0 1 else if op = 44 then wB y 0 1 else if op = 18 then wB y 1 12 else if op = 20 then wB y 1 3 else
 if op = 31 then decide (placeF t = 0) && ((builtF t).2.2 && wB y (max (builtF t).1 1) (builtF t).2.1) else
 wB op 1 49 && (!aboutB op || (decide (x ≥ -1) && nameB op y))
structure Rgs (si sf : Cells) (r : Int) : Prop where
 r0 : 0 ≤ r
 r1 : r ≤ 4096
 i : si.length ≤ 1048576
 f : sf.length ≤ 1048576
def C11 (args : List AV) (h : Heap) : Option CSpec :=
 match args with
 | [.agg [.sl si 0, .sl sf 0, .sc (.int .i64 _), .sc (.int .i64 _), .sc (.int .i64 _), .sc (.int .i64 r)], .agg [.sc (.int .i64 op), .sc (.int .i64 x), .sc (.int .i64 y), .sc (.int .i64 nm), .sc (.string t), .sc (.int .i64 _)]] =>
   some (nspec (Rgs si sf r) (properB si.length sf.length r op x y nm t.data.toList) bA h)
 | _ => none
def targetB (op : Int) : Bool := if op = 22 then true else if op = 23 then true else if op = 24 then true else if op = 39 then true else if op = 45 then true else false
def C60 (args : List AV) (h : Heap) : Option CSpec :=
 match args with
 | [.sc (.int .i64 op)] => some (nspec True (targetB op) bA h)
 | _ => none
def endsB (op : Int) : Bool := if op = 29 then true else if op = 43 then true else if op = 44 then true else if op = 48 then true else if op = 49 then true else false
def C67 (args : List AV) (h : Heap) : Option CSpec :=
 match args with
 | [.sc (.int .i64 op)] => some (nspec True (endsB op) bA h)
 | _ => none
def partB (op : Int) (inside : Bool) : Bool :=
 if op = 48 then !inside else if op = 49 then !inside else if op = 45 then !inside else if op = 46 then !inside else if op = 47 then !inside else if op = 29 then inside else true
def C65 (args : List AV) (h : Heap) : Option CSpec :=
 match args with
 | [.sc (.int .i64 op), .sc (.bool b)] => some (nspec True (partB op b) bA h)
 | _ => none
def T11 : Tab := (((((tab0.addC 10 C10).addC 29 C29).addC 30 C30).addC 31 C31).addC 32 C32)
def T35 : Tab := (((((tab0.addC 26 C10).addC 61 C29).addC 62 C30).addC 60 C60).addC 63 C63)
def T32 : Tab := tab0.addC 10 C10
end
end Go.Proofs.Sp.Sj
namespace Go.Proofs.Sp.Sj
open Go Go.Ef Go.Proofs.Pt
noncomputable section
set_option maxRecDepth 100000
theorem v10 (M : Int) (a : Int) (lo : Int) (hi : Int) (K : AV → Prop) (h :
 iteP (decide (lo ≤ a)) (iteP (decide (a ≤ hi)) (K (AV.sc (Value.bool true))) (K (AV.sc (Value.bool false))))
 (K (AV.sc (Value.bool false)))) :
 (fun (M : Int) (a lo hi : Int) (K : AV → Prop) => wpCall tab0 (cfg M) Tryz.prog 60 10 [iA a, iA lo, iA hi] heapF fun r h' => wpBack h' r K) M a lo hi K :=
 Eq.mp (by kernel_rfl) h
theorem v26 (M : Int) (a : Int) (lo : Int) (hi : Int) (K : AV → Prop) (h :
 iteP (decide (lo ≤ a)) (iteP (decide (a ≤ hi)) (K (AV.sc (Value.bool true))) (K (AV.sc (Value.bool false))))
 (K (AV.sc (Value.bool false)))) :
 (fun (M : Int) (a lo hi : Int) (K : AV → Prop) => wpCall tab0 (cfg M) Tryz.prog 60 26 [iA a, iA lo, iA hi] heapF fun r h' => wpBack h' r K) M a lo hi K :=
 Eq.mp (by kernel_rfl) h
theorem v29 (M : Int) (a : Int) (K : AV → Prop) (h :
 iteP (decide ((-10000000000000 : Int) ≤ a))
 (iteP (decide (a ≤ (10000000000000 : Int))) (K (AV.sc (Value.bool true))) (K (AV.sc (Value.bool false))))
 (K (AV.sc (Value.bool false)))) :
 (fun (M : Int) (a : Int) (K : AV → Prop) => wpCall tab0 (cfg M) Tryz.prog 60 29 [iA a] heapF fun r h' => wpBack h' r K) M a K :=
 Eq.mp (by kernel_rfl) h
theorem v61 (M : Int) (a : Int) (K : AV → Prop) (h :
 iteP (decide ((-10000000000000 : Int) ≤ a))
 (iteP (decide (a ≤ (10000000000000 : Int))) (K (AV.sc (Value.bool true))) (K (AV.sc (Value.bool false))))
 (K (AV.sc (Value.bool false)))) :
 (fun (M : Int) (a : Int) (K : AV → Prop) => wpCall tab0 (cfg M) Tryz.prog 60 61 [iA a] heapF fun r h' => wpBack h' r K) M a K :=
 Eq.mp (by kernel_rfl) h
theorem v31 (M : Int) (a : Int) (K : AV → Prop) (h :
 iteP (a == (6 : Int)) (K (AV.sc (Value.bool true)))
 (iteP (a == (9 : Int)) (K (AV.sc (Value.bool true)))
 (iteP (a == (10 : Int)) (K (AV.sc (Value.bool true)))
 (iteP (a == (11 : Int)) (K (AV.sc (Value.bool true)))
 (iteP (a == (13 : Int)) (K (AV.sc (Value.bool true)))
 (iteP (a == (14 : Int)) (K (AV.sc (Value.bool true)))
 (iteP (a == (16 : Int)) (K (AV.sc (Value.bool true)))
 (iteP (a == (26 : Int)) (K (AV.sc (Value.bool true)))
 (iteP (a == (30 : Int)) (K (AV.sc (Value.bool true)))
 (iteP (a == (32 : Int)) (K (AV.sc (Value.bool true)))
 (iteP (a == (33 : Int)) (K (AV.sc (Value.bool true)))
 (iteP (a == (38 : Int)) (K (AV.sc (Value.bool true)))
 (iteP (a == (41 : Int)) (K (AV.sc (Value.bool true)))
 (iteP (a == (42 : Int)) (K (AV.sc (Value.bool true)))
 (K (AV.sc (Value.bool false))))))))))))))))) :
 (fun (M : Int) (a : Int) (K : AV → Prop) => wpCall tab0 (cfg M) Tryz.prog 60 31 [iA a] heapF fun r h' => wpBack h' r K) M a K :=
 Eq.mp (by kernel_rfl) h
theorem v60 (M : Int) (a : Int) (K : AV → Prop) (h :
 iteP (a == (22 : Int)) (K (AV.sc (Value.bool true)))
 (iteP (a == (23 : Int)) (K (AV.sc (Value.bool true)))
 (iteP (a == (24 : Int)) (K (AV.sc (Value.bool true)))
 (iteP (a == (39 : Int)) (K (AV.sc (Value.bool true)))
 (iteP (a == (45 : Int)) (K (AV.sc (Value.bool true))) (K (AV.sc (Value.bool false)))))))) :
 (fun (M : Int) (a : Int) (K : AV → Prop) => wpCall tab0 (cfg M) Tryz.prog 60 60 [iA a] heapF fun r h' => wpBack h' r K) M a K :=
 Eq.mp (by kernel_rfl) h
theorem v67 (M : Int) (a : Int) (K : AV → Prop) (h :
 iteP (a == (29 : Int)) (K (AV.sc (Value.bool true)))
 (iteP (a == (43 : Int)) (K (AV.sc (Value.bool true)))
 (iteP (a == (44 : Int)) (K (AV.sc (Value.bool true)))
 (iteP (a == (48 : Int)) (K (AV.sc (Value.bool true)))
 (iteP (a == (49 : Int)) (K (AV.sc (Value.bool true))) (K (AV.sc (Value.bool false)))))))) :
 (fun (M : Int) (a : Int) (K : AV → Prop) => wpCall tab0 (cfg M) Tryz.prog 60 67 [iA a] heapF fun r h' => wpBack h' r K) M a K :=
 Eq.mp (by kernel_rfl) h
theorem v65 (M : Int) (a : Int) (b : Bool) (K : AV → Prop) (h :
 iteP (a == (48 : Int)) (iteP b (K (AV.sc (Value.bool false))) (K (AV.sc (Value.bool true))))
 (iteP (a == (49 : Int)) (iteP b (K (AV.sc (Value.bool false))) (K (AV.sc (Value.bool true))))
 (iteP (a == (45 : Int)) (iteP b (K (AV.sc (Value.bool false))) (K (AV.sc (Value.bool true))))
 (iteP (a == (46 : Int)) (iteP b (K (AV.sc (Value.bool false))) (K (AV.sc (Value.bool true))))
 (iteP (a == (47 : Int)) (iteP b (K (AV.sc (Value.bool false))) (K (AV.sc (Value.bool true))))
 (iteP (a == (29 : Int)) (iteP b (K (AV.sc (Value.bool true))) (K (AV.sc (Value.bool false))))
 (K (AV.sc (Value.bool true))))))))) :
 (fun (M : Int) (a : Int) (b : Bool) (K : AV → Prop) => wpCall tab0 (cfg M) Tryz.prog 60 65 [iA a, bA b] heapF fun r h' => wpBack h' r K) M a b K :=
 Eq.mp (by kernel_rfl) h
theorem v30 (M : Int) (t : List UInt8) (K : AV → Prop) (h :
 iteP (decide (t = [(108 : UInt8), (101 : UInt8), (110 : UInt8), (103 : UInt8), (116 : UInt8), (104 : UInt8)]))
 (K
 (AV.tup
 [AV.sc (Value.int IntKind.i64 (0 : Int)), AV.sc (Value.int IntKind.i64 (1 : Int)), AV.sc (Value.bool true)]))
 (iteP (decide (t = [(115 : UInt8), (117 : UInt8), (98 : UInt8), (115 : UInt8), (116 : UInt8), (114 : UInt8)]))
 (K
 (AV.tup
 [AV.sc (Value.int IntKind.i64 (2 : Int)), AV.sc (Value.int IntKind.i64 (3 : Int)), AV.sc (Value.bool true)]))
 (iteP (decide (t = [(115 : UInt8), (112 : UInt8), (108 : UInt8), (105 : UInt8), (116 : UInt8)]))
 (K
 (AV.tup
 [AV.sc (Value.int IntKind.i64 (2 : Int)), AV.sc (Value.int IntKind.i64 (3 : Int)), AV.sc (Value.bool true)]))
 (iteP (decide (t = [(115 : UInt8), (117 : UInt8), (98 : UInt8)]))
 (K
 (AV.tup
 [AV.sc (Value.int IntKind.i64 (2 : Int)), AV.sc (Value.int IntKind.i64 (3 : Int)),
 AV.sc (Value.bool true)]))
 (iteP (decide (t = [(103 : UInt8), (115 : UInt8), (117 : UInt8), (98 : UInt8)]))
 (K
 (AV.tup
 [AV.sc (Value.int IntKind.i64 (2 : Int)), AV.sc (Value.int IntKind.i64 (3 : Int)),
 AV.sc (Value.bool true)]))
 (iteP (decide (t = [(105 : UInt8), (110 : UInt8), (100 : UInt8), (101 : UInt8), (120 : UInt8)]))
 (K
 (AV.tup
 [AV.sc (Value.int IntKind.i64 (2 : Int)), AV.sc (Value.int IntKind.i64 (2 : Int)),
 AV.sc (Value.bool true)]))
 (iteP (decide (t = [(109 : UInt8), (97 : UInt8), (116 : UInt8), (99 : UInt8), (104 : UInt8)]))
 (K
 (AV.tup
 [AV.sc (Value.int IntKind.i64 (2 : Int)), AV.sc (Value.int IntKind.i64 (2 : Int)),
 AV.sc (Value.bool true)]))
 (iteP
 (decide
 (t =
 [(116 : UInt8), (111 : UInt8), (108 : UInt8), (111 : UInt8), (119 : UInt8), (101 : UInt8),
 (114 : UInt8)]))
 (K
 (AV.tup
 [AV.sc (Value.int IntKind.i64 (1 : Int)), AV.sc (Value.int IntKind.i64 (1 : Int)),
 AV.sc (Value.bool true)]))
 (iteP
 (decide
 (t =
 [(116 : UInt8), (111 : UInt8), (117 : UInt8), (112 : UInt8), (112 : UInt8), (101 : UInt8),
 (114 : UInt8)]))
 (K
 (AV.tup
 [AV.sc (Value.int IntKind.i64 (1 : Int)), AV.sc (Value.int IntKind.i64 (1 : Int)),
 AV.sc (Value.bool true)]))
 (iteP (decide (t = [(105 : UInt8), (110 : UInt8), (116 : UInt8)]))
 (K
 (AV.tup
 [AV.sc (Value.int IntKind.i64 (1 : Int)), AV.sc (Value.int IntKind.i64 (1 : Int)),
 AV.sc (Value.bool true)]))
 (iteP
 (decide
 (t =
 [(115 : UInt8), (112 : UInt8), (114 : UInt8), (105 : UInt8), (110 : UInt8), (116 : UInt8),
 (102 : UInt8)]))
 (K
 (AV.tup
 [AV.sc (Value.int IntKind.i64 (1 : Int)), AV.sc (Value.int IntKind.i64 (1024 : Int)),
 AV.sc (Value.bool true)]))
 (K
 (AV.tup
 [AV.sc (Value.int IntKind.i64 (0 : Int)), AV.sc (Value.int IntKind.i64 (0 : Int)),
 AV.sc (Value.bool false)]))))))))))))) :
 (fun (M : Int) (t : List UInt8) (K : AV → Prop) => wpCall tab0 (cfg M) Tryz.prog 60 30 [aStr t] heapF fun r h' => wpBack h' r K) M t K :=
 Eq.mp (by kernel_rfl) h
theorem v62 (M : Int) (t : List UInt8) (K : AV → Prop) (h :
 iteP (decide (t = [(108 : UInt8), (101 : UInt8), (110 : UInt8), (103 : UInt8), (116 : UInt8), (104 : UInt8)]))
 (K
 (AV.tup
 [AV.sc (Value.int IntKind.i64 (0 : Int)), AV.sc (Value.int IntKind.i64 (1 : Int)), AV.sc (Value.bool true)]))
 (IsW
 [(116 : UInt8), (111 : UInt8), (108 : UInt8), (111 : UInt8), (119 : UInt8), (101 : UInt8), (114 : UInt8),
 (32 : UInt8), (116 : UInt8), (111 : UInt8), (117 : UInt8), (112 : UInt8), (112 : UInt8), (101 : UInt8),
 (114 : UInt8), (32 : UInt8), (105 : UInt8), (110 : UInt8), (116 : UInt8)] ∧
 ∀ (_ : Unit),
 True →
 iteP
 (decide
 ([(116 : UInt8), (111 : UInt8), (108 : UInt8), (111 : UInt8), (119 : UInt8), (101 : UInt8), (114 : UInt8)] =
 t))
 (K
 (AV.tup
 [AV.sc (Value.int IntKind.i64 (1 : Int)), AV.sc (Value.int IntKind.i64 (1 : Int)),
 AV.sc (Value.bool true)]))
 (iteP
 (decide
 ([(116 : UInt8), (111 : UInt8), (117 : UInt8), (112 : UInt8), (112 : UInt8), (101 : UInt8),
 (114 : UInt8)] =
 t))
 (K
 (AV.tup
 [AV.sc (Value.int IntKind.i64 (1 : Int)), AV.sc (Value.int IntKind.i64 (1 : Int)),
 AV.sc (Value.bool true)]))
 (iteP (decide ([(105 : UInt8), (110 : UInt8), (116 : UInt8)] = t))
 (K
 (AV.tup
 [AV.sc (Value.int IntKind.i64 (1 : Int)), AV.sc (Value.int IntKind.i64 (1 : Int)),
 AV.sc (Value.bool true)]))
 (IsW
 [(105 : UInt8), (110 : UInt8), (100 : UInt8), (101 : UInt8), (120 : UInt8), (32 : UInt8),
 (109 : UInt8), (97 : UInt8), (116 : UInt8), (99 : UInt8), (104 : UInt8)] ∧
 ∀ (_ : Unit),
 True →
 iteP (decide ([(105 : UInt8), (110 : UInt8), (100 : UInt8), (101 : UInt8), (120 : UInt8)] = t))
 (K
 (AV.tup
 [AV.sc (Value.int IntKind.i64 (2 : Int)), AV.sc (Value.int IntKind.i64 (2 : Int)),
 AV.sc (Value.bool true)]))
 (iteP (decide ([(109 : UInt8), (97 : UInt8), (116 : UInt8), (99 : UInt8), (104 : UInt8)] = t))
 (K
 (AV.tup
 [AV.sc (Value.int IntKind.i64 (2 : Int)), AV.sc (Value.int IntKind.i64 (2 : Int)),
 AV.sc (Value.bool true)]))
 (IsW
 [(115 : UInt8), (117 : UInt8), (98 : UInt8), (115 : UInt8), (116 : UInt8), (114 : UInt8),
 (32 : UInt8), (115 : UInt8), (112 : UInt8), (108 : UInt8), (105 : UInt8), (116 : UInt8),
 (32 : UInt8), (115 : UInt8), (117 : UInt8), (98 : UInt8), (32 : UInt8), (103 : UInt8),
 (115 : UInt8), (117 : UInt8), (98 : UInt8)] ∧
 ∀ (_ : Unit),
 True →
 iteP
 (decide
 ([(115 : UInt8), (117 : UInt8), (98 : UInt8), (115 : UInt8), (116 : UInt8),
 (114 : UInt8)] =
 t))
 (K
 (AV.tup
 [AV.sc (Value.int IntKind.i64 (2 : Int)), AV.sc (Value.int IntKind.i64 (3 : Int)),
 AV.sc (Value.bool true)]))
 (iteP
 (decide
 ([(115 : UInt8), (112 : UInt8), (108 : UInt8), (105 : UInt8), (116 : UInt8)] = t))
 (K
 (AV.tup
 [AV.sc (Value.int IntKind.i64 (2 : Int)), AV.sc (Value.int IntKind.i64 (3 : Int)),
 AV.sc (Value.bool true)]))
 (iteP (decide ([(115 : UInt8), (117 : UInt8), (98 : UInt8)] = t))
 (K
 (AV.tup
 [AV.sc (Value.int IntKind.i64 (2 : Int)),
 AV.sc (Value.int IntKind.i64 (3 : Int)), AV.sc (Value.bool true)]))
 (iteP (decide ([(103 : UInt8), (115 : UInt8), (117 : UInt8), (98 : UInt8)] = t))
 (K
 (AV.tup
 [AV.sc (Value.int IntKind.i64 (2 : Int)),
 AV.sc (Value.int IntKind.i64 (3 : Int)), AV.sc (Value.bool true)]))
 (iteP
 (decide
 (t =
 [(115 : UInt8), (112 : UInt8), (114 : UInt8), (105 : UInt8), (110 : UInt8),
 (116 : UInt8), (102 : UInt8)]))
 (K
 (AV.tup
 [AV.sc (Value.int IntKind.i64 (1 : Int)),
 AV.sc (Value.int IntKind.i64 (1024 : Int)), AV.sc (Value.bool true)]))
 (K
 (AV.tup
 [AV.sc (Value.int IntKind.i64 (0 : Int)),
 AV.sc (Value.int IntKind.i64 (0 : Int)),
 AV.sc (Value.bool false)]))))))))))))) :
 (fun (M : Int) (t : List UInt8) (K : AV → Prop) => wpCall T62 (cfg M) Tryz.prog 120 62 [aStr t] heapF fun r h' => wpBack h' r K) M t K :=
 Eq.mp (by kernel_rfl) h
theorem v63 (M : Int) (t : List UInt8) (K : AV → Prop) (h :
 IsW tSpec ∧
 ∀ (_ : Unit),
 True →
 iteP (decide ([(109 : UInt8), (97 : UInt8), (116 : UInt8), (99 : UInt8), (104 : UInt8)] = t))
 (K (AV.sc (Value.int IntKind.i64 (1 : Int))))
 (iteP (decide ([(115 : UInt8), (112 : UInt8), (108 : UInt8), (105 : UInt8), (116 : UInt8)] = t))
 (K (AV.sc (Value.int IntKind.i64 (2 : Int))))
 (iteP (decide ([(115 : UInt8), (117 : UInt8), (98 : UInt8)] = t))
 (K (AV.sc (Value.int IntKind.i64 (3 : Int))))
 (iteP (decide ([(103 : UInt8), (115 : UInt8), (117 : UInt8), (98 : UInt8)] = t))
 (K (AV.sc (Value.int IntKind.i64 (4 : Int)))) (K (AV.sc (Value.int IntKind.i64 (0 : Int)))))))) :
 (fun (M : Int) (t : List UInt8) (K : AV → Prop) => wpCall T62 (cfg M) Tryz.prog 120 63 [aStr tSpec, aStr t] heapF fun r h' => wpBack h' r K) M t K :=
 Eq.mp (by kernel_rfl) h
theorem v32 (M : Int) (op : Int) (x : Int) (y : Int) (n : Int) (t : List UInt8) (a : Int) (K : AV → Prop) (h :
 iteP (op == (11 : Int))
 (True ∧
 ∀ (x : Bool), x = wB y (0 : Int) (6 : Int) → iteP x (K (AV.sc (Value.bool true))) (K (AV.sc (Value.bool false))))
 (iteP (op == (13 : Int))
 (True ∧
 ∀ (x : Bool), x = wB y (0 : Int) (6 : Int) → iteP x (K (AV.sc (Value.bool true))) (K (AV.sc (Value.bool false))))
 (iteP (op == (14 : Int))
 (True ∧
 ∀ (x : Bool),
 x = wB y (1 : Int) (4 : Int) → iteP x (K (AV.sc (Value.bool true))) (K (AV.sc (Value.bool false))))
 (iteP (op == (16 : Int))
 (True ∧
 ∀ (x : Bool),
 x = wB y (1 : Int) (4 : Int) → iteP x (K (AV.sc (Value.bool true))) (K (AV.sc (Value.bool false))))
 (iteP (op == (30 : Int))
 (True ∧
 ∀ (x : Bool),
 x = wB y (0 : Int) (3 : Int) → iteP x (K (AV.sc (Value.bool true))) (K (AV.sc (Value.bool false))))
 (iteP (op == (33 : Int))
 (True ∧
 ∀ (x : Bool),
 x = wB y (1 : Int) (7 : Int) →
 iteP x (iteP (y != (4 : Int)) (K (AV.sc (Value.bool true))) (K (AV.sc (Value.bool false))))
 (K (AV.sc (Value.bool false))))
 (K (AV.sc (Value.bool true))))))))) :
 (fun (M : Int) (op x y n : Int) (t : List UInt8) (a : Int) (K : AV → Prop) => wpCall T32 (cfg M) Tryz.prog 60 32 [.agg [iA op, iA x, iA y, iA n, aStr t, iA a]] heapF fun r h' => wpBack h' r K) M op x y n t a K :=
 Eq.mp (by kernel_rfl) h
theorem v11 (M : Int) (si : Cells) (sf : Cells) (b : Int) (e : Int) (n : Int) (r : Int) (op : Int) (x : Int) (y : Int) (nm : Int) (t : List UInt8) (a : Int) (K : AV → Prop) (h :
 iteP (op == (22 : Int))
 (True ∧
 ∀ (x_1 : Bool),
 x_1 = wB x (0 : Int) (IntKind.i64.wrap ((↑(List.length si) : Int) - (1 : Int))) →
 iteP x_1 (K (AV.sc (Value.bool true))) (K (AV.sc (Value.bool false))))
 (iteP (op == (23 : Int))
 (True ∧
 ∀ (x_1 : Bool),
 x_1 = wB x (0 : Int) (IntKind.i64.wrap ((↑(List.length si) : Int) - (1 : Int))) →
 iteP x_1 (K (AV.sc (Value.bool true))) (K (AV.sc (Value.bool false))))
 (iteP (op == (24 : Int))
 (True ∧
 ∀ (x_1 : Bool),
 x_1 = wB x (0 : Int) (IntKind.i64.wrap ((↑(List.length si) : Int) - (1 : Int))) →
 iteP x_1 (K (AV.sc (Value.bool true))) (K (AV.sc (Value.bool false))))
 (iteP (op == (39 : Int))
 (True ∧
 ∀ (x_1 : Bool),
 x_1 = wB x (0 : Int) (IntKind.i64.wrap ((↑(List.length si) : Int) - (1 : Int))) →
 iteP x_1 (K (AV.sc (Value.bool true))) (K (AV.sc (Value.bool false))))
 (iteP (op == (45 : Int))
 (True ∧
 ∀ (x_1 : Bool),
 x_1 = wB x (0 : Int) (IntKind.i64.wrap ((↑(List.length si) : Int) - (1 : Int))) →
 iteP x_1
 (True ∧
 ∀ (x : Bool),
 x = wB y (0 : Int) (IntKind.i64.wrap (r - (1 : Int))) →
 iteP x (K (AV.sc (Value.bool true))) (K (AV.sc (Value.bool false))))
 (K (AV.sc (Value.bool false))))
 (iteP (op == (46 : Int))
 (True ∧
 ∀ (x : Bool),
 x = wB y (0 : Int) (IntKind.i64.wrap (r - (1 : Int))) →
 iteP x (K (AV.sc (Value.bool true))) (K (AV.sc (Value.bool false))))
 (iteP (op == (47 : Int))
 (True ∧
 ∀ (x : Bool),
 x = wB y (0 : Int) (IntKind.i64.wrap (r - (1 : Int))) →
 iteP x (K (AV.sc (Value.bool true))) (K (AV.sc (Value.bool false))))
 (iteP (op == (28 : Int))
 (True ∧
 ∀ (x_1 : Bool),
 x_1 = wB x (0 : Int) (IntKind.i64.wrap ((↑(List.length sf) : Int) - (1 : Int))) →
 iteP x_1 (K (AV.sc (Value.bool true))) (K (AV.sc (Value.bool false))))
 (iteP (op == (37 : Int))
 (True ∧
 ∀ (x_1 : Bool),
 x_1 = wB x (0 : Int) (2 : Int) →
 iteP x_1 (K (AV.sc (Value.bool true))) (K (AV.sc (Value.bool false))))
 (iteP (op == (2 : Int))
 (True ∧
 ∀ (x : Bool),
 x = wB nm (-10000000000000 : Int) (10000000000000 : Int) →
 iteP x (K (AV.sc (Value.bool true))) (K (AV.sc (Value.bool false))))
 (iteP (op == (8 : Int))
 (True ∧
 ∀ (x : Bool),
 x = wB y (1 : Int) (4096 : Int) →
 iteP x (K (AV.sc (Value.bool true))) (K (AV.sc (Value.bool false))))
 (iteP (op == (35 : Int))
 (True ∧
 ∀ (x : Bool),
 x = wB y (1 : Int) (4096 : Int) →
 iteP x (K (AV.sc (Value.bool true))) (K (AV.sc (Value.bool false))))
 (iteP (op == (36 : Int))
 (True ∧
 ∀ (x : Bool),
 x = wB y (1 : Int) (4096 : Int) →
 iteP x (K (AV.sc (Value.bool true))) (K (AV.sc (Value.bool false))))
 (iteP (op == (12 : Int))
 (True ∧
 ∀ (x : Bool),
 x = wB y (0 : Int) (6 : Int) →
 iteP x (K (AV.sc (Value.bool true))) (K (AV.sc (Value.bool false))))
 (iteP (op == (15 : Int))
 (True ∧
 ∀ (x : Bool),
 x = wB y (1 : Int) (4 : Int) →
 iteP x (K (AV.sc (Value.bool true))) (K (AV.sc (Value.bool false))))
 (iteP (op == (17 : Int))
 (True ∧
 ∀ (x : Bool),
 x = wB y (0 : Int) (1 : Int) →
 iteP x (K (AV.sc (Value.bool true))) (K (AV.sc (Value.bool false))))
 (iteP (op == (44 : Int))
 (True ∧
 ∀ (x : Bool),
 x = wB y (0 : Int) (1 : Int) →
 iteP x (K (AV.sc (Value.bool true))) (K (AV.sc (Value.bool false))))
 (iteP (op == (18 : Int))
 (True ∧
 ∀ (x : Bool),
 x = wB y (1 : Int) (12 : Int) →
 iteP x (K (AV.sc (Value.bool true))) (K (AV.sc (Value.bool false))))
 (iteP (op == (20 : Int))
 (True ∧
 ∀ (x : Bool),
 x = wB y (1 : Int) (3 : Int) →
 iteP x (K (AV.sc (Value.bool true))) (K (AV.sc (Value.bool false))))
 (iteP (op == (31 : Int))
 (True ∧
 ∀ (x : Int × Int × Bool),
 x = builtF t →
 iteP x.snd.snd
 (iteP
 (decide
 (t =
 [(109 : UInt8), (97 : UInt8), (116 : UInt8), (99 : UInt8),
 (104 : UInt8)]))
 (K (AV.sc (Value.bool false)))
 (iteP
 (decide
 (t =
 [(115 : UInt8), (112 : UInt8), (108 : UInt8), (105 : UInt8),
 (116 : UInt8)]))
 (K (AV.sc (Value.bool false)))
 (iteP (decide (t = [(115 : UInt8), (117 : UInt8), (98 : UInt8)]))
 (K (AV.sc (Value.bool false)))
 (iteP
 (decide
 (t =
 [(103 : UInt8), (115 : UInt8), (117 : UInt8),
 (98 : UInt8)]))
 (K (AV.sc (Value.bool false)))
 (True ∧
 ∀ (x_1 : Bool),
 x_1 = wB y (max x.fst (1 : Int)) x.snd.fst →
 iteP x_1 (K (AV.sc (Value.bool true)))
 (K (AV.sc (Value.bool false))))))))
 (iteP
 (decide
 (t =
 [(109 : UInt8), (97 : UInt8), (116 : UInt8), (99 : UInt8),
 (104 : UInt8)]))
 (K (AV.sc (Value.bool false)))
 (iteP
 (decide
 (t =
 [(115 : UInt8), (112 : UInt8), (108 : UInt8), (105 : UInt8),
 (116 : UInt8)]))
 (K (AV.sc (Value.bool false)))
 (iteP (decide (t = [(115 : UInt8), (117 : UInt8), (98 : UInt8)]))
 (K (AV.sc (Value.bool false)))
 (iteP
 (decide
 (t =
 [(103 : UInt8), (115 : UInt8), (117 : UInt8),
 (98 : UInt8)]))
 (K (AV.sc (Value.bool false)))
 (K (AV.sc (Value.bool false))))))))
 (True ∧
 ∀ (x_1 : Bool),
 x_1 = wB op (1 : Int) (49 : Int) →
 iteP x_1
 (True ∧
 ∀ (x_2 : Bool),
 x_2 = aboutB op →
 iteP x_2
 (iteP (decide ((-1 : Int) ≤ x))
 (True ∧
 ∀ (x : Bool),
 x = nameB op y →
 iteP x (K (AV.sc (Value.bool true)))
 (K (AV.sc (Value.bool false))))
 (K (AV.sc (Value.bool false))))
 (K (AV.sc (Value.bool true))))
 (K (AV.sc (Value.bool false)))))))))))))))))))))))) :
 (fun (M : Int) (si sf : Cells) (b e n r : Int) (op x y nm : Int) (t : List UInt8) (a : Int) (K : AV → Prop) => wpCall T11 (cfg M) Tryz.prog 100 11 [codeA si sf b e n r, .agg [iA op, iA x, iA y, iA nm, aStr t, iA a]] heapF fun r h' => wpBack h' r K) M si sf b e n r op x y nm t a K :=
 Eq.mp (by kernel_rfl) h
theorem v35 (M : Int) (si : Cells) (sf : Cells) (b : Int) (e : Int) (n : Int) (r : Int) (op : Int) (x : Int) (y : Int) (nm : Int) (t : List UInt8) (a : Int) (K : AV → Prop) (h :
 True ∧
 ∀ (x_1 : Bool),
 x_1 = wB op (1 : Int) (49 : Int) →
 iteP x_1
 (True ∧
 ∀ (x_2 : Bool),
 x_2 = targetB op →
 iteP x_2
 (True ∧
 ∀ (x_3 : Bool),
 x_3 = wB x (0 : Int) (IntKind.i64.wrap ((↑(List.length si) : Int) - (1 : Int))) →
 iteP x_3
 (iteP (op == (28 : Int))
 (True ∧
 ∀ (x_4 : Bool),
 x_4 = wB x (0 : Int) (IntKind.i64.wrap ((↑(List.length sf) : Int) - (1 : Int))) →
 iteP x_4 (K (AV.sc (Value.bool true))) (K (AV.sc (Value.bool false))))
 (iteP (op == (37 : Int))
 (True ∧
 ∀ (x_4 : Bool),
 x_4 = wB x (0 : Int) (2 : Int) →
 iteP x_4 (K (AV.sc (Value.bool true))) (K (AV.sc (Value.bool false))))
 (iteP (op == (2 : Int))
 (True ∧
 ∀ (x : Bool),
 x = wB nm (-10000000000000 : Int) (10000000000000 : Int) →
 iteP x (K (AV.sc (Value.bool true))) (K (AV.sc (Value.bool false))))
 (iteP (op == (8 : Int))
 (True ∧
 ∀ (x : Bool),
 x = wB y (1 : Int) (4096 : Int) →
 iteP x (K (AV.sc (Value.bool true))) (K (AV.sc (Value.bool false))))
 (iteP (op == (35 : Int))
 (True ∧
 ∀ (x : Bool),
 x = wB y (1 : Int) (4096 : Int) →
 iteP x (K (AV.sc (Value.bool true))) (K (AV.sc (Value.bool false))))
 (iteP (op == (36 : Int))
 (True ∧
 ∀ (x : Bool),
 x = wB y (1 : Int) (4096 : Int) →
 iteP x (K (AV.sc (Value.bool true))) (K (AV.sc (Value.bool false))))
 (iteP (op == (11 : Int))
 (True ∧
 ∀ (x_4 : Bool),
 x_4 = wB y (0 : Int) (6 : Int) →
 iteP x_4
 (iteP (op == (12 : Int)) (K (AV.sc (Value.bool true)))
 (iteP (decide ((-1 : Int) ≤ x)) (K (AV.sc (Value.bool true)))
 (K (AV.sc (Value.bool false)))))
 (K (AV.sc (Value.bool false))))
 (iteP (op == (12 : Int))
 (True ∧
 ∀ (x_4 : Bool),
 x_4 = wB y (0 : Int) (6 : Int) →
 iteP x_4
 (iteP (op == (12 : Int)) (K (AV.sc (Value.bool true)))
 (iteP (decide ((-1 : Int) ≤ x)) (K (AV.sc (Value.bool true)))
 (K (AV.sc (Value.bool false)))))
 (K (AV.sc (Value.bool false))))
 (iteP (op == (13 : Int))
 (True ∧
 ∀ (x_4 : Bool),
 x_4 = wB y (0 : Int) (6 : Int) →
 iteP x_4
 (iteP (op == (12 : Int)) (K (AV.sc (Value.bool true)))
 (iteP (decide ((-1 : Int) ≤ x)) (K (AV.sc (Value.bool true)))
 (K (AV.sc (Value.bool false)))))
 (K (AV.sc (Value.bool false))))
 (iteP (op == (14 : Int))
 (True ∧
 ∀ (x_4 : Bool),
 x_4 = wB y (1 : Int) (4 : Int) →
 iteP x_4
 (iteP (op == (15 : Int)) (K (AV.sc (Value.bool true)))
 (iteP (decide ((-1 : Int) ≤ x)) (K (AV.sc (Value.bool true)))
 (K (AV.sc (Value.bool false)))))
 (K (AV.sc (Value.bool false))))
 (iteP (op == (15 : Int))
 (True ∧
 ∀ (x_4 : Bool),
 x_4 = wB y (1 : Int) (4 : Int) →
 iteP x_4
 (iteP (op == (15 : Int)) (K (AV.sc (Value.bool true)))
 (iteP (decide ((-1 : Int) ≤ x)) (K (AV.sc (Value.bool true)))
 (K (AV.sc (Value.bool false)))))
 (K (AV.sc (Value.bool false))))
 (iteP (op == (16 : Int))
 (True ∧
 ∀ (x_4 : Bool),
 x_4 = wB y (1 : Int) (4 : Int) →
 iteP x_4
 (iteP (op == (15 : Int)) (K (AV.sc (Value.bool true)))
 (iteP (decide ((-1 : Int) ≤ x)) (K (AV.sc (Value.bool true)))
 (K (AV.sc (Value.bool false)))))
 (K (AV.sc (Value.bool false))))
 (iteP (op == (17 : Int))
 (True ∧
 ∀ (x : Bool),
 x = wB y (0 : Int) (1 : Int) →
 iteP x (K (AV.sc (Value.bool true)))
 (K (AV.sc (Value.bool false))))
 (iteP (op == (44 : Int))
 (True ∧
 ∀ (x : Bool),
 x = wB y (0 : Int) (1 : Int) →
 iteP x (K (AV.sc (Value.bool true)))
 (K (AV.sc (Value.bool false))))
 (iteP (op == (18 : Int))
 (True ∧
 ∀ (x : Bool),
 x = wB y (1 : Int) (12 : Int) →
 iteP x (K (AV.sc (Value.bool true)))
 (K (AV.sc (Value.bool false))))
 (iteP (op == (20 : Int))
 (True ∧
 ∀ (x : Bool),
 x = wB y (1 : Int) (3 : Int) →
 iteP x (K (AV.sc (Value.bool true)))
 (K (AV.sc (Value.bool false))))
 (iteP (op == (30 : Int))
 (True ∧
 ∀ (x_4 : Bool),
 x_4 = wB y (0 : Int) (3 : Int) →
 iteP x_4
 (iteP (decide ((-1 : Int) ≤ x))
 (K (AV.sc (Value.bool true)))
 (K (AV.sc (Value.bool false))))
 (K (AV.sc (Value.bool false))))
 (iteP (op == (33 : Int))
 (True ∧
 ∀ (x_4 : Bool),
 x_4 = wB y (1 : Int) (7 : Int) →
 iteP x_4
 (iteP (y != (4 : Int))
 (iteP (decide ((-1 : Int) ≤ x))
 (K (AV.sc (Value.bool true)))
 (K (AV.sc (Value.bool false))))
 (K (AV.sc (Value.bool false))))
 (K (AV.sc (Value.bool false))))
 (iteP (op == (45 : Int))
 (True ∧
 ∀ (x : Bool),
 x =
 wB y (0 : Int)
 (IntKind.i64.wrap (r - (1 : Int))) →
 iteP x (K (AV.sc (Value.bool true)))
 (K (AV.sc (Value.bool false))))
 (iteP (op == (46 : Int))
 (True ∧
 ∀ (x : Bool),
 x =
 wB y (0 : Int)
 (IntKind.i64.wrap (r - (1 : Int))) →
 iteP x (K (AV.sc (Value.bool true)))
 (K (AV.sc (Value.bool false))))
 (iteP (op == (47 : Int))
 (True ∧
 ∀ (x : Bool),
 x =
 wB y (0 : Int)
 (IntKind.i64.wrap (r - (1 : Int))) →
 iteP x (K (AV.sc (Value.bool true)))
 (K (AV.sc (Value.bool false))))
 (iteP (op == (31 : Int))
 (True ∧
 ∀ (x : Int × Int × Bool),
 x = builtF t →
 iteP x.snd.snd
 (IsL
 [(109 : UInt8), (97 : UInt8),
 (116 : UInt8), (99 : UInt8),
 (104 : UInt8), (32 : UInt8),
 (115 : UInt8), (112 : UInt8),
 (108 : UInt8), (105 : UInt8),
 (116 : UInt8), (32 : UInt8),
 (115 : UInt8), (117 : UInt8),
 (98 : UInt8), (32 : UInt8),
 (103 : UInt8), (115 : UInt8),
 (117 : UInt8), (98 : UInt8)]
 tSpec ∧
 ∀ (x_4 : Int),
 x_4 = placeF t →
 iteP (decide ((0 : Int) < x_4))
 (K (AV.sc (Value.bool false)))
 (iteP (decide ((1 : Int) ≤ y))
 (True ∧
 ∀ (x_5 : Bool),
 x_5 = wB y x.fst x.snd.fst →
 iteP x_5
 (K
 (AV.sc
 (Value.bool true)))
 (K
 (AV.sc
 (Value.bool false))))
 (K (AV.sc (Value.bool false)))))
 (IsL
 [(109 : UInt8), (97 : UInt8),
 (116 : UInt8), (99 : UInt8),
 (104 : UInt8), (32 : UInt8),
 (115 : UInt8), (112 : UInt8),
 (108 : UInt8), (105 : UInt8),
 (116 : UInt8), (32 : UInt8),
 (115 : UInt8), (117 : UInt8),
 (98 : UInt8), (32 : UInt8),
 (103 : UInt8), (115 : UInt8),
 (117 : UInt8), (98 : UInt8)]
 tSpec ∧
 ∀ (x : Int),
 x = placeF t →
 iteP (decide ((0 : Int) < x))
 (K (AV.sc (Value.bool false)))
 (K (AV.sc (Value.bool false)))))
 (iteP (op == (6 : Int))
 (iteP (decide ((-1 : Int) ≤ x))
 (K (AV.sc (Value.bool true)))
 (K (AV.sc (Value.bool false))))
 (iteP (op == (9 : Int))
 (iteP (decide ((-1 : Int) ≤ x))
 (K (AV.sc (Value.bool true)))
 (K (AV.sc (Value.bool false))))
 (iteP (op == (10 : Int))
 (iteP (decide ((-1 : Int) ≤ x))
 (K (AV.sc (Value.bool true)))
 (K (AV.sc (Value.bool false))))
 (iteP (op == (26 : Int))
 (iteP (decide ((-1 : Int) ≤ x))
 (K (AV.sc (Value.bool true)))
 (K (AV.sc (Value.bool false))))
 (iteP (op == (32 : Int))
 (iteP (decide ((-1 : Int) ≤ x))
 (K (AV.sc (Value.bool true)))
 (K (AV.sc (Value.bool false))))
 (iteP (op == (38 : Int))
 (iteP (decide ((-1 : Int) ≤ x))
 (K (AV.sc (Value.bool true)))
 (K (AV.sc (Value.bool false))))
 (iteP (op == (41 : Int))
 (iteP (decide ((-1 : Int) ≤ x))
 (K (AV.sc (Value.bool true)))
 (K (AV.sc (Value.bool false))))
 (iteP (op == (42 : Int))
 (iteP (decide ((-1 : Int) ≤ x))
 (K (AV.sc (Value.bool true)))
 (K (AV.sc (Value.bool false))))
 (K
 (AV.sc
 (Value.bool
 true)))))))))))))))))))))))))))))))))
 (K (AV.sc (Value.bool false))))
 (iteP (op == (28 : Int))
 (True ∧
 ∀ (x_3 : Bool),
 x_3 = wB x (0 : Int) (IntKind.i64.wrap ((↑(List.length sf) : Int) - (1 : Int))) →
 iteP x_3 (K (AV.sc (Value.bool true))) (K (AV.sc (Value.bool false))))
 (iteP (op == (37 : Int))
 (True ∧
 ∀ (x_3 : Bool),
 x_3 = wB x (0 : Int) (2 : Int) →
 iteP x_3 (K (AV.sc (Value.bool true))) (K (AV.sc (Value.bool false))))
 (iteP (op == (2 : Int))
 (True ∧
 ∀ (x : Bool),
 x = wB nm (-10000000000000 : Int) (10000000000000 : Int) →
 iteP x (K (AV.sc (Value.bool true))) (K (AV.sc (Value.bool false))))
 (iteP (op == (8 : Int))
 (True ∧
 ∀ (x : Bool),
 x = wB y (1 : Int) (4096 : Int) →
 iteP x (K (AV.sc (Value.bool true))) (K (AV.sc (Value.bool false))))
 (iteP (op == (35 : Int))
 (True ∧
 ∀ (x : Bool),
 x = wB y (1 : Int) (4096 : Int) →
 iteP x (K (AV.sc (Value.bool true))) (K (AV.sc (Value.bool false))))
 (iteP (op == (36 : Int))
 (True ∧
 ∀ (x : Bool),
 x = wB y (1 : Int) (4096 : Int) →
 iteP x (K (AV.sc (Value.bool true))) (K (AV.sc (Value.bool false))))
 (iteP (op == (11 : Int))
 (True ∧
 ∀ (x_3 : Bool),
 x_3 = wB y (0 : Int) (6 : Int) →
 iteP x_3
 (iteP (op == (12 : Int)) (K (AV.sc (Value.bool true)))
 (iteP (decide ((-1 : Int) ≤ x)) (K (AV.sc (Value.bool true)))
 (K (AV.sc (Value.bool false)))))
 (K (AV.sc (Value.bool false))))
 (iteP (op == (12 : Int))
 (True ∧
 ∀ (x_3 : Bool),
 x_3 = wB y (0 : Int) (6 : Int) →
 iteP x_3
 (iteP (op == (12 : Int)) (K (AV.sc (Value.bool true)))
 (iteP (decide ((-1 : Int) ≤ x)) (K (AV.sc (Value.bool true)))
 (K (AV.sc (Value.bool false)))))
 (K (AV.sc (Value.bool false))))
 (iteP (op == (13 : Int))
 (True ∧
 ∀ (x_3 : Bool),
 x_3 = wB y (0 : Int) (6 : Int) →
 iteP x_3
 (iteP (op == (12 : Int)) (K (AV.sc (Value.bool true)))
 (iteP (decide ((-1 : Int) ≤ x)) (K (AV.sc (Value.bool true)))
 (K (AV.sc (Value.bool false)))))
 (K (AV.sc (Value.bool false))))
 (iteP (op == (14 : Int))
 (True ∧
 ∀ (x_3 : Bool),
 x_3 = wB y (1 : Int) (4 : Int) →
 iteP x_3
 (iteP (op == (15 : Int)) (K (AV.sc (Value.bool true)))
 (iteP (decide ((-1 : Int) ≤ x)) (K (AV.sc (Value.bool true)))
 (K (AV.sc (Value.bool false)))))
 (K (AV.sc (Value.bool false))))
 (iteP (op == (15 : Int))
 (True ∧
 ∀ (x_3 : Bool),
 x_3 = wB y (1 : Int) (4 : Int) →
 iteP x_3
 (iteP (op == (15 : Int)) (K (AV.sc (Value.bool true)))
 (iteP (decide ((-1 : Int) ≤ x)) (K (AV.sc (Value.bool true)))
 (K (AV.sc (Value.bool false)))))
 (K (AV.sc (Value.bool false))))
 (iteP (op == (16 : Int))
 (True ∧
 ∀ (x_3 : Bool),
 x_3 = wB y (1 : Int) (4 : Int) →
 iteP x_3
 (iteP (op == (15 : Int)) (K (AV.sc (Value.bool true)))
 (iteP (decide ((-1 : Int) ≤ x)) (K (AV.sc (Value.bool true)))
 (K (AV.sc (Value.bool false)))))
 (K (AV.sc (Value.bool false))))
 (iteP (op == (17 : Int))
 (True ∧
 ∀ (x : Bool),
 x = wB y (0 : Int) (1 : Int) →
 iteP x (K (AV.sc (Value.bool true))) (K (AV.sc (Value.bool false))))
 (iteP (op == (44 : Int))
 (True ∧
 ∀ (x : Bool),
 x = wB y (0 : Int) (1 : Int) →
 iteP x (K (AV.sc (Value.bool true))) (K (AV.sc (Value.bool false))))
 (iteP (op == (18 : Int))
 (True ∧
 ∀ (x : Bool),
 x = wB y (1 : Int) (12 : Int) →
 iteP x (K (AV.sc (Value.bool true))) (K (AV.sc (Value.bool false))))
 (iteP (op == (20 : Int))
 (True ∧
 ∀ (x : Bool),
 x = wB y (1 : Int) (3 : Int) →
 iteP x (K (AV.sc (Value.bool true)))
 (K (AV.sc (Value.bool false))))
 (iteP (op == (30 : Int))
 (True ∧
 ∀ (x_3 : Bool),
 x_3 = wB y (0 : Int) (3 : Int) →
 iteP x_3
 (iteP (decide ((-1 : Int) ≤ x)) (K (AV.sc (Value.bool true)))
 (K (AV.sc (Value.bool false))))
 (K (AV.sc (Value.bool false))))
 (iteP (op == (33 : Int))
 (True ∧
 ∀ (x_3 : Bool),
 x_3 = wB y (1 : Int) (7 : Int) →
 iteP x_3
 (iteP (y != (4 : Int))
 (iteP (decide ((-1 : Int) ≤ x))
 (K (AV.sc (Value.bool true)))
 (K (AV.sc (Value.bool false))))
 (K (AV.sc (Value.bool false))))
 (K (AV.sc (Value.bool false))))
 (iteP (op == (45 : Int))
 (True ∧
 ∀ (x : Bool),
 x = wB y (0 : Int) (IntKind.i64.wrap (r - (1 : Int))) →
 iteP x (K (AV.sc (Value.bool true)))
 (K (AV.sc (Value.bool false))))
 (iteP (op == (46 : Int))
 (True ∧
 ∀ (x : Bool),
 x = wB y (0 : Int) (IntKind.i64.wrap (r - (1 : Int))) →
 iteP x (K (AV.sc (Value.bool true)))
 (K (AV.sc (Value.bool false))))
 (iteP (op == (47 : Int))
 (True ∧
 ∀ (x : Bool),
 x = wB y (0 : Int) (IntKind.i64.wrap (r - (1 : Int))) →
 iteP x (K (AV.sc (Value.bool true)))
 (K (AV.sc (Value.bool false))))
 (iteP (op == (31 : Int))
 (True ∧
 ∀ (x : Int × Int × Bool),
 x = builtF t →
 iteP x.snd.snd
 (IsL
 [(109 : UInt8), (97 : UInt8), (116 : UInt8),
 (99 : UInt8), (104 : UInt8), (32 : UInt8),
 (115 : UInt8), (112 : UInt8), (108 : UInt8),
 (105 : UInt8), (116 : UInt8), (32 : UInt8),
 (115 : UInt8), (117 : UInt8), (98 : UInt8),
 (32 : UInt8), (103 : UInt8), (115 : UInt8),
 (117 : UInt8), (98 : UInt8)]
 tSpec ∧
 ∀ (x_3 : Int),
 x_3 = placeF t →
 iteP (decide ((0 : Int) < x_3))
 (K (AV.sc (Value.bool false)))
 (iteP (decide ((1 : Int) ≤ y))
 (True ∧
 ∀ (x_4 : Bool),
 x_4 = wB y x.fst x.snd.fst →
 iteP x_4
 (K (AV.sc (Value.bool true)))
 (K (AV.sc (Value.bool false))))
 (K (AV.sc (Value.bool false)))))
 (IsL
 [(109 : UInt8), (97 : UInt8), (116 : UInt8),
 (99 : UInt8), (104 : UInt8), (32 : UInt8),
 (115 : UInt8), (112 : UInt8), (108 : UInt8),
 (105 : UInt8), (116 : UInt8), (32 : UInt8),
 (115 : UInt8), (117 : UInt8), (98 : UInt8),
 (32 : UInt8), (103 : UInt8), (115 : UInt8),
 (117 : UInt8), (98 : UInt8)]
 tSpec ∧
 ∀ (x : Int),
 x = placeF t →
 iteP (decide ((0 : Int) < x))
 (K (AV.sc (Value.bool false)))
 (K (AV.sc (Value.bool false)))))
 (iteP (op == (6 : Int))
 (iteP (decide ((-1 : Int) ≤ x))
 (K (AV.sc (Value.bool true)))
 (K (AV.sc (Value.bool false))))
 (iteP (op == (9 : Int))
 (iteP (decide ((-1 : Int) ≤ x))
 (K (AV.sc (Value.bool true)))
 (K (AV.sc (Value.bool false))))
 (iteP (op == (10 : Int))
 (iteP (decide ((-1 : Int) ≤ x))
 (K (AV.sc (Value.bool true)))
 (K (AV.sc (Value.bool false))))
 (iteP (op == (26 : Int))
 (iteP (decide ((-1 : Int) ≤ x))
 (K (AV.sc (Value.bool true)))
 (K (AV.sc (Value.bool false))))
 (iteP (op == (32 : Int))
 (iteP (decide ((-1 : Int) ≤ x))
 (K (AV.sc (Value.bool true)))
 (K (AV.sc (Value.bool false))))
 (iteP (op == (38 : Int))
 (iteP (decide ((-1 : Int) ≤ x))
 (K (AV.sc (Value.bool true)))
 (K (AV.sc (Value.bool false))))
 (iteP (op == (41 : Int))
 (iteP (decide ((-1 : Int) ≤ x))
 (K (AV.sc (Value.bool true)))
 (K (AV.sc (Value.bool false))))
 (iteP (op == (42 : Int))
 (iteP (decide ((-1 : Int) ≤ x))
 (K (AV.sc (Value.bool true)))
 (K (AV.sc (Value.bool false))))
 (K
 (AV.sc
 (Value.bool
 true))))))))))))))))))))))))))))))))))
 (K (AV.sc (Value.bool false)))) :
 (fun (M : Int) (si sf : Cells) (b e n r : Int) (op x y nm : Int) (t : List UInt8) (a : Int) (K : AV → Prop) => wpCall T35 (cfg M) Tryz.prog 100 35 [codeA si sf b e n r, .agg [iA op, iA x, iA y, iA nm, aStr t, iA a]] heapF fun r h' => wpBack h' r K) M si sf b e n r op x y nm t a K :=
 Eq.mp (by kernel_rfl) h
end
end Go.Proofs.Sp.Sj
namespace Go.Proofs.Sp
open Go Go.Ef Go.Proofs.Pt
noncomputable section
def J9 (si sf : Cells) (b e n r : Int) (o : List UInt8) (i : Int) : St := stOf 124 [(1, .lp 0 0), (3, sStr o), (4, sInt i)] [.cells (codeC si sf b e n r)] heapF
def Y9 (si sf : Cells) (b e n r : Int) (o : List UInt8) : St := stOf 124 [(1, .lp 0 0), (3, sStr o)] [.cells (codeC si sf b e n r)] heapF
def J9i (si sf : Cells) (b e n r : Int) (o : List UInt8) (i : Int) : St := stOf 124 [(1, .lp 0 0), (3, sStr o), (7, sInt i)] [.cells (codeC si sf b e n r)] heapF
def Y9i (si sf : Cells) (b e n r : Int) (o : List UInt8) : St := stOf 124 [(3, sStr o)] [.cells (codeC si sf b e n r)] heapF
structure PP (o : List UInt8) (ps bs : Cells) (j : Int) : Prop where
 jz : j = 0
 pz : ∃ l, ps = rowS l ∧ (∀ p ∈ l, Small p) ∧ l.length ≤ 1048576
 bz : ∃ m, bs = rowO m
 oz : o.length ≤ 1000000000000
structure RP (o : List UInt8) (ps bs : Cells) (q : List UInt8) : Prop where
 is : ∀ l m, ps = rowS l → bs = rowO m → q = o ++ Lib.joinTail [32] (wordsT l m l.length)
structure PFr (o : List UInt8) (sf : Cells) (i : Int) : Prop where
 iz : i = 0
 is : ∃ l, sf = rowF l ∧ Funs l
 oz : o.length ≤ 1000
structure FRes (o : List UInt8) (sf : Cells) (q : List UInt8) : Prop where
 is : ∀ l, sf = rowF l → q = o ++ l.flatMap funT
def L9r (σ : St) : Option LSpec := some { pre := σ.tidy [1, 3, 4] 1 = J9 (lcE σ 0 0) (lcE σ 0 1) (lcI σ 0 2) (lcI σ 0 3) (lcI σ 0 4) (lcI σ 0 5) (slS σ 3) (slI σ 4) ∧ PFr (slS σ 3) (lcE σ 0 1) (slI σ 4), alts := [{ α := List UInt8, post := fun q => FRes (slS σ 3) (lcE σ 0 1) q, ex := .exit 0, st := fun q => Y9 (lcE σ 0 0) (lcE σ 0 1) (lcI σ 0 2) (lcI σ 0 3) (lcI σ 0 4) (lcI σ 0 5) q }] }
structure PIr (o : List UInt8) (si : Cells) (i : Int) : Prop where
 iz : i = 0
 is : ∃ l, si = rowI l ∧ Inss l
 oz : o.length ≤ 100000000
structure IRes (o : List UInt8) (si : Cells) (q : List UInt8) : Prop where
 is : ∀ l, si = rowI l → q = o ++ (List.range l.length).flatMap (insT l)
def L9s (σ : St) : Option LSpec := some { pre := σ.tidy [1, 3, 7] 1 = J9i (lcE σ 0 0) (lcE σ 0 1) (lcI σ 0 2) (lcI σ 0 3) (lcI σ 0 4) (lcI σ 0 5) (slS σ 3) (slI σ 7) ∧ PIr (slS σ 3) (lcE σ 0 0) (slI σ 7), alts := [{ α := List UInt8, post := fun q => IRes (slS σ 3) (lcE σ 0 0) q, ex := .exit 4, st := fun q => Y9i (lcE σ 0 0) (lcE σ 0 1) (lcI σ 0 2) (lcI σ 0 3) (lcI σ 0 4) (lcI σ 0 5) q }] }
def T9 : Tab := ((tab0.addC 24 C24).addL 9 4 L9r).addL 9 16 L9s
def C9 := C8
end
end Go.Proofs.Sp
namespace Go.Proofs.Sp
open Go Go.Ef Go.Proofs.Pt
noncomputable section
set_option maxRecDepth 100000
theorem v9 (M : Int) (si : Cells) (sf : Cells) (b : Int) (e : Int) (n : Int) (r : Int) (K : AV → Prop) (h :
 I64 b ∧
 ∀ (x : List UInt8),
 x = Lib.itoa b →
 iteP (strFits [(98 : UInt8), (101 : UInt8), (103 : UInt8), (105 : UInt8), (110 : UInt8), (32 : UInt8)] x)
 (iteP
 (strFits ([(98 : UInt8), (101 : UInt8), (103 : UInt8), (105 : UInt8), (110 : UInt8), (32 : UInt8)] ++ x)
 [(10 : UInt8), (101 : UInt8), (97 : UInt8), (99 : UInt8), (104 : UInt8), (32 : UInt8)])
 (I64 e ∧
 ∀ (x_1 : List UInt8),
 x_1 = Lib.itoa e →
 iteP
 (strFits
 ([(98 : UInt8), (101 : UInt8), (103 : UInt8), (105 : UInt8), (110 : UInt8), (32 : UInt8)] ++ x ++
 [(10 : UInt8), (101 : UInt8), (97 : UInt8), (99 : UInt8), (104 : UInt8), (32 : UInt8)])
 x_1)
 (iteP
 (strFits
 ([(98 : UInt8), (101 : UInt8), (103 : UInt8), (105 : UInt8), (110 : UInt8), (32 : UInt8)] ++ x ++
 [(10 : UInt8), (101 : UInt8), (97 : UInt8), (99 : UInt8), (104 : UInt8), (32 : UInt8)] ++
 x_1)
 [(10 : UInt8), (101 : UInt8), (110 : UInt8), (100 : UInt8), (32 : UInt8)])
 (I64 n ∧
 ∀ (x_2 : List UInt8),
 x_2 = Lib.itoa n →
 iteP
 (strFits
 ([(98 : UInt8), (101 : UInt8), (103 : UInt8), (105 : UInt8), (110 : UInt8),
 (32 : UInt8)] ++
 x ++
 [(10 : UInt8), (101 : UInt8), (97 : UInt8), (99 : UInt8), (104 : UInt8),
 (32 : UInt8)] ++
 x_1 ++
 [(10 : UInt8), (101 : UInt8), (110 : UInt8), (100 : UInt8), (32 : UInt8)])
 x_2)
 (iteP
 (strFits
 ([(98 : UInt8), (101 : UInt8), (103 : UInt8), (105 : UInt8), (110 : UInt8),
 (32 : UInt8)] ++
 x ++
 [(10 : UInt8), (101 : UInt8), (97 : UInt8), (99 : UInt8), (104 : UInt8),
 (32 : UInt8)] ++
 x_1 ++
 [(10 : UInt8), (101 : UInt8), (110 : UInt8), (100 : UInt8), (32 : UInt8)] ++
 x_2)
 [(10 : UInt8), (114 : UInt8), (97 : UInt8), (110 : UInt8), (103 : UInt8), (101 : UInt8),
 (115 : UInt8), (32 : UInt8)])
 (I64 r ∧
 ∀ (x_3 : List UInt8),
 x_3 = Lib.itoa r →
 iteP
 (strFits
 ([(98 : UInt8), (101 : UInt8), (103 : UInt8), (105 : UInt8), (110 : UInt8),
 (32 : UInt8)] ++
 x ++
 [(10 : UInt8), (101 : UInt8), (97 : UInt8), (99 : UInt8),
 (104 : UInt8), (32 : UInt8)] ++
 x_1 ++
 [(10 : UInt8), (101 : UInt8), (110 : UInt8), (100 : UInt8),
 (32 : UInt8)] ++
 x_2 ++
 [(10 : UInt8), (114 : UInt8), (97 : UInt8), (110 : UInt8), (103 : UInt8),
 (101 : UInt8), (115 : UInt8), (32 : UInt8)])
 x_3)
 (iteP
 (strFits
 ([(98 : UInt8), (101 : UInt8), (103 : UInt8), (105 : UInt8), (110 : UInt8),
 (32 : UInt8)] ++
 x ++
 [(10 : UInt8), (101 : UInt8), (97 : UInt8), (99 : UInt8),
 (104 : UInt8), (32 : UInt8)] ++
 x_1 ++
 [(10 : UInt8), (101 : UInt8), (110 : UInt8), (100 : UInt8),
 (32 : UInt8)] ++
 x_2 ++
 [(10 : UInt8), (114 : UInt8), (97 : UInt8), (110 : UInt8), (103 : UInt8),
 (101 : UInt8), (115 : UInt8), (32 : UInt8)] ++
 x_3)
 [(10 : UInt8)])
 (loopAt Tryz.prog (9 : Nat) (4 : Nat) = loopAt Tryz.prog (9 : Nat) (4 : Nat) ∧
 (J9 si sf b e n r
 ([(98 : UInt8), (101 : UInt8), (103 : UInt8), (105 : UInt8),
 (110 : UInt8), (32 : UInt8)] ++
 x ++
 [(10 : UInt8), (101 : UInt8), (97 : UInt8),
 (99 : UInt8), (104 : UInt8), (32 : UInt8)] ++
 x_1 ++
 [(10 : UInt8), (101 : UInt8), (110 : UInt8), (100 : UInt8),
 (32 : UInt8)] ++
 x_2 ++
 [(10 : UInt8), (114 : UInt8), (97 : UInt8), (110 : UInt8),
 (103 : UInt8), (101 : UInt8), (115 : UInt8), (32 : UInt8)] ++
 x_3 ++
 [(10 : UInt8)])
 (0 : Int) =
 J9 si sf b e n r
 ([(98 : UInt8), (101 : UInt8), (103 : UInt8), (105 : UInt8),
 (110 : UInt8), (32 : UInt8)] ++
 x ++
 [(10 : UInt8), (101 : UInt8), (97 : UInt8),
 (99 : UInt8), (104 : UInt8), (32 : UInt8)] ++
 x_1 ++
 [(10 : UInt8), (101 : UInt8), (110 : UInt8), (100 : UInt8),
 (32 : UInt8)] ++
 x_2 ++
 [(10 : UInt8), (114 : UInt8), (97 : UInt8), (110 : UInt8),
 (103 : UInt8), (101 : UInt8), (115 : UInt8), (32 : UInt8)] ++
 x_3 ++
 [(10 : UInt8)])
 (0 : Int) ∧
 PFr
 ([(98 : UInt8), (101 : UInt8), (103 : UInt8), (105 : UInt8),
 (110 : UInt8), (32 : UInt8)] ++
 x ++
 [(10 : UInt8), (101 : UInt8), (97 : UInt8), (99 : UInt8),
 (104 : UInt8), (32 : UInt8)] ++
 x_1 ++
 [(10 : UInt8), (101 : UInt8), (110 : UInt8), (100 : UInt8),
 (32 : UInt8)] ++
 x_2 ++
 [(10 : UInt8), (114 : UInt8), (97 : UInt8), (110 : UInt8),
 (103 : UInt8), (101 : UInt8), (115 : UInt8), (32 : UInt8)] ++
 x_3 ++
 [(10 : UInt8)])
 sf (0 : Int)) ∧
 ∀ (x_4 : List UInt8),
 FRes
 ([(98 : UInt8), (101 : UInt8), (103 : UInt8), (105 : UInt8),
 (110 : UInt8), (32 : UInt8)] ++
 x ++
 [(10 : UInt8), (101 : UInt8), (97 : UInt8),
 (99 : UInt8), (104 : UInt8), (32 : UInt8)] ++
 x_1 ++
 [(10 : UInt8), (101 : UInt8), (110 : UInt8), (100 : UInt8),
 (32 : UInt8)] ++
 x_2 ++
 [(10 : UInt8), (114 : UInt8), (97 : UInt8), (110 : UInt8),
 (103 : UInt8), (101 : UInt8), (115 : UInt8), (32 : UInt8)] ++
 x_3 ++
 [(10 : UInt8)])
 sf x_4 →
 loopAt Tryz.prog (9 : Nat) (16 : Nat) =
 loopAt Tryz.prog (9 : Nat) (16 : Nat) ∧
 (J9i si sf b e n r x_4 (0 : Int) = J9i si sf b e n r x_4 (0 : Int) ∧
 PIr x_4 si (0 : Int)) ∧
 ∀ (x : List UInt8),
 IRes x_4 si x →
 K (AV.sc (Value.string (ByteArray.mk (Array.mk x)))))
 False)
 False)
 False)
 False)
 False)
 False)
 False)
 False) :
 (fun (M : Int) (si sf : Cells) (b e n r : Int) (K : AV → Prop) => wpCall T9 (cfg M) Tryz.prog 80 9 [codeA si sf b e n r] heapF fun r h' => wpBack h' r K) M si sf b e n r K :=
 Eq.mp (by kernel_rfl) h
end
end Go.Proofs.Sp
namespace Go.Proofs.Sp
open Go Go.Ef Go.Proofs.Pt
noncomputable section
def C7 (args : List AV) (h : Heap) : Option CSpec :=
 match args with
 | [] => some (fspec True (bA true) h)
 | _ => none
def T4 : Tab := ((tab0.addC 9 C9).addC 8 C8).addC 7 C7
end
end Go.Proofs.Sp
namespace Go.Proofs.Sp
open Go Go.Ef Go.Proofs.Pt
noncomputable section
set_option maxRecDepth 100000
theorem v4 (M : Int) (si : Cells) (sf : Cells) (b : Int) (e : Int) (n : Int) (r : Int) (K : AV → Prop) (h :
 CodeOk si sf b e n r ∧
 ∀ (x : List UInt8),
 Printed si sf b e n r x →
 CodeOk si sf b e n r ∧
 ∀ (x_1 : List UInt8),
 Printed si sf b e n r x_1 →
 iteP (decide (x = x_1)) (True ∧ ∀ (_ : Unit), True → K (AV.sc (Value.bool true)))
 (K (AV.sc (Value.bool false)))) :
 (fun (M : Int) (si sf : Cells) (b e n r : Int) (K : AV → Prop) => wpCall T4 (cfg M) Tryz.prog 80 4 [codeA si sf b e n r] heap0 fun r _ => K r) M si sf b e n r K :=
 Eq.mp (by kernel_rfl) h
end
end Go.Proofs.Sp
namespace Go.Proofs.Sp
open Go Go.Ef Go.RowKit Go.Proofs.Pt
noncomputable section
set_option maxRecDepth 100000
variable {M : Int}
theorem awake_call (h : Heap) : callP (cfg M) (evCall (cfg M) Tryz.prog 1000) 7 [] h = some (bA true, h) := by
 obtain ⟨h', e⟩ := yes_spec (awake_ev M)
 have hf : (cfg M).fresh 7 = true := by kernel_rfl
 unfold callP
 rw [show (cfg M).prim 7 = none from rfl]
 simp only []
 rw [hf]
 show (match mapO (stripA 8) [] with
  | some args' => match evCall (cfg M) Tryz.prog 1000 7 args' heapF with
   | some (r, h') => (match strip 8 h' r with | some r' => some (r', h) | none => none)
   | none => none
  | none => none) = _
 show (match evCall (cfg M) Tryz.prog 1000 7 [] heapF with
   | some (r, h') => (match strip 8 h' r with | some r' => some (r', h) | none => none)
   | none => none) = _
 rw [e]
 rfl
theorem ok7 {T : Tab} (O : Ok M T) : Ok M (T.addC 7 C7) := by
 refine addC_ok O fun args h s hs hp => ?_
 unfold C7 at hs
 split at hs
 ·cases hs
  exact ⟨_, List.mem_singleton.2 rfl, (), 1000, trivial, awake_call h⟩
 ·cases hs
end
end Go.Proofs.Sp
namespace Go.Proofs.Sp.Sj
open Go Go.Ef Go.Proofs.Pt
noncomputable section
set_option maxRecDepth 100000
variable {M : Int}
theorem exact62_ok {T : Tab} (O : Ok M T) : Ok M (exact62 T) := ⟨O.call, O.loop⟩
theorem lf {K : AV → Prop} {b c : Bool} (hK : K (bA b)) (h : b = c) : K (.sc (.bool c)) := h ▸ hK
theorem lfi {K : AV → Prop} {b c : Int} (hK : K (iA b)) (h : b = c) : K (.sc (.int .i64 c)) := h ▸ hK
theorem lft {K : AV → Prop} {b : Int × Int × Bool} {x y : Int} {z : Bool} (hK : K (triA b)) (h : b = (x, y, z)) : K (.tup [.sc (.int .i64 x), .sc (.int .i64 y), .sc (.bool z)]) := by subst h; exact hK
theorem wrap_len {n : Nat} (h : n ≤ 1048576) : IntKind.i64.wrap ((n : Int) - 1) = (n : Int) - 1 := wrap_in (by omega) (by omega)
theorem wrap_r {r : Int} (h0 : 0 ≤ r) (h1 : r ≤ 4096) : IntKind.i64.wrap (r - 1) = r - 1 := wrap_in (by omega) (by omega)
theorem freshK {T T' : Tab} (O : Ok M T) (O' : Ok M T') {g : FuncId} {C : List AV → Heap → Option CSpec} {n : Nat} (hf : (cfg M).fresh g = true) (hp : (cfg M).prim g = none)
  (H : ∀ args h s, C args h = some s → mapO (stripA 8) args = some args ∧ ∃ (α : Type) (pre : Prop) (r : α) (val : α → AV), s = nspec pre r val h ∧ (pre → ∀ K : AV → Prop, K (val r) → wpCall T' (cfg M) Tryz.prog n g args heapF fun r' h' => wpBack h' r' K)) : Ok M (T.addC g C) := by
 refine addC_ok O fun args h s hs hpre => ?_
 obtain ⟨ha, α, pre, r, val, rfl, hw⟩ := H args h s hs
 obtain ⟨m, v, h', e, rfl, rfl⟩ := EvP.freshV (g := g) (args := args) (h := h) (v := val r) O' (n := n) hf hp (args' := args) ha (hw hpre (fun v => v = val r) rfl)
 exact ⟨_, List.mem_singleton.2 rfl, r, m, rfl, e⟩
theorem ok10 {T : Tab} (O : Ok M T) : Ok M (T.addC 10 C10) := by
 refine freshK O ok0 (n := 60) (by kernel_rfl) rfl fun args h s hs => ?_
 unfold C10 at hs
 split at hs
 ·rename_i a lo hi
  cases hs
  refine ⟨rfl, _, _, _, _, rfl, fun _ K hK => v10 M a lo hi K ?_⟩
  repeat' (first | (refine ⟨trivial, ?_⟩; intro q hq; subst hq) | refine iti (fun hh => ?_) (fun hh => ?_))
  all_goals exact lf hK (by unfold wB; first | (simp_all; done) | (simp_all; omega))
 ·cases hs
theorem ok26 {T : Tab} (O : Ok M T) : Ok M (T.addC 26 C10) := by
 refine freshK O ok0 (n := 60) (by kernel_rfl) rfl fun args h s hs => ?_
 unfold C10 at hs
 split at hs
 ·rename_i a lo hi
  cases hs
  refine ⟨rfl, _, _, _, _, rfl, fun _ K hK => v26 M a lo hi K ?_⟩
  repeat' (first | (refine ⟨trivial, ?_⟩; intro q hq; subst hq) | refine iti (fun hh => ?_) (fun hh => ?_))
  all_goals exact lf hK (by unfold wB; first | (simp_all; done) | (simp_all; omega))
 ·cases hs
theorem ok29 {T : Tab} (O : Ok M T) : Ok M (T.addC 29 C29) := by
 refine freshK O ok0 (n := 60) (by kernel_rfl) rfl fun args h s hs => ?_
 unfold C29 at hs
 split at hs
 ·rename_i a
  cases hs
  refine ⟨rfl, _, _, _, _, rfl, fun _ K hK => v29 M a K ?_⟩
  repeat' (first | (refine ⟨trivial, ?_⟩; intro q hq; subst hq) | refine iti (fun hh => ?_) (fun hh => ?_))
  all_goals exact lf hK (by unfold wB; first | (simp_all; done) | (simp_all; omega))
 ·cases hs
theorem ok61 {T : Tab} (O : Ok M T) : Ok M (T.addC 61 C29) := by
 refine freshK O ok0 (n := 60) (by kernel_rfl) rfl fun args h s hs => ?_
 unfold C29 at hs
 split at hs
 ·rename_i a
  cases hs
  refine ⟨rfl, _, _, _, _, rfl, fun _ K hK => v61 M a K ?_⟩
  repeat' (first | (refine ⟨trivial, ?_⟩; intro q hq; subst hq) | refine iti (fun hh => ?_) (fun hh => ?_))
  all_goals exact lf hK (by unfold wB; first | (simp_all; done) | (simp_all; omega))
 ·cases hs
theorem ok31 {T : Tab} (O : Ok M T) : Ok M (T.addC 31 C31) := by
 refine freshK O ok0 (n := 60) (by kernel_rfl) rfl fun args h s hs => ?_
 unfold C31 at hs
 split at hs
 ·rename_i a
  cases hs
  refine ⟨rfl, _, _, _, _, rfl, fun _ K hK => v31 M a K ?_⟩
  repeat' (first | (refine ⟨trivial, ?_⟩; intro q hq; subst hq) | refine iti (fun hh => ?_) (fun hh => ?_))
  all_goals exact lf hK (by unfold aboutB; simp_all)
 ·cases hs
theorem ok60 {T : Tab} (O : Ok M T) : Ok M (T.addC 60 C60) := by
 refine freshK O ok0 (n := 60) (by kernel_rfl) rfl fun args h s hs => ?_
 unfold C60 at hs
 split at hs
 ·rename_i a
  cases hs
  refine ⟨rfl, _, _, _, _, rfl, fun _ K hK => v60 M a K ?_⟩
  repeat' (first | (refine ⟨trivial, ?_⟩; intro q hq; subst hq) | refine iti (fun hh => ?_) (fun hh => ?_))
  all_goals exact lf hK (by unfold targetB; simp_all)
 ·cases hs
theorem ok67 {T : Tab} (O : Ok M T) : Ok M (T.addC 67 C67) := by
 refine freshK O ok0 (n := 60) (by kernel_rfl) rfl fun args h s hs => ?_
 unfold C67 at hs
 split at hs
 ·rename_i a
  cases hs
  refine ⟨rfl, _, _, _, _, rfl, fun _ K hK => v67 M a K ?_⟩
  repeat' (first | (refine ⟨trivial, ?_⟩; intro q hq; subst hq) | refine iti (fun hh => ?_) (fun hh => ?_))
  all_goals exact lf hK (by unfold endsB; simp_all)
 ·cases hs
theorem ok65 {T : Tab} (O : Ok M T) : Ok M (T.addC 65 C65) := by
 refine freshK O ok0 (n := 60) (by kernel_rfl) rfl fun args h s hs => ?_
 unfold C65 at hs
 split at hs
 ·rename_i a b
  cases hs
  refine ⟨rfl, _, _, _, _, rfl, fun _ K hK => v65 M a b K ?_⟩
  repeat' (first | (refine ⟨trivial, ?_⟩; intro q hq; subst hq) | refine iti (fun hh => ?_) (fun hh => ?_))
  all_goals exact lf hK (by unfold partB; simp_all)
 ·cases hs
theorem ok30 {T : Tab} (O : Ok M T) : Ok M (T.addC 30 C30) := by
 refine freshK O ok0 (n := 60) (by kernel_rfl) rfl fun args h s hs => ?_
 unfold C30 at hs
 split at hs
 ·rename_i t
  obtain ⟨⟨t⟩⟩ := t
  cases hs
  refine ⟨rfl, _, _, _, _, rfl, fun _ K hK => v30 M t K ?_⟩
  replace hK : K (triA (builtF t)) := hK
  repeat' (first | (refine ⟨trivial, ?_⟩; intro q hq; subst hq) | refine iti (fun hh => ?_) (fun hh => ?_))
  all_goals exact lft hK (by unfold builtF tLength tSubstr tSplit tSub tGsub tIndex tMatch tLower tUpper tInt tSprintf; simp_all)
 ·cases hs
theorem ok32 {T : Tab} (O : Ok M T) : Ok M (T.addC 32 C32) := by
 refine freshK O (ok10 ok0) (n := 60) (by kernel_rfl) rfl fun args h s hs => ?_
 unfold C32 at hs
 split at hs
 ·rename_i op x y nm t a
  obtain ⟨⟨t⟩⟩ := t
  cases hs
  refine ⟨rfl, _, _, _, _, rfl, fun _ K hK => v32 M op x y nm t a K ?_⟩
  repeat' (first | (refine ⟨trivial, ?_⟩; intro q hq; subst hq) | refine iti (fun hh => ?_) (fun hh => ?_))
  all_goals exact lf hK (by unfold nameB; simp_all)
 ·cases hs
theorem ev_lA (h : Heap) : callP (cfg M) (evCall (cfg M) Tryz.prog 400) 56 [aStr lA] h = some (.sl (rowS (tabW lA)) 0, h) := by kernel_rfl
theorem ev_lB (h : Heap) : callP (cfg M) (evCall (cfg M) Tryz.prog 400) 56 [aStr lB] h = some (.sl (rowS (tabW lB)) 0, h) := by kernel_rfl
theorem ev_lC (h : Heap) : callP (cfg M) (evCall (cfg M) Tryz.prog 400) 56 [aStr lC] h = some (.sl (rowS (tabW lC)) 0, h) := by kernel_rfl
theorem ev_lD (h : Heap) : callP (cfg M) (evCall (cfg M) Tryz.prog 400) 56 [aStr tSpec] h = some (.sl (rowS (tabW tSpec)) 0, h) := by kernel_rfl
theorem ok56w {T : Tab} (O : Ok M T) : Ok M (T.addC 56 C56w) := by
 refine addC_ok O fun args h s hs hp => ?_
 unfold C56w at hs
 split at hs
 ·rename_i s
  cases hs
  obtain ⟨⟨l⟩⟩ := s
  rcases hp.is with h1 | h1 | h1 | h1
  ·replace h1 : l = lA := h1
   subst h1; exact ⟨_, List.mem_singleton.2 rfl, (), 400, trivial, ev_lA h⟩
  ·replace h1 : l = lB := h1
   subst h1; exact ⟨_, List.mem_singleton.2 rfl, (), 400, trivial, ev_lB h⟩
  ·replace h1 : l = lC := h1
   subst h1; exact ⟨_, List.mem_singleton.2 rfl, (), 400, trivial, ev_lC h⟩
  ·replace h1 : l = tSpec := h1
   subst h1; exact ⟨_, List.mem_singleton.2 rfl, (), 400, trivial, ev_lD h⟩
 ·cases hs
theorem ok62 {T : Tab} (O : Ok M T) : Ok M (T.addC 62 C30) := by
 refine freshK O (exact62_ok (ok56w ok0)) (n := 120) (by kernel_rfl) rfl fun args h s hs => ?_
 unfold C30 at hs
 split at hs
 ·rename_i t
  obtain ⟨⟨t⟩⟩ := t
  cases hs
  refine ⟨rfl, _, _, _, _, rfl, fun _ K hK => v62 M t K ?_⟩
  replace hK : K (triA (builtF t)) := hK
  repeat' (first | (refine ⟨⟨by first | exact .inl rfl | exact .inr (.inl rfl) | exact .inr (.inr (.inl rfl)) | exact .inr (.inr (.inr rfl))⟩, fun _ _ => ?_⟩) | refine iti (fun hh => ?_) (fun hh => ?_))
  all_goals exact lft hK (by unfold builtF tLength tSubstr tSplit tSub tGsub tIndex tMatch tLower tUpper tInt tSprintf; simp_all [eq_comm (b := t)])
 ·cases hs
theorem ok63 {T : Tab} (O : Ok M T) : Ok M (T.addC 63 C63) := by
 refine freshK O (exact62_ok (ok56w ok0)) (n := 120) (by kernel_rfl) rfl fun args h s hs => ?_
 unfold C63 at hs
 split at hs
 ·rename_i s t
  obtain ⟨⟨s⟩⟩ := s
  obtain ⟨⟨t⟩⟩ := t
  cases hs
  refine ⟨rfl, _, _, _, _, rfl, fun hp K hK => ?_⟩
  obtain rfl : s = tSpec := hp.is
  refine v63 M t K ?_
  replace hK : K (iA (placeF t)) := hK
  repeat' (first | (refine ⟨⟨by first | exact .inl rfl | exact .inr (.inl rfl) | exact .inr (.inr (.inl rfl)) | exact .inr (.inr (.inr rfl))⟩, fun _ _ => ?_⟩) | refine iti (fun hh => ?_) (fun hh => ?_))
  all_goals exact lfi hK (by unfold placeF tMatch tSplit tSub tGsub; simp_all [eq_comm (b := t)])
 ·cases hs
set_option maxHeartbeats 4000000 in
theorem ok11 {T : Tab} (O : Ok M T) : Ok M (T.addC 11 C11) := by
 refine freshK O (ok32 (ok31 (ok30 (ok29 (ok10 ok0))))) (n := 100) (by kernel_rfl) rfl fun args h s hs => ?_
 unfold C11 at hs
 split at hs
 ·rename_i si sf b e n r op x y nm t a
  obtain ⟨⟨t⟩⟩ := t
  cases hs
  refine ⟨rfl, _, _, _, _, rfl, fun hp K hK => v11 M si sf b e n r op x y nm t a K ?_⟩
  replace hK : K (bA (properB si.length sf.length r op x y nm t)) := hK
  rw [wrap_len hp.i, wrap_len hp.f, wrap_r hp.r0 hp.r1]
  repeat' (first | (refine ⟨trivial, ?_⟩; intro q hq; subst hq) | refine iti (fun hh => ?_) (fun hh => ?_))
  all_goals refine lf hK ?_
  all_goals unfold properB
  all_goals first | (simp_all; done) | (simp_all [placeF, tMatch, tSplit, tSub, tGsub]; done) | (simp_all; omega)
 ·cases hs
theorem proper_out {n nf r op x y nm : Int} {t : List UInt8} (h : wB op 1 49 = false) : properB n nf r op x y nm t = false := by
 have key : ¬(1 ≤ op ∧ op ≤ 49) := by
  intro ⟨h1, h2⟩
  unfold wB at h
  rw [decide_eq_true h1, decide_eq_true h2] at h
  cases h
 unfold properB
 repeat' (rw [if_neg (by omega)])
 rw [h]; rfl
theorem target_of {op : Int} (h : targetB op = true) : op = 22 ∨ op = 23 ∨ op = 24 ∨ op = 39 ∨ op = 45 := by
 unfold targetB at h
 repeat' (split at h <;> try (simp_all; done))
theorem nat_op {op : Int} (h : wB op 1 49 = true) : ∃ k : Nat, op = k ∧ 1 ≤ k ∧ k < 50 := by
 unfold wB at h
 simp only [Bool.and_eq_true, decide_eq_true_eq] at h
 exact ⟨op.toNat, by omega, by omega, by omega⟩
theorem place_nn (t : List UInt8) : 0 ≤ placeF t := by unfold placeF; repeat' (first | split | omega)
theorem proper31 {n nf r x y nm : Int} {t : List UInt8} : properB n nf r 31 x y nm t = (decide (placeF t = 0) && ((builtF t).2.2 && wB y (max (builtF t).1 1) (builtF t).2.1)) := rfl
set_option maxHeartbeats 400000 in
theorem ok35 {T : Tab} (O : Ok M T) : Ok M (T.addC 35 C11) := by
 refine freshK O (ok63 (ok60 (ok62 (ok61 (ok26 ok0))))) (n := 100) (by kernel_rfl) rfl fun args h s hs => ?_
 unfold C11 at hs
 split at hs
 ·rename_i si sf b e n r op x y nm t a
  obtain ⟨⟨t⟩⟩ := t
  cases hs
  refine ⟨rfl, _, _, _, _, rfl, fun hp K hK => v35 M si sf b e n r op x y nm t a K ?_⟩
  replace hK : K (bA (properB si.length sf.length r op x y nm t)) := hK
  rw [wrap_len hp.i, wrap_len hp.f, wrap_r hp.r0 hp.r1]
  refine ⟨trivial, ?_⟩
  intro q hq
  subst hq
  refine iti (fun h49 => ?_) (fun h49 => lf hK (proper_out h49))
  obtain ⟨k, rfl, hk1, hk⟩ := nat_op h49
  clear h49 hp
  match k, hk1, hk with
  | 0, h, _ => exact absurd h (by decide)
  | 1, _, _ => (repeat' (first | (refine ⟨trivial, ?_⟩; intro q hq; subst hq) | (refine ⟨⟨rfl⟩, ?_⟩; intro q hq; subst hq) | refine ie rfl ?_ | refine it rfl ?_ | refine iti (fun hh => ?_) (fun hh => ?_))) <;> (refine lf hK ?_) <;> (clear hK) <;> (first | rfl | (simp_all [properB, aboutB, nameB, wB]; done) | (simp_all [properB, aboutB, nameB, wB]; omega))
  | 2, _, _ => (repeat' (first | (refine ⟨trivial, ?_⟩; intro q hq; subst hq) | (refine ⟨⟨rfl⟩, ?_⟩; intro q hq; subst hq) | refine ie rfl ?_ | refine it rfl ?_ | refine iti (fun hh => ?_) (fun hh => ?_))) <;> (refine lf hK ?_) <;> (clear hK) <;> (first | rfl | (simp_all [properB, wB]; done) | (simp_all [properB, aboutB, nameB, wB]; omega))
  | 3, _, _ => (repeat' (first | (refine ⟨trivial, ?_⟩; intro q hq; subst hq) | (refine ⟨⟨rfl⟩, ?_⟩; intro q hq; subst hq) | refine ie rfl ?_ | refine it rfl ?_ | refine iti (fun hh => ?_) (fun hh => ?_))) <;> (refine lf hK ?_) <;> (clear hK) <;> (first | rfl | (simp_all [properB, aboutB, nameB, wB]; done) | (simp_all [properB, aboutB, nameB, wB]; omega))
  | 4, _, _ => (repeat' (first | (refine ⟨trivial, ?_⟩; intro q hq; subst hq) | (refine ⟨⟨rfl⟩, ?_⟩; intro q hq; subst hq) | refine ie rfl ?_ | refine it rfl ?_ | refine iti (fun hh => ?_) (fun hh => ?_))) <;> (refine lf hK ?_) <;> (clear hK) <;> (first | rfl | (simp_all [properB, aboutB, nameB, wB]; done) | (simp_all [properB, aboutB, nameB, wB]; omega))
  | 5, _, _ => (repeat' (first | (refine ⟨trivial, ?_⟩; intro q hq; subst hq) | (refine ⟨⟨rfl⟩, ?_⟩; intro q hq; subst hq) | refine ie rfl ?_ | refine it rfl ?_ | refine iti (fun hh => ?_) (fun hh => ?_))) <;> (refine lf hK ?_) <;> (clear hK) <;> (first | rfl | (simp_all [properB, aboutB, nameB, wB]; done) | (simp_all [properB, aboutB, nameB, wB]; omega))
  | 6, _, _ => (repeat' (first | (refine ⟨trivial, ?_⟩; intro q hq; subst hq) | (refine ⟨⟨rfl⟩, ?_⟩; intro q hq; subst hq) | refine ie rfl ?_ | refine it rfl ?_ | refine iti (fun hh => ?_) (fun hh => ?_))) <;> (refine lf hK ?_) <;> (clear hK) <;> (first | rfl | (simp_all [properB, aboutB, nameB, wB]; done) | (simp_all [properB, aboutB, nameB, wB]; omega))
  | 7, _, _ => (repeat' (first | (refine ⟨trivial, ?_⟩; intro q hq; subst hq) | (refine ⟨⟨rfl⟩, ?_⟩; intro q hq; subst hq) | refine ie rfl ?_ | refine it rfl ?_ | refine iti (fun hh => ?_) (fun hh => ?_))) <;> (refine lf hK ?_) <;> (clear hK) <;> (first | rfl | (simp_all [properB, aboutB, nameB, wB]; done) | (simp_all [properB, aboutB, nameB, wB]; omega))
  | 8, _, _ => (repeat' (first | (refine ⟨trivial, ?_⟩; intro q hq; subst hq) | (refine ⟨⟨rfl⟩, ?_⟩; intro q hq; subst hq) | refine ie rfl ?_ | refine it rfl ?_ | refine iti (fun hh => ?_) (fun hh => ?_))) <;> (refine lf hK ?_) <;> (clear hK) <;> (first | rfl | (simp_all [properB, wB]; done) | (simp_all [properB, aboutB, nameB, wB]; omega))
  | 9, _, _ => (repeat' (first | (refine ⟨trivial, ?_⟩; intro q hq; subst hq) | (refine ⟨⟨rfl⟩, ?_⟩; intro q hq; subst hq) | refine ie rfl ?_ | refine it rfl ?_ | refine iti (fun hh => ?_) (fun hh => ?_))) <;> (refine lf hK ?_) <;> (clear hK) <;> (first | rfl | (simp_all [properB, aboutB, nameB, wB]; done) | (simp_all [properB, aboutB, nameB, wB]; omega))
  | 10, _, _ => (repeat' (first | (refine ⟨trivial, ?_⟩; intro q hq; subst hq) | (refine ⟨⟨rfl⟩, ?_⟩; intro q hq; subst hq) | refine ie rfl ?_ | refine it rfl ?_ | refine iti (fun hh => ?_) (fun hh => ?_))) <;> (refine lf hK ?_) <;> (clear hK) <;> (first | rfl | (simp_all [properB, aboutB, nameB, wB]; done) | (simp_all [properB, aboutB, nameB, wB]; omega))
  | 11, _, _ => (repeat' (first | (refine ⟨trivial, ?_⟩; intro q hq; subst hq) | (refine ⟨⟨rfl⟩, ?_⟩; intro q hq; subst hq) | refine ie rfl ?_ | refine it rfl ?_ | refine iti (fun hh => ?_) (fun hh => ?_))) <;> (refine lf hK ?_) <;> (clear hK) <;> (first | rfl | (simp_all [properB, aboutB, nameB, wB]; done) | (simp_all [properB, aboutB, nameB, wB]; omega))
  | 12, _, _ => (repeat' (first | (refine ⟨trivial, ?_⟩; intro q hq; subst hq) | (refine ⟨⟨rfl⟩, ?_⟩; intro q hq; subst hq) | refine ie rfl ?_ | refine it rfl ?_ | refine iti (fun hh => ?_) (fun hh => ?_))) <;> (refine lf hK ?_) <;> (clear hK) <;> (first | rfl | (simp_all [properB, wB]; done) | (simp_all [properB, aboutB, nameB, wB]; omega))
  | 13, _, _ => (repeat' (first | (refine ⟨trivial, ?_⟩; intro q hq; subst hq) | (refine ⟨⟨rfl⟩, ?_⟩; intro q hq; subst hq) | refine ie rfl ?_ | refine it rfl ?_ | refine iti (fun hh => ?_) (fun hh => ?_))) <;> (refine lf hK ?_) <;> (clear hK) <;> (first | rfl | (simp_all [properB, aboutB, nameB, wB]; done) | (simp_all [properB, aboutB, nameB, wB]; omega))
  | 14, _, _ => (repeat' (first | (refine ⟨trivial, ?_⟩; intro q hq; subst hq) | (refine ⟨⟨rfl⟩, ?_⟩; intro q hq; subst hq) | refine ie rfl ?_ | refine it rfl ?_ | refine iti (fun hh => ?_) (fun hh => ?_))) <;> (refine lf hK ?_) <;> (clear hK) <;> (first | rfl | (simp_all [properB, aboutB, nameB, wB]; done) | (simp_all [properB, aboutB, nameB, wB]; omega))
  | 15, _, _ => (repeat' (first | (refine ⟨trivial, ?_⟩; intro q hq; subst hq) | (refine ⟨⟨rfl⟩, ?_⟩; intro q hq; subst hq) | refine ie rfl ?_ | refine it rfl ?_ | refine iti (fun hh => ?_) (fun hh => ?_))) <;> (refine lf hK ?_) <;> (clear hK) <;> (first | rfl | (simp_all [properB, wB]; done) | (simp_all [properB, aboutB, nameB, wB]; omega))
  | 16, _, _ => (repeat' (first | (refine ⟨trivial, ?_⟩; intro q hq; subst hq) | (refine ⟨⟨rfl⟩, ?_⟩; intro q hq; subst hq) | refine ie rfl ?_ | refine it rfl ?_ | refine iti (fun hh => ?_) (fun hh => ?_))) <;> (refine lf hK ?_) <;> (clear hK) <;> (first | rfl | (simp_all [properB, aboutB, nameB, wB]; done) | (simp_all [properB, aboutB, nameB, wB]; omega))
  | 17, _, _ => (repeat' (first | (refine ⟨trivial, ?_⟩; intro q hq; subst hq) | (refine ⟨⟨rfl⟩, ?_⟩; intro q hq; subst hq) | refine ie rfl ?_ | refine it rfl ?_ | refine iti (fun hh => ?_) (fun hh => ?_))) <;> (refine lf hK ?_) <;> (clear hK) <;> (first | rfl | (simp_all [properB, wB]; done) | (simp_all [properB, aboutB, nameB, wB]; omega))
  | 18, _, _ => (repeat' (first | (refine ⟨trivial, ?_⟩; intro q hq; subst hq) | (refine ⟨⟨rfl⟩, ?_⟩; intro q hq; subst hq) | refine ie rfl ?_ | refine it rfl ?_ | refine iti (fun hh => ?_) (fun hh => ?_))) <;> (refine lf hK ?_) <;> (clear hK) <;> (first | rfl | (simp_all [properB, wB]; done) | (simp_all [properB, aboutB, nameB, wB]; omega))
  | 19, _, _ => (repeat' (first | (refine ⟨trivial, ?_⟩; intro q hq; subst hq) | (refine ⟨⟨rfl⟩, ?_⟩; intro q hq; subst hq) | refine ie rfl ?_ | refine it rfl ?_ | refine iti (fun hh => ?_) (fun hh => ?_))) <;> (refine lf hK ?_) <;> (clear hK) <;> (first | rfl | (simp_all [properB, aboutB, nameB, wB]; done) | (simp_all [properB, aboutB, nameB, wB]; omega))
  | 20, _, _ => (repeat' (first | (refine ⟨trivial, ?_⟩; intro q hq; subst hq) | (refine ⟨⟨rfl⟩, ?_⟩; intro q hq; subst hq) | refine ie rfl ?_ | refine it rfl ?_ | refine iti (fun hh => ?_) (fun hh => ?_))) <;> (refine lf hK ?_) <;> (clear hK) <;> (first | rfl | (simp_all [properB, wB]; done) | (simp_all [properB, aboutB, nameB, wB]; omega))
  | 21, _, _ => (repeat' (first | (refine ⟨trivial, ?_⟩; intro q hq; subst hq) | (refine ⟨⟨rfl⟩, ?_⟩; intro q hq; subst hq) | refine ie rfl ?_ | refine it rfl ?_ | refine iti (fun hh => ?_) (fun hh => ?_))) <;> (refine lf hK ?_) <;> (clear hK) <;> (first | rfl | (simp_all [properB, aboutB, nameB, wB]; done) | (simp_all [properB, aboutB, nameB, wB]; omega))
  | 22, _, _ => (repeat' (first | (refine ⟨trivial, ?_⟩; intro q hq; subst hq) | (refine ⟨⟨rfl⟩, ?_⟩; intro q hq; subst hq) | refine ie rfl ?_ | refine it rfl ?_ | refine iti (fun hh => ?_) (fun hh => ?_))) <;> (refine lf hK ?_) <;> (clear hK) <;> (first | rfl | (simp_all [properB, wB]; done) | (simp_all [properB, aboutB, nameB, wB]; omega))
  | 23, _, _ => (repeat' (first | (refine ⟨trivial, ?_⟩; intro q hq; subst hq) | (refine ⟨⟨rfl⟩, ?_⟩; intro q hq; subst hq) | refine ie rfl ?_ | refine it rfl ?_ | refine iti (fun hh => ?_) (fun hh => ?_))) <;> (refine lf hK ?_) <;> (clear hK) <;> (first | rfl | (simp_all [properB, wB]; done) | (simp_all [properB, aboutB, nameB, wB]; omega))
  | 24, _, _ => (repeat' (first | (refine ⟨trivial, ?_⟩; intro q hq; subst hq) | (refine ⟨⟨rfl⟩, ?_⟩; intro q hq; subst hq) | refine ie rfl ?_ | refine it rfl ?_ | refine iti (fun hh => ?_) (fun hh => ?_))) <;> (refine lf hK ?_) <;> (clear hK) <;> (first | rfl | (simp_all [properB, wB]; done) | (simp_all [properB, aboutB, nameB, wB]; omega))
  | 25, _, _ => (repeat' (first | (refine ⟨trivial, ?_⟩; intro q hq; subst hq) | (refine ⟨⟨rfl⟩, ?_⟩; intro q hq; subst hq) | refine ie rfl ?_ | refine it rfl ?_ | refine iti (fun hh => ?_) (fun hh => ?_))) <;> (refine lf hK ?_) <;> (clear hK) <;> (first | rfl | (simp_all [properB, aboutB, nameB, wB]; done) | (simp_all [properB, aboutB, nameB, wB]; omega))
  | 26, _, _ => (repeat' (first | (refine ⟨trivial, ?_⟩; intro q hq; subst hq) | (refine ⟨⟨rfl⟩, ?_⟩; intro q hq; subst hq) | refine ie rfl ?_ | refine it rfl ?_ | refine iti (fun hh => ?_) (fun hh => ?_))) <;> (refine lf hK ?_) <;> (clear hK) <;> (first | rfl | (simp_all [properB, aboutB, nameB, wB]; done) | (simp_all [properB, aboutB, nameB, wB]; omega))
  | 27, _, _ => (repeat' (first | (refine ⟨trivial, ?_⟩; intro q hq; subst hq) | (refine ⟨⟨rfl⟩, ?_⟩; intro q hq; subst hq) | refine ie rfl ?_ | refine it rfl ?_ | refine iti (fun hh => ?_) (fun hh => ?_))) <;> (refine lf hK ?_) <;> (clear hK) <;> (first | rfl | (simp_all [properB, aboutB, nameB, wB]; done) | (simp_all [properB, aboutB, nameB, wB]; omega))
  | 28, _, _ => (repeat' (first | (refine ⟨trivial, ?_⟩; intro q hq; subst hq) | (refine ⟨⟨rfl⟩, ?_⟩; intro q hq; subst hq) | refine ie rfl ?_ | refine it rfl ?_ | refine iti (fun hh => ?_) (fun hh => ?_))) <;> (refine lf hK ?_) <;> (clear hK) <;> (first | rfl | (simp_all [properB, wB]; done) | (simp_all [properB, aboutB, nameB, wB]; omega))
  | 29, _, _ => (repeat' (first | (refine ⟨trivial, ?_⟩; intro q hq; subst hq) | (refine ⟨⟨rfl⟩, ?_⟩; intro q hq; subst hq) | refine ie rfl ?_ | refine it rfl ?_ | refine iti (fun hh => ?_) (fun hh => ?_))) <;> (refine lf hK ?_) <;> (clear hK) <;> (first | rfl | (simp_all [properB, aboutB, nameB, wB]; done) | (simp_all [properB, aboutB, nameB, wB]; omega))
  | 30, _, _ => (repeat' (first | (refine ⟨trivial, ?_⟩; intro q hq; subst hq) | (refine ⟨⟨rfl⟩, ?_⟩; intro q hq; subst hq) | refine ie rfl ?_ | refine it rfl ?_ | refine iti (fun hh => ?_) (fun hh => ?_))) <;> (refine lf hK ?_) <;> (clear hK) <;> (first | rfl | (simp_all [properB, aboutB, nameB, wB]; done) | (simp_all [properB, aboutB, nameB, wB]; omega))
  | 31, _, _ =>
   have hn := place_nn t
   repeat' (first | (refine ⟨trivial, ?_⟩; intro q hq; subst hq) | (refine ⟨⟨rfl⟩, ?_⟩; intro q hq; subst hq) | refine ie rfl ?_ | refine it rfl ?_ | refine iti (fun hh => ?_) (fun hh => ?_))
   all_goals refine lf hK ?_
   all_goals rw [show ((31 : Nat) : Int) = 31 from rfl, proper31]
   all_goals by_cases hz : placeF t = 0
   all_goals have hz2 : 0 < placeF t ∨ placeF t = 0 := by omega
   all_goals first | (simp_all [wB]; done) | (simp_all [wB]; omega)
  | 32, _, _ => (repeat' (first | (refine ⟨trivial, ?_⟩; intro q hq; subst hq) | (refine ⟨⟨rfl⟩, ?_⟩; intro q hq; subst hq) | refine ie rfl ?_ | refine it rfl ?_ | refine iti (fun hh => ?_) (fun hh => ?_))) <;> (refine lf hK ?_) <;> (clear hK) <;> (first | rfl | (simp_all [properB, aboutB, nameB, wB]; done) | (simp_all [properB, aboutB, nameB, wB]; omega))
  | 33, _, _ => (repeat' (first | (refine ⟨trivial, ?_⟩; intro q hq; subst hq) | (refine ⟨⟨rfl⟩, ?_⟩; intro q hq; subst hq) | refine ie rfl ?_ | refine it rfl ?_ | refine iti (fun hh => ?_) (fun hh => ?_))) <;> (refine lf hK ?_) <;> (clear hK) <;> (first | rfl | (simp_all [properB, aboutB, nameB, wB]; done) | (simp_all [properB, aboutB, nameB, wB]; omega))
  | 34, _, _ => (repeat' (first | (refine ⟨trivial, ?_⟩; intro q hq; subst hq) | (refine ⟨⟨rfl⟩, ?_⟩; intro q hq; subst hq) | refine ie rfl ?_ | refine it rfl ?_ | refine iti (fun hh => ?_) (fun hh => ?_))) <;> (refine lf hK ?_) <;> (clear hK) <;> (first | rfl | (simp_all [properB, aboutB, nameB, wB]; done) | (simp_all [properB, aboutB, nameB, wB]; omega))
  | 35, _, _ => (repeat' (first | (refine ⟨trivial, ?_⟩; intro q hq; subst hq) | (refine ⟨⟨rfl⟩, ?_⟩; intro q hq; subst hq) | refine ie rfl ?_ | refine it rfl ?_ | refine iti (fun hh => ?_) (fun hh => ?_))) <;> (refine lf hK ?_) <;> (clear hK) <;> (first | rfl | (simp_all [properB, wB]; done) | (simp_all [properB, aboutB, nameB, wB]; omega))
  | 36, _, _ => (repeat' (first | (refine ⟨trivial, ?_⟩; intro q hq; subst hq) | (refine ⟨⟨rfl⟩, ?_⟩; intro q hq; subst hq) | refine ie rfl ?_ | refine it rfl ?_ | refine iti (fun hh => ?_) (fun hh => ?_))) <;> (refine lf hK ?_) <;> (clear hK) <;> (first | rfl | (simp_all [properB, wB]; done) | (simp_all [properB, aboutB, nameB, wB]; omega))
  | 37, _, _ => (repeat' (first | (refine ⟨trivial, ?_⟩; intro q hq; subst hq) | (refine ⟨⟨rfl⟩, ?_⟩; intro q hq; subst hq) | refine ie rfl ?_ | refine it rfl ?_ | refine iti (fun hh => ?_) (fun hh => ?_))) <;> (refine lf hK ?_) <;> (clear hK) <;> (first | rfl | (simp_all [properB, wB]; done) | (simp_all [properB, aboutB, nameB, wB]; omega))
  | 38, _, _ => (repeat' (first | (refine ⟨trivial, ?_⟩; intro q hq; subst hq) | (refine ⟨⟨rfl⟩, ?_⟩; intro q hq; subst hq) | refine ie rfl ?_ | refine it rfl ?_ | refine iti (fun hh => ?_) (fun hh => ?_))) <;> (refine lf hK ?_) <;> (clear hK) <;> (first | rfl | (simp_all [properB, aboutB, nameB, wB]; done) | (simp_all [properB, aboutB, nameB, wB]; omega))
  | 39, _, _ => (repeat' (first | (refine ⟨trivial, ?_⟩; intro q hq; subst hq) | (refine ⟨⟨rfl⟩, ?_⟩; intro q hq; subst hq) | refine ie rfl ?_ | refine it rfl ?_ | refine iti (fun hh => ?_) (fun hh => ?_))) <;> (refine lf hK ?_) <;> (clear hK) <;> (first | rfl | (simp_all [properB, wB]; done) | (simp_all [properB, aboutB, nameB, wB]; omega))
  | 40, _, _ => (repeat' (first | (refine ⟨trivial, ?_⟩; intro q hq; subst hq) | (refine ⟨⟨rfl⟩, ?_⟩; intro q hq; subst hq) | refine ie rfl ?_ | refine it rfl ?_ | refine iti (fun hh => ?_) (fun hh => ?_))) <;> (refine lf hK ?_) <;> (clear hK) <;> (first | rfl | (simp_all [properB, aboutB, nameB, wB]; done) | (simp_all [properB, aboutB, nameB, wB]; omega))
  | 41, _, _ => (repeat' (first | (refine ⟨trivial, ?_⟩; intro q hq; subst hq) | (refine ⟨⟨rfl⟩, ?_⟩; intro q hq; subst hq) | refine ie rfl ?_ | refine it rfl ?_ | refine iti (fun hh => ?_) (fun hh => ?_))) <;> (refine lf hK ?_) <;> (clear hK) <;> (first | rfl | (simp_all [properB, aboutB, nameB, wB]; done) | (simp_all [properB, aboutB, nameB, wB]; omega))
  | 42, _, _ => (repeat' (first | (refine ⟨trivial, ?_⟩; intro q hq; subst hq) | (refine ⟨⟨rfl⟩, ?_⟩; intro q hq; subst hq) | refine ie rfl ?_ | refine it rfl ?_ | refine iti (fun hh => ?_) (fun hh => ?_))) <;> (refine lf hK ?_) <;> (clear hK) <;> (first | rfl | (simp_all [properB, aboutB, nameB, wB]; done) | (simp_all [properB, aboutB, nameB, wB]; omega))
  | 43, _, _ => (repeat' (first | (refine ⟨trivial, ?_⟩; intro q hq; subst hq) | (refine ⟨⟨rfl⟩, ?_⟩; intro q hq; subst hq) | refine ie rfl ?_ | refine it rfl ?_ | refine iti (fun hh => ?_) (fun hh => ?_))) <;> (refine lf hK ?_) <;> (clear hK) <;> (first | rfl | (simp_all [properB, aboutB, nameB, wB]; done) | (simp_all [properB, aboutB, nameB, wB]; omega))
  | 44, _, _ => (repeat' (first | (refine ⟨trivial, ?_⟩; intro q hq; subst hq) | (refine ⟨⟨rfl⟩, ?_⟩; intro q hq; subst hq) | refine ie rfl ?_ | refine it rfl ?_ | refine iti (fun hh => ?_) (fun hh => ?_))) <;> (refine lf hK ?_) <;> (clear hK) <;> (first | rfl | (simp_all [properB, wB]; done) | (simp_all [properB, aboutB, nameB, wB]; omega))
  | 45, _, _ => (repeat' (first | (refine ⟨trivial, ?_⟩; intro q hq; subst hq) | (refine ⟨⟨rfl⟩, ?_⟩; intro q hq; subst hq) | refine ie rfl ?_ | refine it rfl ?_ | refine iti (fun hh => ?_) (fun hh => ?_))) <;> (refine lf hK ?_) <;> (clear hK) <;> (first | rfl | (simp_all [properB, wB]; done) | (simp_all [properB, wB]; omega))
  | 46, _, _ => (repeat' (first | (refine ⟨trivial, ?_⟩; intro q hq; subst hq) | (refine ⟨⟨rfl⟩, ?_⟩; intro q hq; subst hq) | refine ie rfl ?_ | refine it rfl ?_ | refine iti (fun hh => ?_) (fun hh => ?_))) <;> (refine lf hK ?_) <;> (clear hK) <;> (first | rfl | (simp_all [properB, wB]; done) | (simp_all [properB, aboutB, nameB, wB]; omega))
  | 47, _, _ => (repeat' (first | (refine ⟨trivial, ?_⟩; intro q hq; subst hq) | (refine ⟨⟨rfl⟩, ?_⟩; intro q hq; subst hq) | refine ie rfl ?_ | refine it rfl ?_ | refine iti (fun hh => ?_) (fun hh => ?_))) <;> (refine lf hK ?_) <;> (clear hK) <;> (first | rfl | (simp_all [properB, wB]; done) | (simp_all [properB, aboutB, nameB, wB]; omega))
  | 48, _, _ => (repeat' (first | (refine ⟨trivial, ?_⟩; intro q hq; subst hq) | (refine ⟨⟨rfl⟩, ?_⟩; intro q hq; subst hq) | refine ie rfl ?_ | refine it rfl ?_ | refine iti (fun hh => ?_) (fun hh => ?_))) <;> (refine lf hK ?_) <;> (clear hK) <;> (first | rfl | (simp_all [properB, aboutB, nameB, wB]; done) | (simp_all [properB, aboutB, nameB, wB]; omega))
  | 49, _, _ => (repeat' (first | (refine ⟨trivial, ?_⟩; intro q hq; subst hq) | (refine ⟨⟨rfl⟩, ?_⟩; intro q hq; subst hq) | refine ie rfl ?_ | refine it rfl ?_ | refine iti (fun hh => ?_) (fun hh => ?_))) <;> (refine lf hK ?_) <;> (clear hK) <;> (first | rfl | (simp_all [properB, aboutB, nameB, wB]; done) | (simp_all [properB, aboutB, nameB, wB]; omega))
  | k + 50, _, hk => exact absurd hk (by omega)
 ·cases hs
end
end Go.Proofs.Sp.Sj
namespace Go.Proofs.Sp.Sj
open Go Go.Ef Go.Proofs.Pt
noncomputable section
def rowU (l : List UInt8) : List AV := l.map fun b => AV.sc (.int .u8 b.toNat)
def hB (cs : List AV) : Heap := (heapF.new (.cells cs)).2
def cellsOf (h : Heap) : List AV :=
 match h.get 1 with
 | some (.cells cs) => cs
 | _ => []
def rowN (σ : St) (t : Nat) : Nat :=
 match σ.at t with
 | .v (.rsl _ _ n _) => n
 | _ => 0
def valsF (n : Int) : List UInt8 := List.replicate n.toNat 118
structure Few (n : Int) : Prop where
 lo : 0 ≤ n
 hi : n ≤ 2097152
def C90 (args : List AV) (h : Heap) : Option CSpec :=
 match args with
 | [.sc (.int .i64 n)] => some (nspec (Few n) (valsF n) aStr h)
 | _ => none
def C122 (args : List AV) (h : Heap) : Option CSpec :=
 match args with
 | [.sc (.string s), .sc (.int .i64 n)] => some (nspec (s.data.toList = [118] ∧ Few n) (valsF n) aStr h)
 | _ => none
def T90 : Tab := tab0.addC 122 C122
def I93 (n : Int) (cs : List AV) (k : Nat) (i : Int) : St := stOf 17 [(0, sInt n), (3, .v (.rsl 1 0 k 1)), (4, sInt i)] [] (hB cs)
def E93 (cs : List AV) (k : Nat) : St := stOf 17 [(3, .v (.rsl 1 0 k 1))] [] (hB cs)
def q93 (cs : List AV) (k : Nat) (X : Prop) (e : Ex) (τ : St) : Prop :=
 match e with
 | .exit _ => e = .exit 0 ∧ τ = E93 cs k ∧ X
 | _ => False
structure P93 (n : Int) (cs : List AV) (k : Nat) : Prop where
 n : n = k
 k1 : 1 ≤ k
 k2 : k ≤ 2097152
 cs : cs = List.replicate k (AV.sc (.int .u8 0))
def isR (σ : St) (t : Nat) : Bool :=
 match σ.at t with
 | .v (.rsl _ _ _ _) => true
 | _ => false
def L93 (σ : St) : Option LSpec := bif isR σ 3 then some { pre := σ.tidy [0, 3, 4] 0 = I93 (slI σ 0) (cellsOf σ.h) (rowN σ 3) 0 ∧ P93 (slI σ 0) (cellsOf σ.h) (rowN σ 3), alts := [{ α := List AV, post := fun cs => cs = rowU (List.replicate (rowN σ 3) 118), ex := .exit 0, st := fun cs => E93 cs (rowN σ 3) }] } else none
def heapT (f : Nat) (T : Tab) : Tab := { T with sym := fun x => Nat.beq x f, symN := fun x => Nat.beq x f, lazy := fun x => Nat.beq x f }
def T93z : Tab := heapT 93 tab0
def T93 : Tab := T93z.addL 93 4 L93
def kindB (e : List AV) : UInt8 :=
 match e with
 | [.sc (.bool true)] => 97
 | _ => 118
def kinds (bs : Cells) : List UInt8 := bs.map kindB
def I94 (nm : List UInt8) (en : Int) (ps bs : Cells) (cs : List AV) (k : Nat) (i : Int) : St := stOf 26 [(1, .lp 0 0), (3, .v (.rsl 1 0 k 1)), (4, sInt i)] [.cells (funC nm en ps bs)] (hB cs)
def E94 (nm : List UInt8) (en : Int) (ps bs : Cells) (cs : List AV) (k : Nat) : St := stOf 26 [(3, .v (.rsl 1 0 k 1))] [.cells (funC nm en ps bs)] (hB cs)
def q94 (nm : List UInt8) (en : Int) (ps bs : Cells) (cs : List AV) (k : Nat) (X : Prop) (e : Ex) (τ : St) : Prop :=
 match e with
 | .exit _ => e = .exit 0 ∧ τ = E94 nm en ps bs cs k ∧ X
 | _ => False
structure P94 (bs : Cells) (cs : List AV) (k : Nat) : Prop where
 is : ∃ m : List Bool, bs = rowO m ∧ k = m.length ∧ m.length ≤ 1048576 ∧ cs = rowU (List.replicate k 118)
def L94 (σ : St) : Option LSpec := some { pre := σ.tidy [1, 3, 4] 1 = I94 (lcS σ 0 0) (lcI σ 0 1) (lcE σ 0 2) (lcE σ 0 3) (cellsOf σ.h) (rowN σ 3) 0 ∧ P94 (lcE σ 0 3) (cellsOf σ.h) (rowN σ 3), alts := [{ α := List AV, post := fun cs => cs = rowU (kinds (lcE σ 0 3)), ex := .exit 0, st := fun cs => E94 (lcS σ 0 0) (lcI σ 0 1) (lcE σ 0 2) (lcE σ 0 3) cs (rowN σ 3) }] }
structure Pars (ps bs : Cells) : Prop where
 n : ps.length = bs.length
 is : ∃ m : List Bool, bs = rowO m ∧ m.length ≤ 1048576
def C94 (args : List AV) (h : Heap) : Option CSpec :=
 match args with
 | [.agg [.sc (.string _), .sc (.int .i64 _), .sl ps 0, .sl bs 0]] => some (nspec (Pars ps bs) (kinds bs) aStr h)
 | _ => none
def T94z : Tab := heapT 94 (tab0.addC 93 C90)
def T94 : Tab := T94z.addL 94 4 L94
def pushF (op : Int) : List UInt8 :=
 if op = 26 then [97] else if op = 27 then [97] else if op = 38 then [108] else if op = 39 then [108, 118] else
 if op = 1 then [] else if op = 22 then [] else if op = 23 then [] else if op = 24 then [] else if op = 25 then [] else if op = 29 then [] else if op = 37 then [] else
 if op = 40 then [] else if op = 41 then [] else if op = 42 then [] else if op = 43 then [] else if op = 44 then [] else if op = 45 then [] else if op = 46 then [] else
 if op = 47 then [] else if op = 48 then [] else if op = 49 then [] else [118]
def popsF (sf : Cells) (op x y : Int) : List UInt8 :=
 if op = 7 then [118] else if op = 9 then [118] else if op = 10 then [118] else if op = 11 then [118] else if op = 15 then [118] else if op = 16 then [118] else if op = 20 then [118] else if op = 21 then [118] else
 if op = 23 then [118] else if op = 24 then [118] else if op = 25 then [118] else if op = 41 then [118] else if op = 29 then [118] else
 if op = 12 then [118, 118] else if op = 13 then [118, 118] else if op = 17 then [118, 118] else if op = 18 then [118, 118] else if op = 19 then [118, 118] else if op = 32 then [118, 118] else if op = 34 then [118, 118] else
 if op = 8 then valsF y else if op = 31 then valsF y else if op = 35 then valsF y else if op = 36 then valsF y else if op = 44 then valsF y else
 if op = 28 then kinds (cellSl sf x 3) else if op = 30 then (if 2 ≤ y then [118] else []) else if op = 33 then (if y.tmod 4 = 1 then [118, 118] else [118, 118, 118]) else
 if op = 37 then (if 0 < x then [118, 118] else [118]) else if op = 40 then [108] else if op = 39 then [108] else []
structure FunsOk (sf : Cells) : Prop where
 is : ∃ l, sf = rowF l ∧ Funs l ∧ ∀ f ∈ l, f.params.length = f.arrays.length
structure InsOk (si sf : Cells) (r op x y nm : Int) (t : List UInt8) : Prop where
 rg : Rgs si sf r
 fs : FunsOk sf
 is : properB si.length sf.length r op x y nm t = true
def I58 (s : List UInt8) (bs : Cells) (i : Int) : St := stOf 108 [(6, sStr s), (63, .v (.sl bs 0)), (64, sInt bs.length), (65, sInt i)] [] heapF
def E58 (s : List UInt8) : St := stOf 108 [(6, sStr s)] [] heapF
def q58 (s : List UInt8) (X : Prop) (e : Ex) (τ : St) : Prop :=
 match e with
 | .exit _ => e = .exit 1 ∧ τ = E58 s ∧ X
 | _ => False
structure P58 (s : List UInt8) (bs : Cells) (i : Int) : Prop where
 s : s = []
 i : i = 0
 is : ∃ m : List Bool, bs = rowO m ∧ m.length ≤ 1048576
def L58 (σ : St) : Option LSpec := some { pre := σ.tidy [6, 63, 64, 65] 0 = I58 (slS σ 6) (slEls σ 63) (slI σ 65) ∧ P58 (slS σ 6) (slEls σ 63) (slI σ 65), alts := [{ α := List UInt8, post := fun s => s = kinds (slEls σ 63), ex := .exit 1, st := E58 }] }
def T58 : Tab := (tab0.addC 90 C90).addL 58 44 L58
def twoA (q : List UInt8 × List UInt8) : AV := .tup [aStr q.1, aStr q.2]
def C58 (args : List AV) (h : Heap) : Option CSpec :=
 match args with
 | [.agg [.sl si 0, .sl sf 0, .sc (.int .i64 _), .sc (.int .i64 _), .sc (.int .i64 _), .sc (.int .i64 r)], .agg [.sc (.int .i64 op), .sc (.int .i64 x), .sc (.int .i64 y), .sc (.int .i64 nm), .sc (.string t), .sc (.int .i64 _)]] =>
   some (nspec (InsOk si sf r op x y nm t.data.toList) (popsF sf op x y, pushF op) twoA h)
 | _ => none
def T64 : Tab := (tab0.addC 93 C90).addC 94 C94
def C64 (args : List AV) (h : Heap) : Option CSpec :=
 match args with
 | [.agg [.sl si 0, .sl sf 0, .sc (.int .i64 _), .sc (.int .i64 _), .sc (.int .i64 _), .sc (.int .i64 r)], .agg [.sc (.int .i64 op), .sc (.int .i64 x), .sc (.int .i64 y), .sc (.int .i64 nm), .sc (.string t), .sc (.int .i64 _)]] =>
   some (nspec (InsOk si sf r op x y nm t.data.toList) (popsF sf op x y) aStr h)
 | _ => none
def C68 (args : List AV) (h : Heap) : Option CSpec :=
 match args with
 | [.agg [.sc (.int .i64 op), .sc (.int .i64 _), .sc (.int .i64 _), .sc (.int .i64 _), .sc (.string _), .sc (.int .i64 _)]] => some (nspec (1 ≤ op ∧ op ≤ 49) (pushF op) aStr h)
 | _ => none
def cutT (s p : List UInt8) : List UInt8 × Bool := if p.length ≤ s.length ∧ s.drop (s.length - p.length) = p then (s.take (s.length - p.length), true) else (s, false)
def cutA (q : List UInt8 × Bool) : AV := .tup [aStr q.1, bA q.2]
def C59 (args : List AV) (h : Heap) : Option CSpec :=
 match args with
 | [.sc (.string s), .sc (.string p)] => some (nspec (Mid s.data.toList ∧ Mid p.data.toList) (cutT s.data.toList p.data.toList) cutA h)
 | _ => none
end
end Go.Proofs.Sp.Sj
namespace Go.Proofs.Sp.Sj
open Go Go.Ef Go.Proofs.Pt
noncomputable section
set_option maxRecDepth 100000
theorem v90 (M : Int) (n : Int) (K : AV → Prop) (h :
 ([(118 : UInt8)] = [(118 : UInt8)] ∧ Few n) ∧
 ∀ (x : List UInt8), x = valsF n → K (AV.sc (Value.string (ByteArray.mk (Array.mk x))))) :
 (fun (M : Int) (n : Int) (K : AV → Prop) => wpCall T90 (cfg M) Tryz.prog 60 90 [iA n] heapF fun r h' => wpBack h' r K) M n K :=
 Eq.mp (by kernel_rfl) h
theorem r93 (M : Int) (n : Int) (cs : List AV) (k : Nat) (i : Int) (N : List AV → Int → Prop) (X : Prop) (h :
 iteP (decide (i < n))
 (iteP (inRange i k)
 (iteP (((0 : Nat) + i.toNat * (1 : Nat)).succ.ble cs.length)
 (I93 n (cs.set ((0 : Nat) + i.toNat * (1 : Nat)) (AV.sc (Value.int IntKind.u8 (118 : Int)))) k
 (IntKind.i64.wrap (i + (1 : Int))) =
 I93 n (cs.set ((0 : Nat) + i.toNat * (1 : Nat)) (AV.sc (Value.int IntKind.u8 (118 : Int)))) k
 (IntKind.i64.wrap (i + (1 : Int))) ∧
 N (cs.set ((0 : Nat) + i.toNat * (1 : Nat)) (AV.sc (Value.int IntKind.u8 (118 : Int))))
 (IntKind.i64.wrap (i + (1 : Int))))
 False)
 False)
 (Ex.exit (0 : Nat) = Ex.exit (0 : Nat) ∧ E93 cs k = E93 cs k ∧ X)) :
 (fun (M : Int) (n : Int) (cs : List AV) (k : Nat) (i : Int) (N : List AV → Int → Prop) (X : Prop) => wpRound T93z (cfg M) Tryz.prog 60 93 4 (I93 n cs k i) (fun τ => τ = I93 n (cellsOf τ.h) k (slI τ 4) ∧ N (cellsOf τ.h) (slI τ 4)) (q93 cs k X)) M n cs k i N X :=
 Eq.mp (by kernel_rfl) h
theorem v93z (M : Int) (K : AV → Prop) (h :
 K (AV.sc (Value.string (ByteArray.mk (Array.mk (List.map byteD [])))))) :
 (fun (M : Int) (K : AV → Prop) => wpCall T93z (cfg M) Tryz.prog 60 93 [iA 0] heapF fun r h' => wpBack h' r K) M K :=
 Eq.mp (by kernel_rfl) h
theorem v93 (M : Int) (n : Int) (K : AV → Prop) (h :
 iteP
 (decide ((0 : Int) ≤ n) && decide (n ≤ n) && decide (n ≤ (140737488355328 : Int)) &&
 (n.toNat * (1 : Nat)).ble (140737488355328 : Nat))
 (iteP (n.toNat.beq (0 : Nat)) False
 (loopAt Tryz.prog (93 : Nat) (4 : Nat) = loopAt Tryz.prog (93 : Nat) (4 : Nat) ∧
 (I93 n (List.replicate n.toNat (AV.sc (Value.int IntKind.u8 (0 : Int)))) n.toNat (0 : Int) =
 I93 n (List.replicate n.toNat (AV.sc (Value.int IntKind.u8 (0 : Int)))) n.toNat (0 : Int) ∧
 P93 n (List.replicate n.toNat (AV.sc (Value.int IntKind.u8 (0 : Int)))) n.toNat) ∧
 ∀ (x : List AV),
 x = rowU (List.replicate n.toNat (118 : UInt8)) →
 iteP (((0 : Nat) + n.toNat).ble x.length && x.all isU8)
 (K (AV.sc (Value.string (ByteArray.mk (Array.mk (List.map u8B (List.take n.toNat x))))))) False))
 False) :
 (fun (M : Int) (n : Int) (K : AV → Prop) => wpCall T93 (cfg M) Tryz.prog 60 93 [iA n] heapF fun r h' => wpBack h' r K) M n K :=
 Eq.mp (by kernel_rfl) h
theorem r94 (M : Int) (nm : List UInt8) (en : Int) (ps : Cells) (bs : Cells) (cs : List AV) (k : Nat) (i : Int) (N : List AV → Int → Prop) (X : Prop) (h :
 iteP (decide (i < (↑k : Int)))
 (iteP (inRange i (List.length bs))
 (getI i.toNat bs = some [AV.sc (Value.bool (cellBool bs i (0 : Nat)))] ∧
 iteP (cellBool bs i (0 : Nat))
 (iteP (inRange i k)
 (iteP (((0 : Nat) + i.toNat * (1 : Nat)).succ.ble cs.length)
 (I94 nm en ps bs (cs.set ((0 : Nat) + i.toNat * (1 : Nat)) (AV.sc (Value.int IntKind.u8 (97 : Int)))) k
 (IntKind.i64.wrap (i + (1 : Int))) =
 I94 nm en ps bs (cs.set ((0 : Nat) + i.toNat * (1 : Nat)) (AV.sc (Value.int IntKind.u8 (97 : Int)))) k
 (IntKind.i64.wrap (i + (1 : Int))) ∧
 N (cs.set ((0 : Nat) + i.toNat * (1 : Nat)) (AV.sc (Value.int IntKind.u8 (97 : Int))))
 (IntKind.i64.wrap (i + (1 : Int))))
 False)
 False)
 (I94 nm en ps bs cs k (IntKind.i64.wrap (i + (1 : Int))) =
 I94 nm en ps bs cs k (IntKind.i64.wrap (i + (1 : Int))) ∧
 N cs (IntKind.i64.wrap (i + (1 : Int)))))
 False)
 (Ex.exit (0 : Nat) = Ex.exit (0 : Nat) ∧ E94 nm en ps bs cs k = E94 nm en ps bs cs k ∧ X)) :
 (fun (M : Int) (nm : List UInt8) (en : Int) (ps bs : Cells) (cs : List AV) (k : Nat) (i : Int) (N : List AV → Int → Prop) (X : Prop) => wpRound T94z (cfg M) Tryz.prog 60 94 4 (I94 nm en ps bs cs k i) (fun τ => τ = I94 nm en ps bs (cellsOf τ.h) k (slI τ 4) ∧ N (cellsOf τ.h) (slI τ 4)) (q94 nm en ps bs cs k X)) M nm en ps bs cs k i N X :=
 Eq.mp (by kernel_rfl) h
theorem v94 (M : Int) (nm : List UInt8) (en : Int) (ps : Cells) (bs : Cells) (K : AV → Prop) (h :
 Few (↑(List.length ps) : Int) ∧
 ∀ (x : List UInt8),
 x = valsF (↑(List.length ps) : Int) →
 iteP (x.length.ble (140737488355328 : Nat))
 (loopAt Tryz.prog (94 : Nat) (4 : Nat) = loopAt Tryz.prog (94 : Nat) (4 : Nat) ∧
 (I94 nm en ps bs (List.map (fun (b : UInt8) => AV.sc (Value.int IntKind.u8 (↑b.toNat : Int))) x) x.length
 (0 : Int) =
 I94 nm en ps bs (List.map (fun (b : UInt8) => AV.sc (Value.int IntKind.u8 (↑b.toNat : Int))) x) x.length
 (0 : Int) ∧
 P94 bs (List.map (fun (b : UInt8) => AV.sc (Value.int IntKind.u8 (↑b.toNat : Int))) x) x.length) ∧
 ∀ (x_1 : List AV),
 x_1 = rowU (kinds bs) →
 iteP (((0 : Nat) + x.length).ble x_1.length && x_1.all isU8)
 (K (AV.sc (Value.string (ByteArray.mk (Array.mk (List.map u8B (List.take x.length x_1))))))) False)
 False) :
 (fun (M : Int) (nm : List UInt8) (en : Int) (ps bs : Cells) (K : AV → Prop) => wpCall T94 (cfg M) Tryz.prog 60 94 [.agg (funC nm en ps bs)] heapF fun r h' => wpBack h' r K) M nm en ps bs K :=
 Eq.mp (by kernel_rfl) h
theorem r58 (M : Int) (s : List UInt8) (bs : Cells) (i : Int) (N : List UInt8 → Int → Prop) (X : Prop) (h :
 iteP (decide (i < (↑(List.length bs) : Int)))
 (iteP (inRange i (List.length bs))
 (getI i.toNat bs = some [AV.sc (Value.bool (cellBool bs i (0 : Nat)))] ∧
 iteP (cellBool bs i (0 : Nat))
 (iteP (strFits s [(97 : UInt8)])
 (I58 (s ++ [(97 : UInt8)]) bs (IntKind.i64.wrap (i + (1 : Int))) =
 I58 (s ++ [(97 : UInt8)]) bs (IntKind.i64.wrap (i + (1 : Int))) ∧
 N (s ++ [(97 : UInt8)]) (IntKind.i64.wrap (i + (1 : Int))))
 False)
 (iteP (strFits s [(118 : UInt8)])
 (I58 (s ++ [(118 : UInt8)]) bs (IntKind.i64.wrap (i + (1 : Int))) =
 I58 (s ++ [(118 : UInt8)]) bs (IntKind.i64.wrap (i + (1 : Int))) ∧
 N (s ++ [(118 : UInt8)]) (IntKind.i64.wrap (i + (1 : Int))))
 False))
 False)
 (Ex.exit (1 : Nat) = Ex.exit (1 : Nat) ∧ E58 s = E58 s ∧ X)) :
 (fun (M : Int) (s : List UInt8) (bs : Cells) (i : Int) (N : List UInt8 → Int → Prop) (X : Prop) => wpRound tab0 (cfg M) Tryz.prog 60 58 44 (I58 s bs i) (fun τ => τ = I58 (slS τ 6) bs (slI τ 65) ∧ N (slS τ 6) (slI τ 65)) (q58 s X)) M s bs i N X :=
 Eq.mp (by kernel_rfl) h
theorem v58 (M : Int) (si : Cells) (sf : Cells) (b : Int) (e : Int) (n : Int) (r : Int) (op : Int) (x : Int) (y : Int) (nm : Int) (t : List UInt8) (a : Int) (K : AV → Prop) (h :
 iteP (op == (2 : Int))
 (K
 (AV.tup
 [AV.sc (Value.string (ByteArray.mk (Array.mk []))),
 AV.sc (Value.string (ByteArray.mk (Array.mk [(118 : UInt8)])))]))
 (iteP (op == (3 : Int))
 (K
 (AV.tup
 [AV.sc (Value.string (ByteArray.mk (Array.mk []))),
 AV.sc (Value.string (ByteArray.mk (Array.mk [(118 : UInt8)])))]))
 (iteP (op == (4 : Int))
 (K
 (AV.tup
 [AV.sc (Value.string (ByteArray.mk (Array.mk []))),
 AV.sc (Value.string (ByteArray.mk (Array.mk [(118 : UInt8)])))]))
 (iteP (op == (5 : Int))
 (K
 (AV.tup
 [AV.sc (Value.string (ByteArray.mk (Array.mk []))),
 AV.sc (Value.string (ByteArray.mk (Array.mk [(118 : UInt8)])))]))
 (iteP (op == (6 : Int))
 (K
 (AV.tup
 [AV.sc (Value.string (ByteArray.mk (Array.mk []))),
 AV.sc (Value.string (ByteArray.mk (Array.mk [(118 : UInt8)])))]))
 (iteP (op == (14 : Int))
 (K
 (AV.tup
 [AV.sc (Value.string (ByteArray.mk (Array.mk []))),
 AV.sc (Value.string (ByteArray.mk (Array.mk [(118 : UInt8)])))]))
 (iteP (op == (7 : Int))
 (Few (1 : Int) ∧
 ∀ (x : List UInt8),
 x = valsF (1 : Int) →
 K
 (AV.tup
 [AV.sc (Value.string (ByteArray.mk (Array.mk x))),
 AV.sc (Value.string (ByteArray.mk (Array.mk [(118 : UInt8)])))]))
 (iteP (op == (9 : Int))
 (Few (1 : Int) ∧
 ∀ (x : List UInt8),
 x = valsF (1 : Int) →
 K
 (AV.tup
 [AV.sc (Value.string (ByteArray.mk (Array.mk x))),
 AV.sc (Value.string (ByteArray.mk (Array.mk [(118 : UInt8)])))]))
 (iteP (op == (10 : Int))
 (Few (1 : Int) ∧
 ∀ (x : List UInt8),
 x = valsF (1 : Int) →
 K
 (AV.tup
 [AV.sc (Value.string (ByteArray.mk (Array.mk x))),
 AV.sc (Value.string (ByteArray.mk (Array.mk [(118 : UInt8)])))]))
 (iteP (op == (11 : Int))
 (Few (1 : Int) ∧
 ∀ (x : List UInt8),
 x = valsF (1 : Int) →
 K
 (AV.tup
 [AV.sc (Value.string (ByteArray.mk (Array.mk x))),
 AV.sc (Value.string (ByteArray.mk (Array.mk [(118 : UInt8)])))]))
 (iteP (op == (15 : Int))
 (Few (1 : Int) ∧
 ∀ (x : List UInt8),
 x = valsF (1 : Int) →
 K
 (AV.tup
 [AV.sc (Value.string (ByteArray.mk (Array.mk x))),
 AV.sc (Value.string (ByteArray.mk (Array.mk [(118 : UInt8)])))]))
 (iteP (op == (16 : Int))
 (Few (1 : Int) ∧
 ∀ (x : List UInt8),
 x = valsF (1 : Int) →
 K
 (AV.tup
 [AV.sc (Value.string (ByteArray.mk (Array.mk x))),
 AV.sc (Value.string (ByteArray.mk (Array.mk [(118 : UInt8)])))]))
 (iteP (op == (20 : Int))
 (Few (1 : Int) ∧
 ∀ (x : List UInt8),
 x = valsF (1 : Int) →
 K
 (AV.tup
 [AV.sc (Value.string (ByteArray.mk (Array.mk x))),
 AV.sc (Value.string (ByteArray.mk (Array.mk [(118 : UInt8)])))]))
 (iteP (op == (21 : Int))
 (Few (1 : Int) ∧
 ∀ (x : List UInt8),
 x = valsF (1 : Int) →
 K
 (AV.tup
 [AV.sc (Value.string (ByteArray.mk (Array.mk x))),
 AV.sc (Value.string (ByteArray.mk (Array.mk [(118 : UInt8)])))]))
 (iteP (op == (12 : Int))
 (Few (2 : Int) ∧
 ∀ (x : List UInt8),
 x = valsF (2 : Int) →
 K
 (AV.tup
 [AV.sc (Value.string (ByteArray.mk (Array.mk x))),
 AV.sc (Value.string (ByteArray.mk (Array.mk [(118 : UInt8)])))]))
 (iteP (op == (13 : Int))
 (Few (2 : Int) ∧
 ∀ (x : List UInt8),
 x = valsF (2 : Int) →
 K
 (AV.tup
 [AV.sc (Value.string (ByteArray.mk (Array.mk x))),
 AV.sc (Value.string (ByteArray.mk (Array.mk [(118 : UInt8)])))]))
 (iteP (op == (17 : Int))
 (Few (2 : Int) ∧
 ∀ (x : List UInt8),
 x = valsF (2 : Int) →
 K
 (AV.tup
 [AV.sc (Value.string (ByteArray.mk (Array.mk x))),
 AV.sc (Value.string (ByteArray.mk (Array.mk [(118 : UInt8)])))]))
 (iteP (op == (18 : Int))
 (Few (2 : Int) ∧
 ∀ (x : List UInt8),
 x = valsF (2 : Int) →
 K
 (AV.tup
 [AV.sc (Value.string (ByteArray.mk (Array.mk x))),
 AV.sc (Value.string (ByteArray.mk (Array.mk [(118 : UInt8)])))]))
 (iteP (op == (19 : Int))
 (Few (2 : Int) ∧
 ∀ (x : List UInt8),
 x = valsF (2 : Int) →
 K
 (AV.tup
 [AV.sc (Value.string (ByteArray.mk (Array.mk x))),
 AV.sc (Value.string (ByteArray.mk (Array.mk [(118 : UInt8)])))]))
 (iteP (op == (32 : Int))
 (Few (2 : Int) ∧
 ∀ (x : List UInt8),
 x = valsF (2 : Int) →
 K
 (AV.tup
 [AV.sc (Value.string (ByteArray.mk (Array.mk x))),
 AV.sc (Value.string (ByteArray.mk (Array.mk [(118 : UInt8)])))]))
 (iteP (op == (34 : Int))
 (Few (2 : Int) ∧
 ∀ (x : List UInt8),
 x = valsF (2 : Int) →
 K
 (AV.tup
 [AV.sc (Value.string (ByteArray.mk (Array.mk x))),
 AV.sc (Value.string (ByteArray.mk (Array.mk [(118 : UInt8)])))]))
 (iteP (op == (8 : Int))
 (Few y ∧
 ∀ (x : List UInt8),
 x = valsF y →
 K
 (AV.tup
 [AV.sc (Value.string (ByteArray.mk (Array.mk x))),
 AV.sc
 (Value.string (ByteArray.mk (Array.mk [(118 : UInt8)])))]))
 (iteP (op == (31 : Int))
 (Few y ∧
 ∀ (x : List UInt8),
 x = valsF y →
 K
 (AV.tup
 [AV.sc (Value.string (ByteArray.mk (Array.mk x))),
 AV.sc
 (Value.string (ByteArray.mk (Array.mk [(118 : UInt8)])))]))
 (iteP (op == (35 : Int))
 (Few y ∧
 ∀ (x : List UInt8),
 x = valsF y →
 K
 (AV.tup
 [AV.sc (Value.string (ByteArray.mk (Array.mk x))),
 AV.sc
 (Value.string
 (ByteArray.mk (Array.mk [(118 : UInt8)])))]))
 (iteP (op == (36 : Int))
 (Few y ∧
 ∀ (x : List UInt8),
 x = valsF y →
 K
 (AV.tup
 [AV.sc (Value.string (ByteArray.mk (Array.mk x))),
 AV.sc
 (Value.string
 (ByteArray.mk (Array.mk [(118 : UInt8)])))]))
 (iteP (op == (23 : Int))
 (Few (1 : Int) ∧
 ∀ (x : List UInt8),
 x = valsF (1 : Int) →
 K
 (AV.tup
 [AV.sc (Value.string (ByteArray.mk (Array.mk x))),
 AV.sc (Value.string (ByteArray.mk (Array.mk [])))]))
 (iteP (op == (24 : Int))
 (Few (1 : Int) ∧
 ∀ (x : List UInt8),
 x = valsF (1 : Int) →
 K
 (AV.tup
 [AV.sc (Value.string (ByteArray.mk (Array.mk x))),
 AV.sc (Value.string (ByteArray.mk (Array.mk [])))]))
 (iteP (op == (25 : Int))
 (Few (1 : Int) ∧
 ∀ (x : List UInt8),
 x = valsF (1 : Int) →
 K
 (AV.tup
 [AV.sc (Value.string (ByteArray.mk (Array.mk x))),
 AV.sc (Value.string (ByteArray.mk (Array.mk [])))]))
 (iteP (op == (41 : Int))
 (Few (1 : Int) ∧
 ∀ (x : List UInt8),
 x = valsF (1 : Int) →
 K
 (AV.tup
 [AV.sc (Value.string (ByteArray.mk (Array.mk x))),
 AV.sc
 (Value.string (ByteArray.mk (Array.mk [])))]))
 (iteP (op == (29 : Int))
 (Few (1 : Int) ∧
 ∀ (x : List UInt8),
 x = valsF (1 : Int) →
 K
 (AV.tup
 [AV.sc (Value.string (ByteArray.mk (Array.mk x))),
 AV.sc
 (Value.string (ByteArray.mk (Array.mk [])))]))
 (iteP (op == (26 : Int))
 (K
 (AV.tup
 [AV.sc (Value.string (ByteArray.mk (Array.mk []))),
 AV.sc
 (Value.string
 (ByteArray.mk (Array.mk [(97 : UInt8)])))]))
 (iteP (op == (27 : Int))
 (K
 (AV.tup
 [AV.sc (Value.string (ByteArray.mk (Array.mk []))),
 AV.sc
 (Value.string
 (ByteArray.mk (Array.mk [(97 : UInt8)])))]))
 (iteP (op == (28 : Int))
 (iteP (inRange x (List.length sf))
 (getI x.toNat sf =
 some
 [AV.sc
 (Value.string
 (ByteArray.mk
 (Array.mk (cellStr sf x (0 : Nat))))),
 AV.sc
 (Value.int IntKind.i64
 (cellInt sf x (1 : Nat))),
 AV.sl (cellSl sf x (2 : Nat)) (0 : Nat),
 AV.sl (cellSl sf x (3 : Nat)) (0 : Nat)] ∧
 loopAt Tryz.prog (58 : Nat) (44 : Nat) =
 loopAt Tryz.prog (58 : Nat) (44 : Nat) ∧
 (I58 [] (cellSl sf x (3 : Nat)) (0 : Int) =
 I58 [] (cellSl sf x (3 : Nat)) (0 : Int) ∧
 P58 [] (cellSl sf x (3 : Nat)) (0 : Int)) ∧
 ∀ (x_1 : List UInt8),
 x_1 = kinds (cellSl sf x (3 : Nat)) →
 K
 (AV.tup
 [AV.sc
 (Value.string
 (ByteArray.mk (Array.mk x_1))),
 AV.sc
 (Value.string
 (ByteArray.mk
 (Array.mk
 [(118 : UInt8)])))]))
 False)
 (iteP (op == (30 : Int))
 (Few (IntKind.i64.wrap (y.tdiv (2 : Int))) ∧
 ∀ (x : List UInt8),
 x =
 valsF
 (IntKind.i64.wrap (y.tdiv (2 : Int))) →
 K
 (AV.tup
 [AV.sc
 (Value.string
 (ByteArray.mk (Array.mk x))),
 AV.sc
 (Value.string
 (ByteArray.mk
 (Array.mk [(118 : UInt8)])))]))
 (iteP (op == (33 : Int))
 (iteP (y.tmod (4 : Int) == (1 : Int))
 (Few (2 : Int) ∧
 ∀ (x : List UInt8),
 x = valsF (2 : Int) →
 K
 (AV.tup
 [AV.sc
 (Value.string
 (ByteArray.mk (Array.mk x))),
 AV.sc
 (Value.string
 (ByteArray.mk
 (Array.mk
 [(118 : UInt8)])))]))
 (Few (3 : Int) ∧
 ∀ (x : List UInt8),
 x = valsF (3 : Int) →
 K
 (AV.tup
 [AV.sc
 (Value.string
 (ByteArray.mk (Array.mk x))),
 AV.sc
 (Value.string
 (ByteArray.mk
 (Array.mk
 [(118 : UInt8)])))])))
 (iteP (op == (37 : Int))
 (Few
 (IntKind.i64.wrap
 ((1 : Int) + min x (1 : Int))) ∧
 ∀ (x_1 : List UInt8),
 x_1 =
 valsF
 (IntKind.i64.wrap
 ((1 : Int) + min x (1 : Int))) →
 K
 (AV.tup
 [AV.sc
 (Value.string
 (ByteArray.mk (Array.mk x_1))),
 AV.sc
 (Value.string
 (ByteArray.mk (Array.mk [])))]))
 (iteP (op == (38 : Int))
 (K
 (AV.tup
 [AV.sc
 (Value.string
 (ByteArray.mk (Array.mk []))),
 AV.sc
 (Value.string
 (ByteArray.mk
 (Array.mk [(108 : UInt8)])))]))
 (iteP (op == (40 : Int))
 (K
 (AV.tup
 [AV.sc
 (Value.string
 (ByteArray.mk
 (Array.mk [(108 : UInt8)]))),
 AV.sc
 (Value.string
 (ByteArray.mk (Array.mk [])))]))
 (iteP (op == (39 : Int))
 (K
 (AV.tup
 [AV.sc
 (Value.string
 (ByteArray.mk
 (Array.mk [(108 : UInt8)]))),
 AV.sc
 (Value.string
 (ByteArray.mk
 (Array.mk
 [(108 : UInt8),
 (118 : UInt8)])))]))
 (iteP (op == (44 : Int))
 (Few y ∧
 ∀ (x : List UInt8),
 x = valsF y →
 K
 (AV.tup
 [AV.sc
 (Value.string
 (ByteArray.mk
 (Array.mk x))),
 AV.sc
 (Value.string
 (ByteArray.mk
 (Array.mk [])))]))
 (K
 (AV.tup
 [AV.sc
 (Value.string
 (ByteArray.mk (Array.mk []))),
 AV.sc
 (Value.string
 (ByteArray.mk
 (Array.mk
 [])))])))))))))))))))))))))))))))))))))))))))))) :
 (fun (M : Int) (si sf : Cells) (b e n r : Int) (op x y nm : Int) (t : List UInt8) (a : Int) (K : AV → Prop) => wpCall T58 (cfg M) Tryz.prog 100 58 [codeA si sf b e n r, .agg [iA op, iA x, iA y, iA nm, aStr t, iA a]] heapF fun r h' => wpBack h' r K) M si sf b e n r op x y nm t a K :=
 Eq.mp (by kernel_rfl) h
theorem v64 (M : Int) (si : Cells) (sf : Cells) (b : Int) (e : Int) (n : Int) (r : Int) (op : Int) (x : Int) (y : Int) (nm : Int) (t : List UInt8) (a : Int) (K : AV → Prop) (h :
 iteP (op == (7 : Int)) (K (AV.sc (Value.string (ByteArray.mk (Array.mk [(118 : UInt8)])))))
 (iteP (op == (9 : Int)) (K (AV.sc (Value.string (ByteArray.mk (Array.mk [(118 : UInt8)])))))
 (iteP (op == (10 : Int)) (K (AV.sc (Value.string (ByteArray.mk (Array.mk [(118 : UInt8)])))))
 (iteP (op == (11 : Int)) (K (AV.sc (Value.string (ByteArray.mk (Array.mk [(118 : UInt8)])))))
 (iteP (op == (15 : Int)) (K (AV.sc (Value.string (ByteArray.mk (Array.mk [(118 : UInt8)])))))
 (iteP (op == (16 : Int)) (K (AV.sc (Value.string (ByteArray.mk (Array.mk [(118 : UInt8)])))))
 (iteP (op == (20 : Int)) (K (AV.sc (Value.string (ByteArray.mk (Array.mk [(118 : UInt8)])))))
 (iteP (op == (21 : Int)) (K (AV.sc (Value.string (ByteArray.mk (Array.mk [(118 : UInt8)])))))
 (iteP (op == (23 : Int)) (K (AV.sc (Value.string (ByteArray.mk (Array.mk [(118 : UInt8)])))))
 (iteP (op == (24 : Int)) (K (AV.sc (Value.string (ByteArray.mk (Array.mk [(118 : UInt8)])))))
 (iteP (op == (25 : Int)) (K (AV.sc (Value.string (ByteArray.mk (Array.mk [(118 : UInt8)])))))
 (iteP (op == (41 : Int)) (K (AV.sc (Value.string (ByteArray.mk (Array.mk [(118 : UInt8)])))))
 (iteP (op == (29 : Int)) (K (AV.sc (Value.string (ByteArray.mk (Array.mk [(118 : UInt8)])))))
 (iteP (op == (12 : Int))
 (K (AV.sc (Value.string (ByteArray.mk (Array.mk [(118 : UInt8), (118 : UInt8)])))))
 (iteP (op == (13 : Int))
 (K (AV.sc (Value.string (ByteArray.mk (Array.mk [(118 : UInt8), (118 : UInt8)])))))
 (iteP (op == (17 : Int))
 (K (AV.sc (Value.string (ByteArray.mk (Array.mk [(118 : UInt8), (118 : UInt8)])))))
 (iteP (op == (18 : Int))
 (K (AV.sc (Value.string (ByteArray.mk (Array.mk [(118 : UInt8), (118 : UInt8)])))))
 (iteP (op == (19 : Int))
 (K (AV.sc (Value.string (ByteArray.mk (Array.mk [(118 : UInt8), (118 : UInt8)])))))
 (iteP (op == (32 : Int))
 (K
 (AV.sc (Value.string (ByteArray.mk (Array.mk [(118 : UInt8), (118 : UInt8)])))))
 (iteP (op == (34 : Int))
 (K
 (AV.sc
 (Value.string (ByteArray.mk (Array.mk [(118 : UInt8), (118 : UInt8)])))))
 (iteP (op == (8 : Int))
 (Few y ∧
 ∀ (x : List UInt8),
 x = valsF y → K (AV.sc (Value.string (ByteArray.mk (Array.mk x)))))
 (iteP (op == (31 : Int))
 (Few y ∧
 ∀ (x : List UInt8),
 x = valsF y → K (AV.sc (Value.string (ByteArray.mk (Array.mk x)))))
 (iteP (op == (35 : Int))
 (Few y ∧
 ∀ (x : List UInt8),
 x = valsF y → K (AV.sc (Value.string (ByteArray.mk (Array.mk x)))))
 (iteP (op == (36 : Int))
 (Few y ∧
 ∀ (x : List UInt8),
 x = valsF y → K (AV.sc (Value.string (ByteArray.mk (Array.mk x)))))
 (iteP (op == (44 : Int))
 (Few y ∧
 ∀ (x : List UInt8),
 x = valsF y →
 K (AV.sc (Value.string (ByteArray.mk (Array.mk x)))))
 (iteP (op == (28 : Int))
 (iteP (inRange x (List.length sf))
 (getI x.toNat sf =
 some
 [AV.sc
 (Value.string
 (ByteArray.mk (Array.mk (cellStr sf x (0 : Nat))))),
 AV.sc (Value.int IntKind.i64 (cellInt sf x (1 : Nat))),
 AV.sl (cellSl sf x (2 : Nat)) (0 : Nat),
 AV.sl (cellSl sf x (3 : Nat)) (0 : Nat)] ∧
 Pars (cellSl sf x (2 : Nat)) (cellSl sf x (3 : Nat)) ∧
 ∀ (x_1 : List UInt8),
 x_1 = kinds (cellSl sf x (3 : Nat)) →
 K (AV.sc (Value.string (ByteArray.mk (Array.mk x_1)))))
 False)
 (iteP (op == (30 : Int))
 (iteP (decide ((2 : Int) ≤ y))
 (K
 (AV.sc
 (Value.string (ByteArray.mk (Array.mk [(118 : UInt8)])))))
 (K (AV.sc (Value.string (ByteArray.mk (Array.mk []))))))
 (iteP (op == (33 : Int))
 (iteP (decide ((2 : Int) ≤ y.tmod (4 : Int)))
 (K
 (AV.sc
 (Value.string
 (ByteArray.mk
 (Array.mk
 [(118 : UInt8), (118 : UInt8), (118 : UInt8)])))))
 (K
 (AV.sc
 (Value.string
 (ByteArray.mk
 (Array.mk [(118 : UInt8), (118 : UInt8)]))))))
 (iteP (op == (37 : Int))
 (iteP (decide ((0 : Int) < x))
 (K
 (AV.sc
 (Value.string
 (ByteArray.mk
 (Array.mk [(118 : UInt8), (118 : UInt8)])))))
 (K
 (AV.sc
 (Value.string
 (ByteArray.mk (Array.mk [(118 : UInt8)]))))))
 (iteP (op == (40 : Int))
 (K
 (AV.sc
 (Value.string
 (ByteArray.mk (Array.mk [(108 : UInt8)])))))
 (iteP (op == (39 : Int))
 (K
 (AV.sc
 (Value.string
 (ByteArray.mk (Array.mk [(108 : UInt8)])))))
 (K
 (AV.sc
 (Value.string
 (ByteArray.mk
 (Array.mk [])))))))))))))))))))))))))))))))))))) :
 (fun (M : Int) (si sf : Cells) (b e n r : Int) (op x y nm : Int) (t : List UInt8) (a : Int) (K : AV → Prop) => wpCall T64 (cfg M) Tryz.prog 100 64 [codeA si sf b e n r, .agg [iA op, iA x, iA y, iA nm, aStr t, iA a]] heapF fun r h' => wpBack h' r K) M si sf b e n r op x y nm t a K :=
 Eq.mp (by kernel_rfl) h
theorem v68 (M : Int) (op : Int) (x : Int) (y : Int) (nm : Int) (t : List UInt8) (a : Int) (K : AV → Prop) (h :
 iteP (op == (2 : Int)) (K (AV.sc (Value.string (ByteArray.mk (Array.mk [(118 : UInt8)])))))
 (iteP (op == (3 : Int)) (K (AV.sc (Value.string (ByteArray.mk (Array.mk [(118 : UInt8)])))))
 (iteP (op == (4 : Int)) (K (AV.sc (Value.string (ByteArray.mk (Array.mk [(118 : UInt8)])))))
 (iteP (op == (5 : Int)) (K (AV.sc (Value.string (ByteArray.mk (Array.mk [(118 : UInt8)])))))
 (iteP (op == (6 : Int)) (K (AV.sc (Value.string (ByteArray.mk (Array.mk [(118 : UInt8)])))))
 (iteP (op == (7 : Int)) (K (AV.sc (Value.string (ByteArray.mk (Array.mk [(118 : UInt8)])))))
 (iteP (op == (8 : Int)) (K (AV.sc (Value.string (ByteArray.mk (Array.mk [(118 : UInt8)])))))
 (iteP (op == (9 : Int)) (K (AV.sc (Value.string (ByteArray.mk (Array.mk [(118 : UInt8)])))))
 (iteP (op == (10 : Int)) (K (AV.sc (Value.string (ByteArray.mk (Array.mk [(118 : UInt8)])))))
 (iteP (op == (11 : Int)) (K (AV.sc (Value.string (ByteArray.mk (Array.mk [(118 : UInt8)])))))
 (iteP (op == (12 : Int)) (K (AV.sc (Value.string (ByteArray.mk (Array.mk [(118 : UInt8)])))))
 (iteP (op == (13 : Int)) (K (AV.sc (Value.string (ByteArray.mk (Array.mk [(118 : UInt8)])))))
 (iteP (op == (14 : Int)) (K (AV.sc (Value.string (ByteArray.mk (Array.mk [(118 : UInt8)])))))
 (iteP (op == (15 : Int)) (K (AV.sc (Value.string (ByteArray.mk (Array.mk [(118 : UInt8)])))))
 (iteP (op == (16 : Int))
 (K (AV.sc (Value.string (ByteArray.mk (Array.mk [(118 : UInt8)])))))
 (iteP (op == (17 : Int))
 (K (AV.sc (Value.string (ByteArray.mk (Array.mk [(118 : UInt8)])))))
 (iteP (op == (18 : Int))
 (K (AV.sc (Value.string (ByteArray.mk (Array.mk [(118 : UInt8)])))))
 (iteP (op == (19 : Int))
 (K (AV.sc (Value.string (ByteArray.mk (Array.mk [(118 : UInt8)])))))
 (iteP (op == (20 : Int))
 (K (AV.sc (Value.string (ByteArray.mk (Array.mk [(118 : UInt8)])))))
 (iteP (op == (21 : Int))
 (K (AV.sc (Value.string (ByteArray.mk (Array.mk [(118 : UInt8)])))))
 (iteP (op == (28 : Int))
 (K (AV.sc (Value.string (ByteArray.mk (Array.mk [(118 : UInt8)])))))
 (iteP (op == (30 : Int))
 (K (AV.sc (Value.string (ByteArray.mk (Array.mk [(118 : UInt8)])))))
 (iteP (op == (31 : Int))
 (K (AV.sc (Value.string (ByteArray.mk (Array.mk [(118 : UInt8)])))))
 (iteP (op == (32 : Int))
 (K (AV.sc (Value.string (ByteArray.mk (Array.mk [(118 : UInt8)])))))
 (iteP (op == (33 : Int))
 (K (AV.sc (Value.string (ByteArray.mk (Array.mk [(118 : UInt8)])))))
 (iteP (op == (34 : Int))
 (K (AV.sc (Value.string (ByteArray.mk (Array.mk [(118 : UInt8)])))))
 (iteP (op == (35 : Int))
 (K
 (AV.sc
 (Value.string (ByteArray.mk (Array.mk [(118 : UInt8)])))))
 (iteP (op == (36 : Int))
 (K
 (AV.sc
 (Value.string (ByteArray.mk (Array.mk [(118 : UInt8)])))))
 (iteP (op == (26 : Int))
 (K
 (AV.sc
 (Value.string (ByteArray.mk (Array.mk [(97 : UInt8)])))))
 (iteP (op == (27 : Int))
 (K
 (AV.sc
 (Value.string
 (ByteArray.mk (Array.mk [(97 : UInt8)])))))
 (iteP (op == (38 : Int))
 (K
 (AV.sc
 (Value.string
 (ByteArray.mk (Array.mk [(108 : UInt8)])))))
 (iteP (op == (39 : Int))
 (K
 (AV.sc
 (Value.string
 (ByteArray.mk
 (Array.mk [(108 : UInt8), (118 : UInt8)])))))
 (K
 (AV.sc
 (Value.string
 (ByteArray.mk
 (Array.mk []))))))))))))))))))))))))))))))))))))) :
 (fun (M : Int) (op x y nm : Int) (t : List UInt8) (a : Int) (K : AV → Prop) => wpCall tab0 (cfg M) Tryz.prog 100 68 [.agg [iA op, iA x, iA y, iA nm, aStr t, iA a]] heapF fun r h' => wpBack h' r K) M op x y nm t a K :=
 Eq.mp (by kernel_rfl) h
theorem v59 (M : Int) (s : List UInt8) (p : List UInt8) (K : AV → Prop) (h :
 iteP (decide ((↑p.length : Int) ≤ (↑s.length : Int)))
 (iteP
 (decide ((0 : Int) ≤ IntKind.i64.wrap ((↑s.length : Int) - (↑p.length : Int))) &&
 decide (IntKind.i64.wrap ((↑s.length : Int) - (↑p.length : Int)) ≤ (↑s.length : Int)))
 (iteP (decide (List.drop (IntKind.i64.wrap ((↑s.length : Int) - (↑p.length : Int))).toNat s = p))
 (iteP
 (decide ((0 : Int) ≤ IntKind.i64.wrap ((↑s.length : Int) - (↑p.length : Int))) &&
 decide (IntKind.i64.wrap ((↑s.length : Int) - (↑p.length : Int)) ≤ (↑s.length : Int)))
 (K
 (AV.tup
 [AV.sc
 (Value.string
 (ByteArray.mk
 (Array.mk (List.take (IntKind.i64.wrap ((↑s.length : Int) - (↑p.length : Int))).toNat s)))),
 AV.sc (Value.bool true)]))
 False)
 (K (AV.tup [AV.sc (Value.string (ByteArray.mk (Array.mk s))), AV.sc (Value.bool false)])))
 False)
 (K (AV.tup [AV.sc (Value.string (ByteArray.mk (Array.mk s))), AV.sc (Value.bool false)]))) :
 (fun (M : Int) (s p : List UInt8) (K : AV → Prop) => wpCall tab0 (cfg M) Tryz.prog 100 59 [aStr s, aStr p] heapF fun r h' => wpBack h' r K) M s p K :=
 Eq.mp (by kernel_rfl) h
end
end Go.Proofs.Sp.Sj
namespace Go.Proofs.Sp.Sj
open Go Go.Ef Go.Proofs.Pt
noncomputable section
set_option maxRecDepth 100000
variable {M : Int}
theorem cond_some1 {α : Type 1} {b : Bool} {x : Option α} {y : α} (h : (bif b then x else none) = some y) : x = some y := by
 cases b with
 | false => cases h
 | true => exact h
theorem wB_spec {a lo hi : Int} (h : wB a lo hi = true) : lo ≤ a ∧ a ≤ hi := by
 unfold wB at h
 simp only [Bool.and_eq_true, decide_eq_true_eq] at h
 exact h
theorem wB_of {a lo hi : Int} (h1 : lo ≤ a) (h2 : a ≤ hi) : wB a lo hi = true := by
 unfold wB
 rw [decide_eq_true h1, decide_eq_true h2]; rfl
theorem proper_op {n nf r op x y nm : Int} {t : List UInt8} (h : properB n nf r op x y nm t = true) : wB op 1 49 = true := by
 cases hw : wB op 1 49 with
 | true => rfl
 | false => rw [proper_out hw] at h; cases h
theorem built_most (t : List UInt8) : (builtF t).2.1 ≤ 1024 := by
 unfold builtF
 repeat' split
 all_goals decide
theorem repeat_one (n : Nat) : Lib.repeatL [118] n = List.replicate n (118 : UInt8) := by
 induction n with
 | zero => rfl
 | succ n ih => rw [List.replicate_succ, ← ih]; rfl
theorem ok122 {T : Tab} (O : Ok M T) : Ok M (T.addC 122 C122) := by
 refine addC_ok O fun args h s hs hp => ?_
 unfold C122 at hs
 split at hs
 ·rename_i s n
  cases hs
  obtain ⟨h1, h2, h3⟩ := hp
  refine ⟨_, List.mem_singleton.2 rfl, valsF n, 0, rfl, ?_⟩
  have hsz : s.size = 1 := by rw [← size_list, h1]; rfl
  show (bif decide (0 ≤ n) && Nat.ble n.toNat maxRoom && Nat.ble (s.size * n.toNat) maxRoom then
   some (AV.sc (.string ⟨(Lib.repeatL s.data.toList n.toNat).toArray⟩), h) else none) = _
  rw [hsz, h1, decide_eq_true h2, ble_of (show n.toNat ≤ maxRoom by unfold maxRoom; omega), ble_of (show 1 * n.toNat ≤ maxRoom by unfold maxRoom; omega), repeat_one]
  rfl
 ·cases hs
theorem ok90 {T : Tab} (O : Ok M T) : Ok M (T.addC 90 C90) := by
 refine freshK O (ok122 ok0) (n := 60) (by kernel_rfl) rfl fun args h s hs => ?_
 unfold C90 at hs
 split at hs
 ·rename_i n
  cases hs
  refine ⟨rfl, _, _, _, _, rfl, fun hp K hK => v90 M n K ⟨⟨rfl, hp⟩, ?_⟩⟩
  intro q hq
  subst hq
  exact hK
 ·cases hs
theorem rowU_len (x : List UInt8) : (rowU x).length = x.length := by simp [rowU]
theorem rowU_u8 (x : List UInt8) : (rowU x).all isU8 = true := by
 unfold rowU
 rw [List.all_map]
 exact List.all_eq_true.2 fun _ _ => rfl
theorem rowU_end {x : List UInt8} {i : Nat} (h : i ≤ x.length) : (Nat.ble i (rowU x).length && (rowU x).all isU8) = true := by
 rw [rowU_u8, rowU_len, Bool.and_true]
 exact Nat.ble_eq_true_of_le h
theorem rowU_set (x : List UInt8) (i : Nat) (b : UInt8) : (rowU x).set i (.sc (.int .u8 b.toNat)) = rowU (x.set i b) := by
 unfold rowU
 rw [List.map_set]
theorem rowU_back (x : List UInt8) : (rowU x).map u8B = x := by
 unfold rowU
 rw [List.map_map]
 refine (List.map_congr_left fun b _ => ?_).trans (List.map_id x)
 show UInt8.ofNat (b.toNat : Int).toNat = b
 rw [Int.toNat_natCast]; exact UInt8.ofNat_toNat
theorem rowU_take {x : List UInt8} {k : Nat} (h : x.length = k) : ((rowU x).take k).map u8B = x := by
 rw [List.take_of_length_le (by rw [rowU_len]; omega), rowU_back]
theorem wrap_up {i : Nat} (h : i ≤ 2097152) : IntKind.i64.wrap ((i : Int) + 1) = ((i + 1 : Nat) : Int) := by rw [wrap_in (by omega) (by omega)]; rfl
def half93 (k i : Nat) : List UInt8 := List.replicate i 118 ++ List.replicate (k - i) 0
theorem half93_len {k i : Nat} (h : i ≤ k) : (half93 k i).length = k := by simp [half93]; omega
theorem half93_set {k i : Nat} (h : i < k) : (half93 k i).set i 118 = half93 k (i + 1) := by
 unfold half93
 rw [List.set_append_right _ _ (by simp), List.length_replicate, Nat.sub_self]
 obtain ⟨d, hd⟩ : ∃ d, k - i = d + 1 := ⟨k - i - 1, by omega⟩
 rw [hd, List.replicate_succ, List.set_cons_zero, show k - (i + 1) = d by omega, List.replicate_succ', List.append_assoc]
 rfl
theorem okz93 : Ok M T93z := ⟨fun _ _ _ _ _ ht => (by cases ht), fun _ _ _ _ _ ht => (by cases ht)⟩
theorem loop93 {k : Nat} (hk : k ≤ 2097152) : ∀ (f i : Nat), k - i = f → i ≤ k →
  Ev (cfg M) Tryz.prog 93 (.loop (loopAt Tryz.prog 93 4)) (I93 k (rowU (half93 k i)) k i) fun e τ => e = .exit 0 ∧ τ = E93 (rowU (List.replicate k 118)) k := by
 have can : ∀ (cs : List AV) (i : Nat), (I93 k cs k i).tidy [0, 3, 4] 0 = I93 k cs k i := fun cs i => by kernel_rfl
 intro f
 induction f with
 | zero =>
  intro i hf hi
  refine Ev.round (t := ⟨[0, 3, 4], [3], 0⟩) okz93 (by kernel_rfl) rfl (can _ i) (r93 M k _ k i (fun _ _ => False) (i = k) ?_) (fun τ h => h.2.elim) (fun e τ h => ?_)
  ·exact ie (df (by omega)) ⟨rfl, rfl, by omega⟩
  ·unfold q93 at h
   split at h
   ·obtain ⟨h1, h2, h3⟩ := h
    refine ⟨h1, ?_⟩
    rw [h2, h3]
    unfold half93
    rw [Nat.sub_self]; simp
   ·exact h.elim
 | succ f ih =>
  intro i hf hi
  have hlt : i < k := by omega
  refine Ev.round (t := ⟨[0, 3, 4], [3], 0⟩) okz93 (by kernel_rfl) rfl (can _ i) (r93 M k _ k i (fun cs j => cs = rowU (half93 k (i + 1)) ∧ j = ((i + 1 : Nat) : Int)) False ?_) (fun τ h => ?_) (fun e τ h => ?_)
  ·rw [Int.toNat_natCast, Nat.zero_add, Nat.mul_one, wrap_up (by omega)]
   refine it (dt (by omega)) (it (by rw [inRange_iff]; omega) (it (by rw [rowU_len, half93_len hi]; exact Nat.ble_eq_true_of_le hlt) ⟨rfl, ?_, rfl⟩))
   rw [← half93_set hlt, ← rowU_set]; rfl
  ·obtain ⟨h1, h2, h3⟩ := h
   rw [h2, h3] at h1
   rw [h1]
   exact ih (i + 1) (by omega) (by omega)
  ·unfold q93 at h
   split at h
   ·exact h.2.2.elim
   ·exact h.elim
theorem rep_zero (k : Nat) : List.replicate k (AV.sc (.int .u8 0)) = rowU (half93 k 0) := by
 unfold half93 rowU
 rw [Nat.sub_zero]; simp
theorem ok93L : Ok M T93 := by
 refine addL_ok okz93 fun σ s hs hp => ?_
 replace hs := cond_some1 hs
 cases hs
 obtain ⟨e, h1, h2, h3, h4⟩ := hp
 have he : Ev (cfg M) Tryz.prog 93 (.loop (loopAt Tryz.prog 93 4)) σ fun e τ => e = .exit 0 ∧ τ = E93 (rowU (List.replicate (rowN σ 3) 118)) (rowN σ 3) := by
  refine Ev.tidied (t := ⟨[0, 3, 4], [3], 0⟩) (τ := I93 (rowN σ 3) (rowU (half93 (rowN σ 3) 0)) (rowN σ 3) (0 : Nat)) (by kernel_rfl) (by rw [e, h1, h4, rep_zero]; kernel_rfl) ?_
  exact loop93 h3 _ 0 rfl (Nat.zero_le _)
 obtain ⟨n, ex, τ, h6, rfl, rfl⟩ := he
 exact ⟨_, List.mem_singleton.2 rfl, _, rfl, n, h6⟩
theorem ok93 {T : Tab} (O : Ok M T) : Ok M (T.addC 93 C90) := by
 refine addC_ok O fun args h s hs hpre => ?_
 unfold C90 at hs
 split at hs
 ·rename_i n
  cases hs
  obtain ⟨h0, h1⟩ := hpre
  have key : ∃ T', Ok M T' ∧ wpCall T' (cfg M) Tryz.prog 60 93 [iA n] heapF fun r' h' => wpBack h' r' fun v => v = aStr (valsF n) := by
   by_cases hz : n = 0
   ·subst hz
    exact ⟨T93z, okz93, v93z M _ rfl⟩
   ·refine ⟨T93, ok93L, v93 M n _ ?_⟩
    refine it ?_ (ie ?_ ⟨rfl, ⟨rfl, ?_⟩, ?_⟩)
    ·simp only [Bool.and_eq_true, decide_eq_true_eq]
     exact ⟨⟨⟨h0, by omega⟩, by omega⟩, Nat.ble_eq_true_of_le (by omega)⟩
    ·cases hq : n.toNat.beq 0 with
     | false => rfl
     | true => have := Nat.eq_of_beq_eq_true hq; omega
    ·exact ⟨by omega, by omega, by omega, rfl⟩
    ·intro q hq
     subst hq
     rw [Nat.zero_add]
     refine it (rowU_end (by simp)) ?_
     rw [rowU_take (by simp)]
     rfl
  obtain ⟨T', O', hw⟩ := key
  obtain ⟨m, v, h', e, rfl, rfl⟩ := EvP.freshV (g := 93) (args := [iA n]) (h := h) (v := aStr (valsF n)) O' (n := 60) (by kernel_rfl) rfl (args' := [iA n]) rfl hw
  exact ⟨_, List.mem_singleton.2 rfl, _, m, rfl, e⟩
 ·cases hs
theorem rowO_len (m : List Bool) : (rowO m).length = m.length := by simp [rowO]
theorem rowO_get {m : List Bool} {i : Nat} (h : i < m.length) : getI i (rowO m) = some [bA m[i]] := by
 unfold rowO
 rw [getI_eq, List.getElem?_map, List.getElem?_eq_getElem h]; rfl
theorem rowO_cell {m : List Bool} {i : Nat} (h : i < m.length) : cellBool (rowO m) i 0 = m[i] := by
 unfold cellBool cellAt
 rw [Int.toNat_natCast, rowO_get h]; rfl
def kindM (b : Bool) : UInt8 := if b then 97 else 118
theorem kinds_rowO (m : List Bool) : kinds (rowO m) = m.map kindM := by
 unfold kinds rowO
 rw [List.map_map]
 refine List.map_congr_left fun b _ => ?_
 cases b <;> rfl
def half94 (m : List Bool) (i : Nat) : List UInt8 := (m.take i).map kindM ++ List.replicate (m.length - i) 118
theorem half94_len {m : List Bool} {i : Nat} (h : i ≤ m.length) : (half94 m i).length = m.length := by simp [half94]; omega
theorem half94_next {m : List Bool} {i : Nat} (h : i < m.length) : half94 m (i + 1) = if m[i] then (half94 m i).set i 97 else half94 m i := by
 obtain ⟨d, hd⟩ : ∃ d, m.length - i = d + 1 := ⟨m.length - i - 1, by omega⟩
 have hl : ((m.take i).map kindM).length = i := by simp; omega
 unfold half94
 rw [List.take_add_one, List.getElem?_eq_getElem h, List.map_append, hd, show m.length - (i + 1) = d by omega, List.append_assoc, List.replicate_succ]
 rw [List.set_append_right _ _ (by omega), hl, Nat.sub_self, List.set_cons_zero]
 cases hb : m[i] <;> simp [kindM]
theorem okz94 : Ok M T94z := ⟨(ok93 ok0).call, (ok93 ok0).loop⟩
theorem loop94 {nm : List UInt8} {en : Int} {ps : Cells} {m : List Bool} (hm : m.length ≤ 1048576) : ∀ (f i : Nat), m.length - i = f → i ≤ m.length →
  Ev (cfg M) Tryz.prog 94 (.loop (loopAt Tryz.prog 94 4)) (I94 nm en ps (rowO m) (rowU (half94 m i)) m.length i) fun e τ => e = .exit 0 ∧ τ = E94 nm en ps (rowO m) (rowU (kinds (rowO m))) m.length := by
 have can : ∀ (cs : List AV) (i : Nat), (I94 nm en ps (rowO m) cs m.length i).tidy [1, 3, 4] 1 = I94 nm en ps (rowO m) cs m.length i := fun cs i => by kernel_rfl
 intro f
 induction f with
 | zero =>
  intro i hf hi
  refine Ev.round (t := ⟨[1, 3, 4], [3], 1⟩) okz94 (by kernel_rfl) rfl (can _ i) (r94 M nm en ps (rowO m) _ m.length i (fun _ _ => False) (i = m.length) ?_) (fun τ h => h.2.elim) (fun e τ h => ?_)
  ·exact ie (df (by omega)) ⟨rfl, rfl, by omega⟩
  ·unfold q94 at h
   split at h
   ·obtain ⟨h1, h2, h3⟩ := h
    refine ⟨h1, ?_⟩
    rw [h2, h3, kinds_rowO]
    unfold half94
    rw [Nat.sub_self, List.take_length]; simp
   ·exact h.elim
 | succ f ih =>
  intro i hf hi
  have hlt : i < m.length := by omega
  refine Ev.round (t := ⟨[1, 3, 4], [3], 1⟩) okz94 (by kernel_rfl) rfl (can _ i) (r94 M nm en ps (rowO m) _ m.length i (fun cs j => cs = rowU (half94 m (i + 1)) ∧ j = ((i + 1 : Nat) : Int)) False ?_) (fun τ h => ?_) (fun e τ h => ?_)
  ·have e1 := half94_next hlt
   rw [rowO_len, Int.toNat_natCast, Nat.zero_add, Nat.mul_one, wrap_up (by omega), rowO_cell hlt, rowO_get hlt]
   refine it (dt (by omega)) (it (by rw [inRange_iff]; omega) ⟨rfl, ?_⟩)
   cases hb : m[i] with
   | true =>
    refine it rfl (it (by rw [inRange_iff]; omega) (it (by rw [rowU_len, half94_len hi]; exact Nat.ble_eq_true_of_le hlt) ⟨rfl, ?_, rfl⟩))
    rw [e1, hb, if_pos rfl, ← rowU_set]; rfl
   | false =>
    refine ie rfl ⟨rfl, ?_, rfl⟩
    rw [e1, hb]; rfl
  ·obtain ⟨h1, h2, h3⟩ := h
   rw [h2, h3] at h1
   rw [h1]
   exact ih (i + 1) (by omega) (by omega)
  ·unfold q94 at h
   split at h
   ·exact h.2.2.elim
   ·exact h.elim
theorem ok94L : Ok M T94 := by
 refine addL_ok okz94 fun σ s hs hp => ?_
 cases hs
 obtain ⟨e, m, h1, h2, h3, h4⟩ := hp
 have he : Ev (cfg M) Tryz.prog 94 (.loop (loopAt Tryz.prog 94 4)) σ fun e τ => e = .exit 0 ∧ τ = E94 (lcS σ 0 0) (lcI σ 0 1) (lcE σ 0 2) (rowO m) (rowU (kinds (rowO m))) m.length := by
  refine Ev.tidied (t := ⟨[1, 3, 4], [3], 1⟩) (τ := I94 (lcS σ 0 0) (lcI σ 0 1) (lcE σ 0 2) (rowO m) (rowU (half94 m 0)) m.length (0 : Nat)) (by kernel_rfl) ?_ (loop94 h3 _ 0 rfl (Nat.zero_le _))
  rw [e, h1, h4, h2, show half94 m 0 = List.replicate m.length 118 from rfl]
  kernel_rfl
 obtain ⟨n, ex, τ, h6, rfl, rfl⟩ := he
 refine ⟨_, List.mem_singleton.2 rfl, rowU (kinds (lcE σ 0 3)), rfl, n, ?_⟩
 rw [h6, h1, h2]
theorem ok94 {T : Tab} (O : Ok M T) : Ok M (T.addC 94 C94) := by
 refine freshK O ok94L (n := 60) (by kernel_rfl) rfl fun args h s hs => ?_
 unfold C94 at hs
 split at hs
 ·rename_i nm en ps bs
  obtain ⟨⟨nm⟩⟩ := nm
  cases hs
  refine ⟨rfl, _, _, _, _, rfl, fun hp K hK => v94 M nm en ps bs K ?_⟩
  obtain ⟨hn, m, rfl, hm⟩ := hp
  rw [rowO_len] at hn
  refine ⟨⟨by omega, by omega⟩, ?_⟩
  intro q hq
  subst hq
  have hl : (valsF (ps.length : Int)).length = m.length := by unfold valsF; rw [List.length_replicate]; omega
  refine it (by rw [hl]; exact Nat.ble_eq_true_of_le (by omega)) ⟨rfl, ⟨rfl, m, rfl, hl, hm, ?_⟩, ?_⟩
  ·rw [hl]; unfold valsF; rw [Int.toNat_natCast, hn]; rfl
  ·intro q hq
   subst hq
   have hk : (kinds (rowO m)).length = m.length := by rw [kinds_rowO, List.length_map]
   rw [Nat.zero_add, hl]
   refine it (rowU_end (by omega)) ?_
   rw [rowU_take hk]
   exact hK
 ·cases hs
end
end Go.Proofs.Sp.Sj
