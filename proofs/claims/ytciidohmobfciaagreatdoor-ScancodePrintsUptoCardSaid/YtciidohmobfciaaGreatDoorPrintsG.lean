/- A part of the proof: definitions and lemmas. -/
import Derived.Test.YtciidohmobfciaaGreatDoorPrintsA
import Derived.Test.YtciidohmobfciaaGreatDoorPrintsB
import Derived.Test.YtciidohmobfciaaGreatDoorPrintsC
import Derived.Test.YtciidohmobfciaaGreatDoorPrintsD
import Derived.Test.YtciidohmobfciaaGreatDoorPrintsE
import Derived.Test.YtciidohmobfciaaGreatDoorPrintsF
namespace Go.Proofs.Sp
open Go Go.Ef Go.Proofs.Pt
noncomputable section
def namesL : List UInt8 := [115, 116, 101, 112, 32, 110, 117, 109, 98, 101, 114, 32, 115, 116, 114, 105, 110, 103, 32, 110, 111, 110, 101, 32, 114, 101, 99, 111, 114, 100, 32, 118, 97, 114, 32, 102, 105, 101, 108, 100, 32, 107, 101, 121, 32, 101, 108, 101, 109, 32, 105, 110, 32, 115, 101, 116, 118, 97, 114, 32, 115, 101, 116, 102, 105, 101, 108, 100, 32, 115, 101, 116, 101, 108, 101, 109, 32, 115, 116, 101, 112, 118, 97, 114, 32, 115, 116, 101, 112, 102, 105, 101, 108, 100, 32, 115, 116, 101, 112, 101, 108, 101, 109, 32, 109, 97, 116, 99, 104, 32, 98, 105, 110, 97, 114, 121, 32, 99, 111, 110, 99, 97, 116, 32, 117, 110, 97, 114, 121, 32, 116, 114, 117, 116, 104, 32, 106, 117, 109, 112, 32, 106, 117, 109, 112, 102, 97, 108, 115, 101, 32, 106, 117, 109, 112, 116, 114, 117, 101, 32, 112, 111, 112, 32, 97, 114, 114, 97, 121, 32, 110, 101, 119, 97, 114, 114, 97, 121, 32, 99, 97, 108, 108, 32, 114, 101, 116, 117, 114, 110, 32, 103, 101, 116, 32, 112, 117, 114, 101, 32, 115, 112, 108, 105, 116, 32, 115, 117, 98, 32, 102, 105, 110, 100, 32, 106, 111, 105, 110, 32, 115, 112, 114, 105, 110, 116, 102, 32, 119, 114, 105, 116, 101, 32, 108, 105, 115, 116, 32, 110, 101, 120, 116, 32, 100, 114, 111, 112, 108, 105, 115, 116, 32, 100, 101, 108, 101, 116, 101, 32, 99, 108, 101, 97, 114, 32, 110, 101, 120, 116, 114, 101, 99, 111, 114, 100, 32, 101, 120, 105, 116, 32, 114, 97, 110, 103, 101, 32, 111, 112, 101, 110, 32, 99, 108, 111, 115, 101, 32, 100, 111, 110, 101, 32, 113, 117, 105, 116]
def usesL : List UInt8 := [45, 32, 78, 32, 84, 32, 45, 32, 84, 32, 88, 84, 32, 45, 32, 89, 32, 88, 84, 32, 88, 84, 32, 88, 89, 84, 32, 89, 32, 88, 89, 84, 32, 88, 89, 84, 32, 89, 32, 88, 89, 84, 32, 89, 32, 89, 32, 45, 32, 89, 32, 45, 32, 88, 32, 88, 32, 88, 32, 45, 32, 88, 84, 32, 45, 32, 88, 32, 45, 32, 88, 89, 84, 32, 89, 84, 32, 88, 84, 32, 88, 89, 84, 32, 45, 32, 89, 32, 89, 32, 88, 32, 88, 84, 32, 88, 32, 45, 32, 88, 84, 32, 88, 84, 32, 45, 32, 89, 32, 88, 89, 32, 89, 32, 89, 32, 45, 32, 45]
def namesR : List (List UInt8) := [[115, 116, 101, 112], [110, 117, 109, 98, 101, 114], [115, 116, 114, 105, 110, 103], [110, 111, 110, 101], [114, 101, 99, 111, 114, 100], [118, 97, 114], [102, 105, 101, 108, 100], [107, 101, 121], [101, 108, 101, 109], [105, 110], [115, 101, 116, 118, 97, 114], [115, 101, 116, 102, 105, 101, 108, 100], [115, 101, 116, 101, 108, 101, 109], [115, 116, 101, 112, 118, 97, 114], [115, 116, 101, 112, 102, 105, 101, 108, 100], [115, 116, 101, 112, 101, 108, 101, 109], [109, 97, 116, 99, 104], [98, 105, 110, 97, 114, 121], [99, 111, 110, 99, 97, 116], [117, 110, 97, 114, 121], [116, 114, 117, 116, 104], [106, 117, 109, 112], [106, 117, 109, 112, 102, 97, 108, 115, 101], [106, 117, 109, 112, 116, 114, 117, 101], [112, 111, 112], [97, 114, 114, 97, 121], [110, 101, 119, 97, 114, 114, 97, 121], [99, 97, 108, 108], [114, 101, 116, 117, 114, 110], [103, 101, 116], [112, 117, 114, 101], [115, 112, 108, 105, 116], [115, 117, 98], [102, 105, 110, 100], [106, 111, 105, 110], [115, 112, 114, 105, 110, 116, 102], [119, 114, 105, 116, 101], [108, 105, 115, 116], [110, 101, 120, 116], [100, 114, 111, 112, 108, 105, 115, 116], [100, 101, 108, 101, 116, 101], [99, 108, 101, 97, 114], [110, 101, 120, 116, 114, 101, 99, 111, 114, 100], [101, 120, 105, 116], [114, 97, 110, 103, 101], [111, 112, 101, 110], [99, 108, 111, 115, 101], [100, 111, 110, 101], [113, 117, 105, 116]]
def usesR : List (List UInt8) := [[45], [78], [84], [45], [84], [88, 84], [45], [89], [88, 84], [88, 84], [88, 89, 84], [89], [88, 89, 84], [88, 89, 84], [89], [88, 89, 84], [89], [89], [45], [89], [45], [88], [88], [88], [45], [88, 84], [45], [88], [45], [88, 89, 84], [89, 84], [88, 84], [88, 89, 84], [45], [89], [89], [88], [88, 84], [88], [45], [88, 84], [88, 84], [45], [89], [88, 89], [89], [89], [45], [45]]
def rowS (l : List (List UInt8)) : Cells := l.map fun w => [aStr w]
def tabR (s : List UInt8) : List (List UInt8) := bif Nat.beq s.length 308 then namesR else usesR
structure IsList (s : List UInt8) : Prop where
 is : s = namesL ∨ s = usesL
structure WordsIs (s : List UInt8) (q : Cells) : Prop where
 is : q = rowS (tabR s)
def C56 (args : List AV) (h : Heap) : Option CSpec :=
 match args with
 | [.sc (.string s)] => some { pre := IsList s.data.toList, alts := [{ α := Cells, post := fun q => WordsIs s.data.toList q, val := fun q => .sl q 0, heap := fun _ => h }] }
 | _ => none
structure Idx (k : Int) : Prop where
 lo : 0 ≤ k
 hi : k < 49
def wordAt (s : List UInt8) (k : Int) : List UInt8 := ((tabR s)[k.toNat]?).getD []
def C27 (args : List AV) (h : Heap) : Option CSpec :=
 match args with
 | [.sc (.string s), .sc (.int .i64 k)] => some (nspec (IsList s.data.toList ∧ Idx k) (wordAt s.data.toList k) aStr h)
 | _ => none
def T27 : Tab := tab0.addC 56 C56
def opR (x y n : Int) (t : List UInt8) (c : UInt8) : List UInt8 := if c = 88 then 32 :: Lib.itoa x else if c = 89 then 32 :: Lib.itoa y else if c = 78 then 32 :: decT n else if c = 84 then 32 :: quoT t else []
def opsR (x y n : Int) (t l : List UInt8) : List UInt8 := l.flatMap (opR x y n t)
structure Short (l : List UInt8) : Prop where
 le : l.length ≤ 1000
def C28 (args : List AV) (h : Heap) : Option CSpec :=
 match args with
 | [.agg [.sc (.int .i64 op), .sc (.int .i64 x), .sc (.int .i64 y), .sc (.int .i64 n), .sc (.string t), .sc (.int .i64 _)], .sc (.string l)] => some (nspec (InstOk op x y n t.data.toList ∧ Short l.data.toList) (opsR x y n t.data.toList l.data.toList) aStr h)
 | _ => none
def I28 (op x y n : Int) (t : List UInt8) (a : Int) (l o : List UInt8) (i : Int) : St := stOf 49 [(1, sStr l), (2, .lp 0 0), (5, sStr o), (6, sInt i)] [.cells [iA op, iA x, iA y, iA n, aStr t, iA a]] heapF
def X28 (op x y n : Int) (t : List UInt8) (a : Int) (o : List UInt8) : St := stOf 49 [(5, sStr o)] [.cells [iA op, iA x, iA y, iA n, aStr t, iA a]] heapF
def q28 (op x y n : Int) (t : List UInt8) (a : Int) (o : List UInt8) (X : Prop) (e : Ex) (τ : St) : Prop :=
 match e with
 | .exit _ => e = .exit 0 ∧ τ = X28 op x y n t a o ∧ X
 | _ => False
def L28 (σ : St) : Option LSpec := some { pre := σ.tidy [1, 2, 5, 6] 1 = I28 (lcI σ 0 0) (lcI σ 0 1) (lcI σ 0 2) (lcI σ 0 3) (lcS σ 0 4) (lcI σ 0 5) (slS σ 1) [] 0 ∧ InstOk (lcI σ 0 0) (lcI σ 0 1) (lcI σ 0 2) (lcI σ 0 3) (lcS σ 0 4) ∧ Short (slS σ 1), alts := [{ α := List UInt8, post := fun q => q = opsR (lcI σ 0 1) (lcI σ 0 2) (lcI σ 0 3) (lcS σ 0 4) (slS σ 1), ex := .exit 0, st := X28 (lcI σ 0 0) (lcI σ 0 1) (lcI σ 0 2) (lcI σ 0 3) (lcS σ 0 4) (lcI σ 0 5) }] }
def T28r : Tab := ((tab0.addC 24 C24).addC 57 C57).addC 25 C25
def T28 : Tab := T28r.addL 28 4 L28
end
end Go.Proofs.Sp
namespace Go.Proofs.Sp
open Go Go.Ef Go.Proofs.Pt
noncomputable section
set_option maxRecDepth 100000
theorem v27 (M : Int) (s : List UInt8) (k : Int) (K : AV → Prop) (h :
 IsList s ∧
 ∀ (x : List (List AV)),
 WordsIs s x →
 iteP (inRange k x.length)
 (getI k.toNat x = some [AV.sc (Value.string (ByteArray.mk (Array.mk (cellStr x k (0 : Nat)))))] ∧
 K (AV.sc (Value.string (ByteArray.mk (Array.mk (cellStr x k (0 : Nat)))))))
 False) :
 (fun (M : Int) (s : List UInt8) (k : Int) (K : AV → Prop) => wpCall T27 (cfg M) Tryz.prog 60 27 [aStr s, iA k] heapF fun r h' => wpBack h' r K) M s k K :=
 Eq.mp (by kernel_rfl) h
theorem r28 (M : Int) (op : Int) (x : Int) (y : Int) (n : Int) (t : List UInt8) (a : Int) (l : List UInt8) (o : List UInt8) (i : Int) (N : List UInt8 → Int → Prop) (X : Prop) (h :
 iteP (decide (i < (↑l.length : Int)))
 (iteP (inRange i l.length)
 (iteP (byteAt l i == (88 : Int))
 (iteP (strFits o [(32 : UInt8)])
 (I64 x ∧
 ∀ (x_1 : List UInt8),
 x_1 = Lib.itoa x →
 iteP (strFits (o ++ [(32 : UInt8)]) x_1)
 (I28 op x y n t a l (o ++ [(32 : UInt8)] ++ x_1) (IntKind.i64.wrap (i + (1 : Int))) =
 I28 op x y n t a l (o ++ [(32 : UInt8)] ++ x_1) (IntKind.i64.wrap (i + (1 : Int))) ∧
 N (o ++ [(32 : UInt8)] ++ x_1) (IntKind.i64.wrap (i + (1 : Int))))
 False)
 False)
 (iteP (byteAt l i == (89 : Int))
 (iteP (strFits o [(32 : UInt8)])
 (I64 y ∧
 ∀ (x_1 : List UInt8),
 x_1 = Lib.itoa y →
 iteP (strFits (o ++ [(32 : UInt8)]) x_1)
 (I28 op x y n t a l (o ++ [(32 : UInt8)] ++ x_1) (IntKind.i64.wrap (i + (1 : Int))) =
 I28 op x y n t a l (o ++ [(32 : UInt8)] ++ x_1) (IntKind.i64.wrap (i + (1 : Int))) ∧
 N (o ++ [(32 : UInt8)] ++ x_1) (IntKind.i64.wrap (i + (1 : Int))))
 False)
 False)
 (iteP (byteAt l i == (78 : Int))
 (iteP (strFits o [(32 : UInt8)])
 (I64 n ∧
 ∀ (x_1 : List UInt8),
 x_1 = decT n →
 iteP (strFits (o ++ [(32 : UInt8)]) x_1)
 (I28 op x y n t a l (o ++ [(32 : UInt8)] ++ x_1) (IntKind.i64.wrap (i + (1 : Int))) =
 I28 op x y n t a l (o ++ [(32 : UInt8)] ++ x_1) (IntKind.i64.wrap (i + (1 : Int))) ∧
 N (o ++ [(32 : UInt8)] ++ x_1) (IntKind.i64.wrap (i + (1 : Int))))
 False)
 False)
 (iteP (byteAt l i == (84 : Int))
 (iteP (strFits o [(32 : UInt8)])
 (Small t ∧
 ∀ (x_1 : List UInt8),
 x_1 = quoT t →
 iteP (strFits (o ++ [(32 : UInt8)]) x_1)
 (I28 op x y n t a l (o ++ [(32 : UInt8)] ++ x_1) (IntKind.i64.wrap (i + (1 : Int))) =
 I28 op x y n t a l (o ++ [(32 : UInt8)] ++ x_1) (IntKind.i64.wrap (i + (1 : Int))) ∧
 N (o ++ [(32 : UInt8)] ++ x_1) (IntKind.i64.wrap (i + (1 : Int))))
 False)
 False)
 (I28 op x y n t a l o (IntKind.i64.wrap (i + (1 : Int))) =
 I28 op x y n t a l o (IntKind.i64.wrap (i + (1 : Int))) ∧
 N o (IntKind.i64.wrap (i + (1 : Int))))))))
 False)
 (Ex.exit (0 : Nat) = Ex.exit (0 : Nat) ∧ X28 op x y n t a o = X28 op x y n t a o ∧ X)) :
 (fun (M : Int) (op x y n : Int) (t : List UInt8) (a : Int) (l o : List UInt8) (i : Int) (N : List UInt8 → Int → Prop) (X : Prop) => wpRound T28r (cfg M) Tryz.prog 60 28 4 (I28 op x y n t a l o i) (fun τ => τ = I28 op x y n t a l (slS τ 5) (slI τ 6) ∧ N (slS τ 5) (slI τ 6)) (q28 op x y n t a o X)) M op x y n t a l o i N X :=
 Eq.mp (by kernel_rfl) h
theorem v28 (M : Int) (op : Int) (x : Int) (y : Int) (n : Int) (t : List UInt8) (a : Int) (l : List UInt8) (K : AV → Prop) (h :
 loopAt Tryz.prog (28 : Nat) (4 : Nat) = loopAt Tryz.prog (28 : Nat) (4 : Nat) ∧
 (I28 op x y n t a l [] (0 : Int) = I28 op x y n t a l [] (0 : Int) ∧ InstOk op x y n t ∧ Short l) ∧
 ∀ (x_1 : List UInt8), x_1 = opsR x y n t l → K (AV.sc (Value.string (ByteArray.mk (Array.mk x_1))))) :
 (fun (M : Int) (op x y n : Int) (t : List UInt8) (a : Int) (l : List UInt8) (K : AV → Prop) => wpCall T28 (cfg M) Tryz.prog 60 28 [instA op x y n t a, aStr l] heapF fun r h' => wpBack h' r K) M op x y n t a l K :=
 Eq.mp (by kernel_rfl) h
end
end Go.Proofs.Sp
