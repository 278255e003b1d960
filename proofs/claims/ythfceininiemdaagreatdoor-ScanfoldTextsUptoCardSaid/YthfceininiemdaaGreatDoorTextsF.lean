/- A part of the proof: definitions and lemmas. -/
import Derived.Test.YthfceininiemdaaGreatDoorTextsA
import Derived.Test.YthfceininiemdaaGreatDoorTextsB
import Derived.Test.YthfceininiemdaaGreatDoorTextsC
import Derived.Test.YthfceininiemdaaGreatDoorTextsD
import Derived.Test.YthfceininiemdaaGreatDoorTextsE
import Derived.Lib.Mul64
namespace Go.Proofs.Sf.Tx
open Go Go.Ef
noncomputable section
def nilA : AV := .sc (.slice none 0 0)
def iA (n : Int) : AV := .sc (.int .i64 n)
def bA (b : Bool) : AV := .sc (.bool b)
def okB (b : UInt8) : Bool := decide (b ≠ 34) && (decide (b ≠ 92) && decide (b ≠ 10))
def plainB (s : List UInt8) : Bool := s.all okB && decide (s.length ≤ 100)
structure Sized (s : List UInt8) : Prop where
 le : s.length ≤ 4294967280
def C27 (args : List AV) (h : Heap) : Option CSpec :=
 match args with
 | [.sc (.string s)] => some { pre := Sized s.data.toList, alts := [{ α := Bool, post := fun b => b = plainB s.data.toList, val := bA, heap := fun _ => h }] }
 | _ => none
def I27 (s : List UInt8) (i : Int) : St := stOf 29 [(0, sStr s), (3, sInt i)] [] heapF
def X27 (s : List UInt8) : St := stOf 29 [(0, sStr s), (2, .unk)] [] heapF
def E27 (s : List UInt8) : St := stOf 29 [(0, sStr s), (2, sBool false)] [] heapF
def q27 (s : List UInt8) (X Y : Prop) (e : Ex) (τ : St) : Prop :=
 match e with
 | .exit _ => e = .exit 0 ∧ τ = X27 s ∧ X
 | .ret => τ = E27 s ∧ Y
 | .normal => False
structure All (s : List UInt8) (b : Bool) : Prop where
 is : s.all okB = b
def L27 (σ : St) : Option LSpec := some { pre := σ.tidy [0, 3] 0 = I27 (slS σ 0) 0 ∧ Sized (slS σ 0), alts := [{ α := Unit, post := fun _ => All (slS σ 0) true, ex := .exit 0, st := fun _ => X27 (slS σ 0) }, { α := Unit, post := fun _ => All (slS σ 0) false, ex := .ret, st := fun _ => E27 (slS σ 0) }] }
def T27 : Tab := tab0.addL 27 3 L27
structure EndsAt (s : List UInt8) (at_ k : Int) : Prop where
 lo : 0 ≤ at_ ∧ at_ < k
 hi : k < s.length ∧ s.length ≤ 4294967280
 a34 : byteAt s at_ = 34
 k34 : byteAt s k = 34
 mid : ∀ j : Int, at_ < j → j < k → byteAt s j ≠ 34 ∧ byteAt s j ≠ 92 ∧ byteAt s j ≠ 10
structure HasEnd (s : List UInt8) (at_ : Int) : Prop where
 is : ∃ k, EndsAt s at_ k
def C184 (args : List AV) (h : Heap) : Option CSpec :=
 match args with
 | [.sc (.string s), .sc (.int .i64 a)] => some { pre := HasEnd s.data.toList a, alts := [{ α := Int, post := fun k => EndsAt s.data.toList a k, val := iA, heap := fun _ => h }] }
 | _ => none
def I184 (s : List UInt8) (a i : Int) : St := stOf 44 [(0, sStr s), (1, sInt a), (5, sInt i)] [] heapF
def E184 (v : Int) : St := stOf 44 [(4, sInt v)] [] heapF
def q184 (X : Int → Prop) (e : Ex) (τ : St) : Prop :=
 match e with
 | .ret => τ = E184 (slI τ 4) ∧ X (slI τ 4)
 | _ => False
structure Next (a i : Int) : Prop where
 is : i = IntKind.i64.wrap (a + 1)
def L184 (σ : St) : Option LSpec := some { pre := σ.tidy [0, 1, 5] 0 = I184 (slS σ 0) (slI σ 1) (slI σ 5) ∧ HasEnd (slS σ 0) (slI σ 1) ∧ Next (slI σ 1) (slI σ 5), alts := [{ α := Int, post := fun k => EndsAt (slS σ 0) (slI σ 1) k, ex := .ret, st := E184 }] }
def T184 : Tab := tab0.addL 184 3 L184
structure NoBack (s : List UInt8) : Prop where
 no : s.all (fun b => decide (b ≠ 92)) = true
 le : s.length ≤ 100
def C185 (args : List AV) (h : Heap) : Option CSpec :=
 match args with
 | [.sc (.string s)] => some (fspec (NoBack s.data.toList) (.tup [.sc (.string s), iA 0, iA 0]) h)
 | _ => none
def rowB (s : List UInt8) : List (List AV) := s.map fun b => [AV.sc (.int .u8 b.toNat)]
def hU (k e n : Nat) : Heap := { next := 2, objs := (Tr.leaf : Tr AObj).set 1 (.own k e n), ro := 1, ty := .leaf }
def I185 (s : List UInt8) (i : Int) (els : List (List AV)) (n : Nat) : St := stOf 77 [(0, sStr s), (5, .v (.sl els 2)), (6, sInt i)] [] (hU 1 5 n)
def Z185 (s : List UInt8) (i : Int) : St := stOf 77 [(0, sStr s), (5, .v nilA), (6, sInt i)] [] heapF
def X185 (els : List (List AV)) (n : Nat) : St := stOf 77 [(5, .v (.sl els 2))] [] (hU 1 5 n)
def ownN (h : Heap) : Nat :=
 match h.get 1 with
 | some (.own _ _ n) => n
 | _ => 0
def q185 (els : List (List AV)) (n : Nat) (X : Prop) (e : Ex) (τ : St) : Prop :=
 match e with
 | .exit _ => e = .exit 0 ∧ τ = X185 els n ∧ X
 | _ => False
def Y185 : St := stOf 77 [(5, .v nilA)] [] heapF
def qz185 (X : Prop) (e : Ex) (τ : St) : Prop :=
 match e with
 | .exit _ => e = .exit 0 ∧ τ = Y185 ∧ X
 | _ => False
structure RowOf (s : List UInt8) (els : List (List AV)) (n : Nat) : Prop where
 els : els = rowB s
 n : n = s.length
 ne : s ≠ []
structure Empty (s : List UInt8) : Prop where
 is : s = []
def L185 (σ : St) : Option LSpec := some { pre := σ.tidy [0, 5, 6] 0 = Z185 (slS σ 0) 0 ∧ NoBack (slS σ 0), alts := [{ α := Unit, post := fun _ => Empty (slS σ 0), ex := .exit 0, st := fun _ => Y185 }, { α := List (List AV) × Nat, post := fun q => RowOf (slS σ 0) q.1 q.2, ex := .exit 0, st := fun q => X185 q.1 q.2 }] }
def T185 : Tab := tab0.addL 185 4 L185
structure Skips (s : List UInt8) (a : Int) : Prop where
 lo : 0 ≤ a
 hi : a < s.length
 le : s.length ≤ 4294967280
 c : byteAt s a = 32 ∨ byteAt s a = 34 ∨ byteAt s a = 66 ∨ byteAt s a = 123 ∨ byteAt s a = 112 ∨ byteAt s a = 125
def skipF (s : List UInt8) (a : Int) : Int := if byteAt s a = 32 then a + 1 else a
def tokA (k : Int) (t : List UInt8) (at_ : Int) : List AV := [.sc (.int .i64 k), .sc (.string ⟨⟨t⟩⟩), .sc (.int .i64 0), .sc (.int .i64 at_)]
def C95 (args : List AV) (h : Heap) : Option CSpec :=
 match args with
 | [.sc (.string s), .sc (.int .i64 a), .agg [.sc (.int .i64 _), .sc (.string _), .sc (.int .i64 _), .sc (.int .i64 _)]] => some (nspec (Skips s.data.toList a) (skipF s.data.toList a) iA h)
 | _ => none
structure Never : Prop where
 f : False
def CNo (_ : List AV) (_ : Heap) : Option CSpec := some { pre := Never, alts := [] }
def LNo (_ : St) : Option LSpec := some { pre := Never, alts := [] }
def TU : Tab := tab0.addC 236 CNo
def TSk : Tab := (tab0.addC 136 CNo).addL 95 7 LNo
def sP (r : List UInt8) : List UInt8 := 66 :: 69 :: 71 :: 73 :: 78 :: 32 :: 123 :: 32 :: 112 :: 114 :: 105 :: 110 :: 116 :: 32 :: 34 :: r
def marks : List UInt8 := [123, 32, 125, 32, 40, 32, 41, 32, 91, 32, 93, 32, 59, 32, 44, 32, 43, 32, 45, 32, 42, 32, 47, 32, 37, 32, 94, 32, 33, 32, 60, 32, 62, 32, 63, 32, 58, 32, 126, 32, 36, 32, 61]
structure IsOne (w l : List UInt8) : Prop where
 w : w = [125]
 l : l = marks
def C182 (args : List AV) (h : Heap) : Option CSpec :=
 match args with
 | [.sc (.string w), .sc (.string l)] => some (fspec (IsOne w.data.toList l.data.toList) (bA true) h)
 | _ => none
def CE (g : FuncId) (args : List AV) (h : Heap) : Option CSpec :=
 match callP cfg (evCall cfg Tryz.prog 400) g args h with
 | some (v, h') => some (fspec True v h')
 | none => none
def tabX : Tab := { tab0 with exact := fun _ _ => true }
def isDig (c : Int) : Bool := decide (48 ≤ c) && decide (c ≤ 57)
def isLet (c : Int) : Bool := (decide (97 ≤ c) && decide (c ≤ 122)) || ((decide (65 ≤ c) && decide (c ≤ 90)) || decide (c = 95))
def C137 (args : List AV) (h : Heap) : Option CSpec :=
 match args with
 | [.sc (.int .u8 c)] => some { pre := True, alts := [{ α := Bool, post := fun b => b = isDig c, val := bA, heap := fun _ => h }] }
 | _ => none
def C138 (args : List AV) (h : Heap) : Option CSpec :=
 match args with
 | [.sc (.int .u8 c)] => some { pre := True, alts := [{ α := Bool, post := fun b => b = isLet c, val := bA, heap := fun _ => h }] }
 | _ => none
def tabD : Tab := (tabX.addC 137 C137).addC 138 C138
def TQ : Tab := (((((tabD.addC 184 C184).addC 185 C185).addC 94 CNo).addC 139 CNo).addC 142 CNo).addC 140 CNo
def TB : Tab := ((((tabD.addC 182 C182).addC 94 CNo).addC 139 CNo).addC 141 CNo).addC 140 CNo
def TW : Tab := ((((tabX.addC 94 CNo).addC 141 CNo).addC 142 CNo).addC 140 CNo).addC 183 (CE 183)
def TM : Tab := ((((tabX.addC 94 CNo).addC 141 CNo).addC 139 CNo).addC 140 CNo).addC 182 (CE 182)
def befA (k n t : Int) (w : List UInt8) : AV := .agg [.sc (.int .i64 k), .sc (.string ⟨⟨w⟩⟩), .sc (.int .i64 n), .sc (.int .i64 t)]
end
end Go.Proofs.Sf.Tx
namespace Go.Proofs.Sf.Tx
open Go Go.Ef
noncomputable section
set_option maxRecDepth 100000
theorem r27 (s : List UInt8) (i : Int) (N : Int → Prop) (X : Prop) (Y : Prop) (h :
 iteP (decide (i < (↑s.length : Int)))
 (iteP (inRange i s.length)
 (iteP (byteAt s i == (34 : Int)) (E27 s = E27 s ∧ Y)
 (iteP (inRange i s.length)
 (iteP (byteAt s i == (92 : Int)) (E27 s = E27 s ∧ Y)
 (iteP (inRange i s.length)
 (iteP (byteAt s i == (10 : Int)) (E27 s = E27 s ∧ Y)
 (I27 s (IntKind.i64.wrap (i + (1 : Int))) = I27 s (IntKind.i64.wrap (i + (1 : Int))) ∧
 N (IntKind.i64.wrap (i + (1 : Int)))))
 False))
 False))
 False)
 (Ex.exit (0 : Nat) = Ex.exit (0 : Nat) ∧ X27 s = X27 s ∧ X)) :
 (fun (s : List UInt8) (i : Int) (N : Int → Prop) (X Y : Prop) => wpRound tab0 cfg Tryz.prog 60 27 3 (I27 s i) (fun τ => τ = I27 s (slI τ 3) ∧ N (slI τ 3)) (q27 s X Y)) s i N X Y :=
 Eq.mp (by kernel_rfl) h
theorem v27 (s : List UInt8) (K : AV → Prop) (h :
 loopAt Tryz.prog (27 : Nat) (3 : Nat) = loopAt Tryz.prog (27 : Nat) (3 : Nat) ∧
 (I27 s (0 : Int) = I27 s (0 : Int) ∧ Sized s) ∧
 (∀ (_ : Unit),
 All s true →
 iteP (decide ((↑s.length : Int) ≤ (100 : Int))) (K (AV.sc (Value.bool true)))
 (K (AV.sc (Value.bool false)))) ∧
 ∀ (_ : Unit), All s false → K (AV.sc (Value.bool false))) :
 (fun (s : List UInt8) (K : AV → Prop) => wpCall T27 cfg Tryz.prog 60 27 [aStr s] heapF fun r h' => wpBack h' r K) s K :=
 Eq.mp (by kernel_rfl) h
theorem r184 (s : List UInt8) (a : Int) (i : Int) (N : Int → Prop) (X : Int → Prop) (h :
 iteP (decide (i < (↑s.length : Int)))
 (iteP (inRange i s.length)
 (iteP (byteAt s i != (10 : Int))
 (iteP (inRange i s.length)
 (iteP (inRange a s.length)
 (iteP (byteAt s i == byteAt s a) (E184 i = E184 i ∧ X i)
 (iteP (inRange i s.length)
 (iteP (byteAt s i == (92 : Int))
 (iteP (decide (IntKind.i64.wrap (i + (1 : Int)) < (↑s.length : Int)))
 (iteP (inRange (IntKind.i64.wrap (i + (1 : Int))) s.length)
 (iteP (byteAt s (IntKind.i64.wrap (i + (1 : Int))) == (10 : Int))
 (E184 (-1 : Int) = E184 (-1 : Int) ∧ X (-1 : Int))
 (I184 s a (IntKind.i64.wrap (IntKind.i64.wrap (i + (1 : Int)) + (1 : Int))) =
 I184 s a (IntKind.i64.wrap (IntKind.i64.wrap (i + (1 : Int)) + (1 : Int))) ∧
 N (IntKind.i64.wrap (IntKind.i64.wrap (i + (1 : Int)) + (1 : Int)))))
 False)
 (I184 s a (IntKind.i64.wrap (IntKind.i64.wrap (i + (1 : Int)) + (1 : Int))) =
 I184 s a (IntKind.i64.wrap (IntKind.i64.wrap (i + (1 : Int)) + (1 : Int))) ∧
 N (IntKind.i64.wrap (IntKind.i64.wrap (i + (1 : Int)) + (1 : Int)))))
 (I184 s a (IntKind.i64.wrap (i + (1 : Int))) = I184 s a (IntKind.i64.wrap (i + (1 : Int))) ∧
 N (IntKind.i64.wrap (i + (1 : Int)))))
 False))
 False)
 False)
 False)
 False)
 False) :
 (fun (s : List UInt8) (a i : Int) (N : Int → Prop) (X : Int → Prop) => wpRound tab0 cfg Tryz.prog 60 184 3 (I184 s a i) (fun τ => τ = I184 s a (slI τ 5) ∧ N (slI τ 5)) (q184 X)) s a i N X :=
 Eq.mp (by kernel_rfl) h
theorem v184 (s : List UInt8) (a : Int) (K : AV → Prop) (h :
 loopAt Tryz.prog (184 : Nat) (3 : Nat) = loopAt Tryz.prog (184 : Nat) (3 : Nat) ∧
 (I184 s a (IntKind.i64.wrap (a + (1 : Int))) = I184 s a (IntKind.i64.wrap (a + (1 : Int))) ∧
 HasEnd s a ∧ Next a (IntKind.i64.wrap (a + (1 : Int)))) ∧
 ∀ (x : Int), EndsAt s a x → K (AV.sc (Value.int IntKind.i64 x))) :
 (fun (s : List UInt8) (a : Int) (K : AV → Prop) => wpCall T184 cfg Tryz.prog 60 184 [aStr s, iA a] heapF fun r h' => wpBack h' r K) s a K :=
 Eq.mp (by kernel_rfl) h
theorem z185 (s : List UInt8) (i : Int) (N : Int → List (List AV) → Nat → Prop) (X : Prop) (h :
 iteP (decide (i < (↑s.length : Int)))
 (iteP (inRange i s.length)
 (iteP (byteAt s i != (92 : Int))
 (iteP (inRange i s.length)
 (I185 s (IntKind.i64.wrap (i + (1 : Int))) [[AV.sc (Value.int IntKind.u8 (byteAt s i))]]
 [[AV.sc (Value.int IntKind.u8 (byteAt s i))]].length =
 I185 s (IntKind.i64.wrap (i + (1 : Int))) [[AV.sc (Value.int IntKind.u8 (byteAt s i))]]
 [[AV.sc (Value.int IntKind.u8 (byteAt s i))]].length ∧
 N (IntKind.i64.wrap (i + (1 : Int))) [[AV.sc (Value.int IntKind.u8 (byteAt s i))]]
 [[AV.sc (Value.int IntKind.u8 (byteAt s i))]].length)
 False)
 (Never ∧ True))
 False)
 (Ex.exit (0 : Nat) = Ex.exit (0 : Nat) ∧ Y185 = Y185 ∧ X)) :
 (fun (s : List UInt8) (i : Int) (N : Int → List (List AV) → Nat → Prop) (X : Prop) => wpRound TU cfg Tryz.prog 60 185 4 (Z185 s i) (fun τ => τ = I185 s (slI τ 6) (slEls τ 5) (ownN τ.h) ∧ N (slI τ 6) (slEls τ 5) (ownN τ.h)) (qz185 X)) s i N X :=
 Eq.mp (by kernel_rfl) h
theorem r185 (s : List UInt8) (i : Int) (els : List (List AV)) (n : Nat) (N : Int → List (List AV) → Nat → Prop) (X : Prop) (h :
 iteP (decide (i < (↑s.length : Int)))
 (iteP (inRange i s.length)
 (iteP (byteAt s i != (92 : Int))
 (iteP (inRange i s.length)
 (iteP
 (allLen (1 : Nat) els && fits (els.length + [[AV.sc (Value.int IntKind.u8 (byteAt s i))]].length) (1 : Nat))
 (iteP (decide (els.length = n))
 (I185 s (IntKind.i64.wrap (i + (1 : Int))) (els ++ [[AV.sc (Value.int IntKind.u8 (byteAt s i))]])
 (n + [[AV.sc (Value.int IntKind.u8 (byteAt s i))]].length) =
 I185 s (IntKind.i64.wrap (i + (1 : Int))) (els ++ [[AV.sc (Value.int IntKind.u8 (byteAt s i))]])
 (n + [[AV.sc (Value.int IntKind.u8 (byteAt s i))]].length) ∧
 N (IntKind.i64.wrap (i + (1 : Int))) (els ++ [[AV.sc (Value.int IntKind.u8 (byteAt s i))]])
 (n + [[AV.sc (Value.int IntKind.u8 (byteAt s i))]].length))
 False)
 False)
 False)
 (Never ∧ True))
 False)
 (Ex.exit (0 : Nat) = Ex.exit (0 : Nat) ∧ X185 els n = X185 els n ∧ X)) :
 (fun (s : List UInt8) (i : Int) (els : List (List AV)) (n : Nat) (N : Int → List (List AV) → Nat → Prop) (X : Prop) => wpRound TU cfg Tryz.prog 60 185 4 (I185 s i els n) (fun τ => τ = I185 s (slI τ 6) (slEls τ 5) (ownN τ.h) ∧ N (slI τ 6) (slEls τ 5) (ownN τ.h)) (q185 els n X)) s i els n N X :=
 Eq.mp (by kernel_rfl) h
theorem v185 (s : List UInt8) (K : AV → Prop) (h :
 loopAt Tryz.prog (185 : Nat) (4 : Nat) = loopAt Tryz.prog (185 : Nat) (4 : Nat) ∧
 (Z185 s (0 : Int) = Z185 s (0 : Int) ∧ NoBack s) ∧
 (∀ (_ : Unit),
 Empty s →
 K
 (AV.tup
 [AV.sc (Value.string (ByteArray.mk (Array.mk []))), AV.sc (Value.int IntKind.i64 (0 : Int)),
 AV.sc (Value.int IntKind.i64 (0 : Int))])) ∧
 ∀ (x : List (List AV) × Nat),
 RowOf s x.fst x.snd →
 iteP (x.fst.all isByteCell)
 (K
 (AV.tup
 [AV.sc (Value.string (ByteArray.mk (Array.mk (List.map byteD x.fst)))),
 AV.sc (Value.int IntKind.i64 (0 : Int)), AV.sc (Value.int IntKind.i64 (0 : Int))]))
 False) :
 (fun (s : List UInt8) (K : AV → Prop) => wpCall T185 cfg Tryz.prog 60 185 [aStr s] heapF fun r h' => wpBack h' r K) s K :=
 Eq.mp (by kernel_rfl) h
theorem v95 (s : List UInt8) (a : Int) (k : Int) (n : Int) (t : Int) (w : List UInt8) (K : AV → Prop) (h :
 iteP (inRange a s.length)
 (iteP (byteAt s a == (32 : Int)) (K (AV.sc (Value.int IntKind.i64 (IntKind.i64.wrap (a + (1 : Int))))))
 (iteP (inRange a s.length)
 (iteP (byteAt s a == (9 : Int)) (K (AV.sc (Value.int IntKind.i64 (IntKind.i64.wrap (a + (1 : Int))))))
 (iteP (inRange a s.length)
 (iteP (byteAt s a == (10 : Int)) (Never ∧ True)
 (iteP (inRange a s.length)
 (iteP (byteAt s a == (92 : Int))
 (iteP (decide (IntKind.i64.wrap (a + (1 : Int)) < (↑s.length : Int)))
 (iteP (inRange (IntKind.i64.wrap (a + (1 : Int))) s.length)
 (iteP (byteAt s (IntKind.i64.wrap (a + (1 : Int))) == (10 : Int))
 (K (AV.sc (Value.int IntKind.i64 (IntKind.i64.wrap (a + (2 : Int))))))
 (iteP (inRange a s.length)
 (iteP (byteAt s a == (35 : Int))
 (loopAt Tryz.prog (95 : Nat) (7 : Nat) = loopAt Tryz.prog (95 : Nat) (7 : Nat) ∧ Never ∧ True)
 (K (AV.sc (Value.int IntKind.i64 a))))
 False))
 False)
 (iteP (inRange a s.length)
 (iteP (byteAt s a == (35 : Int))
 (loopAt Tryz.prog (95 : Nat) (7 : Nat) = loopAt Tryz.prog (95 : Nat) (7 : Nat) ∧ Never ∧ True)
 (K (AV.sc (Value.int IntKind.i64 a))))
 False))
 (iteP (inRange a s.length)
 (iteP (byteAt s a == (35 : Int))
 (loopAt Tryz.prog (95 : Nat) (7 : Nat) = loopAt Tryz.prog (95 : Nat) (7 : Nat) ∧ Never ∧ True)
 (K (AV.sc (Value.int IntKind.i64 a))))
 False))
 False))
 False))
 False))
 False) :
 (fun (s : List UInt8) (a k n t : Int) (w : List UInt8) (K : AV → Prop) => wpCall TSk cfg Tryz.prog 60 95 [aStr s, iA a, .agg [.sc (.int .i64 k), .sc (.string ⟨⟨w⟩⟩), .sc (.int .i64 n), .sc (.int .i64 t)]] heapF fun r h' => wpBack h' r K) s a k n t w K :=
 Eq.mp (by kernel_rfl) h
theorem tMark6 (r : List UInt8) (k : Int) (n : Int) (t : Int) (w : List UInt8) (K : AV → Prop) (h :
 iteP
 (inRange (6 : Int)
 ((66 : UInt8) ::
 (69 : UInt8) ::
 (71 : UInt8) ::
 (73 : UInt8) ::
 (78 : UInt8) ::
 (32 : UInt8) ::
 (123 : UInt8) ::
 (32 : UInt8) ::
 (112 : UInt8) ::
 (114 : UInt8) ::
 (105 : UInt8) :: (110 : UInt8) :: (116 : UInt8) :: (32 : UInt8) :: (34 : UInt8) :: r).length)
 (iteP
 (decide
 ((8 : Int) ≤
 (↑((66 : UInt8) ::
 (69 : UInt8) ::
 (71 : UInt8) ::
 (73 : UInt8) ::
 (78 : UInt8) ::
 (32 : UInt8) ::
 (123 : UInt8) ::
 (32 : UInt8) ::
 (112 : UInt8) ::
 (114 : UInt8) ::
 (105 : UInt8) ::
 (110 : UInt8) :: (116 : UInt8) :: (32 : UInt8) :: (34 : UInt8) :: r).length :
 Int)))
 (iteP
 (true &&
 (true &&
 decide
 ((8 : Int) ≤
 (↑((66 : UInt8) ::
 (69 : UInt8) ::
 (71 : UInt8) ::
 (73 : UInt8) ::
 (78 : UInt8) ::
 (32 : UInt8) ::
 (123 : UInt8) ::
 (32 : UInt8) ::
 (112 : UInt8) ::
 (114 : UInt8) ::
 (105 : UInt8) ::
 (110 : UInt8) :: (116 : UInt8) :: (32 : UInt8) :: (34 : UInt8) :: r).length :
 Int))))
 (True ∧
 ∀ (_ : Unit),
 True →
 iteP
 (true &&
 (true &&
 decide
 ((7 : Int) ≤
 (↑((66 : UInt8) ::
 (69 : UInt8) ::
 (71 : UInt8) ::
 (73 : UInt8) ::
 (78 : UInt8) ::
 (32 : UInt8) ::
 (123 : UInt8) ::
 (32 : UInt8) ::
 (112 : UInt8) ::
 (114 : UInt8) ::
 (105 : UInt8) ::
 (110 : UInt8) ::
 (116 : UInt8) :: (32 : UInt8) :: (34 : UInt8) :: r).length :
 Int))))
 (True ∧
 ∀ (_ : Unit),
 True →
 iteP
 (true &&
 (true &&
 decide
 ((7 : Int) ≤
 (↑((66 : UInt8) ::
 (69 : UInt8) ::
 (71 : UInt8) ::
 (73 : UInt8) ::
 (78 : UInt8) ::
 (32 : UInt8) ::
 (123 : UInt8) ::
 (32 : UInt8) ::
 (112 : UInt8) ::
 (114 : UInt8) ::
 (105 : UInt8) ::
 (110 : UInt8) ::
 (116 : UInt8) :: (32 : UInt8) :: (34 : UInt8) :: r).length :
 Int))))
 (K
 (AV.tup
 [AV.agg
 [AV.sc (Value.int IntKind.i64 (7 : Int)),
 AV.sc
 (Value.string
 (ByteArray.mk
 (Array.mk
 (cutL
 ((66 : UInt8) ::
 (69 : UInt8) ::
 (71 : UInt8) ::
 (73 : UInt8) ::
 (78 : UInt8) ::
 (32 : UInt8) ::
 (123 : UInt8) ::
 (32 : UInt8) ::
 (112 : UInt8) ::
 (114 : UInt8) ::
 (105 : UInt8) ::
 (110 : UInt8) ::
 (116 : UInt8) :: (32 : UInt8) :: (34 : UInt8) :: r)
 (6 : Int) (7 : Int))))),
 AV.sc (Value.int IntKind.i64 (0 : Int)), AV.sc (Value.int IntKind.i64 (6 : Int))],
 AV.sc (Value.int IntKind.i64 (7 : Int)), AV.sc (Value.int IntKind.i64 (0 : Int)),
 AV.sc (Value.int IntKind.i64 (0 : Int))]))
 False)
 False)
 False)
 (iteP
 (true &&
 (true &&
 decide
 ((7 : Int) ≤
 (↑((66 : UInt8) ::
 (69 : UInt8) ::
 (71 : UInt8) ::
 (73 : UInt8) ::
 (78 : UInt8) ::
 (32 : UInt8) ::
 (123 : UInt8) ::
 (32 : UInt8) ::
 (112 : UInt8) ::
 (114 : UInt8) ::
 (105 : UInt8) ::
 (110 : UInt8) :: (116 : UInt8) :: (32 : UInt8) :: (34 : UInt8) :: r).length :
 Int))))
 (True ∧
 ∀ (_ : Unit),
 True →
 iteP
 (true &&
 (true &&
 decide
 ((7 : Int) ≤
 (↑((66 : UInt8) ::
 (69 : UInt8) ::
 (71 : UInt8) ::
 (73 : UInt8) ::
 (78 : UInt8) ::
 (32 : UInt8) ::
 (123 : UInt8) ::
 (32 : UInt8) ::
 (112 : UInt8) ::
 (114 : UInt8) ::
 (105 : UInt8) ::
 (110 : UInt8) ::
 (116 : UInt8) :: (32 : UInt8) :: (34 : UInt8) :: r).length :
 Int))))
 (K
 (AV.tup
 [AV.agg
 [AV.sc (Value.int IntKind.i64 (7 : Int)),
 AV.sc
 (Value.string
 (ByteArray.mk
 (Array.mk
 (cutL
 ((66 : UInt8) ::
 (69 : UInt8) ::
 (71 : UInt8) ::
 (73 : UInt8) ::
 (78 : UInt8) ::
 (32 : UInt8) ::
 (123 : UInt8) ::
 (32 : UInt8) ::
 (112 : UInt8) ::
 (114 : UInt8) ::
 (105 : UInt8) ::
 (110 : UInt8) ::
 (116 : UInt8) :: (32 : UInt8) :: (34 : UInt8) :: r)
 (6 : Int) (7 : Int))))),
 AV.sc (Value.int IntKind.i64 (0 : Int)), AV.sc (Value.int IntKind.i64 (6 : Int))],
 AV.sc (Value.int IntKind.i64 (7 : Int)), AV.sc (Value.int IntKind.i64 (0 : Int)),
 AV.sc (Value.int IntKind.i64 (0 : Int))]))
 False)
 False))
 False) :
 (fun (r : List UInt8) (k n t : Int) (w : List UInt8) (K : AV → Prop) => wpCall TM cfg Tryz.prog 80 97 [aStr (sP r), iA 6, befA k n t w] heapF fun r h' => wpBack h' r K) r k n t w K :=
 Eq.mp (by kernel_rfl) h
theorem tQuote (s : List UInt8) (a : Int) (k : Int) (n : Int) (t : Int) (w : List UInt8) (K : AV → Prop) (h :
 iteP (inRange a s.length)
 (True ∧
 ∀ (x : Bool),
 x = isDig (byteAt s a) →
 iteP x (iteP (decide ((0 : Int) ≤ a) && decide (a ≤ (↑s.length : Int))) (Never ∧ True) False)
 (iteP (byteAt s a == (46 : Int))
 (iteP (decide (IntKind.i64.wrap (a + (1 : Int)) < (↑s.length : Int)))
 (iteP (inRange (IntKind.i64.wrap (a + (1 : Int))) s.length)
 (True ∧
 ∀ (x : Bool),
 x = isDig (byteAt s (IntKind.i64.wrap (a + (1 : Int)))) →
 iteP x (iteP (decide ((0 : Int) ≤ a) && decide (a ≤ (↑s.length : Int))) (Never ∧ True) False)
 (True ∧
 ∀ (x : Bool),
 x = isLet (byteAt s a) →
 iteP x (Never ∧ True)
 (iteP (byteAt s a == (34 : Int))
 (HasEnd s a ∧
 ∀ (x : Int),
 EndsAt s a x →
 iteP (decide (x < (0 : Int)))
 (K
 (AV.tup
 [AV.agg
 [AV.sc (Value.int IntKind.i64 (0 : Int)),
 AV.sc (Value.string (ByteArray.mk (Array.mk []))),
 AV.sc (Value.int IntKind.i64 (0 : Int)),
 AV.sc (Value.int IntKind.i64 (0 : Int))],
 AV.sc (Value.int IntKind.i64 a),
 AV.sc (Value.int IntKind.i64 (1 : Int)),
 AV.sc (Value.int IntKind.i64 a)]))
 (iteP (inRange a s.length)
 (iteP (byteAt s a == (47 : Int))
 (iteP
 (decide ((0 : Int) ≤ IntKind.i64.wrap (a + (1 : Int))) &&
 (decide (IntKind.i64.wrap (a + (1 : Int)) ≤ x) &&
 decide (x ≤ (↑s.length : Int))))
 (K
 (AV.tup
 [AV.agg
 [AV.sc (Value.int IntKind.i64 (3 : Int)),
 AV.sc
 (Value.string
 (ByteArray.mk
 (Array.mk
 (cutL s (IntKind.i64.wrap (a + (1 : Int))) x)))),
 AV.sc (Value.int IntKind.i64 (0 : Int)),
 AV.sc (Value.int IntKind.i64 a)],
 AV.sc (Value.int IntKind.i64 (IntKind.i64.wrap (x + (1 : Int)))),
 AV.sc (Value.int IntKind.i64 (0 : Int)),
 AV.sc (Value.int IntKind.i64 (0 : Int))]))
 False)
 (iteP
 (decide ((0 : Int) ≤ IntKind.i64.wrap (a + (1 : Int))) &&
 (decide (IntKind.i64.wrap (a + (1 : Int)) ≤ x) &&
 decide (x ≤ (↑s.length : Int))))
 (NoBack (cutL s (IntKind.i64.wrap (a + (1 : Int))) x) ∧
 ∀ (_ : Unit),
 True →
 K
 (AV.tup
 [AV.agg
 [AV.sc (Value.int IntKind.i64 (2 : Int)),
 AV.sc
 (Value.string
 (ByteArray.mk
 (Array.mk
 (cutL s (IntKind.i64.wrap (a + (1 : Int)))
 x)))),
 AV.sc (Value.int IntKind.i64 (0 : Int)),
 AV.sc (Value.int IntKind.i64 a)],
 AV.sc
 (Value.int IntKind.i64
 (IntKind.i64.wrap (x + (1 : Int)))),
 AV.sc (Value.int IntKind.i64 (0 : Int)),
 AV.sc (Value.int IntKind.i64 (0 : Int))]))
 False))
 False))
 (iteP (byteAt s a == (47 : Int)) (Never ∧ True) (Never ∧ True)))))
 False)
 (True ∧
 ∀ (x : Bool),
 x = isLet (byteAt s a) →
 iteP x (Never ∧ True)
 (iteP (byteAt s a == (34 : Int))
 (HasEnd s a ∧
 ∀ (x : Int),
 EndsAt s a x →
 iteP (decide (x < (0 : Int)))
 (K
 (AV.tup
 [AV.agg
 [AV.sc (Value.int IntKind.i64 (0 : Int)),
 AV.sc (Value.string (ByteArray.mk (Array.mk []))),
 AV.sc (Value.int IntKind.i64 (0 : Int)),
 AV.sc (Value.int IntKind.i64 (0 : Int))],
 AV.sc (Value.int IntKind.i64 a), AV.sc (Value.int IntKind.i64 (1 : Int)),
 AV.sc (Value.int IntKind.i64 a)]))
 (iteP (inRange a s.length)
 (iteP (byteAt s a == (47 : Int))
 (iteP
 (decide ((0 : Int) ≤ IntKind.i64.wrap (a + (1 : Int))) &&
 (decide (IntKind.i64.wrap (a + (1 : Int)) ≤ x) &&
 decide (x ≤ (↑s.length : Int))))
 (K
 (AV.tup
 [AV.agg
 [AV.sc (Value.int IntKind.i64 (3 : Int)),
 AV.sc
 (Value.string
 (ByteArray.mk
 (Array.mk (cutL s (IntKind.i64.wrap (a + (1 : Int))) x)))),
 AV.sc (Value.int IntKind.i64 (0 : Int)),
 AV.sc (Value.int IntKind.i64 a)],
 AV.sc (Value.int IntKind.i64 (IntKind.i64.wrap (x + (1 : Int)))),
 AV.sc (Value.int IntKind.i64 (0 : Int)),
 AV.sc (Value.int IntKind.i64 (0 : Int))]))
 False)
 (iteP
 (decide ((0 : Int) ≤ IntKind.i64.wrap (a + (1 : Int))) &&
 (decide (IntKind.i64.wrap (a + (1 : Int)) ≤ x) &&
 decide (x ≤ (↑s.length : Int))))
 (NoBack (cutL s (IntKind.i64.wrap (a + (1 : Int))) x) ∧
 ∀ (_ : Unit),
 True →
 K
 (AV.tup
 [AV.agg
 [AV.sc (Value.int IntKind.i64 (2 : Int)),
 AV.sc
 (Value.string
 (ByteArray.mk
 (Array.mk (cutL s (IntKind.i64.wrap (a + (1 : Int))) x)))),
 AV.sc (Value.int IntKind.i64 (0 : Int)),
 AV.sc (Value.int IntKind.i64 a)],
 AV.sc (Value.int IntKind.i64 (IntKind.i64.wrap (x + (1 : Int)))),
 AV.sc (Value.int IntKind.i64 (0 : Int)),
 AV.sc (Value.int IntKind.i64 (0 : Int))]))
 False))
 False))
 (iteP (byteAt s a == (47 : Int)) (Never ∧ True) (Never ∧ True)))))
 (True ∧
 ∀ (x : Bool),
 x = isLet (byteAt s a) →
 iteP x (Never ∧ True)
 (iteP (byteAt s a == (34 : Int))
 (HasEnd s a ∧
 ∀ (x : Int),
 EndsAt s a x →
 iteP (decide (x < (0 : Int)))
 (K
 (AV.tup
 [AV.agg
 [AV.sc (Value.int IntKind.i64 (0 : Int)),
 AV.sc (Value.string (ByteArray.mk (Array.mk []))),
 AV.sc (Value.int IntKind.i64 (0 : Int)),
 AV.sc (Value.int IntKind.i64 (0 : Int))],
 AV.sc (Value.int IntKind.i64 a), AV.sc (Value.int IntKind.i64 (1 : Int)),
 AV.sc (Value.int IntKind.i64 a)]))
 (iteP (inRange a s.length)
 (iteP (byteAt s a == (47 : Int))
 (iteP
 (decide ((0 : Int) ≤ IntKind.i64.wrap (a + (1 : Int))) &&
 (decide (IntKind.i64.wrap (a + (1 : Int)) ≤ x) && decide (x ≤ (↑s.length : Int))))
 (K
 (AV.tup
 [AV.agg
 [AV.sc (Value.int IntKind.i64 (3 : Int)),
 AV.sc
 (Value.string
 (ByteArray.mk
 (Array.mk (cutL s (IntKind.i64.wrap (a + (1 : Int))) x)))),
 AV.sc (Value.int IntKind.i64 (0 : Int)), AV.sc (Value.int IntKind.i64 a)],
 AV.sc (Value.int IntKind.i64 (IntKind.i64.wrap (x + (1 : Int)))),
 AV.sc (Value.int IntKind.i64 (0 : Int)),
 AV.sc (Value.int IntKind.i64 (0 : Int))]))
 False)
 (iteP
 (decide ((0 : Int) ≤ IntKind.i64.wrap (a + (1 : Int))) &&
 (decide (IntKind.i64.wrap (a + (1 : Int)) ≤ x) && decide (x ≤ (↑s.length : Int))))
 (NoBack (cutL s (IntKind.i64.wrap (a + (1 : Int))) x) ∧
 ∀ (_ : Unit),
 True →
 K
 (AV.tup
 [AV.agg
 [AV.sc (Value.int IntKind.i64 (2 : Int)),
 AV.sc
 (Value.string
 (ByteArray.mk
 (Array.mk (cutL s (IntKind.i64.wrap (a + (1 : Int))) x)))),
 AV.sc (Value.int IntKind.i64 (0 : Int)),
 AV.sc (Value.int IntKind.i64 a)],
 AV.sc (Value.int IntKind.i64 (IntKind.i64.wrap (x + (1 : Int)))),
 AV.sc (Value.int IntKind.i64 (0 : Int)),
 AV.sc (Value.int IntKind.i64 (0 : Int))]))
 False))
 False))
 (iteP (byteAt s a == (47 : Int)) (Never ∧ True) (Never ∧ True))))))
 False) :
 (fun (s : List UInt8) (a : Int) (k n t : Int) (w : List UInt8) (K : AV → Prop) => wpCall TQ cfg Tryz.prog 80 97 [aStr s, iA a, befA k n t w] heapF fun r h' => wpBack h' r K) s a k n t w K :=
 Eq.mp (by kernel_rfl) h
theorem tBrace (s : List UInt8) (a : Int) (k : Int) (n : Int) (t : Int) (w : List UInt8) (K : AV → Prop) (h :
 iteP (inRange a s.length)
 (True ∧
 ∀ (x : Bool),
 x = isDig (byteAt s a) →
 iteP x (iteP (decide ((0 : Int) ≤ a) && decide (a ≤ (↑s.length : Int))) (Never ∧ True) False)
 (iteP (byteAt s a == (46 : Int))
 (iteP (decide (IntKind.i64.wrap (a + (1 : Int)) < (↑s.length : Int)))
 (iteP (inRange (IntKind.i64.wrap (a + (1 : Int))) s.length)
 (True ∧
 ∀ (x : Bool),
 x = isDig (byteAt s (IntKind.i64.wrap (a + (1 : Int)))) →
 iteP x (iteP (decide ((0 : Int) ≤ a) && decide (a ≤ (↑s.length : Int))) (Never ∧ True) False)
 (True ∧
 ∀ (x : Bool),
 x = isLet (byteAt s a) →
 iteP x (Never ∧ True)
 (iteP (byteAt s a == (34 : Int)) (Never ∧ True)
 (iteP (byteAt s a == (47 : Int)) (Never ∧ True)
 (iteP (decide (IntKind.i64.wrap (a + (2 : Int)) ≤ (↑s.length : Int)))
 (iteP
 (decide ((0 : Int) ≤ a) &&
 (decide (a ≤ IntKind.i64.wrap (a + (2 : Int))) &&
 decide (IntKind.i64.wrap (a + (2 : Int)) ≤ (↑s.length : Int))))
 (IsOne (cutL s a (IntKind.i64.wrap (a + (2 : Int))))
 [(43 : UInt8), (61 : UInt8), (32 : UInt8), (45 : UInt8), (61 : UInt8),
 (32 : UInt8), (42 : UInt8), (61 : UInt8), (32 : UInt8), (47 : UInt8),
 (61 : UInt8), (32 : UInt8), (37 : UInt8), (61 : UInt8), (32 : UInt8),
 (94 : UInt8), (61 : UInt8), (32 : UInt8), (61 : UInt8), (61 : UInt8),
 (32 : UInt8), (60 : UInt8), (61 : UInt8), (32 : UInt8), (62 : UInt8),
 (61 : UInt8), (32 : UInt8), (33 : UInt8), (61 : UInt8), (32 : UInt8),
 (33 : UInt8), (126 : UInt8), (32 : UInt8), (43 : UInt8), (43 : UInt8),
 (32 : UInt8), (45 : UInt8), (45 : UInt8), (32 : UInt8), (38 : UInt8),
 (38 : UInt8), (32 : UInt8), (124 : UInt8), (124 : UInt8), (32 : UInt8),
 (62 : UInt8), (62 : UInt8)] ∧
 ∀ (_ : Unit),
 True →
 iteP
 (decide ((0 : Int) ≤ a) &&
 (decide (a ≤ IntKind.i64.wrap (a + (2 : Int))) &&
 decide (IntKind.i64.wrap (a + (2 : Int)) ≤ (↑s.length : Int))))
 (K
 (AV.tup
 [AV.agg
 [AV.sc (Value.int IntKind.i64 (7 : Int)),
 AV.sc
 (Value.string
 (ByteArray.mk
 (Array.mk
 (cutL s a (IntKind.i64.wrap (a + (2 : Int))))))),
 AV.sc (Value.int IntKind.i64 (0 : Int)),
 AV.sc (Value.int IntKind.i64 a)],
 AV.sc (Value.int IntKind.i64 (IntKind.i64.wrap (a + (2 : Int)))),
 AV.sc (Value.int IntKind.i64 (0 : Int)),
 AV.sc (Value.int IntKind.i64 (0 : Int))]))
 False)
 False)
 (iteP
 (decide ((0 : Int) ≤ a) &&
 (decide (a ≤ IntKind.i64.wrap (a + (1 : Int))) &&
 decide (IntKind.i64.wrap (a + (1 : Int)) ≤ (↑s.length : Int))))
 (IsOne (cutL s a (IntKind.i64.wrap (a + (1 : Int))))
 [(123 : UInt8), (32 : UInt8), (125 : UInt8), (32 : UInt8), (40 : UInt8),
 (32 : UInt8), (41 : UInt8), (32 : UInt8), (91 : UInt8), (32 : UInt8),
 (93 : UInt8), (32 : UInt8), (59 : UInt8), (32 : UInt8), (44 : UInt8),
 (32 : UInt8), (43 : UInt8), (32 : UInt8), (45 : UInt8), (32 : UInt8),
 (42 : UInt8), (32 : UInt8), (47 : UInt8), (32 : UInt8), (37 : UInt8),
 (32 : UInt8), (94 : UInt8), (32 : UInt8), (33 : UInt8), (32 : UInt8),
 (60 : UInt8), (32 : UInt8), (62 : UInt8), (32 : UInt8), (63 : UInt8),
 (32 : UInt8), (58 : UInt8), (32 : UInt8), (126 : UInt8), (32 : UInt8),
 (36 : UInt8), (32 : UInt8), (61 : UInt8)] ∧
 ∀ (_ : Unit),
 True →
 iteP
 (decide ((0 : Int) ≤ a) &&
 (decide (a ≤ IntKind.i64.wrap (a + (1 : Int))) &&
 decide (IntKind.i64.wrap (a + (1 : Int)) ≤ (↑s.length : Int))))
 (K
 (AV.tup
 [AV.agg
 [AV.sc (Value.int IntKind.i64 (7 : Int)),
 AV.sc
 (Value.string
 (ByteArray.mk
 (Array.mk
 (cutL s a (IntKind.i64.wrap (a + (1 : Int))))))),
 AV.sc (Value.int IntKind.i64 (0 : Int)),
 AV.sc (Value.int IntKind.i64 a)],
 AV.sc (Value.int IntKind.i64 (IntKind.i64.wrap (a + (1 : Int)))),
 AV.sc (Value.int IntKind.i64 (0 : Int)),
 AV.sc (Value.int IntKind.i64 (0 : Int))]))
 False)
 False))))))
 False)
 (True ∧
 ∀ (x : Bool),
 x = isLet (byteAt s a) →
 iteP x (Never ∧ True)
 (iteP (byteAt s a == (34 : Int)) (Never ∧ True)
 (iteP (byteAt s a == (47 : Int)) (Never ∧ True)
 (iteP (decide (IntKind.i64.wrap (a + (2 : Int)) ≤ (↑s.length : Int)))
 (iteP
 (decide ((0 : Int) ≤ a) &&
 (decide (a ≤ IntKind.i64.wrap (a + (2 : Int))) &&
 decide (IntKind.i64.wrap (a + (2 : Int)) ≤ (↑s.length : Int))))
 (IsOne (cutL s a (IntKind.i64.wrap (a + (2 : Int))))
 [(43 : UInt8), (61 : UInt8), (32 : UInt8), (45 : UInt8), (61 : UInt8), (32 : UInt8),
 (42 : UInt8), (61 : UInt8), (32 : UInt8), (47 : UInt8), (61 : UInt8), (32 : UInt8),
 (37 : UInt8), (61 : UInt8), (32 : UInt8), (94 : UInt8), (61 : UInt8), (32 : UInt8),
 (61 : UInt8), (61 : UInt8), (32 : UInt8), (60 : UInt8), (61 : UInt8), (32 : UInt8),
 (62 : UInt8), (61 : UInt8), (32 : UInt8), (33 : UInt8), (61 : UInt8), (32 : UInt8),
 (33 : UInt8), (126 : UInt8), (32 : UInt8), (43 : UInt8), (43 : UInt8), (32 : UInt8),
 (45 : UInt8), (45 : UInt8), (32 : UInt8), (38 : UInt8), (38 : UInt8), (32 : UInt8),
 (124 : UInt8), (124 : UInt8), (32 : UInt8), (62 : UInt8), (62 : UInt8)] ∧
 ∀ (_ : Unit),
 True →
 iteP
 (decide ((0 : Int) ≤ a) &&
 (decide (a ≤ IntKind.i64.wrap (a + (2 : Int))) &&
 decide (IntKind.i64.wrap (a + (2 : Int)) ≤ (↑s.length : Int))))
 (K
 (AV.tup
 [AV.agg
 [AV.sc (Value.int IntKind.i64 (7 : Int)),
 AV.sc
 (Value.string
 (ByteArray.mk
 (Array.mk (cutL s a (IntKind.i64.wrap (a + (2 : Int))))))),
 AV.sc (Value.int IntKind.i64 (0 : Int)),
 AV.sc (Value.int IntKind.i64 a)],
 AV.sc (Value.int IntKind.i64 (IntKind.i64.wrap (a + (2 : Int)))),
 AV.sc (Value.int IntKind.i64 (0 : Int)),
 AV.sc (Value.int IntKind.i64 (0 : Int))]))
 False)
 False)
 (iteP
 (decide ((0 : Int) ≤ a) &&
 (decide (a ≤ IntKind.i64.wrap (a + (1 : Int))) &&
 decide (IntKind.i64.wrap (a + (1 : Int)) ≤ (↑s.length : Int))))
 (IsOne (cutL s a (IntKind.i64.wrap (a + (1 : Int))))
 [(123 : UInt8), (32 : UInt8), (125 : UInt8), (32 : UInt8), (40 : UInt8), (32 : UInt8),
 (41 : UInt8), (32 : UInt8), (91 : UInt8), (32 : UInt8), (93 : UInt8), (32 : UInt8),
 (59 : UInt8), (32 : UInt8), (44 : UInt8), (32 : UInt8), (43 : UInt8), (32 : UInt8),
 (45 : UInt8), (32 : UInt8), (42 : UInt8), (32 : UInt8), (47 : UInt8), (32 : UInt8),
 (37 : UInt8), (32 : UInt8), (94 : UInt8), (32 : UInt8), (33 : UInt8), (32 : UInt8),
 (60 : UInt8), (32 : UInt8), (62 : UInt8), (32 : UInt8), (63 : UInt8), (32 : UInt8),
 (58 : UInt8), (32 : UInt8), (126 : UInt8), (32 : UInt8), (36 : UInt8), (32 : UInt8),
 (61 : UInt8)] ∧
 ∀ (_ : Unit),
 True →
 iteP
 (decide ((0 : Int) ≤ a) &&
 (decide (a ≤ IntKind.i64.wrap (a + (1 : Int))) &&
 decide (IntKind.i64.wrap (a + (1 : Int)) ≤ (↑s.length : Int))))
 (K
 (AV.tup
 [AV.agg
 [AV.sc (Value.int IntKind.i64 (7 : Int)),
 AV.sc
 (Value.string
 (ByteArray.mk
 (Array.mk (cutL s a (IntKind.i64.wrap (a + (1 : Int))))))),
 AV.sc (Value.int IntKind.i64 (0 : Int)),
 AV.sc (Value.int IntKind.i64 a)],
 AV.sc (Value.int IntKind.i64 (IntKind.i64.wrap (a + (1 : Int)))),
 AV.sc (Value.int IntKind.i64 (0 : Int)),
 AV.sc (Value.int IntKind.i64 (0 : Int))]))
 False)
 False))))))
 (True ∧
 ∀ (x : Bool),
 x = isLet (byteAt s a) →
 iteP x (Never ∧ True)
 (iteP (byteAt s a == (34 : Int)) (Never ∧ True)
 (iteP (byteAt s a == (47 : Int)) (Never ∧ True)
 (iteP (decide (IntKind.i64.wrap (a + (2 : Int)) ≤ (↑s.length : Int)))
 (iteP
 (decide ((0 : Int) ≤ a) &&
 (decide (a ≤ IntKind.i64.wrap (a + (2 : Int))) &&
 decide (IntKind.i64.wrap (a + (2 : Int)) ≤ (↑s.length : Int))))
 (IsOne (cutL s a (IntKind.i64.wrap (a + (2 : Int))))
 [(43 : UInt8), (61 : UInt8), (32 : UInt8), (45 : UInt8), (61 : UInt8), (32 : UInt8),
 (42 : UInt8), (61 : UInt8), (32 : UInt8), (47 : UInt8), (61 : UInt8), (32 : UInt8),
 (37 : UInt8), (61 : UInt8), (32 : UInt8), (94 : UInt8), (61 : UInt8), (32 : UInt8),
 (61 : UInt8), (61 : UInt8), (32 : UInt8), (60 : UInt8), (61 : UInt8), (32 : UInt8),
 (62 : UInt8), (61 : UInt8), (32 : UInt8), (33 : UInt8), (61 : UInt8), (32 : UInt8),
 (33 : UInt8), (126 : UInt8), (32 : UInt8), (43 : UInt8), (43 : UInt8), (32 : UInt8),
 (45 : UInt8), (45 : UInt8), (32 : UInt8), (38 : UInt8), (38 : UInt8), (32 : UInt8),
 (124 : UInt8), (124 : UInt8), (32 : UInt8), (62 : UInt8), (62 : UInt8)] ∧
 ∀ (_ : Unit),
 True →
 iteP
 (decide ((0 : Int) ≤ a) &&
 (decide (a ≤ IntKind.i64.wrap (a + (2 : Int))) &&
 decide (IntKind.i64.wrap (a + (2 : Int)) ≤ (↑s.length : Int))))
 (K
 (AV.tup
 [AV.agg
 [AV.sc (Value.int IntKind.i64 (7 : Int)),
 AV.sc
 (Value.string
 (ByteArray.mk
 (Array.mk (cutL s a (IntKind.i64.wrap (a + (2 : Int))))))),
 AV.sc (Value.int IntKind.i64 (0 : Int)), AV.sc (Value.int IntKind.i64 a)],
 AV.sc (Value.int IntKind.i64 (IntKind.i64.wrap (a + (2 : Int)))),
 AV.sc (Value.int IntKind.i64 (0 : Int)),
 AV.sc (Value.int IntKind.i64 (0 : Int))]))
 False)
 False)
 (iteP
 (decide ((0 : Int) ≤ a) &&
 (decide (a ≤ IntKind.i64.wrap (a + (1 : Int))) &&
 decide (IntKind.i64.wrap (a + (1 : Int)) ≤ (↑s.length : Int))))
 (IsOne (cutL s a (IntKind.i64.wrap (a + (1 : Int))))
 [(123 : UInt8), (32 : UInt8), (125 : UInt8), (32 : UInt8), (40 : UInt8), (32 : UInt8),
 (41 : UInt8), (32 : UInt8), (91 : UInt8), (32 : UInt8), (93 : UInt8), (32 : UInt8),
 (59 : UInt8), (32 : UInt8), (44 : UInt8), (32 : UInt8), (43 : UInt8), (32 : UInt8),
 (45 : UInt8), (32 : UInt8), (42 : UInt8), (32 : UInt8), (47 : UInt8), (32 : UInt8),
 (37 : UInt8), (32 : UInt8), (94 : UInt8), (32 : UInt8), (33 : UInt8), (32 : UInt8),
 (60 : UInt8), (32 : UInt8), (62 : UInt8), (32 : UInt8), (63 : UInt8), (32 : UInt8),
 (58 : UInt8), (32 : UInt8), (126 : UInt8), (32 : UInt8), (36 : UInt8), (32 : UInt8),
 (61 : UInt8)] ∧
 ∀ (_ : Unit),
 True →
 iteP
 (decide ((0 : Int) ≤ a) &&
 (decide (a ≤ IntKind.i64.wrap (a + (1 : Int))) &&
 decide (IntKind.i64.wrap (a + (1 : Int)) ≤ (↑s.length : Int))))
 (K
 (AV.tup
 [AV.agg
 [AV.sc (Value.int IntKind.i64 (7 : Int)),
 AV.sc
 (Value.string
 (ByteArray.mk
 (Array.mk (cutL s a (IntKind.i64.wrap (a + (1 : Int))))))),
 AV.sc (Value.int IntKind.i64 (0 : Int)), AV.sc (Value.int IntKind.i64 a)],
 AV.sc (Value.int IntKind.i64 (IntKind.i64.wrap (a + (1 : Int)))),
 AV.sc (Value.int IntKind.i64 (0 : Int)),
 AV.sc (Value.int IntKind.i64 (0 : Int))]))
 False)
 False)))))))
 False) :
 (fun (s : List UInt8) (a : Int) (k n t : Int) (w : List UInt8) (K : AV → Prop) => wpCall TB cfg Tryz.prog 80 97 [aStr s, iA a, befA k n t w] heapF fun r h' => wpBack h' r K) s a k n t w K :=
 Eq.mp (by kernel_rfl) h
theorem v137 (c : Int) (K : AV → Prop) (h :
 iteP (decide ((48 : Int) ≤ c))
 (iteP (decide (c ≤ (57 : Int))) (K (AV.sc (Value.bool true))) (K (AV.sc (Value.bool false))))
 (K (AV.sc (Value.bool false)))) :
 (fun (c : Int) (K : AV → Prop) => wpCall tab0 cfg Tryz.prog 60 137 [.sc (.int .u8 c)] heapF fun r h' => wpBack h' r K) c K :=
 Eq.mp (by kernel_rfl) h
theorem v138 (c : Int) (K : AV → Prop) (h :
 iteP (decide ((97 : Int) ≤ c))
 (iteP (decide (c ≤ (122 : Int))) (K (AV.sc (Value.bool true)))
 (iteP (decide ((65 : Int) ≤ c))
 (iteP (decide (c ≤ (90 : Int))) (K (AV.sc (Value.bool true)))
 (iteP (c == (95 : Int)) (K (AV.sc (Value.bool true))) (K (AV.sc (Value.bool false)))))
 (iteP (c == (95 : Int)) (K (AV.sc (Value.bool true))) (K (AV.sc (Value.bool false))))))
 (iteP (decide ((65 : Int) ≤ c))
 (iteP (decide (c ≤ (90 : Int))) (K (AV.sc (Value.bool true)))
 (iteP (c == (95 : Int)) (K (AV.sc (Value.bool true))) (K (AV.sc (Value.bool false)))))
 (iteP (c == (95 : Int)) (K (AV.sc (Value.bool true))) (K (AV.sc (Value.bool false)))))) :
 (fun (c : Int) (K : AV → Prop) => wpCall tab0 cfg Tryz.prog 60 138 [.sc (.int .u8 c)] heapF fun r h' => wpBack h' r K) c K :=
 Eq.mp (by kernel_rfl) h
end
end Go.Proofs.Sf.Tx
namespace Go.Proofs.Sf
open Go Go.Ef
noncomputable section
def okD (a : Int) : Bool := decide (-10000000000000 ≤ a) && decide (a ≤ 10000000000000)
theorem okD_iff {a : Int} : okD a = true ↔ -10000000000000 ≤ a ∧ a ≤ 10000000000000 := by simp [okD]
def fitF (d : Int) : Option Int := if okD d = true then some d else none
def addF (a b : Int) : Option Int := fitF (a + b)
def subF (a b : Int) : Option Int := fitF (a - b)
def mulF (a b : Int) : Option Int := fitF ((a * b).tdiv 10000)
def divF (a b : Int) : Option Int := if b = 0 then none else fitF ((a * 10000).tdiv b)
def modF (a b : Int) : Option Int := if b = 0 then none else some (a.tmod b)
def powN (a : Int) : Nat → Option Int
 | 0 => some 10000
 | n + 1 => (powN a n).bind fun p => mulF p a
def powF (a n : Int) : Option Int := if -64 ≤ n ∧ n ≤ 64 then (if 0 ≤ n then powN a n.toNat else (powN a (-n).toNat).bind fun p => divF 10000 p) else none
def oAdd : List UInt8 := [43]
def oSub : List UInt8 := [45]
def oMul : List UInt8 := [42]
def oDiv : List UInt8 := [47]
def oMod : List UInt8 := [37]
def oPow : List UInt8 := [94]
def arithF (op : List UInt8) (a b : Int) : Option Int :=
 if op = oAdd then addF a b else if op = oSub then subF a b else if op = oMul then mulF a b else if op = oDiv then divF a b else if op = oMod then modF a b else if op = oPow then powF a (b.tdiv 10000) else none
end
end Go.Proofs.Sf
namespace Go.Proofs.Sf
open Go Go.Ef
noncomputable section
def nilA : AV := .sc (.slice none 0 0)
def iA (n : Int) : AV := .sc (.int .i64 n)
def bA (b : Bool) : AV := .sc (.bool b)
def numV (d : Int) : List AV := [.sc (.int .i64 1), .sc (.int .i64 d), .sc (.string ⟨⟨[]⟩⟩)]
def zeroV : List AV := [.sc (.int .i64 0), .sc (.int .i64 0), .sc (.string ⟨⟨[]⟩⟩)]
structure D1 (a : Int) : Prop where
 is : okD a = true
structure D2 (a b : Int) : Prop where
 l : okD a = true
 r : okD b = true
structure W2 (x y : Int) : Prop where
 l : 0 ≤ x ∧ x < 18446744073709551616
 r : 0 ≤ y ∧ y < 18446744073709551616
structure Wd (hi lo : Int) : Prop where
 l : 0 ≤ hi ∧ hi < 10000
 r : 0 ≤ lo ∧ lo < 18446744073709551616
structure Is (r : Option Int) (d : Int) : Prop where
 is : r = some d
structure Non (r : Option Int) (e : Int) : Prop where
 is : r = none
 ne : e ≠ 0
def truthF (b : Bool) : Option Int := some (if b = true then 10000 else 0)
def oLt : List UInt8 := [60]
def oLe : List UInt8 := [60, 61]
def oEq : List UInt8 := [61, 61]
def oNe : List UInt8 := [33, 61]
def oGt : List UInt8 := [62]
def oGe : List UInt8 := [62, 61]
def foldF (op : List UInt8) (a b : Int) : Option Int :=
 if op = oLt then truthF (decide (a < b)) else if op = oLe then truthF (decide (a ≤ b)) else if op = oEq then truthF (decide (a = b)) else if op = oNe then truthF (decide (a ≠ b)) else
 if op = oGt then truthF (decide (b < a)) else if op = oGe then truthF (decide (b ≤ a)) else arithF op a b
def numN (d at_ : Int) : List AV := [.sc (.int .i64 1), .sc (.string ⟨⟨[]⟩⟩), .sc (.int .i64 d), .sc (.bool false), .sc (.slice none 0 0), .sc (.int .i64 at_)]
def binN (op : List UInt8) (A B : List AV) (at_ : Int) : List AV := [.sc (.int .i64 13), .sc (.string ⟨⟨op⟩⟩), .sc (.int .i64 0), .sc (.bool false), .sl [A, B] 0, .sc (.int .i64 at_)]
def nodeF (op : List UInt8) (a b : Int) : Option Int := if okD a = true ∧ okD b = true then foldF op a b else none
def CTrue (args : List AV) (h : Heap) : Option CSpec :=
 match args with
 | [] => some (fspec True (bA true) h)
 | _ => none
def locV (nm lo up : List UInt8) (W : List (List AV)) : List AV := [.sc (.string ⟨⟨nm⟩⟩), .sl W 0, .sc (.string ⟨⟨lo⟩⟩), .sc (.string ⟨⟨up⟩⟩), .sc (.slice none 0 0), .sc (.slice none 0 0)]
def CDef (args : List AV) (h : Heap) : Option CSpec :=
 match args with
 | [] => some { pre := True, alts := [{ α := List UInt8 × List UInt8 × List UInt8 × List (List AV), post := fun _ => True, val := fun q => .agg (locV q.1 q.2.1 q.2.2.1 q.2.2.2), heap := fun _ => h }] }
 | _ => none
structure Lt32 (q : Int) : Prop where
 lt : q < 4294967296
def tabX : Tab := { tab0 with exact := fun _ _ => true }
structure Pre277 (a n : Int) : Prop where
 a : okD a = true
 n : -64 ≤ n ∧ n ≤ 64
def sizeN (n : Int) : Nat := n.natAbs
structure IsMax (m n : Int) : Prop where
 is : m = (sizeN n : Int)
structure PreP (a n : Int) : Prop where
 a : okD a = true
 n : 0 ≤ n ∧ n ≤ 64
def CSameN (args : List AV) (h : Heap) : Option CSpec :=
 match args with
 | [.agg [.sc (.int .i64 1), .sc (.string ⟨⟨[]⟩⟩), .sc (.int .i64 d), .sc (.bool false), .sc (.slice none 0 0), .sc (.int .i64 p)], .agg [.sc (.int .i64 1), .sc (.string ⟨⟨[]⟩⟩), .sc (.int .i64 e), .sc (.bool false), .sc (.slice none 0 0), .sc (.int .i64 q)]] => some (nspec True (decide (d = e) && decide (p = q)) bA h)
 | _ => none
structure SameB (op op' : List UInt8) (a a' b b' p p' q q' r r' : Int) : Prop where
 op : op = op'
 a : a = a'
 b : b = b'
 p : p = p'
 q : q = q'
 r : r = r'
structure Never : Prop where
 f : False
def CSame (args : List AV) (h : Heap) : Option CSpec :=
 match args with
 | [.agg [.sc (.int .i64 13), .sc (.string op), .sc (.int .i64 0), .sc (.bool false), .sl [[.sc (.int .i64 1), .sc (.string ⟨⟨[]⟩⟩), .sc (.int .i64 a), .sc (.bool false), .sc (.slice none 0 0), .sc (.int .i64 p)], [.sc (.int .i64 1), .sc (.string ⟨⟨[]⟩⟩), .sc (.int .i64 b), .sc (.bool false), .sc (.slice none 0 0), .sc (.int .i64 q)]] 0, .sc (.int .i64 r)],
   .agg [.sc (.int .i64 13), .sc (.string op'), .sc (.int .i64 0), .sc (.bool false), .sl [[.sc (.int .i64 1), .sc (.string ⟨⟨[]⟩⟩), .sc (.int .i64 a'), .sc (.bool false), .sc (.slice none 0 0), .sc (.int .i64 p')], [.sc (.int .i64 1), .sc (.string ⟨⟨[]⟩⟩), .sc (.int .i64 b'), .sc (.bool false), .sc (.slice none 0 0), .sc (.int .i64 q')]] 0, .sc (.int .i64 r')]] =>
  some (fspec (SameB op.data.toList op'.data.toList a a' b b' p p' q q' r r') (bA true) h)
 | [.agg [.sc (.int .i64 1), .sc (.string ⟨⟨[]⟩⟩), .sc (.int .i64 d), .sc (.bool false), .sc (.slice none 0 0), .sc (.int .i64 p)], .agg [.sc (.int .i64 1), .sc (.string ⟨⟨[]⟩⟩), .sc (.int .i64 e), .sc (.bool false), .sc (.slice none 0 0), .sc (.int .i64 q)]] => some (nspec True (decide (d = e) && decide (p = q)) bA h)
 | _ => some { pre := Never, alts := [] }
structure Other (op : List UInt8) : Prop where
 a : ∀ x y, arithF op x y = none
 n : ∀ x y, nodeF op x y = none
def TSame : Tab := tabX.addC 14 CSameN
end
end Go.Proofs.Sf
namespace Go.Proofs.Sf
open Go Go.Ef
noncomputable section
set_option maxRecDepth 100000
abbrev Ok (T : Tab) : Prop := TabOk Tryz.prog cfg T
theorem okX : Ok tabX := ⟨fun _ _ _ _ _ ht => (by cases ht), fun _ _ _ _ _ ht => (by cases ht)⟩
theorem it {q : Bool} {A B : Prop} (h : q = true) (k : A) : iteP q A B := by rw [h]; exact k
theorem ie {q : Bool} {A B : Prop} (h : q = false) (k : B) : iteP q A B := by rw [h]; exact k
theorem iti {q : Bool} {A B : Prop} (h : q = true → A) (k : q = false → B) : iteP q A B := by
 cases q with
 | true => exact h rfl
 | false => exact k rfl
theorem dt {p : Prop} [Decidable p] (h : p) : decide p = true := decide_eq_true h
theorem df {p : Prop} [Decidable p] (h : ¬p) : decide p = false := decide_eq_false h
def QD (r : Option Int) (y : AV) : Prop := (∃ d, r = some d ∧ y = .tup [iA d, iA 0]) ∨ ∃ e, r = none ∧ e ≠ 0 ∧ y = .tup [iA 0, iA e]
theorem QD.some {r : Option Int} {d : Int} (h : r = .some d) : QD r (.tup [iA d, iA 0]) := .inl ⟨d, h, rfl⟩
theorem QD.none {r : Option Int} {e : Int} (h : r = .none) (he : e ≠ 0) : QD r (.tup [iA 0, iA e]) := .inr ⟨e, h, he, rfl⟩
end
end Go.Proofs.Sf
namespace Go.Proofs.Sf.Tx
open Go Go.Ef
noncomputable section
set_option maxRecDepth 100000
theorem inR {s : List UInt8} {i : Int} (h0 : 0 ≤ i) (h1 : i < s.length) : inRange i s.length = true := by rw [inRange_iff]; exact ⟨h0, h1⟩
theorem inR' {n : Nat} {i : Int} (h0 : 0 ≤ i) (h1 : i < n) : inRange i n = true := by rw [inRange_iff]; exact ⟨h0, h1⟩
theorem byteAt_nat (s : List UInt8) (i : Nat) (h : i < s.length) : byteAt s i = (s[i].toNat : Int) := by
 unfold byteAt
 rw [Int.toNat_natCast, List.getElem?_eq_getElem h]
 rfl
theorem eq_nat {c : UInt8} {n : Nat} (hn : n < 256) : ((c.toNat : Int) == (n : Int)) = decide (c = UInt8.ofNat n) := by
 rw [Bool.eq_iff_iff]
 simp only [beq_iff_eq, decide_eq_true_eq]
 constructor
 ·intro h
  apply UInt8.toNat_inj.1
  rw [UInt8.toNat_ofNat']
  omega
 ·intro h
  rw [h, UInt8.toNat_ofNat']
  omega
theorem loop27 (s : List UInt8) (hs : s.length ≤ 4294967280) : ∀ k i : Nat, i + k = s.length → Ev cfg Tryz.prog 27 (.loop (loopAt Tryz.prog 27 3)) (I27 s i) fun e τ => ((s.drop i).all okB = true ∧ e = .exit 0 ∧ τ = X27 s) ∨ ((s.drop i).all okB = false ∧ e = .ret ∧ τ = E27 s) := by
 intro k
 induction k with
 | zero =>
  intro i hi
  refine Ev.round (O := tab0_ok) (n := 60) (t := ⟨[0, 3], [0, 2], 0⟩) (by kernel_rfl) (by kernel_rfl) rfl (r27 s i (fun _ => False) True False (ie (df (by omega)) ⟨rfl, rfl, trivial⟩)) (fun _ h => h.2.elim) (fun e τ hx => ?_)
  unfold q27 at hx
  split at hx
  ·exact .inl ⟨by rw [List.drop_eq_nil_of_le (by omega)]; rfl, hx.1, hx.2.1⟩
  ·exact hx.2.elim
  ·exact hx.elim
 | succ k ih =>
  intro i hi
  have hlt : i < s.length := by omega
  have hd : s.drop i = s[i] :: s.drop (i + 1) := List.drop_eq_getElem_cons hlt
  have hw : IntKind.i64.wrap ((i : Int) + 1) = ((i + 1 : Nat) : Int) := by rw [wrap_in (by omega) (by omega)]; omega
  have hr := inR (s := s) (i := (i : Int)) (by omega) (by omega)
  have e34 : (byteAt s i == (34 : Int)) = decide (s[i] = 34) := by rw [byteAt_nat s i hlt]; exact eq_nat (n := 34) (by decide)
  have e92 : (byteAt s i == (92 : Int)) = decide (s[i] = 92) := by rw [byteAt_nat s i hlt]; exact eq_nat (n := 92) (by decide)
  have e10 : (byteAt s i == (10 : Int)) = decide (s[i] = 10) := by rw [byteAt_nat s i hlt]; exact eq_nat (n := 10) (by decide)
  refine Ev.round (O := tab0_ok) (n := 60) (t := ⟨[0, 3], [0, 2], 0⟩) (by kernel_rfl) (by kernel_rfl) rfl
   (r27 s i (fun j => okB s[i] = true ∧ j = ((i + 1 : Nat) : Int)) False (okB s[i] = false) (it (dt (by omega)) (it hr ?_))) (fun τ h => ?_) (fun e τ hx => ?_)
  ·rw [e34, e92, e10]
   refine iti (fun q => ⟨rfl, ?_⟩) (fun q1 => it hr (iti (fun q => ⟨rfl, ?_⟩) (fun q2 => it hr (iti (fun q => ⟨rfl, ?_⟩) (fun q3 => ⟨rfl, ?_, hw⟩)))))
   ·unfold okB; simp [of_decide_eq_true q]
   ·unfold okB; simp [of_decide_eq_true q]
   ·unfold okB; simp [of_decide_eq_true q]
   ·have := of_decide_eq_false q1
    have := of_decide_eq_false q2
    have := of_decide_eq_false q3
    unfold okB; simp [*]
  ·obtain ⟨h1, h2, h3⟩ := h
   rw [h1, h3]
   refine (ih (i + 1) (by omega)).mono fun e τ' hq => ?_
   rw [hd, List.all_cons, h2, Bool.true_and]
   exact hq
  ·unfold q27 at hx
   split at hx
   ·exact hx.2.2.elim
   ·exact .inr ⟨by rw [hd, List.all_cons, hx.2, Bool.false_and], rfl, hx.1⟩
   ·exact hx.elim
theorem okL27 {T : Tab} (O : Ok T) : Ok (T.addL 27 3 L27) := by
 refine addL_ok O fun σ s hs hp => ?_
 cases hs
 obtain ⟨h1, h2⟩ := hp
 obtain ⟨m, e, τ, g1, g2⟩ := Ev.tidied (t := ⟨[0, 3], [0, 2], 0⟩) (by kernel_rfl) h1 (loop27 (slS σ 0) h2.le (slS σ 0).length 0 (by omega))
 rw [List.drop_zero] at g2
 rcases g2 with ⟨k1, rfl, rfl⟩ | ⟨k1, rfl, rfl⟩
 ·exact ⟨_, List.mem_cons_self, (), ⟨k1⟩, m, g1⟩
 ·exact ⟨_, List.mem_cons_of_mem _ (List.mem_singleton.2 rfl), (), ⟨k1⟩, m, g1⟩
theorem ok27 {T : Tab} (O : Ok T) : Ok (T.addC 27 C27) := by
 refine addC_ok O fun args h s hs hp => ?_
 unfold C27 at hs
 split at hs
 ·rename_i s
  cases hs
  have key : wpCall T27 cfg Tryz.prog 60 27 [aStr s.data.toList] heapF fun r h' => wpBack h' r fun v => v = bA (plainB s.data.toList) := by
   refine v27 s.data.toList _ ⟨rfl, ⟨rfl, hp⟩, fun _ hx => iti (fun q => ?_) (fun q => ?_), fun _ hx => ?_⟩
   ·have q := of_decide_eq_true q
    unfold plainB; rw [hx.is, dt (by omega)]; rfl
   ·have q := of_decide_eq_false q
    unfold plainB; rw [df (by omega), Bool.and_false]; rfl
   ·unfold plainB; rw [hx.is, Bool.false_and]; rfl
  obtain ⟨m, v, h', e, rfl, rfl⟩ := EvP.freshV (g := 27) (args := [.sc (.string s)]) (h := h) (v := bA (plainB s.data.toList)) (okL27 tab0_ok) (n := 60) (by kernel_rfl) rfl (args' := [.sc (.string s)]) rfl key
  exact ⟨_, List.mem_singleton.2 rfl, plainB s.data.toList, m, rfl, e⟩
 ·cases hs
theorem ends_eq {s : List UInt8} {a k k' : Int} (h : EndsAt s a k) (h' : EndsAt s a k') : k = k' := by
 have h1 := h.lo
 have h2 := h'.lo
 by_cases q : k < k'
 ·exact absurd h.k34 (h'.mid k h1.2 q).1
 by_cases q' : k' < k
 ·exact absurd h'.k34 (h.mid k' h2.2 q').1
 omega
theorem loop184 (s : List UInt8) (a k : Int) (h : EndsAt s a k) : ∀ n : Nat, ∀ i : Int, a < i → i + n = k → Ev cfg Tryz.prog 184 (.loop (loopAt Tryz.prog 184 3)) (I184 s a i) fun e τ => e = .ret ∧ τ = E184 k := by
 obtain ⟨l1, l2⟩ := h.lo
 obtain ⟨l3, l4⟩ := h.hi
 intro n
 induction n with
 | zero =>
  intro i hi hk
  have hik : i = k := by omega
  have hr := inR (s := s) (i := i) (by omega) (by omega)
  have hra := inR (s := s) (i := a) (by omega) (by omega)
  refine Ev.round (O := tab0_ok) (n := 60) (t := ⟨[0, 1, 5], [4], 0⟩) (by kernel_rfl) (by kernel_rfl) rfl (r184 s a i (fun _ => False) (fun v => v = k) (it (dt (by omega)) (it hr (it ?_ (it hr (it hra (it ?_ ⟨rfl, hik⟩))))))) (fun _ h => h.2.elim) (fun e τ hx => ?_)
  ·rw [hik, h.k34]; rfl
  ·rw [hik, h.k34, h.a34]; rfl
  ·unfold q184 at hx
   split at hx
   ·exact ⟨rfl, by rw [hx.1, hx.2]⟩
   ·exact hx.elim
 | succ n ih =>
  intro i hi hk
  have hr := inR (s := s) (i := i) (by omega) (by omega)
  have hra := inR (s := s) (i := a) (by omega) (by omega)
  obtain ⟨m1, m2, m3⟩ := h.mid i hi (by omega)
  have hw : IntKind.i64.wrap (i + 1) = i + 1 := wrap_in (by omega) (by omega)
  refine Ev.round (O := tab0_ok) (n := 60) (t := ⟨[0, 1, 5], [4], 0⟩) (by kernel_rfl) (by kernel_rfl) rfl (r184 s a i (fun j => j = i + 1) (fun _ => False) (it (dt (by omega)) (it hr (it ?_ (it hr (it hra (ie ?_ (it hr (ie ?_ ⟨rfl, hw⟩))))))))) (fun τ h => ?_) (fun e τ hx => ?_)
  ·simpa using m3
  ·rw [h.a34]; simpa using m1
  ·simpa using m2
  ·rw [h.1, h.2]
   exact ih (i + 1) (by omega) (by omega)
  ·unfold q184 at hx
   split at hx
   ·exact hx.2.elim
   ·exact hx.elim
theorem okL184 {T : Tab} (O : Ok T) : Ok (T.addL 184 3 L184) := by
 refine addL_ok O fun σ s hs hp => ?_
 refine lspec_ok (Option.some.inj hs) (fun ⟨h1, h2, h3⟩ => ?_) hp
 obtain ⟨k, hk⟩ := h2.is
 obtain ⟨l1, l2⟩ := hk.lo
 obtain ⟨l3, l4⟩ := hk.hi
 have h3 := h3.is
 rw [wrap_in (by omega) (by omega)] at h3
 obtain ⟨m, e, τ, g1, g2, g3⟩ := Ev.tidied (t := ⟨[0, 1, 5], [4], 0⟩) (by kernel_rfl) h1 (loop184 (slS σ 0) (slI σ 1) k hk (k - slI σ 5).toNat (slI σ 5) (by omega) (by omega))
 exact ⟨m, e, τ, g1, k, hk, g2, g3⟩
theorem ok184 {T : Tab} (O : Ok T) : Ok (T.addC 184 C184) := by
 refine addC_ok O fun args h s hs hp => ?_
 unfold C184 at hs
 split at hs
 ·rename_i s a
  cases hs
  obtain ⟨m, v, h', e, ⟨k, hk, rfl⟩, rfl⟩ := EvP.freshK (g := 184) (args := [.sc (.string s), .sc (.int .i64 a)]) (h := h) (Q := fun v => ∃ k, EndsAt s.data.toList a k ∧ v = iA k) (okL184 tab0_ok) (n := 60) (by kernel_rfl) rfl (args' := [.sc (.string s), .sc (.int .i64 a)]) rfl (v184 s.data.toList a _ ⟨rfl, ⟨rfl, hp, ⟨rfl⟩⟩, fun k hk => ⟨k, hk, rfl⟩⟩)
  exact ⟨_, List.mem_singleton.2 rfl, k, m, hk, e⟩
 ·cases hs
theorem ok137 {T : Tab} (O : Ok T) : Ok (T.addC 137 C137) := by
 refine addC_ok O fun args h s hs hp => ?_
 unfold C137 at hs
 split at hs
 ·rename_i c
  cases hs
  obtain ⟨m, v, h', e, rfl, rfl⟩ := EvP.freshV (g := 137) (args := [.sc (.int .u8 c)]) (h := h) (v := bA (isDig c)) tab0_ok (n := 60) (by kernel_rfl) rfl (args' := [.sc (.int .u8 c)]) rfl (v137 c _ (iti (fun q => iti (fun q2 => by unfold isDig; rw [q, q2]; rfl) (fun q2 => by unfold isDig; rw [q, q2]; rfl)) (fun q => by unfold isDig; rw [q]; rfl)))
  exact ⟨_, List.mem_singleton.2 rfl, isDig c, m, rfl, e⟩
 ·cases hs
theorem ok138 {T : Tab} (O : Ok T) : Ok (T.addC 138 C138) := by
 refine addC_ok O fun args h s hs hp => ?_
 unfold C138 at hs
 split at hs
 ·rename_i c
  cases hs
  have last : ∀ {p q r u : Bool}, decide (97 ≤ c) = p → decide (c ≤ 122) = q → decide (65 ≤ c) = r → decide (c ≤ 90) = u → (p && q) = false → (r && u) = false → iteP (c == (95 : Int)) (bA true = bA (isLet c)) (bA false = bA (isLet c)) := by
   intro p q r u h1 h2 h3 h4 h5 h6
   refine iti (fun x => ?_) (fun x => ?_)
   ·have x : c = 95 := by simpa using x
    subst x; rfl
   ·have x : ¬ c = 95 := by simpa using x
    unfold isLet; rw [h1, h2, h3, h4, h5, h6, df x]; rfl
  obtain ⟨m, v, h', e, rfl, rfl⟩ := EvP.freshV (g := 138) (args := [.sc (.int .u8 c)]) (h := h) (v := bA (isLet c)) tab0_ok (n := 60) (by kernel_rfl) rfl (args' := [.sc (.int .u8 c)]) rfl (v138 c _ (by
   cases h1 : decide ((97 : Int) ≤ c) <;> cases h2 : decide (c ≤ (122 : Int)) <;> cases h3 : decide ((65 : Int) ≤ c) <;> cases h4 : decide (c ≤ (90 : Int)) <;> simp only [iteP_t, iteP_f] <;> first | exact last h1 h2 h3 h4 rfl rfl | (unfold isLet; rw [h1, h2, h3, h4]; rfl)))
  exact ⟨_, List.mem_singleton.2 rfl, isLet c, m, rfl, e⟩
 ·cases hs
end
end Go.Proofs.Sf.Tx
namespace Go.Proofs.Sf.Tx
open Go Go.Ef
noncomputable section
set_option maxRecDepth 100000
theorem rowB_len (s : List UInt8) : (rowB s).length = s.length := by simp [rowB]
theorem rowB_all (s : List UInt8) : allLen 1 (rowB s) = true := by simp [allLen, rowB]
theorem byteD_row (c : UInt8) : byteD [AV.sc (.int .u8 c.toNat)] = c := by
 show UInt8.ofNat ((c.toNat : Int).toNat) = c
 simp
theorem rowB_bytes (s : List UInt8) : (rowB s).map byteD = s := by
 unfold rowB
 rw [List.map_map]
 conv => rhs; rw [← List.map_id s]
 exact List.map_congr_left fun c _ => byteD_row c
theorem rowB_cells (s : List UInt8) : (rowB s).all isByteCell = true := by
 rw [List.all_eq_true]
 intro e he
 unfold rowB at he
 obtain ⟨c, _, rfl⟩ := List.mem_map.1 he
 rfl
theorem rowB_take (s : List UInt8) (i : Nat) (h : i < s.length) : rowB (s.take i) ++ [[AV.sc (.int .u8 (byteAt s i))]] = rowB (s.take (i + 1)) := by
 rw [byteAt_nat s i h, List.take_succ_eq_append_getElem h]
 unfold rowB
 rw [List.map_append]
 rfl
theorem back_at {s : List UInt8} (h : s.all (fun b => decide (b ≠ 92)) = true) (i : Nat) (hi : i < s.length) : (byteAt s i != (92 : Int)) = true := by
 rw [byteAt_nat s i hi]
 have := List.all_eq_true.1 h s[i] (List.getElem_mem hi)
 have e := eq_nat (c := s[i]) (n := 92) (by decide)
 have : (((s[i].toNat : Nat) : Int) == ((92 : Nat) : Int)) = false := by rw [e]; simpa using this
 simp only [bne, Bool.not_eq_true']
 exact this
theorem loop185 (s : List UInt8) (hb : s.all (fun b => decide (b ≠ 92)) = true) (hs : s.length ≤ 100) : ∀ k i : Nat, i + 1 + k = s.length →
  Ev cfg Tryz.prog 185 (.loop (loopAt Tryz.prog 185 4)) (I185 s ((i + 1 : Nat) : Int) (rowB (s.take (i + 1))) (i + 1)) fun e τ => e = .exit 0 ∧ τ = X185 (rowB s) s.length := by
 have okU : Ok TU := addC_ok tab0_ok fun _ _ _ h p => by cases h; exact p.f.elim
 intro k
 induction k with
 | zero =>
  intro i hi
  refine Ev.round (O := okU) (n := 60) (t := ⟨[0, 5, 6], [5], 0⟩) (by kernel_rfl) (by kernel_rfl) rfl (r185 s _ _ _ (fun _ _ _ => False) True (ie (df (by omega)) ⟨rfl, rfl, trivial⟩)) (fun _ h => h.2.elim) (fun e τ hx => ?_)
  unfold q185 at hx
  split at hx
  ·refine ⟨hx.1, ?_⟩
   rw [hx.2.1, show i + 1 = s.length by omega, List.take_length]
  ·exact hx.elim
 | succ k ih =>
  intro i hi
  have hlt : i + 1 < s.length := by omega
  have hr := inR (s := s) (i := ((i + 1 : Nat) : Int)) (by omega) (by omega)
  have hw : IntKind.i64.wrap (((i + 1 : Nat) : Int) + 1) = ((i + 1 + 1 : Nat) : Int) := by rw [wrap_in (by omega) (by omega)]; omega
  have hl : (rowB (s.take (i + 1))).length = i + 1 := by rw [rowB_len, List.length_take]; omega
  refine Ev.round (O := okU) (n := 60) (t := ⟨[0, 5, 6], [5], 0⟩) (by kernel_rfl) (by kernel_rfl) rfl
   (r185 s _ _ _ (fun j els n => j = ((i + 1 + 1 : Nat) : Int) ∧ els = rowB (s.take (i + 1 + 1)) ∧ n = i + 1 + 1) False (it (dt (by omega)) (it hr (it (back_at hb _ hlt) (it hr (it ?_ (it (dt hl) ⟨rfl, hw, rowB_take s (i + 1) hlt, rfl⟩))))))) (fun τ h => ?_) (fun e τ hx => ?_)
  ·rw [rowB_all, hl, Bool.true_and]
   unfold fits
   rw [Bool.and_eq_true]
   exact ⟨Nat.ble_eq_true_of_le (by unfold maxRoom; simp; omega), Nat.ble_eq_true_of_le (by unfold maxRoom; simp; omega)⟩
  ·obtain ⟨h1, h2, h3, h4⟩ := h
   rw [h1, h2, h3, h4]
   exact ih (i + 1) (by omega)
  ·unfold q185 at hx
   split at hx
   ·exact hx.2.2.elim
   ·exact hx.elim
theorem okL185 {T : Tab} (O : Ok T) : Ok (T.addL 185 4 L185) := by
 have okU : Ok TU := addC_ok tab0_ok fun _ _ _ h p => by cases h; exact p.f.elim
 refine addL_ok O fun σ s hs hp => ?_
 cases hs
 obtain ⟨h1, h2⟩ := hp
 generalize slS σ 0 = s at h1 h2 ⊢
 cases s with
 | nil =>
  have E := Ev.tidied (t := ⟨[0, 5, 6], [5], 0⟩) (by kernel_rfl) h1 (Ev.round (O := okU) (n := 60) (t := ⟨[0, 5, 6], [5], 0⟩) (K := fun e τ => e = .exit 0 ∧ τ = Y185) (by kernel_rfl) (by kernel_rfl) rfl
   (z185 [] 0 (fun _ _ _ => False) True (ie rfl ⟨rfl, rfl, trivial⟩)) (fun _ h => h.2.elim) (fun e τ hx => by
    unfold qz185 at hx
    split at hx
    ·exact ⟨hx.1, hx.2.1⟩
    ·exact hx.elim))
  obtain ⟨m, e, τ, g1, rfl, rfl⟩ := E
  exact ⟨_, List.mem_cons_self, (), ⟨rfl⟩, m, g1⟩
 | cons c r =>
  have hl : ((c :: r).length : Int) ≤ 100 := by have := h2.le; omega
  have hlt : 0 < (c :: r).length := by simp
  have hr := inR (s := c :: r) (i := 0) (by omega) (by omega)
  have E := Ev.tidied (t := ⟨[0, 5, 6], [5], 0⟩) (by kernel_rfl) h1 (Ev.round (O := okU) (n := 60) (t := ⟨[0, 5, 6], [5], 0⟩) (K := fun e τ => e = .exit 0 ∧ τ = X185 (rowB (c :: r)) (c :: r).length) (by kernel_rfl) (by kernel_rfl) rfl
   (z185 (c :: r) 0 (fun j els n => j = ((0 + 1 : Nat) : Int) ∧ els = rowB ((c :: r).take 1) ∧ n = 1) False (it (dt (by omega)) (it hr (it (back_at h2.no 0 hlt) (it hr ⟨rfl, by rw [wrap_in (by omega) (by omega)]; omega, rowB_take (c :: r) 0 hlt, rfl⟩))))) (fun τ h => by
    obtain ⟨g1, g2, g3, g4⟩ := h
    rw [g1, g2, g3, g4]
    exact loop185 (c :: r) h2.no h2.le r.length 0 (by simp; omega)) (fun e τ hx => by
    unfold qz185 at hx
    split at hx
    ·exact hx.2.2.elim
    ·exact hx.elim))
  obtain ⟨m, e, τ, g1, rfl, rfl⟩ := E
  exact ⟨_, List.mem_cons_of_mem _ (List.mem_singleton.2 rfl), (rowB (c :: r), (c :: r).length), ⟨rfl, rfl, by simp⟩, m, g1⟩
theorem ok185 {T : Tab} (O : Ok T) : Ok (T.addC 185 C185) := by
 refine addC_ok O fun args h s hs hp => ?_
 unfold C185 at hs
 split at hs
 ·rename_i s
  cases hs
  have key : wpCall T185 cfg Tryz.prog 60 185 [aStr s.data.toList] heapF fun r h' => wpBack h' r fun v => v = .tup [aStr s.data.toList, iA 0, iA 0] := by
   refine v185 s.data.toList _ ⟨rfl, ⟨rfl, hp⟩, fun _ hx => ?_, fun x hx => ?_⟩
   ·rw [hx.is]; rfl
   ·rw [hx.els, rowB_bytes]
    exact it (rowB_cells _) rfl
  obtain ⟨m, v, h', e, rfl, rfl⟩ := EvP.freshV (g := 185) (args := [.sc (.string s)]) (h := h) (v := .tup [aStr s.data.toList, iA 0, iA 0]) (okL185 tab0_ok) (n := 60) (by kernel_rfl) rfl (args' := [.sc (.string s)]) rfl key
  exact ⟨_, List.mem_singleton.2 rfl, (), m, trivial, e⟩
 ·cases hs
theorem ok95 {T : Tab} (O : Ok T) : Ok (T.addC 95 C95) := by
 have okS : Ok TSk := addL_ok (addC_ok tab0_ok fun _ _ _ h p => by cases h; exact p.f.elim) fun _ _ h p => by cases h; exact p.f.elim
 refine addC_ok O fun args h s hs hp => ?_
 unfold C95 at hs
 split at hs
 ·rename_i s a k w n t
  refine nspec_ok (Option.some.inj hs) (fun hp => EvP.freshV (g := 95) okS (n := 60) (by kernel_rfl) rfl (args' := [.sc (.string s), .sc (.int .i64 a), .agg [.sc (.int .i64 k), .sc (.string w), .sc (.int .i64 n), .sc (.int .i64 t)]]) rfl (v95 s.data.toList a k n t w.data.toList _ ?_)) hp
  have hr := inR hp.lo hp.hi
  have h0 := hp.lo
  have h1 := hp.hi
  have h2 := hp.le
  rw [wrap_in (x := a + 1) (by omega) (by omega)]
  refine it hr (iti (fun q => ?_) (fun q => ?_))
  ·have q : byteAt s.data.toList a = 32 := by simpa using q
   unfold skipF; rw [if_pos q]; rfl
  ·have q : ¬ byteAt s.data.toList a = 32 := by simpa using q
   have e : skipF s.data.toList a = a := by unfold skipF; rw [if_neg q]
   rw [e]
   have hc := hp.c
   refine it hr (ie ?_ (it hr (ie ?_ (it hr (ie ?_ (it hr (ie ?_ rfl)))))))
   all_goals
    rw [beq_eq_false_iff_ne]
    omega
 ·cases hs
end
end Go.Proofs.Sf.Tx
namespace Go.Proofs.Sf.Tx
open Go Go.Ef
noncomputable section
def mkS (a b : List UInt8) : List UInt8 := sP (a ++ (34 :: 32 :: 34 :: (b ++ [34, 32, 125])))
structure IsText (s a b : List UInt8) (x y z : Int) : Prop where
 is : s = mkS a b
 pa : plainB a = true
 pb : plainB b = true
 ex : x = 17 + a.length
 ey : y = 20 + a.length + b.length
 ez : z = 21 + a.length + b.length
structure Text (s : List UInt8) : Prop where
 is : ∃ a b, s = mkS a b ∧ plainB a = true ∧ plainB b = true
def toks (a b : List UInt8) (x y z : Int) : List (List AV) := [tokA 6 [66, 69, 71, 73, 78] 0, tokA 7 [123] 6, tokA 6 [112, 114, 105, 110, 116] 8, tokA 2 a 14, tokA 2 b x, tokA 7 [125] y, tokA 0 [] z]
def C64 (args : List AV) (h : Heap) : Option CSpec :=
 match args with
 | [.sc (.string s)] => some { pre := Text s.data.toList, alts := [{ α := List UInt8 × List UInt8 × Int × Int × Int, post := fun q => IsText s.data.toList q.1 q.2.1 q.2.2.1 q.2.2.2.1 q.2.2.2.2, val := fun q => .tup [.sl (toks q.1 q.2.1 q.2.2.1 q.2.2.2.1 q.2.2.2.2) 0, iA 0, iA 0], heap := fun _ => h }] }
 | _ => none
inductive TokIs : List UInt8 → Int → Int × List UInt8 × Int → Int → Prop where
 | w0 (r : List UInt8) : r.length ≤ 4294967000 → TokIs (sP r) 0 (6, [66, 69, 71, 73, 78], 0) 5
 | m6 (r : List UInt8) : r.length ≤ 4294967000 → TokIs (sP r) 6 (7, [123], 6) 7
 | w8 (r : List UInt8) : r.length ≤ 4294967000 → TokIs (sP r) 8 (6, [112, 114, 105, 110, 116], 8) 13
 | str (p a q : List UInt8) (n k : Int) : a.all okB = true → a.length ≤ 100 → p.length + a.length + q.length ≤ 4294967000 → n = p.length → k = p.length + a.length + 2 → TokIs (p ++ 34 :: (a ++ 34 :: q)) n (2, a, n) k
 | brace (p : List UInt8) (n : Int) : p.length ≤ 4294967000 → n = p.length → TokIs (p ++ [125]) n (7, [125], n) (n + 1)
structure TokAt (s : List UInt8) (at_ : Int) : Prop where
 is : ∃ row k, TokIs s at_ row k
def C97 (args : List AV) (h : Heap) : Option CSpec :=
 match args with
 | [.sc (.string s), .sc (.int .i64 a), .agg [.sc (.int .i64 _), .sc (.string _), .sc (.int .i64 _), .sc (.int .i64 _)]] => some { pre := TokAt s.data.toList a, alts := [{ α := Int × List UInt8 × Int × Int, post := fun q => TokIs s.data.toList a (q.1, q.2.1, q.2.2.1) q.2.2.2, val := fun q => .tup [.agg (tokA q.1 q.2.1 q.2.2.1), iA q.2.2.2, iA 0, iA 0], heap := fun _ => h }] }
 | _ => none
structure TokRow (els : List (List AV)) : Prop where
 is : ∃ l k t n a, els = l ++ [[.sc (.int .i64 k), .sc (.string t), .sc (.int .i64 n), .sc (.int .i64 a)]] ∧ l.length ≤ 100
 plain : plainEls els = true
def C96 (args : List AV) (h : Heap) : Option CSpec :=
 match args with
 | [.sc (.slice none 0 0)] => some (fspec True (befA 0 0 0 []) h)
 | [.sl els _] => some { pre := TokRow els, alts := [{ α := Int × List UInt8 × Int × Int, post := fun _ => True, val := fun q => befA q.1 q.2.2.1 q.2.2.2 q.2.1, heap := fun _ => h }] }
 | _ => none
def TTk : Tab := ((tabX.addC 95 C95).addC 96 C96).addC 97 C97
def I64 (s : List UInt8) (i : Int) (els : List (List AV)) (n : Nat) : St := stOf 64 [(0, sStr s), (5, .v (.sl els 2)), (6, sInt i)] [] (hU 4 109 n)
def Z64 (s : List UInt8) (i : Int) : St := stOf 64 [(0, sStr s), (5, .v nilA), (6, sInt i)] [] heapF
def X64 (s : List UInt8) (els : List (List AV)) (n : Nat) : St := stOf 64 [(0, sStr s), (5, .v (.sl els 2))] [] (hU 4 109 n)
def q64 (s : List UInt8) (els : List (List AV)) (n : Nat) (X : Prop) (e : Ex) (τ : St) : Prop :=
 match e with
 | .exit _ => e = .exit 0 ∧ τ = X64 s els n ∧ X
 | _ => False
def n64 (s : List UInt8) (N : Int → List (List AV) → Nat → Prop) (M : Int → Prop) (τ : St) : Prop :=
 match τ.at 5 with
 | .v (.sl _ _) => τ = I64 s (slI τ 6) (slEls τ 5) (ownN τ.h) ∧ N (slI τ 6) (slEls τ 5) (ownN τ.h)
 | _ => τ = Z64 s (slI τ 6) ∧ M (slI τ 6)
def tabY : Tab := { tabX with deep := fun _ => true }
def TTx : Tab := (((tabY.addC 27 C27).addC 64 C64).addC 10 Sf.CTrue).addC 21 Sf.CDef
end
end Go.Proofs.Sf.Tx
namespace Go.Proofs.Sf
open Go Go.Ef
noncomputable section
set_option maxRecDepth 100000
theorem vSameN (d : Int) (p : Int) (e : Int) (q : Int) (K : AV → Prop) (h :
 iteP (d == e) (iteP (p == q) (K (AV.sc (Value.bool true))) (K (AV.sc (Value.bool false))))
 (K (AV.sc (Value.bool false)))) :
 (fun (d p e q : Int) (K : AV → Prop) => wpCall tabX cfg Tryz.prog 60 14 [.agg (numN d p), .agg (numN e q)] heapF fun r h' => wpBack h' r K) d p e q K :=
 Eq.mp (by kernel_rfl) h
theorem vSameB (op : List UInt8) (op' : List UInt8) (a : Int) (a' : Int) (b : Int) (b' : Int) (p : Int) (p' : Int) (q : Int) (q' : Int) (r : Int) (r' : Int) (K : AV → Prop) (h :
 iteP (decide (op = op'))
 (iteP (r == r')
 (True ∧
 ∀ (x : Bool),
 x = (decide (a = a') && decide (p = p')) →
 iteP x
 (True ∧
 ∀ (x : Bool),
 x = (decide (b = b') && decide (q = q')) →
 iteP x (K (AV.sc (Value.bool true))) (K (AV.sc (Value.bool false))))
 (K (AV.sc (Value.bool false))))
 (K (AV.sc (Value.bool false))))
 (K (AV.sc (Value.bool false)))) :
 (fun (op op' : List UInt8) (a a' b b' p p' q q' r r' : Int) (K : AV → Prop) => wpCall TSame cfg Tryz.prog 60 14 [.agg (binN op (numN a p) (numN b q) r), .agg (binN op' (numN a' p') (numN b' q') r')] heapF fun r h' => wpBack h' r K) op op' a a' b b' p p' q q' r r' K :=
 Eq.mp (by kernel_rfl) h
end
end Go.Proofs.Sf
namespace Go.Proofs.Sf
open Go Go.Ef
noncomputable section
set_option maxRecDepth 100000
theorem d1 {a : Int} (h : okD a = true) : D1 a := ⟨h⟩
theorem mm {a : Int} (h : okD a = true) : min (max a (-10000000000000)) 10000000000000 = a := by rw [okD_iff] at h; omega
end
end Go.Proofs.Sf
namespace Go.Proofs.Sf
open Go Go.Ef
noncomputable section
set_option maxRecDepth 100000
def QV (r : Option Int) (y : AV) : Prop := (∃ d, r = some d ∧ y = .tup [.agg (numV d), iA 0]) ∨ ∃ e, r = none ∧ e ≠ 0 ∧ y = .tup [.agg zeroV, iA e]
theorem QV.some {r : Option Int} {d : Int} (h : r = .some d) : QV r (.tup [.agg (numV d), iA 0]) := .inl ⟨d, h, rfl⟩
theorem QV.none {r : Option Int} {e : Int} (h : r = .none) (he : e ≠ 0) : QV r (.tup [.agg zeroV, iA e]) := .inr ⟨e, h, he, rfl⟩
def QM (r : Option Int) (y : AV) : Prop := (∃ d, r = some d ∧ y = .tup [.agg (numV d), bA true]) ∨ (r = none ∧ y = .tup [.agg zeroV, bA false])
theorem QM.some {r : Option Int} {d : Int} (h : r = .some d) : QM r (.tup [.agg (numV d), bA true]) := .inl ⟨d, h, rfl⟩
theorem QM.none {r : Option Int} (h : r = .none) : QM r (.tup [.agg zeroV, bA false]) := .inr ⟨h, rfl⟩
end
end Go.Proofs.Sf
