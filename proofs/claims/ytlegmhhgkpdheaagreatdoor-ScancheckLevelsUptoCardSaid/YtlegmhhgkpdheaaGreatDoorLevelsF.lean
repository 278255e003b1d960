/- A part of the proof: definitions and lemmas. -/
import Derived.Test.YtlegmhhgkpdheaaGreatDoorLevelsA
import Derived.Test.YtlegmhhgkpdheaaGreatDoorLevelsB
import Derived.Test.YtlegmhhgkpdheaaGreatDoorLevelsC
import Derived.Test.YtlegmhhgkpdheaaGreatDoorLevelsD
import Derived.Test.YtlegmhhgkpdheaaGreatDoorLevelsE
namespace Go.Proofs.Sc
open Go Go.Ef
noncomputable section
def nilA : AV := .sc (.slice none 0 0)
def nilP : AV := .sc (.pointer none)
def strA : AV := .sc (.string ⟨⟨[]⟩⟩)
def iA (n : Int) : AV := .sc (.int .i64 n)
def bA (b : Bool) : AV := .sc (.bool b)
def fnA (g : Nat) (cap : List AV) : AV := .fn (.func g) [] cap
def numC : List AV := [iA 1, strA, iA 0, bA false, nilA, iA 1000]
def grpC (Y : List AV) (at_ : Int) : List AV := [iA 20, strA, iA 0, bA false, .sl [Y] 0, iA at_]
def tN (n : Nat) : List AV := Nat.rec (motive := fun _ => List AV) numC (fun k ih => grpC ih (1000 - ((k + 1 : Nat) : Int))) n
def exprC (Y : List AV) : List AV := [iA 1, strA, strA, .sl [Y] 0, nilA, nilA, bA false, iA 500]
def blkC (Y : List AV) (at_ : Int) : List AV := [iA 9, strA, strA, nilA, .sl [Y] 0, nilA, bA false, iA at_]
def tS (leaf : List AV) (n : Nat) : List AV := Nat.rec (motive := fun _ => List AV) (exprC leaf) (fun k ih => blkC ih (499 - (k : Int))) n
def progA (S : List AV) : AV := .agg [.sl [[iA 3, nilA, .sl [S] 0, bA false]] 0, nilA]
def wA (level : Int) (loop : Bool) : AV := .agg [iA level, iA 3, iA (-1), bA loop]
def vS : AV := .agg [fnA 22 [.ptr 1 0], fnA 24 [.ptr 1 0]]
def hS0 : Heap := heapOf [.cells [fnA 21 [.ptr 2 0]], .cells [iA 0, iA 0]]
def hS1 (X : List AV) : Heap := heapOf [.cells [fnA 21 [.ptr 3 0]], .cells X, .cells [iA 0, iA 0]]
def vN : AV := .agg [fnA 34 [.ptr 1 0, .ptr 2 0, .ptr 3 0, .ptr 4 0, .ptr 5 0], fnA 37 [.ptr 1 0, .ptr 2 0, .ptr 5 0]]
def hN0 (R : List AV) : Heap := heapOf [.cells [fnA 32 [.ptr 5 0]], .cells [fnA 33 [.ptr 3 0, .ptr 4 0]], .cells [.mp 6], .cells [.sl [R] 0, nilA], .cells [iA 0, iA 0], .map []]
def hN1 (R X : List AV) : Heap := heapOf [.cells [fnA 32 [.ptr 5 0]], .cells [fnA 33 [.ptr 3 0, .ptr 4 0]], .cells [.mp 7], .cells [.sl [R] 0, nilA], .cells [iA 0, iA 0], .cells X, .map []]
def vU : AV := .agg [fnA 39 [.ptr 1 0, .ptr 2 0], fnA 40 [.ptr 2 0]]
def hU0 : Heap := heapOf [.cells [.mp 3], .cells [nilA], .map []]
def hU1 (X : List AV) : Heap := heapOf [.cells [.mp 4], .cells [nilA], .cells X, .map []]
inductive Can : AV → AV → Heap → Prop where
 | s0 : Can vS nilP hS0
 | sg (Y : List AV) (a : Int) : Can vS (.ptr 2 0) (hS1 (grpC Y a))
 | n0 (R : List AV) : Can vN nilP (hN0 R)
 | ng (R Y : List AV) (a : Int) : Can vN (.ptr 6 0) (hN1 R (grpC Y a))
 | u0 : Can vU nilP hU0
 | ug (Y : List AV) (a : Int) : Can vU (.ptr 3 0) (hU1 (grpC Y a))
inductive Can0 : AV → AV → Heap → Prop where
 | of {v u : AV} {h : Heap} (c : Can v u h) : Can0 v u h
 | sn : Can0 vS (.ptr 2 0) (hS1 numC)
 | nn (R : List AV) : Can0 vN (.ptr 6 0) (hN1 R numC)
 | un : Can0 vU (.ptr 3 0) (hU1 numC)
structure Vis0 (args : List AV) (h : Heap) : Prop where
 is : ∃ v u h' level loop, impA args h = some ([v, nilA, wA level loop, u], h') ∧ Can0 v u h'
structure Vis1 (m : Nat) (args : List AV) (h : Heap) : Prop where
 is : ∃ v u h' level loop k, impA args h = some ([v, .sl [tN k] 0, wA level loop, u], h') ∧ Can v u h' ∧ k < m ∧ 0 ≤ level ∧ level + k ≤ 32
def C46 (m : Nat) (args : List AV) (h : Heap) : Option CSpec :=
 match args with
 | [_, .sc (.slice none 0 0), _, _] => some (fspec (Vis0 args h) (bA true) h)
 | [_, .sl _ _, _, _] => some (fspec (Vis1 m args h) (bA true) h)
 | _ => none
def tabX : Tab := { tab0 with exact := fun _ _ => true }
def T46 (m : Nat) : Tab := tabX.addC 46 (C46 m)
def loopO : AV := fnA 48 []
inductive CanS : AV → AV → Heap → Prop where
 | s0 : CanS vS loopO hS0
 | sb (Y : List AV) (a : Int) : CanS vS (fnA 56 [.ptr 2 0]) (hS1 (blkC Y a))
 | n0 (R : List AV) : CanS vN loopO (hN0 R)
 | nb (R Y : List AV) (a : Int) : CanS vN (fnA 56 [.ptr 6 0]) (hN1 R (blkC Y a))
 | u0 : CanS vU loopO hU0
 | ub (Y : List AV) (a : Int) : CanS vU (fnA 56 [.ptr 3 0]) (hU1 (blkC Y a))
inductive CanE : AV → AV → Heap → Prop where
 | se (Y : List AV) : CanE vS (fnA 56 [.ptr 2 0]) (hS1 (exprC Y))
 | ne (R Y : List AV) : CanE vN (fnA 56 [.ptr 6 0]) (hN1 R (exprC Y))
 | ue (Y : List AV) : CanE vU (fnA 56 [.ptr 3 0]) (hU1 (exprC Y))
structure Sta0 (args : List AV) (h : Heap) : Prop where
 is : ∃ v u h' level loop, impA args h = some ([v, nilA, wA level loop, u], h') ∧ CanE v u h'
structure Sta1 (m : Nat) (args : List AV) (h : Heap) : Prop where
 is : ∃ v u h' level loop k b, impA args h = some ([v, .sl [tS (tN k) b] 0, wA level loop, u], h') ∧ CanS v u h' ∧ b < m ∧ 0 ≤ level ∧ level + k + b + 1 ≤ 32
def C47 (m : Nat) (args : List AV) (h : Heap) : Option CSpec :=
 match args with
 | [_, .sc (.slice none 0 0), _, _] => some (fspec (Sta0 args h) (bA true) h)
 | [_, .sl _ _, _, _] => some (fspec (Sta1 m args h) (bA true) h)
 | _ => none
def T47 (m : Nat) : Tab := (tabX.addC 46 (C46 100)).addC 47 (C47 m)
end
end Go.Proofs.Sc
namespace Go.Proofs.Sc
open Go Go.Ef
noncomputable section
def endI (X : List AV) (i : Nat) : Int :=
 match X[i]? with
 | some (.sc (.int _ n)) => n
 | _ => 0
def subL (X : List AV) (i : Nat) : Option (List AV) :=
 match X[i]? with
 | some (.sl [Y] 0) => some Y
 | _ => none
def atN : Nat → List AV → Int
 | 0, X => endI X 5
 | d + 1, X => match subL X 4 with
  | some Y => atN d Y
  | none => 0
def atS : Nat → List AV → Int
 | 0, X => endI X 7
 | d + 1, X => match subL X 4 with
  | some Y => atS d Y
  | none => match subL X 3 with
   | some Y => atN d Y
   | none => 0
def outs (r : Option (AV × Heap)) : Option (Int × Int) :=
 match r with
 | some (.tup [.sc (.int .i64 a), .sc (.int .i64 b)], _) => some (a, b)
 | _ => none
def run5 (S : List AV) : Option (Int × Int) := outs (callP cfg (evCall cfg Tryz.prog 1000) 5 [progA S] heapF)
end
end Go.Proofs.Sc
namespace Go.Proofs.Sc
open Go Go.Ef
noncomputable section
structure Fine (S : List AV) : Prop where
 is : ∃ k b, S = tS (tN k) b ∧ k + b + 2 ≤ 32
structure Deep (S : List AV) : Prop where
 is : ∃ k b, S = tS (tN k) b ∧ 32 < k + b + 2
def C5I (args : List AV) (h : Heap) : Option CSpec :=
 match args with
 | [.agg [.sl [[.sc (.int .i64 3), .sc (.slice none 0 0), .sl [S] 0, .sc (.bool false)]] 0, .sc (.slice none 0 0)]] => some (fspec (Fine S) (.tup [iA 0, iA 0]) h)
 | _ => none
def C5E (args : List AV) (h : Heap) : Option CSpec :=
 match args with
 | [.agg [.sl [[.sc (.int .i64 3), .sc (.slice none 0 0), .sl [S] 0, .sc (.bool false)]] 0, .sc (.slice none 0 0)]] => some { pre := Deep S, alts := [{ α := Int, post := fun x => x = atS 32 S, val := fun x => .tup [iA 3, iA x], heap := fun _ => h }] }
 | _ => none
def C4 (args : List AV) (h : Heap) : Option CSpec :=
 match args with
 | [] => some (fspec True (bA true) h)
 | _ => none
def I1 (n b i : Int) (X : List AV) : St := stOf 105 [(0, sInt n), (1, sInt b), (5, .lp 0 0), (6, sInt i)] [.cells X] heap0
def E1 (n b : Int) (X : List AV) : St := stOf 105 [(0, sInt n), (1, sInt b), (5, .lp 0 0)] [.cells X] heap0
def I2 (n b i : Int) (X S : List AV) : St := stOf 105 [(0, sInt n), (1, sInt b), (7, .lp 1 0), (8, sInt i)] [.cells X, .cells S] heap0
def E2 (n b : Int) (X S : List AV) : St := stOf 105 [(0, sInt n), (1, sInt b), (7, .lp 1 0)] [.cells X, .cells S] heap0
def locC (σ : St) (k : Nat) : List AV :=
 match getI k σ.loc with
 | some (.cells cs) => cs
 | _ => []
def q1 (n b : Int) (X : List AV) (Z : Prop) (e : Ex) (τ : St) : Prop :=
 match e with
 | .exit _ => e = .exit 0 ∧ τ = E1 n b X ∧ Z
 | _ => False
def q2 (n b : Int) (X S : List AV) (Z : Prop) (e : Ex) (τ : St) : Prop :=
 match e with
 | .exit _ => e = .exit 2 ∧ τ = E2 n b X S ∧ Z
 | _ => False
structure Loop1 (n : Int) : Prop where
 lo : 1 ≤ n
 hi : n ≤ 100
structure Loop2 (b : Int) (X S : List AV) : Prop where
 lo : 0 ≤ b
 hi : b ≤ 100
 is : S = exprC X
 leaf : X = numC ∨ ∃ Y a, X = grpC Y a
structure One (n : Int) (k : Int) : Prop where
 is : n = k
structure IsN (n : Int) (Y : List AV) (a : Int) : Prop where
 is : tN (n.toNat - 1) = grpC Y a
structure IsS (b : Int) (X Y : List AV) (a : Int) : Prop where
 is : tS X b.toNat = blkC Y a
def L1 (σ : St) : Option LSpec := some { pre := σ.tidy [0, 1, 5, 6] 1 = I1 (slI σ 0) (slI σ 1) 1 numC ∧ Loop1 (slI σ 0), alts := [{ α := Unit, post := fun _ => One (slI σ 0) 1, ex := .exit 0, st := fun _ => E1 (slI σ 0) (slI σ 1) numC }, { α := List AV × Int, post := fun p => IsN (slI σ 0) p.1 p.2, ex := .exit 0, st := fun p => E1 (slI σ 0) (slI σ 1) (grpC p.1 p.2) }] }
def L2 (σ : St) : Option LSpec := some { pre := σ.tidy [0, 1, 7, 8] 2 = I2 (slI σ 0) (slI σ 1) 0 (locC σ 0) (locC σ 1) ∧ Loop2 (slI σ 1) (locC σ 0) (locC σ 1), alts := [{ α := Unit, post := fun _ => One (slI σ 1) 0, ex := .exit 2, st := fun _ => E2 (slI σ 0) (slI σ 1) (locC σ 0) (locC σ 1) }, { α := List AV × Int, post := fun p => IsS (slI σ 1) (locC σ 0) p.1 p.2, ex := .exit 2, st := fun p => E2 (slI σ 0) (slI σ 1) (locC σ 0) (blkC p.1 p.2) }] }
def TI : Tab := (((tabX.addC 4 C4).addC 5 C5I).addL 3 6 L1).addL 3 11 L2
def TE : Tab := (((tabX.addC 4 C4).addC 5 C5E).addL 3 6 L1).addL 3 11 L2
end
end Go.Proofs.Sc
namespace Go.Proofs.Sc
open Go Go.Ef
noncomputable section
set_option maxRecDepth 100000
theorem l3E (n : Int) (b : Int) (K : AV → Prop) (h :
 iteP (decide (n < (1 : Int))) (True ∧ ∀ (_ : Unit), True → K (AV.sc (Value.bool true)))
 (iteP (decide ((100 : Int) < n)) (True ∧ ∀ (_ : Unit), True → K (AV.sc (Value.bool true)))
 (iteP (decide (b < (0 : Int))) (True ∧ ∀ (_ : Unit), True → K (AV.sc (Value.bool true)))
 (iteP (decide ((100 : Int) < b)) (True ∧ ∀ (_ : Unit), True → K (AV.sc (Value.bool true)))
 (loopAt Tryz.prog (3 : Nat) (6 : Nat) = loopAt Tryz.prog (3 : Nat) (6 : Nat) ∧
 (I1 n b (1 : Int)
 [AV.sc (Value.int IntKind.i64 (1 : Int)), AV.sc (Value.string (ByteArray.mk (Array.mk []))),
 AV.sc (Value.int IntKind.i64 (0 : Int)), AV.sc (Value.bool false),
 AV.sc (Value.slice none (0 : Nat) (0 : Nat)), AV.sc (Value.int IntKind.i64 (1000 : Int))] =
 I1 n b (1 : Int)
 [AV.sc (Value.int IntKind.i64 (1 : Int)), AV.sc (Value.string (ByteArray.mk (Array.mk []))),
 AV.sc (Value.int IntKind.i64 (0 : Int)), AV.sc (Value.bool false),
 AV.sc (Value.slice none (0 : Nat) (0 : Nat)), AV.sc (Value.int IntKind.i64 (1000 : Int))] ∧
 Loop1 n) ∧
 (∀ (_ : Unit),
 One n (1 : Int) →
 loopAt Tryz.prog (3 : Nat) (11 : Nat) = loopAt Tryz.prog (3 : Nat) (11 : Nat) ∧
 (I2 n b (0 : Int)
 [AV.sc (Value.int IntKind.i64 (1 : Int)), AV.sc (Value.string (ByteArray.mk (Array.mk []))),
 AV.sc (Value.int IntKind.i64 (0 : Int)), AV.sc (Value.bool false),
 AV.sc (Value.slice none (0 : Nat) (0 : Nat)), AV.sc (Value.int IntKind.i64 (1000 : Int))]
 [AV.sc (Value.int IntKind.i64 (1 : Int)), AV.sc (Value.string (ByteArray.mk (Array.mk []))),
 AV.sc (Value.string (ByteArray.mk (Array.mk []))),
 AV.sl
 [[AV.sc (Value.int IntKind.i64 (1 : Int)),
 AV.sc (Value.string (ByteArray.mk (Array.mk []))),
 AV.sc (Value.int IntKind.i64 (0 : Int)), AV.sc (Value.bool false),
 AV.sc (Value.slice none (0 : Nat) (0 : Nat)),
 AV.sc (Value.int IntKind.i64 (1000 : Int))]]
 (0 : Nat),
 AV.sc (Value.slice none (0 : Nat) (0 : Nat)),
 AV.sc (Value.slice none (0 : Nat) (0 : Nat)), AV.sc (Value.bool false),
 AV.sc (Value.int IntKind.i64 (500 : Int))] =
 I2 n b (0 : Int)
 [AV.sc (Value.int IntKind.i64 (1 : Int)), AV.sc (Value.string (ByteArray.mk (Array.mk []))),
 AV.sc (Value.int IntKind.i64 (0 : Int)), AV.sc (Value.bool false),
 AV.sc (Value.slice none (0 : Nat) (0 : Nat)), AV.sc (Value.int IntKind.i64 (1000 : Int))]
 [AV.sc (Value.int IntKind.i64 (1 : Int)), AV.sc (Value.string (ByteArray.mk (Array.mk []))),
 AV.sc (Value.string (ByteArray.mk (Array.mk []))),
 AV.sl
 [[AV.sc (Value.int IntKind.i64 (1 : Int)),
 AV.sc (Value.string (ByteArray.mk (Array.mk []))),
 AV.sc (Value.int IntKind.i64 (0 : Int)), AV.sc (Value.bool false),
 AV.sc (Value.slice none (0 : Nat) (0 : Nat)),
 AV.sc (Value.int IntKind.i64 (1000 : Int))]]
 (0 : Nat),
 AV.sc (Value.slice none (0 : Nat) (0 : Nat)),
 AV.sc (Value.slice none (0 : Nat) (0 : Nat)), AV.sc (Value.bool false),
 AV.sc (Value.int IntKind.i64 (500 : Int))] ∧
 Loop2 b
 [AV.sc (Value.int IntKind.i64 (1 : Int)), AV.sc (Value.string (ByteArray.mk (Array.mk []))),
 AV.sc (Value.int IntKind.i64 (0 : Int)), AV.sc (Value.bool false),
 AV.sc (Value.slice none (0 : Nat) (0 : Nat)), AV.sc (Value.int IntKind.i64 (1000 : Int))]
 [AV.sc (Value.int IntKind.i64 (1 : Int)), AV.sc (Value.string (ByteArray.mk (Array.mk []))),
 AV.sc (Value.string (ByteArray.mk (Array.mk []))),
 AV.sl
 [[AV.sc (Value.int IntKind.i64 (1 : Int)),
 AV.sc (Value.string (ByteArray.mk (Array.mk []))),
 AV.sc (Value.int IntKind.i64 (0 : Int)), AV.sc (Value.bool false),
 AV.sc (Value.slice none (0 : Nat) (0 : Nat)),
 AV.sc (Value.int IntKind.i64 (1000 : Int))]]
 (0 : Nat),
 AV.sc (Value.slice none (0 : Nat) (0 : Nat)), AV.sc (Value.slice none (0 : Nat) (0 : Nat)),
 AV.sc (Value.bool false), AV.sc (Value.int IntKind.i64 (500 : Int))]) ∧
 (∀ (_ : Unit),
 One b (0 : Int) →
 Deep
 [AV.sc (Value.int IntKind.i64 (1 : Int)),
 AV.sc (Value.string (ByteArray.mk (Array.mk []))),
 AV.sc (Value.string (ByteArray.mk (Array.mk []))),
 AV.sl
 [[AV.sc (Value.int IntKind.i64 (1 : Int)),
 AV.sc (Value.string (ByteArray.mk (Array.mk []))),
 AV.sc (Value.int IntKind.i64 (0 : Int)), AV.sc (Value.bool false),
 AV.sc (Value.slice none (0 : Nat) (0 : Nat)),
 AV.sc (Value.int IntKind.i64 (1000 : Int))]]
 (0 : Nat),
 AV.sc (Value.slice none (0 : Nat) (0 : Nat)),
 AV.sc (Value.slice none (0 : Nat) (0 : Nat)), AV.sc (Value.bool false),
 AV.sc (Value.int IntKind.i64 (500 : Int))] ∧
 ∀ (x : Int),
 x = (0 : Int) →
 iteP (decide (IntKind.i64.wrap (IntKind.i64.wrap (b + (1 : Int)) + n) ≤ (32 : Int)))
 (K (AV.sc (Value.bool false)))
 (iteP (decide ((32 : Int) < IntKind.i64.wrap (b + (1 : Int))))
 (iteP (x == IntKind.i64.wrap ((500 : Int) - IntKind.i64.wrap (b - (32 : Int))))
 (True ∧ ∀ (_ : Unit), True → K (AV.sc (Value.bool true)))
 (K (AV.sc (Value.bool false))))
 (iteP
 (x ==
 IntKind.i64.wrap
 ((1000 : Int) -
 IntKind.i64.wrap
 (IntKind.i64.wrap
 (IntKind.i64.wrap (IntKind.i64.wrap (b + (1 : Int)) + n) -
 (32 : Int)) -
 (1 : Int))))
 (True ∧ ∀ (_ : Unit), True → K (AV.sc (Value.bool true)))
 (K (AV.sc (Value.bool false)))))) ∧
 ∀ (x : List AV × Int),
 IsS b
 [AV.sc (Value.int IntKind.i64 (1 : Int)),
 AV.sc (Value.string (ByteArray.mk (Array.mk []))),
 AV.sc (Value.int IntKind.i64 (0 : Int)), AV.sc (Value.bool false),
 AV.sc (Value.slice none (0 : Nat) (0 : Nat)),
 AV.sc (Value.int IntKind.i64 (1000 : Int))]
 x.fst x.snd →
 Deep
 [AV.sc (Value.int IntKind.i64 (9 : Int)),
 AV.sc (Value.string (ByteArray.mk (Array.mk []))),
 AV.sc (Value.string (ByteArray.mk (Array.mk []))),
 AV.sc (Value.slice none (0 : Nat) (0 : Nat)), AV.sl [x.fst] (0 : Nat),
 AV.sc (Value.slice none (0 : Nat) (0 : Nat)), AV.sc (Value.bool false),
 AV.sc (Value.int IntKind.i64 x.snd)] ∧
 ∀ (x_1 : Int),
 x_1 =
 atS (32 : Nat)
 [AV.sc (Value.int IntKind.i64 (9 : Int)),
 AV.sc (Value.string (ByteArray.mk (Array.mk []))),
 AV.sc (Value.string (ByteArray.mk (Array.mk []))),
 AV.sc (Value.slice none (0 : Nat) (0 : Nat)), AV.sl [x.fst] (0 : Nat),
 AV.sc (Value.slice none (0 : Nat) (0 : Nat)), AV.sc (Value.bool false),
 AV.sc (Value.int IntKind.i64 x.snd)] →
 iteP (decide (IntKind.i64.wrap (IntKind.i64.wrap (b + (1 : Int)) + n) ≤ (32 : Int)))
 (K (AV.sc (Value.bool false)))
 (iteP (decide ((32 : Int) < IntKind.i64.wrap (b + (1 : Int))))
 (iteP (x_1 == IntKind.i64.wrap ((500 : Int) - IntKind.i64.wrap (b - (32 : Int))))
 (True ∧ ∀ (_ : Unit), True → K (AV.sc (Value.bool true)))
 (K (AV.sc (Value.bool false))))
 (iteP
 (x_1 ==
 IntKind.i64.wrap
 ((1000 : Int) -
 IntKind.i64.wrap
 (IntKind.i64.wrap
 (IntKind.i64.wrap (IntKind.i64.wrap (b + (1 : Int)) + n) -
 (32 : Int)) -
 (1 : Int))))
 (True ∧ ∀ (_ : Unit), True → K (AV.sc (Value.bool true)))
 (K (AV.sc (Value.bool false)))))) ∧
 ∀ (x : List AV × Int),
 IsN n x.fst x.snd →
 loopAt Tryz.prog (3 : Nat) (11 : Nat) = loopAt Tryz.prog (3 : Nat) (11 : Nat) ∧
 (I2 n b (0 : Int)
 [AV.sc (Value.int IntKind.i64 (20 : Int)),
 AV.sc (Value.string (ByteArray.mk (Array.mk []))),
 AV.sc (Value.int IntKind.i64 (0 : Int)), AV.sc (Value.bool false),
 AV.sl [x.fst] (0 : Nat), AV.sc (Value.int IntKind.i64 x.snd)]
 [AV.sc (Value.int IntKind.i64 (1 : Int)), AV.sc (Value.string (ByteArray.mk (Array.mk []))),
 AV.sc (Value.string (ByteArray.mk (Array.mk []))),
 AV.sl
 [[AV.sc (Value.int IntKind.i64 (20 : Int)),
 AV.sc (Value.string (ByteArray.mk (Array.mk []))),
 AV.sc (Value.int IntKind.i64 (0 : Int)), AV.sc (Value.bool false),
 AV.sl [x.fst] (0 : Nat), AV.sc (Value.int IntKind.i64 x.snd)]]
 (0 : Nat),
 AV.sc (Value.slice none (0 : Nat) (0 : Nat)),
 AV.sc (Value.slice none (0 : Nat) (0 : Nat)), AV.sc (Value.bool false),
 AV.sc (Value.int IntKind.i64 (500 : Int))] =
 I2 n b (0 : Int)
 [AV.sc (Value.int IntKind.i64 (20 : Int)),
 AV.sc (Value.string (ByteArray.mk (Array.mk []))),
 AV.sc (Value.int IntKind.i64 (0 : Int)), AV.sc (Value.bool false),
 AV.sl [x.fst] (0 : Nat), AV.sc (Value.int IntKind.i64 x.snd)]
 [AV.sc (Value.int IntKind.i64 (1 : Int)), AV.sc (Value.string (ByteArray.mk (Array.mk []))),
 AV.sc (Value.string (ByteArray.mk (Array.mk []))),
 AV.sl
 [[AV.sc (Value.int IntKind.i64 (20 : Int)),
 AV.sc (Value.string (ByteArray.mk (Array.mk []))),
 AV.sc (Value.int IntKind.i64 (0 : Int)), AV.sc (Value.bool false),
 AV.sl [x.fst] (0 : Nat), AV.sc (Value.int IntKind.i64 x.snd)]]
 (0 : Nat),
 AV.sc (Value.slice none (0 : Nat) (0 : Nat)),
 AV.sc (Value.slice none (0 : Nat) (0 : Nat)), AV.sc (Value.bool false),
 AV.sc (Value.int IntKind.i64 (500 : Int))] ∧
 Loop2 b
 [AV.sc (Value.int IntKind.i64 (20 : Int)), AV.sc (Value.string (ByteArray.mk (Array.mk []))),
 AV.sc (Value.int IntKind.i64 (0 : Int)), AV.sc (Value.bool false), AV.sl [x.fst] (0 : Nat),
 AV.sc (Value.int IntKind.i64 x.snd)]
 [AV.sc (Value.int IntKind.i64 (1 : Int)), AV.sc (Value.string (ByteArray.mk (Array.mk []))),
 AV.sc (Value.string (ByteArray.mk (Array.mk []))),
 AV.sl
 [[AV.sc (Value.int IntKind.i64 (20 : Int)),
 AV.sc (Value.string (ByteArray.mk (Array.mk []))),
 AV.sc (Value.int IntKind.i64 (0 : Int)), AV.sc (Value.bool false),
 AV.sl [x.fst] (0 : Nat), AV.sc (Value.int IntKind.i64 x.snd)]]
 (0 : Nat),
 AV.sc (Value.slice none (0 : Nat) (0 : Nat)), AV.sc (Value.slice none (0 : Nat) (0 : Nat)),
 AV.sc (Value.bool false), AV.sc (Value.int IntKind.i64 (500 : Int))]) ∧
 (∀ (_ : Unit),
 One b (0 : Int) →
 Deep
 [AV.sc (Value.int IntKind.i64 (1 : Int)),
 AV.sc (Value.string (ByteArray.mk (Array.mk []))),
 AV.sc (Value.string (ByteArray.mk (Array.mk []))),
 AV.sl
 [[AV.sc (Value.int IntKind.i64 (20 : Int)),
 AV.sc (Value.string (ByteArray.mk (Array.mk []))),
 AV.sc (Value.int IntKind.i64 (0 : Int)), AV.sc (Value.bool false),
 AV.sl [x.fst] (0 : Nat), AV.sc (Value.int IntKind.i64 x.snd)]]
 (0 : Nat),
 AV.sc (Value.slice none (0 : Nat) (0 : Nat)),
 AV.sc (Value.slice none (0 : Nat) (0 : Nat)), AV.sc (Value.bool false),
 AV.sc (Value.int IntKind.i64 (500 : Int))] ∧
 ∀ (x_2 : Int),
 x_2 =
 atS (32 : Nat)
 [AV.sc (Value.int IntKind.i64 (1 : Int)),
 AV.sc (Value.string (ByteArray.mk (Array.mk []))),
 AV.sc (Value.string (ByteArray.mk (Array.mk []))),
 AV.sl
 [[AV.sc (Value.int IntKind.i64 (20 : Int)),
 AV.sc (Value.string (ByteArray.mk (Array.mk []))),
 AV.sc (Value.int IntKind.i64 (0 : Int)), AV.sc (Value.bool false),
 AV.sl [x.fst] (0 : Nat), AV.sc (Value.int IntKind.i64 x.snd)]]
 (0 : Nat),
 AV.sc (Value.slice none (0 : Nat) (0 : Nat)),
 AV.sc (Value.slice none (0 : Nat) (0 : Nat)), AV.sc (Value.bool false),
 AV.sc (Value.int IntKind.i64 (500 : Int))] →
 iteP (decide (IntKind.i64.wrap (IntKind.i64.wrap (b + (1 : Int)) + n) ≤ (32 : Int)))
 (K (AV.sc (Value.bool false)))
 (iteP (decide ((32 : Int) < IntKind.i64.wrap (b + (1 : Int))))
 (iteP (x_2 == IntKind.i64.wrap ((500 : Int) - IntKind.i64.wrap (b - (32 : Int))))
 (True ∧ ∀ (_ : Unit), True → K (AV.sc (Value.bool true)))
 (K (AV.sc (Value.bool false))))
 (iteP
 (x_2 ==
 IntKind.i64.wrap
 ((1000 : Int) -
 IntKind.i64.wrap
 (IntKind.i64.wrap
 (IntKind.i64.wrap (IntKind.i64.wrap (b + (1 : Int)) + n) -
 (32 : Int)) -
 (1 : Int))))
 (True ∧ ∀ (_ : Unit), True → K (AV.sc (Value.bool true)))
 (K (AV.sc (Value.bool false)))))) ∧
 ∀ (x_1 : List AV × Int),
 IsS b
 [AV.sc (Value.int IntKind.i64 (20 : Int)),
 AV.sc (Value.string (ByteArray.mk (Array.mk []))),
 AV.sc (Value.int IntKind.i64 (0 : Int)), AV.sc (Value.bool false),
 AV.sl [x.fst] (0 : Nat), AV.sc (Value.int IntKind.i64 x.snd)]
 x_1.fst x_1.snd →
 Deep
 [AV.sc (Value.int IntKind.i64 (9 : Int)),
 AV.sc (Value.string (ByteArray.mk (Array.mk []))),
 AV.sc (Value.string (ByteArray.mk (Array.mk []))),
 AV.sc (Value.slice none (0 : Nat) (0 : Nat)), AV.sl [x_1.fst] (0 : Nat),
 AV.sc (Value.slice none (0 : Nat) (0 : Nat)), AV.sc (Value.bool false),
 AV.sc (Value.int IntKind.i64 x_1.snd)] ∧
 ∀ (x : Int),
 x =
 atS (32 : Nat)
 [AV.sc (Value.int IntKind.i64 (9 : Int)),
 AV.sc (Value.string (ByteArray.mk (Array.mk []))),
 AV.sc (Value.string (ByteArray.mk (Array.mk []))),
 AV.sc (Value.slice none (0 : Nat) (0 : Nat)), AV.sl [x_1.fst] (0 : Nat),
 AV.sc (Value.slice none (0 : Nat) (0 : Nat)), AV.sc (Value.bool false),
 AV.sc (Value.int IntKind.i64 x_1.snd)] →
 iteP (decide (IntKind.i64.wrap (IntKind.i64.wrap (b + (1 : Int)) + n) ≤ (32 : Int)))
 (K (AV.sc (Value.bool false)))
 (iteP (decide ((32 : Int) < IntKind.i64.wrap (b + (1 : Int))))
 (iteP (x == IntKind.i64.wrap ((500 : Int) - IntKind.i64.wrap (b - (32 : Int))))
 (True ∧ ∀ (_ : Unit), True → K (AV.sc (Value.bool true)))
 (K (AV.sc (Value.bool false))))
 (iteP
 (x ==
 IntKind.i64.wrap
 ((1000 : Int) -
 IntKind.i64.wrap
 (IntKind.i64.wrap
 (IntKind.i64.wrap (IntKind.i64.wrap (b + (1 : Int)) + n) -
 (32 : Int)) -
 (1 : Int))))
 (True ∧ ∀ (_ : Unit), True → K (AV.sc (Value.bool true)))
 (K (AV.sc (Value.bool false)))))))))) :
 (fun (n b : Int) (K : AV → Prop) => wpCall TE cfg Tryz.prog 60 3 [iA n, iA b] heap0 fun r _ => K r) n b K :=
 Eq.mp (by kernel_rfl) h
end
end Go.Proofs.Sc
namespace Go.Proofs.Sc
open Go Go.Ef
noncomputable section
set_option maxRecDepth 100000
theorem l3I (n : Int) (b : Int) (K : AV → Prop) (h :
 iteP (decide (n < (1 : Int))) (True ∧ ∀ (_ : Unit), True → K (AV.sc (Value.bool true)))
 (iteP (decide ((100 : Int) < n)) (True ∧ ∀ (_ : Unit), True → K (AV.sc (Value.bool true)))
 (iteP (decide (b < (0 : Int))) (True ∧ ∀ (_ : Unit), True → K (AV.sc (Value.bool true)))
 (iteP (decide ((100 : Int) < b)) (True ∧ ∀ (_ : Unit), True → K (AV.sc (Value.bool true)))
 (loopAt Tryz.prog (3 : Nat) (6 : Nat) = loopAt Tryz.prog (3 : Nat) (6 : Nat) ∧
 (I1 n b (1 : Int)
 [AV.sc (Value.int IntKind.i64 (1 : Int)), AV.sc (Value.string (ByteArray.mk (Array.mk []))),
 AV.sc (Value.int IntKind.i64 (0 : Int)), AV.sc (Value.bool false),
 AV.sc (Value.slice none (0 : Nat) (0 : Nat)), AV.sc (Value.int IntKind.i64 (1000 : Int))] =
 I1 n b (1 : Int)
 [AV.sc (Value.int IntKind.i64 (1 : Int)), AV.sc (Value.string (ByteArray.mk (Array.mk []))),
 AV.sc (Value.int IntKind.i64 (0 : Int)), AV.sc (Value.bool false),
 AV.sc (Value.slice none (0 : Nat) (0 : Nat)), AV.sc (Value.int IntKind.i64 (1000 : Int))] ∧
 Loop1 n) ∧
 (∀ (_ : Unit),
 One n (1 : Int) →
 loopAt Tryz.prog (3 : Nat) (11 : Nat) = loopAt Tryz.prog (3 : Nat) (11 : Nat) ∧
 (I2 n b (0 : Int)
 [AV.sc (Value.int IntKind.i64 (1 : Int)), AV.sc (Value.string (ByteArray.mk (Array.mk []))),
 AV.sc (Value.int IntKind.i64 (0 : Int)), AV.sc (Value.bool false),
 AV.sc (Value.slice none (0 : Nat) (0 : Nat)), AV.sc (Value.int IntKind.i64 (1000 : Int))]
 [AV.sc (Value.int IntKind.i64 (1 : Int)), AV.sc (Value.string (ByteArray.mk (Array.mk []))),
 AV.sc (Value.string (ByteArray.mk (Array.mk []))),
 AV.sl
 [[AV.sc (Value.int IntKind.i64 (1 : Int)),
 AV.sc (Value.string (ByteArray.mk (Array.mk []))),
 AV.sc (Value.int IntKind.i64 (0 : Int)), AV.sc (Value.bool false),
 AV.sc (Value.slice none (0 : Nat) (0 : Nat)),
 AV.sc (Value.int IntKind.i64 (1000 : Int))]]
 (0 : Nat),
 AV.sc (Value.slice none (0 : Nat) (0 : Nat)),
 AV.sc (Value.slice none (0 : Nat) (0 : Nat)), AV.sc (Value.bool false),
 AV.sc (Value.int IntKind.i64 (500 : Int))] =
 I2 n b (0 : Int)
 [AV.sc (Value.int IntKind.i64 (1 : Int)), AV.sc (Value.string (ByteArray.mk (Array.mk []))),
 AV.sc (Value.int IntKind.i64 (0 : Int)), AV.sc (Value.bool false),
 AV.sc (Value.slice none (0 : Nat) (0 : Nat)), AV.sc (Value.int IntKind.i64 (1000 : Int))]
 [AV.sc (Value.int IntKind.i64 (1 : Int)), AV.sc (Value.string (ByteArray.mk (Array.mk []))),
 AV.sc (Value.string (ByteArray.mk (Array.mk []))),
 AV.sl
 [[AV.sc (Value.int IntKind.i64 (1 : Int)),
 AV.sc (Value.string (ByteArray.mk (Array.mk []))),
 AV.sc (Value.int IntKind.i64 (0 : Int)), AV.sc (Value.bool false),
 AV.sc (Value.slice none (0 : Nat) (0 : Nat)),
 AV.sc (Value.int IntKind.i64 (1000 : Int))]]
 (0 : Nat),
 AV.sc (Value.slice none (0 : Nat) (0 : Nat)),
 AV.sc (Value.slice none (0 : Nat) (0 : Nat)), AV.sc (Value.bool false),
 AV.sc (Value.int IntKind.i64 (500 : Int))] ∧
 Loop2 b
 [AV.sc (Value.int IntKind.i64 (1 : Int)), AV.sc (Value.string (ByteArray.mk (Array.mk []))),
 AV.sc (Value.int IntKind.i64 (0 : Int)), AV.sc (Value.bool false),
 AV.sc (Value.slice none (0 : Nat) (0 : Nat)), AV.sc (Value.int IntKind.i64 (1000 : Int))]
 [AV.sc (Value.int IntKind.i64 (1 : Int)), AV.sc (Value.string (ByteArray.mk (Array.mk []))),
 AV.sc (Value.string (ByteArray.mk (Array.mk []))),
 AV.sl
 [[AV.sc (Value.int IntKind.i64 (1 : Int)),
 AV.sc (Value.string (ByteArray.mk (Array.mk []))),
 AV.sc (Value.int IntKind.i64 (0 : Int)), AV.sc (Value.bool false),
 AV.sc (Value.slice none (0 : Nat) (0 : Nat)),
 AV.sc (Value.int IntKind.i64 (1000 : Int))]]
 (0 : Nat),
 AV.sc (Value.slice none (0 : Nat) (0 : Nat)), AV.sc (Value.slice none (0 : Nat) (0 : Nat)),
 AV.sc (Value.bool false), AV.sc (Value.int IntKind.i64 (500 : Int))]) ∧
 (∀ (_ : Unit),
 One b (0 : Int) →
 Fine
 [AV.sc (Value.int IntKind.i64 (1 : Int)),
 AV.sc (Value.string (ByteArray.mk (Array.mk []))),
 AV.sc (Value.string (ByteArray.mk (Array.mk []))),
 AV.sl
 [[AV.sc (Value.int IntKind.i64 (1 : Int)),
 AV.sc (Value.string (ByteArray.mk (Array.mk []))),
 AV.sc (Value.int IntKind.i64 (0 : Int)), AV.sc (Value.bool false),
 AV.sc (Value.slice none (0 : Nat) (0 : Nat)),
 AV.sc (Value.int IntKind.i64 (1000 : Int))]]
 (0 : Nat),
 AV.sc (Value.slice none (0 : Nat) (0 : Nat)),
 AV.sc (Value.slice none (0 : Nat) (0 : Nat)), AV.sc (Value.bool false),
 AV.sc (Value.int IntKind.i64 (500 : Int))] ∧
 ∀ (_ : Unit),
 True →
 iteP (decide (IntKind.i64.wrap (IntKind.i64.wrap (b + (1 : Int)) + n) ≤ (32 : Int)))
 (True ∧ ∀ (_ : Unit), True → K (AV.sc (Value.bool true)))
 (iteP (decide ((32 : Int) < IntKind.i64.wrap (b + (1 : Int))))
 (K (AV.sc (Value.bool false))) (K (AV.sc (Value.bool false))))) ∧
 ∀ (x : List AV × Int),
 IsS b
 [AV.sc (Value.int IntKind.i64 (1 : Int)),
 AV.sc (Value.string (ByteArray.mk (Array.mk []))),
 AV.sc (Value.int IntKind.i64 (0 : Int)), AV.sc (Value.bool false),
 AV.sc (Value.slice none (0 : Nat) (0 : Nat)),
 AV.sc (Value.int IntKind.i64 (1000 : Int))]
 x.fst x.snd →
 Fine
 [AV.sc (Value.int IntKind.i64 (9 : Int)),
 AV.sc (Value.string (ByteArray.mk (Array.mk []))),
 AV.sc (Value.string (ByteArray.mk (Array.mk []))),
 AV.sc (Value.slice none (0 : Nat) (0 : Nat)), AV.sl [x.fst] (0 : Nat),
 AV.sc (Value.slice none (0 : Nat) (0 : Nat)), AV.sc (Value.bool false),
 AV.sc (Value.int IntKind.i64 x.snd)] ∧
 ∀ (_ : Unit),
 True →
 iteP (decide (IntKind.i64.wrap (IntKind.i64.wrap (b + (1 : Int)) + n) ≤ (32 : Int)))
 (True ∧ ∀ (_ : Unit), True → K (AV.sc (Value.bool true)))
 (iteP (decide ((32 : Int) < IntKind.i64.wrap (b + (1 : Int))))
 (K (AV.sc (Value.bool false))) (K (AV.sc (Value.bool false))))) ∧
 ∀ (x : List AV × Int),
 IsN n x.fst x.snd →
 loopAt Tryz.prog (3 : Nat) (11 : Nat) = loopAt Tryz.prog (3 : Nat) (11 : Nat) ∧
 (I2 n b (0 : Int)
 [AV.sc (Value.int IntKind.i64 (20 : Int)),
 AV.sc (Value.string (ByteArray.mk (Array.mk []))),
 AV.sc (Value.int IntKind.i64 (0 : Int)), AV.sc (Value.bool false),
 AV.sl [x.fst] (0 : Nat), AV.sc (Value.int IntKind.i64 x.snd)]
 [AV.sc (Value.int IntKind.i64 (1 : Int)), AV.sc (Value.string (ByteArray.mk (Array.mk []))),
 AV.sc (Value.string (ByteArray.mk (Array.mk []))),
 AV.sl
 [[AV.sc (Value.int IntKind.i64 (20 : Int)),
 AV.sc (Value.string (ByteArray.mk (Array.mk []))),
 AV.sc (Value.int IntKind.i64 (0 : Int)), AV.sc (Value.bool false),
 AV.sl [x.fst] (0 : Nat), AV.sc (Value.int IntKind.i64 x.snd)]]
 (0 : Nat),
 AV.sc (Value.slice none (0 : Nat) (0 : Nat)),
 AV.sc (Value.slice none (0 : Nat) (0 : Nat)), AV.sc (Value.bool false),
 AV.sc (Value.int IntKind.i64 (500 : Int))] =
 I2 n b (0 : Int)
 [AV.sc (Value.int IntKind.i64 (20 : Int)),
 AV.sc (Value.string (ByteArray.mk (Array.mk []))),
 AV.sc (Value.int IntKind.i64 (0 : Int)), AV.sc (Value.bool false),
 AV.sl [x.fst] (0 : Nat), AV.sc (Value.int IntKind.i64 x.snd)]
 [AV.sc (Value.int IntKind.i64 (1 : Int)), AV.sc (Value.string (ByteArray.mk (Array.mk []))),
 AV.sc (Value.string (ByteArray.mk (Array.mk []))),
 AV.sl
 [[AV.sc (Value.int IntKind.i64 (20 : Int)),
 AV.sc (Value.string (ByteArray.mk (Array.mk []))),
 AV.sc (Value.int IntKind.i64 (0 : Int)), AV.sc (Value.bool false),
 AV.sl [x.fst] (0 : Nat), AV.sc (Value.int IntKind.i64 x.snd)]]
 (0 : Nat),
 AV.sc (Value.slice none (0 : Nat) (0 : Nat)),
 AV.sc (Value.slice none (0 : Nat) (0 : Nat)), AV.sc (Value.bool false),
 AV.sc (Value.int IntKind.i64 (500 : Int))] ∧
 Loop2 b
 [AV.sc (Value.int IntKind.i64 (20 : Int)), AV.sc (Value.string (ByteArray.mk (Array.mk []))),
 AV.sc (Value.int IntKind.i64 (0 : Int)), AV.sc (Value.bool false), AV.sl [x.fst] (0 : Nat),
 AV.sc (Value.int IntKind.i64 x.snd)]
 [AV.sc (Value.int IntKind.i64 (1 : Int)), AV.sc (Value.string (ByteArray.mk (Array.mk []))),
 AV.sc (Value.string (ByteArray.mk (Array.mk []))),
 AV.sl
 [[AV.sc (Value.int IntKind.i64 (20 : Int)),
 AV.sc (Value.string (ByteArray.mk (Array.mk []))),
 AV.sc (Value.int IntKind.i64 (0 : Int)), AV.sc (Value.bool false),
 AV.sl [x.fst] (0 : Nat), AV.sc (Value.int IntKind.i64 x.snd)]]
 (0 : Nat),
 AV.sc (Value.slice none (0 : Nat) (0 : Nat)), AV.sc (Value.slice none (0 : Nat) (0 : Nat)),
 AV.sc (Value.bool false), AV.sc (Value.int IntKind.i64 (500 : Int))]) ∧
 (∀ (_ : Unit),
 One b (0 : Int) →
 Fine
 [AV.sc (Value.int IntKind.i64 (1 : Int)),
 AV.sc (Value.string (ByteArray.mk (Array.mk []))),
 AV.sc (Value.string (ByteArray.mk (Array.mk []))),
 AV.sl
 [[AV.sc (Value.int IntKind.i64 (20 : Int)),
 AV.sc (Value.string (ByteArray.mk (Array.mk []))),
 AV.sc (Value.int IntKind.i64 (0 : Int)), AV.sc (Value.bool false),
 AV.sl [x.fst] (0 : Nat), AV.sc (Value.int IntKind.i64 x.snd)]]
 (0 : Nat),
 AV.sc (Value.slice none (0 : Nat) (0 : Nat)),
 AV.sc (Value.slice none (0 : Nat) (0 : Nat)), AV.sc (Value.bool false),
 AV.sc (Value.int IntKind.i64 (500 : Int))] ∧
 ∀ (_ : Unit),
 True →
 iteP (decide (IntKind.i64.wrap (IntKind.i64.wrap (b + (1 : Int)) + n) ≤ (32 : Int)))
 (True ∧ ∀ (_ : Unit), True → K (AV.sc (Value.bool true)))
 (iteP (decide ((32 : Int) < IntKind.i64.wrap (b + (1 : Int))))
 (K (AV.sc (Value.bool false))) (K (AV.sc (Value.bool false))))) ∧
 ∀ (x_1 : List AV × Int),
 IsS b
 [AV.sc (Value.int IntKind.i64 (20 : Int)),
 AV.sc (Value.string (ByteArray.mk (Array.mk []))),
 AV.sc (Value.int IntKind.i64 (0 : Int)), AV.sc (Value.bool false),
 AV.sl [x.fst] (0 : Nat), AV.sc (Value.int IntKind.i64 x.snd)]
 x_1.fst x_1.snd →
 Fine
 [AV.sc (Value.int IntKind.i64 (9 : Int)),
 AV.sc (Value.string (ByteArray.mk (Array.mk []))),
 AV.sc (Value.string (ByteArray.mk (Array.mk []))),
 AV.sc (Value.slice none (0 : Nat) (0 : Nat)), AV.sl [x_1.fst] (0 : Nat),
 AV.sc (Value.slice none (0 : Nat) (0 : Nat)), AV.sc (Value.bool false),
 AV.sc (Value.int IntKind.i64 x_1.snd)] ∧
 ∀ (_ : Unit),
 True →
 iteP (decide (IntKind.i64.wrap (IntKind.i64.wrap (b + (1 : Int)) + n) ≤ (32 : Int)))
 (True ∧ ∀ (_ : Unit), True → K (AV.sc (Value.bool true)))
 (iteP (decide ((32 : Int) < IntKind.i64.wrap (b + (1 : Int))))
 (K (AV.sc (Value.bool false))) (K (AV.sc (Value.bool false))))))))) :
 (fun (n b : Int) (K : AV → Prop) => wpCall TI cfgI Tryz.prog 60 3 [iA n, iA b] heap0 fun r _ => K r) n b K :=
 Eq.mp (by kernel_rfl) h
end
end Go.Proofs.Sc
namespace Go.Proofs.Sc
open Go Go.Ef
noncomputable section
set_option maxRecDepth 100000
theorem c5 (S : List AV) (K : AV → Heap → Prop) (h :
 Vis0
 [AV.agg
 [AV.fn (Fn.func (22 : Nat)) [] [AV.ptr ((1 : Nat) + (1 : Nat)) (0 : Nat)],
 AV.fn (Fn.func (24 : Nat)) [] [AV.ptr ((1 : Nat) + (1 : Nat)) (0 : Nat)]],
 AV.sc (Value.slice none (0 : Nat) (0 : Nat)),
 AV.agg
 [AV.sc (Value.int IntKind.i64 (1 : Int)), AV.sc (Value.int IntKind.i64 (3 : Int)),
 AV.sc (Value.int IntKind.i64 (-1 : Int)), AV.sc (Value.bool false)],
 AV.sc (Value.pointer none)]
 (Heap.mk (3 : Nat)
 ((Tr.leaf.node
 (some (AObj.cells [AV.sc (Value.int IntKind.i64 (0 : Int)), AV.sc (Value.int IntKind.i64 (0 : Int))]))
 Tr.leaf).node
 none
 (Tr.leaf.node (some (AObj.cells [AV.fn (Fn.func (21 : Nat)) [] [AV.ptr (OfNat.ofNat (1 : Nat)) (0 : Nat)]]))
 Tr.leaf))
 (1 : Nat)
 ((Tr.leaf.node (some ((52 : Nat), (2 : Nat))) Tr.leaf).node none
 (Tr.leaf.node (some ((74 : Nat), (1 : Nat))) Tr.leaf))) ∧
 ∀ (_ : Unit),
 True →
 Sta1 (200 : Nat)
 [AV.agg
 [AV.fn (Fn.func (22 : Nat)) [] [AV.ptr ((1 : Nat) + (1 : Nat)) (0 : Nat)],
 AV.fn (Fn.func (24 : Nat)) [] [AV.ptr ((1 : Nat) + (1 : Nat)) (0 : Nat)]],
 AV.sl [S] (0 : Nat),
 AV.agg
 [AV.sc (Value.int IntKind.i64 (1 : Int)), AV.sc (Value.int IntKind.i64 (3 : Int)),
 AV.sc (Value.int IntKind.i64 (-1 : Int)), AV.sc (Value.bool false)],
 AV.fn (Fn.func (48 : Nat)) [] []]
 (Heap.mk (3 : Nat)
 ((Tr.leaf.node
 (some (AObj.cells [AV.sc (Value.int IntKind.i64 (0 : Int)), AV.sc (Value.int IntKind.i64 (0 : Int))]))
 Tr.leaf).node
 none
 (Tr.leaf.node
 (some (AObj.cells [AV.fn (Fn.func (21 : Nat)) [] [AV.ptr (OfNat.ofNat (1 : Nat)) (0 : Nat)]])) Tr.leaf))
 (1 : Nat)
 ((Tr.leaf.node (some ((52 : Nat), (2 : Nat))) Tr.leaf).node none
 (Tr.leaf.node (some ((74 : Nat), (1 : Nat))) Tr.leaf))) ∧
 ∀ (_ : Unit),
 True →
 Vis0
 [AV.agg
 [AV.fn (Fn.func (34 : Nat)) []
 [AV.ptr ((4 : Nat) + (1 : Nat)) (0 : Nat), AV.ptr ((5 : Nat) + (1 : Nat)) (0 : Nat),
 AV.ptr ((2 : Nat) + (1 : Nat)) (0 : Nat), AV.ptr ((1 : Nat) + (1 : Nat)) (0 : Nat),
 AV.ptr ((3 : Nat) + (1 : Nat)) (0 : Nat)],
 AV.fn (Fn.func (37 : Nat)) []
 [AV.ptr ((4 : Nat) + (1 : Nat)) (0 : Nat), AV.ptr ((5 : Nat) + (1 : Nat)) (0 : Nat),
 AV.ptr ((3 : Nat) + (1 : Nat)) (0 : Nat)]],
 AV.sc (Value.slice none (0 : Nat) (0 : Nat)),
 AV.agg
 [AV.sc (Value.int IntKind.i64 (1 : Int)), AV.sc (Value.int IntKind.i64 (3 : Int)),
 AV.sc (Value.int IntKind.i64 (-1 : Int)), AV.sc (Value.bool false)],
 AV.sc (Value.pointer none)]
 (Heap.mk (7 : Nat)
 (((Tr.leaf.node (some (AObj.cells [AV.mp (OfNat.ofNat (1 : Nat))])) Tr.leaf).node (some (AObj.map []))
 (Tr.leaf.node
 (some (AObj.cells [AV.fn (Fn.func (32 : Nat)) [] [AV.ptr ((3 : Nat) + (1 : Nat)) (0 : Nat)]]))
 Tr.leaf)).node
 none
 ((Tr.leaf.node
 (some
 (AObj.cells
 [AV.sc (Value.int IntKind.i64 (0 : Int)), AV.sc (Value.int IntKind.i64 (0 : Int))]))
 Tr.leaf).node
 (some
 (AObj.cells
 [AV.sl
 [[AV.sc (Value.int IntKind.i64 (3 : Int)), AV.sc (Value.slice none (0 : Nat) (0 : Nat)),
 AV.sl [S] (0 : Nat), AV.sc (Value.bool false)]]
 (0 : Nat),
 AV.sc (Value.slice none (0 : Nat) (0 : Nat))]))
 (Tr.leaf.node
 (some
 (AObj.cells
 [AV.fn (Fn.func (33 : Nat)) []
 [AV.ptr ((2 : Nat) + (1 : Nat)) (0 : Nat), AV.ptr ((1 : Nat) + (1 : Nat)) (0 : Nat)]]))
 Tr.leaf)))
 (1 : Nat)
 (((Tr.leaf.node (some ((67 : Nat), [AV.mp (OfNat.ofNat (1 : Nat))].length)) Tr.leaf).node none
 (Tr.leaf.node (some ((89 : Nat), (1 : Nat))) Tr.leaf)).node
 none
 ((Tr.leaf.node (some ((52 : Nat), (2 : Nat))) Tr.leaf).node
 (some
 ((35 : Nat),
 [AV.sl
 [[AV.sc (Value.int IntKind.i64 (3 : Int)), AV.sc (Value.slice none (0 : Nat) (0 : Nat)),
 AV.sl [S] (0 : Nat), AV.sc (Value.bool false)]]
 (0 : Nat),
 AV.sc (Value.slice none (0 : Nat) (0 : Nat))].length))
 (Tr.leaf.node (some ((90 : Nat), (1 : Nat))) Tr.leaf)))) ∧
 ∀ (_ : Unit),
 True →
 Sta1 (200 : Nat)
 [AV.agg
 [AV.fn (Fn.func (34 : Nat)) []
 [AV.ptr ((4 : Nat) + (1 : Nat)) (0 : Nat), AV.ptr ((5 : Nat) + (1 : Nat)) (0 : Nat),
 AV.ptr ((2 : Nat) + (1 : Nat)) (0 : Nat), AV.ptr ((1 : Nat) + (1 : Nat)) (0 : Nat),
 AV.ptr ((3 : Nat) + (1 : Nat)) (0 : Nat)],
 AV.fn (Fn.func (37 : Nat)) []
 [AV.ptr ((4 : Nat) + (1 : Nat)) (0 : Nat), AV.ptr ((5 : Nat) + (1 : Nat)) (0 : Nat),
 AV.ptr ((3 : Nat) + (1 : Nat)) (0 : Nat)]],
 AV.sl [S] (0 : Nat),
 AV.agg
 [AV.sc (Value.int IntKind.i64 (1 : Int)), AV.sc (Value.int IntKind.i64 (3 : Int)),
 AV.sc (Value.int IntKind.i64 (-1 : Int)), AV.sc (Value.bool false)],
 AV.fn (Fn.func (48 : Nat)) [] []]
 (Heap.mk (7 : Nat)
 (((Tr.leaf.node (some (AObj.cells [AV.mp (OfNat.ofNat (1 : Nat))])) Tr.leaf).node
 (some (AObj.map []))
 (Tr.leaf.node
 (some
 (AObj.cells
 [AV.fn (Fn.func (32 : Nat)) [] [AV.ptr ((3 : Nat) + (1 : Nat)) (0 : Nat)]]))
 Tr.leaf)).node
 none
 ((Tr.leaf.node
 (some
 (AObj.cells
 [AV.sc (Value.int IntKind.i64 (0 : Int)), AV.sc (Value.int IntKind.i64 (0 : Int))]))
 Tr.leaf).node
 (some
 (AObj.cells
 [AV.sl
 [[AV.sc (Value.int IntKind.i64 (3 : Int)),
 AV.sc (Value.slice none (0 : Nat) (0 : Nat)), AV.sl [S] (0 : Nat),
 AV.sc (Value.bool false)]]
 (0 : Nat),
 AV.sc (Value.slice none (0 : Nat) (0 : Nat))]))
 (Tr.leaf.node
 (some
 (AObj.cells
 [AV.fn (Fn.func (33 : Nat)) []
 [AV.ptr ((2 : Nat) + (1 : Nat)) (0 : Nat),
 AV.ptr ((1 : Nat) + (1 : Nat)) (0 : Nat)]]))
 Tr.leaf)))
 (1 : Nat)
 (((Tr.leaf.node (some ((67 : Nat), [AV.mp (OfNat.ofNat (1 : Nat))].length)) Tr.leaf).node none
 (Tr.leaf.node (some ((89 : Nat), (1 : Nat))) Tr.leaf)).node
 none
 ((Tr.leaf.node (some ((52 : Nat), (2 : Nat))) Tr.leaf).node
 (some
 ((35 : Nat),
 [AV.sl
 [[AV.sc (Value.int IntKind.i64 (3 : Int)),
 AV.sc (Value.slice none (0 : Nat) (0 : Nat)), AV.sl [S] (0 : Nat),
 AV.sc (Value.bool false)]]
 (0 : Nat),
 AV.sc (Value.slice none (0 : Nat) (0 : Nat))].length))
 (Tr.leaf.node (some ((90 : Nat), (1 : Nat))) Tr.leaf)))) ∧
 ∀ (_ : Unit),
 True →
 Vis0
 [AV.agg
 [AV.fn (Fn.func (39 : Nat)) []
 [AV.ptr ((6 : Nat) + (1 : Nat)) (0 : Nat),
 AV.ptr ((7 : Nat) + (1 : Nat)) (0 : Nat)],
 AV.fn (Fn.func (40 : Nat)) [] [AV.ptr ((7 : Nat) + (1 : Nat)) (0 : Nat)]],
 AV.sc (Value.slice none (0 : Nat) (0 : Nat)),
 AV.agg
 [AV.sc (Value.int IntKind.i64 (1 : Int)), AV.sc (Value.int IntKind.i64 (3 : Int)),
 AV.sc (Value.int IntKind.i64 (-1 : Int)), AV.sc (Value.bool false)],
 AV.sc (Value.pointer none)]
 (Heap.mk (9 : Nat)
 ((((Tr.leaf.node (some (AObj.cells [AV.mp (OfNat.ofNat (1 : Nat))])) Tr.leaf).node
 (some (AObj.cells [AV.mp (OfNat.ofNat (1 : Nat))])) Tr.leaf).node
 (some (AObj.map []))
 (Tr.leaf.node
 (some
 (AObj.cells
 [AV.fn (Fn.func (32 : Nat)) [] [AV.ptr ((3 : Nat) + (1 : Nat)) (0 : Nat)]]))
 Tr.leaf)).node
 none
 (((Tr.leaf.node (some (AObj.cells [AV.sc (Value.slice none (0 : Nat) (0 : Nat))]))
 Tr.leaf).node
 (some
 (AObj.cells
 [AV.sc (Value.int IntKind.i64 (0 : Int)),
 AV.sc (Value.int IntKind.i64 (0 : Int))]))
 Tr.leaf).node
 (some
 (AObj.cells
 [AV.sl
 [[AV.sc (Value.int IntKind.i64 (3 : Int)),
 AV.sc (Value.slice none (0 : Nat) (0 : Nat)), AV.sl [S] (0 : Nat),
 AV.sc (Value.bool false)]]
 (0 : Nat),
 AV.sc (Value.slice none (0 : Nat) (0 : Nat))]))
 (Tr.leaf.node
 (some
 (AObj.cells
 [AV.fn (Fn.func (33 : Nat)) []
 [AV.ptr ((2 : Nat) + (1 : Nat)) (0 : Nat),
 AV.ptr ((1 : Nat) + (1 : Nat)) (0 : Nat)]]))
 Tr.leaf)))
 (1 : Nat)
 ((((Tr.leaf.node (some ((67 : Nat), [AV.mp (OfNat.ofNat (1 : Nat))].length)) Tr.leaf).node
 (some ((67 : Nat), [AV.mp (OfNat.ofNat (1 : Nat))].length)) Tr.leaf).node
 none (Tr.leaf.node (some ((89 : Nat), (1 : Nat))) Tr.leaf)).node
 none
 (((Tr.leaf.node (some ((53 : Nat), (1 : Nat))) Tr.leaf).node
 (some ((52 : Nat), (2 : Nat))) Tr.leaf).node
 (some
 ((35 : Nat),
 [AV.sl
 [[AV.sc (Value.int IntKind.i64 (3 : Int)),
 AV.sc (Value.slice none (0 : Nat) (0 : Nat)), AV.sl [S] (0 : Nat),
 AV.sc (Value.bool false)]]
 (0 : Nat),
 AV.sc (Value.slice none (0 : Nat) (0 : Nat))].length))
 (Tr.leaf.node (some ((90 : Nat), (1 : Nat))) Tr.leaf)))) ∧
 ∀ (_ : Unit),
 True →
 Sta1 (200 : Nat)
 [AV.agg
 [AV.fn (Fn.func (39 : Nat)) []
 [AV.ptr ((6 : Nat) + (1 : Nat)) (0 : Nat),
 AV.ptr ((7 : Nat) + (1 : Nat)) (0 : Nat)],
 AV.fn (Fn.func (40 : Nat)) [] [AV.ptr ((7 : Nat) + (1 : Nat)) (0 : Nat)]],
 AV.sl [S] (0 : Nat),
 AV.agg
 [AV.sc (Value.int IntKind.i64 (1 : Int)), AV.sc (Value.int IntKind.i64 (3 : Int)),
 AV.sc (Value.int IntKind.i64 (-1 : Int)), AV.sc (Value.bool false)],
 AV.fn (Fn.func (48 : Nat)) [] []]
 (Heap.mk (9 : Nat)
 ((((Tr.leaf.node (some (AObj.cells [AV.mp (OfNat.ofNat (1 : Nat))])) Tr.leaf).node
 (some (AObj.cells [AV.mp (OfNat.ofNat (1 : Nat))])) Tr.leaf).node
 (some (AObj.map []))
 (Tr.leaf.node
 (some
 (AObj.cells
 [AV.fn (Fn.func (32 : Nat)) []
 [AV.ptr ((3 : Nat) + (1 : Nat)) (0 : Nat)]]))
 Tr.leaf)).node
 none
 (((Tr.leaf.node (some (AObj.cells [AV.sc (Value.slice none (0 : Nat) (0 : Nat))]))
 Tr.leaf).node
 (some
 (AObj.cells
 [AV.sc (Value.int IntKind.i64 (0 : Int)),
 AV.sc (Value.int IntKind.i64 (0 : Int))]))
 Tr.leaf).node
 (some
 (AObj.cells
 [AV.sl
 [[AV.sc (Value.int IntKind.i64 (3 : Int)),
 AV.sc (Value.slice none (0 : Nat) (0 : Nat)), AV.sl [S] (0 : Nat),
 AV.sc (Value.bool false)]]
 (0 : Nat),
 AV.sc (Value.slice none (0 : Nat) (0 : Nat))]))
 (Tr.leaf.node
 (some
 (AObj.cells
 [AV.fn (Fn.func (33 : Nat)) []
 [AV.ptr ((2 : Nat) + (1 : Nat)) (0 : Nat),
 AV.ptr ((1 : Nat) + (1 : Nat)) (0 : Nat)]]))
 Tr.leaf)))
 (1 : Nat)
 ((((Tr.leaf.node (some ((67 : Nat), [AV.mp (OfNat.ofNat (1 : Nat))].length))
 Tr.leaf).node
 (some ((67 : Nat), [AV.mp (OfNat.ofNat (1 : Nat))].length)) Tr.leaf).node
 none (Tr.leaf.node (some ((89 : Nat), (1 : Nat))) Tr.leaf)).node
 none
 (((Tr.leaf.node (some ((53 : Nat), (1 : Nat))) Tr.leaf).node
 (some ((52 : Nat), (2 : Nat))) Tr.leaf).node
 (some
 ((35 : Nat),
 [AV.sl
 [[AV.sc (Value.int IntKind.i64 (3 : Int)),
 AV.sc (Value.slice none (0 : Nat) (0 : Nat)), AV.sl [S] (0 : Nat),
 AV.sc (Value.bool false)]]
 (0 : Nat),
 AV.sc (Value.slice none (0 : Nat) (0 : Nat))].length))
 (Tr.leaf.node (some ((90 : Nat), (1 : Nat))) Tr.leaf)))) ∧
 ∀ (_ : Unit),
 True →
 K
 (AV.tup
 [AV.sc (Value.int IntKind.i64 (0 : Int)),
 AV.sc (Value.int IntKind.i64 (0 : Int))])
 (Heap.mk (11 : Nat)
 ((((Tr.leaf.node (some (AObj.cells [AV.mp (OfNat.ofNat (1 : Nat))]))
 Tr.leaf).node
 (some (AObj.cells [AV.mp (OfNat.ofNat (1 : Nat))])) Tr.leaf).node
 (some (AObj.map []))
 ((Tr.leaf.node (some (AObj.map [])) Tr.leaf).node
 (some
 (AObj.cells
 [AV.fn (Fn.func (32 : Nat)) []
 [AV.ptr ((3 : Nat) + (1 : Nat)) (0 : Nat)]]))
 Tr.leaf)).node
 none
 (((Tr.leaf.node
 (some (AObj.cells [AV.sc (Value.slice none (0 : Nat) (0 : Nat))]))
 Tr.leaf).node
 (some
 (AObj.cells
 [AV.sc (Value.int IntKind.i64 (0 : Int)),
 AV.sc (Value.int IntKind.i64 (0 : Int))]))
 Tr.leaf).node
 (some
 (AObj.cells
 [AV.sl
 [[AV.sc (Value.int IntKind.i64 (3 : Int)),
 AV.sc (Value.slice none (0 : Nat) (0 : Nat)),
 AV.sl [S] (0 : Nat), AV.sc (Value.bool false)]]
 (0 : Nat),
 AV.sc (Value.slice none (0 : Nat) (0 : Nat))]))
 ((Tr.leaf.node
 (some
 (AObj.cells
 [AV.sl
 [[AV.sc (Value.int IntKind.i64 (3 : Int)),
 AV.sc (Value.slice none (0 : Nat) (0 : Nat)),
 AV.sl [S] (0 : Nat), AV.sc (Value.bool false)]]
 (0 : Nat),
 AV.sc (Value.slice none (0 : Nat) (0 : Nat)),
 AV.sc (Value.slice none (0 : Nat) (0 : Nat)),
 AV.mp ((8 : Nat) + (1 : Nat))]))
 Tr.leaf).node
 (some
 (AObj.cells
 [AV.fn (Fn.func (33 : Nat)) []
 [AV.ptr ((2 : Nat) + (1 : Nat)) (0 : Nat),
 AV.ptr ((1 : Nat) + (1 : Nat)) (0 : Nat)]]))
 Tr.leaf)))
 (1 : Nat)
 ((((Tr.leaf.node (some ((67 : Nat), [AV.mp (OfNat.ofNat (1 : Nat))].length))
 Tr.leaf).node
 (some ((67 : Nat), [AV.mp (OfNat.ofNat (1 : Nat))].length))
 Tr.leaf).node
 none (Tr.leaf.node (some ((89 : Nat), (1 : Nat))) Tr.leaf)).node
 none
 (((Tr.leaf.node (some ((53 : Nat), (1 : Nat))) Tr.leaf).node
 (some ((52 : Nat), (2 : Nat))) Tr.leaf).node
 (some
 ((35 : Nat),
 [AV.sl
 [[AV.sc (Value.int IntKind.i64 (3 : Int)),
 AV.sc (Value.slice none (0 : Nat) (0 : Nat)),
 AV.sl [S] (0 : Nat), AV.sc (Value.bool false)]]
 (0 : Nat),
 AV.sc (Value.slice none (0 : Nat) (0 : Nat))].length))
 ((Tr.leaf.node
 (some
 ((65 : Nat),
 [AV.sl
 [[AV.sc (Value.int IntKind.i64 (3 : Int)),
 AV.sc (Value.slice none (0 : Nat) (0 : Nat)),
 AV.sl [S] (0 : Nat), AV.sc (Value.bool false)]]
 (0 : Nat),
 AV.sc (Value.slice none (0 : Nat) (0 : Nat)),
 AV.sc (Value.slice none (0 : Nat) (0 : Nat)),
 AV.mp ((8 : Nat) + (1 : Nat))].length))
 Tr.leaf).node
 (some ((90 : Nat), (1 : Nat))) Tr.leaf))))) :
 (fun (S : List AV) (K : AV → Heap → Prop) => wpCall (T47 200) cfgI Tryz.prog 80 5 [progA S] heapF K) S K :=
 Eq.mp (by kernel_rfl) h
end
end Go.Proofs.Sc
