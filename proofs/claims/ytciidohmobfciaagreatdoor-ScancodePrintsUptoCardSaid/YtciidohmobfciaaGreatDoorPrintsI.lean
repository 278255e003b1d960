/- A part of the proof: definitions and lemmas. -/
import Derived.Test.YtciidohmobfciaaGreatDoorPrintsA
import Derived.Test.YtciidohmobfciaaGreatDoorPrintsB
import Derived.Test.YtciidohmobfciaaGreatDoorPrintsC
import Derived.Test.YtciidohmobfciaaGreatDoorPrintsD
import Derived.Test.YtciidohmobfciaaGreatDoorPrintsE
import Derived.Test.YtciidohmobfciaaGreatDoorPrintsF
import Derived.Test.YtciidohmobfciaaGreatDoorPrintsG
import Derived.Test.YtciidohmobfciaaGreatDoorPrintsH
import Derived.DataReads
import GoSem.ClaimChange
import Derived.Test.YtciidohmobfciaaGreatDoorRows
import Derived.Handy
import Derived.Lay
namespace Go.Proofs.Sp
open Go Go.Ef Go.Proofs.Pt
noncomputable section
structure FunD where
 name : List UInt8
 entry : Int
 params : List (List UInt8)
 arrays : List Bool
structure InsD where
 op : Int
 x : Int
 y : Int
 n : Int
 t : List UInt8
 a : Int
def rowO (l : List Bool) : Cells := l.map fun b => [bA b]
def cellF (f : FunD) : List AV := [aStr f.name, iA f.entry, .sl (rowS f.params) 0, .sl (rowO f.arrays) 0]
def cellI (i : InsD) : List AV := [iA i.op, iA i.x, iA i.y, iA i.n, aStr i.t, iA i.a]
def rowF (l : List FunD) : Cells := l.map cellF
def rowI (l : List InsD) : Cells := l.map cellI
def hG (nx : Nat) (a1 b1 : Tr AObj) (v : Option AObj) (c1 d1 : Tr AObj) (ta tb : Tr (Nat × Nat)) (tv : Option (Nat × Nat)) (tc : Tr (Nat × Nat)) (b : Cells) (n : Nat) : Heap :=
 { next := nx + 3, objs := .node (.node a1 (some (.cells [.ptr 1 0, .sl b 3])) b1) v (.node c1 (some (.own 1 5 n)) d1), ro := 1, ty := .node (.node ta (some (63, 2)) tb) tv tc }
structure Bl2 (h : Heap) (acc : List UInt8) : Prop where
 one : h.get 1 = some (.cells [.ptr 1 0, .sl (rowB acc) 3])
 two : h.get 2 = some (.own 1 5 acc.length)
 ro : h.ro = 1
 ty : h.ty.get 1 = some (63, 2)
structure Bld (h : Heap) (acc : List UInt8) : Prop where
 is : (h = hb0 ∧ acc = []) ∨ Bl2 h acc
structure HasB (h : Heap) (s : List UInt8) : Prop where
 is : ∃ acc, Bld h acc ∧ acc.length ≤ 1000000000000
 t : Text s
structure Wrote (h : Heap) (s : List UInt8) (h' : Heap) : Prop where
 is : ∀ acc, Bld h acc → Bl2 h' (acc ++ s)
def C18g (args : List AV) (h : Heap) : Option CSpec :=
 match args with
 | [.ptr 1 0, .sc (.string s)] => some { pre := HasB h s.data.toList, alts := [{ α := Heap, post := fun h' => Wrote h s.data.toList h', val := fun _ => .tup [iA s.data.toList.length, .sc .nilIface], heap := fun h' => h' }] }
 | _ => none
structure Joins (els : Cells) (sep : List UInt8) : Prop where
 sep : sep = [32]
 is : ∃ l, els = rowS l ∧ l.length ≤ 1000000000000 ∧ (Lib.join l [32]).length ≤ 1000000000000
structure IsJoin (els : Cells) (z : List UInt8) : Prop where
 is : ∀ l, els = rowS l → z = Lib.join l [32]
def C19 (args : List AV) (h : Heap) : Option CSpec :=
 match args with
 | [.sl els _, .sc (.string sep)] => some { pre := Joins els sep.data.toList, alts := [{ α := List UInt8, post := fun z => IsJoin els z, val := aStr, heap := fun _ => h }] }
 | _ => none
structure LineOk (h : Heap) (els : Cells) : Prop where
 is : ∃ l acc, els = rowS l ∧ Bld h acc ∧ l.length ≤ 1000000000000 ∧ acc.length + (Lib.join l [32]).length ≤ 1000000000000
structure Lined (h : Heap) (els : Cells) (h' : Heap) : Prop where
 is : ∀ acc l, Bld h acc → els = rowS l → Bl2 h' (acc ++ (Lib.join l [32] ++ [10]))
def C17 (args : List AV) (h : Heap) : Option CSpec :=
 match args with
 | [.sl els _, .ptr 1 0] => some { pre := LineOk h els, alts := [{ α := Heap, post := fun h' => Lined h els h', val := fun _ => .sc (.tuple #[]), heap := fun h' => h' }] }
 | _ => none
def T17 : Tab := ((tab0.addC 18 C18g).addC 19 C19).idle 17
structure Held (h : Heap) : Prop where
 is : ∃ acc, Bl2 h acc ∧ acc ≠ [] ∧ acc.length ≤ 1000000000000
structure Holds1 (h : Heap) (z : List UInt8) : Prop where
 is : ∀ acc, Bl2 h acc → z = acc
def C23g (args : List AV) (h : Heap) : Option CSpec :=
 match args with
 | [.ptr 1 0] => some { pre := Held h, alts := [{ α := List UInt8 × Heap, post := fun q => Holds1 h q.1, val := fun q => aStr q.1, heap := fun q => q.2 }] }
 | _ => none
def lineA : AV := .fn (.func 17) [] [.ptr 1 0]
def codeC (si sf : Cells) (b e n r : Int) : List AV := [.sl si 0, .sl sf 0, iA b, iA e, iA n, iA r]
def codeA (si sf : Cells) (b e n r : Int) : AV := .agg (codeC si sf b e n r)
def I8 (si sf : Cells) (b e n r i : Int) (h : Heap) : St := stOf 102 [(1, .lp 0 0), (3, .v (.ptr 1 0)), (4, .v lineA), (39, .v (.sl sf 0)), (40, sInt sf.length), (41, sInt i)] [.cells (codeC si sf b e n r)] h
def X8 (si sf : Cells) (b e n r : Int) (h : Heap) : St := stOf 102 [(1, .lp 0 0), (3, .v (.ptr 1 0)), (4, .v lineA)] [.cells (codeC si sf b e n r)] h
def funC (nm : List UInt8) (en : Int) (ps bs : Cells) : List AV := [aStr nm, iA en, .sl ps 0, .sl bs 0]
def I13 (si sf : Cells) (b e n r i : Int) (nm : List UInt8) (en : Int) (ps bs : Cells) (w : Cells) (k : Nat) (j : Int) (h : Heap) : St :=
 stOf 102 [(1, .lp 0 0), (3, .v (.ptr 1 0)), (4, .v lineA), (6, .lp 1 0), (7, .v (.sl w (k + 1))), (39, .v (.sl sf 0)), (40, sInt sf.length), (41, sInt i), (53, .v (.sl ps 0)), (54, sInt ps.length), (55, sInt j)] [.cells (codeC si sf b e n r), .cells (funC nm en ps bs)] h
def X13 (si sf : Cells) (b e n r i : Int) (nm : List UInt8) (en : Int) (ps bs : Cells) (w : Cells) (k : Nat) (h : Heap) : St :=
 stOf 102 [(1, .lp 0 0), (3, .v (.ptr 1 0)), (4, .v lineA), (7, .v (.sl w (k + 1))), (39, .v (.sl sf 0)), (40, sInt sf.length), (41, sInt i)] [.cells (codeC si sf b e n r), .cells (funC nm en ps bs)] h
def lcE (σ : St) (k j : Nat) : Cells :=
 match getI k σ.loc with
 | some (.cells cs) => match getI j cs with
  | some (.sl e _) => e
  | _ => []
 | _ => []
def slK (σ : St) (t : Nat) : Nat :=
 match σ.at t with
 | .v (.sl _ (k + 1)) => k
 | _ => 0
def q13 (si sf : Cells) (b e n r i : Int) (nm : List UInt8) (en : Int) (ps bs : Cells) (w : Cells) (k : Nat) (h : Heap) (X : Prop) (ex : Ex) (τ : St) : Prop :=
 match ex with
 | .exit _ => ex = .exit 2 ∧ τ = X13 si sf b e n r i nm en ps bs w k h ∧ X
 | _ => False
def q8 (si sf : Cells) (b e n r : Int) (h : Heap) (X : Prop) (ex : Ex) (τ : St) : Prop :=
 match ex with
 | .exit _ => ex = .exit 0 ∧ τ = X8 si sf b e n r h ∧ X
 | _ => False
def parW (ps : List (List UInt8)) (bs : List Bool) (j : Nat) : List UInt8 := quoT ((ps[j]?).getD []) ++ (if (bs[j]?).getD false then [91, 93] else [])
def wordsT (ps : List (List UInt8)) (bs : List Bool) (k : Nat) : List (List UInt8) := (List.range k).map (parW ps bs)
structure P13 (h : Heap) (w : Cells) (k : Nat) (ps bs : Cells) (j : Int) : Prop where
 jz : j = 0
 kz : 3 ≤ k
 own : isOwn h k 1 9 w.length = true
 wz : ∃ l, w = rowS l ∧ l.length ≤ 10
 pz : ∃ l, ps = rowS l ∧ (∀ p ∈ l, Small p) ∧ l.length ≤ 1048576
 bz : ∃ m, bs = rowO m ∧ m.length ≤ 1048576
structure R13 (h : Heap) (w ps bs : Cells) (q : Cells × Heap) : Prop where
 is : ∀ l0 l m, w = rowS l0 → ps = rowS l → bs = rowO m → q.1 = rowS (l0 ++ wordsT l m l.length)
 hz : ∀ acc, Bl2 h acc → Bl2 q.2 acc
def L13 (σ : St) : Option LSpec := some { pre := σ.tidy [1, 3, 4, 6, 7, 39, 40, 41, 53, 54, 55] 2 = I13 (lcE σ 0 0) (lcE σ 0 1) (lcI σ 0 2) (lcI σ 0 3) (lcI σ 0 4) (lcI σ 0 5) (slI σ 41) (lcS σ 1 0) (lcI σ 1 1) (lcE σ 1 2) (lcE σ 1 3) (slEls σ 7) (slK σ 7) (slI σ 55) σ.h ∧ P13 σ.h (slEls σ 7) (slK σ 7) (lcE σ 1 2) (lcE σ 1 3) (slI σ 55), alts := [{ α := Cells × Heap, post := fun q => R13 σ.h (slEls σ 7) (lcE σ 1 2) (lcE σ 1 3) q, ex := .exit 2, st := fun q => X13 (lcE σ 0 0) (lcE σ 0 1) (lcI σ 0 2) (lcI σ 0 3) (lcI σ 0 4) (lcI σ 0 5) (slI σ 41) (lcS σ 1 0) (lcI σ 1 1) (lcE σ 1 2) (lcE σ 1 3) q.1 (slK σ 7) q.2 }] }
def sym8 (T : Tab) : Tab := { T with symN := fun f => Nat.beq f 8 }
def T13 : Tab := sym8 ((tab0.addC 21 C21).idle 8)
def T8f : Tab := sym8 ((((((tab0.addC 21 C21).addC 20 C20).addC 17 C17).addL 8 13 L13)).idle 8)
def I23 (si : Cells) (i : Int) (h : Heap) : St := stOf 102 [(3, .v (.ptr 1 0)), (4, .v lineA), (86, .v (.sl si 0)), (87, sInt si.length), (88, sInt i)] [] h
def X23 (h : Heap) : St := stOf 102 [(3, .v (.ptr 1 0))] [] h
def q23 (h : Heap) (X : Prop) (ex : Ex) (τ : St) : Prop :=
 match ex with
 | .exit _ => ex = .exit 4 ∧ τ = X23 h ∧ X
 | _ => False
def T8i : Tab := (((tab0.addC 22 C22).addC 20 C20).addC 17 C17).idle 8
def funW (f : FunD) : List (List UInt8) := [102, 117, 110, 99, 116, 105, 111, 110] :: quoT f.name :: Lib.itoa f.entry :: wordsT f.params f.arrays f.params.length
def funT (f : FunD) : List UInt8 := Lib.join (funW f) [32] ++ [10]
def fw (f : FunD) : Nat := f.name.length + 1 + (f.params.map fun p => p.length + 1).sum
structure FunOk (f : FunD) : Prop where
 name : Small f.name
 entry : I64 f.entry
 ps : ∀ p ∈ f.params, Small p
 np : f.params.length ≤ 1048576
 na : f.arrays.length ≤ 1048576
def insT (l : List InsD) (k : Nat) : List UInt8 := match l[k]? with
 | some i => Lib.itoa k ++ 32 :: shownT i.op i.x i.y i.n i.t ++ [10]
 | none => []
def iw (i : InsD) : Nat := i.t.length + 1
structure Funs (l : List FunD) : Prop where
 ok : ∀ f ∈ l, FunOk f
 w : (l.map fw).sum ≤ 1048576
structure Inss (l : List InsD) : Prop where
 ok : ∀ i ∈ l, InstOk i.op i.x i.y i.n i.t
 w : (l.map iw).sum ≤ 1048576
structure PF (h : Heap) (sf : Cells) (i : Int) : Prop where
 iz : i = 0
 is : ∃ l acc, sf = rowF l ∧ Funs l ∧ Bl2 h acc ∧ acc.length ≤ 1000
structure FunsDone (h : Heap) (sf : Cells) (h' : Heap) : Prop where
 is : ∀ acc l, Bl2 h acc → sf = rowF l → Bl2 h' (acc ++ l.flatMap funT)
def L9 (σ : St) : Option LSpec := some { pre := σ.tidy [1, 3, 4, 39, 40, 41] 1 = I8 (lcE σ 0 0) (lcE σ 0 1) (lcI σ 0 2) (lcI σ 0 3) (lcI σ 0 4) (lcI σ 0 5) (slI σ 41) σ.h ∧ PF σ.h (lcE σ 0 1) (slI σ 41), alts := [{ α := Heap, post := fun h' => FunsDone σ.h (lcE σ 0 1) h', ex := .exit 0, st := fun h' => X8 (lcE σ 0 0) (lcE σ 0 1) (lcI σ 0 2) (lcI σ 0 3) (lcI σ 0 4) (lcI σ 0 5) h' }] }
structure PI (h : Heap) (si : Cells) (i : Int) : Prop where
 iz : i = 0
 is : ∃ l acc, si = rowI l ∧ Inss l ∧ Bl2 h acc ∧ acc.length ≤ 100000000
structure InsDone (h : Heap) (si : Cells) (h' : Heap) : Prop where
 is : ∀ acc l, Bl2 h acc → si = rowI l → Bl2 h' (acc ++ (List.range l.length).flatMap (insT l))
def L23 (σ : St) : Option LSpec := some { pre := σ.tidy [3, 4, 86, 87, 88] 0 = I23 (slEls σ 86) (slI σ 88) σ.h ∧ PI σ.h (slEls σ 86) (slI σ 88), alts := [{ α := Heap, post := fun h' => InsDone σ.h (slEls σ 86) h', ex := .exit 4, st := fun h' => X23 h' }] }
def T8 : Tab := ((((((tab0.addC 20 C20).addC 17 C17).addC 23 C23g).addL 8 9 L9).addL 8 23 L23)).idle 8
structure CodeOk (si sf : Cells) (b e n r : Int) : Prop where
 b : I64 b
 e : I64 e
 n : I64 n
 r : I64 r
 f : ∃ l, sf = rowF l ∧ Funs l
 i : ∃ l, si = rowI l ∧ Inss l
def headT (b e n r : Int) : List UInt8 := [98, 101, 103, 105, 110, 32] ++ Lib.itoa b ++ [10, 101, 97, 99, 104, 32] ++ Lib.itoa e ++ [10, 101, 110, 100, 32] ++ Lib.itoa n ++ [10, 114, 97, 110, 103, 101, 115, 32] ++ Lib.itoa r ++ [10]
structure Printed (si sf : Cells) (b e n r : Int) (z : List UInt8) : Prop where
 is : ∀ lf li, sf = rowF lf → si = rowI li → z = headT b e n r ++ lf.flatMap funT ++ (List.range li.length).flatMap (insT li)
def C8 (args : List AV) (h : Heap) : Option CSpec :=
 match args with
 | [.agg [.sl si 0, .sl sf 0, .sc (.int .i64 b), .sc (.int .i64 e), .sc (.int .i64 n), .sc (.int .i64 r)]] => some { pre := CodeOk si sf b e n r, alts := [{ α := List UInt8, post := fun z => Printed si sf b e n r z, val := aStr, heap := fun _ => h }] }
 | _ => none
end
end Go.Proofs.Sp
namespace Go.Proofs.Sp
open Go Go.Ef Go.Proofs.Pt
noncomputable section
set_option maxRecDepth 100000
theorem w18 (M : Int) (s : List UInt8) (nx : Nat) (a1 : Tr AObj) (b1 : Tr AObj) (v : Option AObj) (c1 : Tr AObj) (d1 : Tr AObj) (ta : Tr (Nat × Nat)) (tb : Tr (Nat × Nat)) (tv : Option (Nat × Nat)) (tc : Tr (Nat × Nat)) (b : Cells) (n : Nat) (K : AV → Heap → Prop) (h :
 iteP
 ((List.map (fun (b : UInt8) => [AV.sc (Value.int IntKind.u8 (↑b.toNat : Int))]) s).all fun (e : List AV) =>
 e.all AV.one)
 (iteP (List.map (fun (b : UInt8) => [AV.sc (Value.int IntKind.u8 (↑b.toNat : Int))]) s).isEmpty
 (K (AV.tup [AV.sc (Value.int IntKind.i64 (↑s.length : Int)), AV.sc Value.nilIface])
 (Heap.mk (nx + (3 : Nat))
 ((a1.node (some (AObj.cells [AV.ptr (1 : Nat) (0 : Nat), AV.sl b (3 : Nat)])) b1).node v
 (c1.node (some (AObj.own (1 : Nat) (5 : Nat) n)) d1))
 (1 : Nat) ((ta.node (some ((63 : Nat), (2 : Nat))) tb).node tv tc)))
 (iteP
 (allLen (1 : Nat) b &&
 fits (List.length b + (List.map (fun (b : UInt8) => [AV.sc (Value.int IntKind.u8 (↑b.toNat : Int))]) s).length)
 (1 : Nat))
 (iteP (decide (List.length b = n))
 (K (AV.tup [AV.sc (Value.int IntKind.i64 (↑s.length : Int)), AV.sc Value.nilIface])
 (Heap.mk (nx + (3 : Nat))
 ((a1.node
 (some
 (AObj.cells
 [AV.ptr (1 : Nat) (0 : Nat),
 AV.sl (b ++ List.map (fun (b : UInt8) => [AV.sc (Value.int IntKind.u8 (↑b.toNat : Int))]) s)
 (3 : Nat)]))
 b1).node
 v
 (c1.node
 (some
 (AObj.own (1 : Nat) (5 : Nat)
 (n + (List.map (fun (b : UInt8) => [AV.sc (Value.int IntKind.u8 (↑b.toNat : Int))]) s).length)))
 d1))
 (1 : Nat) ((ta.node (some ((63 : Nat), (2 : Nat))) tb).node tv tc)))
 False)
 False))
 False) :
 (fun (M : Int) (s : List UInt8) (nx : Nat) (a1 b1 : Tr AObj) (v : Option AObj) (c1 d1 : Tr AObj) (ta tb : Tr (Nat × Nat)) (tv : Option (Nat × Nat)) (tc : Tr (Nat × Nat)) (b : Cells) (n : Nat) (K : AV → Heap → Prop) => wpCall (tab0.idle 18) (cfg M) Tryz.prog 60 18 [.ptr 1 0, aStr s] (hG nx a1 b1 v c1 d1 ta tb tv tc b n) K) M s nx a1 b1 v c1 d1 ta tb tv tc b n K :=
 Eq.mp (by kernel_rfl) h
theorem v17 (M : Int) (els : Cells) (tok : Nat) (g : Heap) (K : AV → Heap → Prop) (h :
 Joins els [(32 : UInt8)] ∧
 ∀ (x : List UInt8),
 IsJoin els x →
 iteP (strFits x [(10 : UInt8)])
 (HasB g (x ++ [(10 : UInt8)]) ∧
 ∀ (x_1 : Heap), Wrote g (x ++ [(10 : UInt8)]) x_1 → K (AV.sc (Value.tuple (Array.mk []))) x_1)
 False) :
 (fun (M : Int) (els : Cells) (tok : Nat) (g : Heap) (K : AV → Heap → Prop) => wpCall T17 (cfg M) Tryz.prog 60 17 [.sl els tok, .ptr 1 0] g K) M els tok g K :=
 Eq.mp (by kernel_rfl) h
theorem r13 (M : Int) (si : Cells) (sf : Cells) (b : Int) (e : Int) (n : Int) (r : Int) (i : Int) (nm : List UInt8) (en : Int) (ps : Cells) (bs : Cells) (w : Cells) (k : Nat) (j : Int) (g : Heap) (N : Cells → Int → Heap → Prop) (X : Prop) (h :
 iteP (decide (j < (↑(List.length ps) : Int)))
 (iteP (inRange j (List.length ps))
 (getI j.toNat ps = some [AV.sc (Value.string (ByteArray.mk (Array.mk (cellStr ps j (0 : Nat)))))] ∧
 Small (cellStr ps j (0 : Nat)) ∧
 ∀ (x : List UInt8),
 x = quoT (cellStr ps j (0 : Nat)) →
 iteP (decide (j < (↑(List.length bs) : Int)))
 (iteP (inRange j (List.length bs))
 (getI j.toNat bs = some [AV.sc (Value.bool (cellBool bs j (0 : Nat)))] ∧
 iteP (cellBool bs j (0 : Nat))
 (iteP (strFits x [(91 : UInt8), (93 : UInt8)])
 (iteP
 (allLen (1 : Nat) w &&
 fits
 (List.length w +
 [[AV.sc
 (Value.string
 (ByteArray.mk (Array.mk (x ++ [(91 : UInt8), (93 : UInt8)]))))]].length)
 (16 : Nat))
 (iteP (isOwn g k (1 : Nat) (9 : Nat) (List.length w))
 (I13 si sf b e n r i nm en ps bs
 (w ++
 [[AV.sc
 (Value.string (ByteArray.mk (Array.mk (x ++ [(91 : UInt8), (93 : UInt8)]))))]])
 k (IntKind.i64.wrap (j + (1 : Int)))
 (growH g k (1 : Nat) (9 : Nat)
 (List.length w +
 [[AV.sc
 (Value.string
 (ByteArray.mk
 (Array.mk (x ++ [(91 : UInt8), (93 : UInt8)]))))]].length)) =
 I13 si sf b e n r i nm en ps bs
 (w ++
 [[AV.sc
 (Value.string (ByteArray.mk (Array.mk (x ++ [(91 : UInt8), (93 : UInt8)]))))]])
 k (IntKind.i64.wrap (j + (1 : Int)))
 (growH g k (1 : Nat) (9 : Nat)
 (List.length w +
 [[AV.sc
 (Value.string
 (ByteArray.mk
 (Array.mk (x ++ [(91 : UInt8), (93 : UInt8)]))))]].length)) ∧
 N
 (w ++
 [[AV.sc (Value.string (ByteArray.mk (Array.mk (x ++ [(91 : UInt8), (93 : UInt8)]))))]])
 (IntKind.i64.wrap (j + (1 : Int)))
 (growH g k (1 : Nat) (9 : Nat)
 (List.length w +
 [[AV.sc
 (Value.string
 (ByteArray.mk (Array.mk (x ++ [(91 : UInt8), (93 : UInt8)]))))]].length)))
 False)
 False)
 False)
 (iteP
 (allLen (1 : Nat) w &&
 fits (List.length w + [[AV.sc (Value.string (ByteArray.mk (Array.mk x)))]].length) (16 : Nat))
 (iteP (isOwn g k (1 : Nat) (9 : Nat) (List.length w))
 (I13 si sf b e n r i nm en ps bs (w ++ [[AV.sc (Value.string (ByteArray.mk (Array.mk x)))]]) k
 (IntKind.i64.wrap (j + (1 : Int)))
 (growH g k (1 : Nat) (9 : Nat)
 (List.length w + [[AV.sc (Value.string (ByteArray.mk (Array.mk x)))]].length)) =
 I13 si sf b e n r i nm en ps bs (w ++ [[AV.sc (Value.string (ByteArray.mk (Array.mk x)))]])
 k (IntKind.i64.wrap (j + (1 : Int)))
 (growH g k (1 : Nat) (9 : Nat)
 (List.length w + [[AV.sc (Value.string (ByteArray.mk (Array.mk x)))]].length)) ∧
 N (w ++ [[AV.sc (Value.string (ByteArray.mk (Array.mk x)))]])
 (IntKind.i64.wrap (j + (1 : Int)))
 (growH g k (1 : Nat) (9 : Nat)
 (List.length w + [[AV.sc (Value.string (ByteArray.mk (Array.mk x)))]].length)))
 False)
 False))
 False)
 (iteP
 (allLen (1 : Nat) w &&
 fits (List.length w + [[AV.sc (Value.string (ByteArray.mk (Array.mk x)))]].length) (16 : Nat))
 (iteP (isOwn g k (1 : Nat) (9 : Nat) (List.length w))
 (I13 si sf b e n r i nm en ps bs (w ++ [[AV.sc (Value.string (ByteArray.mk (Array.mk x)))]]) k
 (IntKind.i64.wrap (j + (1 : Int)))
 (growH g k (1 : Nat) (9 : Nat)
 (List.length w + [[AV.sc (Value.string (ByteArray.mk (Array.mk x)))]].length)) =
 I13 si sf b e n r i nm en ps bs (w ++ [[AV.sc (Value.string (ByteArray.mk (Array.mk x)))]]) k
 (IntKind.i64.wrap (j + (1 : Int)))
 (growH g k (1 : Nat) (9 : Nat)
 (List.length w + [[AV.sc (Value.string (ByteArray.mk (Array.mk x)))]].length)) ∧
 N (w ++ [[AV.sc (Value.string (ByteArray.mk (Array.mk x)))]]) (IntKind.i64.wrap (j + (1 : Int)))
 (growH g k (1 : Nat) (9 : Nat)
 (List.length w + [[AV.sc (Value.string (ByteArray.mk (Array.mk x)))]].length)))
 False)
 False))
 False)
 (Ex.exit (2 : Nat) = Ex.exit (2 : Nat) ∧
 X13 si sf b e n r i nm en ps bs w k g = X13 si sf b e n r i nm en ps bs w k g ∧ X)) :
 (fun (M : Int) (si sf : Cells) (b e n r i : Int) (nm : List UInt8) (en : Int) (ps bs : Cells) (w : Cells) (k : Nat) (j : Int) (g : Heap) (N : Cells → Int → Heap → Prop) (X : Prop) => wpRound T13 (cfg M) Tryz.prog 60 8 13 (I13 si sf b e n r i nm en ps bs w k j g) (fun τ => τ = I13 si sf b e n r i nm en ps bs (slEls τ 7) k (slI τ 55) τ.h ∧ N (slEls τ 7) (slI τ 55) τ.h) (q13 si sf b e n r i nm en ps bs w k g X)) M si sf b e n r i nm en ps bs w k j g N X :=
 Eq.mp (by kernel_rfl) h
theorem r8 (M : Int) (si : Cells) (sf : Cells) (b : Int) (e : Int) (n : Int) (r : Int) (i : Int) (g : Heap) (N : Int → Heap → Prop) (X : Prop) (h :
 iteP (decide (i < (↑(List.length sf) : Int)))
 (iteP (inRange i (List.length sf))
 (getI i.toNat sf =
 some
 [AV.sc (Value.string (ByteArray.mk (Array.mk (cellStr sf i (0 : Nat))))),
 AV.sc (Value.int IntKind.i64 (cellInt sf i (1 : Nat))), AV.sl (cellSl sf i (2 : Nat)) (0 : Nat),
 AV.sl (cellSl sf i (3 : Nat)) (0 : Nat)] ∧
 Small (cellStr sf i (0 : Nat)) ∧
 ∀ (x : List UInt8),
 x = quoT (cellStr sf i (0 : Nat)) →
 I64 (cellInt sf i (1 : Nat)) ∧
 ∀ (x_1 : List UInt8),
 x_1 = Lib.itoa (cellInt sf i (1 : Nat)) →
 loopAt Tryz.prog (8 : Nat) (13 : Nat) = loopAt Tryz.prog (8 : Nat) (13 : Nat) ∧
 (I13 si sf b e n r i (cellStr sf i (0 : Nat)) (cellInt sf i (1 : Nat)) (cellSl sf i (2 : Nat))
 (cellSl sf i (3 : Nat))
 [[AV.sc
 (Value.string
 (ByteArray.mk
 (Array.mk
 [(102 : UInt8), (117 : UInt8), (110 : UInt8), (99 : UInt8), (116 : UInt8),
 (105 : UInt8), (111 : UInt8), (110 : UInt8)])))],
 [AV.sc (Value.string (ByteArray.mk (Array.mk x)))],
 [AV.sc (Value.string (ByteArray.mk (Array.mk x_1)))]]
 g.next (0 : Int)
 (Heap.mk (g.next + (1 : Nat))
 (Tr.set g.next
 (AObj.own (1 : Nat) (9 : Nat)
 [[AV.sc
 (Value.string
 (ByteArray.mk
 (Array.mk
 [(102 : UInt8), (117 : UInt8), (110 : UInt8), (99 : UInt8),
 (116 : UInt8), (105 : UInt8), (111 : UInt8), (110 : UInt8)])))],
 [AV.sc (Value.string (ByteArray.mk (Array.mk x)))],
 [AV.sc (Value.string (ByteArray.mk (Array.mk x_1)))]].length)
 g.objs)
 g.ro g.ty) =
 I13 si sf b e n r i (cellStr sf i (0 : Nat)) (cellInt sf i (1 : Nat)) (cellSl sf i (2 : Nat))
 (cellSl sf i (3 : Nat))
 [[AV.sc
 (Value.string
 (ByteArray.mk
 (Array.mk
 [(102 : UInt8), (117 : UInt8), (110 : UInt8), (99 : UInt8), (116 : UInt8),
 (105 : UInt8), (111 : UInt8), (110 : UInt8)])))],
 [AV.sc (Value.string (ByteArray.mk (Array.mk x)))],
 [AV.sc (Value.string (ByteArray.mk (Array.mk x_1)))]]
 g.next (0 : Int)
 (Heap.mk (g.next + (1 : Nat))
 (Tr.set g.next
 (AObj.own (1 : Nat) (9 : Nat)
 [[AV.sc
 (Value.string
 (ByteArray.mk
 (Array.mk
 [(102 : UInt8), (117 : UInt8), (110 : UInt8), (99 : UInt8),
 (116 : UInt8), (105 : UInt8), (111 : UInt8), (110 : UInt8)])))],
 [AV.sc (Value.string (ByteArray.mk (Array.mk x)))],
 [AV.sc (Value.string (ByteArray.mk (Array.mk x_1)))]].length)
 g.objs)
 g.ro g.ty) ∧
 P13
 (Heap.mk (g.next + (1 : Nat))
 (Tr.set g.next
 (AObj.own (1 : Nat) (9 : Nat)
 [[AV.sc
 (Value.string
 (ByteArray.mk
 (Array.mk
 [(102 : UInt8), (117 : UInt8), (110 : UInt8), (99 : UInt8), (116 : UInt8),
 (105 : UInt8), (111 : UInt8), (110 : UInt8)])))],
 [AV.sc (Value.string (ByteArray.mk (Array.mk x)))],
 [AV.sc (Value.string (ByteArray.mk (Array.mk x_1)))]].length)
 g.objs)
 g.ro g.ty)
 [[AV.sc
 (Value.string
 (ByteArray.mk
 (Array.mk
 [(102 : UInt8), (117 : UInt8), (110 : UInt8), (99 : UInt8), (116 : UInt8),
 (105 : UInt8), (111 : UInt8), (110 : UInt8)])))],
 [AV.sc (Value.string (ByteArray.mk (Array.mk x)))],
 [AV.sc (Value.string (ByteArray.mk (Array.mk x_1)))]]
 g.next (cellSl sf i (2 : Nat)) (cellSl sf i (3 : Nat)) (0 : Int)) ∧
 ∀ (x_2 : Cells × Heap),
 R13
 (Heap.mk (g.next + (1 : Nat))
 (Tr.set g.next
 (AObj.own (1 : Nat) (9 : Nat)
 [[AV.sc
 (Value.string
 (ByteArray.mk
 (Array.mk
 [(102 : UInt8), (117 : UInt8), (110 : UInt8), (99 : UInt8),
 (116 : UInt8), (105 : UInt8), (111 : UInt8), (110 : UInt8)])))],
 [AV.sc (Value.string (ByteArray.mk (Array.mk x)))],
 [AV.sc (Value.string (ByteArray.mk (Array.mk x_1)))]].length)
 g.objs)
 g.ro g.ty)
 [[AV.sc
 (Value.string
 (ByteArray.mk
 (Array.mk
 [(102 : UInt8), (117 : UInt8), (110 : UInt8), (99 : UInt8), (116 : UInt8),
 (105 : UInt8), (111 : UInt8), (110 : UInt8)])))],
 [AV.sc (Value.string (ByteArray.mk (Array.mk x)))],
 [AV.sc (Value.string (ByteArray.mk (Array.mk x_1)))]]
 (cellSl sf i (2 : Nat)) (cellSl sf i (3 : Nat)) x_2 →
 LineOk x_2.snd x_2.fst ∧
 ∀ (x : Heap),
 Lined x_2.snd x_2.fst x →
 I8 si sf b e n r (IntKind.i64.wrap (i + (1 : Int))) x =
 I8 si sf b e n r (IntKind.i64.wrap (i + (1 : Int))) x ∧
 N (IntKind.i64.wrap (i + (1 : Int))) x)
 False)
 (Ex.exit (0 : Nat) = Ex.exit (0 : Nat) ∧ X8 si sf b e n r g = X8 si sf b e n r g ∧ X)) :
 (fun (M : Int) (si sf : Cells) (b e n r i : Int) (g : Heap) (N : Int → Heap → Prop) (X : Prop) => wpRound T8f (cfg M) Tryz.prog 80 8 9 (I8 si sf b e n r i g) (fun τ => τ = I8 si sf b e n r (slI τ 41) τ.h ∧ N (slI τ 41) τ.h) (q8 si sf b e n r g X)) M si sf b e n r i g N X :=
 Eq.mp (by kernel_rfl) h
theorem r23 (M : Int) (si : Cells) (i : Int) (g : Heap) (N : Int → Heap → Prop) (X : Prop) (h :
 iteP (decide (i < (↑(List.length si) : Int)))
 (iteP (inRange i (List.length si))
 (getI i.toNat si =
 some
 [AV.sc (Value.int IntKind.i64 (cellInt si i (0 : Nat))),
 AV.sc (Value.int IntKind.i64 (cellInt si i (1 : Nat))),
 AV.sc (Value.int IntKind.i64 (cellInt si i (2 : Nat))),
 AV.sc (Value.int IntKind.i64 (cellInt si i (3 : Nat))),
 AV.sc (Value.string (ByteArray.mk (Array.mk (cellStr si i (4 : Nat))))),
 AV.sc (Value.int IntKind.i64 (cellInt si i (5 : Nat)))] ∧
 I64 i ∧
 ∀ (x : List UInt8),
 x = Lib.itoa i →
 InstOk (cellInt si i (0 : Nat)) (cellInt si i (1 : Nat)) (cellInt si i (2 : Nat)) (cellInt si i (3 : Nat))
 (cellStr si i (4 : Nat)) ∧
 ∀ (x_1 : List UInt8),
 x_1 =
 shownT (cellInt si i (0 : Nat)) (cellInt si i (1 : Nat)) (cellInt si i (2 : Nat))
 (cellInt si i (3 : Nat)) (cellStr si i (4 : Nat)) →
 LineOk g
 [[AV.sc (Value.string (ByteArray.mk (Array.mk x)))],
 [AV.sc (Value.string (ByteArray.mk (Array.mk x_1)))]] ∧
 ∀ (x_2 : Heap),
 Lined g
 [[AV.sc (Value.string (ByteArray.mk (Array.mk x)))],
 [AV.sc (Value.string (ByteArray.mk (Array.mk x_1)))]]
 x_2 →
 I23 si (IntKind.i64.wrap (i + (1 : Int))) x_2 = I23 si (IntKind.i64.wrap (i + (1 : Int))) x_2 ∧
 N (IntKind.i64.wrap (i + (1 : Int))) x_2)
 False)
 (Ex.exit (4 : Nat) = Ex.exit (4 : Nat) ∧ X23 g = X23 g ∧ X)) :
 (fun (M : Int) (si : Cells) (i : Int) (g : Heap) (N : Int → Heap → Prop) (X : Prop) => wpRound T8i (cfg M) Tryz.prog 80 8 23 (I23 si i g) (fun τ => τ = I23 si (slI τ 88) τ.h ∧ N (slI τ 88) τ.h) (q23 g X)) M si i g N X :=
 Eq.mp (by kernel_rfl) h
theorem v8 (M : Int) (si : Cells) (sf : Cells) (b : Int) (e : Int) (n : Int) (r : Int) (K : AV → Prop) (h :
 I64 b ∧
 ∀ (x : List UInt8),
 x = Lib.itoa b →
 LineOk
 (Heap.mk (2 : Nat)
 ((Tr.leaf.node
 (some (AObj.cells [AV.sc (Value.pointer none), AV.sc (Value.slice none (0 : Nat) (0 : Nat))]))
 Tr.leaf).node
 none Tr.leaf)
 (1 : Nat) ((Tr.leaf.node (some ((63 : Nat), (2 : Nat))) Tr.leaf).node none Tr.leaf))
 [[AV.sc
 (Value.string
 (ByteArray.mk
 (Array.mk [(98 : UInt8), (101 : UInt8), (103 : UInt8), (105 : UInt8), (110 : UInt8)])))],
 [AV.sc (Value.string (ByteArray.mk (Array.mk x)))]] ∧
 ∀ (x_1 : Heap),
 Lined
 (Heap.mk (2 : Nat)
 ((Tr.leaf.node
 (some (AObj.cells [AV.sc (Value.pointer none), AV.sc (Value.slice none (0 : Nat) (0 : Nat))]))
 Tr.leaf).node
 none Tr.leaf)
 (1 : Nat) ((Tr.leaf.node (some ((63 : Nat), (2 : Nat))) Tr.leaf).node none Tr.leaf))
 [[AV.sc
 (Value.string
 (ByteArray.mk
 (Array.mk [(98 : UInt8), (101 : UInt8), (103 : UInt8), (105 : UInt8), (110 : UInt8)])))],
 [AV.sc (Value.string (ByteArray.mk (Array.mk x)))]]
 x_1 →
 I64 e ∧
 ∀ (x : List UInt8),
 x = Lib.itoa e →
 LineOk x_1
 [[AV.sc
 (Value.string
 (ByteArray.mk (Array.mk [(101 : UInt8), (97 : UInt8), (99 : UInt8), (104 : UInt8)])))],
 [AV.sc (Value.string (ByteArray.mk (Array.mk x)))]] ∧
 ∀ (x_2 : Heap),
 Lined x_1
 [[AV.sc
 (Value.string
 (ByteArray.mk
 (Array.mk [(101 : UInt8), (97 : UInt8), (99 : UInt8), (104 : UInt8)])))],
 [AV.sc (Value.string (ByteArray.mk (Array.mk x)))]]
 x_2 →
 I64 n ∧
 ∀ (x : List UInt8),
 x = Lib.itoa n →
 LineOk x_2
 [[AV.sc
 (Value.string
 (ByteArray.mk (Array.mk [(101 : UInt8), (110 : UInt8), (100 : UInt8)])))],
 [AV.sc (Value.string (ByteArray.mk (Array.mk x)))]] ∧
 ∀ (x_3 : Heap),
 Lined x_2
 [[AV.sc
 (Value.string
 (ByteArray.mk (Array.mk [(101 : UInt8), (110 : UInt8), (100 : UInt8)])))],
 [AV.sc (Value.string (ByteArray.mk (Array.mk x)))]]
 x_3 →
 I64 r ∧
 ∀ (x : List UInt8),
 x = Lib.itoa r →
 LineOk x_3
 [[AV.sc
 (Value.string
 (ByteArray.mk
 (Array.mk
 [(114 : UInt8), (97 : UInt8), (110 : UInt8), (103 : UInt8),
 (101 : UInt8), (115 : UInt8)])))],
 [AV.sc (Value.string (ByteArray.mk (Array.mk x)))]] ∧
 ∀ (x_4 : Heap),
 Lined x_3
 [[AV.sc
 (Value.string
 (ByteArray.mk
 (Array.mk
 [(114 : UInt8), (97 : UInt8), (110 : UInt8),
 (103 : UInt8), (101 : UInt8), (115 : UInt8)])))],
 [AV.sc (Value.string (ByteArray.mk (Array.mk x)))]]
 x_4 →
 loopAt Tryz.prog (8 : Nat) (9 : Nat) =
 loopAt Tryz.prog (8 : Nat) (9 : Nat) ∧
 (I8 si sf b e n r (0 : Int) x_4 = I8 si sf b e n r (0 : Int) x_4 ∧
 PF x_4 sf (0 : Int)) ∧
 ∀ (x : Heap),
 FunsDone x_4 sf x →
 loopAt Tryz.prog (8 : Nat) (23 : Nat) =
 loopAt Tryz.prog (8 : Nat) (23 : Nat) ∧
 (I23 si (0 : Int) x = I23 si (0 : Int) x ∧
 PI x si (0 : Int)) ∧
 ∀ (x_5 : Heap),
 InsDone x si x_5 →
 Held x_5 ∧
 ∀ (x : List UInt8 × Heap),
 Holds1 x_5 x.fst →
 K
 (AV.sc
 (Value.string
 (ByteArray.mk (Array.mk x.fst))))) :
 (fun (M : Int) (si sf : Cells) (b e n r : Int) (K : AV → Prop) => wpCall T8 (cfg M) Tryz.prog 80 8 [codeA si sf b e n r] heapF fun r h' => wpBack h' r K) M si sf b e n r K :=
 Eq.mp (by kernel_rfl) h
end
end Go.Proofs.Sp
namespace Go.Proofs.Sp
open Go Go.Ef Go.Proofs.Pt
noncomputable section
set_option maxRecDepth 100000
variable {M : Int}
theorem get_one (t : Tr AObj) (x : AObj) (h : t.get 1 = some x) : ∃ a1 b1 v r, t = .node (.node a1 (some x) b1) v r := by
 cases t with
 | leaf => cases h
 | node l v r =>
  replace h : l.get 0 = some x := h
  cases l with
  | leaf => cases h
  | node a1 w b1 =>
   replace h : w = some x := h
   exact ⟨a1, b1, v, r, by rw [h]⟩
theorem get_two (l : Tr AObj) (v : Option AObj) (r : Tr AObj) (x : AObj) (h : (Tr.node l v r).get 2 = some x) : ∃ c1 d1, r = .node c1 (some x) d1 := by
 replace h : r.get 0 = some x := h
 cases r with
 | leaf => cases h
 | node a1 w b1 =>
  replace h : w = some x := h
  exact ⟨a1, b1, by rw [h]⟩
theorem get_ty (t : Tr (Nat × Nat)) (x : Nat × Nat) (h : t.get 1 = some x) : ∃ a1 b1 v r, t = .node (.node a1 (some x) b1) v r := by
 cases t with
 | leaf => cases h
 | node l v r =>
  replace h : l.get 0 = some x := h
  cases l with
  | leaf => cases h
  | node a1 w b1 =>
   replace h : w = some x := h
   exact ⟨a1, b1, v, r, by rw [h]⟩
theorem Heap.get_lt {h : Heap} {id : Nat} {o : AObj} (e : h.get id = some o) : id < h.next ∧ h.objs.get id = some o := by
 unfold Heap.get at e
 obtain ⟨h1, h2⟩ := cond_some e
 exact ⟨Nat.le_of_ble_eq_true h1, h2⟩
theorem bl2_shape {h : Heap} {acc : List UInt8} (B : Bl2 h acc) : ∃ nx a1 b1 v c1 d1 ta tb tv tc, h = hG nx a1 b1 v c1 d1 ta tb tv tc (rowB acc) acc.length := by
 obtain ⟨h1, h2, h3, h4⟩ := B
 obtain ⟨n, objs, ro, ty⟩ := h
 obtain ⟨l1, g1⟩ := Heap.get_lt h1
 obtain ⟨l2, g2⟩ := Heap.get_lt h2
 replace l2 : 2 < n := l2
 replace g1 : objs.get 1 = _ := g1
 replace g2 : objs.get 2 = _ := g2
 replace h3 : ro = 1 := h3
 replace h4 : ty.get 1 = _ := h4
 obtain ⟨a1, b1, v, r, rfl⟩ := get_one _ _ g1
 obtain ⟨c1, d1, rfl⟩ := get_two _ _ _ _ g2
 obtain ⟨ta, tb, tv, tc, rfl⟩ := get_ty _ _ h4
 subst h3
 refine ⟨n - 3, a1, b1, v, c1, d1, ta, tb, tv, tc, ?_⟩
 unfold hG
 rw [show n - 3 + 3 = n by omega]
theorem bl2_hG (nx : Nat) (a1 b1 : Tr AObj) (v : Option AObj) (c1 d1 : Tr AObj) (ta tb : Tr (Nat × Nat)) (tv : Option (Nat × Nat)) (tc : Tr (Nat × Nat)) (acc : List UInt8) : Bl2 (hG nx a1 b1 v c1 d1 ta tb tv tc (rowB acc) acc.length) acc :=
 ⟨rfl, rfl, rfl, rfl⟩
theorem bl2_hbC (acc : List UInt8) : Bl2 (hbC (rowB acc) acc.length) acc := ⟨rfl, rfl, rfl, rfl⟩
theorem bl2_uniq {h : Heap} {a b : List UInt8} (A : Bl2 h a) (B : Bl2 h b) : a = b := by
 have := A.one.symm.trans B.one
 simp only [Option.some.injEq, AObj.cells.injEq, List.cons.injEq, AV.sl.injEq, true_and, and_true] at this
 exact rowB_inj this
theorem bl2_hb0 {a : List UInt8} (A : Bl2 hb0 a) : False := by
 have := A.two
 cases this
theorem bld_uniq {h : Heap} {a b : List UInt8} (A : Bld h a) (B : Bld h b) : a = b := by
 rcases A.is with ⟨rfl, rfl⟩ | A'
 ·rcases B.is with ⟨_, rfl⟩ | B'
  ·rfl
  ·exact (bl2_hb0 B').elim
 ·rcases B.is with ⟨rfl, rfl⟩ | B'
  ·exact (bl2_hb0 A').elim
  ·exact bl2_uniq A' B'
theorem Bl2.bld {h : Heap} {a : List UInt8} (A : Bl2 h a) : Bld h a := ⟨.inr A⟩
theorem ok18g {T : Tab} (O : Ok M T) : Ok M (T.addC 18 C18g) := by
 refine addC_ok O fun args h s hs hp => ?_
 unfold C18g at hs
 split at hs
 ·rename_i s
  cases hs
  obtain ⟨⟨acc, hb, hl⟩, ht⟩ := hp
  have hne : (rowB s.data.toList).isEmpty = false := by
   have := ht.ne
   cases hq : s.data.toList with
   | nil => exact absurd hq this
   | cons a r => rfl
  have hlen := rowB_len s.data.toList
  unfold rowB at hlen
  have h1 := ht.le
  rcases hb.is with ⟨rfl, rfl⟩ | hb'
  ·obtain ⟨m, e⟩ := call_ok' (g := 18) (args := [.ptr 1 0, .sc (.string s)]) (h := hb0) (r := .tup [iA s.data.toList.length, .sc .nilIface]) (h1 := hbC (rowB s.data.toList) s.data.toList.length) (M := M) ok0 rfl (by kernel_rfl) rfl
    (z18 M s.data.toList _ (it (rowB_one _) (ie hne (it (fits2 (by omega)) ⟨rfl, by rw [hlen]; rfl⟩))))
   refine ⟨_, List.mem_singleton.2 rfl, hbC (rowB s.data.toList) s.data.toList.length, m, ⟨fun acc' ha => ?_⟩, e⟩
   rw [bld_uniq ha hb, List.nil_append]
   exact bl2_hbC _
  ·obtain ⟨nx, a1, b1, v, c1, d1, ta, tb, tv, tc, rfl⟩ := bl2_shape hb'
   obtain ⟨m, e⟩ := call_ok' (g := 18) (args := [.ptr 1 0, .sc (.string s)]) (h := hG nx a1 b1 v c1 d1 ta tb tv tc (rowB acc) acc.length) (r := .tup [iA s.data.toList.length, .sc .nilIface]) (h1 := hG nx a1 b1 v c1 d1 ta tb tv tc (rowB acc ++ rowB s.data.toList) (acc.length + s.data.toList.length)) (M := M) (idle_ok ok0 18) rfl (by kernel_rfl) rfl
    (w18 M s.data.toList nx a1 b1 v c1 d1 ta tb tv tc (rowB acc) acc.length _ (it (rowB_one _) (ie hne (it (by rw [rowB_all, Bool.true_and]; exact fits2 (by rw [rowB_len]; omega)) (it (dt (rowB_len _)) ⟨rfl, by rw [hlen]; rfl⟩)))))
   refine ⟨_, List.mem_singleton.2 rfl, hG nx a1 b1 v c1 d1 ta tb tv tc (rowB acc ++ rowB s.data.toList) (acc.length + s.data.toList.length), m, ⟨fun acc' ha => ?_⟩, e⟩
   rw [bld_uniq ha hb, ← rowB_app, ← List.length_append]
   exact bl2_hG ..
 ·cases hs
theorem strS_row (l : List (List UInt8)) : mapO strS (rowS l) = some (l.map fun w => (⟨⟨w⟩⟩ : ByteArray)) := by
 induction l with
 | nil => rfl
 | cons w l ih =>
  show mapO strS ([aStr w] :: rowS l) = _
  rw [mapO_cons, ih]
  rfl
theorem rowS_inj {a b : List (List UInt8)} (h : rowS a = rowS b) : a = b := by
 have := congrArg (mapO strS) h
 rw [strS_row, strS_row] at this
 have := Option.some.inj this
 have := congrArg (List.map fun s : ByteArray => s.data.toList) this
 simpa [List.map_map, Function.comp_def] using this
theorem ok19 {T : Tab} (O : Ok M T) : Ok M (T.addC 19 C19) := by
 refine addC_ok O fun args h s hs hp => ?_
 unfold C19 at hs
 split at hs
 ·rename_i els tok sep
  cases hs
  obtain ⟨h1, l, h2, h3, h4⟩ := hp
  subst h2
  have hsep : sep = ⟨#[32]⟩ := by
   obtain ⟨⟨q⟩⟩ := sep
   simp at h1
   rw [h1]
  subst hsep
  refine ⟨_, List.mem_singleton.2 rfl, Lib.join l [32], 0, ⟨fun l' hl' => by rw [rowS_inj hl']⟩, ?_⟩
  show (match mapO strS (rowS l) with
   | some (xs : List ByteArray) => bif Nat.ble xs.length maxRoom && Nat.ble (Lib.join (xs.map fun s : ByteArray => s.data.toList) [32]).length maxRoom then
    some (AV.sc (.string ⟨(Lib.join (xs.map fun s : ByteArray => s.data.toList) [32]).toArray⟩), h) else none
   | none => none) = _
  rw [strS_row]
  have e1 : (List.map (fun x : ByteArray => x.data.toList) (List.map (fun w => (⟨⟨w⟩⟩ : ByteArray)) l)) = l := by simp [List.map_map, Function.comp_def]
  have em : maxRoom = 140737488355328 := rfl
  simp only [e1]
  have b1 : Nat.ble (l.map fun w => (⟨⟨w⟩⟩ : ByteArray)).length maxRoom = true := Nat.ble_eq_true_of_le (by rw [List.length_map]; omega)
  have b2 : Nat.ble (Lib.join l [32]).length maxRoom = true := Nat.ble_eq_true_of_le (by omega)
  rw [b1, b2]
  rfl
 ·cases hs
theorem ok17 {T : Tab} (O : Ok M T) : Ok M (T.addC 17 C17) := by
 refine addC_ok O fun args h s hs hp => ?_
 unfold C17 at hs
 split at hs
 ·rename_i els tok
  cases hs
  obtain ⟨l, acc, h1, h2, h3, h4⟩ := hp.is
  have O' : Ok M T17 := idle_ok (ok19 (ok18g ok0)) 17
  obtain ⟨m, v, h', e, hv, hL⟩ := call_okW O' 60 17 [.sl els tok, .ptr 1 0] h (fun v h' => v = .sc (.tuple #[]) ∧ Lined h els h') (by
   refine v17 M els tok h _ ⟨⟨rfl, l, h1, h3, by omega⟩, fun x hx => it (fitsS ?_) ⟨⟨⟨acc, h2, by omega⟩, ⟨by simp, ?_⟩⟩, fun h' hw => ⟨rfl, ⟨fun acc' l' ha hl' => ?_⟩⟩⟩⟩
   ·rw [hx.is l h1]; simp; omega
   ·rw [hx.is l h1]; simp; omega
   ·rw [← hx.is l' hl']
    exact hw.is acc' ha)
  subst hv
  refine ⟨_, List.mem_singleton.2 rfl, h', m, hL, ?_⟩
  exact e
 ·cases hs
end
end Go.Proofs.Sp
namespace Go.Proofs.Sp
open Go Go.Ef Go.Proofs.Pt
noncomputable section
set_option maxRecDepth 100000
variable {M : Int}
theorem new_heap (h : Heap) (o : AObj) : Heap.mk (h.next + 1) (Tr.set h.next o h.objs) h.ro h.ty = (h.new o).2 := by rw [Heap.new_eq]
theorem bl2_next {h : Heap} {acc : List UInt8} (B : Bl2 h acc) : 3 ≤ h.next := (Heap.get_lt B.two).1
theorem bl2_new {h : Heap} {acc : List UInt8} (B : Bl2 h acc) (o : AObj) : Bl2 (Heap.mk (h.next + 1) (Tr.set h.next o h.objs) h.ro h.ty) acc := by
 have hn := bl2_next B
 refine ⟨?_, ?_, B.ro, B.ty⟩
 ·rw [new_heap, new_get, if_neg (by omega)]; exact B.one
 ·rw [new_heap, new_get, if_neg (by omega)]; exact B.two
theorem own_new {h : Heap} {acc : List UInt8} (B : Bl2 h acc) (n : Nat) : isOwn (Heap.mk (h.next + 1) (Tr.set h.next (.own 1 9 n) h.objs) h.ro h.ty) h.next 1 9 n = true := by
 unfold isOwn
 have hn := bl2_next B
 have e : (Heap.mk (h.next + 1) (Tr.set h.next (.own 1 9 n) h.objs) h.ro h.ty).get h.next = some (.own 1 9 n) := by rw [new_heap, new_get, if_pos rfl]
 rw [e]
 simp only [Bool.and_eq_true]
 refine ⟨rfl, rfl, Nat.beq_refl _, ?_⟩
 show Nat.ble h.ro h.next = true
 rw [B.ro]
 exact Nat.ble_eq_true_of_le (by omega)
theorem own_spec {h : Heap} {id k e n : Nat} (H : isOwn h id k e n = true) : h.get id = some (.own k e n) ∧ h.ro ≤ id := by
 unfold isOwn at H
 split at H
 ·rename_i k' e' n' hg
  simp only [Bool.and_eq_true] at H
  obtain ⟨h1, h2, h3, h4⟩ := H
  rw [hg, beq_true h1, beq_true h2, ← beq_true h3]
  exact ⟨rfl, ble_true h4⟩
 ·cases H
theorem grow_put {h : Heap} {id k e n : Nat} (H : isOwn h id k e n = true) (n' : Nat) : h.put id (.own k e n') = some (growH h id k e n') := by
 obtain ⟨h1, h2⟩ := own_spec H
 obtain ⟨h3, _⟩ := Heap.get_lt h1
 unfold growH
 have : h.put id (.own k e n') = some (h.setObjs (h.objs.set id (.own k e n'))) := by
  unfold Heap.put
  have b1 : Nat.ble h.ro id = true := Nat.ble_eq_true_of_le h2
  have b2 : Nat.blt id h.next = true := Nat.ble_eq_true_of_le h3
  rw [b1, b2]; rfl
 rw [this]
theorem own_grow {h : Heap} {id k e n : Nat} (H : isOwn h id k e n = true) (n' : Nat) : isOwn (growH h id k e n') id k e n' = true := by
 have hp := grow_put H n'
 obtain ⟨_, h2⟩ := own_spec H
 obtain ⟨p1, p2, p3⟩ := put_rest hp
 unfold isOwn
 rw [put_get hp, if_pos rfl]
 simp only [Bool.and_eq_true]
 exact ⟨Nat.beq_refl _, Nat.beq_refl _, Nat.beq_refl _, Nat.ble_eq_true_of_le (by rw [p1]; exact h2)⟩
theorem bl2_grow {h : Heap} {id k e n : Nat} (H : isOwn h id k e n = true) (n' : Nat) (hid : 3 ≤ id) {acc : List UInt8} (B : Bl2 h acc) : Bl2 (growH h id k e n') acc := by
 have hp := grow_put H n'
 obtain ⟨p1, p2, p3⟩ := put_rest hp
 refine ⟨?_, ?_, by rw [p1]; exact B.ro, by rw [put_ty hp]; exact B.ty⟩
 ·rw [put_get hp, if_neg (by omega)]; exact B.one
 ·rw [put_get hp, if_neg (by omega)]; exact B.two
theorem rowS_len (l : List (List UInt8)) : (rowS l).length = l.length := by simp [rowS]
theorem rowS_all (l : List (List UInt8)) : allLen 1 (rowS l) = true := by simp [allLen, rowS]
theorem rowS_app (a b : List (List UInt8)) : rowS (a ++ b) = rowS a ++ rowS b := by simp [rowS]
theorem rowO_len (l : List Bool) : (rowO l).length = l.length := by simp [rowO]
theorem rowF_len (l : List FunD) : (rowF l).length = l.length := by simp [rowF]
theorem rowI_len (l : List InsD) : (rowI l).length = l.length := by simp [rowI]
theorem rowS_at {l : List (List UInt8)} {j : Nat} (h : j < l.length) : getI j (rowS l) = some [aStr l[j]] ∧ cellStr (rowS l) (j : Int) 0 = l[j] := by
 have e : getI j (rowS l) = some [aStr l[j]] := by rw [getI_eq]; unfold rowS; rw [List.getElem?_map, List.getElem?_eq_getElem h]; rfl
 refine ⟨e, ?_⟩
 unfold cellStr cellAt
 rw [Int.toNat_natCast, e]; rfl
theorem rowO_at {l : List Bool} {j : Nat} (h : j < l.length) : getI j (rowO l) = some [bA l[j]] ∧ cellBool (rowO l) (j : Int) 0 = l[j] := by
 have e : getI j (rowO l) = some [bA l[j]] := by rw [getI_eq]; unfold rowO; rw [List.getElem?_map, List.getElem?_eq_getElem h]; rfl
 refine ⟨e, ?_⟩
 unfold cellBool cellAt
 rw [Int.toNat_natCast, e]; rfl
theorem rowF_at {l : List FunD} {j : Nat} (h : j < l.length) : getI j (rowF l) = some (cellF l[j]) ∧ cellStr (rowF l) (j : Int) 0 = l[j].name ∧ cellInt (rowF l) (j : Int) 1 = l[j].entry ∧ cellSl (rowF l) (j : Int) 2 = rowS l[j].params ∧ cellSl (rowF l) (j : Int) 3 = rowO l[j].arrays := by
 have e : getI j (rowF l) = some (cellF l[j]) := by rw [getI_eq]; unfold rowF; rw [List.getElem?_map, List.getElem?_eq_getElem h]; rfl
 refine ⟨e, ?_, ?_, ?_, ?_⟩
 ·unfold cellStr cellAt; rw [Int.toNat_natCast, e]; rfl
 ·unfold cellInt cellAt; rw [Int.toNat_natCast, e]; rfl
 ·unfold cellSl cellAt; rw [Int.toNat_natCast, e]; rfl
 ·unfold cellSl cellAt; rw [Int.toNat_natCast, e]; rfl
theorem rowI_at {l : List InsD} {j : Nat} (h : j < l.length) : getI j (rowI l) = some (cellI l[j]) ∧ cellInt (rowI l) (j : Int) 0 = l[j].op ∧ cellInt (rowI l) (j : Int) 1 = l[j].x ∧ cellInt (rowI l) (j : Int) 2 = l[j].y ∧ cellInt (rowI l) (j : Int) 3 = l[j].n ∧ cellStr (rowI l) (j : Int) 4 = l[j].t ∧ cellInt (rowI l) (j : Int) 5 = l[j].a := by
 have e : getI j (rowI l) = some (cellI l[j]) := by rw [getI_eq]; unfold rowI; rw [List.getElem?_map, List.getElem?_eq_getElem h]; rfl
 refine ⟨e, ?_, ?_, ?_, ?_, ?_, ?_⟩
 ·unfold cellInt cellAt; rw [Int.toNat_natCast, e]; rfl
 ·unfold cellInt cellAt; rw [Int.toNat_natCast, e]; rfl
 ·unfold cellInt cellAt; rw [Int.toNat_natCast, e]; rfl
 ·unfold cellInt cellAt; rw [Int.toNat_natCast, e]; rfl
 ·unfold cellStr cellAt; rw [Int.toNat_natCast, e]; rfl
 ·unfold cellInt cellAt; rw [Int.toNat_natCast, e]; rfl
theorem rowO_inj {a b : List Bool} (h : rowO a = rowO b) : a = b := by
 unfold rowO at h
 exact (List.map_inj_right (fun x y e => by simpa [bA] using e)).1 h
theorem cellF_inj {f g : FunD} (h : cellF f = cellF g) : f = g := by
 obtain ⟨n1, e1, p1, a1⟩ := f
 obtain ⟨n2, e2, p2, a2⟩ := g
 unfold cellF at h
 simp only [List.cons.injEq, AV.sl.injEq, and_true] at h
 obtain ⟨h1, h2, h3, h4⟩ := h
 have h1 : n1 = n2 := by simpa [aStr] using h1
 have h2 : e1 = e2 := by simpa [iA] using h2
 rw [h1, h2, rowS_inj h3, rowO_inj h4]
theorem rowF_inj {a b : List FunD} (h : rowF a = rowF b) : a = b := (List.map_inj_right (fun _ _ e => cellF_inj e)).1 h
theorem cellI_inj {f g : InsD} (h : cellI f = cellI g) : f = g := by
 obtain ⟨o1, x1, y1, n1, t1, a1⟩ := f
 obtain ⟨o2, x2, y2, n2, t2, a2⟩ := g
 unfold cellI at h
 simp only [List.cons.injEq, and_true] at h
 obtain ⟨h1, h2, h3, h4, h5, h6⟩ := h
 simp [iA, aStr] at h1 h2 h3 h4 h5 h6
 rw [h1, h2, h3, h4, h5, h6]
theorem rowI_inj {a b : List InsD} (h : rowI a = rowI b) : a = b := (List.map_inj_right (fun _ _ e => cellI_inj e)).1 h
theorem fits16 {n : Nat} (h : n ≤ 100000000) : fits n 16 = true := by
 unfold fits
 have e : maxRoom = 140737488355328 := rfl
 simp only [e, Bool.and_eq_true]
 refine ⟨?_, ?_⟩ <;> exact Nat.ble_eq_true_of_le (by omega)
theorem wordsT_succ (l : List (List UInt8)) (m : List Bool) (j : Nat) : wordsT l m (j + 1) = wordsT l m j ++ [parW l m j] := by
 unfold wordsT; rw [List.range_succ, List.map_append]; rfl
theorem wordsT_len (l : List (List UInt8)) (m : List Bool) (j : Nat) : (wordsT l m j).length = j := by unfold wordsT; simp
theorem ok13T : Ok M T13 := by
 have O : Ok M ((tab0.addC 21 C21).idle 8) := idle_ok (ok21 ok0) 8
 exact ⟨O.call, O.loop⟩
theorem loop13 {si sf : Cells} {b e n r i : Int} {nm : List UInt8} {en : Int} {l : List (List UInt8)} {m : List Bool} {l0 : List (List UInt8)} {k : Nat} (hs : ∀ p ∈ l, Small p) (hl : l.length ≤ 1048576) (h0 : l0.length ≤ 10) (hk : 3 ≤ k) :
  ∀ (kk j : Nat) (g : Heap), j + kk = l.length → isOwn g k 1 9 (rowS (l0 ++ wordsT l m j)).length = true →
  Ev (cfg M) Tryz.prog 8 (.loop (loopAt Tryz.prog 8 13)) (I13 si sf b e n r i nm en (rowS l) (rowO m) (rowS (l0 ++ wordsT l m j)) k j g) fun ex τ => ex = .exit 2 ∧ ∃ g', τ = X13 si sf b e n r i nm en (rowS l) (rowO m) (rowS (l0 ++ wordsT l m l.length)) k g' ∧ ∀ acc, Bl2 g acc → Bl2 g' acc := by
 intro kk
 induction kk with
 | zero =>
  intro j g hj ho
  refine Ev.round (O := ok13T) (n := 60) (t := ⟨[1, 3, 4, 6, 7, 39, 40, 41, 53, 54, 55], [1, 3, 4, 7, 39, 40, 41], 2⟩) (by kernel_rfl) (by kernel_rfl) rfl
   (r13 M si sf b e n r i nm en (rowS l) (rowO m) _ k j g (fun _ _ _ => False) True (ie (df (by rw [rowS_len]; omega)) ⟨rfl, rfl, trivial⟩)) (fun _ h => h.2.elim) (fun ex τ hx => ?_)
  unfold q13 at hx
  split at hx
  ·have : j = l.length := by omega
   subst this
   exact ⟨hx.1, g, hx.2.1, fun _ h => h⟩
  ·exact hx.elim
 | succ kk ih =>
  intro j g hj ho
  have hlt : j < l.length := by omega
  have hw : IntKind.i64.wrap ((j : Int) + 1) = ((j + 1 : Nat) : Int) := by rw [wrap_in (by omega) (by omega)]; omega
  obtain ⟨s1, s2⟩ := rowS_at hlt
  have hsm : Small l[j] := hs _ (List.getElem_mem hlt)
  have hq := quoT_len l[j]
  have hsl := hsm.le
  have hwl : (rowS (l0 ++ wordsT l m j)).length = l0.length + j := by rw [rowS_len, List.length_append, wordsT_len]
  have hN : rowS (l0 ++ wordsT l m (j + 1)) = rowS (l0 ++ wordsT l m j) ++ [[aStr (parW l m j)]] := by
   rw [wordsT_succ, ← List.append_assoc, rowS_app]; rfl
  have hNl : (rowS (l0 ++ wordsT l m (j + 1))).length = (rowS (l0 ++ wordsT l m j)).length + 1 := by rw [hN]; simp
  have fin : ∀ word : List UInt8, word = parW l m j → iteP (allLen 1 (rowS (l0 ++ wordsT l m j)) && fits ((rowS (l0 ++ wordsT l m j)).length + [[AV.sc (Value.string (ByteArray.mk (Array.mk word)))]].length) 16)
    (iteP (isOwn g k 1 9 (rowS (l0 ++ wordsT l m j)).length)
     (I13 si sf b e n r i nm en (rowS l) (rowO m) (rowS (l0 ++ wordsT l m j) ++ [[AV.sc (Value.string (ByteArray.mk (Array.mk word)))]]) k (IntKind.i64.wrap ((j : Int) + 1)) (growH g k 1 9 ((rowS (l0 ++ wordsT l m j)).length + [[AV.sc (Value.string (ByteArray.mk (Array.mk word)))]].length)) =
      I13 si sf b e n r i nm en (rowS l) (rowO m) (rowS (l0 ++ wordsT l m j) ++ [[AV.sc (Value.string (ByteArray.mk (Array.mk word)))]]) k (IntKind.i64.wrap ((j : Int) + 1)) (growH g k 1 9 ((rowS (l0 ++ wordsT l m j)).length + [[AV.sc (Value.string (ByteArray.mk (Array.mk word)))]].length)) ∧
      (rowS (l0 ++ wordsT l m j) ++ [[AV.sc (Value.string (ByteArray.mk (Array.mk word)))]] = rowS (l0 ++ wordsT l m (j + 1)) ∧ IntKind.i64.wrap ((j : Int) + 1) = ((j + 1 : Nat) : Int) ∧ growH g k 1 9 ((rowS (l0 ++ wordsT l m j)).length + [[AV.sc (Value.string (ByteArray.mk (Array.mk word)))]].length) = growH g k 1 9 (rowS (l0 ++ wordsT l m (j + 1))).length)) False) False := by
   intro word hwd
   refine it ?_ (it ho ⟨rfl, ?_, hw, ?_⟩)
   ·rw [rowS_all, Bool.true_and]
    exact fits16 (by rw [hwl]; simp; omega)
   ·rw [hN, hwd]; rfl
   ·rw [hNl]; rfl
  refine Ev.round (O := ok13T) (n := 60) (t := ⟨[1, 3, 4, 6, 7, 39, 40, 41, 53, 54, 55], [1, 3, 4, 7, 39, 40, 41], 2⟩) (by kernel_rfl) (by kernel_rfl) rfl
   (r13 M si sf b e n r i nm en (rowS l) (rowO m) (rowS (l0 ++ wordsT l m j)) k j g (fun w j' g' => w = rowS (l0 ++ wordsT l m (j + 1)) ∧ j' = ((j + 1 : Nat) : Int) ∧ g' = growH g k 1 9 (rowS (l0 ++ wordsT l m (j + 1))).length) False (it (dt (by rw [rowS_len]; omega)) (it (by rw [inRange_iff, rowS_len]; omega) ?_))) (fun τ h => ?_) (fun ex τ hx => ?_)
  ·rw [s2]
   refine ⟨by rw [Int.toNat_natCast]; exact s1, hsm, fun x hx => ?_⟩
   have hp : parW l m j = x ++ (if (m[j]?).getD false then [91, 93] else []) := by
    rw [hx]; unfold parW; rw [List.getElem?_eq_getElem hlt]; rfl
   refine iti (fun q => ?_) (fun q => ?_)
   ·have q := of_decide_eq_true q
    rw [rowO_len] at q
    have hjm : j < m.length := by omega
    obtain ⟨o1, o2⟩ := rowO_at hjm
    refine it (by rw [inRange_iff, rowO_len]; omega) ⟨by rw [Int.toNat_natCast, o2]; exact o1, ?_⟩
    rw [o2]
    rw [List.getElem?_eq_getElem hjm] at hp
    refine iti (fun v => it (fitsS (by rw [hx]; simp; omega)) (fin _ ?_)) (fun v => fin _ ?_)
    ·rw [hp, v]; rfl
    ·rw [hp, v]; simp
   ·have q := of_decide_eq_false q
    rw [rowO_len] at q
    rw [List.getElem?_eq_none (by omega)] at hp
    exact fin _ (by rw [hp]; simp)
  ·obtain ⟨h1, h2, h3, h4⟩ := h
   rw [h1, h2, h3, h4]
   refine (ih (j + 1) _ (by omega) (own_grow ho _)).mono fun ex τ' hq => ⟨hq.1, ?_⟩
   obtain ⟨g', e1, e2⟩ := hq.2
   exact ⟨g', e1, fun acc ha => e2 acc (bl2_grow ho _ hk ha)⟩
  ·unfold q13 at hx
   split at hx
   ·exact hx.2.2.elim
   ·exact hx.elim
theorem okL13 {T : Tab} (O : Ok M T) : Ok M (T.addL 8 13 L13) := by
 refine addL_ok O fun σ s hs hp => ?_
 cases hs
 obtain ⟨h1, h2⟩ := hp
 obtain ⟨l0, hw, hl0⟩ := h2.wz
 obtain ⟨l, hl, hsm, hll⟩ := h2.pz
 obtain ⟨m, hm, _⟩ := h2.bz
 have hjz := h2.jz
 have hown := h2.own
 rw [hw] at hown
 rw [hw, hl, hm, hjz] at h1
 have e0 : l0 ++ wordsT l m 0 = l0 := by simp [wordsT]
 obtain ⟨mm, ex, τ, g1, g2, g', g3, g4⟩ := Ev.tidied (t := ⟨[1, 3, 4, 6, 7, 39, 40, 41, 53, 54, 55], [1, 3, 4, 7, 39, 40, 41], 2⟩) (by kernel_rfl) (σ := σ) (τ := I13 (lcE σ 0 0) (lcE σ 0 1) (lcI σ 0 2) (lcI σ 0 3) (lcI σ 0 4) (lcI σ 0 5) (slI σ 41) (lcS σ 1 0) (lcI σ 1 1) (rowS l) (rowO m) (rowS (l0 ++ wordsT l m 0)) (slK σ 7) ((0 : Nat) : Int) σ.h) (by rw [e0]; exact h1)
  (loop13 (M := M) (si := lcE σ 0 0) (sf := lcE σ 0 1) (b := lcI σ 0 2) (e := lcI σ 0 3) (n := lcI σ 0 4) (r := lcI σ 0 5) (i := slI σ 41) (nm := lcS σ 1 0) (en := lcI σ 1 1) hsm hll hl0 h2.kz l.length 0 σ.h (by omega) (by rw [e0]; exact hown))
 subst g2; subst g3
 refine ⟨_, List.mem_singleton.2 rfl, (rowS (l0 ++ wordsT l m l.length), g'), ⟨fun a c d ha hc hd => ?_, g4⟩, mm, ?_⟩
 ·rw [hw] at ha; rw [hl] at hc; rw [hm] at hd
  rw [rowS_inj ha, rowS_inj hc, rowO_inj hd]
 ·rw [hl, hm]; exact g1
end
end Go.Proofs.Sp
namespace Go.Proofs.Sp
open Go Go.Ef Go.Proofs.Pt
noncomputable section
set_option maxRecDepth 100000
variable {M : Int}
theorem tail_len (r : List (List UInt8)) : (Lib.joinTail [32] r).length = (r.map fun w => w.length + 1).sum := by
 unfold Lib.joinTail
 induction r with
 | nil => rfl
 | cons w r ih =>
  rw [List.map_cons, List.flatten_cons, List.length_append, ih, List.map_cons, List.sum_cons, List.length_append, List.length_singleton]
  omega
theorem parW_len (l : List (List UInt8)) (m : List Bool) (j : Nat) : (parW l m j).length ≤ 8 * ((l[j]?).getD []).length + 4 := by
 have := quoT_len ((l[j]?).getD [])
 unfold parW
 split <;> simp <;> omega
theorem words_sum (l : List (List UInt8)) (m : List Bool) : ∀ k, k ≤ l.length → ((wordsT l m k).map fun w => w.length + 1).sum ≤ 8 * ((l.take k).map fun p => p.length + 1).sum := by
 intro k
 induction k with
 | zero => intro _; simp [wordsT]
 | succ k ih =>
  intro hk
  have h1 := ih (by omega)
  have h2 := parW_len l m k
  rw [wordsT_succ, List.map_append, List.sum_append, List.take_succ_eq_append_getElem (by omega : k < l.length), List.map_append, List.sum_append]
  rw [List.getElem?_eq_getElem (by omega : k < l.length)] at h2
  simp only [List.map_cons, List.map_nil, List.sum_cons, List.sum_nil, Option.getD_some, Nat.add_zero] at h2 ⊢
  omega
theorem fun_join (f : FunD) : Lib.join (funW f) [32] = [102, 117, 110, 99, 116, 105, 111, 110] ++ Lib.joinTail [32] (quoT f.name :: Lib.itoa f.entry :: wordsT f.params f.arrays f.params.length) := Lib.join_cons _ _ _
theorem funT_len {f : FunD} (h : FunOk f) : (funT f).length ≤ 40 * fw f := by
 have h1 := quoT_len f.name
 have h2 := itoa_len h.entry
 have h3 := words_sum f.params f.arrays f.params.length (Nat.le_refl _)
 rw [List.take_length] at h3
 unfold funT fw
 rw [fun_join, List.length_append, List.length_append, tail_len]
 simp only [List.map_cons, List.sum_cons, List.length_cons, List.length_nil]
 omega
theorem funs_len : ∀ l : List FunD, (∀ f ∈ l, FunOk f) → (l.flatMap funT).length ≤ 40 * (l.map fw).sum := by
 intro l
 induction l with
 | nil => intro _; simp
 | cons f l ih =>
  intro h
  have h1 := funT_len (h f (by simp))
  have h2 := ih fun g hg => h g (by simp [hg])
  rw [List.flatMap_cons, List.length_append, List.map_cons, List.sum_cons]
  omega
theorem opP_len {op x y n : Int} {t : List UInt8} (hp : InstOk op x y n t) (c : UInt8) : (opP x y n t c).length ≤ 33 + 8 * t.length := by
 have lx := itoa_len hp.x
 have ly := itoa_len hp.y
 have ln := decT_len n
 have lt := quoT_len t
 unfold opP
 rw [List.length_cons]
 split
 ·omega
 ·split
  ·omega
  ·split <;> omega
theorem flat_len {op x y n : Int} {t : List UInt8} (hp : InstOk op x y n t) : ∀ l : List UInt8, (l.flatMap (opP x y n t)).length ≤ l.length * (33 + 8 * t.length) := by
 intro l
 induction l with
 | nil => simp
 | cons c l ih =>
  have := opP_len hp c
  rw [List.flatMap_cons, List.length_append, List.length_cons, Nat.succ_mul]
  omega
theorem desc_all : ∀ k : Fin 49, (descW ((k.val : Int) + 1)).1.length ≤ 10 ∧ (descW ((k.val : Int) + 1)).2.length ≤ 3 := by
 intro k
 unfold descW
 rw [if_pos (by omega)]
 revert k
 decide +kernel
theorem desc_len {op : Int} (h : I64 op) : (descW op).1.length ≤ 30 ∧ (descW op).2.length ≤ 3 := by
 by_cases q : 1 ≤ op ∧ op ≤ 49
 ·have := desc_all ⟨(op - 1).toNat, by omega⟩
  have e : (((op - 1).toNat : Nat) : Int) + 1 = op := by omega
  simp only [e] at this
  omega
 ·have := itoa_len h
  unfold descW
  rw [if_neg q]
  simp; omega
theorem shown_len {op x y n : Int} {t : List UInt8} (hp : InstOk op x y n t) : (shownT op x y n t).length ≤ 150 * (t.length + 1) := by
 obtain ⟨d1, d2⟩ := desc_len hp.op
 have h := flat_len hp (descW op).2
 have h3 : (descW op).2.length * (33 + 8 * t.length) ≤ 3 * (33 + 8 * t.length) := Nat.mul_le_mul_right _ d2
 unfold shownT
 rw [List.length_append]
 omega
theorem insT_at {l : List InsD} {k : Nat} (h : k < l.length) : insT l k = Lib.itoa k ++ 32 :: shownT l[k].op l[k].x l[k].y l[k].n l[k].t ++ [10] := by
 unfold insT; rw [List.getElem?_eq_getElem h]
theorem insT_len {l : List InsD} {k : Nat} (h : k < l.length) (hk : k ≤ 1048576) (hp : InstOk l[k].op l[k].x l[k].y l[k].n l[k].t) : (insT l k).length ≤ 250 * iw l[k] := by
 have h1 := shown_len hp
 have h2 := itoa_len (n := (k : Int)) ⟨by omega, by omega⟩
 rw [insT_at h]
 unfold iw
 simp only [List.length_append, List.length_cons, List.length_nil]
 omega
theorem ok8fT : Ok M T8f := by
 have O : Ok M ((((((tab0.addC 21 C21).addC 20 C20).addC 17 C17).addL 8 13 L13)).idle 8) := idle_ok (okL13 (ok17 (ok20 (ok21 ok0)))) 8
 exact ⟨O.call, O.loop⟩
theorem fun3_eq (x y : List UInt8) : ([[AV.sc (Value.string (ByteArray.mk (Array.mk [(102 : UInt8), (117 : UInt8), (110 : UInt8), (99 : UInt8), (116 : UInt8), (105 : UInt8), (111 : UInt8), (110 : UInt8)])))], [AV.sc (Value.string (ByteArray.mk (Array.mk x)))], [AV.sc (Value.string (ByteArray.mk (Array.mk y)))]] : Cells) = rowS [[102, 117, 110, 99, 116, 105, 111, 110], x, y] := rfl
theorem loop8 {si : Cells} {l : List FunD} {b e n r : Int} (hf : ∀ f ∈ l, FunOk f) (hl : l.length ≤ 1048576) :
  ∀ (k i : Nat) (g : Heap) (acc : List UInt8), i + k = l.length → Bl2 g acc → acc.length + 40 * ((l.drop i).map fw).sum ≤ 100000000 →
  Ev (cfg M) Tryz.prog 8 (.loop (loopAt Tryz.prog 8 9)) (I8 si (rowF l) b e n r i g) fun ex τ => ex = .exit 0 ∧ ∃ g', τ = X8 si (rowF l) b e n r g' ∧ Bl2 g' (acc ++ (l.drop i).flatMap funT) := by
 intro k
 induction k with
 | zero =>
  intro i g acc hi hb _
  refine Ev.round (O := ok8fT) (n := 80) (t := ⟨[1, 3, 4, 39, 40, 41], [1, 3, 4], 1⟩) (by kernel_rfl) (by kernel_rfl) rfl (r8 M si (rowF l) b e n r i g (fun _ _ => False) True (ie (df (by rw [rowF_len]; omega)) ⟨rfl, rfl, trivial⟩)) (fun _ h => h.2.elim) (fun ex τ hx => ?_)
  unfold q8 at hx
  split at hx
  ·refine ⟨hx.1, g, hx.2.1, ?_⟩
   rw [List.drop_eq_nil_of_le (by omega), List.flatMap_nil, List.append_nil]; exact hb
  ·exact hx.elim
 | succ k ih =>
  intro i g acc hi hb hw
  have hlt : i < l.length := by omega
  have hd : l.drop i = l[i] :: l.drop (i + 1) := List.drop_eq_getElem_cons hlt
  have hwr : IntKind.i64.wrap ((i : Int) + 1) = ((i + 1 : Nat) : Int) := by rw [wrap_in (by omega) (by omega)]; omega
  obtain ⟨s1, s2, s3, s4, s5⟩ := rowF_at hlt
  have hk := hf _ (List.getElem_mem hlt)
  obtain ⟨f, hfe⟩ : ∃ f, l[i] = f := ⟨_, rfl⟩
  rw [hfe] at s1 s2 s3 s4 s5 hk hd
  have lf := funT_len hk
  rw [hd, List.map_cons, List.sum_cons] at hw
  have lj : (Lib.join (funW f) [32]).length + 1 = (funT f).length := by unfold funT; simp
  refine Ev.round (O := ok8fT) (n := 80) (t := ⟨[1, 3, 4, 39, 40, 41], [1, 3, 4], 1⟩) (by kernel_rfl) (by kernel_rfl) rfl
   (r8 M si (rowF l) b e n r i g (fun i' g' => i' = ((i + 1 : Nat) : Int) ∧ Bl2 g' (acc ++ funT f)) False (it (dt (by rw [rowF_len]; omega)) (it (by rw [inRange_iff, rowF_len]; omega) ?_))) (fun τ h => ?_) (fun ex τ hx => ?_)
  ·rw [s2, s3, s4, s5]
   refine ⟨by rw [Int.toNat_natCast]; exact s1, hk.name, fun x hx => ⟨hk.entry, fun y hy => ⟨rfl, ⟨rfl, ?_⟩, fun q hq => ?_⟩⟩⟩
   ·rw [fun3_eq]
    exact ⟨rfl, bl2_next hb, own_new hb _, ⟨_, rfl, by simp⟩, ⟨_, rfl, hk.ps, hk.np⟩, ⟨_, rfl, hk.na⟩⟩
   ·rw [fun3_eq] at hq
    have e1 : q.1 = rowS (funW f) := by
     rw [hq.is _ _ _ rfl rfl rfl, hx, hy]; rfl
    have e2 : Bl2 q.2 acc := hq.hz acc (bl2_new hb _)
    refine ⟨⟨⟨_, acc, e1, e2.bld, ?_, by omega⟩⟩, fun g' hg' => ⟨rfl, hwr, ?_⟩⟩
    ·have := hk.np
     simp [funW, wordsT]; omega
    ·exact hg'.is acc _ e2.bld e1
  ·obtain ⟨h1, h2, h3⟩ := h
   rw [h1, h2]
   refine (ih (i + 1) τ.h (acc ++ funT f) (by omega) h3 (by rw [List.length_append]; omega)).mono fun ex τ' hq => ⟨hq.1, ?_⟩
   obtain ⟨g', e1, e2⟩ := hq.2
   refine ⟨g', e1, ?_⟩
   rw [hd, List.flatMap_cons, ← List.append_assoc]
   exact e2
  ·unfold q8 at hx
   split at hx
   ·exact hx.2.2.elim
   ·exact hx.elim
theorem sum_ge_len : ∀ l : List FunD, l.length ≤ (l.map fw).sum := by
 intro l
 induction l with
 | nil => simp
 | cons f l ih =>
  have : 1 ≤ fw f := by unfold fw; omega
  rw [List.map_cons, List.sum_cons, List.length_cons]
  omega
theorem sumi_ge_len : ∀ l : List InsD, l.length ≤ (l.map iw).sum := by
 intro l
 induction l with
 | nil => simp
 | cons f l ih =>
  have : 1 ≤ iw f := by unfold iw; omega
  rw [List.map_cons, List.sum_cons, List.length_cons]
  omega
theorem okL9 {T : Tab} (O : Ok M T) : Ok M (T.addL 8 9 L9) := by
 refine addL_ok O fun σ s hs hp => ?_
 cases hs
 obtain ⟨h1, h2⟩ := hp
 obtain ⟨l, acc, hl, hf, hb, hle⟩ := h2.is
 rw [h2.iz, hl] at h1
 have hlen := sum_ge_len l
 have hw := hf.w
 obtain ⟨mm, ex, τ, g1, g2, g', g3, g4⟩ := Ev.tidied (t := ⟨[1, 3, 4, 39, 40, 41], [1, 3, 4], 1⟩) (by kernel_rfl) h1
  (loop8 (M := M) (si := lcE σ 0 0) (b := lcI σ 0 2) (e := lcI σ 0 3) (n := lcI σ 0 4) (r := lcI σ 0 5) hf.ok (by omega) l.length 0 σ.h acc (by omega) hb (by rw [List.drop_zero]; omega))
 subst g2; subst g3
 refine ⟨_, List.mem_singleton.2 rfl, g', ⟨fun acc' l' ha hc => ?_⟩, mm, ?_⟩
 ·rw [hl] at hc
  rw [← rowF_inj hc, bl2_uniq ha hb]
  exact g4
 ·rw [hl]; exact g1
theorem ok8iT : Ok M T8i := idle_ok (ok17 (ok20 (ok22 ok0))) 8
theorem loop23 {l : List InsD} (hf : ∀ i ∈ l, InstOk i.op i.x i.y i.n i.t) (hl : l.length ≤ 1048576) :
  ∀ (k i : Nat) (g : Heap) (acc : List UInt8), i + k = l.length → Bl2 g acc → acc.length + 250 * ((l.drop i).map iw).sum ≤ 1000000000 →
  Ev (cfg M) Tryz.prog 8 (.loop (loopAt Tryz.prog 8 23)) (I23 (rowI l) i g) fun ex τ => ex = .exit 4 ∧ ∃ g', τ = X23 g' ∧ Bl2 g' (acc ++ (List.range' i k).flatMap (insT l)) := by
 intro k
 induction k with
 | zero =>
  intro i g acc hi hb _
  refine Ev.round (O := ok8iT) (n := 80) (t := ⟨[3, 4, 86, 87, 88], [3], 0⟩) (by kernel_rfl) (by kernel_rfl) rfl (r23 M (rowI l) i g (fun _ _ => False) True (ie (df (by rw [rowI_len]; omega)) ⟨rfl, rfl, trivial⟩)) (fun _ h => h.2.elim) (fun ex τ hx => ?_)
  unfold q23 at hx
  split at hx
  ·refine ⟨hx.1, g, hx.2.1, ?_⟩
   simpa using hb
  ·exact hx.elim
 | succ k ih =>
  intro i g acc hi hb hw
  have hlt : i < l.length := by omega
  have hd : l.drop i = l[i] :: l.drop (i + 1) := List.drop_eq_getElem_cons hlt
  have hwr : IntKind.i64.wrap ((i : Int) + 1) = ((i + 1 : Nat) : Int) := by rw [wrap_in (by omega) (by omega)]; omega
  obtain ⟨s1, s2, s3, s4, s5, s6, s7⟩ := rowI_at hlt
  have hk := hf _ (List.getElem_mem hlt)
  have li := insT_len hlt (by omega) hk
  have hT := insT_at hlt
  rw [hd, List.map_cons, List.sum_cons] at hw
  have hi64 : I64 (i : Int) := ⟨by omega, by omega⟩
  have hj : ∀ x y : List UInt8, Lib.join [x, y] [32] = x ++ 32 :: y := by intro x y; rw [Lib.join_cons]; simp [Lib.joinTail]
  have two : ∀ x y : List UInt8, ([[AV.sc (Value.string (ByteArray.mk (Array.mk x)))], [AV.sc (Value.string (ByteArray.mk (Array.mk y)))]] : Cells) = rowS [x, y] := fun _ _ => rfl
  refine Ev.round (O := ok8iT) (n := 80) (t := ⟨[3, 4, 86, 87, 88], [3], 0⟩) (by kernel_rfl) (by kernel_rfl) rfl
   (r23 M (rowI l) i g (fun i' g' => i' = ((i + 1 : Nat) : Int) ∧ Bl2 g' (acc ++ insT l i)) False (it (dt (by rw [rowI_len]; omega)) (it (by rw [inRange_iff, rowI_len]; omega) ?_))) (fun τ h => ?_) (fun ex τ hx => ?_)
  ·rw [s2, s3, s4, s5, s6, s7]
   refine ⟨by rw [Int.toNat_natCast]; exact s1, hi64, fun x hx => ⟨hk, fun y hy => ?_⟩⟩
   have hjl : (Lib.join [x, y] [32]).length + 1 = (insT l i).length := by rw [hj, hT, hx, hy]; simp; omega
   rw [two]
   refine ⟨⟨⟨_, acc, rfl, hb.bld, by simp, by omega⟩⟩, fun g' hg' => ⟨rfl, hwr, ?_⟩⟩
   have := hg'.is acc _ hb.bld rfl
   rw [hj, hx, hy, ← hT] at this
   exact this
  ·obtain ⟨h1, h2, h3⟩ := h
   rw [h1, h2]
   refine (ih (i + 1) τ.h (acc ++ insT l i) (by omega) h3 (by rw [List.length_append]; omega)).mono fun ex τ' hq => ⟨hq.1, ?_⟩
   obtain ⟨g', e1, e2⟩ := hq.2
   refine ⟨g', e1, ?_⟩
   rw [List.range'_succ, List.flatMap_cons, ← List.append_assoc]
   exact e2
  ·unfold q23 at hx
   split at hx
   ·exact hx.2.2.elim
   ·exact hx.elim
theorem okL23 {T : Tab} (O : Ok M T) : Ok M (T.addL 8 23 L23) := by
 refine addL_ok O fun σ s hs hp => ?_
 cases hs
 obtain ⟨h1, h2⟩ := hp
 obtain ⟨l, acc, hl, hf, hb, hle⟩ := h2.is
 rw [h2.iz, hl] at h1
 have hlen := sumi_ge_len l
 have hw := hf.w
 obtain ⟨mm, ex, τ, g1, g2, g', g3, g4⟩ := Ev.tidied (t := ⟨[3, 4, 86, 87, 88], [3], 0⟩) (by kernel_rfl) h1
  (loop23 (M := M) hf.ok (by omega) l.length 0 σ.h acc (by omega) hb (by rw [List.drop_zero]; omega))
 subst g2; subst g3
 refine ⟨_, List.mem_singleton.2 rfl, g', ⟨fun acc' l' ha hc => ?_⟩, mm, ?_⟩
 ·rw [hl] at hc
  rw [← rowI_inj hc, bl2_uniq ha hb, List.range_eq_range']
  exact g4
 ·exact g1
theorem ok23g {T : Tab} (O : Ok M T) : Ok M (T.addC 23 C23g) := by
 refine addC_ok O fun args h s hs hp => ?_
 unfold C23g at hs
 split at hs
 ·cases hs
  obtain ⟨acc, hb, hne, hle⟩ := hp.is
  obtain ⟨nx, a1, b1, v, c1, d1, ta, tb, tv, tc, rfl⟩ := bl2_shape hb
  refine ⟨_, List.mem_singleton.2 rfl, (acc, { hG nx a1 b1 v c1 d1 ta tb tv tc (rowB acc) acc.length with objs := (hG nx a1 b1 v c1 d1 ta tb tv tc (rowB acc) acc.length).objs.set 2 .dead }), 0, ⟨fun acc' ha => bl2_uniq hb ha⟩, ?_⟩
  show stringP 63 5 [.ptr 1 0] (hG nx a1 b1 v c1 d1 ta tb tv tc (rowB acc) acc.length) = _
  show (bif (Nat.beq 1 1 && Nat.beq 5 5 && !(rowB acc).isEmpty && Nat.ble (rowB acc).length maxRoom) && Nat.beq (rowB acc).length acc.length then
        (match mapO byteS (rowB acc), (hG nx a1 b1 v c1 d1 ta tb tv tc (rowB acc) acc.length).put 2 .dead with
        | some bs, some h' => some (AV.sc (.string ⟨⟨bs⟩⟩), h')
        | _, _ => none) else none) = _
  have h1 : (rowB acc).isEmpty = false := by
   cases acc with
   | nil => exact absurd rfl hne
   | cons a r => rfl
  have h2 : Nat.ble (rowB acc).length maxRoom = true := by
   rw [rowB_len]
   have e : maxRoom = 140737488355328 := rfl
   exact Nat.ble_eq_true_of_le (by omega)
  have h3 : Nat.beq (rowB acc).length acc.length = true := by rw [rowB_len]; exact Nat.beq_refl _
  rw [h1, h2, h3, byteS_row]
  rfl
 ·cases hs
theorem ok8 {T : Tab} (O : Ok M T) : Ok M (T.addC 8 C8) := by
 refine addC_ok O fun args h s hs hp => ?_
 unfold C8 at hs
 split at hs
 ·rename_i si sf b e n r
  cases hs
  obtain ⟨hb, he, hn, hr, ⟨lf, hsf, hf⟩, ⟨li, hsi, hi⟩⟩ := hp
  have l1 := itoa_len hb
  have l2 := itoa_len he
  have l3 := itoa_len hn
  have l4 := itoa_len hr
  have hj : ∀ x y : List UInt8, Lib.join [x, y] [32] = x ++ 32 :: y := by intro x y; rw [Lib.join_cons]; simp [Lib.joinTail]
  have two : ∀ x y : List UInt8, ([[AV.sc (Value.string (ByteArray.mk (Array.mk x)))], [AV.sc (Value.string (ByteArray.mk (Array.mk y)))]] : Cells) = rowS [x, y] := fun _ _ => rfl
  have O' : Ok M T8 := idle_ok (okL23 (okL9 (ok23g (ok17 (ok20 ok0))))) 8
  have key : wpCall T8 (cfg M) Tryz.prog 80 8 [codeA si sf b e n r] heapF fun r' h' => wpBack h' r' fun v => v = aStr (headT b e n r ++ lf.flatMap funT ++ (List.range li.length).flatMap (insT li)) := by
   have B0 : Bld hb0 [] := ⟨.inl ⟨rfl, rfl⟩⟩
   refine v8 M si sf b e n r _ ⟨hb, fun x hx => ?_⟩
   rw [two]
   refine ⟨⟨_, [], rfl, B0, by simp, by rw [hj, hx]; simp; omega⟩, fun g1 q1 => ?_⟩
   have B1 := q1.is [] _ B0 rfl
   rw [hj, hx] at B1
   refine ⟨he, fun y hy => ?_⟩
   rw [two]
   refine ⟨⟨_, _, rfl, B1.bld, by simp, by rw [hj, hy]; simp; omega⟩, fun g2 q2 => ?_⟩
   have B2 := q2.is _ _ B1.bld rfl
   rw [hj, hy] at B2
   refine ⟨hn, fun z hz => ?_⟩
   rw [two]
   refine ⟨⟨_, _, rfl, B2.bld, by simp, by rw [hj, hz]; simp; omega⟩, fun g3 q3 => ?_⟩
   have B3 := q3.is _ _ B2.bld rfl
   rw [hj, hz] at B3
   refine ⟨hr, fun w hw => ?_⟩
   rw [two]
   refine ⟨⟨_, _, rfl, B3.bld, by simp, by rw [hj, hw]; simp; omega⟩, fun g4 q4 => ?_⟩
   have B4 := q4.is _ _ B3.bld rfl
   rw [hj, hw] at B4
   have hh : headT b e n r = ([] ++ ([98, 101, 103, 105, 110] ++ 32 :: Lib.itoa b ++ [10]) ++ ([101, 97, 99, 104] ++ 32 :: Lib.itoa e ++ [10]) ++ ([101, 110, 100] ++ 32 :: Lib.itoa n ++ [10]) ++ ([114, 97, 110, 103, 101, 115] ++ 32 :: Lib.itoa r ++ [10])) := by
    unfold headT; simp
   rw [← hh] at B4
   have hl : (headT b e n r).length ≤ 1000 := by rw [hh]; simp; omega
   refine ⟨rfl, ⟨rfl, ⟨rfl, lf, _, hsf, hf, B4, hl⟩⟩, fun g5 q5 => ?_⟩
   have B5 := q5.is _ _ B4 hsf
   have lfl := funs_len lf hf.ok
   have lfw := hf.w
   refine ⟨rfl, ⟨rfl, ⟨rfl, li, _, hsi, hi, B5, by rw [List.length_append]; omega⟩⟩, fun g6 q6 => ?_⟩
   have B6 := q6.is _ _ B5 hsi
   have lil : ((List.range li.length).flatMap (insT li)).length ≤ 1000000000 := by
    have step : ∀ k, k ≤ li.length → ((List.range k).flatMap (insT li)).length ≤ 250 * ((li.take k).map iw).sum := by
     intro k
     induction k with
     | zero => intro _; simp
     | succ k ih =>
      intro hk
      have h1 := ih (by omega)
      have hlen := sumi_ge_len li
      have hiw := hi.w
      have h2 := insT_len (l := li) (k := k) (by omega) (by omega) (hi.ok _ (List.getElem_mem _))
      rw [List.range_succ, List.flatMap_append, List.length_append, List.take_succ_eq_append_getElem (by omega : k < li.length), List.map_append, List.sum_append]
      simp only [List.map_cons, List.map_nil, List.sum_cons, List.sum_nil, Nat.add_zero, List.flatMap_cons, List.flatMap_nil, List.append_nil] at h1 h2 ⊢
      omega
    have := step li.length (Nat.le_refl _)
    rw [List.take_length] at this
    have := hi.w
    omega
   refine ⟨⟨_, B6, by rw [hh]; simp, by rw [List.length_append, List.length_append]; omega⟩, fun q hq => ?_⟩
   rw [hq.is _ B6]; rfl
  obtain ⟨m, v, h', ev, rfl, rfl⟩ := EvP.freshV (g := 8) (args := [codeA si sf b e n r]) (h := h) (v := aStr (headT b e n r ++ lf.flatMap funT ++ (List.range li.length).flatMap (insT li))) O' (n := 80) (by kernel_rfl) rfl (args' := [codeA si sf b e n r]) rfl key
  refine ⟨_, List.mem_singleton.2 rfl, headT b e n r ++ lf.flatMap funT ++ (List.range li.length).flatMap (insT li), m, ⟨fun lf' li' h1 h2 => ?_⟩, ev⟩
  rw [hsf] at h1; rw [hsi] at h2
  rw [rowF_inj h1, rowI_inj h2]
 ·cases hs
end
end Go.Proofs.Sp
namespace Go.Proofs.Sp
open Go Go.Ef Go.Proofs.Pt
noncomputable section
def J9 (si sf : Cells) (b e n r : Int) (o : List UInt8) (i : Int) : St := stOf 124 [(1, .lp 0 0), (3, sStr o), (4, sInt i)] [.cells (codeC si sf b e n r)] heapF
def Y9 (si sf : Cells) (b e n r : Int) (o : List UInt8) : St := stOf 124 [(1, .lp 0 0), (3, sStr o)] [.cells (codeC si sf b e n r)] heapF
def J9p (si sf : Cells) (b e n r : Int) (nm : List UInt8) (en : Int) (ps bs : Cells) (o : List UInt8) (i j : Int) : St := stOf 124 [(1, .lp 0 0), (3, sStr o), (4, sInt i), (5, .lp 1 0), (6, sInt j)] [.cells (codeC si sf b e n r), .cells (funC nm en ps bs)] heapF
def Y9p (si sf : Cells) (b e n r : Int) (nm : List UInt8) (en : Int) (ps bs : Cells) (o : List UInt8) (i : Int) : St := stOf 124 [(1, .lp 0 0), (3, sStr o), (4, sInt i)] [.cells (codeC si sf b e n r), .cells (funC nm en ps bs)] heapF
def J9i (si sf : Cells) (b e n r : Int) (o : List UInt8) (i : Int) : St := stOf 124 [(1, .lp 0 0), (3, sStr o), (7, sInt i)] [.cells (codeC si sf b e n r)] heapF
def Y9i (si sf : Cells) (b e n r : Int) (o : List UInt8) : St := stOf 124 [(3, sStr o)] [.cells (codeC si sf b e n r)] heapF
def p9 (si sf : Cells) (b e n r : Int) (o : List UInt8) (X : Prop) (ex : Ex) (τ : St) : Prop :=
 match ex with
 | .exit _ => ex = .exit 0 ∧ τ = Y9 si sf b e n r o ∧ X
 | _ => False
def p9p (si sf : Cells) (b e n r : Int) (nm : List UInt8) (en : Int) (ps bs : Cells) (o : List UInt8) (i : Int) (X : Prop) (ex : Ex) (τ : St) : Prop :=
 match ex with
 | .exit _ => ex = .exit 2 ∧ τ = Y9p si sf b e n r nm en ps bs o i ∧ X
 | _ => False
def p9i (si sf : Cells) (b e n r : Int) (o : List UInt8) (X : Prop) (ex : Ex) (τ : St) : Prop :=
 match ex with
 | .exit _ => ex = .exit 4 ∧ τ = Y9i si sf b e n r o ∧ X
 | _ => False
structure PP (o : List UInt8) (ps bs : Cells) (j : Int) : Prop where
 jz : j = 0
 pz : ∃ l, ps = rowS l ∧ (∀ p ∈ l, Small p) ∧ l.length ≤ 1048576
 bz : ∃ m, bs = rowO m
 oz : o.length ≤ 1000000000000
structure RP (o : List UInt8) (ps bs : Cells) (q : List UInt8) : Prop where
 is : ∀ l m, ps = rowS l → bs = rowO m → q = o ++ Lib.joinTail [32] (wordsT l m l.length)
def L9p (σ : St) : Option LSpec := some { pre := σ.tidy [1, 3, 4, 5, 6] 2 = J9p (lcE σ 0 0) (lcE σ 0 1) (lcI σ 0 2) (lcI σ 0 3) (lcI σ 0 4) (lcI σ 0 5) (lcS σ 1 0) (lcI σ 1 1) (lcE σ 1 2) (lcE σ 1 3) (slS σ 3) (slI σ 4) (slI σ 6) ∧ PP (slS σ 3) (lcE σ 1 2) (lcE σ 1 3) (slI σ 6), alts := [{ α := List UInt8, post := fun q => RP (slS σ 3) (lcE σ 1 2) (lcE σ 1 3) q, ex := .exit 2, st := fun q => Y9p (lcE σ 0 0) (lcE σ 0 1) (lcI σ 0 2) (lcI σ 0 3) (lcI σ 0 4) (lcI σ 0 5) (lcS σ 1 0) (lcI σ 1 1) (lcE σ 1 2) (lcE σ 1 3) q (slI σ 4) }] }
def T9p : Tab := tab0.addC 25 C25
def T9f : Tab := ((tab0.addC 25 C25).addC 24 C24).addL 9 9 L9p
def T9i : Tab := (((tab0.addC 24 C24).addC 27 C27).addC 28 C28)
structure PFr (o : List UInt8) (sf : Cells) (i : Int) : Prop where
 iz : i = 0
 is : ∃ l, sf = rowF l ∧ Funs l
 oz : o.length ≤ 1000
structure FRes (o : List UInt8) (sf : Cells) (q : List UInt8) : Prop where
 is : ∀ l, sf = rowF l → q = o ++ l.flatMap funT
def L9r (σ : St) : Option LSpec := some { pre := σ.tidy [1, 3, 4] 1 = J9 (lcE σ 0 0) (lcE σ 0 1) (lcI σ 0 2) (lcI σ 0 3) (lcI σ 0 4) (lcI σ 0 5) (slS σ 3) (slI σ 4) ∧ PFr (slS σ 3) (lcE σ 0 1) (slI σ 4), alts := [{ α := List UInt8, post := fun q => FRes (slS σ 3) (lcE σ 0 1) q, ex := .exit 0, st := fun q => Y9 (lcE σ 0 0) (lcE σ 0 1) (lcI σ 0 2) (lcI σ 0 3) (lcI σ 0 4) (lcI σ 0 5) q }] }
structure PIr (o : List UInt8) (si : Cells) (i : Int) : Prop where
 iz : i = 0
 is : ∃ l, si = rowI l ∧ Inss l
 oz : o.length ≤ 100000000
structure IRes (o : List UInt8) (si : Cells) (q : List UInt8) : Prop where
 is : ∀ l, si = rowI l → q = o ++ (List.range l.length).flatMap (insT l)
def L9s (σ : St) : Option LSpec := some { pre := σ.tidy [1, 3, 7] 1 = J9i (lcE σ 0 0) (lcE σ 0 1) (lcI σ 0 2) (lcI σ 0 3) (lcI σ 0 4) (lcI σ 0 5) (slS σ 3) (slI σ 7) ∧ PIr (slS σ 3) (lcE σ 0 0) (slI σ 7), alts := [{ α := List UInt8, post := fun q => IRes (slS σ 3) (lcE σ 0 0) q, ex := .exit 4, st := fun q => Y9i (lcE σ 0 0) (lcE σ 0 1) (lcI σ 0 2) (lcI σ 0 3) (lcI σ 0 4) (lcI σ 0 5) q }] }
def T9 : Tab := ((tab0.addC 24 C24).addL 9 4 L9r).addL 9 16 L9s
def C9 := C8
end
end Go.Proofs.Sp
namespace Go.Proofs.Sp
open Go Go.Ef Go.Proofs.Pt
noncomputable section
set_option maxRecDepth 100000
theorem r9p (M : Int) (si : Cells) (sf : Cells) (b : Int) (e : Int) (n : Int) (r : Int) (nm : List UInt8) (en : Int) (ps : Cells) (bs : Cells) (o : List UInt8) (i : Int) (j : Int) (N : List UInt8 → Int → Prop) (X : Prop) (h :
 iteP (decide (j < (↑(List.length ps) : Int)))
 (iteP (strFits o [(32 : UInt8)])
 (iteP (inRange j (List.length ps))
 (getI j.toNat ps = some [AV.sc (Value.string (ByteArray.mk (Array.mk (cellStr ps j (0 : Nat)))))] ∧
 Small (cellStr ps j (0 : Nat)) ∧
 ∀ (x : List UInt8),
 x = quoT (cellStr ps j (0 : Nat)) →
 iteP (strFits (o ++ [(32 : UInt8)]) x)
 (iteP (decide (j < (↑(List.length bs) : Int)))
 (iteP (inRange j (List.length bs))
 (getI j.toNat bs = some [AV.sc (Value.bool (cellBool bs j (0 : Nat)))] ∧
 iteP (cellBool bs j (0 : Nat))
 (iteP (strFits (o ++ [(32 : UInt8)] ++ x) [(91 : UInt8), (93 : UInt8)])
 (J9p si sf b e n r nm en ps bs (o ++ [(32 : UInt8)] ++ x ++ [(91 : UInt8), (93 : UInt8)]) i
 (IntKind.i64.wrap (j + (1 : Int))) =
 J9p si sf b e n r nm en ps bs (o ++ [(32 : UInt8)] ++ x ++ [(91 : UInt8), (93 : UInt8)]) i
 (IntKind.i64.wrap (j + (1 : Int))) ∧
 N (o ++ [(32 : UInt8)] ++ x ++ [(91 : UInt8), (93 : UInt8)])
 (IntKind.i64.wrap (j + (1 : Int))))
 False)
 (J9p si sf b e n r nm en ps bs (o ++ [(32 : UInt8)] ++ x) i (IntKind.i64.wrap (j + (1 : Int))) =
 J9p si sf b e n r nm en ps bs (o ++ [(32 : UInt8)] ++ x) i
 (IntKind.i64.wrap (j + (1 : Int))) ∧
 N (o ++ [(32 : UInt8)] ++ x) (IntKind.i64.wrap (j + (1 : Int)))))
 False)
 (J9p si sf b e n r nm en ps bs (o ++ [(32 : UInt8)] ++ x) i (IntKind.i64.wrap (j + (1 : Int))) =
 J9p si sf b e n r nm en ps bs (o ++ [(32 : UInt8)] ++ x) i (IntKind.i64.wrap (j + (1 : Int))) ∧
 N (o ++ [(32 : UInt8)] ++ x) (IntKind.i64.wrap (j + (1 : Int)))))
 False)
 False)
 False)
 (Ex.exit (2 : Nat) = Ex.exit (2 : Nat) ∧ Y9p si sf b e n r nm en ps bs o i = Y9p si sf b e n r nm en ps bs o i ∧ X)) :
 (fun (M : Int) (si sf : Cells) (b e n r : Int) (nm : List UInt8) (en : Int) (ps bs : Cells) (o : List UInt8) (i j : Int) (N : List UInt8 → Int → Prop) (X : Prop) => wpRound T9p (cfg M) Tryz.prog 60 9 9 (J9p si sf b e n r nm en ps bs o i j) (fun τ => τ = J9p si sf b e n r nm en ps bs (slS τ 3) i (slI τ 6) ∧ N (slS τ 3) (slI τ 6)) (p9p si sf b e n r nm en ps bs o i X)) M si sf b e n r nm en ps bs o i j N X :=
 Eq.mp (by kernel_rfl) h
theorem r9 (M : Int) (si : Cells) (sf : Cells) (b : Int) (e : Int) (n : Int) (r : Int) (o : List UInt8) (i : Int) (N : List UInt8 → Int → Prop) (X : Prop) (h :
 iteP (decide (i < (↑(List.length sf) : Int)))
 (iteP (inRange i (List.length sf))
 (getI i.toNat sf =
 some
 [AV.sc (Value.string (ByteArray.mk (Array.mk (cellStr sf i (0 : Nat))))),
 AV.sc (Value.int IntKind.i64 (cellInt sf i (1 : Nat))), AV.sl (cellSl sf i (2 : Nat)) (0 : Nat),
 AV.sl (cellSl sf i (3 : Nat)) (0 : Nat)] ∧
 iteP
 (strFits o
 [(102 : UInt8), (117 : UInt8), (110 : UInt8), (99 : UInt8), (116 : UInt8), (105 : UInt8), (111 : UInt8),
 (110 : UInt8), (32 : UInt8)])
 (Small (cellStr sf i (0 : Nat)) ∧
 ∀ (x : List UInt8),
 x = quoT (cellStr sf i (0 : Nat)) →
 iteP
 (strFits
 (o ++
 [(102 : UInt8), (117 : UInt8), (110 : UInt8), (99 : UInt8), (116 : UInt8), (105 : UInt8),
 (111 : UInt8), (110 : UInt8), (32 : UInt8)])
 x)
 (iteP
 (strFits
 (o ++
 [(102 : UInt8), (117 : UInt8), (110 : UInt8), (99 : UInt8), (116 : UInt8), (105 : UInt8),
 (111 : UInt8), (110 : UInt8), (32 : UInt8)] ++
 x)
 [(32 : UInt8)])
 (I64 (cellInt sf i (1 : Nat)) ∧
 ∀ (x_1 : List UInt8),
 x_1 = Lib.itoa (cellInt sf i (1 : Nat)) →
 iteP
 (strFits
 (o ++
 [(102 : UInt8), (117 : UInt8), (110 : UInt8), (99 : UInt8), (116 : UInt8),
 (105 : UInt8), (111 : UInt8), (110 : UInt8), (32 : UInt8)] ++
 x ++
 [(32 : UInt8)])
 x_1)
 (loopAt Tryz.prog (9 : Nat) (9 : Nat) = loopAt Tryz.prog (9 : Nat) (9 : Nat) ∧
 (J9p si sf b e n r (cellStr sf i (0 : Nat)) (cellInt sf i (1 : Nat)) (cellSl sf i (2 : Nat))
 (cellSl sf i (3 : Nat))
 (o ++
 [(102 : UInt8), (117 : UInt8), (110 : UInt8), (99 : UInt8), (116 : UInt8),
 (105 : UInt8), (111 : UInt8), (110 : UInt8), (32 : UInt8)] ++
 x ++
 [(32 : UInt8)] ++
 x_1)
 i (0 : Int) =
 J9p si sf b e n r (cellStr sf i (0 : Nat)) (cellInt sf i (1 : Nat))
 (cellSl sf i (2 : Nat)) (cellSl sf i (3 : Nat))
 (o ++
 [(102 : UInt8), (117 : UInt8), (110 : UInt8), (99 : UInt8), (116 : UInt8),
 (105 : UInt8), (111 : UInt8), (110 : UInt8), (32 : UInt8)] ++
 x ++
 [(32 : UInt8)] ++
 x_1)
 i (0 : Int) ∧
 PP
 (o ++
 [(102 : UInt8), (117 : UInt8), (110 : UInt8), (99 : UInt8), (116 : UInt8),
 (105 : UInt8), (111 : UInt8), (110 : UInt8), (32 : UInt8)] ++
 x ++
 [(32 : UInt8)] ++
 x_1)
 (cellSl sf i (2 : Nat)) (cellSl sf i (3 : Nat)) (0 : Int)) ∧
 ∀ (x_2 : List UInt8),
 RP
 (o ++
 [(102 : UInt8), (117 : UInt8), (110 : UInt8), (99 : UInt8), (116 : UInt8),
 (105 : UInt8), (111 : UInt8), (110 : UInt8), (32 : UInt8)] ++
 x ++
 [(32 : UInt8)] ++
 x_1)
 (cellSl sf i (2 : Nat)) (cellSl sf i (3 : Nat)) x_2 →
 iteP (strFits x_2 [(10 : UInt8)])
 (J9 si sf b e n r (x_2 ++ [(10 : UInt8)]) (IntKind.i64.wrap (i + (1 : Int))) =
 J9 si sf b e n r (x_2 ++ [(10 : UInt8)]) (IntKind.i64.wrap (i + (1 : Int))) ∧
 N (x_2 ++ [(10 : UInt8)]) (IntKind.i64.wrap (i + (1 : Int))))
 False)
 False)
 False)
 False)
 False)
 False)
 (Ex.exit (0 : Nat) = Ex.exit (0 : Nat) ∧ Y9 si sf b e n r o = Y9 si sf b e n r o ∧ X)) :
 (fun (M : Int) (si sf : Cells) (b e n r : Int) (o : List UInt8) (i : Int) (N : List UInt8 → Int → Prop) (X : Prop) => wpRound T9f (cfg M) Tryz.prog 80 9 4 (J9 si sf b e n r o i) (fun τ => τ = J9 si sf b e n r (slS τ 3) (slI τ 4) ∧ N (slS τ 3) (slI τ 4)) (p9 si sf b e n r o X)) M si sf b e n r o i N X :=
 Eq.mp (by kernel_rfl) h
theorem r9i (M : Int) (si : Cells) (sf : Cells) (b : Int) (e : Int) (n : Int) (r : Int) (o : List UInt8) (i : Int) (N : List UInt8 → Int → Prop) (X : Prop) (h :
 iteP (decide (i < (↑(List.length si) : Int)))
 (iteP (inRange i (List.length si))
 (getI i.toNat si =
 some
 [AV.sc (Value.int IntKind.i64 (cellInt si i (0 : Nat))),
 AV.sc (Value.int IntKind.i64 (cellInt si i (1 : Nat))),
 AV.sc (Value.int IntKind.i64 (cellInt si i (2 : Nat))),
 AV.sc (Value.int IntKind.i64 (cellInt si i (3 : Nat))),
 AV.sc (Value.string (ByteArray.mk (Array.mk (cellStr si i (4 : Nat))))),
 AV.sc (Value.int IntKind.i64 (cellInt si i (5 : Nat)))] ∧
 I64 (cellInt si i (0 : Nat)) ∧
 ∀ (x : List UInt8),
 x = Lib.itoa (cellInt si i (0 : Nat)) →
 iteP (strFits [(111 : UInt8), (112 : UInt8), (32 : UInt8)] x)
 (iteP (decide ((1 : Int) ≤ cellInt si i (0 : Nat)))
 (iteP (decide (cellInt si i (0 : Nat) ≤ (49 : Int)))
 ((IsList
 ((([(115 : UInt8), (116 : UInt8), (101 : UInt8), (112 : UInt8), (32 : UInt8), (110 : UInt8),
 (117 : UInt8), (109 : UInt8), (98 : UInt8), (101 : UInt8), (114 : UInt8),
 (32 : UInt8), (115 : UInt8), (116 : UInt8), (114 : UInt8), (105 : UInt8),
 (110 : UInt8), (103 : UInt8), (32 : UInt8), (110 : UInt8), (111 : UInt8),
 (110 : UInt8), (101 : UInt8), (32 : UInt8), (114 : UInt8), (101 : UInt8),
 (99 : UInt8), (111 : UInt8), (114 : UInt8), (100 : UInt8), (32 : UInt8),
 (118 : UInt8), (97 : UInt8), (114 : UInt8), (32 : UInt8), (102 : UInt8),
 (105 : UInt8), (101 : UInt8)].append
 [(108 : UInt8), (100 : UInt8), (32 : UInt8), (107 : UInt8), (101 : UInt8),
 (121 : UInt8), (32 : UInt8), (101 : UInt8), (108 : UInt8), (101 : UInt8),
 (109 : UInt8), (32 : UInt8), (105 : UInt8), (110 : UInt8), (32 : UInt8),
 (115 : UInt8), (101 : UInt8), (116 : UInt8), (118 : UInt8), (97 : UInt8),
 (114 : UInt8), (32 : UInt8), (115 : UInt8), (101 : UInt8), (116 : UInt8),
 (102 : UInt8), (105 : UInt8), (101 : UInt8), (108 : UInt8), (100 : UInt8),
 (32 : UInt8), (115 : UInt8), (101 : UInt8), (116 : UInt8), (101 : UInt8),
 (108 : UInt8), (101 : UInt8), (109 : UInt8), (32 : UInt8)]).append
 ([(115 : UInt8), (116 : UInt8), (101 : UInt8), (112 : UInt8), (118 : UInt8), (97 : UInt8),
 (114 : UInt8), (32 : UInt8), (115 : UInt8), (116 : UInt8), (101 : UInt8),
 (112 : UInt8), (102 : UInt8), (105 : UInt8), (101 : UInt8), (108 : UInt8),
 (100 : UInt8), (32 : UInt8), (115 : UInt8), (116 : UInt8), (101 : UInt8),
 (112 : UInt8), (101 : UInt8), (108 : UInt8), (101 : UInt8), (109 : UInt8),
 (32 : UInt8), (109 : UInt8), (97 : UInt8), (116 : UInt8), (99 : UInt8),
 (104 : UInt8), (32 : UInt8), (98 : UInt8), (105 : UInt8), (110 : UInt8),
 (97 : UInt8), (114 : UInt8)].append
 [(121 : UInt8), (32 : UInt8), (99 : UInt8), (111 : UInt8), (110 : UInt8), (99 : UInt8),
 (97 : UInt8), (116 : UInt8), (32 : UInt8), (117 : UInt8), (110 : UInt8), (97 : UInt8),
 (114 : UInt8), (121 : UInt8), (32 : UInt8), (116 : UInt8), (114 : UInt8),
 (117 : UInt8), (116 : UInt8), (104 : UInt8), (32 : UInt8), (106 : UInt8),
 (117 : UInt8), (109 : UInt8), (112 : UInt8), (32 : UInt8), (106 : UInt8),
 (117 : UInt8), (109 : UInt8), (112 : UInt8), (102 : UInt8), (97 : UInt8),
 (108 : UInt8), (115 : UInt8), (101 : UInt8), (32 : UInt8), (106 : UInt8),
 (117 : UInt8), (109 : UInt8)])).append
 (([(112 : UInt8), (116 : UInt8), (114 : UInt8), (117 : UInt8), (101 : UInt8), (32 : UInt8),
 (112 : UInt8), (111 : UInt8), (112 : UInt8), (32 : UInt8), (97 : UInt8),
 (114 : UInt8), (114 : UInt8), (97 : UInt8), (121 : UInt8), (32 : UInt8),
 (110 : UInt8), (101 : UInt8), (119 : UInt8), (97 : UInt8), (114 : UInt8),
 (114 : UInt8), (97 : UInt8), (121 : UInt8), (32 : UInt8), (99 : UInt8),
 (97 : UInt8), (108 : UInt8), (108 : UInt8), (32 : UInt8), (114 : UInt8),
 (101 : UInt8), (116 : UInt8), (117 : UInt8), (114 : UInt8), (110 : UInt8),
 (32 : UInt8), (103 : UInt8)].append
 [(101 : UInt8), (116 : UInt8), (32 : UInt8), (112 : UInt8), (117 : UInt8),
 (114 : UInt8), (101 : UInt8), (32 : UInt8), (115 : UInt8), (112 : UInt8),
 (108 : UInt8), (105 : UInt8), (116 : UInt8), (32 : UInt8), (115 : UInt8),
 (117 : UInt8), (98 : UInt8), (32 : UInt8), (102 : UInt8), (105 : UInt8),
 (110 : UInt8), (100 : UInt8), (32 : UInt8), (106 : UInt8), (111 : UInt8),
 (105 : UInt8), (110 : UInt8), (32 : UInt8), (115 : UInt8), (112 : UInt8),
 (114 : UInt8), (105 : UInt8), (110 : UInt8), (116 : UInt8), (102 : UInt8),
 (32 : UInt8), (119 : UInt8), (114 : UInt8), (105 : UInt8)]).append
 ([(116 : UInt8), (101 : UInt8), (32 : UInt8), (108 : UInt8), (105 : UInt8), (115 : UInt8),
 (116 : UInt8), (32 : UInt8), (110 : UInt8), (101 : UInt8), (120 : UInt8),
 (116 : UInt8), (32 : UInt8), (100 : UInt8), (114 : UInt8), (111 : UInt8),
 (112 : UInt8), (108 : UInt8), (105 : UInt8), (115 : UInt8), (116 : UInt8),
 (32 : UInt8), (100 : UInt8), (101 : UInt8), (108 : UInt8), (101 : UInt8),
 (116 : UInt8), (101 : UInt8), (32 : UInt8), (99 : UInt8), (108 : UInt8),
 (101 : UInt8), (97 : UInt8), (114 : UInt8), (32 : UInt8), (110 : UInt8),
 (101 : UInt8), (120 : UInt8)].append
 [(116 : UInt8), (114 : UInt8), (101 : UInt8), (99 : UInt8), (111 : UInt8), (114 : UInt8),
 (100 : UInt8), (32 : UInt8), (101 : UInt8), (120 : UInt8), (105 : UInt8), (116 : UInt8),
 (32 : UInt8), (114 : UInt8), (97 : UInt8), (110 : UInt8), (103 : UInt8), (101 : UInt8),
 (32 : UInt8), (111 : UInt8), (112 : UInt8), (101 : UInt8), (110 : UInt8), (32 : UInt8),
 (99 : UInt8), (108 : UInt8), (111 : UInt8), (115 : UInt8), (101 : UInt8), (32 : UInt8),
 (100 : UInt8), (111 : UInt8), (110 : UInt8), (101 : UInt8), (32 : UInt8), (113 : UInt8),
 (117 : UInt8), (105 : UInt8), (116 : UInt8)]))) ∧
 Idx (IntKind.i64.wrap (cellInt si i (0 : Nat) - (1 : Int)))) ∧
 ∀ (x : List UInt8),
 x =
 wordAt
 ((([(115 : UInt8), (116 : UInt8), (101 : UInt8), (112 : UInt8), (32 : UInt8), (110 : UInt8),
 (117 : UInt8), (109 : UInt8), (98 : UInt8), (101 : UInt8), (114 : UInt8),
 (32 : UInt8), (115 : UInt8), (116 : UInt8), (114 : UInt8), (105 : UInt8),
 (110 : UInt8), (103 : UInt8), (32 : UInt8), (110 : UInt8), (111 : UInt8),
 (110 : UInt8), (101 : UInt8), (32 : UInt8), (114 : UInt8), (101 : UInt8),
 (99 : UInt8), (111 : UInt8), (114 : UInt8), (100 : UInt8), (32 : UInt8),
 (118 : UInt8), (97 : UInt8), (114 : UInt8), (32 : UInt8), (102 : UInt8),
 (105 : UInt8), (101 : UInt8)].append
 [(108 : UInt8), (100 : UInt8), (32 : UInt8), (107 : UInt8), (101 : UInt8),
 (121 : UInt8), (32 : UInt8), (101 : UInt8), (108 : UInt8), (101 : UInt8),
 (109 : UInt8), (32 : UInt8), (105 : UInt8), (110 : UInt8), (32 : UInt8),
 (115 : UInt8), (101 : UInt8), (116 : UInt8), (118 : UInt8), (97 : UInt8),
 (114 : UInt8), (32 : UInt8), (115 : UInt8), (101 : UInt8), (116 : UInt8),
 (102 : UInt8), (105 : UInt8), (101 : UInt8), (108 : UInt8), (100 : UInt8),
 (32 : UInt8), (115 : UInt8), (101 : UInt8), (116 : UInt8), (101 : UInt8),
 (108 : UInt8), (101 : UInt8), (109 : UInt8), (32 : UInt8)]).append
 ([(115 : UInt8), (116 : UInt8), (101 : UInt8), (112 : UInt8), (118 : UInt8),
 (97 : UInt8), (114 : UInt8), (32 : UInt8), (115 : UInt8), (116 : UInt8),
 (101 : UInt8), (112 : UInt8), (102 : UInt8), (105 : UInt8), (101 : UInt8),
 (108 : UInt8), (100 : UInt8), (32 : UInt8), (115 : UInt8), (116 : UInt8),
 (101 : UInt8), (112 : UInt8), (101 : UInt8), (108 : UInt8), (101 : UInt8),
 (109 : UInt8), (32 : UInt8), (109 : UInt8), (97 : UInt8), (116 : UInt8),
 (99 : UInt8), (104 : UInt8), (32 : UInt8), (98 : UInt8), (105 : UInt8),
 (110 : UInt8), (97 : UInt8), (114 : UInt8)].append
 [(121 : UInt8), (32 : UInt8), (99 : UInt8), (111 : UInt8), (110 : UInt8),
 (99 : UInt8), (97 : UInt8), (116 : UInt8), (32 : UInt8), (117 : UInt8),
 (110 : UInt8), (97 : UInt8), (114 : UInt8), (121 : UInt8), (32 : UInt8),
 (116 : UInt8), (114 : UInt8), (117 : UInt8), (116 : UInt8), (104 : UInt8),
 (32 : UInt8), (106 : UInt8), (117 : UInt8), (109 : UInt8), (112 : UInt8),
 (32 : UInt8), (106 : UInt8), (117 : UInt8), (109 : UInt8), (112 : UInt8),
 (102 : UInt8), (97 : UInt8), (108 : UInt8), (115 : UInt8), (101 : UInt8),
 (32 : UInt8), (106 : UInt8), (117 : UInt8), (109 : UInt8)])).append
 (([(112 : UInt8), (116 : UInt8), (114 : UInt8), (117 : UInt8), (101 : UInt8),
 (32 : UInt8), (112 : UInt8), (111 : UInt8), (112 : UInt8), (32 : UInt8),
 (97 : UInt8), (114 : UInt8), (114 : UInt8), (97 : UInt8), (121 : UInt8),
 (32 : UInt8), (110 : UInt8), (101 : UInt8), (119 : UInt8), (97 : UInt8),
 (114 : UInt8), (114 : UInt8), (97 : UInt8), (121 : UInt8), (32 : UInt8),
 (99 : UInt8), (97 : UInt8), (108 : UInt8), (108 : UInt8), (32 : UInt8),
 (114 : UInt8), (101 : UInt8), (116 : UInt8), (117 : UInt8), (114 : UInt8),
 (110 : UInt8), (32 : UInt8), (103 : UInt8)].append
 [(101 : UInt8), (116 : UInt8), (32 : UInt8), (112 : UInt8), (117 : UInt8),
 (114 : UInt8), (101 : UInt8), (32 : UInt8), (115 : UInt8), (112 : UInt8),
 (108 : UInt8), (105 : UInt8), (116 : UInt8), (32 : UInt8), (115 : UInt8),
 (117 : UInt8), (98 : UInt8), (32 : UInt8), (102 : UInt8), (105 : UInt8),
 (110 : UInt8), (100 : UInt8), (32 : UInt8), (106 : UInt8), (111 : UInt8),
 (105 : UInt8), (110 : UInt8), (32 : UInt8), (115 : UInt8), (112 : UInt8),
 (114 : UInt8), (105 : UInt8), (110 : UInt8), (116 : UInt8), (102 : UInt8),
 (32 : UInt8), (119 : UInt8), (114 : UInt8), (105 : UInt8)]).append
 ([(116 : UInt8), (101 : UInt8), (32 : UInt8), (108 : UInt8), (105 : UInt8),
 (115 : UInt8), (116 : UInt8), (32 : UInt8), (110 : UInt8), (101 : UInt8),
 (120 : UInt8), (116 : UInt8), (32 : UInt8), (100 : UInt8), (114 : UInt8),
 (111 : UInt8), (112 : UInt8), (108 : UInt8), (105 : UInt8), (115 : UInt8),
 (116 : UInt8), (32 : UInt8), (100 : UInt8), (101 : UInt8), (108 : UInt8),
 (101 : UInt8), (116 : UInt8), (101 : UInt8), (32 : UInt8), (99 : UInt8),
 (108 : UInt8), (101 : UInt8), (97 : UInt8), (114 : UInt8), (32 : UInt8),
 (110 : UInt8), (101 : UInt8), (120 : UInt8)].append
 [(116 : UInt8), (114 : UInt8), (101 : UInt8), (99 : UInt8), (111 : UInt8),
 (114 : UInt8), (100 : UInt8), (32 : UInt8), (101 : UInt8), (120 : UInt8),
 (105 : UInt8), (116 : UInt8), (32 : UInt8), (114 : UInt8), (97 : UInt8),
 (110 : UInt8), (103 : UInt8), (101 : UInt8), (32 : UInt8), (111 : UInt8),
 (112 : UInt8), (101 : UInt8), (110 : UInt8), (32 : UInt8), (99 : UInt8),
 (108 : UInt8), (111 : UInt8), (115 : UInt8), (101 : UInt8), (32 : UInt8),
 (100 : UInt8), (111 : UInt8), (110 : UInt8), (101 : UInt8), (32 : UInt8),
 (113 : UInt8), (117 : UInt8), (105 : UInt8), (116 : UInt8)])))
 (IntKind.i64.wrap (cellInt si i (0 : Nat) - (1 : Int))) →
 (IsList
 ([(45 : UInt8), (32 : UInt8), (78 : UInt8), (32 : UInt8), (84 : UInt8), (32 : UInt8),
 (45 : UInt8), (32 : UInt8), (84 : UInt8), (32 : UInt8), (88 : UInt8), (84 : UInt8),
 (32 : UInt8), (45 : UInt8), (32 : UInt8), (89 : UInt8), (32 : UInt8), (88 : UInt8),
 (84 : UInt8), (32 : UInt8), (88 : UInt8), (84 : UInt8), (32 : UInt8), (88 : UInt8),
 (89 : UInt8), (84 : UInt8), (32 : UInt8), (89 : UInt8), (32 : UInt8), (88 : UInt8),
 (89 : UInt8), (84 : UInt8), (32 : UInt8), (88 : UInt8), (89 : UInt8), (84 : UInt8),
 (32 : UInt8), (89 : UInt8), (32 : UInt8), (88 : UInt8), (89 : UInt8), (84 : UInt8),
 (32 : UInt8), (89 : UInt8), (32 : UInt8), (89 : UInt8), (32 : UInt8), (45 : UInt8),
 (32 : UInt8), (89 : UInt8), (32 : UInt8), (45 : UInt8), (32 : UInt8), (88 : UInt8),
 (32 : UInt8), (88 : UInt8), (32 : UInt8), (88 : UInt8), (32 : UInt8)].append
 [(45 : UInt8), (32 : UInt8), (88 : UInt8), (84 : UInt8), (32 : UInt8), (45 : UInt8),
 (32 : UInt8), (88 : UInt8), (32 : UInt8), (45 : UInt8), (32 : UInt8), (88 : UInt8),
 (89 : UInt8), (84 : UInt8), (32 : UInt8), (89 : UInt8), (84 : UInt8), (32 : UInt8),
 (88 : UInt8), (84 : UInt8), (32 : UInt8), (88 : UInt8), (89 : UInt8), (84 : UInt8),
 (32 : UInt8), (45 : UInt8), (32 : UInt8), (89 : UInt8), (32 : UInt8), (89 : UInt8),
 (32 : UInt8), (88 : UInt8), (32 : UInt8), (88 : UInt8), (84 : UInt8), (32 : UInt8),
 (88 : UInt8), (32 : UInt8), (45 : UInt8), (32 : UInt8), (88 : UInt8), (84 : UInt8),
 (32 : UInt8), (88 : UInt8), (84 : UInt8), (32 : UInt8), (45 : UInt8), (32 : UInt8),
 (89 : UInt8), (32 : UInt8), (88 : UInt8), (89 : UInt8), (32 : UInt8), (89 : UInt8),
 (32 : UInt8), (89 : UInt8), (32 : UInt8), (45 : UInt8), (32 : UInt8), (45 : UInt8)]) ∧
 Idx (IntKind.i64.wrap (cellInt si i (0 : Nat) - (1 : Int)))) ∧
 ∀ (x_1 : List UInt8),
 x_1 =
 wordAt
 ([(45 : UInt8), (32 : UInt8), (78 : UInt8), (32 : UInt8), (84 : UInt8), (32 : UInt8),
 (45 : UInt8), (32 : UInt8), (84 : UInt8), (32 : UInt8), (88 : UInt8),
 (84 : UInt8), (32 : UInt8), (45 : UInt8), (32 : UInt8), (89 : UInt8),
 (32 : UInt8), (88 : UInt8), (84 : UInt8), (32 : UInt8), (88 : UInt8),
 (84 : UInt8), (32 : UInt8), (88 : UInt8), (89 : UInt8), (84 : UInt8),
 (32 : UInt8), (89 : UInt8), (32 : UInt8), (88 : UInt8), (89 : UInt8),
 (84 : UInt8), (32 : UInt8), (88 : UInt8), (89 : UInt8), (84 : UInt8),
 (32 : UInt8), (89 : UInt8), (32 : UInt8), (88 : UInt8), (89 : UInt8),
 (84 : UInt8), (32 : UInt8), (89 : UInt8), (32 : UInt8), (89 : UInt8),
 (32 : UInt8), (45 : UInt8), (32 : UInt8), (89 : UInt8), (32 : UInt8),
 (45 : UInt8), (32 : UInt8), (88 : UInt8), (32 : UInt8), (88 : UInt8),
 (32 : UInt8), (88 : UInt8), (32 : UInt8)].append
 [(45 : UInt8), (32 : UInt8), (88 : UInt8), (84 : UInt8), (32 : UInt8), (45 : UInt8),
 (32 : UInt8), (88 : UInt8), (32 : UInt8), (45 : UInt8), (32 : UInt8),
 (88 : UInt8), (89 : UInt8), (84 : UInt8), (32 : UInt8), (89 : UInt8),
 (84 : UInt8), (32 : UInt8), (88 : UInt8), (84 : UInt8), (32 : UInt8),
 (88 : UInt8), (89 : UInt8), (84 : UInt8), (32 : UInt8), (45 : UInt8),
 (32 : UInt8), (89 : UInt8), (32 : UInt8), (89 : UInt8), (32 : UInt8),
 (88 : UInt8), (32 : UInt8), (88 : UInt8), (84 : UInt8), (32 : UInt8),
 (88 : UInt8), (32 : UInt8), (45 : UInt8), (32 : UInt8), (88 : UInt8),
 (84 : UInt8), (32 : UInt8), (88 : UInt8), (84 : UInt8), (32 : UInt8),
 (45 : UInt8), (32 : UInt8), (89 : UInt8), (32 : UInt8), (88 : UInt8),
 (89 : UInt8), (32 : UInt8), (89 : UInt8), (32 : UInt8), (89 : UInt8),
 (32 : UInt8), (45 : UInt8), (32 : UInt8), (45 : UInt8)])
 (IntKind.i64.wrap (cellInt si i (0 : Nat) - (1 : Int))) →
 (InstOk (cellInt si i (0 : Nat)) (cellInt si i (1 : Nat)) (cellInt si i (2 : Nat))
 (cellInt si i (3 : Nat)) (cellStr si i (4 : Nat)) ∧
 Short x_1) ∧
 ∀ (x_2 : List UInt8),
 x_2 =
 opsR (cellInt si i (1 : Nat)) (cellInt si i (2 : Nat)) (cellInt si i (3 : Nat))
 (cellStr si i (4 : Nat)) x_1 →
 iteP (strFits x x_2)
 (I64 i ∧
 ∀ (x_3 : List UInt8),
 x_3 = Lib.itoa i →
 iteP (strFits o x_3)
 (iteP (strFits (o ++ x_3) [(32 : UInt8)])
 (iteP (strFits (o ++ x_3 ++ [(32 : UInt8)]) (x ++ x_2))
 (iteP
 (strFits (o ++ x_3 ++ [(32 : UInt8)] ++ (x ++ x_2)) [(10 : UInt8)])
 (J9i si sf b e n r
 (o ++ x_3 ++ [(32 : UInt8)] ++ (x ++ x_2) ++ [(10 : UInt8)])
 (IntKind.i64.wrap (i + (1 : Int))) =
 J9i si sf b e n r
 (o ++ x_3 ++ [(32 : UInt8)] ++ (x ++ x_2) ++ [(10 : UInt8)])
 (IntKind.i64.wrap (i + (1 : Int))) ∧
 N (o ++ x_3 ++ [(32 : UInt8)] ++ (x ++ x_2) ++ [(10 : UInt8)])
 (IntKind.i64.wrap (i + (1 : Int))))
 False)
 False)
 False)
 False)
 False)
 (I64 i ∧
 ∀ (x_1 : List UInt8),
 x_1 = Lib.itoa i →
 iteP (strFits o x_1)
 (iteP (strFits (o ++ x_1) [(32 : UInt8)])
 (iteP
 (strFits (o ++ x_1 ++ [(32 : UInt8)]) ([(111 : UInt8), (112 : UInt8), (32 : UInt8)] ++ x))
 (iteP
 (strFits
 (o ++ x_1 ++ [(32 : UInt8)] ++ ([(111 : UInt8), (112 : UInt8), (32 : UInt8)] ++ x))
 [(10 : UInt8)])
 (J9i si sf b e n r
 (o ++ x_1 ++ [(32 : UInt8)] ++
 ([(111 : UInt8), (112 : UInt8), (32 : UInt8)] ++ x) ++
 [(10 : UInt8)])
 (IntKind.i64.wrap (i + (1 : Int))) =
 J9i si sf b e n r
 (o ++ x_1 ++ [(32 : UInt8)] ++
 ([(111 : UInt8), (112 : UInt8), (32 : UInt8)] ++ x) ++
 [(10 : UInt8)])
 (IntKind.i64.wrap (i + (1 : Int))) ∧
 N
 (o ++ x_1 ++ [(32 : UInt8)] ++
 ([(111 : UInt8), (112 : UInt8), (32 : UInt8)] ++ x) ++
 [(10 : UInt8)])
 (IntKind.i64.wrap (i + (1 : Int))))
 False)
 False)
 False)
 False))
 (I64 i ∧
 ∀ (x_1 : List UInt8),
 x_1 = Lib.itoa i →
 iteP (strFits o x_1)
 (iteP (strFits (o ++ x_1) [(32 : UInt8)])
 (iteP
 (strFits (o ++ x_1 ++ [(32 : UInt8)]) ([(111 : UInt8), (112 : UInt8), (32 : UInt8)] ++ x))
 (iteP
 (strFits
 (o ++ x_1 ++ [(32 : UInt8)] ++ ([(111 : UInt8), (112 : UInt8), (32 : UInt8)] ++ x))
 [(10 : UInt8)])
 (J9i si sf b e n r
 (o ++ x_1 ++ [(32 : UInt8)] ++
 ([(111 : UInt8), (112 : UInt8), (32 : UInt8)] ++ x) ++
 [(10 : UInt8)])
 (IntKind.i64.wrap (i + (1 : Int))) =
 J9i si sf b e n r
 (o ++ x_1 ++ [(32 : UInt8)] ++
 ([(111 : UInt8), (112 : UInt8), (32 : UInt8)] ++ x) ++
 [(10 : UInt8)])
 (IntKind.i64.wrap (i + (1 : Int))) ∧
 N
 (o ++ x_1 ++ [(32 : UInt8)] ++ ([(111 : UInt8), (112 : UInt8), (32 : UInt8)] ++ x) ++
 [(10 : UInt8)])
 (IntKind.i64.wrap (i + (1 : Int))))
 False)
 False)
 False)
 False))
 False)
 False)
 (Ex.exit (4 : Nat) = Ex.exit (4 : Nat) ∧ Y9i si sf b e n r o = Y9i si sf b e n r o ∧ X)) :
 (fun (M : Int) (si sf : Cells) (b e n r : Int) (o : List UInt8) (i : Int) (N : List UInt8 → Int → Prop) (X : Prop) => wpRound T9i (cfg M) Tryz.prog 80 9 16 (J9i si sf b e n r o i) (fun τ => τ = J9i si sf b e n r (slS τ 3) (slI τ 7) ∧ N (slS τ 3) (slI τ 7)) (p9i si sf b e n r o X)) M si sf b e n r o i N X :=
 Eq.mp (by kernel_rfl) h
theorem v9 (M : Int) (si : Cells) (sf : Cells) (b : Int) (e : Int) (n : Int) (r : Int) (K : AV → Prop) (h :
 I64 b ∧
 ∀ (x : List UInt8),
 x = Lib.itoa b →
 iteP (strFits [(98 : UInt8), (101 : UInt8), (103 : UInt8), (105 : UInt8), (110 : UInt8), (32 : UInt8)] x)
 (iteP
 (strFits ([(98 : UInt8), (101 : UInt8), (103 : UInt8), (105 : UInt8), (110 : UInt8), (32 : UInt8)] ++ x)
 [(10 : UInt8), (101 : UInt8), (97 : UInt8), (99 : UInt8), (104 : UInt8), (32 : UInt8)])
 (I64 e ∧
 ∀ (x_1 : List UInt8),
 x_1 = Lib.itoa e →
 iteP
 (strFits
 ([(98 : UInt8), (101 : UInt8), (103 : UInt8), (105 : UInt8), (110 : UInt8), (32 : UInt8)] ++ x ++
 [(10 : UInt8), (101 : UInt8), (97 : UInt8), (99 : UInt8), (104 : UInt8), (32 : UInt8)])
 x_1)
 (iteP
 (strFits
 ([(98 : UInt8), (101 : UInt8), (103 : UInt8), (105 : UInt8), (110 : UInt8), (32 : UInt8)] ++ x ++
 [(10 : UInt8), (101 : UInt8), (97 : UInt8), (99 : UInt8), (104 : UInt8), (32 : UInt8)] ++
 x_1)
 [(10 : UInt8), (101 : UInt8), (110 : UInt8), (100 : UInt8), (32 : UInt8)])
 (I64 n ∧
 ∀ (x_2 : List UInt8),
 x_2 = Lib.itoa n →
 iteP
 (strFits
 ([(98 : UInt8), (101 : UInt8), (103 : UInt8), (105 : UInt8), (110 : UInt8),
 (32 : UInt8)] ++
 x ++
 [(10 : UInt8), (101 : UInt8), (97 : UInt8), (99 : UInt8), (104 : UInt8),
 (32 : UInt8)] ++
 x_1 ++
 [(10 : UInt8), (101 : UInt8), (110 : UInt8), (100 : UInt8), (32 : UInt8)])
 x_2)
 (iteP
 (strFits
 ([(98 : UInt8), (101 : UInt8), (103 : UInt8), (105 : UInt8), (110 : UInt8),
 (32 : UInt8)] ++
 x ++
 [(10 : UInt8), (101 : UInt8), (97 : UInt8), (99 : UInt8), (104 : UInt8),
 (32 : UInt8)] ++
 x_1 ++
 [(10 : UInt8), (101 : UInt8), (110 : UInt8), (100 : UInt8), (32 : UInt8)] ++
 x_2)
 [(10 : UInt8), (114 : UInt8), (97 : UInt8), (110 : UInt8), (103 : UInt8), (101 : UInt8),
 (115 : UInt8), (32 : UInt8)])
 (I64 r ∧
 ∀ (x_3 : List UInt8),
 x_3 = Lib.itoa r →
 iteP
 (strFits
 ([(98 : UInt8), (101 : UInt8), (103 : UInt8), (105 : UInt8), (110 : UInt8),
 (32 : UInt8)] ++
 x ++
 [(10 : UInt8), (101 : UInt8), (97 : UInt8), (99 : UInt8),
 (104 : UInt8), (32 : UInt8)] ++
 x_1 ++
 [(10 : UInt8), (101 : UInt8), (110 : UInt8), (100 : UInt8),
 (32 : UInt8)] ++
 x_2 ++
 [(10 : UInt8), (114 : UInt8), (97 : UInt8), (110 : UInt8), (103 : UInt8),
 (101 : UInt8), (115 : UInt8), (32 : UInt8)])
 x_3)
 (iteP
 (strFits
 ([(98 : UInt8), (101 : UInt8), (103 : UInt8), (105 : UInt8), (110 : UInt8),
 (32 : UInt8)] ++
 x ++
 [(10 : UInt8), (101 : UInt8), (97 : UInt8), (99 : UInt8),
 (104 : UInt8), (32 : UInt8)] ++
 x_1 ++
 [(10 : UInt8), (101 : UInt8), (110 : UInt8), (100 : UInt8),
 (32 : UInt8)] ++
 x_2 ++
 [(10 : UInt8), (114 : UInt8), (97 : UInt8), (110 : UInt8), (103 : UInt8),
 (101 : UInt8), (115 : UInt8), (32 : UInt8)] ++
 x_3)
 [(10 : UInt8)])
 (loopAt Tryz.prog (9 : Nat) (4 : Nat) = loopAt Tryz.prog (9 : Nat) (4 : Nat) ∧
 (J9 si sf b e n r
 ([(98 : UInt8), (101 : UInt8), (103 : UInt8), (105 : UInt8),
 (110 : UInt8), (32 : UInt8)] ++
 x ++
 [(10 : UInt8), (101 : UInt8), (97 : UInt8),
 (99 : UInt8), (104 : UInt8), (32 : UInt8)] ++
 x_1 ++
 [(10 : UInt8), (101 : UInt8), (110 : UInt8), (100 : UInt8),
 (32 : UInt8)] ++
 x_2 ++
 [(10 : UInt8), (114 : UInt8), (97 : UInt8), (110 : UInt8),
 (103 : UInt8), (101 : UInt8), (115 : UInt8), (32 : UInt8)] ++
 x_3 ++
 [(10 : UInt8)])
 (0 : Int) =
 J9 si sf b e n r
 ([(98 : UInt8), (101 : UInt8), (103 : UInt8), (105 : UInt8),
 (110 : UInt8), (32 : UInt8)] ++
 x ++
 [(10 : UInt8), (101 : UInt8), (97 : UInt8),
 (99 : UInt8), (104 : UInt8), (32 : UInt8)] ++
 x_1 ++
 [(10 : UInt8), (101 : UInt8), (110 : UInt8), (100 : UInt8),
 (32 : UInt8)] ++
 x_2 ++
 [(10 : UInt8), (114 : UInt8), (97 : UInt8), (110 : UInt8),
 (103 : UInt8), (101 : UInt8), (115 : UInt8), (32 : UInt8)] ++
 x_3 ++
 [(10 : UInt8)])
 (0 : Int) ∧
 PFr
 ([(98 : UInt8), (101 : UInt8), (103 : UInt8), (105 : UInt8),
 (110 : UInt8), (32 : UInt8)] ++
 x ++
 [(10 : UInt8), (101 : UInt8), (97 : UInt8), (99 : UInt8),
 (104 : UInt8), (32 : UInt8)] ++
 x_1 ++
 [(10 : UInt8), (101 : UInt8), (110 : UInt8), (100 : UInt8),
 (32 : UInt8)] ++
 x_2 ++
 [(10 : UInt8), (114 : UInt8), (97 : UInt8), (110 : UInt8),
 (103 : UInt8), (101 : UInt8), (115 : UInt8), (32 : UInt8)] ++
 x_3 ++
 [(10 : UInt8)])
 sf (0 : Int)) ∧
 ∀ (x_4 : List UInt8),
 FRes
 ([(98 : UInt8), (101 : UInt8), (103 : UInt8), (105 : UInt8),
 (110 : UInt8), (32 : UInt8)] ++
 x ++
 [(10 : UInt8), (101 : UInt8), (97 : UInt8),
 (99 : UInt8), (104 : UInt8), (32 : UInt8)] ++
 x_1 ++
 [(10 : UInt8), (101 : UInt8), (110 : UInt8), (100 : UInt8),
 (32 : UInt8)] ++
 x_2 ++
 [(10 : UInt8), (114 : UInt8), (97 : UInt8), (110 : UInt8),
 (103 : UInt8), (101 : UInt8), (115 : UInt8), (32 : UInt8)] ++
 x_3 ++
 [(10 : UInt8)])
 sf x_4 →
 loopAt Tryz.prog (9 : Nat) (16 : Nat) =
 loopAt Tryz.prog (9 : Nat) (16 : Nat) ∧
 (J9i si sf b e n r x_4 (0 : Int) = J9i si sf b e n r x_4 (0 : Int) ∧
 PIr x_4 si (0 : Int)) ∧
 ∀ (x : List UInt8),
 IRes x_4 si x →
 K (AV.sc (Value.string (ByteArray.mk (Array.mk x)))))
 False)
 False)
 False)
 False)
 False)
 False)
 False)
 False) :
 (fun (M : Int) (si sf : Cells) (b e n r : Int) (K : AV → Prop) => wpCall T9 (cfg M) Tryz.prog 80 9 [codeA si sf b e n r] heapF fun r h' => wpBack h' r K) M si sf b e n r K :=
 Eq.mp (by kernel_rfl) h
end
end Go.Proofs.Sp
namespace Go.Proofs.Sp
open Go Go.Ef Go.Proofs.Pt
noncomputable section
set_option maxRecDepth 100000
variable {M : Int}
theorem tail_app (a b : List (List UInt8)) : Lib.joinTail [32] (a ++ b) = Lib.joinTail [32] a ++ Lib.joinTail [32] b := by
 unfold Lib.joinTail; rw [List.map_append, List.flatten_append]
theorem tail_one (w : List UInt8) : Lib.joinTail [32] [w] = [32] ++ w := by unfold Lib.joinTail; simp
theorem ok9pT : Ok M T9p := ok25 ok0
theorem loop9p {si sf : Cells} {b e n r i : Int} {nm : List UInt8} {en : Int} {l : List (List UInt8)} {m : List Bool} {o : List UInt8} (hs : ∀ p ∈ l, Small p) (hl : l.length ≤ 1048576) (ho : o.length ≤ 1000000000000) :
  ∀ (kk j : Nat), j + kk = l.length → (Lib.joinTail [32] (wordsT l m j)).length ≤ 100000000 * j →
  Ev (cfg M) Tryz.prog 9 (.loop (loopAt Tryz.prog 9 9)) (J9p si sf b e n r nm en (rowS l) (rowO m) (o ++ Lib.joinTail [32] (wordsT l m j)) i j) fun ex τ => ex = .exit 2 ∧ τ = Y9p si sf b e n r nm en (rowS l) (rowO m) (o ++ Lib.joinTail [32] (wordsT l m l.length)) i := by
 intro kk
 induction kk with
 | zero =>
  intro j hj _
  refine Ev.round (O := ok9pT) (n := 60) (t := ⟨[1, 3, 4, 5, 6], [1, 3, 4], 2⟩) (by kernel_rfl) (by kernel_rfl) rfl
   (r9p M si sf b e n r nm en (rowS l) (rowO m) _ i j (fun _ _ => False) True (ie (df (by rw [rowS_len]; omega)) ⟨rfl, rfl, trivial⟩)) (fun _ h => h.2.elim) (fun ex τ hx => ?_)
  unfold p9p at hx
  split at hx
  ·have : j = l.length := by omega
   subst this
   exact ⟨hx.1, hx.2.1⟩
  ·exact hx.elim
 | succ kk ih =>
  intro j hj hb
  have hlt : j < l.length := by omega
  have hw : IntKind.i64.wrap ((j : Int) + 1) = ((j + 1 : Nat) : Int) := by rw [wrap_in (by omega) (by omega)]; omega
  obtain ⟨s1, s2⟩ := rowS_at hlt
  have hsm : Small l[j] := hs _ (List.getElem_mem hlt)
  have hq := quoT_len l[j]
  have hsl := hsm.le
  obtain ⟨acc, ha⟩ : ∃ acc, Lib.joinTail [32] (wordsT l m j) = acc := ⟨_, rfl⟩
  have hT : Lib.joinTail [32] (wordsT l m (j + 1)) = acc ++ ([32] ++ parW l m j) := by rw [wordsT_succ, tail_app, ha, tail_one]
  rw [ha] at hb ⊢
  have hpl := parW_len l m j
  rw [List.getElem?_eq_getElem hlt] at hpl
  simp only [Option.getD_some] at hpl
  have fin : ∀ w : List UInt8, w = o ++ acc ++ ([32] ++ parW l m j) → J9p si sf b e n r nm en (rowS l) (rowO m) w i (IntKind.i64.wrap ((j : Int) + 1)) = J9p si sf b e n r nm en (rowS l) (rowO m) w i (IntKind.i64.wrap ((j : Int) + 1)) ∧
    w = o ++ Lib.joinTail [32] (wordsT l m (j + 1)) ∧ IntKind.i64.wrap ((j : Int) + 1) = ((j + 1 : Nat) : Int) := by
   intro w h
   refine ⟨rfl, ?_, hw⟩
   rw [h, hT, List.append_assoc]
  refine Ev.round (O := ok9pT) (n := 60) (t := ⟨[1, 3, 4, 5, 6], [1, 3, 4], 2⟩) (by kernel_rfl) (by kernel_rfl) rfl
   (r9p M si sf b e n r nm en (rowS l) (rowO m) (o ++ acc) i j (fun w j' => w = o ++ Lib.joinTail [32] (wordsT l m (j + 1)) ∧ j' = ((j + 1 : Nat) : Int)) False (it (dt (by rw [rowS_len]; omega)) ?_)) (fun τ h => ?_) (fun ex τ hx => ?_)
  ·refine it (fitsS (by simp; omega)) (it (by rw [inRange_iff, rowS_len]; omega) ?_)
   rw [s2]
   refine ⟨by rw [Int.toNat_natCast]; exact s1, hsm, fun x hx => it (fitsS (by rw [hx]; simp; omega)) ?_⟩
   have hp : parW l m j = x ++ (if (m[j]?).getD false then [91, 93] else []) := by
    rw [hx]; unfold parW; rw [List.getElem?_eq_getElem hlt]; rfl
   refine iti (fun q => ?_) (fun q => ?_)
   ·have q := of_decide_eq_true q
    rw [rowO_len] at q
    have hjm : j < m.length := by omega
    obtain ⟨o1, o2⟩ := rowO_at hjm
    refine it (by rw [inRange_iff, rowO_len]; omega) ⟨by rw [Int.toNat_natCast, o2]; exact o1, ?_⟩
    rw [o2]
    rw [List.getElem?_eq_getElem hjm] at hp
    refine iti (fun v => it (fitsS (by rw [hx]; simp; omega)) (fin _ ?_)) (fun v => fin _ ?_)
    ·rw [hp, v]; simp
    ·rw [hp, v]; simp
   ·have q := of_decide_eq_false q
    rw [rowO_len] at q
    rw [List.getElem?_eq_none (by omega)] at hp
    exact fin _ (by rw [hp]; simp)
  ·obtain ⟨h1, h2, h3⟩ := h
   rw [h1, h2, h3]
   exact ih (j + 1) (by omega) (by rw [hT]; simp; omega)
  ·unfold p9p at hx
   split at hx
   ·exact hx.2.2.elim
   ·exact hx.elim
theorem okL9p {T : Tab} (O : Ok M T) : Ok M (T.addL 9 9 L9p) := by
 refine addL_ok O fun σ s hs hp => ?_
 cases hs
 obtain ⟨h1, h2⟩ := hp
 obtain ⟨l, hl, hsm, hll⟩ := h2.pz
 obtain ⟨m, hm⟩ := h2.bz
 have hoz := h2.oz
 rw [hl, hm, h2.jz] at h1
 have e0 : slS σ 3 ++ Lib.joinTail [32] (wordsT l m 0) = slS σ 3 := by simp [wordsT, Lib.joinTail]
 obtain ⟨mm, ex, τ, g1, g2, g3⟩ := Ev.tidied (t := ⟨[1, 3, 4, 5, 6], [1, 3, 4], 2⟩) (by kernel_rfl) (σ := σ) (τ := J9p (lcE σ 0 0) (lcE σ 0 1) (lcI σ 0 2) (lcI σ 0 3) (lcI σ 0 4) (lcI σ 0 5) (lcS σ 1 0) (lcI σ 1 1) (rowS l) (rowO m) (slS σ 3 ++ Lib.joinTail [32] (wordsT l m 0)) (slI σ 4) ((0 : Nat) : Int)) (by rw [e0]; exact h1)
  (loop9p (M := M) (si := lcE σ 0 0) (sf := lcE σ 0 1) (b := lcI σ 0 2) (e := lcI σ 0 3) (n := lcI σ 0 4) (r := lcI σ 0 5) (i := slI σ 4) (nm := lcS σ 1 0) (en := lcI σ 1 1) hsm hll hoz l.length 0 (by omega) (by simp [wordsT, Lib.joinTail]))
 subst g2; subst g3
 refine ⟨_, List.mem_singleton.2 rfl, slS σ 3 ++ Lib.joinTail [32] (wordsT l m l.length), ⟨fun c d hc hd => ?_⟩, mm, ?_⟩
 ·rw [hl] at hc; rw [hm] at hd
  rw [rowS_inj hc, rowO_inj hd]
 ·rw [hl, hm]; exact g1
theorem ok9fT : Ok M T9f := okL9p (ok24 (ok25 ok0))
theorem funT_eq (f : FunD) : funT f = [102, 117, 110, 99, 116, 105, 111, 110, 32] ++ quoT f.name ++ [32] ++ Lib.itoa f.entry ++ Lib.joinTail [32] (wordsT f.params f.arrays f.params.length) ++ [10] := by
 unfold funT
 rw [fun_join]
 unfold Lib.joinTail
 simp
theorem loop9 {si : Cells} {l : List FunD} {b e n r : Int} (hf : ∀ f ∈ l, FunOk f) (hl : l.length ≤ 1048576) :
  ∀ (k i : Nat) (o : List UInt8), i + k = l.length → o.length + 40 * ((l.drop i).map fw).sum ≤ 100000000 →
  Ev (cfg M) Tryz.prog 9 (.loop (loopAt Tryz.prog 9 4)) (J9 si (rowF l) b e n r o i) fun ex τ => ex = .exit 0 ∧ τ = Y9 si (rowF l) b e n r (o ++ (l.drop i).flatMap funT) := by
 intro k
 induction k with
 | zero =>
  intro i o hi _
  refine Ev.round (O := ok9fT) (n := 80) (t := ⟨[1, 3, 4], [1, 3], 1⟩) (by kernel_rfl) (by kernel_rfl) rfl (r9 M si (rowF l) b e n r o i (fun _ _ => False) True (ie (df (by rw [rowF_len]; omega)) ⟨rfl, rfl, trivial⟩)) (fun _ h => h.2.elim) (fun ex τ hx => ?_)
  unfold p9 at hx
  split at hx
  ·refine ⟨hx.1, ?_⟩
   rw [List.drop_eq_nil_of_le (by omega), List.flatMap_nil, List.append_nil]; exact hx.2.1
  ·exact hx.elim
 | succ k ih =>
  intro i o hi hw
  have hlt : i < l.length := by omega
  have hd : l.drop i = l[i] :: l.drop (i + 1) := List.drop_eq_getElem_cons hlt
  have hwr : IntKind.i64.wrap ((i : Int) + 1) = ((i + 1 : Nat) : Int) := by rw [wrap_in (by omega) (by omega)]; omega
  obtain ⟨s1, s2, s3, s4, s5⟩ := rowF_at hlt
  have hk := hf _ (List.getElem_mem hlt)
  obtain ⟨f, hfe⟩ : ∃ f, l[i] = f := ⟨_, rfl⟩
  rw [hfe] at s1 s2 s3 s4 s5 hk hd
  have lf := funT_len hk
  have hT := funT_eq f
  rw [hd, List.map_cons, List.sum_cons] at hw
  have lT : (funT f).length = 9 + (quoT f.name).length + 1 + (Lib.itoa f.entry).length + (Lib.joinTail [32] (wordsT f.params f.arrays f.params.length)).length + 1 := by rw [hT]; simp only [List.length_append, List.length_cons, List.length_nil]
  refine Ev.round (O := ok9fT) (n := 80) (t := ⟨[1, 3, 4], [1, 3], 1⟩) (by kernel_rfl) (by kernel_rfl) rfl
   (r9 M si (rowF l) b e n r o i (fun o' i' => o' = o ++ funT f ∧ i' = ((i + 1 : Nat) : Int)) False (it (dt (by rw [rowF_len]; omega)) (it (by rw [inRange_iff, rowF_len]; omega) ?_))) (fun τ h => ?_) (fun ex τ hx => ?_)
  ·rw [s2, s3, s4, s5]
   refine ⟨by rw [Int.toNat_natCast]; exact s1, it (fitsS (by simp; omega)) ⟨hk.name, fun x hx => it (fitsS (by rw [hx]; simp; omega)) (it (fitsS (by rw [hx]; simp; omega)) ⟨hk.entry, fun y hy => it (fitsS (by rw [hx, hy]; simp; omega)) ⟨rfl, ⟨rfl, ⟨rfl, ⟨_, rfl, hk.ps, hk.np⟩, ⟨_, rfl⟩, by rw [hx, hy]; simp; omega⟩⟩, fun q hq => ?_⟩⟩)⟩⟩
   have hq := hq.is _ _ rfl rfl
   refine it (fitsS (by rw [hq, hx, hy]; simp; omega)) ⟨rfl, ?_, hwr⟩
   rw [hq, hx, hy, hT]; simp
  ·obtain ⟨h1, h2, h3⟩ := h
   rw [h1, h2, h3]
   refine (ih (i + 1) (o ++ funT f) (by omega) (by rw [List.length_append]; omega)).mono fun ex τ' hq => ⟨hq.1, ?_⟩
   rw [hd, List.flatMap_cons, ← List.append_assoc]
   exact hq.2
  ·unfold p9 at hx
   split at hx
   ·exact hx.2.2.elim
   ·exact hx.elim
theorem okL9r {T : Tab} (O : Ok M T) : Ok M (T.addL 9 4 L9r) := by
 refine addL_ok O fun σ s hs hp => ?_
 cases hs
 obtain ⟨h1, h2⟩ := hp
 obtain ⟨l, hl, hf⟩ := h2.is
 have hoz := h2.oz
 rw [h2.iz, hl] at h1
 have hlen := sum_ge_len l
 have hw := hf.w
 obtain ⟨mm, ex, τ, g1, g2, g3⟩ := Ev.tidied (t := ⟨[1, 3, 4], [1, 3], 1⟩) (by kernel_rfl) h1
  (loop9 (M := M) (si := lcE σ 0 0) (b := lcI σ 0 2) (e := lcI σ 0 3) (n := lcI σ 0 4) (r := lcI σ 0 5) hf.ok (by omega) l.length 0 (slS σ 3) (by omega) (by rw [List.drop_zero]; omega))
 subst g2; subst g3
 refine ⟨_, List.mem_singleton.2 rfl, slS σ 3 ++ l.flatMap funT, ⟨fun l' hc => ?_⟩, mm, ?_⟩
 ·rw [hl] at hc
  rw [rowF_inj hc]
 ·rw [hl]; exact g1
theorem ok9iT : Ok M T9i := ok28 (ok27 (ok24 ok0))
theorem loop9i {sf : Cells} {l : List InsD} {b e n r : Int} (hf : ∀ i ∈ l, InstOk i.op i.x i.y i.n i.t) (hl : l.length ≤ 1048576) :
  ∀ (k i : Nat) (o : List UInt8), i + k = l.length → o.length + 250 * ((l.drop i).map iw).sum ≤ 1000000000 →
  Ev (cfg M) Tryz.prog 9 (.loop (loopAt Tryz.prog 9 16)) (J9i (rowI l) sf b e n r o i) fun ex τ => ex = .exit 4 ∧ τ = Y9i (rowI l) sf b e n r (o ++ (List.range' i k).flatMap (insT l)) := by
 intro k
 induction k with
 | zero =>
  intro i o hi _
  refine Ev.round (O := ok9iT) (n := 80) (t := ⟨[1, 3, 7], [3], 1⟩) (by kernel_rfl) (by kernel_rfl) rfl (r9i M (rowI l) sf b e n r o i (fun _ _ => False) True (ie (df (by rw [rowI_len]; omega)) ⟨rfl, rfl, trivial⟩)) (fun _ h => h.2.elim) (fun ex τ hx => ?_)
  unfold p9i at hx
  split at hx
  ·refine ⟨hx.1, ?_⟩
   simpa using hx.2.1
  ·exact hx.elim
 | succ k ih =>
  intro i o hi hw
  have hlt : i < l.length := by omega
  have hd : l.drop i = l[i] :: l.drop (i + 1) := List.drop_eq_getElem_cons hlt
  have hwr : IntKind.i64.wrap ((i : Int) + 1) = ((i + 1 : Nat) : Int) := by rw [wrap_in (by omega) (by omega)]; omega
  obtain ⟨s1, s2, s3, s4, s5, s6, s7⟩ := rowI_at hlt
  have hk := hf _ (List.getElem_mem hlt)
  have li := insT_len hlt (by omega) hk
  have hT := insT_at hlt
  rw [hd, List.map_cons, List.sum_cons] at hw
  have hi64 : I64 (i : Int) := ⟨by omega, by omega⟩
  obtain ⟨v, hv⟩ : ∃ v, l[i] = v := ⟨_, rfl⟩
  rw [hv] at s1 s2 s3 s4 s5 s6 s7 hk hT li hw
  rw [← line_eq] at hT
  have lT : (insT l i).length = (Lib.itoa i).length + 1 + (lineR v.op v.x v.y v.n v.t).length + 1 := by rw [hT]; simp; omega
  have fin : ∀ w : List UInt8, w = lineR v.op v.x v.y v.n v.t → I64 (i : Int) ∧ ∀ z, z = Lib.itoa (i : Int) → iteP (strFits o z) (iteP (strFits (o ++ z) [32]) (iteP (strFits (o ++ z ++ [32]) w) (iteP (strFits (o ++ z ++ [32] ++ w) [10])
    (J9i (rowI l) sf b e n r (o ++ z ++ [32] ++ w ++ [10]) (IntKind.i64.wrap ((i : Int) + 1)) = J9i (rowI l) sf b e n r (o ++ z ++ [32] ++ w ++ [10]) (IntKind.i64.wrap ((i : Int) + 1)) ∧
     (o ++ z ++ [32] ++ w ++ [10] = o ++ insT l i ∧ IntKind.i64.wrap ((i : Int) + 1) = ((i + 1 : Nat) : Int))) False) False) False) False := by
   intro w hwd
   refine ⟨hi64, fun z hz => it (fitsS (by rw [hz]; omega)) (it (fitsS (by rw [hz]; simp; omega)) (it (fitsS (by rw [hz, hwd]; simp; omega)) (it (fitsS (by rw [hz, hwd]; simp; omega)) ⟨rfl, ?_, hwr⟩)))⟩
   rw [hT, hz, hwd]; simp
  refine Ev.round (O := ok9iT) (n := 80) (t := ⟨[1, 3, 7], [3], 1⟩) (by kernel_rfl) (by kernel_rfl) rfl
   (r9i M (rowI l) sf b e n r o i (fun o' i' => o' = o ++ insT l i ∧ i' = ((i + 1 : Nat) : Int)) False (it (dt (by rw [rowI_len]; omega)) (it (by rw [inRange_iff, rowI_len]; omega) ?_))) (fun τ h => ?_) (fun ex τ hx => ?_)
  ·rw [s2, s3, s4, s5, s6, s7]
   have lop := itoa_len hk.op
   refine ⟨by rw [Int.toNat_natCast]; exact s1, hk.op, fun x hx => it (fitsS (by rw [hx]; simp; omega)) (iti (fun q1 => iti (fun q2 => ?_) (fun q2 => ?_)) (fun q1 => ?_))⟩
   ·have q1 := of_decide_eq_true q1
    have q2 := of_decide_eq_true q2
    have hwk : IntKind.i64.wrap (v.op - 1) = v.op - 1 := wrap_in (by omega) (by omega)
    rw [hwk]
    have hL : lineR v.op v.x v.y v.n v.t = wordAt namesL (v.op - 1) ++ opsR v.x v.y v.n v.t (wordAt usesL (v.op - 1)) := by unfold lineR; rw [if_pos ⟨q1, q2⟩]
    have hall := words_all ⟨(v.op - 1).toNat, by omega⟩
    have ek : (((v.op - 1).toNat : Nat) : Int) = v.op - 1 := by omega
    simp only [ek] at hall
    refine ⟨⟨⟨.inl (by kernel_rfl)⟩, ⟨by omega, by omega⟩⟩, fun w1 hw1 => ?_⟩
    have hw1 : w1 = wordAt namesL (v.op - 1) := hw1.trans (congrArg (fun s => wordAt s (v.op - 1)) (by kernel_rfl))
    refine ⟨⟨⟨.inr (by kernel_rfl)⟩, ⟨by omega, by omega⟩⟩, fun w2 hw2 => ?_⟩
    have hw2 : w2 = wordAt usesL (v.op - 1) := hw2.trans (congrArg (fun s => wordAt s (v.op - 1)) (by kernel_rfl))
    refine ⟨⟨hk, ⟨by rw [hw2]; omega⟩⟩, fun w3 hw3 => ?_⟩
    have hw4 : w1 ++ w3 = lineR v.op v.x v.y v.n v.t := by rw [hL, hw1, hw3, hw2]
    refine it (fitsS ?_) (fin _ hw4)
    have := congrArg List.length hw4
    rw [List.length_append] at this
    omega
   ·have q2 := of_decide_eq_false q2
    exact fin _ (by unfold lineR; rw [if_neg (fun h => q2 h.2), hx])
   ·have q1 := of_decide_eq_false q1
    exact fin _ (by unfold lineR; rw [if_neg (fun h => q1 h.1), hx])
  ·obtain ⟨h1, h2, h3⟩ := h
   rw [h1, h2, h3]
   refine (ih (i + 1) (o ++ insT l i) (by omega) (by rw [List.length_append]; omega)).mono fun ex τ' hq => ⟨hq.1, ?_⟩
   rw [List.range'_succ, List.flatMap_cons, ← List.append_assoc]
   exact hq.2
  ·unfold p9i at hx
   split at hx
   ·exact hx.2.2.elim
   ·exact hx.elim
theorem okL9s {T : Tab} (O : Ok M T) : Ok M (T.addL 9 16 L9s) := by
 refine addL_ok O fun σ s hs hp => ?_
 cases hs
 obtain ⟨h1, h2⟩ := hp
 obtain ⟨l, hl, hf⟩ := h2.is
 have hoz := h2.oz
 rw [h2.iz, hl] at h1
 have hlen := sumi_ge_len l
 have hw := hf.w
 obtain ⟨mm, ex, τ, g1, g2, g3⟩ := Ev.tidied (t := ⟨[1, 3, 7], [3], 1⟩) (by kernel_rfl) h1
  (loop9i (M := M) (sf := lcE σ 0 1) (b := lcI σ 0 2) (e := lcI σ 0 3) (n := lcI σ 0 4) (r := lcI σ 0 5) hf.ok (by omega) l.length 0 (slS σ 3) (by omega) (by rw [List.drop_zero]; omega))
 subst g2; subst g3
 refine ⟨_, List.mem_singleton.2 rfl, slS σ 3 ++ (List.range' 0 l.length).flatMap (insT l), ⟨fun l' hc => ?_⟩, mm, ?_⟩
 ·rw [hl] at hc
  rw [← rowI_inj hc, List.range_eq_range']
 ·rw [hl]; exact g1
theorem ok9 {T : Tab} (O : Ok M T) : Ok M (T.addC 9 C9) := by
 refine addC_ok O fun args h s hs hp => ?_
 unfold C9 C8 at hs
 split at hs
 ·rename_i si sf b e n r
  cases hs
  obtain ⟨hb, he, hn, hr, ⟨lf, hsf, hf⟩, ⟨li, hsi, hi⟩⟩ := hp
  have l1 := itoa_len hb
  have l2 := itoa_len he
  have l3 := itoa_len hn
  have l4 := itoa_len hr
  have key : wpCall T9 (cfg M) Tryz.prog 80 9 [codeA si sf b e n r] heapF fun r' h' => wpBack h' r' fun v => v = aStr (headT b e n r ++ lf.flatMap funT ++ (List.range li.length).flatMap (insT li)) := by
   refine v9 M si sf b e n r _ ⟨hb, fun x hx => it (fitsS (by rw [hx]; simp; omega)) (it (fitsS (by rw [hx]; simp; omega)) ⟨he, fun y hy => it (fitsS (by rw [hx, hy]; simp; omega)) (it (fitsS (by rw [hx, hy]; simp; omega)) ⟨hn, fun z hz => it (fitsS (by rw [hx, hy, hz]; simp; omega)) (it (fitsS (by rw [hx, hy, hz]; simp; omega)) ⟨hr, fun w hw => it (fitsS (by rw [hx, hy, hz, hw]; simp; omega)) (it (fitsS (by rw [hx, hy, hz, hw]; simp; omega)) ?_)⟩)⟩)⟩)⟩
   have hh : headT b e n r = [98, 101, 103, 105, 110, 32] ++ x ++ [10, 101, 97, 99, 104, 32] ++ y ++ [10, 101, 110, 100, 32] ++ z ++ [10, 114, 97, 110, 103, 101, 115, 32] ++ w ++ [10] := by rw [hx, hy, hz, hw]; rfl
   have hl : (headT b e n r).length ≤ 1000 := by rw [hh, hx, hy, hz, hw]; simp; omega
   rw [← hh]
   have lfl := funs_len lf hf.ok
   have lfw := hf.w
   refine ⟨rfl, ⟨rfl, ⟨rfl, ⟨lf, hsf, hf⟩, hl⟩⟩, fun u hu => ?_⟩
   have hu := hu.is _ hsf
   refine ⟨rfl, ⟨rfl, ⟨rfl, ⟨li, hsi, hi⟩, by rw [hu, List.length_append]; omega⟩⟩, fun v hv => ?_⟩
   rw [hv.is _ hsi, hu]; rfl
  obtain ⟨m, v, h', ev, rfl, rfl⟩ := EvP.freshV (g := 9) (args := [codeA si sf b e n r]) (h := h) (v := aStr (headT b e n r ++ lf.flatMap funT ++ (List.range li.length).flatMap (insT li))) (okL9s (okL9r (ok24 (M := M) ok0))) (n := 80) (by kernel_rfl) rfl (args' := [codeA si sf b e n r]) rfl key
  refine ⟨_, List.mem_singleton.2 rfl, headT b e n r ++ lf.flatMap funT ++ (List.range li.length).flatMap (insT li), m, ⟨fun lf' li' h1 h2 => ?_⟩, ev⟩
  rw [hsf] at h1; rw [hsi] at h2
  rw [rowF_inj h1, rowI_inj h2]
 ·cases hs
end
end Go.Proofs.Sp
namespace Go.Proofs.Sp
open Go Go.Ef Go.Proofs.Pt
noncomputable section
def C7 (args : List AV) (h : Heap) : Option CSpec :=
 match args with
 | [] => some (fspec True (bA true) h)
 | _ => none
def T4 : Tab := ((tab0.addC 9 C9).addC 8 C8).addC 7 C7
end
end Go.Proofs.Sp
namespace Go.Proofs.Sp
open Go Go.Ef Go.Proofs.Pt
noncomputable section
set_option maxRecDepth 100000
theorem v4 (M : Int) (si : Cells) (sf : Cells) (b : Int) (e : Int) (n : Int) (r : Int) (K : AV → Prop) (h :
 CodeOk si sf b e n r ∧
 ∀ (x : List UInt8),
 Printed si sf b e n r x →
 CodeOk si sf b e n r ∧
 ∀ (x_1 : List UInt8),
 Printed si sf b e n r x_1 →
 iteP (decide (x = x_1)) (True ∧ ∀ (_ : Unit), True → K (AV.sc (Value.bool true)))
 (K (AV.sc (Value.bool false)))) :
 (fun (M : Int) (si sf : Cells) (b e n r : Int) (K : AV → Prop) => wpCall T4 (cfg M) Tryz.prog 80 4 [codeA si sf b e n r] heap0 fun r _ => K r) M si sf b e n r K :=
 Eq.mp (by kernel_rfl) h
end
end Go.Proofs.Sp
namespace Go.Proofs.Sp
open Go Go.Ef Go.RowKit Go.Proofs.Pt
noncomputable section
set_option maxRecDepth 100000
variable {M : Int}
theorem awake_call (h : Heap) : callP (cfg M) (evCall (cfg M) Tryz.prog 1000) 7 [] h = some (bA true, h) := by
 obtain ⟨h', e⟩ := yes_spec (awake_ev M)
 have hf : (cfg M).fresh 7 = true := by kernel_rfl
 unfold callP
 rw [show (cfg M).prim 7 = none from rfl]
 simp only []
 rw [hf]
 show (match mapO (stripA 8) [] with
  | some args' => match evCall (cfg M) Tryz.prog 1000 7 args' heapF with
   | some (r, h') => (match strip 8 h' r with | some r' => some (r', h) | none => none)
   | none => none
  | none => none) = _
 show (match evCall (cfg M) Tryz.prog 1000 7 [] heapF with
   | some (r, h') => (match strip 8 h' r with | some r' => some (r', h) | none => none)
   | none => none) = _
 rw [e]
 rfl
theorem ok7 {T : Tab} (O : Ok M T) : Ok M (T.addC 7 C7) := by
 refine addC_ok O fun args h s hs hp => ?_
 unfold C7 at hs
 split at hs
 ·cases hs
  exact ⟨_, List.mem_singleton.2 rfl, (), 1000, trivial, awake_call h⟩
 ·cases hs
theorem ev4 {si sf : Cells} {b e n r : Int} (H : CodeOk si sf b e n r) : ∃ m h, evCall (cfg M) Tryz.prog m 4 [codeA si sf b e n r] heap0 = some (bA true, h) := by
 have O : Ok M T4 := ok7 (ok8 (ok9 ok0))
 have K : wpCall T4 (cfg M) Tryz.prog 80 4 [codeA si sf b e n r] heap0 fun r _ => r = bA true := by
  refine v4 M si sf b e n r _ ⟨H, fun x hx => ⟨H, fun y hy => it (dt ?_) ⟨trivial, fun _ _ => rfl⟩⟩⟩
  obtain ⟨lf, hsf, _⟩ := H.f
  obtain ⟨li, hsi, _⟩ := H.i
  rw [hx.is lf li hsf hsi, hy.is lf li hsf hsi]
 obtain ⟨m, v, h', e1, rfl⟩ := call_okW O 80 4 [codeA si sf b e n r] heap0 (fun r _ => r = bA true) K
 exact ⟨m, h', e1⟩
theorem law4 {si sf : Cells} {b e n r : Int} (H : CodeOk si sf b e n r) {v : Value} {w : World} (hv : V (imm0 w) (codeA si sf b e n r) v) (hg : GlobOk (cfg M) w) : Calls Tryz.prog 4 #[v] w fun e w' => e = .returned (.bool true) ∧ Below w.heap.size w w' := by
 obtain ⟨m, h', e1⟩ := ev4 (M := M) H
 refine law_of_ev (fit M) m hg (args := [codeA si sf b e n r]) ⟨rfl, fun i x y hx hy => ?_⟩ e1
 match i with
 | 0 => simp at hx hy; subst hx; subst hy; exact hv
 | i + 1 => simp at hx
end
end Go.Proofs.Sp
namespace Go.Ef
open Go
theorem build_list {α : Type} {Q : Nat → α → Prop} : ∀ n : Nat, (∀ i, i < n → ∃ x, Q i x) → ∃ l : List α, l.length = n ∧ ∀ (i : Nat) (x : α), l[i]? = some x → Q i x := by
 intro n
 induction n with
 | zero => intro _; exact ⟨[], rfl, fun i x h => by simp at h⟩
 | succ n ih =>
  intro h
  obtain ⟨l, h1, h2⟩ := ih fun i hi => h i (by omega)
  obtain ⟨x, hx⟩ := h n (by omega)
  refine ⟨l ++ [x], by simp [h1], fun i y hy => ?_⟩
  rcases Nat.lt_trichotomy i n with hi | hi | hi
  ·rw [List.getElem?_append_left (by omega)] at hy; exact h2 i y hy
  ·subst hi
   rw [List.getElem?_append_right (by omega), h1] at hy
   simp at hy; subst hy; exact hx
  ·have := lt_of_get? hy
   simp [h1] at this; omega
def CellsV (w : World) (avs : List AV) (cs : List Value) : Prop := avs.length = cs.length ∧ ∀ (i : Nat) (x : AV) (y : Value), avs[i]? = some x → cs[i]? = some y → V (imm0 w) x y
end Go.Ef
namespace Go.Ef
open Go
theorem addr_add (a : Addr) (m n : Nat) : (a.add m).add n = a.add (m + n) := by
 unfold Addr.add
 by_cases hm : m = 0 <;> by_cases hn : n = 0 <;> simp [hm, hn, Nat.add_assoc]
theorem trod_sliceD {H : Type} {enc : TypeId × Value → H} {P : Program} {w : World} {base : Nat} {spare : Nat → Bool} {held : Bool} {t e : TypeId} {k : Nat} (ht : P.underlying t = some (.slice e)) (hk : P.cellsOf e = k) (hk0 : 0 < k) (Good : List AV → DataW H → Prop)
  (each : ∀ (fuel : Nat) (cs : List Value) (d : DataW H) (ps : List MemPlace), DataW.trod enc P w base spare held fuel e cs = some (d, ps) → cs.length = k → ∃ avs, Good avs d ∧ CellsV w avs cs)
  {fuel : Nat} {c : Value} {d : DataW H} {ps : List MemPlace} (h : DataW.trod enc P w base spare held fuel t [c] = some (d, ps)) :
  ∃ els : List (List AV), V (imm0 w) (.sl els 0) c ∧ ((els = [] ∧ d = .nil) ∨ ∃ ds sp, d = .slice ds sp ∧ ds.length = els.length ∧ ∀ (i : Nat) (x : List AV) (y : DataW H), els[i]? = some x → ds[i]? = some y → Good x y ∧ x.length = k) := by
 cases fuel with
 | zero => cases h
 | succ fuel =>
  simp only [DataW.trod, ht] at h
  split at h
  all_goals first | (rename_i hq _; cases hq; done) | skip
  all_goals try (rename_i hq1 hq2; first | (cases hq1; done) | (cases hq2; done))
  all_goals try (cases h; done)
  ·rename_i hq1 hq2
   cases hq2; cases h
   exact ⟨[], .slE, .inl ⟨rfl, rfl⟩⟩
  ·rename_i e' a len cap hq1 hq2
   cases hq1; cases hq2
   split at h
   ·rename_i hc
    rw [Option.bind_eq_some_iff] at h
    obtain ⟨elems, hel, h⟩ := h
    rw [Option.map_eq_some_iff] at h
    obtain ⟨rest, _, h⟩ := h
    cases h
    have hlen : elems.length = len := by simpa using mapM_some_length hel
    obtain ⟨b, o, spot⟩ := a
    have hcell : ∀ i, i < len → ∃ (avs : List AV) (x : DataW H × List MemPlace), elems[i]? = some x ∧ Good avs x.1 ∧ avs.length = k ∧ ∃ cs : List Value, (∀ j, j < k → w.cell? ((⟨b, o, spot⟩ : Addr).add (i * k + j)) = cs[j]?) ∧ CellsV w avs cs := by
     intro i hi
     have := mapM_some_get hel i i (by simp [hi])
     rw [List.getElem?_eq_getElem (by omega)] at this
     rw [Option.bind_eq_some_iff] at this
     obtain ⟨cs, h1, h2⟩ := this
     obtain ⟨_, h4, h5⟩ := World.cells?_some h1
     rw [hk] at h4 h5
     obtain ⟨avs, g1, g2⟩ := each fuel cs _ _ h2 h4
     refine ⟨avs, _, List.getElem?_eq_getElem (by omega), g1, by rw [g2.1, h4], cs, fun j hj => ?_, g2⟩
     rw [← h5 j hj]
     rw [addr_add]
    rcases Nat.eq_zero_or_pos len with h0 | h0
    ·subst h0
     have : elems = [] := List.length_eq_zero_iff.1 hlen
     subst this
     exact ⟨[], .slE, .inr ⟨_, _, rfl, rfl, fun i x y hx => by simp at hx⟩⟩
    ·have hspot : spot = none := by
      obtain ⟨avs, x, _, _, hl, cs, hcs, hg⟩ := hcell 0 h0
      have h1 := hcs 0 hk0
      rw [List.getElem?_eq_getElem (by rw [← hg.1, hl]; exact hk0)] at h1
      have := World.cell?_spot h1
      unfold Addr.add at this
      simp only [] at this
      split at this <;> simp_all
     subst hspot
     have hadd : ∀ n, (⟨b, o, none⟩ : Addr).add n = ⟨b, o + n, none⟩ := by
      intro n; unfold Addr.add; split <;> simp_all
     obtain ⟨els, e1, e2⟩ := build_list len hcell
     refine ⟨els, ?_, .inr ⟨_, _, rfl, by simp [e1, hlen], fun i x y hx hy => ?_⟩⟩
     ·refine .sl0 (k := k) (c := fun i j => (w.cell? ⟨b, o + i * k + j, none⟩).getD undef) e1.symm hc.2.1 (fun a ha => ?_) (fun i a j x hx hy => ?_) (fun i a j x hx hy => ?_)
      ·obtain ⟨i, hi, rfl⟩ := List.getElem_of_mem ha
       obtain ⟨_, _, _, q, _⟩ := e2 i _ (List.getElem?_eq_getElem hi)
       exact q
      ·obtain ⟨_, _, _, g2, cs, g3, g4⟩ := e2 i a hx
       have hj : j < k := g2 ▸ lt_of_get? hy
       have hjc : j < cs.length := by rw [← g4.1, g2]; exact hj
       show w.cell? _ = _
       have := g3 j hj
       rw [hadd, ← Nat.add_assoc] at this
       rw [this, List.getElem?_eq_getElem hjc]; rfl
      ·obtain ⟨_, _, _, g2, cs, g3, g4⟩ := e2 i a hx
       have hj : j < k := g2 ▸ lt_of_get? hy
       have hjc : j < cs.length := by rw [← g4.1, g2]; exact hj
       have := g3 j hj
       rw [hadd, ← Nat.add_assoc] at this
       rw [imm0_bare, this, List.getElem?_eq_getElem hjc]
       exact g4.2 j x _ hy (List.getElem?_eq_getElem hjc)
     ·obtain ⟨x', hx', g1, g2, _⟩ := e2 i x hx
      simp only [List.getElem?_map, hx', Option.map_some, Option.some.injEq] at hy
      subst hy
      exact ⟨g1, g2⟩
   ·cases h
end Go.Ef
namespace Go.Proofs.Sp
open Go Go.Ef Go.RowKit Go.Proofs.Pt Go.Proofs.YtciidohmobfciaaGreatDoor.Rows
theorem trod_int {H : Type} {enc : TypeId × Value → H} {P : Program} {w : World} {base : Nat} {spare : Nat → Bool} {held : Bool} {t : TypeId} (ht : P.underlying t = some (.int .i64)) {fuel : Nat} {c : Value} {x : DataW H × List MemPlace}
  (h : DataW.trod enc P w base spare held fuel t [c] = some x) : ∃ n, c = .int .i64 n ∧ I64 n ∧ uptoBulk x.1 = 1 := by
 cases fuel with
 | zero => cases h
 | succ fuel =>
  simp only [DataW.trod, ht] at h
  split at h
  all_goals first | (rename_i hq _; cases hq; done) | skip
  all_goals try (rename_i hq1 hq2; first | (cases hq1; done) | (cases hq2; done))
  all_goals try (cases h; done)
  rename_i k k' n hq1 hq2
  cases hq1; cases hq2
  split at h
  ·rename_i hc
   obtain ⟨rfl, hwf⟩ := hc
   cases h
   refine ⟨n, rfl, ?_, rfl⟩
   simp [Lit.wf, IntKind.min, IntKind.max, IntKind.signed, IntKind.bits] at hwf
   exact ⟨by omega, by omega⟩
  ·cases h
theorem trod_str {H : Type} {enc : TypeId × Value → H} {P : Program} {w : World} {base : Nat} {spare : Nat → Bool} {held : Bool} {t : TypeId} (ht : P.underlying t = some .string) {fuel : Nat} {c : Value} {x : DataW H × List MemPlace}
  (h : DataW.trod enc P w base spare held fuel t [c] = some x) : ∃ l : List UInt8, c = .string ⟨⟨l⟩⟩ ∧ uptoBulk x.1 = l.length + 1 := by
 cases fuel with
 | zero => cases h
 | succ fuel =>
  simp only [DataW.trod, ht] at h
  split at h
  all_goals first | (rename_i hq _; cases hq; done) | skip
  all_goals try (rename_i hq1 hq2; first | (cases hq1; done) | (cases hq2; done))
  all_goals try (cases h; done)
  rename_i s hq1 hq2
  cases hq2
  split at h
  ·cases h
   obtain ⟨⟨l⟩⟩ := s
   exact ⟨l, rfl, rfl⟩
  ·cases h
theorem trod_bool {H : Type} {enc : TypeId × Value → H} {P : Program} {w : World} {base : Nat} {spare : Nat → Bool} {held : Bool} {t : TypeId} (ht : P.underlying t = some .bool) {fuel : Nat} {c : Value} {x : DataW H × List MemPlace}
  (h : DataW.trod enc P w base spare held fuel t [c] = some x) : ∃ b, c = .bool b ∧ uptoBulk x.1 = 1 := by
 cases fuel with
 | zero => cases h
 | succ fuel =>
  simp only [DataW.trod, ht] at h
  split at h
  all_goals first | (rename_i hq _; cases hq; done) | skip
  all_goals try (rename_i hq1 hq2; first | (cases hq1; done) | (cases hq2; done))
  all_goals try (cases h; done)
  rename_i b hq1 hq2
  cases hq2
  cases h
  exact ⟨b, rfl, rfl⟩
theorem gather {α H : Type} (cell : α → List AV) (wt : α → Nat) (Q : α → Prop) : ∀ (els : List (List AV)) (ds : List (DataW H)), ds.length = els.length →
  (∀ (i : Nat) (x : List AV) (y : DataW H), els[i]? = some x → ds[i]? = some y → ∃ a, x = cell a ∧ Q a ∧ wt a ≤ uptoBulk y) → ∃ l : List α, els = l.map cell ∧ (∀ a ∈ l, Q a) ∧ (l.map wt).sum ≤ uptoBulkAll ds := by
 intro els
 induction els with
 | nil => intro ds _ _; exact ⟨[], rfl, fun a h => (by cases h), by simp⟩
 | cons x els ih =>
  intro ds hl h
  cases ds with
  | nil => cases hl
  | cons d ds =>
   obtain ⟨a, h1, h2, h3⟩ := h 0 x d rfl rfl
   obtain ⟨l, g1, g2, g3⟩ := ih ds (by simpa using hl) fun i y z hy hz => h (i + 1) y z (by simpa using hy) (by simpa using hz)
   refine ⟨a :: l, by rw [h1, g1]; rfl, fun b hb => ?_, ?_⟩
   ·rcases List.mem_cons.1 hb with rfl | hb
    ·exact h2
    ·exact g2 b hb
   ·rw [List.map_cons, List.sum_cons]
    show _ ≤ uptoBulk d + uptoBulkAll ds
    omega
theorem gatherD {α H : Type} {w : World} {c : Value} (cell : α → List AV) (wt : α → Nat) (Q : α → Prop) {k : Nat} {d : DataW H}
  (h : ∃ els : List (List AV), V (imm0 w) (.sl els 0) c ∧ ((els = [] ∧ d = .nil) ∨ ∃ ds sp, d = .slice ds sp ∧ ds.length = els.length ∧ ∀ (i : Nat) (x : List AV) (y : DataW H), els[i]? = some x → ds[i]? = some y → (∃ a, x = cell a ∧ Q a ∧ wt a ≤ uptoBulk y) ∧ x.length = k)) :
  ∃ l : List α, V (imm0 w) (.sl (l.map cell) 0) c ∧ (∀ a ∈ l, Q a) ∧ (l.map wt).sum + 1 ≤ uptoBulk d := by
 obtain ⟨els, hv, h⟩ := h
 rcases h with ⟨rfl, rfl⟩ | ⟨ds, sp, rfl, hl, hg⟩
 ·exact ⟨[], hv, fun a h => (by cases h), by simp [uptoBulk]⟩
 ·obtain ⟨l, g1, g2, g3⟩ := gather cell wt Q els ds hl fun i x y hx hy => (hg i x y hx hy).1
  refine ⟨l, g1 ▸ hv, g2, ?_⟩
  show _ ≤ uptoBulkAll ds + uptoBulkAll sp + 1
  omega
set_option maxRecDepth 100000 in
theorem inst_reads {H : Type} {enc : TypeId × Value → H} {w : World} {base : Nat} {spare : Nat → Bool} {held : Bool} {fuel : Nat} {cs : List Value} {d : DataW H} {ps : List MemPlace}
  (h : DataW.trod enc Tryz.prog w base spare held fuel 39 cs = some (d, ps)) (hl : cs.length = 6) : ∃ avs, (∃ i : InsD, avs = cellI i ∧ (I64 i.op ∧ I64 i.x ∧ I64 i.y ∧ I64 i.n) ∧ iw i ≤ uptoBulk d) ∧ CellsV w avs cs := by
 cases fuel with
 | zero => cases h
 | succ fuel =>
  have e3 : Tryz.prog.cellsOf 3 = 1 := by kernel_rfl
  have e37 : Tryz.prog.cellsOf 37 = 1 := by kernel_rfl
  have e9 : Tryz.prog.cellsOf 9 = 1 := by kernel_rfl
  match cs, hl with
  | [c0, c1, c2, c3, c4, c5], _ =>
   simp only [DataW.trod, Tryz.underlying39] at h
   split at h
   ·rw [Option.map_eq_some_iff] at h
    obtain ⟨xs, hm, hd⟩ := h
    have g0 := mapM_some_get hm 0 _ rfl
    have g1 := mapM_some_get hm 1 _ rfl
    have g2 := mapM_some_get hm 2 _ rfl
    have g3 := mapM_some_get hm 3 _ rfl
    have g4 := mapM_some_get hm 4 _ rfl
    have g5 := mapM_some_get hm 5 _ rfl
    have hlen := mapM_some_length hm
    replace hlen : xs.length = 6 := hlen
    match xs, hlen with
    | [x0, x1, x2, x3, x4, x5], _ =>
     simp only [e3, e37, e9] at g0 g1 g2 g3 g4 g5
     obtain ⟨n0, rfl, b0, _⟩ := trod_int Tryz.underlying3 g0
     obtain ⟨n1, rfl, b1, _⟩ := trod_int Tryz.underlying3 g1
     obtain ⟨n2, rfl, b2, _⟩ := trod_int Tryz.underlying3 g2
     obtain ⟨n3, rfl, b3, _⟩ := trod_int Tryz.underlying37 g3
     obtain ⟨s, rfl, hs⟩ := trod_str Tryz.underlying9 g4
     obtain ⟨n5, rfl, b5, _⟩ := trod_int Tryz.underlying3 g5
     cases hd
     refine ⟨_, ⟨⟨n0, n1, n2, n3, s, n5⟩, rfl, ⟨b0, b1, b2, b3⟩, ?_⟩, rfl, fun i x y hx hy => ?_⟩
     ·show s.length + 1 ≤ uptoBulk x0.1 + (uptoBulk x1.1 + (uptoBulk x2.1 + (uptoBulk x3.1 + (uptoBulk x4.1 + (uptoBulk x5.1 + 0))))) + 1
      omega
     ·match i with
      | 0 => simp [cellI] at hx hy; subst hx; subst hy; exact .sc rfl
      | 1 => simp [cellI] at hx hy; subst hx; subst hy; exact .sc rfl
      | 2 => simp [cellI] at hx hy; subst hx; subst hy; exact .sc rfl
      | 3 => simp [cellI] at hx hy; subst hx; subst hy; exact .sc rfl
      | 4 => simp [cellI] at hx hy; subst hx; subst hy; exact .sc rfl
      | 5 => simp [cellI] at hx hy; subst hx; subst hy; exact .sc rfl
      | i + 6 => simp [cellI] at hx
   ·cases h
set_option maxRecDepth 100000 in
theorem str_reads {H : Type} {enc : TypeId × Value → H} {w : World} {base : Nat} {spare : Nat → Bool} {held : Bool} {fuel : Nat} {cs : List Value} {d : DataW H} {ps : List MemPlace}
  (h : DataW.trod enc Tryz.prog w base spare held fuel 9 cs = some (d, ps)) (hl : cs.length = 1) : ∃ avs, (∃ s : List UInt8, avs = [aStr s] ∧ True ∧ s.length + 1 ≤ uptoBulk d) ∧ CellsV w avs cs := by
 match cs, hl with
 | [c0], _ =>
  obtain ⟨s, rfl, hs⟩ := trod_str Tryz.underlying9 h
  have hs : uptoBulk d = s.length + 1 := hs
  refine ⟨_, ⟨s, rfl, trivial, by omega⟩, rfl, fun i x y hx hy => ?_⟩
  match i with
  | 0 => simp at hx hy; subst hx; subst hy; exact .sc rfl
  | i + 1 => simp at hx
set_option maxRecDepth 100000 in
theorem bool_reads {H : Type} {enc : TypeId × Value → H} {w : World} {base : Nat} {spare : Nat → Bool} {held : Bool} {fuel : Nat} {cs : List Value} {d : DataW H} {ps : List MemPlace}
  (h : DataW.trod enc Tryz.prog w base spare held fuel 4 cs = some (d, ps)) (hl : cs.length = 1) : ∃ avs, (∃ s : Bool, avs = [bA s] ∧ True ∧ 1 ≤ uptoBulk d) ∧ CellsV w avs cs := by
 match cs, hl with
 | [c0], _ =>
  obtain ⟨s, rfl, hs⟩ := trod_bool Tryz.underlying4 h
  have hs : uptoBulk d = 1 := hs
  refine ⟨_, ⟨s, rfl, trivial, by omega⟩, rfl, fun i x y hx hy => ?_⟩
  match i with
  | 0 => simp at hx hy; subst hx; subst hy; exact .sc rfl
  | i + 1 => simp at hx
theorem sum_one {α : Type} : ∀ l : List α, (l.map fun _ => 1).sum = l.length := by
 intro l
 induction l with
 | nil => rfl
 | cons a l ih => rw [List.map_cons, List.sum_cons, ih, List.length_cons]; omega
set_option maxRecDepth 100000 in
theorem fun_reads {H : Type} {enc : TypeId × Value → H} {w : World} {base : Nat} {spare : Nat → Bool} {held : Bool} {fuel : Nat} {cs : List Value} {d : DataW H} {ps : List MemPlace}
  (h : DataW.trod enc Tryz.prog w base spare held fuel 36 cs = some (d, ps)) (hl : cs.length = 4) : ∃ avs, (∃ f : FunD, avs = cellF f ∧ I64 f.entry ∧ fw f + f.arrays.length ≤ uptoBulk d) ∧ CellsV w avs cs := by
 cases fuel with
 | zero => cases h
 | succ fuel =>
  have e3 : Tryz.prog.cellsOf 3 = 1 := by kernel_rfl
  have e33 : Tryz.prog.cellsOf 33 = 1 := by kernel_rfl
  have e34 : Tryz.prog.cellsOf 34 = 1 := by kernel_rfl
  have e9 : Tryz.prog.cellsOf 9 = 1 := by kernel_rfl
  match cs, hl with
  | [c0, c1, c2, c3], _ =>
   simp only [DataW.trod, Tryz.underlying36] at h
   split at h
   ·rw [Option.map_eq_some_iff] at h
    obtain ⟨xs, hm, hd⟩ := h
    have g0 := mapM_some_get hm 0 _ rfl
    have g1 := mapM_some_get hm 1 _ rfl
    have g2 := mapM_some_get hm 2 _ rfl
    have g3 := mapM_some_get hm 3 _ rfl
    have hlen := mapM_some_length hm
    replace hlen : xs.length = 4 := hlen
    match xs, hlen with
    | [x0, x1, x2, x3], _ =>
     simp only [e3, e33, e34, e9] at g0 g1 g2 g3
     obtain ⟨s, rfl, hs⟩ := trod_str Tryz.underlying9 g0
     obtain ⟨n1, rfl, b1, u1⟩ := trod_int Tryz.underlying3 g1
     obtain ⟨pl, v2, _, u2⟩ := gatherD (fun s : List UInt8 => [aStr s]) (fun s => s.length + 1) (fun _ => True) (trod_sliceD (k := 1) Tryz.underlying33 (by kernel_rfl) (by omega) (fun avs d => ∃ s : List UInt8, avs = [aStr s] ∧ True ∧ s.length + 1 ≤ uptoBulk d) (fun fuel cs d ps h hl => str_reads h hl) g2)
     obtain ⟨bl, v3, _, u3⟩ := gatherD (fun s : Bool => [bA s]) (fun _ => 1) (fun _ => True) (trod_sliceD (k := 1) Tryz.underlying34 (by kernel_rfl) (by omega) (fun avs d => ∃ s : Bool, avs = [bA s] ∧ True ∧ 1 ≤ uptoBulk d) (fun fuel cs d ps h hl => bool_reads h hl) g3)
     rw [sum_one] at u3
     cases hd
     refine ⟨_, ⟨⟨s, n1, pl, bl⟩, rfl, b1, ?_⟩, rfl, fun i x y hx hy => ?_⟩
     ·show s.length + 1 + (pl.map fun p => p.length + 1).sum + bl.length ≤ uptoBulk x0.1 + (uptoBulk x1.1 + (uptoBulk x2.1 + (uptoBulk x3.1 + 0))) + 1
      omega
     ·match i with
      | 0 => simp [cellF] at hx hy; subst hx; subst hy; exact .sc rfl
      | 1 => simp [cellF] at hx hy; subst hx; subst hy; exact .sc rfl
      | 2 => simp [cellF] at hx hy; subst hx; subst hy; exact v2
      | 3 => simp [cellF] at hx hy; subst hx; subst hy; exact v3
      | i + 4 => simp [cellF] at hx
   ·cases h
theorem mem_sum {α : Type} (f : α → Nat) : ∀ (l : List α) (a : α), a ∈ l → f a ≤ (l.map f).sum := by
 intro l
 induction l with
 | nil => intro a h; cases h
 | cons b l ih =>
  intro a h
  rw [List.map_cons, List.sum_cons]
  rcases List.mem_cons.1 h with rfl | h
  ·omega
  ·have := ih a h; omega
theorem sum_le {α : Type} (f g : α → Nat) : ∀ l : List α, (∀ a ∈ l, f a ≤ g a) → (l.map f).sum ≤ (l.map g).sum := by
 intro l
 induction l with
 | nil => intro _; exact Nat.le_refl _
 | cons b l ih =>
  intro h
  have h1 := h b (by simp)
  have h2 := ih fun a ha => h a (by simp [ha])
  rw [List.map_cons, List.sum_cons, List.map_cons, List.sum_cons]
  omega
set_option maxRecDepth 100000 in
theorem code_reads {H : Type} {enc : TypeId × Value → H} {w : World} {base : Nat} {spare : Nat → Bool} {held : Bool} {v : Value} {d : DataW H} {p : List MemPlace} (hv : ∃ cs, v = .agg cs ∧ cs.size = Tryz.prog.cellsOf 25)
  (h : DataW.Trod enc Tryz.prog w base spare held 25 v d p) (hu : uptoBulk d ≤ 1048576) : ∃ si sf b e n r, CodeOk si sf b e n r ∧ V (imm0 w) (codeA si sf b e n r) v := by
 obtain ⟨fuel, h⟩ := h
 obtain ⟨⟨cs⟩, rfl, hsz⟩ := hv
 have e25 : Tryz.prog.cellsOf 25 = 6 := by kernel_rfl
 rw [e25] at hsz
 replace hsz : cs.length = 6 := hsz
 replace h : DataW.trod enc Tryz.prog w base spare held fuel 25 cs = some (d, p) := h
 cases fuel with
 | zero => cases h
 | succ fuel =>
  have e3 : Tryz.prog.cellsOf 3 = 1 := by kernel_rfl
  have e22 : Tryz.prog.cellsOf 22 = 1 := by kernel_rfl
  have e23 : Tryz.prog.cellsOf 23 = 1 := by kernel_rfl
  match cs, hsz with
  | [c0, c1, c2, c3, c4, c5], _ =>
   simp only [DataW.trod, Tryz.underlying25] at h
   split at h
   ·rw [Option.map_eq_some_iff] at h
    obtain ⟨xs, hm, hd⟩ := h
    have g0 := mapM_some_get hm 0 _ rfl
    have g1 := mapM_some_get hm 1 _ rfl
    have g2 := mapM_some_get hm 2 _ rfl
    have g3 := mapM_some_get hm 3 _ rfl
    have g4 := mapM_some_get hm 4 _ rfl
    have g5 := mapM_some_get hm 5 _ rfl
    have hlen := mapM_some_length hm
    replace hlen : xs.length = 6 := hlen
    match xs, hlen with
    | [x0, x1, x2, x3, x4, x5], _ =>
     simp only [e3, e22, e23] at g0 g1 g2 g3 g4 g5
     obtain ⟨il, v0, q0, u0⟩ := gatherD cellI iw (fun i => I64 i.op ∧ I64 i.x ∧ I64 i.y ∧ I64 i.n) (trod_sliceD (k := 6) Tryz.underlying22 (by kernel_rfl) (by omega) (fun avs d => ∃ i : InsD, avs = cellI i ∧ (I64 i.op ∧ I64 i.x ∧ I64 i.y ∧ I64 i.n) ∧ iw i ≤ uptoBulk d) (fun fuel cs d ps h hl => inst_reads h hl) g0)
     obtain ⟨fl, v1, q1, u1⟩ := gatherD cellF (fun f => fw f + f.arrays.length) (fun f => I64 f.entry) (trod_sliceD (k := 4) Tryz.underlying23 (by kernel_rfl) (by omega) (fun avs d => ∃ f : FunD, avs = cellF f ∧ I64 f.entry ∧ fw f + f.arrays.length ≤ uptoBulk d) (fun fuel cs d ps h hl => fun_reads h hl) g1)
     obtain ⟨n2, rfl, b2, _⟩ := trod_int Tryz.underlying3 g2
     obtain ⟨n3, rfl, b3, _⟩ := trod_int Tryz.underlying3 g3
     obtain ⟨n4, rfl, b4, _⟩ := trod_int Tryz.underlying3 g4
     obtain ⟨n5, rfl, b5, _⟩ := trod_int Tryz.underlying3 g5
     cases hd
     replace hu : uptoBulk x0.1 + (uptoBulk x1.1 + (uptoBulk x2.1 + (uptoBulk x3.1 + (uptoBulk x4.1 + (uptoBulk x5.1 + 0))))) + 1 ≤ 1048576 := hu
     have hfw := sum_le fw (fun f => fw f + f.arrays.length) fl fun a _ => by omega
     refine ⟨rowI il, rowF fl, n2, n3, n4, n5, ⟨b2, b3, b4, b5, ⟨fl, rfl, fun f hf => ?_, by omega⟩, ⟨il, rfl, fun i hi => ?_, by omega⟩⟩, .agg rfl fun i x y hx hy => ?_⟩
     ·have h1 : fw f + f.arrays.length ≤ _ := mem_sum (fun f : FunD => fw f + f.arrays.length) fl f hf
      have h2 : fw f ≤ 1048576 := by omega
      unfold fw at h2
      refine ⟨⟨by omega⟩, q1 f hf, fun p hp => ?_, ?_, by omega⟩
      ·have h3 : p.length + 1 ≤ _ := mem_sum (fun p : List UInt8 => p.length + 1) f.params p hp
       exact ⟨by omega⟩
      ·have := sum_le (fun _ : List UInt8 => 1) (fun p => p.length + 1) f.params fun a _ => by omega
       rw [sum_one] at this
       omega
     ·have h1 : i.t.length + 1 ≤ _ := mem_sum iw il i hi
      obtain ⟨a1, a2, a3, a4⟩ := q0 i hi
      exact ⟨a1, a2, a3, a4, ⟨by omega⟩⟩
     ·match i with
      | 0 => simp [codeC] at hx hy; subst hx; subst hy; exact v0
      | 1 => simp [codeC] at hx hy; subst hx; subst hy; exact v1
      | 2 => simp [codeC] at hx hy; subst hx; subst hy; exact .sc rfl
      | 3 => simp [codeC] at hx hy; subst hx; subst hy; exact .sc rfl
      | 4 => simp [codeC] at hx hy; subst hx; subst hy; exact .sc rfl
      | 5 => simp [codeC] at hx hy; subst hx; subst hy; exact .sc rfl
      | i + 6 => simp [codeC] at hx
   ·cases h
end Go.Proofs.Sp
