/- A part of the proof: definitions and lemmas. -/
import Derived.Test.YtciidohmobfciaaGreatDoorJudgesA
import Derived.Test.YtciidohmobfciaaGreatDoorJudgesB
import Derived.Test.YtciidohmobfciaaGreatDoorJudgesC
import Derived.Test.YtciidohmobfciaaGreatDoorJudgesD
import Derived.Test.YtciidohmobfciaaGreatDoorJudgesE
import Derived.Test.YtciidohmobfciaaGreatDoorJudgesF
import Derived.Test.YtciidohmobfciaaGreatDoorJudgesG
namespace Go.Proofs.Sp.Sj
open Go Go.Ef Go.Proofs.Pt
noncomputable section
structure CodeIn (si sf : Cells) : Prop where
 f : ∃ l, sf = rowF l ∧ Funs l
 i : ∃ l, si = rowI l ∧ Inss l
structure FunLens (sf : Cells) : Prop where
 is : ∀ k : Nat, k < sf.length → (cellSl sf k 2).length = (cellSl sf k 3).length
structure FunsIn (sf : Cells) (N : Int) : Prop where
 is : ∀ k : Nat, k < sf.length → wB (cellInt sf k 1) 0 (N - 1) = true ∧ (cellSl sf k 2).length = (cellSl sf k 3).length
structure InssIn (si sf : Cells) (r : Int) : Prop where
 is : ∀ k : Nat, k < si.length → properB si.length sf.length r (cellInt si k 0) (cellInt si k 1) (cellInt si k 2) (cellInt si k 3) (cellStr si k 4) = true
structure Shaped (si sf : Cells) (b e n r : Int) : Prop where
 nl : wB si.length 1 4096 = true
 bl : wB b 0 ((si.length : Int) - 1) = true
 el : wB e 0 ((si.length : Int) - 1) = true
 dl : wB n 0 ((si.length : Int) - 1) = true
 rl : wB r 0 4096 = true
 fs : FunsIn sf si.length
 is : InssIn si sf r
structure Good (si sf : Cells) (b e n r : Int) : Prop where
 sh : Shaped si sf b e n r
 w1 : ReachF si sf none b
 w2 : ReachF si sf none e
 w3 : ReachF si sf none n
 wf : ∀ k : Nat, k < sf.length → ReachF si sf (fiOf sf k) (cellInt sf k 1)
structure Iff' (q : Bool) (A : Prop) : Prop where
 is : q = true ↔ A
structure Yes (A : Prop) : Prop where
 is : A
def I13a (si sf : Cells) (b e n r N i : Int) : St := stOf 89 [(1, .lp 0 0), (3, sInt N), (4, sInt i)] [.cells (codeC si sf b e n r)] heapF
def E13a (z : Slot) (si sf : Cells) (b e n r N : Int) : St := stOf 89 [(1, .lp 0 0), (2, z), (3, sInt N)] [.cells (codeC si sf b e n r)] heapF
def I13b (si sf : Cells) (b e n r N i : Int) : St := stOf 89 [(1, .lp 0 0), (3, sInt N), (5, sInt i)] [.cells (codeC si sf b e n r)] heapF
def E13b (z : Slot) (si sf : Cells) (b e n r : Int) : St := stOf 89 [(2, z)] [.cells (codeC si sf b e n r)] heapF
def q13a (si sf : Cells) (b e n r N : Int) (X R : Prop) (ex : Ex) (τ : St) : Prop :=
 match ex with
 | .exit _ => ex = .exit 0 ∧ τ = E13a .unk si sf b e n r N ∧ X
 | .ret => τ = E13a (sBool false) si sf b e n r N ∧ R
 | _ => False
def q13b (si sf : Cells) (b e n r : Int) (X R : Prop) (ex : Ex) (τ : St) : Prop :=
 match ex with
 | .exit _ => ex = .exit 2 ∧ τ = E13b .unk si sf b e n r ∧ X
 | .ret => τ = E13b (sBool false) si sf b e n r ∧ R
 | _ => False
def T13r : Tab := (tab0.addC 26 C10).addC 35 C11
structure Is (a b : Int) : Prop where
 is : a = b
def L13a (σ : St) : Option LSpec := some { pre := σ.tidy [1, 3, 4] 1 = I13a (lcE σ 0 0) (lcE σ 0 1) (lcI σ 0 2) (lcI σ 0 3) (lcI σ 0 4) (lcI σ 0 5) (slI σ 3) (slI σ 4) ∧ CodeIn (lcE σ 0 0) (lcE σ 0 1) ∧ Is (slI σ 3) (lcE σ 0 0).length ∧ Is (slI σ 4) 0, alts := [{ α := Unit, post := fun _ => Yes (FunsIn (lcE σ 0 1) (slI σ 3)), ex := .exit 0, st := fun _ => E13a .unk (lcE σ 0 0) (lcE σ 0 1) (lcI σ 0 2) (lcI σ 0 3) (lcI σ 0 4) (lcI σ 0 5) (slI σ 3) }, { α := Unit, post := fun _ => Yes (¬FunsIn (lcE σ 0 1) (slI σ 3)), ex := .ret, st := fun _ => E13a (sBool false) (lcE σ 0 0) (lcE σ 0 1) (lcI σ 0 2) (lcI σ 0 3) (lcI σ 0 4) (lcI σ 0 5) (slI σ 3) }] }
def L13b (σ : St) : Option LSpec := some { pre := σ.tidy [1, 3, 5] 1 = I13b (lcE σ 0 0) (lcE σ 0 1) (lcI σ 0 2) (lcI σ 0 3) (lcI σ 0 4) (lcI σ 0 5) (slI σ 3) (slI σ 5) ∧ CodeIn (lcE σ 0 0) (lcE σ 0 1) ∧ Is (slI σ 3) (lcE σ 0 0).length ∧ Is (slI σ 5) 0 ∧ wB (lcI σ 0 5) 0 4096 = true, alts := [{ α := Unit, post := fun _ => Yes (InssIn (lcE σ 0 0) (lcE σ 0 1) (lcI σ 0 5)), ex := .exit 2, st := fun _ => E13b .unk (lcE σ 0 0) (lcE σ 0 1) (lcI σ 0 2) (lcI σ 0 3) (lcI σ 0 4) (lcI σ 0 5) }, { α := Unit, post := fun _ => Yes (¬InssIn (lcE σ 0 0) (lcE σ 0 1) (lcI σ 0 5)), ex := .ret, st := fun _ => E13b (sBool false) (lcE σ 0 0) (lcE σ 0 1) (lcI σ 0 2) (lcI σ 0 3) (lcI σ 0 4) (lcI σ 0 5) }] }
def T13 : Tab := ((tab0.addC 26 C10).addL 13 6 L13a).addL 13 11 L13b
def C13 (args : List AV) (h : Heap) : Option CSpec :=
 match args with
 | [.agg [.sl si 0, .sl sf 0, .sc (.int .i64 b), .sc (.int .i64 e), .sc (.int .i64 n), .sc (.int .i64 r)]] => some { pre := CodeIn si sf, alts := [{ α := Bool, post := fun q => Iff' q (Shaped si sf b e n r), val := bA, heap := fun _ => h }] }
 | _ => none
def hR (n : Nat) : Heap := { next := 2, objs := (Tr.leaf : Tr AObj).set 1 (.own 2 31 n), ro := 1, ty := .leaf }
def ownR (h : Heap) : Nat :=
 match h.get 1 with
 | some (.own _ _ n) => n
 | _ => 0
def rootsF (b e n : Int) (sf : Cells) (k : Nat) : Cells := [[iA b, iA (-1)], [iA e, iA (-1)], [iA n, iA (-1)]] ++ (List.range k).map fun j : Nat => [iA (cellInt sf j 1), iA j]
def I5a (si sf : Cells) (b e n r N : Int) (els : Cells) (k : Nat) (i : Int) : St := stOf 97 [(1, .lp 0 0), (3, sInt N), (4, .v (.sl els 2)), (39, .v (.sl sf 0)), (40, sInt sf.length), (41, sInt i)] [.cells (codeC si sf b e n r)] (hR k)
def E5a (z : Slot) (si sf : Cells) (b e n r N : Int) (els : Cells) (k : Nat) : St := stOf 97 [(1, .lp 0 0), (2, z), (3, sInt N), (4, .v (.sl els 2))] [.cells (codeC si sf b e n r)] (hR k)
def I5b (si sf : Cells) (b e n r N : Int) (els : Cells) (k : Nat) (i : Int) : St := stOf 97 [(1, .lp 0 0), (3, sInt N), (4, .v (.sl els 2)), (62, .v (.sl si 0)), (63, sInt si.length), (64, sInt i)] [.cells (codeC si sf b e n r)] (hR k)
def I5c (si sf : Cells) (b e n r N : Int) (els : Cells) (k : Nat) (i : Int) : St := stOf 97 [(1, .lp 0 0), (3, sInt N), (4, .v (.sl els 2)), (73, .v (.sl els 2)), (74, sInt els.length), (75, sInt i)] [.cells (codeC si sf b e n r)] (hR k)
def E5c (z : Slot) (si sf : Cells) (b e n r : Int) (els : Cells) (k : Nat) : St := stOf 97 [(1, .lp 0 0), (2, z), (4, .v (.sl els 2))] [.cells (codeC si sf b e n r)] (hR k)
def I5d (si sf : Cells) (b e n r : Int) (els : Cells) (k : Nat) (i : Int) : St := stOf 97 [(1, .lp 0 0), (86, .v (.sl els 2)), (87, sInt els.length), (88, sInt i)] [.cells (codeC si sf b e n r)] (hR k)
def E5d (z : Slot) (si sf : Cells) (b e n r : Int) (k : Nat) : St := stOf 97 [(2, z)] [.cells (codeC si sf b e n r)] (hR k)
def q5 (i : Nat) (E E' : St) (X R : Prop) (ex : Ex) (τ : St) : Prop :=
 match ex with
 | .exit _ => ex = .exit i ∧ τ = E ∧ X
 | .ret => τ = E' ∧ R
 | _ => False
def q5a (si sf : Cells) (b e n r N : Int) (els : Cells) (k : Nat) (X : Prop) (R : Cells → Nat → Prop) (ex : Ex) (τ : St) : Prop :=
 match ex with
 | .exit _ => ex = .exit 0 ∧ τ = E5a .unk si sf b e n r N els k ∧ X
 | .ret => τ = E5a (sBool false) si sf b e n r N (slEls τ 4) (ownR τ.h) ∧ R (slEls τ 4) (ownR τ.h)
 | _ => False
structure RootsOk (b e n : Int) (sf : Cells) (els : Cells) (k : Nat) : Prop where
 is : els = rootsF b e n sf sf.length
 n : k = els.length
structure AllIn (els : Cells) (N : Int) : Prop where
 is : ∀ j : Nat, j < els.length → wB (cellInt els j 0) 0 (N - 1) = true
structure AllReach (si sf : Cells) (els : Cells) : Prop where
 is : ∀ j : Nat, j < els.length → ReachF si sf (fiOf sf (cellInt els j 1)) (cellInt els j 0)
def T5r : Tab := ((tab0.addC 10 C10).addC 11 C11).addC 12 C12
end
end Go.Proofs.Sp.Sj
namespace Go.Proofs.Sp.Sj
open Go Go.Ef Go.Proofs.Pt
noncomputable section
def rowR (l : List (Int × Int)) : Cells := l.map fun p => [iA p.1, iA p.2]
structure RowR (els : Cells) : Prop where
 is : ∃ l, els = rowR l ∧ l.length ≤ 2000000
structure Start5 (si sf : Cells) (b e n : Int) (els : Cells) (k : Nat) (i : Int) : Prop where
 c : CodeIn si sf
 els : els = [[iA b, iA (-1)], [iA e, iA (-1)], [iA n, iA (-1)]]
 k3 : k = 3
 i0 : i = 0
structure Lens (N r : Int) : Prop where
 n0 : 1 ≤ N
 n1 : N ≤ 4096
 r0 : 0 ≤ r
 r1 : r ≤ 4096
structure RootsAt (sf : Cells) (els : Cells) : Prop where
 is : ∀ j : Nat, j < els.length → FnOk sf (cellInt els j 1) ∧ 0 ≤ cellInt els j 0
def L5a (σ : St) : Option LSpec := some { pre := σ.tidy [1, 3, 4, 39, 40, 41] 1 = I5a (lcE σ 0 0) (lcE σ 0 1) (lcI σ 0 2) (lcI σ 0 3) (lcI σ 0 4) (lcI σ 0 5) (slI σ 3) (slEls σ 4) (ownR σ.h) (slI σ 41) ∧ Is (slI σ 3) (lcE σ 0 0).length ∧ Start5 (lcE σ 0 0) (lcE σ 0 1) (lcI σ 0 2) (lcI σ 0 3) (lcI σ 0 4) (slEls σ 4) (ownR σ.h) (slI σ 41), alts := [{ α := Cells × Nat, post := fun q => RootsOk (lcI σ 0 2) (lcI σ 0 3) (lcI σ 0 4) (lcE σ 0 1) q.1 q.2 ∧ FunLens (lcE σ 0 1), ex := .exit 0, st := fun q => E5a .unk (lcE σ 0 0) (lcE σ 0 1) (lcI σ 0 2) (lcI σ 0 3) (lcI σ 0 4) (lcI σ 0 5) (slI σ 3) q.1 q.2 }, { α := Cells × Nat, post := fun _ => Yes (¬FunLens (lcE σ 0 1)), ex := .ret, st := fun q => E5a (sBool false) (lcE σ 0 0) (lcE σ 0 1) (lcI σ 0 2) (lcI σ 0 3) (lcI σ 0 4) (lcI σ 0 5) (slI σ 3) q.1 q.2 }] }
def L5b (σ : St) : Option LSpec := some { pre := σ.tidy [1, 3, 4, 62, 63, 64] 1 = I5b (lcE σ 0 0) (lcE σ 0 1) (lcI σ 0 2) (lcI σ 0 3) (lcI σ 0 4) (lcI σ 0 5) (slI σ 3) (slEls σ 4) (ownR σ.h) (slI σ 64) ∧ CodeIn (lcE σ 0 0) (lcE σ 0 1) ∧ wB (lcI σ 0 5) 0 4096 = true ∧ Is (slI σ 64) 0, alts := [{ α := Unit, post := fun _ => Yes (InssIn (lcE σ 0 0) (lcE σ 0 1) (lcI σ 0 5)), ex := .exit 2, st := fun _ => E5a .unk (lcE σ 0 0) (lcE σ 0 1) (lcI σ 0 2) (lcI σ 0 3) (lcI σ 0 4) (lcI σ 0 5) (slI σ 3) (slEls σ 4) (ownR σ.h) }, { α := Unit, post := fun _ => Yes (¬InssIn (lcE σ 0 0) (lcE σ 0 1) (lcI σ 0 5)), ex := .ret, st := fun _ => E5a (sBool false) (lcE σ 0 0) (lcE σ 0 1) (lcI σ 0 2) (lcI σ 0 3) (lcI σ 0 4) (lcI σ 0 5) (slI σ 3) (slEls σ 4) (ownR σ.h) }] }
def L5c (σ : St) : Option LSpec := some { pre := σ.tidy [1, 3, 4, 73, 74, 75] 1 = I5c (lcE σ 0 0) (lcE σ 0 1) (lcI σ 0 2) (lcI σ 0 3) (lcI σ 0 4) (lcI σ 0 5) (slI σ 3) (slEls σ 4) (ownR σ.h) (slI σ 75) ∧ RowR (slEls σ 4) ∧ Lens (slI σ 3) 0 ∧ Is (slI σ 75) 0, alts := [{ α := Unit, post := fun _ => Yes (AllIn (slEls σ 4) (slI σ 3)), ex := .exit 4, st := fun _ => E5c .unk (lcE σ 0 0) (lcE σ 0 1) (lcI σ 0 2) (lcI σ 0 3) (lcI σ 0 4) (lcI σ 0 5) (slEls σ 4) (ownR σ.h) }, { α := Unit, post := fun _ => Yes (¬AllIn (slEls σ 4) (slI σ 3)), ex := .ret, st := fun _ => E5c (sBool false) (lcE σ 0 0) (lcE σ 0 1) (lcI σ 0 2) (lcI σ 0 3) (lcI σ 0 4) (lcI σ 0 5) (slEls σ 4) (ownR σ.h) }] }
def L5d (σ : St) : Option LSpec := some { pre := σ.tidy [1, 86, 87, 88] 1 = I5d (lcE σ 0 0) (lcE σ 0 1) (lcI σ 0 2) (lcI σ 0 3) (lcI σ 0 4) (lcI σ 0 5) (slEls σ 86) (ownR σ.h) (slI σ 88) ∧ Codes (lcE σ 0 0) (lcE σ 0 1) (lcI σ 0 5) ∧ RowR (slEls σ 86) ∧ RootsAt (lcE σ 0 1) (slEls σ 86) ∧ Is (slI σ 88) 0, alts := [{ α := Unit, post := fun _ => Yes (AllReach (lcE σ 0 0) (lcE σ 0 1) (slEls σ 86)), ex := .exit 6, st := fun _ => E5d .unk (lcE σ 0 0) (lcE σ 0 1) (lcI σ 0 2) (lcI σ 0 3) (lcI σ 0 4) (lcI σ 0 5) (ownR σ.h) }, { α := Unit, post := fun _ => Yes (¬AllReach (lcE σ 0 0) (lcE σ 0 1) (slEls σ 86)), ex := .ret, st := fun _ => E5d (sBool false) (lcE σ 0 0) (lcE σ 0 1) (lcI σ 0 2) (lcI σ 0 3) (lcI σ 0 4) (lcI σ 0 5) (ownR σ.h) }] }
def T5 : Tab := ((((tab0.addC 10 C10).addL 5 7 L5a).addL 5 14 L5b).addL 5 20 L5c).addL 5 26 L5d
def C5 (args : List AV) (h : Heap) : Option CSpec :=
 match args with
 | [.agg [.sl si 0, .sl sf 0, .sc (.int .i64 b), .sc (.int .i64 e), .sc (.int .i64 n), .sc (.int .i64 r)]] => some { pre := CodeIn si sf, alts := [{ α := Bool, post := fun q => Iff' q (Good si sf b e n r), val := bA, heap := fun _ => h }] }
 | _ => none
end
end Go.Proofs.Sp.Sj
namespace Go.Proofs.Sp.Sj
open Go Go.Ef Go.Proofs.Pt
noncomputable section
set_option maxRecDepth 100000
theorem r13a (M : Int) (si : Cells) (sf : Cells) (b : Int) (e : Int) (n : Int) (r : Int) (N : Int) (i : Int) (Nx : Int → Prop) (X : Prop) (R : Prop) (h :
 iteP (decide (i < (↑(List.length sf) : Int)))
 (iteP (inRange i (List.length sf))
 (getI i.toNat sf =
 some
 [AV.sc (Value.string (ByteArray.mk (Array.mk (cellStr sf i (0 : Nat))))),
 AV.sc (Value.int IntKind.i64 (cellInt sf i (1 : Nat))), AV.sl (cellSl sf i (2 : Nat)) (0 : Nat),
 AV.sl (cellSl sf i (3 : Nat)) (0 : Nat)] ∧
 True ∧
 ∀ (x : Bool),
 x = wB (cellInt sf i (1 : Nat)) (0 : Int) (IntKind.i64.wrap (N - (1 : Int))) →
 iteP x
 (iteP (inRange i (List.length sf))
 (getI i.toNat sf =
 some
 [AV.sc (Value.string (ByteArray.mk (Array.mk (cellStr sf i (0 : Nat))))),
 AV.sc (Value.int IntKind.i64 (cellInt sf i (1 : Nat))), AV.sl (cellSl sf i (2 : Nat)) (0 : Nat),
 AV.sl (cellSl sf i (3 : Nat)) (0 : Nat)] ∧
 iteP (inRange i (List.length sf))
 (getI i.toNat sf =
 some
 [AV.sc (Value.string (ByteArray.mk (Array.mk (cellStr sf i (0 : Nat))))),
 AV.sc (Value.int IntKind.i64 (cellInt sf i (1 : Nat))),
 AV.sl (cellSl sf i (2 : Nat)) (0 : Nat), AV.sl (cellSl sf i (3 : Nat)) (0 : Nat)] ∧
 iteP ((↑(cellSl sf i (2 : Nat)).length : Int) != (↑(cellSl sf i (3 : Nat)).length : Int))
 (E13a (Slot.v (AV.sc (Value.bool false))) si sf b e n r N =
 E13a (Slot.v (AV.sc (Value.bool false))) si sf b e n r N ∧
 R)
 (I13a si sf b e n r N (IntKind.i64.wrap (i + (1 : Int))) =
 I13a si sf b e n r N (IntKind.i64.wrap (i + (1 : Int))) ∧
 Nx (IntKind.i64.wrap (i + (1 : Int)))))
 False)
 False)
 (E13a (Slot.v (AV.sc (Value.bool false))) si sf b e n r N =
 E13a (Slot.v (AV.sc (Value.bool false))) si sf b e n r N ∧
 R))
 False)
 (Ex.exit (0 : Nat) = Ex.exit (0 : Nat) ∧ E13a Slot.unk si sf b e n r N = E13a Slot.unk si sf b e n r N ∧ X)) :
 (fun (M : Int) (si sf : Cells) (b e n r N i : Int) (Nx : Int → Prop) (X R : Prop) => wpRound T13r (cfg M) Tryz.prog 100 13 6 (I13a si sf b e n r N i) (fun τ => τ = I13a si sf b e n r N (slI τ 4) ∧ Nx (slI τ 4)) (q13a si sf b e n r N X R)) M si sf b e n r N i Nx X R :=
 Eq.mp (by kernel_rfl) h
theorem r13b (M : Int) (si : Cells) (sf : Cells) (b : Int) (e : Int) (n : Int) (r : Int) (N : Int) (i : Int) (Nx : Int → Prop) (X : Prop) (R : Prop) (h :
 iteP (decide (i < N))
 (iteP (inRange i (List.length si))
 (getI i.toNat si =
 some
 [AV.sc (Value.int IntKind.i64 (cellInt si i (0 : Nat))),
 AV.sc (Value.int IntKind.i64 (cellInt si i (1 : Nat))),
 AV.sc (Value.int IntKind.i64 (cellInt si i (2 : Nat))),
 AV.sc (Value.int IntKind.i64 (cellInt si i (3 : Nat))),
 AV.sc (Value.string (ByteArray.mk (Array.mk (cellStr si i (4 : Nat))))),
 AV.sc (Value.int IntKind.i64 (cellInt si i (5 : Nat)))] ∧
 Rgs si sf r ∧
 ∀ (x : Bool),
 x =
 properB (↑(List.length si) : Int) (↑(List.length sf) : Int) r (cellInt si i (0 : Nat))
 (cellInt si i (1 : Nat)) (cellInt si i (2 : Nat)) (cellInt si i (3 : Nat)) (cellStr si i (4 : Nat)) →
 iteP x
 (I13b si sf b e n r N (IntKind.i64.wrap (i + (1 : Int))) =
 I13b si sf b e n r N (IntKind.i64.wrap (i + (1 : Int))) ∧
 Nx (IntKind.i64.wrap (i + (1 : Int))))
 (E13b (Slot.v (AV.sc (Value.bool false))) si sf b e n r =
 E13b (Slot.v (AV.sc (Value.bool false))) si sf b e n r ∧
 R))
 False)
 (Ex.exit (2 : Nat) = Ex.exit (2 : Nat) ∧ E13b Slot.unk si sf b e n r = E13b Slot.unk si sf b e n r ∧ X)) :
 (fun (M : Int) (si sf : Cells) (b e n r N i : Int) (Nx : Int → Prop) (X R : Prop) => wpRound T13r (cfg M) Tryz.prog 100 13 11 (I13b si sf b e n r N i) (fun τ => τ = I13b si sf b e n r N (slI τ 5) ∧ Nx (slI τ 5)) (q13b si sf b e n r X R)) M si sf b e n r N i Nx X R :=
 Eq.mp (by kernel_rfl) h
theorem v13 (M : Int) (si : Cells) (sf : Cells) (b : Int) (e : Int) (n : Int) (r : Int) (K : AV → Prop) (h :
 True ∧
 ∀ (x : Bool),
 x = wB (↑(List.length si) : Int) (1 : Int) (4096 : Int) →
 iteP x
 (True ∧
 ∀ (x : Bool),
 x = wB b (0 : Int) (IntKind.i64.wrap ((↑(List.length si) : Int) - (1 : Int))) →
 iteP x
 (True ∧
 ∀ (x : Bool),
 x = wB e (0 : Int) (IntKind.i64.wrap ((↑(List.length si) : Int) - (1 : Int))) →
 iteP x
 (True ∧
 ∀ (x : Bool),
 x = wB n (0 : Int) (IntKind.i64.wrap ((↑(List.length si) : Int) - (1 : Int))) →
 iteP x
 (True ∧
 ∀ (x : Bool),
 x = wB r (0 : Int) (4096 : Int) →
 iteP x
 (loopAt Tryz.prog (13 : Nat) (6 : Nat) = loopAt Tryz.prog (13 : Nat) (6 : Nat) ∧
 (I13a si sf b e n r (↑(List.length si) : Int) (0 : Int) =
 I13a si sf b e n r (↑(List.length si) : Int) (0 : Int) ∧
 CodeIn si sf ∧
 Is (↑(List.length si) : Int) (↑(List.length si) : Int) ∧
 Is (0 : Int) (0 : Int)) ∧
 (∀ (_ : Unit),
 Yes (FunsIn sf (↑(List.length si) : Int)) →
 loopAt Tryz.prog (13 : Nat) (11 : Nat) =
 loopAt Tryz.prog (13 : Nat) (11 : Nat) ∧
 (I13b si sf b e n r (↑(List.length si) : Int) (0 : Int) =
 I13b si sf b e n r (↑(List.length si) : Int) (0 : Int) ∧
 CodeIn si sf ∧
 Is (↑(List.length si) : Int) (↑(List.length si) : Int) ∧
 Is (0 : Int) (0 : Int) ∧
 wB r (0 : Int) (4096 : Int) = true) ∧
 (∀ (_ : Unit),
 Yes (InssIn si sf r) → K (AV.sc (Value.bool true))) ∧
 ∀ (_ : Unit),
 Yes ¬InssIn si sf r → K (AV.sc (Value.bool false))) ∧
 ∀ (_ : Unit),
 Yes ¬FunsIn sf (↑(List.length si) : Int) → K (AV.sc (Value.bool false)))
 (K (AV.sc (Value.bool false))))
 (K (AV.sc (Value.bool false))))
 (K (AV.sc (Value.bool false))))
 (K (AV.sc (Value.bool false))))
 (K (AV.sc (Value.bool false)))) :
 (fun (M : Int) (si sf : Cells) (b e n r : Int) (K : AV → Prop) => wpCall T13 (cfg M) Tryz.prog 100 13 [codeA si sf b e n r] heapF fun r h' => wpBack h' r K) M si sf b e n r K :=
 Eq.mp (by kernel_rfl) h
theorem r5a (M : Int) (si : Cells) (sf : Cells) (b : Int) (e : Int) (n : Int) (r : Int) (N : Int) (els : Cells) (k : Nat) (i : Int) (Nx : Cells → Nat → Int → Prop) (X : Prop) (R : Cells → Nat → Prop) (h :
 iteP (decide (i < (↑(List.length sf) : Int)))
 (iteP (inRange i (List.length sf))
 (getI i.toNat sf =
 some
 [AV.sc (Value.string (ByteArray.mk (Array.mk (cellStr sf i (0 : Nat))))),
 AV.sc (Value.int IntKind.i64 (cellInt sf i (1 : Nat))), AV.sl (cellSl sf i (2 : Nat)) (0 : Nat),
 AV.sl (cellSl sf i (3 : Nat)) (0 : Nat)] ∧
 iteP ((↑(cellSl sf i (3 : Nat)).length : Int) != (↑(cellSl sf i (2 : Nat)).length : Int))
 (E5a (Slot.v (AV.sc (Value.bool false))) si sf b e n r N els k =
 E5a (Slot.v (AV.sc (Value.bool false))) si sf b e n r N els k ∧
 R els k)
 (iteP
 (allLen (2 : Nat) els &&
 fits
 (List.length els +
 [[AV.sc (Value.int IntKind.i64 (cellInt sf i (1 : Nat))), AV.sc (Value.int IntKind.i64 i)]].length)
 (16 : Nat))
 (iteP (decide (List.length els = k))
 (I5a si sf b e n r N
 (els ++ [[AV.sc (Value.int IntKind.i64 (cellInt sf i (1 : Nat))), AV.sc (Value.int IntKind.i64 i)]])
 (k +
 [[AV.sc (Value.int IntKind.i64 (cellInt sf i (1 : Nat))), AV.sc (Value.int IntKind.i64 i)]].length)
 (IntKind.i64.wrap (i + (1 : Int))) =
 I5a si sf b e n r N
 (els ++ [[AV.sc (Value.int IntKind.i64 (cellInt sf i (1 : Nat))), AV.sc (Value.int IntKind.i64 i)]])
 (k +
 [[AV.sc (Value.int IntKind.i64 (cellInt sf i (1 : Nat))), AV.sc (Value.int IntKind.i64 i)]].length)
 (IntKind.i64.wrap (i + (1 : Int))) ∧
 Nx (els ++ [[AV.sc (Value.int IntKind.i64 (cellInt sf i (1 : Nat))), AV.sc (Value.int IntKind.i64 i)]])
 (k + [[AV.sc (Value.int IntKind.i64 (cellInt sf i (1 : Nat))), AV.sc (Value.int IntKind.i64 i)]].length)
 (IntKind.i64.wrap (i + (1 : Int))))
 False)
 False))
 False)
 (Ex.exit (0 : Nat) = Ex.exit (0 : Nat) ∧ E5a Slot.unk si sf b e n r N els k = E5a Slot.unk si sf b e n r N els k ∧ X)) :
 (fun (M : Int) (si sf : Cells) (b e n r N : Int) (els : Cells) (k : Nat) (i : Int) (Nx : Cells → Nat → Int → Prop) (X : Prop) (R : Cells → Nat → Prop) => wpRound T5r (cfg M) Tryz.prog 100 5 7 (I5a si sf b e n r N els k i) (fun τ => τ = I5a si sf b e n r N (slEls τ 4) (ownR τ.h) (slI τ 41) ∧ Nx (slEls τ 4) (ownR τ.h) (slI τ 41)) (q5a si sf b e n r N els k X R)) M si sf b e n r N els k i Nx X R :=
 Eq.mp (by kernel_rfl) h
theorem r5b (M : Int) (si : Cells) (sf : Cells) (b : Int) (e : Int) (n : Int) (r : Int) (N : Int) (els : Cells) (k : Nat) (i : Int) (Nx : Int → Prop) (X : Prop) (R : Prop) (h :
 iteP (decide (i < (↑(List.length si) : Int)))
 (iteP (inRange i (List.length si))
 (getI i.toNat si =
 some
 [AV.sc (Value.int IntKind.i64 (cellInt si i (0 : Nat))),
 AV.sc (Value.int IntKind.i64 (cellInt si i (1 : Nat))),
 AV.sc (Value.int IntKind.i64 (cellInt si i (2 : Nat))),
 AV.sc (Value.int IntKind.i64 (cellInt si i (3 : Nat))),
 AV.sc (Value.string (ByteArray.mk (Array.mk (cellStr si i (4 : Nat))))),
 AV.sc (Value.int IntKind.i64 (cellInt si i (5 : Nat)))] ∧
 Rgs si sf r ∧
 ∀ (x : Bool),
 x =
 properB (↑(List.length si) : Int) (↑(List.length sf) : Int) r (cellInt si i (0 : Nat))
 (cellInt si i (1 : Nat)) (cellInt si i (2 : Nat)) (cellInt si i (3 : Nat)) (cellStr si i (4 : Nat)) →
 iteP x
 (I5b si sf b e n r N els k (IntKind.i64.wrap (i + (1 : Int))) =
 I5b si sf b e n r N els k (IntKind.i64.wrap (i + (1 : Int))) ∧
 Nx (IntKind.i64.wrap (i + (1 : Int))))
 (E5a (Slot.v (AV.sc (Value.bool false))) si sf b e n r N els k =
 E5a (Slot.v (AV.sc (Value.bool false))) si sf b e n r N els k ∧
 R))
 False)
 (Ex.exit (2 : Nat) = Ex.exit (2 : Nat) ∧ E5a Slot.unk si sf b e n r N els k = E5a Slot.unk si sf b e n r N els k ∧ X)) :
 (fun (M : Int) (si sf : Cells) (b e n r N : Int) (els : Cells) (k : Nat) (i : Int) (Nx : Int → Prop) (X R : Prop) => wpRound T5r (cfg M) Tryz.prog 100 5 14 (I5b si sf b e n r N els k i) (fun τ => τ = I5b si sf b e n r N els k (slI τ 64) ∧ Nx (slI τ 64)) (q5 2 (E5a .unk si sf b e n r N els k) (E5a (sBool false) si sf b e n r N els k) X R)) M si sf b e n r N els k i Nx X R :=
 Eq.mp (by kernel_rfl) h
theorem r5c (M : Int) (si : Cells) (sf : Cells) (b : Int) (e : Int) (n : Int) (r : Int) (N : Int) (els : Cells) (k : Nat) (i : Int) (Nx : Int → Prop) (X : Prop) (R : Prop) (h :
 iteP (decide (i < (↑(List.length els) : Int)))
 (iteP (inRange i (List.length els))
 (getI i.toNat els =
 some
 [AV.sc (Value.int IntKind.i64 (cellInt els i (0 : Nat))),
 AV.sc (Value.int IntKind.i64 (cellInt els i (1 : Nat)))] ∧
 True ∧
 ∀ (x : Bool),
 x = wB (cellInt els i (0 : Nat)) (0 : Int) (IntKind.i64.wrap (N - (1 : Int))) →
 iteP x
 (I5c si sf b e n r N els k (IntKind.i64.wrap (i + (1 : Int))) =
 I5c si sf b e n r N els k (IntKind.i64.wrap (i + (1 : Int))) ∧
 Nx (IntKind.i64.wrap (i + (1 : Int))))
 (E5c (Slot.v (AV.sc (Value.bool false))) si sf b e n r els k =
 E5c (Slot.v (AV.sc (Value.bool false))) si sf b e n r els k ∧
 R))
 False)
 (Ex.exit (4 : Nat) = Ex.exit (4 : Nat) ∧ E5c Slot.unk si sf b e n r els k = E5c Slot.unk si sf b e n r els k ∧ X)) :
 (fun (M : Int) (si sf : Cells) (b e n r N : Int) (els : Cells) (k : Nat) (i : Int) (Nx : Int → Prop) (X R : Prop) => wpRound T5r (cfg M) Tryz.prog 100 5 20 (I5c si sf b e n r N els k i) (fun τ => τ = I5c si sf b e n r N els k (slI τ 75) ∧ Nx (slI τ 75)) (q5 4 (E5c .unk si sf b e n r els k) (E5c (sBool false) si sf b e n r els k) X R)) M si sf b e n r N els k i Nx X R :=
 Eq.mp (by kernel_rfl) h
theorem r5d (M : Int) (si : Cells) (sf : Cells) (b : Int) (e : Int) (n : Int) (r : Int) (els : Cells) (k : Nat) (i : Int) (Nx : Int → Prop) (X : Prop) (R : Prop) (h :
 iteP (decide (i < (↑(List.length els) : Int)))
 (iteP (inRange i (List.length els))
 (getI i.toNat els =
 some
 [AV.sc (Value.int IntKind.i64 (cellInt els i (0 : Nat))),
 AV.sc (Value.int IntKind.i64 (cellInt els i (1 : Nat)))] ∧
 (Codes si sf r ∧ FnOk sf (cellInt els i (1 : Nat)) ∧ (0 : Int) ≤ cellInt els i (0 : Nat)) ∧
 ∀ (x : Bool),
 RIff si sf (fiOf sf (cellInt els i (1 : Nat))) (cellInt els i (0 : Nat)) x →
 iteP x
 (I5d si sf b e n r els k (IntKind.i64.wrap (i + (1 : Int))) =
 I5d si sf b e n r els k (IntKind.i64.wrap (i + (1 : Int))) ∧
 Nx (IntKind.i64.wrap (i + (1 : Int))))
 (E5d (Slot.v (AV.sc (Value.bool false))) si sf b e n r k =
 E5d (Slot.v (AV.sc (Value.bool false))) si sf b e n r k ∧
 R))
 False)
 (Ex.exit (6 : Nat) = Ex.exit (6 : Nat) ∧ E5d Slot.unk si sf b e n r k = E5d Slot.unk si sf b e n r k ∧ X)) :
 (fun (M : Int) (si sf : Cells) (b e n r : Int) (els : Cells) (k : Nat) (i : Int) (Nx : Int → Prop) (X R : Prop) => wpRound T5r (cfg M) Tryz.prog 100 5 26 (I5d si sf b e n r els k i) (fun τ => τ = I5d si sf b e n r els k (slI τ 88) ∧ Nx (slI τ 88)) (q5 6 (E5d .unk si sf b e n r k) (E5d (sBool false) si sf b e n r k) X R)) M si sf b e n r els k i Nx X R :=
 Eq.mp (by kernel_rfl) h
theorem v5 (M : Int) (si : Cells) (sf : Cells) (b : Int) (e : Int) (n : Int) (r : Int) (K : AV → Prop) (h :
 iteP (decide ((↑(List.length si) : Int) < (1 : Int))) (K (AV.sc (Value.bool false)))
 (iteP (decide ((4096 : Int) < (↑(List.length si) : Int))) (K (AV.sc (Value.bool false)))
 (True ∧
 ∀ (x : Bool),
 x = wB r (0 : Int) (4096 : Int) →
 iteP x
 (loopAt Tryz.prog (5 : Nat) (7 : Nat) = loopAt Tryz.prog (5 : Nat) (7 : Nat) ∧
 (I5a si sf b e n r (↑(List.length si) : Int)
 [[AV.sc (Value.int IntKind.i64 b), AV.sc (Value.int IntKind.i64 (-1 : Int))],
 [AV.sc (Value.int IntKind.i64 e), AV.sc (Value.int IntKind.i64 (-1 : Int))],
 [AV.sc (Value.int IntKind.i64 n), AV.sc (Value.int IntKind.i64 (-1 : Int))]]
 [[AV.sc (Value.int IntKind.i64 b), AV.sc (Value.int IntKind.i64 (-1 : Int))],
 [AV.sc (Value.int IntKind.i64 e), AV.sc (Value.int IntKind.i64 (-1 : Int))],
 [AV.sc (Value.int IntKind.i64 n), AV.sc (Value.int IntKind.i64 (-1 : Int))]].length
 (0 : Int) =
 I5a si sf b e n r (↑(List.length si) : Int)
 [[AV.sc (Value.int IntKind.i64 b), AV.sc (Value.int IntKind.i64 (-1 : Int))],
 [AV.sc (Value.int IntKind.i64 e), AV.sc (Value.int IntKind.i64 (-1 : Int))],
 [AV.sc (Value.int IntKind.i64 n), AV.sc (Value.int IntKind.i64 (-1 : Int))]]
 [[AV.sc (Value.int IntKind.i64 b), AV.sc (Value.int IntKind.i64 (-1 : Int))],
 [AV.sc (Value.int IntKind.i64 e), AV.sc (Value.int IntKind.i64 (-1 : Int))],
 [AV.sc (Value.int IntKind.i64 n), AV.sc (Value.int IntKind.i64 (-1 : Int))]].length
 (0 : Int) ∧
 Is (↑(List.length si) : Int) (↑(List.length si) : Int) ∧
 Start5 si sf b e n
 [[AV.sc (Value.int IntKind.i64 b), AV.sc (Value.int IntKind.i64 (-1 : Int))],
 [AV.sc (Value.int IntKind.i64 e), AV.sc (Value.int IntKind.i64 (-1 : Int))],
 [AV.sc (Value.int IntKind.i64 n), AV.sc (Value.int IntKind.i64 (-1 : Int))]]
 [[AV.sc (Value.int IntKind.i64 b), AV.sc (Value.int IntKind.i64 (-1 : Int))],
 [AV.sc (Value.int IntKind.i64 e), AV.sc (Value.int IntKind.i64 (-1 : Int))],
 [AV.sc (Value.int IntKind.i64 n), AV.sc (Value.int IntKind.i64 (-1 : Int))]].length
 (0 : Int)) ∧
 (∀ (x : Cells × Nat),
 RootsOk b e n sf x.fst x.snd ∧ FunLens sf →
 loopAt Tryz.prog (5 : Nat) (14 : Nat) = loopAt Tryz.prog (5 : Nat) (14 : Nat) ∧
 (I5b si sf b e n r (↑(List.length si) : Int) x.fst x.snd (0 : Int) =
 I5b si sf b e n r (↑(List.length si) : Int) x.fst x.snd (0 : Int) ∧
 CodeIn si sf ∧ wB r (0 : Int) (4096 : Int) = true ∧ Is (0 : Int) (0 : Int)) ∧
 (∀ (_ : Unit),
 Yes (InssIn si sf r) →
 loopAt Tryz.prog (5 : Nat) (20 : Nat) = loopAt Tryz.prog (5 : Nat) (20 : Nat) ∧
 (I5c si sf b e n r (↑(List.length si) : Int) x.fst x.snd (0 : Int) =
 I5c si sf b e n r (↑(List.length si) : Int) x.fst x.snd (0 : Int) ∧
 RowR x.fst ∧ Lens (↑(List.length si) : Int) (0 : Int) ∧ Is (0 : Int) (0 : Int)) ∧
 (∀ (_ : Unit),
 Yes (AllIn x.fst (↑(List.length si) : Int)) →
 loopAt Tryz.prog (5 : Nat) (26 : Nat) =
 loopAt Tryz.prog (5 : Nat) (26 : Nat) ∧
 (I5d si sf b e n r x.fst x.snd (0 : Int) =
 I5d si sf b e n r x.fst x.snd (0 : Int) ∧
 Codes si sf r ∧
 RowR x.fst ∧ RootsAt sf x.fst ∧ Is (0 : Int) (0 : Int)) ∧
 (∀ (_ : Unit),
 Yes (AllReach si sf x.fst) → K (AV.sc (Value.bool true))) ∧
 ∀ (_ : Unit),
 Yes ¬AllReach si sf x.fst → K (AV.sc (Value.bool false))) ∧
 ∀ (_ : Unit),
 Yes ¬AllIn x.fst (↑(List.length si) : Int) → K (AV.sc (Value.bool false))) ∧
 ∀ (_ : Unit), Yes ¬InssIn si sf r → K (AV.sc (Value.bool false))) ∧
 ∀ (_ : Cells × Nat), Yes ¬FunLens sf → K (AV.sc (Value.bool false)))
 (K (AV.sc (Value.bool false)))))) :
 (fun (M : Int) (si sf : Cells) (b e n r : Int) (K : AV → Prop) => wpCall T5 (cfg M) Tryz.prog 100 5 [codeA si sf b e n r] heapF fun r h' => wpBack h' r K) M si sf b e n r K :=
 Eq.mp (by kernel_rfl) h
end
end Go.Proofs.Sp.Sj
namespace Go.Proofs.Sp.Sj
open Go Go.Ef Go.Proofs.Pt
noncomputable section
set_option maxRecDepth 100000
variable {M : Int}
theorem sum_ge {α : Type} (f : α → Nat) : ∀ l : List α, (∀ a ∈ l, 1 ≤ f a) → l.length ≤ (l.map f).sum := by
 intro l
 induction l with
 | nil => intro _; exact Nat.le_refl _
 | cons a l ih =>
  intro h
  have h1 := h a (by simp)
  have h2 := ih fun b hb => h b (by simp [hb])
  simp only [List.length_cons, List.map_cons, List.sum_cons]
  omega
theorem CodeIn.len {si sf : Cells} (h : CodeIn si sf) : si.length ≤ 1048576 ∧ sf.length ≤ 1048576 := by
 obtain ⟨⟨lf, rfl, hf⟩, ⟨li, rfl, hi⟩⟩ := h
 have h1 := sum_ge iw li fun i _ => by unfold iw; omega
 have h2 := sum_ge fw lf fun f _ => by unfold fw; omega
 have h3 := hi.w
 have h4 := hf.w
 simp only [rowI, rowF, List.length_map]
 omega
theorem CodeIn.fn {si sf : Cells} (h : CodeIn si sf) {i : Nat} (hi : i < sf.length) : inRange (i : Int) sf.length = true ∧ getI (i : Int).toNat sf = some [aStr (cellStr sf i 0), iA (cellInt sf i 1), .sl (cellSl sf i 2) 0, .sl (cellSl sf i 3) 0] := by
 obtain ⟨⟨lf, rfl, hf⟩, _⟩ := h
 have hl : i < lf.length := by simpa [rowF] using hi
 refine ⟨by rw [inRange_iff]; omega, ?_⟩
 have hg : getI i (rowF lf) = some (cellF lf[i]) := by
  unfold rowF
  rw [getI_eq, List.getElem?_map, List.getElem?_eq_getElem hl]; rfl
 have e : ∀ j, cellAt (rowF lf) (i : Int) j = getI j (cellF lf[i]) := by
  intro j
  unfold cellAt
  rw [Int.toNat_natCast, hg]
 unfold cellStr cellInt cellSl
 rw [Int.toNat_natCast, hg, e, e, e, e]; rfl
theorem CodeIn.ins {si sf : Cells} (h : CodeIn si sf) {i : Nat} (hi : i < si.length) : inRange (i : Int) si.length = true ∧ getI (i : Int).toNat si = some [iA (cellInt si i 0), iA (cellInt si i 1), iA (cellInt si i 2), iA (cellInt si i 3), aStr (cellStr si i 4), iA (cellInt si i 5)] := by
 obtain ⟨_, ⟨li, rfl, _⟩⟩ := h
 have hl : (i : Int) < (rowI li).length := by omega
 obtain ⟨d, _, hr⟩ := ins_row (x := (i : Int)) (by omega) hl
 refine ⟨by rw [inRange_iff]; omega, ?_⟩
 rw [hr.op, hr.x, hr.y, hr.n, hr.t, hr.a]
 exact hr.get
theorem CodeIn.codes {si sf : Cells} {r : Int} (h : CodeIn si sf) (hn : si.length ≤ 4096) (hr : wB r 0 4096 = true) (hl : FunLens sf) (hi : InssIn si sf r) : Codes si sf r := by
 have hlen := h.len
 obtain ⟨r0, r1⟩ := wB_spec hr
 have hin := hi.is
 obtain ⟨⟨lf, rfl, hf⟩, ⟨li, rfl, hin'⟩⟩ := h
 refine ⟨⟨r0, r1, hlen.1, hlen.2⟩, ⟨lf, rfl, hf, fun f hfm => ?_⟩, ⟨li, rfl, fun d hd => ⟨hin'.ok d hd, ?_⟩⟩, hn⟩
 ·obtain ⟨k, hk, rfl⟩ := List.getElem_of_mem hfm
  have := hl.is k (by simpa [rowF] using hk)
  obtain ⟨_, _, _, a3, a4⟩ := rowF_at hk
  rw [a3, a4] at this
  simpa [rowS, rowO] using this
 ·obtain ⟨k, hk, rfl⟩ := List.getElem_of_mem hd
  have := hin k (by simpa [rowI] using hk)
  obtain ⟨_, a0, a1, a2, a3, a4, _⟩ := rowI_at hk
  rw [a0, a1, a2, a3, a4] at this
  exact this
theorem eqi' {a b : Int} (h : (a != b) = false) : a = b := by simpa using h
theorem okz13 : Ok M T13r := ⟨(ok35 (ok26 ok0)).call, (ok35 (ok26 ok0)).loop⟩
theorem wrap_s {i : Nat} (h : i ≤ 3000000) : IntKind.i64.wrap ((i : Int) + 1) = ((i + 1 : Nat) : Int) := by rw [wrap_in (by omega) (by omega)]; omega
theorem all_succ {p : Nat → Prop} {i : Nat} (h : ∀ k : Nat, k < i → p k) (hi : p i) : ∀ k : Nat, k < i + 1 → p k := by
 intro k hk
 by_cases e : k = i
 ·rw [e]; exact hi
 ·exact h k (by omega)
theorem loop13a {si sf : Cells} {b e n r : Int} (hc : CodeIn si sf) : ∀ (f i : Nat), sf.length - i = f → i ≤ sf.length → (∀ k : Nat, k < i → wB (cellInt sf k 1) 0 ((si.length : Int) - 1) = true ∧ (cellSl sf k 2).length = (cellSl sf k 3).length) →
  Ev (cfg M) Tryz.prog 13 (.loop (loopAt Tryz.prog 13 6)) (I13a si sf b e n r si.length i) fun ex τ => (ex = .exit 0 ∧ τ = E13a .unk si sf b e n r si.length ∧ FunsIn sf si.length) ∨ (ex = .ret ∧ τ = E13a (sBool false) si sf b e n r si.length ∧ ¬FunsIn sf si.length) := by
 intro f
 have hlen := hc.len
 induction f with
 | zero =>
  intro i hf hi ha
  refine Ev.round (t := ⟨[1, 3, 4], [1, 2, 3], 1⟩) okz13 (by kernel_rfl) rfl (by kernel_rfl) (r13a M si sf b e n r si.length i (fun _ => False) (FunsIn sf si.length) (¬FunsIn sf si.length) (ie (df (by omega)) ⟨rfl, rfl, ⟨fun k hk => ha k (by omega)⟩⟩)) (fun _ h => h.2.elim) (fun ex τ h => ?_)
  unfold q13a at h
  split at h
  ·exact .inl h
  ·exact .inr ⟨rfl, h⟩
  ·exact h.elim
 | succ f ih =>
  intro i hf hi ha
  have hlt : i < sf.length := by omega
  obtain ⟨h1, h2⟩ := hc.fn hlt
  have hw : IntKind.i64.wrap ((si.length : Int) - 1) = (si.length : Int) - 1 := wrap_in (by omega) (by omega)
  let ok : Prop := wB (cellInt sf i 1) 0 ((si.length : Int) - 1) = true ∧ (cellSl sf i 2).length = (cellSl sf i 3).length
  have no : ¬ok → ¬FunsIn sf si.length := fun h k => h (k.is i hlt)
  refine Ev.round (t := ⟨[1, 3, 4], [1, 2, 3], 1⟩) okz13 (by kernel_rfl) rfl (by kernel_rfl) (r13a M si sf b e n r si.length i (fun j => j = ((i + 1 : Nat) : Int) ∧ ok) (FunsIn sf si.length) (¬FunsIn sf si.length) ?_) (fun τ h => ?_) (fun ex τ h => ?_)
  ·rw [hw, wrap_s (by omega)]
   refine it (dt (by omega)) (it h1 ⟨h2, trivial, ?_⟩)
   intro x hx
   refine iti (fun hx1 => ?_) (fun hx0 => ?_)
   ·rw [hx1] at hx
    refine it h1 ⟨h2, it h1 ⟨h2, iti (fun hne => ?_) (fun heq => ?_)⟩⟩
    ·refine ⟨rfl, no fun k => ?_⟩
     rw [k.2] at hne
     simp at hne
    ·refine ⟨rfl, rfl, hx.symm, ?_⟩
     have := eqi' heq
     omega
   ·rw [hx0] at hx
    exact ⟨rfl, no fun k => by rw [k.1] at hx; cases hx⟩
  ·obtain ⟨h3, h4, h5⟩ := h
   rw [h3, h4]
   exact ih (i + 1) (by omega) hlt (all_succ ha h5)
  ·unfold q13a at h
   split at h
   ·exact .inl h
   ·exact .inr ⟨rfl, h⟩
   ·exact h.elim
theorem loop13b {si sf : Cells} {b e n r : Int} (hc : CodeIn si sf) (hr : wB r 0 4096 = true) : ∀ (f i : Nat), si.length - i = f → i ≤ si.length → (∀ k : Nat, k < i → properB si.length sf.length r (cellInt si k 0) (cellInt si k 1) (cellInt si k 2) (cellInt si k 3) (cellStr si k 4) = true) →
  Ev (cfg M) Tryz.prog 13 (.loop (loopAt Tryz.prog 13 11)) (I13b si sf b e n r si.length i) fun ex τ => (ex = .exit 2 ∧ τ = E13b .unk si sf b e n r ∧ InssIn si sf r) ∨ (ex = .ret ∧ τ = E13b (sBool false) si sf b e n r ∧ ¬InssIn si sf r) := by
 intro f
 have hlen := hc.len
 obtain ⟨r0, r1⟩ := wB_spec hr
 induction f with
 | zero =>
  intro i hf hi ha
  refine Ev.round (t := ⟨[1, 3, 5], [2], 1⟩) okz13 (by kernel_rfl) rfl (by kernel_rfl) (r13b M si sf b e n r si.length i (fun _ => False) (InssIn si sf r) (¬InssIn si sf r) (ie (df (by omega)) ⟨rfl, rfl, ⟨fun k hk => ha k (by omega)⟩⟩)) (fun _ h => h.2.elim) (fun ex τ h => ?_)
  unfold q13b at h
  split at h
  ·exact .inl h
  ·exact .inr ⟨rfl, h⟩
  ·exact h.elim
 | succ f ih =>
  intro i hf hi ha
  have hlt : i < si.length := by omega
  obtain ⟨h1, h2⟩ := hc.ins hlt
  refine Ev.round (t := ⟨[1, 3, 5], [2], 1⟩) okz13 (by kernel_rfl) rfl (by kernel_rfl) (r13b M si sf b e n r si.length i (fun j => j = ((i + 1 : Nat) : Int) ∧ properB si.length sf.length r (cellInt si i 0) (cellInt si i 1) (cellInt si i 2) (cellInt si i 3) (cellStr si i 4) = true) (InssIn si sf r) (¬InssIn si sf r) ?_) (fun τ h => ?_) (fun ex τ h => ?_)
  ·rw [wrap_s (by omega)]
   refine it (dt (by omega)) (it h1 ⟨h2, ⟨r0, r1, hlen.1, hlen.2⟩, ?_⟩)
   intro x hx
   refine iti (fun hx1 => ?_) (fun hx0 => ?_)
   ·rw [hx1] at hx
    exact ⟨rfl, rfl, hx.symm⟩
   ·rw [hx0] at hx
    refine ⟨rfl, fun k => ?_⟩
    have := k.is i hlt
    rw [← hx] at this
    cases this
  ·obtain ⟨h3, h4, h5⟩ := h
   rw [h3, h4]
   exact ih (i + 1) (by omega) hlt (all_succ ha h5)
  ·unfold q13b at h
   split at h
   ·exact .inl h
   ·exact .inr ⟨rfl, h⟩
   ·exact h.elim
theorem ok13L : Ok M T13 := by
 refine addL_ok (addL_ok (ok26 ok0) fun σ s hs hp => ?_) fun σ s hs hp => ?_
 ·cases hs
  obtain ⟨e, hc, hN, hi⟩ := hp
  have he := loop13a (M := M) (b := lcI σ 0 2) (e := lcI σ 0 3) (n := lcI σ 0 4) (r := lcI σ 0 5) hc _ 0 rfl (by omega) (fun k hk => absurd hk (by omega))
  rw [hN.is]
  rw [hN.is, hi.is] at e
  have he2 : Ev (cfg M) Tryz.prog 13 (.loop (loopAt Tryz.prog 13 6)) σ _ := Ev.tidied (t := ⟨[1, 3, 4], [1, 2, 3], 1⟩) (τ := I13a (lcE σ 0 0) (lcE σ 0 1) (lcI σ 0 2) (lcI σ 0 3) (lcI σ 0 4) (lcI σ 0 5) (lcE σ 0 0).length ((0 : Nat) : Int)) (by kernel_rfl) (by rw [e]; kernel_rfl) he
  obtain ⟨k, ex, τ, h6, hk⟩ := he2
  rcases hk with ⟨rfl, rfl, h7⟩ | ⟨rfl, rfl, h7⟩
  ·exact ⟨_, List.mem_cons_self .., (), ⟨h7⟩, k, h6⟩
  ·exact ⟨_, List.mem_cons_of_mem _ (List.mem_cons_self ..), (), ⟨h7⟩, k, h6⟩
 ·cases hs
  obtain ⟨e, hc, hN, hi, hr⟩ := hp
  have he := loop13b (M := M) (b := lcI σ 0 2) (e := lcI σ 0 3) (n := lcI σ 0 4) hc hr _ 0 rfl (by omega) (fun k hk => absurd hk (by omega))
  rw [hN.is, hi.is] at e
  have he2 : Ev (cfg M) Tryz.prog 13 (.loop (loopAt Tryz.prog 13 11)) σ _ := Ev.tidied (t := ⟨[1, 3, 5], [2], 1⟩) (τ := I13b (lcE σ 0 0) (lcE σ 0 1) (lcI σ 0 2) (lcI σ 0 3) (lcI σ 0 4) (lcI σ 0 5) (lcE σ 0 0).length ((0 : Nat) : Int)) (by kernel_rfl) (by rw [e]; kernel_rfl) he
  obtain ⟨k, ex, τ, h6, hk⟩ := he2
  rcases hk with ⟨rfl, rfl, h7⟩ | ⟨rfl, rfl, h7⟩
  ·exact ⟨_, List.mem_cons_self .., (), ⟨h7⟩, k, h6⟩
  ·exact ⟨_, List.mem_cons_of_mem _ (List.mem_cons_self ..), (), ⟨h7⟩, k, h6⟩
theorem wp13 {si sf : Cells} {b e n r : Int} {K : AV → Prop} (hc : CodeIn si sf) (hK : ∀ q, Iff' q (Shaped si sf b e n r) → K (bA q)) : wpCall T13 (cfg M) Tryz.prog 100 13 [codeA si sf b e n r] heapF fun r h' => wpBack h' r K := by
 refine v13 M si sf b e n r K ?_
 have hlen := hc.len
 have hw : IntKind.i64.wrap ((si.length : Int) - 1) = (si.length : Int) - 1 := wrap_in (by omega) (by omega)
 have no : ¬Shaped si sf b e n r → K (AV.sc (Value.bool false)) := fun h => hK false ⟨fun h' => (by cases h'), fun h' => absurd h' h⟩
 rw [hw]
 refine ⟨trivial, fun x hx => ?_⟩
 refine iti (fun h1 => ?_) (fun h1 => no fun s => by rw [h1, s.nl] at hx; cases hx)
 rw [h1] at hx
 refine ⟨trivial, fun x2 hx2 => ?_⟩
 refine iti (fun h2 => ?_) (fun h2 => no fun s => by rw [h2, s.bl] at hx2; cases hx2)
 rw [h2] at hx2
 refine ⟨trivial, fun x3 hx3 => ?_⟩
 refine iti (fun h3 => ?_) (fun h3 => no fun s => by rw [h3, s.el] at hx3; cases hx3)
 rw [h3] at hx3
 refine ⟨trivial, fun x4 hx4 => ?_⟩
 refine iti (fun h4 => ?_) (fun h4 => no fun s => by rw [h4, s.dl] at hx4; cases hx4)
 rw [h4] at hx4
 refine ⟨trivial, fun x5 hx5 => ?_⟩
 refine iti (fun h5 => ?_) (fun h5 => no fun s => by rw [h5, s.rl] at hx5; cases hx5)
 rw [h5] at hx5
 refine ⟨rfl, ⟨rfl, hc, ⟨rfl⟩, ⟨rfl⟩⟩, fun _ hf => ?_, fun _ hf => no fun s => hf.is s.fs⟩
 refine ⟨rfl, ⟨rfl, hc, ⟨rfl⟩, ⟨rfl⟩, hx5.symm⟩, fun _ hi => ?_, fun _ hi => no fun s => hi.is s.is⟩
 exact hK true ⟨fun _ => ⟨hx.symm, hx2.symm, hx3.symm, hx4.symm, hx5.symm, hf.is, hi.is⟩, fun _ => rfl⟩
theorem ok13 {T : Tab} (O : Ok M T) : Ok M (T.addC 13 C13) := by
 refine addC_ok O fun args h s hs hp => ?_
 unfold C13 at hs
 split at hs
 ·rename_i si sf b e n r
  cases hs
  obtain ⟨m, v, h', e', ⟨q, hq, rfl⟩, rfl⟩ := EvP.freshK (g := 13) (args := [codeA si sf b e n r]) (h := h) (args' := [codeA si sf b e n r]) (Q := fun v => ∃ q, Iff' q (Shaped si sf b e n r) ∧ v = bA q)
   (ok13L (M := M)) (n := 100) (by kernel_rfl) rfl rfl (wp13 hp fun q hq => ⟨q, hq, rfl⟩)
  exact ⟨_, List.mem_singleton.2 rfl, q, m, hq, e'⟩
 ·cases hs
end
end Go.Proofs.Sp.Sj
namespace Go.Proofs.Sp.Sj
open Go Go.Ef Go.Proofs.Pt
noncomputable section
set_option maxRecDepth 100000
variable {M : Int}
theorem okz5 : Ok M T5r := ⟨(ok12 (ok11 (ok10 ok0))).call, (ok12 (ok11 (ok10 ok0))).loop⟩
theorem roots_len (b e n : Int) (sf : Cells) (k : Nat) : (rootsF b e n sf k).length = k + 3 := by simp [rootsF]
theorem roots_succ (b e n : Int) (sf : Cells) (k : Nat) : rootsF b e n sf (k + 1) = rootsF b e n sf k ++ [[iA (cellInt sf k 1), iA k]] := by
 unfold rootsF
 rw [List.range_succ, List.map_append, ← List.append_assoc]; rfl
theorem roots_all (b e n : Int) (sf : Cells) (k : Nat) : allLen 2 (rootsF b e n sf k) = true := by
 unfold allLen
 rw [List.all_eq_true]
 intro x hx
 unfold rootsF at hx
 rcases List.mem_append.1 hx with h | h
 ·simp only [List.mem_cons, List.not_mem_nil, or_false] at h
  rcases h with rfl | rfl | rfl <;> rfl
 ·obtain ⟨j, _, rfl⟩ := List.mem_map.1 h
  rfl
theorem roots_row (b e n : Int) (sf : Cells) (k : Nat) : rootsF b e n sf k = rowR ([(b, -1), (e, -1), (n, -1)] ++ (List.range k).map fun j : Nat => (cellInt sf j 1, (j : Int))) := by
 unfold rootsF rowR
 rw [List.map_append, List.map_map]; rfl
theorem row_at {l : List (Int × Int)} {j : Nat} (h : j < (rowR l).length) : inRange (j : Int) (rowR l).length = true ∧ getI (j : Int).toNat (rowR l) = some [iA (cellInt (rowR l) j 0), iA (cellInt (rowR l) j 1)] := by
 have hl : j < l.length := by simpa [rowR] using h
 refine ⟨by rw [inRange_iff]; omega, ?_⟩
 have hg : getI j (rowR l) = some [iA l[j].1, iA l[j].2] := by
  unfold rowR
  rw [getI_eq, List.getElem?_map, List.getElem?_eq_getElem hl]; rfl
 have e : ∀ m, cellAt (rowR l) (j : Int) m = getI m [iA l[j].1, iA l[j].2] := by
  intro m
  unfold cellAt
  rw [Int.toNat_natCast, hg]
 unfold cellInt
 rw [Int.toNat_natCast, hg, e, e]; rfl
theorem row_cells {l : List (Int × Int)} {j : Nat} (h : j < l.length) : cellInt (rowR l) j 0 = l[j].1 ∧ cellInt (rowR l) j 1 = l[j].2 := by
 have hg : getI j (rowR l) = some [iA l[j].1, iA l[j].2] := by
  unfold rowR
  rw [getI_eq, List.getElem?_map, List.getElem?_eq_getElem h]; rfl
 have e : ∀ m, cellAt (rowR l) (j : Int) m = getI m [iA l[j].1, iA l[j].2] := by
  intro m
  unfold cellAt
  rw [Int.toNat_natCast, hg]
 unfold cellInt
 rw [e, e]
 exact ⟨rfl, rfl⟩
theorem loop5a {si sf : Cells} {b e n r : Int} (hc : CodeIn si sf) : ∀ (f i : Nat), sf.length - i = f → i ≤ sf.length → (∀ k : Nat, k < i → (cellSl sf k 2).length = (cellSl sf k 3).length) →
  Ev (cfg M) Tryz.prog 5 (.loop (loopAt Tryz.prog 5 7)) (I5a si sf b e n r si.length (rootsF b e n sf i) (i + 3) i) fun ex τ => (ex = .exit 0 ∧ τ = E5a .unk si sf b e n r si.length (rootsF b e n sf sf.length) (sf.length + 3) ∧ FunLens sf) ∨ (ex = .ret ∧ (∃ els k, τ = E5a (sBool false) si sf b e n r si.length els k) ∧ ¬FunLens sf) := by
 intro f
 have hlen := hc.len
 induction f with
 | zero =>
  intro i hf hi ha
  have hii : i = sf.length := by omega
  subst hii
  refine Ev.round (t := ⟨[1, 3, 4, 39, 40, 41], [1, 2, 3, 4], 1⟩) okz5 (by kernel_rfl) rfl (by kernel_rfl) (r5a M si sf b e n r si.length (rootsF b e n sf sf.length) (sf.length + 3) sf.length (fun _ _ _ => False) (FunLens sf) (fun _ _ => ¬FunLens sf) (ie (df (by omega)) ⟨rfl, rfl, ⟨fun k hk => ha k hk⟩⟩)) (fun _ h => h.2.elim) (fun ex τ h => ?_)
  unfold q5a at h
  split at h
  ·exact .inl h
  ·exact .inr ⟨rfl, ⟨_, _, h.1⟩, h.2⟩
  ·exact h.elim
 | succ f ih =>
  intro i hf hi ha
  have hlt : i < sf.length := by omega
  obtain ⟨h1, h2⟩ := hc.fn hlt
  have rl := roots_len b e n sf i
  refine Ev.round (t := ⟨[1, 3, 4, 39, 40, 41], [1, 2, 3, 4], 1⟩) okz5 (by kernel_rfl) rfl (by kernel_rfl) (r5a M si sf b e n r si.length (rootsF b e n sf i) (i + 3) i (fun els k j => els = rootsF b e n sf (i + 1) ∧ k = i + 1 + 3 ∧ j = ((i + 1 : Nat) : Int) ∧ (cellSl sf i 2).length = (cellSl sf i 3).length) False (fun _ _ => ¬FunLens sf) ?_) (fun τ h => ?_) (fun ex τ h => ?_)
  ·rw [wrap_s (by omega)]
   refine it (dt (by omega)) (it h1 ⟨h2, iti (fun hne => ?_) (fun heq => ?_)⟩)
   ·refine ⟨rfl, fun k => ?_⟩
    have := k.is i hlt
    rw [this] at hne
    simp at hne
   ·refine it ?_ (it (dt rl) ⟨rfl, (roots_succ b e n sf i).symm, ?_, rfl, ?_⟩)
    ·rw [Bool.and_eq_true]
     exact ⟨roots_all b e n sf i, fits16 (by rw [rl]; show i + 3 + 1 ≤ _; omega)⟩
    ·show i + 3 + 1 = _
     omega
    ·have := eqi' heq
     omega
  ·obtain ⟨h3, h4, h5, h6, h7⟩ := h
   rw [h3, h4, h5, h6]
   exact ih (i + 1) (by omega) hlt (all_succ ha h7)
  ·unfold q5a at h
   split at h
   ·exact h.2.2.elim
   ·exact .inr ⟨rfl, ⟨_, _, h.1⟩, h.2⟩
   ·exact h.elim
theorem loop5b {si sf : Cells} {b e n r : Int} {els : Cells} {k : Nat} (hc : CodeIn si sf) (hr : wB r 0 4096 = true) {N : Int} : ∀ (f i : Nat), si.length - i = f → i ≤ si.length → (∀ k : Nat, k < i → properB si.length sf.length r (cellInt si k 0) (cellInt si k 1) (cellInt si k 2) (cellInt si k 3) (cellStr si k 4) = true) →
  Ev (cfg M) Tryz.prog 5 (.loop (loopAt Tryz.prog 5 14)) (I5b si sf b e n r N els k i) fun ex τ => (ex = .exit 2 ∧ τ = E5a .unk si sf b e n r N els k ∧ InssIn si sf r) ∨ (ex = .ret ∧ τ = E5a (sBool false) si sf b e n r N els k ∧ ¬InssIn si sf r) := by
 intro f
 have hlen := hc.len
 obtain ⟨r0, r1⟩ := wB_spec hr
 have ends : ∀ ex τ, q5 2 (E5a .unk si sf b e n r N els k) (E5a (sBool false) si sf b e n r N els k) (InssIn si sf r) (¬InssIn si sf r) ex τ → (ex = .exit 2 ∧ τ = E5a .unk si sf b e n r N els k ∧ InssIn si sf r) ∨ (ex = .ret ∧ τ = E5a (sBool false) si sf b e n r N els k ∧ ¬InssIn si sf r) := by
  intro ex τ h
  unfold q5 at h
  split at h
  ·exact .inl h
  ·exact .inr ⟨rfl, h⟩
  ·exact h.elim
 induction f with
 | zero =>
  intro i hf hi ha
  exact Ev.round (t := ⟨[1, 3, 4, 62, 63, 64], [1, 2, 3, 4], 1⟩) okz5 (by kernel_rfl) rfl (by kernel_rfl) (r5b M si sf b e n r N els k i (fun _ => False) (InssIn si sf r) (¬InssIn si sf r) (ie (df (by omega)) ⟨rfl, rfl, ⟨fun k hk => ha k (by omega)⟩⟩)) (fun _ h => h.2.elim) ends
 | succ f ih =>
  intro i hf hi ha
  have hlt : i < si.length := by omega
  obtain ⟨h1, h2⟩ := hc.ins hlt
  refine Ev.round (t := ⟨[1, 3, 4, 62, 63, 64], [1, 2, 3, 4], 1⟩) okz5 (by kernel_rfl) rfl (by kernel_rfl) (r5b M si sf b e n r N els k i (fun j => j = ((i + 1 : Nat) : Int) ∧ properB si.length sf.length r (cellInt si i 0) (cellInt si i 1) (cellInt si i 2) (cellInt si i 3) (cellStr si i 4) = true) (InssIn si sf r) (¬InssIn si sf r) ?_) (fun τ h => ?_) ends
  ·rw [wrap_s (by omega)]
   refine it (dt (by omega)) (it h1 ⟨h2, ⟨r0, r1, hlen.1, hlen.2⟩, ?_⟩)
   intro x hx
   refine iti (fun hx1 => ?_) (fun hx0 => ?_)
   ·rw [hx1] at hx
    exact ⟨rfl, rfl, hx.symm⟩
   ·rw [hx0] at hx
    refine ⟨rfl, fun k => ?_⟩
    have := k.is i hlt
    rw [← hx] at this
    cases this
  ·obtain ⟨h3, h4, h5⟩ := h
   rw [h3, h4]
   exact ih (i + 1) (by omega) hlt (all_succ ha h5)
theorem loop5c {si sf : Cells} {b e n r N : Int} {l : List (Int × Int)} {k : Nat} (hl : l.length ≤ 2000000) (hN0 : 1 ≤ N) (hN1 : N ≤ 4096) : ∀ (f i : Nat), (rowR l).length - i = f → i ≤ (rowR l).length → (∀ j : Nat, j < i → wB (cellInt (rowR l) j 0) 0 (N - 1) = true) →
  Ev (cfg M) Tryz.prog 5 (.loop (loopAt Tryz.prog 5 20)) (I5c si sf b e n r N (rowR l) k i) fun ex τ => (ex = .exit 4 ∧ τ = E5c .unk si sf b e n r (rowR l) k ∧ AllIn (rowR l) N) ∨ (ex = .ret ∧ τ = E5c (sBool false) si sf b e n r (rowR l) k ∧ ¬AllIn (rowR l) N) := by
 intro f
 have hll : (rowR l).length = l.length := by simp [rowR]
 have hw : IntKind.i64.wrap (N - 1) = N - 1 := wrap_in (by omega) (by omega)
 have ends : ∀ ex τ, q5 4 (E5c .unk si sf b e n r (rowR l) k) (E5c (sBool false) si sf b e n r (rowR l) k) (AllIn (rowR l) N) (¬AllIn (rowR l) N) ex τ → (ex = .exit 4 ∧ τ = E5c .unk si sf b e n r (rowR l) k ∧ AllIn (rowR l) N) ∨ (ex = .ret ∧ τ = E5c (sBool false) si sf b e n r (rowR l) k ∧ ¬AllIn (rowR l) N) := by
  intro ex τ h
  unfold q5 at h
  split at h
  ·exact .inl h
  ·exact .inr ⟨rfl, h⟩
  ·exact h.elim
 induction f with
 | zero =>
  intro i hf hi ha
  exact Ev.round (t := ⟨[1, 3, 4, 73, 74, 75], [1, 2, 4], 1⟩) okz5 (by kernel_rfl) rfl (by kernel_rfl) (r5c M si sf b e n r N (rowR l) k i (fun _ => False) (AllIn (rowR l) N) (¬AllIn (rowR l) N) (ie (df (by omega)) ⟨rfl, rfl, ⟨fun k hk => ha k (by omega)⟩⟩)) (fun _ h => h.2.elim) ends
 | succ f ih =>
  intro i hf hi ha
  have hlt : i < (rowR l).length := by omega
  obtain ⟨h1, h2⟩ := row_at hlt
  refine Ev.round (t := ⟨[1, 3, 4, 73, 74, 75], [1, 2, 4], 1⟩) okz5 (by kernel_rfl) rfl (by kernel_rfl) (r5c M si sf b e n r N (rowR l) k i (fun j => j = ((i + 1 : Nat) : Int) ∧ wB (cellInt (rowR l) i 0) 0 (N - 1) = true) (AllIn (rowR l) N) (¬AllIn (rowR l) N) ?_) (fun τ h => ?_) ends
  ·rw [hw, wrap_s (by omega)]
   refine it (dt (by omega)) (it h1 ⟨h2, trivial, ?_⟩)
   intro x hx
   refine iti (fun hx1 => ?_) (fun hx0 => ?_)
   ·rw [hx1] at hx
    exact ⟨rfl, rfl, hx.symm⟩
   ·rw [hx0] at hx
    refine ⟨rfl, fun k => ?_⟩
    have := k.is i hlt
    rw [← hx] at this
    cases this
  ·obtain ⟨h3, h4, h5⟩ := h
   rw [h3, h4]
   exact ih (i + 1) (by omega) hlt (all_succ ha h5)
theorem loop5d {si sf : Cells} {b e n r : Int} {l : List (Int × Int)} {k : Nat} (hl : l.length ≤ 2000000) (hc : Codes si sf r) (hR : RootsAt sf (rowR l)) : ∀ (f i : Nat), (rowR l).length - i = f → i ≤ (rowR l).length → (∀ j : Nat, j < i → ReachF si sf (fiOf sf (cellInt (rowR l) j 1)) (cellInt (rowR l) j 0)) →
  Ev (cfg M) Tryz.prog 5 (.loop (loopAt Tryz.prog 5 26)) (I5d si sf b e n r (rowR l) k i) fun ex τ => (ex = .exit 6 ∧ τ = E5d .unk si sf b e n r k ∧ AllReach si sf (rowR l)) ∨ (ex = .ret ∧ τ = E5d (sBool false) si sf b e n r k ∧ ¬AllReach si sf (rowR l)) := by
 intro f
 have hll : (rowR l).length = l.length := by simp [rowR]
 have ends : ∀ ex τ, q5 6 (E5d .unk si sf b e n r k) (E5d (sBool false) si sf b e n r k) (AllReach si sf (rowR l)) (¬AllReach si sf (rowR l)) ex τ → (ex = .exit 6 ∧ τ = E5d .unk si sf b e n r k ∧ AllReach si sf (rowR l)) ∨ (ex = .ret ∧ τ = E5d (sBool false) si sf b e n r k ∧ ¬AllReach si sf (rowR l)) := by
  intro ex τ h
  unfold q5 at h
  split at h
  ·exact .inl h
  ·exact .inr ⟨rfl, h⟩
  ·exact h.elim
 induction f with
 | zero =>
  intro i hf hi ha
  exact Ev.round (t := ⟨[1, 86, 87, 88], [2], 1⟩) okz5 (by kernel_rfl) rfl (by kernel_rfl) (r5d M si sf b e n r (rowR l) k i (fun _ => False) (AllReach si sf (rowR l)) (¬AllReach si sf (rowR l)) (ie (df (by omega)) ⟨rfl, rfl, ⟨fun k hk => ha k (by omega)⟩⟩)) (fun _ h => h.2.elim) ends
 | succ f ih =>
  intro i hf hi ha
  have hlt : i < (rowR l).length := by omega
  obtain ⟨h1, h2⟩ := row_at hlt
  refine Ev.round (t := ⟨[1, 86, 87, 88], [2], 1⟩) okz5 (by kernel_rfl) rfl (by kernel_rfl) (r5d M si sf b e n r (rowR l) k i (fun j => j = ((i + 1 : Nat) : Int) ∧ ReachF si sf (fiOf sf (cellInt (rowR l) i 1)) (cellInt (rowR l) i 0)) (AllReach si sf (rowR l)) (¬AllReach si sf (rowR l)) ?_) (fun τ h => ?_) ends
  ·rw [wrap_s (by omega)]
   refine it (dt (by omega)) (it h1 ⟨h2, ⟨hc, hR.is i hlt⟩, ?_⟩)
   intro x hx
   refine iti (fun hx1 => ?_) (fun hx0 => ?_)
   ·exact ⟨rfl, rfl, hx.is.1 hx1⟩
   ·refine ⟨rfl, fun k => ?_⟩
    have := hx.is.2 (k.is i hlt)
    rw [hx0] at this
    cases this
  ·obtain ⟨h3, h4, h5⟩ := h
   rw [h3, h4]
   exact ih (i + 1) (by omega) hlt (all_succ ha h5)
theorem ok5L : Ok M T5 := by
 refine addL_ok (addL_ok (addL_ok (addL_ok (ok10 ok0) fun σ s hs hp => ?_) fun σ s hs hp => ?_) fun σ s hs hp => ?_) fun σ s hs hp => ?_
 ·cases hs
  obtain ⟨e, hN, hS⟩ := hp
  have he := loop5a (M := M) (b := lcI σ 0 2) (e := lcI σ 0 3) (n := lcI σ 0 4) (r := lcI σ 0 5) hS.c _ 0 rfl (by omega) (fun k hk => absurd hk (by omega))
  rw [hN.is]
  rw [hN.is, hS.els, hS.k3, hS.i0] at e
  have he2 : Ev (cfg M) Tryz.prog 5 (.loop (loopAt Tryz.prog 5 7)) σ _ := Ev.tidied (t := ⟨[1, 3, 4, 39, 40, 41], [1, 2, 3, 4], 1⟩) (τ := I5a (lcE σ 0 0) (lcE σ 0 1) (lcI σ 0 2) (lcI σ 0 3) (lcI σ 0 4) (lcI σ 0 5) (lcE σ 0 0).length (rootsF (lcI σ 0 2) (lcI σ 0 3) (lcI σ 0 4) (lcE σ 0 1) 0) (0 + 3) ((0 : Nat) : Int)) (by kernel_rfl) (by rw [e]; kernel_rfl) he
  obtain ⟨k, ex, τ, h6, hk⟩ := he2
  rcases hk with ⟨rfl, rfl, h7⟩ | ⟨rfl, ⟨els, k', rfl⟩, h7⟩
  ·exact ⟨_, List.mem_cons_self .., (_, _), ⟨⟨rfl, (roots_len ..).symm⟩, h7⟩, k, h6⟩
  ·exact ⟨_, List.mem_cons_of_mem _ (List.mem_cons_self ..), (_, _), ⟨h7⟩, k, h6⟩
 ·cases hs
  obtain ⟨e, hc, hr, hi⟩ := hp
  have he := loop5b (M := M) (b := lcI σ 0 2) (e := lcI σ 0 3) (n := lcI σ 0 4) (els := slEls σ 4) (k := ownR σ.h) (N := slI σ 3) hc hr _ 0 rfl (by omega) (fun k hk => absurd hk (by omega))
  rw [hi.is] at e
  have he2 : Ev (cfg M) Tryz.prog 5 (.loop (loopAt Tryz.prog 5 14)) σ _ := Ev.tidied (t := ⟨[1, 3, 4, 62, 63, 64], [1, 2, 3, 4], 1⟩) (τ := I5b (lcE σ 0 0) (lcE σ 0 1) (lcI σ 0 2) (lcI σ 0 3) (lcI σ 0 4) (lcI σ 0 5) (slI σ 3) (slEls σ 4) (ownR σ.h) ((0 : Nat) : Int)) (by kernel_rfl) (by rw [e]; kernel_rfl) he
  obtain ⟨k, ex, τ, h6, hk⟩ := he2
  rcases hk with ⟨rfl, rfl, h7⟩ | ⟨rfl, rfl, h7⟩
  ·exact ⟨_, List.mem_cons_self .., (), ⟨h7⟩, k, h6⟩
  ·exact ⟨_, List.mem_cons_of_mem _ (List.mem_cons_self ..), (), ⟨h7⟩, k, h6⟩
 ·cases hs
  obtain ⟨e, ⟨⟨l, hl, hll⟩⟩, hN, hi⟩ := hp
  rw [hl, hi.is] at e
  rw [hl]
  have he := loop5c (M := M) (si := lcE σ 0 0) (sf := lcE σ 0 1) (b := lcI σ 0 2) (e := lcI σ 0 3) (n := lcI σ 0 4) (r := lcI σ 0 5) (k := ownR σ.h) hll hN.n0 hN.n1 _ 0 rfl (by omega) (fun k hk => absurd hk (by omega))
  have he2 : Ev (cfg M) Tryz.prog 5 (.loop (loopAt Tryz.prog 5 20)) σ _ := Ev.tidied (t := ⟨[1, 3, 4, 73, 74, 75], [1, 2, 4], 1⟩) (τ := I5c (lcE σ 0 0) (lcE σ 0 1) (lcI σ 0 2) (lcI σ 0 3) (lcI σ 0 4) (lcI σ 0 5) (slI σ 3) (rowR l) (ownR σ.h) ((0 : Nat) : Int)) (by kernel_rfl) (by rw [e]; kernel_rfl) he
  obtain ⟨k, ex, τ, h6, hk⟩ := he2
  rcases hk with ⟨rfl, rfl, h7⟩ | ⟨rfl, rfl, h7⟩
  ·exact ⟨_, List.mem_cons_self .., (), ⟨h7⟩, k, h6⟩
  ·exact ⟨_, List.mem_cons_of_mem _ (List.mem_cons_self ..), (), ⟨h7⟩, k, h6⟩
 ·cases hs
  obtain ⟨e, hc, ⟨⟨l, hl, hll⟩⟩, hR, hi⟩ := hp
  rw [hl, hi.is] at e
  rw [hl] at hR ⊢
  have he := loop5d (M := M) (b := lcI σ 0 2) (e := lcI σ 0 3) (n := lcI σ 0 4) (k := ownR σ.h) hll hc hR _ 0 rfl (by omega) (fun k hk => absurd hk (by omega))
  have he2 : Ev (cfg M) Tryz.prog 5 (.loop (loopAt Tryz.prog 5 26)) σ _ := Ev.tidied (t := ⟨[1, 86, 87, 88], [2], 1⟩) (τ := I5d (lcE σ 0 0) (lcE σ 0 1) (lcI σ 0 2) (lcI σ 0 3) (lcI σ 0 4) (lcI σ 0 5) (rowR l) (ownR σ.h) ((0 : Nat) : Int)) (by kernel_rfl) (by rw [e]; kernel_rfl) he
  obtain ⟨k, ex, τ, h6, hk⟩ := he2
  rcases hk with ⟨rfl, rfl, h7⟩ | ⟨rfl, rfl, h7⟩
  ·exact ⟨_, List.mem_cons_self .., (), ⟨h7⟩, k, h6⟩
  ·exact ⟨_, List.mem_cons_of_mem _ (List.mem_cons_self ..), (), ⟨h7⟩, k, h6⟩
theorem roots_at {b e n : Int} {sf : Cells} {j : Nat} (h : j < (rootsF b e n sf sf.length).length) :
  (j = 0 ∧ cellInt (rootsF b e n sf sf.length) j 0 = b ∧ cellInt (rootsF b e n sf sf.length) j 1 = -1) ∨ (j = 1 ∧ cellInt (rootsF b e n sf sf.length) j 0 = e ∧ cellInt (rootsF b e n sf sf.length) j 1 = -1) ∨
  (j = 2 ∧ cellInt (rootsF b e n sf sf.length) j 0 = n ∧ cellInt (rootsF b e n sf sf.length) j 1 = -1) ∨ ∃ k : Nat, j = k + 3 ∧ k < sf.length ∧ cellInt (rootsF b e n sf sf.length) j 0 = cellInt sf k 1 ∧ cellInt (rootsF b e n sf sf.length) j 1 = k := by
 rw [roots_len] at h
 rw [roots_row]
 have hl : j < ([(b, -1), (e, -1), (n, -1)] ++ (List.range sf.length).map fun j : Nat => (cellInt sf j 1, (j : Int))).length := by simp; omega
 obtain ⟨c1, c2⟩ := row_cells hl
 rw [c1, c2]
 match j with
 | 0 => exact .inl ⟨rfl, rfl, rfl⟩
 | 1 => exact .inr (.inl ⟨rfl, rfl, rfl⟩)
 | 2 => exact .inr (.inr (.inl ⟨rfl, rfl, rfl⟩))
 | k + 3 =>
  refine .inr (.inr (.inr ⟨k, rfl, by omega, ?_, ?_⟩))
  ·rw [List.getElem_append_right (by simp)]; simp
  ·rw [List.getElem_append_right (by simp)]; simp
theorem fi_none (sf : Cells) : fiOf sf (-1) = none := rfl
theorem roots_in {b e n : Int} {sf : Cells} {N : Int} (hl : FunLens sf) : AllIn (rootsF b e n sf sf.length) N ↔ (wB b 0 (N - 1) = true ∧ wB e 0 (N - 1) = true ∧ wB n 0 (N - 1) = true ∧ FunsIn sf N) := by
 have len := roots_len b e n sf sf.length
 constructor
 ·intro h
  have g : ∀ j : Nat, j < sf.length + 3 → wB (cellInt (rootsF b e n sf sf.length) j 0) 0 (N - 1) = true := fun j hj => h.is j (by omega)
  refine ⟨g 0 (by omega), g 1 (by omega), g 2 (by omega), ⟨fun k hk => ⟨?_, hl.is k hk⟩⟩⟩
  have h3 := g (k + 3) (by omega)
  rcases roots_at (b := b) (e := e) (n := n) (sf := sf) (j := k + 3) (by omega) with ⟨q, _⟩ | ⟨q, _⟩ | ⟨q, _⟩ | ⟨k', q1, _, q2, _⟩
  ·omega
  ·omega
  ·omega
  ·have : k = k' := by omega
   subst this
   rw [q2] at h3
   exact h3
 ·rintro ⟨h1, h2, h3, h4⟩
  refine ⟨fun j hj => ?_⟩
  rcases roots_at hj with ⟨_, q, _⟩ | ⟨_, q, _⟩ | ⟨_, q, _⟩ | ⟨k, _, q1, q, _⟩
  ·rw [q]; exact h1
  ·rw [q]; exact h2
  ·rw [q]; exact h3
  ·rw [q]; exact (h4.is k q1).1
theorem roots_reach {b e n : Int} {si sf : Cells} : AllReach si sf (rootsF b e n sf sf.length) ↔ (ReachF si sf none b ∧ ReachF si sf none e ∧ ReachF si sf none n ∧ ∀ k : Nat, k < sf.length → ReachF si sf (fiOf sf k) (cellInt sf k 1)) := by
 have len := roots_len b e n sf sf.length
 constructor
 ·intro h
  have g : ∀ j : Nat, j < sf.length + 3 → ReachF si sf (fiOf sf (cellInt (rootsF b e n sf sf.length) j 1)) (cellInt (rootsF b e n sf sf.length) j 0) := fun j hj => h.is j (by omega)
  refine ⟨g 0 (by omega), g 1 (by omega), g 2 (by omega), fun k hk => ?_⟩
  have h3 := g (k + 3) (by omega)
  rcases roots_at (b := b) (e := e) (n := n) (sf := sf) (j := k + 3) (by omega) with ⟨q, _⟩ | ⟨q, _⟩ | ⟨q, _⟩ | ⟨k', q1, _, q2, q3⟩
  ·omega
  ·omega
  ·omega
  ·have : k = k' := by omega
   subst this
   rw [q2, q3] at h3
   exact h3
 ·rintro ⟨h1, h2, h3, h4⟩
  refine ⟨fun j hj => ?_⟩
  rcases roots_at hj with ⟨_, q, p⟩ | ⟨_, q, p⟩ | ⟨_, q, p⟩ | ⟨k, _, q1, q, p⟩
  ·rw [q, p, fi_none]; exact h1
  ·rw [q, p, fi_none]; exact h2
  ·rw [q, p, fi_none]; exact h3
  ·rw [q, p]; exact h4 k q1
theorem wp5 {si sf : Cells} {b e n r : Int} {K : AV → Prop} (hc : CodeIn si sf) (hK : ∀ q, Iff' q (Good si sf b e n r) → K (bA q)) : wpCall T5 (cfg M) Tryz.prog 100 5 [codeA si sf b e n r] heapF fun r h' => wpBack h' r K := by
 refine v5 M si sf b e n r K ?_
 have hlen := hc.len
 have no : ¬Good si sf b e n r → K (AV.sc (Value.bool false)) := fun h => hK false ⟨fun h' => (by cases h'), fun h' => absurd h' h⟩
 refine iti (fun h => no fun g => ?_) (fun h1 => ?_)
 ·have := wB_spec g.sh.nl
  have := of_decide_eq_true h
  omega
 refine iti (fun h => no fun g => ?_) (fun h2 => ?_)
 ·have := wB_spec g.sh.nl
  have := of_decide_eq_true h
  omega
 have h1 := of_decide_eq_false h1
 have h2 := of_decide_eq_false h2
 refine ⟨trivial, fun x hx => ?_⟩
 refine iti (fun h3 => ?_) (fun h3 => no fun g => by rw [h3, g.sh.rl] at hx; cases hx)
 rw [h3] at hx
 refine ⟨rfl, ⟨rfl, ⟨rfl⟩, ⟨hc, rfl, rfl, rfl⟩⟩, fun q hq => ?_, fun _ hf => no fun g => hf.is ⟨fun k hk => (g.sh.fs.is k hk).2⟩⟩
 obtain ⟨els, kk⟩ := q
 obtain ⟨⟨he, _⟩, hl⟩ := hq
 replace he : els = rootsF b e n sf sf.length := he
 subst he
 refine ⟨rfl, ⟨rfl, hc, hx.symm, ⟨rfl⟩⟩, fun _ hi => ?_, fun _ hi => no fun g => hi.is g.sh.is⟩
 have hrow : RowR (rootsF b e n sf sf.length) := ⟨_, roots_row b e n sf sf.length, by simp; omega⟩
 refine ⟨rfl, ⟨rfl, hrow, ⟨by omega, by omega, by omega, by omega⟩, ⟨rfl⟩⟩, fun _ ha => ?_, fun _ ha => no fun g => ha.is ((roots_in hl).2 ⟨g.sh.bl, g.sh.el, g.sh.dl, g.sh.fs⟩)⟩
 obtain ⟨a1, a2, a3, a4⟩ := (roots_in hl).1 ha.is
 have hcodes := hc.codes (by omega) hx.symm hl hi.is
 refine ⟨rfl, ⟨rfl, hcodes, hrow, ⟨fun j hj => ?_⟩, ⟨rfl⟩⟩, fun _ hr => ?_, fun _ hr => no fun g => hr.is (roots_reach.2 ⟨g.w1, g.w2, g.w3, g.wf⟩)⟩
 ·refine ⟨?_, (wB_spec (ha.is.is j hj)).1⟩
  rcases roots_at hj with ⟨_, _, p⟩ | ⟨_, _, p⟩ | ⟨_, _, p⟩ | ⟨k, _, q1, _, p⟩
  ·rw [p]; exact ⟨by omega, by omega⟩
  ·rw [p]; exact ⟨by omega, by omega⟩
  ·rw [p]; exact ⟨by omega, by omega⟩
  ·rw [p]; exact ⟨by omega, by omega⟩
 ·obtain ⟨b1, b2, b3, b4⟩ := roots_reach.1 hr.is
  exact hK true ⟨fun _ => ⟨⟨wB_of (by omega) (by omega), a1, a2, a3, hx.symm, a4, hi.is⟩, b1, b2, b3, b4⟩, fun _ => rfl⟩
theorem ok5 {T : Tab} (O : Ok M T) : Ok M (T.addC 5 C5) := by
 refine addC_ok O fun args h s hs hp => ?_
 unfold C5 at hs
 split at hs
 ·rename_i si sf b e n r
  cases hs
  obtain ⟨m, v, h', e', ⟨q, hq, rfl⟩, rfl⟩ := EvP.freshK (g := 5) (args := [codeA si sf b e n r]) (h := h) (args' := [codeA si sf b e n r]) (Q := fun v => ∃ q, Iff' q (Good si sf b e n r) ∧ v = bA q)
   (ok5L (M := M)) (n := 100) (by kernel_rfl) rfl rfl (wp5 hp fun q hq => ⟨q, hq, rfl⟩)
  exact ⟨_, List.mem_singleton.2 rfl, q, m, hq, e'⟩
 ·cases hs
end
end Go.Proofs.Sp.Sj
namespace Go.Proofs.Sp.Sj
open Go Go.Ef Go.Proofs.Pt
noncomputable section
set_option maxRecDepth 100000
theorem v37n (M : Int) (si : Cells) (sf : Cells) (b : Int) (e : Int) (n : Int) (r : Int) (w : Nat) (i : Int) (g : Heap) (K : AV → Heap → Prop) (h :
 iteP
 (slIn
 (boxIn g (25 : Nat)
 [AV.sl si (0 : Nat), AV.sl sf (0 : Nat), AV.sc (Value.int IntKind.i64 b), AV.sc (Value.int IntKind.i64 e),
 AV.sc (Value.int IntKind.i64 n), AV.sc (Value.int IntKind.i64 r)])
 g.next (0 : Nat))
 (iteP
 (inRange i
 (elsIn
 (boxIn g (25 : Nat)
 [AV.sl si (0 : Nat), AV.sl sf (0 : Nat), AV.sc (Value.int IntKind.i64 b), AV.sc (Value.int IntKind.i64 e),
 AV.sc (Value.int IntKind.i64 n), AV.sc (Value.int IntKind.i64 r)])
 g.next (0 : Nat)).length)
 (getI i.toNat
 (elsIn
 (boxIn g (25 : Nat)
 [AV.sl si (0 : Nat), AV.sl sf (0 : Nat), AV.sc (Value.int IntKind.i64 b), AV.sc (Value.int IntKind.i64 e),
 AV.sc (Value.int IntKind.i64 n), AV.sc (Value.int IntKind.i64 r)])
 g.next (0 : Nat)) =
 some
 [AV.sc
 (Value.int IntKind.i64
 (cellInt
 (elsIn
 (boxIn g (25 : Nat)
 [AV.sl si (0 : Nat), AV.sl sf (0 : Nat), AV.sc (Value.int IntKind.i64 b),
 AV.sc (Value.int IntKind.i64 e), AV.sc (Value.int IntKind.i64 n),
 AV.sc (Value.int IntKind.i64 r)])
 g.next (0 : Nat))
 i (0 : Nat))),
 AV.sc
 (Value.int IntKind.i64
 (cellInt
 (elsIn
 (boxIn g (25 : Nat)
 [AV.sl si (0 : Nat), AV.sl sf (0 : Nat), AV.sc (Value.int IntKind.i64 b),
 AV.sc (Value.int IntKind.i64 e), AV.sc (Value.int IntKind.i64 n),
 AV.sc (Value.int IntKind.i64 r)])
 g.next (0 : Nat))
 i (1 : Nat))),
 AV.sc
 (Value.int IntKind.i64
 (cellInt
 (elsIn
 (boxIn g (25 : Nat)
 [AV.sl si (0 : Nat), AV.sl sf (0 : Nat), AV.sc (Value.int IntKind.i64 b),
 AV.sc (Value.int IntKind.i64 e), AV.sc (Value.int IntKind.i64 n),
 AV.sc (Value.int IntKind.i64 r)])
 g.next (0 : Nat))
 i (2 : Nat))),
 AV.sc
 (Value.int IntKind.i64
 (cellInt
 (elsIn
 (boxIn g (25 : Nat)
 [AV.sl si (0 : Nat), AV.sl sf (0 : Nat), AV.sc (Value.int IntKind.i64 b),
 AV.sc (Value.int IntKind.i64 e), AV.sc (Value.int IntKind.i64 n),
 AV.sc (Value.int IntKind.i64 r)])
 g.next (0 : Nat))
 i (3 : Nat))),
 AV.sc
 (Value.string
 (ByteArray.mk
 (Array.mk
 (cellStr
 (elsIn
 (boxIn g (25 : Nat)
 [AV.sl si (0 : Nat), AV.sl sf (0 : Nat), AV.sc (Value.int IntKind.i64 b),
 AV.sc (Value.int IntKind.i64 e), AV.sc (Value.int IntKind.i64 n),
 AV.sc (Value.int IntKind.i64 r)])
 g.next (0 : Nat))
 i (4 : Nat))))),
 AV.sc
 (Value.int IntKind.i64
 (cellInt
 (elsIn
 (boxIn g (25 : Nat)
 [AV.sl si (0 : Nat), AV.sl sf (0 : Nat), AV.sc (Value.int IntKind.i64 b),
 AV.sc (Value.int IntKind.i64 e), AV.sc (Value.int IntKind.i64 n),
 AV.sc (Value.int IntKind.i64 r)])
 g.next (0 : Nat))
 i (5 : Nat)))] ∧
 iteP
 (rslIn
 (boxIn g (25 : Nat)
 [AV.sl si (0 : Nat), AV.sl sf (0 : Nat), AV.sc (Value.int IntKind.i64 b), AV.sc (Value.int IntKind.i64 e),
 AV.sc (Value.int IntKind.i64 n), AV.sc (Value.int IntKind.i64 r)])
 w (1 : Nat) (1 : Nat))
 (iteP
 (inRange i
 (rLenIn
 (boxIn g (25 : Nat)
 [AV.sl si (0 : Nat), AV.sl sf (0 : Nat), AV.sc (Value.int IntKind.i64 b),
 AV.sc (Value.int IntKind.i64 e), AV.sc (Value.int IntKind.i64 n), AV.sc (Value.int IntKind.i64 r)])
 w (1 : Nat)))
 (iteP
 (kdsIn
 (boxIn g (25 : Nat)
 [AV.sl si (0 : Nat), AV.sl sf (0 : Nat), AV.sc (Value.int IntKind.i64 b),
 AV.sc (Value.int IntKind.i64 e), AV.sc (Value.int IntKind.i64 n), AV.sc (Value.int IntKind.i64 r)])
 (rIdIn
 (boxIn g (25 : Nat)
 [AV.sl si (0 : Nat), AV.sl sf (0 : Nat), AV.sc (Value.int IntKind.i64 b),
 AV.sc (Value.int IntKind.i64 e), AV.sc (Value.int IntKind.i64 n), AV.sc (Value.int IntKind.i64 r)])
 w (1 : Nat))
 (rOffIn
 (boxIn g (25 : Nat)
 [AV.sl si (0 : Nat), AV.sl sf (0 : Nat), AV.sc (Value.int IntKind.i64 b),
 AV.sc (Value.int IntKind.i64 e), AV.sc (Value.int IntKind.i64 n),
 AV.sc (Value.int IntKind.i64 r)])
 w (1 : Nat) +
 i.toNat * (1 : Nat))
 [Kd.str])
 (iteP
 (kdsIn
 (boxIn g (25 : Nat)
 [AV.sl si (0 : Nat), AV.sl sf (0 : Nat), AV.sc (Value.int IntKind.i64 b),
 AV.sc (Value.int IntKind.i64 e), AV.sc (Value.int IntKind.i64 n), AV.sc (Value.int IntKind.i64 r)])
 g.next (0 : Nat)
 [[Kd.sl], [Kd.sl], [Kd.int IntKind.i64], [Kd.int IntKind.i64], [Kd.int IntKind.i64],
 [Kd.int IntKind.i64]].flatten)
 (InsOk
 (elsIn
 (boxIn g (25 : Nat)
 [AV.sl si (0 : Nat), AV.sl sf (0 : Nat), AV.sc (Value.int IntKind.i64 b),
 AV.sc (Value.int IntKind.i64 e), AV.sc (Value.int IntKind.i64 n),
 AV.sc (Value.int IntKind.i64 r)])
 g.next (0 : Nat))
 (elsIn
 (boxIn g (25 : Nat)
 [AV.sl si (0 : Nat), AV.sl sf (0 : Nat), AV.sc (Value.int IntKind.i64 b),
 AV.sc (Value.int IntKind.i64 e), AV.sc (Value.int IntKind.i64 n),
 AV.sc (Value.int IntKind.i64 r)])
 g.next (1 : Nat))
 (intIn
 (boxIn g (25 : Nat)
 [AV.sl si (0 : Nat), AV.sl sf (0 : Nat), AV.sc (Value.int IntKind.i64 b),
 AV.sc (Value.int IntKind.i64 e), AV.sc (Value.int IntKind.i64 n),
 AV.sc (Value.int IntKind.i64 r)])
 g.next (5 : Nat))
 (cellInt
 (elsIn
 (boxIn g (25 : Nat)
 [AV.sl si (0 : Nat), AV.sl sf (0 : Nat), AV.sc (Value.int IntKind.i64 b),
 AV.sc (Value.int IntKind.i64 e), AV.sc (Value.int IntKind.i64 n),
 AV.sc (Value.int IntKind.i64 r)])
 g.next (0 : Nat))
 i (0 : Nat))
 (cellInt
 (elsIn
 (boxIn g (25 : Nat)
 [AV.sl si (0 : Nat), AV.sl sf (0 : Nat), AV.sc (Value.int IntKind.i64 b),
 AV.sc (Value.int IntKind.i64 e), AV.sc (Value.int IntKind.i64 n),
 AV.sc (Value.int IntKind.i64 r)])
 g.next (0 : Nat))
 i (1 : Nat))
 (cellInt
 (elsIn
 (boxIn g (25 : Nat)
 [AV.sl si (0 : Nat), AV.sl sf (0 : Nat), AV.sc (Value.int IntKind.i64 b),
 AV.sc (Value.int IntKind.i64 e), AV.sc (Value.int IntKind.i64 n),
 AV.sc (Value.int IntKind.i64 r)])
 g.next (0 : Nat))
 i (2 : Nat))
 (cellInt
 (elsIn
 (boxIn g (25 : Nat)
 [AV.sl si (0 : Nat), AV.sl sf (0 : Nat), AV.sc (Value.int IntKind.i64 b),
 AV.sc (Value.int IntKind.i64 e), AV.sc (Value.int IntKind.i64 n),
 AV.sc (Value.int IntKind.i64 r)])
 g.next (0 : Nat))
 i (3 : Nat))
 (cellStr
 (elsIn
 (boxIn g (25 : Nat)
 [AV.sl si (0 : Nat), AV.sl sf (0 : Nat), AV.sc (Value.int IntKind.i64 b),
 AV.sc (Value.int IntKind.i64 e), AV.sc (Value.int IntKind.i64 n),
 AV.sc (Value.int IntKind.i64 r)])
 g.next (0 : Nat))
 i (4 : Nat)) ∧
 ∀ (x : List UInt8),
 x =
 popsF
 (elsIn
 (boxIn g (25 : Nat)
 [AV.sl si (0 : Nat), AV.sl sf (0 : Nat), AV.sc (Value.int IntKind.i64 b),
 AV.sc (Value.int IntKind.i64 e), AV.sc (Value.int IntKind.i64 n),
 AV.sc (Value.int IntKind.i64 r)])
 g.next (1 : Nat))
 (cellInt
 (elsIn
 (boxIn g (25 : Nat)
 [AV.sl si (0 : Nat), AV.sl sf (0 : Nat), AV.sc (Value.int IntKind.i64 b),
 AV.sc (Value.int IntKind.i64 e), AV.sc (Value.int IntKind.i64 n),
 AV.sc (Value.int IntKind.i64 r)])
 g.next (0 : Nat))
 i (0 : Nat))
 (cellInt
 (elsIn
 (boxIn g (25 : Nat)
 [AV.sl si (0 : Nat), AV.sl sf (0 : Nat), AV.sc (Value.int IntKind.i64 b),
 AV.sc (Value.int IntKind.i64 e), AV.sc (Value.int IntKind.i64 n),
 AV.sc (Value.int IntKind.i64 r)])
 g.next (0 : Nat))
 i (1 : Nat))
 (cellInt
 (elsIn
 (boxIn g (25 : Nat)
 [AV.sl si (0 : Nat), AV.sl sf (0 : Nat), AV.sc (Value.int IntKind.i64 b),
 AV.sc (Value.int IntKind.i64 e), AV.sc (Value.int IntKind.i64 n),
 AV.sc (Value.int IntKind.i64 r)])
 g.next (0 : Nat))
 i (2 : Nat)) →
 iteP
 (decide
 (IntKind.i64.wrap
 ((↑(txtIn
 (boxIn g (25 : Nat)
 [AV.sl si (0 : Nat), AV.sl sf (0 : Nat), AV.sc (Value.int IntKind.i64 b),
 AV.sc (Value.int IntKind.i64 e), AV.sc (Value.int IntKind.i64 n),
 AV.sc (Value.int IntKind.i64 r)])
 (rIdIn
 (boxIn g (25 : Nat)
 [AV.sl si (0 : Nat), AV.sl sf (0 : Nat), AV.sc (Value.int IntKind.i64 b),
 AV.sc (Value.int IntKind.i64 e), AV.sc (Value.int IntKind.i64 n),
 AV.sc (Value.int IntKind.i64 r)])
 w (1 : Nat))
 (rOffIn
 (boxIn g (25 : Nat)
 [AV.sl si (0 : Nat), AV.sl sf (0 : Nat), AV.sc (Value.int IntKind.i64 b),
 AV.sc (Value.int IntKind.i64 e), AV.sc (Value.int IntKind.i64 n),
 AV.sc (Value.int IntKind.i64 r)])
 w (1 : Nat) +
 i.toNat * (1 : Nat))).length :
 Int) -
 (↑x.length : Int)) <
 (0 : Int)))
 (iteP
 (okIn
 (boxIn g (25 : Nat)
 [AV.sl si (0 : Nat), AV.sl sf (0 : Nat), AV.sc (Value.int IntKind.i64 b),
 AV.sc (Value.int IntKind.i64 e), AV.sc (Value.int IntKind.i64 n),
 AV.sc (Value.int IntKind.i64 r)])
 w (3 : Nat) (1 : Nat))
 (K (AV.sc (Value.tuple (Array.mk [])))
 (storeIn
 (boxIn g (25 : Nat)
 [AV.sl si (0 : Nat), AV.sl sf (0 : Nat), AV.sc (Value.int IntKind.i64 b),
 AV.sc (Value.int IntKind.i64 e), AV.sc (Value.int IntKind.i64 n),
 AV.sc (Value.int IntKind.i64 r)])
 w (3 : Nat) [AV.sc (Value.bool true)]))
 False)
 (iteP
 (decide
 ((0 : Int) ≤
 IntKind.i64.wrap
 ((↑(txtIn
 (boxIn g (25 : Nat)
 [AV.sl si (0 : Nat), AV.sl sf (0 : Nat), AV.sc (Value.int IntKind.i64 b),
 AV.sc (Value.int IntKind.i64 e), AV.sc (Value.int IntKind.i64 n),
 AV.sc (Value.int IntKind.i64 r)])
 (rIdIn
 (boxIn g (25 : Nat)
 [AV.sl si (0 : Nat), AV.sl sf (0 : Nat), AV.sc (Value.int IntKind.i64 b),
 AV.sc (Value.int IntKind.i64 e), AV.sc (Value.int IntKind.i64 n),
 AV.sc (Value.int IntKind.i64 r)])
 w (1 : Nat))
 (rOffIn
 (boxIn g (25 : Nat)
 [AV.sl si (0 : Nat), AV.sl sf (0 : Nat),
 AV.sc (Value.int IntKind.i64 b), AV.sc (Value.int IntKind.i64 e),
 AV.sc (Value.int IntKind.i64 n), AV.sc (Value.int IntKind.i64 r)])
 w (1 : Nat) +
 i.toNat * (1 : Nat))).length :
 Int) -
 (↑x.length : Int))) &&
 decide
 (IntKind.i64.wrap
 ((↑(txtIn
 (boxIn g (25 : Nat)
 [AV.sl si (0 : Nat), AV.sl sf (0 : Nat), AV.sc (Value.int IntKind.i64 b),
 AV.sc (Value.int IntKind.i64 e), AV.sc (Value.int IntKind.i64 n),
 AV.sc (Value.int IntKind.i64 r)])
 (rIdIn
 (boxIn g (25 : Nat)
 [AV.sl si (0 : Nat), AV.sl sf (0 : Nat), AV.sc (Value.int IntKind.i64 b),
 AV.sc (Value.int IntKind.i64 e), AV.sc (Value.int IntKind.i64 n),
 AV.sc (Value.int IntKind.i64 r)])
 w (1 : Nat))
 (rOffIn
 (boxIn g (25 : Nat)
 [AV.sl si (0 : Nat), AV.sl sf (0 : Nat),
 AV.sc (Value.int IntKind.i64 b), AV.sc (Value.int IntKind.i64 e),
 AV.sc (Value.int IntKind.i64 n), AV.sc (Value.int IntKind.i64 r)])
 w (1 : Nat) +
 i.toNat * (1 : Nat))).length :
 Int) -
 (↑x.length : Int)) ≤
 (↑(txtIn
 (boxIn g (25 : Nat)
 [AV.sl si (0 : Nat), AV.sl sf (0 : Nat), AV.sc (Value.int IntKind.i64 b),
 AV.sc (Value.int IntKind.i64 e), AV.sc (Value.int IntKind.i64 n),
 AV.sc (Value.int IntKind.i64 r)])
 (rIdIn
 (boxIn g (25 : Nat)
 [AV.sl si (0 : Nat), AV.sl sf (0 : Nat), AV.sc (Value.int IntKind.i64 b),
 AV.sc (Value.int IntKind.i64 e), AV.sc (Value.int IntKind.i64 n),
 AV.sc (Value.int IntKind.i64 r)])
 w (1 : Nat))
 (rOffIn
 (boxIn g (25 : Nat)
 [AV.sl si (0 : Nat), AV.sl sf (0 : Nat), AV.sc (Value.int IntKind.i64 b),
 AV.sc (Value.int IntKind.i64 e), AV.sc (Value.int IntKind.i64 n),
 AV.sc (Value.int IntKind.i64 r)])
 w (1 : Nat) +
 i.toNat * (1 : Nat))).length :
 Int)))
 (iteP
 (decide
 (List.drop
 (IntKind.i64.wrap
 ((↑(txtIn
 (boxIn g (25 : Nat)
 [AV.sl si (0 : Nat), AV.sl sf (0 : Nat),
 AV.sc (Value.int IntKind.i64 b), AV.sc (Value.int IntKind.i64 e),
 AV.sc (Value.int IntKind.i64 n), AV.sc (Value.int IntKind.i64 r)])
 (rIdIn
 (boxIn g (25 : Nat)
 [AV.sl si (0 : Nat), AV.sl sf (0 : Nat),
 AV.sc (Value.int IntKind.i64 b), AV.sc (Value.int IntKind.i64 e),
 AV.sc (Value.int IntKind.i64 n), AV.sc (Value.int IntKind.i64 r)])
 w (1 : Nat))
 (rOffIn
 (boxIn g (25 : Nat)
 [AV.sl si (0 : Nat), AV.sl sf (0 : Nat),
 AV.sc (Value.int IntKind.i64 b), AV.sc (Value.int IntKind.i64 e),
 AV.sc (Value.int IntKind.i64 n), AV.sc (Value.int IntKind.i64 r)])
 w (1 : Nat) +
 i.toNat * (1 : Nat))).length :
 Int) -
 (↑x.length : Int))).toNat
 (txtIn
 (boxIn g (25 : Nat)
 [AV.sl si (0 : Nat), AV.sl sf (0 : Nat), AV.sc (Value.int IntKind.i64 b),
 AV.sc (Value.int IntKind.i64 e), AV.sc (Value.int IntKind.i64 n),
 AV.sc (Value.int IntKind.i64 r)])
 (rIdIn
 (boxIn g (25 : Nat)
 [AV.sl si (0 : Nat), AV.sl sf (0 : Nat), AV.sc (Value.int IntKind.i64 b),
 AV.sc (Value.int IntKind.i64 e), AV.sc (Value.int IntKind.i64 n),
 AV.sc (Value.int IntKind.i64 r)])
 w (1 : Nat))
 (rOffIn
 (boxIn g (25 : Nat)
 [AV.sl si (0 : Nat), AV.sl sf (0 : Nat), AV.sc (Value.int IntKind.i64 b),
 AV.sc (Value.int IntKind.i64 e), AV.sc (Value.int IntKind.i64 n),
 AV.sc (Value.int IntKind.i64 r)])
 w (1 : Nat) +
 i.toNat * (1 : Nat))) ≠
 x))
 (iteP
 (okIn
 (boxIn g (25 : Nat)
 [AV.sl si (0 : Nat), AV.sl sf (0 : Nat), AV.sc (Value.int IntKind.i64 b),
 AV.sc (Value.int IntKind.i64 e), AV.sc (Value.int IntKind.i64 n),
 AV.sc (Value.int IntKind.i64 r)])
 w (3 : Nat) (1 : Nat))
 (K (AV.sc (Value.tuple (Array.mk [])))
 (storeIn
 (boxIn g (25 : Nat)
 [AV.sl si (0 : Nat), AV.sl sf (0 : Nat), AV.sc (Value.int IntKind.i64 b),
 AV.sc (Value.int IntKind.i64 e), AV.sc (Value.int IntKind.i64 n),
 AV.sc (Value.int IntKind.i64 r)])
 w (3 : Nat) [AV.sc (Value.bool true)]))
 False)
 (True ∧
 ∀ (x_1 : Bool),
 x_1 =
 partB
 (cellInt
 (elsIn
 (boxIn g (25 : Nat)
 [AV.sl si (0 : Nat), AV.sl sf (0 : Nat), AV.sc (Value.int IntKind.i64 b),
 AV.sc (Value.int IntKind.i64 e), AV.sc (Value.int IntKind.i64 n),
 AV.sc (Value.int IntKind.i64 r)])
 g.next (0 : Nat))
 i (0 : Nat))
 false →
 iteP x_1
 (True ∧
 ∀ (x_2 : Bool),
 x_2 =
 slotB
 (cellInt
 (elsIn
 (boxIn g (25 : Nat)
 [AV.sl si (0 : Nat), AV.sl sf (0 : Nat),
 AV.sc (Value.int IntKind.i64 b), AV.sc (Value.int IntKind.i64 e),
 AV.sc (Value.int IntKind.i64 n), AV.sc (Value.int IntKind.i64 r)])
 g.next (0 : Nat))
 i (0 : Nat))
 (cellInt
 (elsIn
 (boxIn g (25 : Nat)
 [AV.sl si (0 : Nat), AV.sl sf (0 : Nat),
 AV.sc (Value.int IntKind.i64 b), AV.sc (Value.int IntKind.i64 e),
 AV.sc (Value.int IntKind.i64 n), AV.sc (Value.int IntKind.i64 r)])
 g.next (0 : Nat))
 i (1 : Nat))
 (cellInt
 (elsIn
 (boxIn g (25 : Nat)
 [AV.sl si (0 : Nat), AV.sl sf (0 : Nat),
 AV.sc (Value.int IntKind.i64 b), AV.sc (Value.int IntKind.i64 e),
 AV.sc (Value.int IntKind.i64 n), AV.sc (Value.int IntKind.i64 r)])
 g.next (0 : Nat))
 i (2 : Nat))
 none →
 iteP x_2
 (True ∧
 ∀ (x_3 : Bool),
 x_3 =
 endsB
 (cellInt
 (elsIn
 (boxIn g (25 : Nat)
 [AV.sl si (0 : Nat), AV.sl sf (0 : Nat),
 AV.sc (Value.int IntKind.i64 b),
 AV.sc (Value.int IntKind.i64 e),
 AV.sc (Value.int IntKind.i64 n),
 AV.sc (Value.int IntKind.i64 r)])
 g.next (0 : Nat))
 i (0 : Nat)) →
 iteP x_3
 (iteP
 (kdsIn
 (boxIn g (25 : Nat)
 [AV.sl si (0 : Nat), AV.sl sf (0 : Nat),
 AV.sc (Value.int IntKind.i64 b),
 AV.sc (Value.int IntKind.i64 e),
 AV.sc (Value.int IntKind.i64 n),
 AV.sc (Value.int IntKind.i64 r)])
 w (3 : Nat) [Kd.bool])
 (iteP
 (boolIn
 (boxIn g (25 : Nat)
 [AV.sl si (0 : Nat), AV.sl sf (0 : Nat),
 AV.sc (Value.int IntKind.i64 b),
 AV.sc (Value.int IntKind.i64 e),
 AV.sc (Value.int IntKind.i64 n),
 AV.sc (Value.int IntKind.i64 r)])
 w (3 : Nat))
 (iteP
 (okIn
 (boxIn g (25 : Nat)
 [AV.sl si (0 : Nat), AV.sl sf (0 : Nat),
 AV.sc (Value.int IntKind.i64 b),
 AV.sc (Value.int IntKind.i64 e),
 AV.sc (Value.int IntKind.i64 n),
 AV.sc (Value.int IntKind.i64 r)])
 w (3 : Nat) (1 : Nat))
 (K (AV.sc (Value.tuple (Array.mk [])))
 (storeIn
 (boxIn g (25 : Nat)
 [AV.sl si (0 : Nat), AV.sl sf (0 : Nat),
 AV.sc (Value.int IntKind.i64 b),
 AV.sc (Value.int IntKind.i64 e),
 AV.sc (Value.int IntKind.i64 n),
 AV.sc (Value.int IntKind.i64 r)])
 w (3 : Nat) [AV.sc (Value.bool true)]))
 False)
 (iteP
 (cellInt
 (elsIn
 (boxIn g (25 : Nat)
 [AV.sl si (0 : Nat), AV.sl sf (0 : Nat),
 AV.sc (Value.int IntKind.i64 b),
 AV.sc (Value.int IntKind.i64 e),
 AV.sc (Value.int IntKind.i64 n),
 AV.sc (Value.int IntKind.i64 r)])
 g.next (0 : Nat))
 i (0 : Nat) ==
 (48 : Int))
 (iteP
 (decide
 (txtIn
 (boxIn g (25 : Nat)
 [AV.sl si (0 : Nat), AV.sl sf (0 : Nat),
 AV.sc (Value.int IntKind.i64 b),
 AV.sc (Value.int IntKind.i64 e),
 AV.sc (Value.int IntKind.i64 n),
 AV.sc (Value.int IntKind.i64 r)])
 (rIdIn
 (boxIn g (25 : Nat)
 [AV.sl si (0 : Nat), AV.sl sf (0 : Nat),
 AV.sc (Value.int IntKind.i64 b),
 AV.sc (Value.int IntKind.i64 e),
 AV.sc (Value.int IntKind.i64 n),
 AV.sc (Value.int IntKind.i64 r)])
 w (1 : Nat))
 (rOffIn
 (boxIn g (25 : Nat)
 [AV.sl si (0 : Nat), AV.sl sf (0 : Nat),
 AV.sc (Value.int IntKind.i64 b),
 AV.sc (Value.int IntKind.i64 e),
 AV.sc (Value.int IntKind.i64 n),
 AV.sc (Value.int IntKind.i64 r)])
 w (1 : Nat) +
 i.toNat * (1 : Nat)) ≠
 []))
 (iteP
 (okIn
 (boxIn g (25 : Nat)
 [AV.sl si (0 : Nat), AV.sl sf (0 : Nat),
 AV.sc (Value.int IntKind.i64 b),
 AV.sc (Value.int IntKind.i64 e),
 AV.sc (Value.int IntKind.i64 n),
 AV.sc (Value.int IntKind.i64 r)])
 w (3 : Nat) (1 : Nat))
 (K (AV.sc (Value.tuple (Array.mk [])))
 (storeIn
 (boxIn g (25 : Nat)
 [AV.sl si (0 : Nat), AV.sl sf (0 : Nat),
 AV.sc (Value.int IntKind.i64 b),
 AV.sc (Value.int IntKind.i64 e),
 AV.sc (Value.int IntKind.i64 n),
 AV.sc (Value.int IntKind.i64 r)])
 w (3 : Nat) [AV.sc (Value.bool true)]))
 False)
 (iteP
 (okIn
 (boxIn g (25 : Nat)
 [AV.sl si (0 : Nat), AV.sl sf (0 : Nat),
 AV.sc (Value.int IntKind.i64 b),
 AV.sc (Value.int IntKind.i64 e),
 AV.sc (Value.int IntKind.i64 n),
 AV.sc (Value.int IntKind.i64 r)])
 w (3 : Nat) (1 : Nat))
 (K (AV.sc (Value.tuple (Array.mk [])))
 (storeIn
 (boxIn g (25 : Nat)
 [AV.sl si (0 : Nat), AV.sl sf (0 : Nat),
 AV.sc (Value.int IntKind.i64 b),
 AV.sc (Value.int IntKind.i64 e),
 AV.sc (Value.int IntKind.i64 n),
 AV.sc (Value.int IntKind.i64 r)])
 w (3 : Nat) [AV.sc (Value.bool false)]))
 False))
 (iteP
 (cellInt
 (elsIn
 (boxIn g (25 : Nat)
 [AV.sl si (0 : Nat), AV.sl sf (0 : Nat),
 AV.sc (Value.int IntKind.i64 b),
 AV.sc (Value.int IntKind.i64 e),
 AV.sc (Value.int IntKind.i64 n),
 AV.sc (Value.int IntKind.i64 r)])
 g.next (0 : Nat))
 i (0 : Nat) ==
 (49 : Int))
 (iteP
 (decide
 (txtIn
 (boxIn g (25 : Nat)
 [AV.sl si (0 : Nat), AV.sl sf (0 : Nat),
 AV.sc (Value.int IntKind.i64 b),
 AV.sc (Value.int IntKind.i64 e),
 AV.sc (Value.int IntKind.i64 n),
 AV.sc (Value.int IntKind.i64 r)])
 (rIdIn
 (boxIn g (25 : Nat)
 [AV.sl si (0 : Nat), AV.sl sf (0 : Nat),
 AV.sc (Value.int IntKind.i64 b),
 AV.sc (Value.int IntKind.i64 e),
 AV.sc (Value.int IntKind.i64 n),
 AV.sc (Value.int IntKind.i64 r)])
 w (1 : Nat))
 (rOffIn
 (boxIn g (25 : Nat)
 [AV.sl si (0 : Nat), AV.sl sf (0 : Nat),
 AV.sc (Value.int IntKind.i64 b),
 AV.sc (Value.int IntKind.i64 e),
 AV.sc (Value.int IntKind.i64 n),
 AV.sc (Value.int IntKind.i64 r)])
 w (1 : Nat) +
 i.toNat * (1 : Nat)) ≠
 []))
 (iteP
 (okIn
 (boxIn g (25 : Nat)
 [AV.sl si (0 : Nat), AV.sl sf (0 : Nat),
 AV.sc (Value.int IntKind.i64 b),
 AV.sc (Value.int IntKind.i64 e),
 AV.sc (Value.int IntKind.i64 n),
 AV.sc (Value.int IntKind.i64 r)])
 w (3 : Nat) (1 : Nat))
 (K (AV.sc (Value.tuple (Array.mk [])))
 (storeIn
 (boxIn g (25 : Nat)
 [AV.sl si (0 : Nat), AV.sl sf (0 : Nat),
 AV.sc (Value.int IntKind.i64 b),
 AV.sc (Value.int IntKind.i64 e),
 AV.sc (Value.int IntKind.i64 n),
 AV.sc (Value.int IntKind.i64 r)])
 w (3 : Nat) [AV.sc (Value.bool true)]))
 False)
 (iteP
 (okIn
 (boxIn g (25 : Nat)
 [AV.sl si (0 : Nat), AV.sl sf (0 : Nat),
 AV.sc (Value.int IntKind.i64 b),
 AV.sc (Value.int IntKind.i64 e),
 AV.sc (Value.int IntKind.i64 n),
 AV.sc (Value.int IntKind.i64 r)])
 w (3 : Nat) (1 : Nat))
 (K (AV.sc (Value.tuple (Array.mk [])))
 (storeIn
 (boxIn g (25 : Nat)
 [AV.sl si (0 : Nat), AV.sl sf (0 : Nat),
 AV.sc (Value.int IntKind.i64 b),
 AV.sc (Value.int IntKind.i64 e),
 AV.sc (Value.int IntKind.i64 n),
 AV.sc (Value.int IntKind.i64 r)])
 w (3 : Nat) [AV.sc (Value.bool false)]))
 False))
 (iteP
 (okIn
 (boxIn g (25 : Nat)
 [AV.sl si (0 : Nat), AV.sl sf (0 : Nat),
 AV.sc (Value.int IntKind.i64 b),
 AV.sc (Value.int IntKind.i64 e),
 AV.sc (Value.int IntKind.i64 n),
 AV.sc (Value.int IntKind.i64 r)])
 w (3 : Nat) (1 : Nat))
 (K (AV.sc (Value.tuple (Array.mk [])))
 (storeIn
 (boxIn g (25 : Nat)
 [AV.sl si (0 : Nat), AV.sl sf (0 : Nat),
 AV.sc (Value.int IntKind.i64 b),
 AV.sc (Value.int IntKind.i64 e),
 AV.sc (Value.int IntKind.i64 n),
 AV.sc (Value.int IntKind.i64 r)])
 w (3 : Nat) [AV.sc (Value.bool false)]))
 False))))
 False)
 (iteP
 (decide
 ((0 : Int) ≤
 IntKind.i64.wrap
 ((↑(txtIn
 (boxIn g (25 : Nat)
 [AV.sl si (0 : Nat), AV.sl sf (0 : Nat),
 AV.sc (Value.int IntKind.i64 b),
 AV.sc (Value.int IntKind.i64 e),
 AV.sc (Value.int IntKind.i64 n),
 AV.sc (Value.int IntKind.i64 r)])
 (rIdIn
 (boxIn g (25 : Nat)
 [AV.sl si (0 : Nat), AV.sl sf (0 : Nat),
 AV.sc (Value.int IntKind.i64 b),
 AV.sc (Value.int IntKind.i64 e),
 AV.sc (Value.int IntKind.i64 n),
 AV.sc (Value.int IntKind.i64 r)])
 w (1 : Nat))
 (rOffIn
 (boxIn g (25 : Nat)
 [AV.sl si (0 : Nat), AV.sl sf (0 : Nat),
 AV.sc (Value.int IntKind.i64 b),
 AV.sc (Value.int IntKind.i64 e),
 AV.sc (Value.int IntKind.i64 n),
 AV.sc (Value.int IntKind.i64 r)])
 w (1 : Nat) +
 i.toNat * (1 : Nat))).length :
 Int) -
 (↑x.length : Int))) &&
 decide
 (IntKind.i64.wrap
 ((↑(txtIn
 (boxIn g (25 : Nat)
 [AV.sl si (0 : Nat), AV.sl sf (0 : Nat),
 AV.sc (Value.int IntKind.i64 b),
 AV.sc (Value.int IntKind.i64 e),
 AV.sc (Value.int IntKind.i64 n),
 AV.sc (Value.int IntKind.i64 r)])
 (rIdIn
 (boxIn g (25 : Nat)
 [AV.sl si (0 : Nat), AV.sl sf (0 : Nat),
 AV.sc (Value.int IntKind.i64 b),
 AV.sc (Value.int IntKind.i64 e),
 AV.sc (Value.int IntKind.i64 n),
 AV.sc (Value.int IntKind.i64 r)])
 w (1 : Nat))
 (rOffIn
 (boxIn g (25 : Nat)
 [AV.sl si (0 : Nat), AV.sl sf (0 : Nat),
 AV.sc (Value.int IntKind.i64 b),
 AV.sc (Value.int IntKind.i64 e),
 AV.sc (Value.int IntKind.i64 n),
 AV.sc (Value.int IntKind.i64 r)])
 w (1 : Nat) +
 i.toNat * (1 : Nat))).length :
 Int) -
 (↑x.length : Int)) ≤
 (↑(txtIn
 (boxIn g (25 : Nat)
 [AV.sl si (0 : Nat), AV.sl sf (0 : Nat),
 AV.sc (Value.int IntKind.i64 b),
 AV.sc (Value.int IntKind.i64 e),
 AV.sc (Value.int IntKind.i64 n),
 AV.sc (Value.int IntKind.i64 r)])
 (rIdIn
 (boxIn g (25 : Nat)
 [AV.sl si (0 : Nat), AV.sl sf (0 : Nat),
 AV.sc (Value.int IntKind.i64 b),
 AV.sc (Value.int IntKind.i64 e),
 AV.sc (Value.int IntKind.i64 n),
 AV.sc (Value.int IntKind.i64 r)])
 w (1 : Nat))
 (rOffIn
 (boxIn g (25 : Nat)
 [AV.sl si (0 : Nat), AV.sl sf (0 : Nat),
 AV.sc (Value.int IntKind.i64 b),
 AV.sc (Value.int IntKind.i64 e),
 AV.sc (Value.int IntKind.i64 n),
 AV.sc (Value.int IntKind.i64 r)])
 w (1 : Nat) +
 i.toNat * (1 : Nat))).length :
 Int)))
 (((1 : Int) ≤
 cellInt
 (elsIn
 (boxIn g (25 : Nat)
 [AV.sl si (0 : Nat), AV.sl sf (0 : Nat),
 AV.sc (Value.int IntKind.i64 b),
 AV.sc (Value.int IntKind.i64 e),
 AV.sc (Value.int IntKind.i64 n),
 AV.sc (Value.int IntKind.i64 r)])
 g.next (0 : Nat))
 i (0 : Nat) ∧
 cellInt
 (elsIn
 (boxIn g (25 : Nat)
 [AV.sl si (0 : Nat), AV.sl sf (0 : Nat),
 AV.sc (Value.int IntKind.i64 b),
 AV.sc (Value.int IntKind.i64 e),
 AV.sc (Value.int IntKind.i64 n),
 AV.sc (Value.int IntKind.i64 r)])
 g.next (0 : Nat))
 i (0 : Nat) ≤
 (49 : Int)) ∧
 ∀ (x_4 : List UInt8),
 x_4 =
 pushF
 (cellInt
 (elsIn
 (boxIn g (25 : Nat)
 [AV.sl si (0 : Nat), AV.sl sf (0 : Nat),
 AV.sc (Value.int IntKind.i64 b),
 AV.sc (Value.int IntKind.i64 e),
 AV.sc (Value.int IntKind.i64 n),
 AV.sc (Value.int IntKind.i64 r)])
 g.next (0 : Nat))
 i (0 : Nat)) →
 iteP
 (strFits
 (List.take
 (IntKind.i64.wrap
 ((↑(txtIn
 (boxIn g (25 : Nat)
 [AV.sl si (0 : Nat), AV.sl sf (0 : Nat),
 AV.sc (Value.int IntKind.i64 b),
 AV.sc (Value.int IntKind.i64 e),
 AV.sc (Value.int IntKind.i64 n),
 AV.sc (Value.int IntKind.i64 r)])
 (rIdIn
 (boxIn g (25 : Nat)
 [AV.sl si (0 : Nat),
 AV.sl sf (0 : Nat),
 AV.sc (Value.int IntKind.i64 b),
 AV.sc (Value.int IntKind.i64 e),
 AV.sc (Value.int IntKind.i64 n),
 AV.sc (Value.int IntKind.i64 r)])
 w (1 : Nat))
 (rOffIn
 (boxIn g (25 : Nat)
 [AV.sl si (0 : Nat),
 AV.sl sf (0 : Nat),
 AV.sc (Value.int IntKind.i64 b),
 AV.sc (Value.int IntKind.i64 e),
 AV.sc (Value.int IntKind.i64 n),
 AV.sc (Value.int IntKind.i64 r)])
 w (1 : Nat) +
 i.toNat * (1 : Nat))).length :
 Int) -
 (↑x.length : Int))).toNat
 (txtIn
 (boxIn g (25 : Nat)
 [AV.sl si (0 : Nat), AV.sl sf (0 : Nat),
 AV.sc (Value.int IntKind.i64 b),
 AV.sc (Value.int IntKind.i64 e),
 AV.sc (Value.int IntKind.i64 n),
 AV.sc (Value.int IntKind.i64 r)])
 (rIdIn
 (boxIn g (25 : Nat)
 [AV.sl si (0 : Nat), AV.sl sf (0 : Nat),
 AV.sc (Value.int IntKind.i64 b),
 AV.sc (Value.int IntKind.i64 e),
 AV.sc (Value.int IntKind.i64 n),
 AV.sc (Value.int IntKind.i64 r)])
 w (1 : Nat))
 (rOffIn
 (boxIn g (25 : Nat)
 [AV.sl si (0 : Nat), AV.sl sf (0 : Nat),
 AV.sc (Value.int IntKind.i64 b),
 AV.sc (Value.int IntKind.i64 e),
 AV.sc (Value.int IntKind.i64 n),
 AV.sc (Value.int IntKind.i64 r)])
 w (1 : Nat) +
 i.toNat * (1 : Nat))))
 x_4)
 (iteP
 (cellInt
 (elsIn
 (boxIn g (25 : Nat)
 [AV.sl si (0 : Nat), AV.sl sf (0 : Nat),
 AV.sc (Value.int IntKind.i64 b),
 AV.sc (Value.int IntKind.i64 e),
 AV.sc (Value.int IntKind.i64 n),
 AV.sc (Value.int IntKind.i64 r)])
 g.next (0 : Nat))
 i (0 : Nat) ==
 (39 : Int))
 (WIs
 (boxIn g (25 : Nat)
 [AV.sl si (0 : Nat), AV.sl sf (0 : Nat),
 AV.sc (Value.int IntKind.i64 b),
 AV.sc (Value.int IntKind.i64 e),
 AV.sc (Value.int IntKind.i64 n),
 AV.sc (Value.int IntKind.i64 r)])
 w
 (cellInt
 (elsIn
 (boxIn g (25 : Nat)
 [AV.sl si (0 : Nat), AV.sl sf (0 : Nat),
 AV.sc (Value.int IntKind.i64 b),
 AV.sc (Value.int IntKind.i64 e),
 AV.sc (Value.int IntKind.i64 n),
 AV.sc (Value.int IntKind.i64 r)])
 g.next (0 : Nat))
 i (1 : Nat)) ∧
 ∀ (x_5 : Heap),
 ToDone
 (boxIn g (25 : Nat)
 [AV.sl si (0 : Nat), AV.sl sf (0 : Nat),
 AV.sc (Value.int IntKind.i64 b),
 AV.sc (Value.int IntKind.i64 e),
 AV.sc (Value.int IntKind.i64 n),
 AV.sc (Value.int IntKind.i64 r)])
 w
 (cellInt
 (elsIn
 (boxIn g (25 : Nat)
 [AV.sl si (0 : Nat), AV.sl sf (0 : Nat),
 AV.sc (Value.int IntKind.i64 b),
 AV.sc (Value.int IntKind.i64 e),
 AV.sc (Value.int IntKind.i64 n),
 AV.sc (Value.int IntKind.i64 r)])
 g.next (0 : Nat))
 i (1 : Nat))
 (txtIn
 (boxIn g (25 : Nat)
 [AV.sl si (0 : Nat), AV.sl sf (0 : Nat),
 AV.sc (Value.int IntKind.i64 b),
 AV.sc (Value.int IntKind.i64 e),
 AV.sc (Value.int IntKind.i64 n),
 AV.sc (Value.int IntKind.i64 r)])
 (rIdIn
 (boxIn g (25 : Nat)
 [AV.sl si (0 : Nat), AV.sl sf (0 : Nat),
 AV.sc (Value.int IntKind.i64 b),
 AV.sc (Value.int IntKind.i64 e),
 AV.sc (Value.int IntKind.i64 n),
 AV.sc (Value.int IntKind.i64 r)])
 w (1 : Nat))
 (rOffIn
 (boxIn g (25 : Nat)
 [AV.sl si (0 : Nat), AV.sl sf (0 : Nat),
 AV.sc (Value.int IntKind.i64 b),
 AV.sc (Value.int IntKind.i64 e),
 AV.sc (Value.int IntKind.i64 n),
 AV.sc (Value.int IntKind.i64 r)])
 w (1 : Nat) +
 i.toNat * (1 : Nat)))
 x_5 →
 iteP
 (cellInt
 (elsIn
 (boxIn g (25 : Nat)
 [AV.sl si (0 : Nat), AV.sl sf (0 : Nat),
 AV.sc (Value.int IntKind.i64 b),
 AV.sc (Value.int IntKind.i64 e),
 AV.sc (Value.int IntKind.i64 n),
 AV.sc (Value.int IntKind.i64 r)])
 g.next (0 : Nat))
 i (0 : Nat) !=
 (22 : Int))
 (WIs x_5 w (IntKind.i64.wrap (i + (1 : Int))) ∧
 ∀ (x_6 : Heap),
 ToDone x_5 w
 (IntKind.i64.wrap (i + (1 : Int)))
 (List.take
 (IntKind.i64.wrap
 ((↑(txtIn
 (boxIn g (25 : Nat)
 [AV.sl si (0 : Nat),
 AV.sl sf (0 : Nat),
 AV.sc
 (Value.int
 IntKind.i64 b),
 AV.sc
 (Value.int
 IntKind.i64 e),
 AV.sc
 (Value.int
 IntKind.i64 n),
 AV.sc
 (Value.int
 IntKind.i64 r)])
 (rIdIn
 (boxIn g (25 : Nat)
 [AV.sl si (0 : Nat),
 AV.sl sf
 (0 : Nat),
 AV.sc
 (Value.int
 IntKind.i64
 b),
 AV.sc
 (Value.int
 IntKind.i64
 e),
 AV.sc
 (Value.int
 IntKind.i64
 n),
 AV.sc
 (Value.int
 IntKind.i64
 r)])
 w (1 : Nat))
 (rOffIn
 (boxIn g (25 : Nat)
 [AV.sl si
 (0 : Nat),
 AV.sl sf
 (0 : Nat),
 AV.sc
 (Value.int
 IntKind.i64
 b),
 AV.sc
 (Value.int
 IntKind.i64
 e),
 AV.sc
 (Value.int
 IntKind.i64
 n),
 AV.sc
 (Value.int
 IntKind.i64
 r)])
 w (1 : Nat) +
 i.toNat *
 (1 : Nat))).length :
 Int) -
 (↑x.length : Int))).toNat
 (txtIn
 (boxIn g (25 : Nat)
 [AV.sl si (0 : Nat),
 AV.sl sf (0 : Nat),
 AV.sc (Value.int IntKind.i64 b),
 AV.sc (Value.int IntKind.i64 e),
 AV.sc (Value.int IntKind.i64 n),
 AV.sc
 (Value.int IntKind.i64 r)])
 (rIdIn
 (boxIn g (25 : Nat)
 [AV.sl si (0 : Nat),
 AV.sl sf (0 : Nat),
 AV.sc
 (Value.int IntKind.i64 b),
 AV.sc
 (Value.int IntKind.i64 e),
 AV.sc
 (Value.int IntKind.i64 n),
 AV.sc
 (Value.int IntKind.i64 r)])
 w (1 : Nat))
 (rOffIn
 (boxIn g (25 : Nat)
 [AV.sl si (0 : Nat),
 AV.sl sf (0 : Nat),
 AV.sc
 (Value.int IntKind.i64 b),
 AV.sc
 (Value.int IntKind.i64 e),
 AV.sc
 (Value.int IntKind.i64 n),
 AV.sc
 (Value.int IntKind.i64
 r)])
 w (1 : Nat) +
 i.toNat * (1 : Nat))) ++
 x_4)
 x_6 →
 K (AV.sc (Value.tuple (Array.mk []))) x_6)
 (K (AV.sc (Value.tuple (Array.mk []))) x_5))
 (True ∧
 ∀ (x_5 : Bool),
 x_5 =
 targetB
 (cellInt
 (elsIn
 (boxIn g (25 : Nat)
 [AV.sl si (0 : Nat), AV.sl sf (0 : Nat),
 AV.sc (Value.int IntKind.i64 b),
 AV.sc (Value.int IntKind.i64 e),
 AV.sc (Value.int IntKind.i64 n),
 AV.sc (Value.int IntKind.i64 r)])
 g.next (0 : Nat))
 i (0 : Nat)) →
 iteP x_5
 (WIs
 (boxIn g (25 : Nat)
 [AV.sl si (0 : Nat), AV.sl sf (0 : Nat),
 AV.sc (Value.int IntKind.i64 b),
 AV.sc (Value.int IntKind.i64 e),
 AV.sc (Value.int IntKind.i64 n),
 AV.sc (Value.int IntKind.i64 r)])
 w
 (cellInt
 (elsIn
 (boxIn g (25 : Nat)
 [AV.sl si (0 : Nat), AV.sl sf (0 : Nat),
 AV.sc (Value.int IntKind.i64 b),
 AV.sc (Value.int IntKind.i64 e),
 AV.sc (Value.int IntKind.i64 n),
 AV.sc (Value.int IntKind.i64 r)])
 g.next (0 : Nat))
 i (1 : Nat)) ∧
 ∀ (x_6 : Heap),
 ToDone
 (boxIn g (25 : Nat)
 [AV.sl si (0 : Nat), AV.sl sf (0 : Nat),
 AV.sc (Value.int IntKind.i64 b),
 AV.sc (Value.int IntKind.i64 e),
 AV.sc (Value.int IntKind.i64 n),
 AV.sc (Value.int IntKind.i64 r)])
 w
 (cellInt
 (elsIn
 (boxIn g (25 : Nat)
 [AV.sl si (0 : Nat),
 AV.sl sf (0 : Nat),
 AV.sc (Value.int IntKind.i64 b),
 AV.sc (Value.int IntKind.i64 e),
 AV.sc (Value.int IntKind.i64 n),
 AV.sc (Value.int IntKind.i64 r)])
 g.next (0 : Nat))
 i (1 : Nat))
 (List.take
 (IntKind.i64.wrap
 ((↑(txtIn
 (boxIn g (25 : Nat)
 [AV.sl si (0 : Nat),
 AV.sl sf (0 : Nat),
 AV.sc
 (Value.int
 IntKind.i64 b),
 AV.sc
 (Value.int
 IntKind.i64 e),
 AV.sc
 (Value.int
 IntKind.i64 n),
 AV.sc
 (Value.int
 IntKind.i64 r)])
 (rIdIn
 (boxIn g (25 : Nat)
 [AV.sl si (0 : Nat),
 AV.sl sf
 (0 : Nat),
 AV.sc
 (Value.int
 IntKind.i64
 b),
 AV.sc
 (Value.int
 IntKind.i64
 e),
 AV.sc
 (Value.int
 IntKind.i64
 n),
 AV.sc
 (Value.int
 IntKind.i64
 r)])
 w (1 : Nat))
 (rOffIn
 (boxIn g (25 : Nat)
 [AV.sl si
 (0 : Nat),
 AV.sl sf
 (0 : Nat),
 AV.sc
 (Value.int
 IntKind.i64
 b),
 AV.sc
 (Value.int
 IntKind.i64
 e),
 AV.sc
 (Value.int
 IntKind.i64
 n),
 AV.sc
 (Value.int
 IntKind.i64
 r)])
 w (1 : Nat) +
 i.toNat *
 (1 : Nat))).length :
 Int) -
 (↑x.length : Int))).toNat
 (txtIn
 (boxIn g (25 : Nat)
 [AV.sl si (0 : Nat),
 AV.sl sf (0 : Nat),
 AV.sc (Value.int IntKind.i64 b),
 AV.sc (Value.int IntKind.i64 e),
 AV.sc (Value.int IntKind.i64 n),
 AV.sc
 (Value.int IntKind.i64 r)])
 (rIdIn
 (boxIn g (25 : Nat)
 [AV.sl si (0 : Nat),
 AV.sl sf (0 : Nat),
 AV.sc
 (Value.int IntKind.i64 b),
 AV.sc
 (Value.int IntKind.i64 e),
 AV.sc
 (Value.int IntKind.i64 n),
 AV.sc
 (Value.int IntKind.i64 r)])
 w (1 : Nat))
 (rOffIn
 (boxIn g (25 : Nat)
 [AV.sl si (0 : Nat),
 AV.sl sf (0 : Nat),
 AV.sc
 (Value.int IntKind.i64 b),
 AV.sc
 (Value.int IntKind.i64 e),
 AV.sc
 (Value.int IntKind.i64 n),
 AV.sc
 (Value.int IntKind.i64
 r)])
 w (1 : Nat) +
 i.toNat * (1 : Nat))) ++
 x_4)
 x_6 →
 iteP
 (cellInt
 (elsIn
 (boxIn g (25 : Nat)
 [AV.sl si (0 : Nat),
 AV.sl sf (0 : Nat),
 AV.sc (Value.int IntKind.i64 b),
 AV.sc (Value.int IntKind.i64 e),
 AV.sc (Value.int IntKind.i64 n),
 AV.sc
 (Value.int IntKind.i64 r)])
 g.next (0 : Nat))
 i (0 : Nat) !=
 (22 : Int))
 (WIs x_6 w
 (IntKind.i64.wrap (i + (1 : Int))) ∧
 ∀ (x_7 : Heap),
 ToDone x_6 w
 (IntKind.i64.wrap (i + (1 : Int)))
 (List.take
 (IntKind.i64.wrap
 ((↑(txtIn
 (boxIn g
 (25 : Nat)
 [AV.sl si
 (0 : Nat),
 AV.sl sf
 (0 : Nat),
 AV.sc
 (Value.int
 IntKind.i64
 b),
 AV.sc
 (Value.int
 IntKind.i64
 e),
 AV.sc
 (Value.int
 IntKind.i64
 n),
 AV.sc
 (Value.int
 IntKind.i64
 r)])
 (rIdIn
 (boxIn g
 (25 : Nat)
 [AV.sl si
 (0 :
 Nat),
 AV.sl sf
 (0 :
 Nat),
 AV.sc
 (Value.int
 IntKind.i64
 b),
 AV.sc
 (Value.int
 IntKind.i64
 e),
 AV.sc
 (Value.int
 IntKind.i64
 n),
 AV.sc
 (Value.int
 IntKind.i64
 r)])
 w (1 : Nat))
 (rOffIn
 (boxIn g
 (25 : Nat)
 [AV.sl si
 (0 :
 Nat),
 AV.sl sf
 (0 :
 Nat),
 AV.sc
 (Value.int
 IntKind.i64
 b),
 AV.sc
 (Value.int
 IntKind.i64
 e),
 AV.sc
 (Value.int
 IntKind.i64
 n),
 AV.sc
 (Value.int
 IntKind.i64
 r)])
 w
 (1 : Nat) +
 i.toNat *
 (1 :
 Nat))).length :
 Int) -
 (↑x.length :
 Int))).toNat
 (txtIn
 (boxIn g (25 : Nat)
 [AV.sl si (0 : Nat),
 AV.sl sf (0 : Nat),
 AV.sc
 (Value.int IntKind.i64
 b),
 AV.sc
 (Value.int IntKind.i64
 e),
 AV.sc
 (Value.int IntKind.i64
 n),
 AV.sc
 (Value.int IntKind.i64
 r)])
 (rIdIn
 (boxIn g (25 : Nat)
 [AV.sl si (0 : Nat),
 AV.sl sf (0 : Nat),
 AV.sc
 (Value.int
 IntKind.i64 b),
 AV.sc
 (Value.int
 IntKind.i64 e),
 AV.sc
 (Value.int
 IntKind.i64 n),
 AV.sc
 (Value.int
 IntKind.i64 r)])
 w (1 : Nat))
 (rOffIn
 (boxIn g (25 : Nat)
 [AV.sl si (0 : Nat),
 AV.sl sf (0 : Nat),
 AV.sc
 (Value.int
 IntKind.i64 b),
 AV.sc
 (Value.int
 IntKind.i64 e),
 AV.sc
 (Value.int
 IntKind.i64 n),
 AV.sc
 (Value.int
 IntKind.i64 r)])
 w (1 : Nat) +
 i.toNat * (1 : Nat))) ++
 x_4)
 x_7 →
 K
 (AV.sc
 (Value.tuple (Array.mk [])))
 x_7)
 (K (AV.sc (Value.tuple (Array.mk [])))
 x_6))
 (iteP
 (cellInt
 (elsIn
 (boxIn g (25 : Nat)
 [AV.sl si (0 : Nat), AV.sl sf (0 : Nat),
 AV.sc (Value.int IntKind.i64 b),
 AV.sc (Value.int IntKind.i64 e),
 AV.sc (Value.int IntKind.i64 n),
 AV.sc (Value.int IntKind.i64 r)])
 g.next (0 : Nat))
 i (0 : Nat) !=
 (22 : Int))
 (WIs
 (boxIn g (25 : Nat)
 [AV.sl si (0 : Nat), AV.sl sf (0 : Nat),
 AV.sc (Value.int IntKind.i64 b),
 AV.sc (Value.int IntKind.i64 e),
 AV.sc (Value.int IntKind.i64 n),
 AV.sc (Value.int IntKind.i64 r)])
 w (IntKind.i64.wrap (i + (1 : Int))) ∧
 ∀ (x_6 : Heap),
 ToDone
 (boxIn g (25 : Nat)
 [AV.sl si (0 : Nat),
 AV.sl sf (0 : Nat),
 AV.sc (Value.int IntKind.i64 b),
 AV.sc (Value.int IntKind.i64 e),
 AV.sc (Value.int IntKind.i64 n),
 AV.sc (Value.int IntKind.i64 r)])
 w (IntKind.i64.wrap (i + (1 : Int)))
 (List.take
 (IntKind.i64.wrap
 ((↑(txtIn
 (boxIn g (25 : Nat)
 [AV.sl si (0 : Nat),
 AV.sl sf
 (0 : Nat),
 AV.sc
 (Value.int
 IntKind.i64
 b),
 AV.sc
 (Value.int
 IntKind.i64
 e),
 AV.sc
 (Value.int
 IntKind.i64
 n),
 AV.sc
 (Value.int
 IntKind.i64
 r)])
 (rIdIn
 (boxIn g (25 : Nat)
 [AV.sl si
 (0 : Nat),
 AV.sl sf
 (0 : Nat),
 AV.sc
 (Value.int
 IntKind.i64
 b),
 AV.sc
 (Value.int
 IntKind.i64
 e),
 AV.sc
 (Value.int
 IntKind.i64
 n),
 AV.sc
 (Value.int
 IntKind.i64
 r)])
 w (1 : Nat))
 (rOffIn
 (boxIn g
 (25 : Nat)
 [AV.sl si
 (0 : Nat),
 AV.sl sf
 (0 : Nat),
 AV.sc
 (Value.int
 IntKind.i64
 b),
 AV.sc
 (Value.int
 IntKind.i64
 e),
 AV.sc
 (Value.int
 IntKind.i64
 n),
 AV.sc
 (Value.int
 IntKind.i64
 r)])
 w (1 : Nat) +
 i.toNat *
 (1 :
 Nat))).length :
 Int) -
 (↑x.length : Int))).toNat
 (txtIn
 (boxIn g (25 : Nat)
 [AV.sl si (0 : Nat),
 AV.sl sf (0 : Nat),
 AV.sc
 (Value.int IntKind.i64 b),
 AV.sc
 (Value.int IntKind.i64 e),
 AV.sc
 (Value.int IntKind.i64 n),
 AV.sc
 (Value.int IntKind.i64 r)])
 (rIdIn
 (boxIn g (25 : Nat)
 [AV.sl si (0 : Nat),
 AV.sl sf (0 : Nat),
 AV.sc
 (Value.int IntKind.i64 b),
 AV.sc
 (Value.int IntKind.i64 e),
 AV.sc
 (Value.int IntKind.i64 n),
 AV.sc
 (Value.int IntKind.i64
 r)])
 w (1 : Nat))
 (rOffIn
 (boxIn g (25 : Nat)
 [AV.sl si (0 : Nat),
 AV.sl sf (0 : Nat),
 AV.sc
 (Value.int IntKind.i64
 b),
 AV.sc
 (Value.int IntKind.i64
 e),
 AV.sc
 (Value.int IntKind.i64
 n),
 AV.sc
 (Value.int IntKind.i64
 r)])
 w (1 : Nat) +
 i.toNat * (1 : Nat))) ++
 x_4)
 x_6 →
 K (AV.sc (Value.tuple (Array.mk []))) x_6)
 (K (AV.sc (Value.tuple (Array.mk [])))
 (boxIn g (25 : Nat)
 [AV.sl si (0 : Nat), AV.sl sf (0 : Nat),
 AV.sc (Value.int IntKind.i64 b),
 AV.sc (Value.int IntKind.i64 e),
 AV.sc (Value.int IntKind.i64 n),
 AV.sc (Value.int IntKind.i64 r)])))))
 False)
 False))
 (iteP
 (okIn
 (boxIn g (25 : Nat)
 [AV.sl si (0 : Nat), AV.sl sf (0 : Nat),
 AV.sc (Value.int IntKind.i64 b), AV.sc (Value.int IntKind.i64 e),
 AV.sc (Value.int IntKind.i64 n), AV.sc (Value.int IntKind.i64 r)])
 w (3 : Nat) (1 : Nat))
 (K (AV.sc (Value.tuple (Array.mk [])))
 (storeIn
 (boxIn g (25 : Nat)
 [AV.sl si (0 : Nat), AV.sl sf (0 : Nat),
 AV.sc (Value.int IntKind.i64 b), AV.sc (Value.int IntKind.i64 e),
 AV.sc (Value.int IntKind.i64 n), AV.sc (Value.int IntKind.i64 r)])
 w (3 : Nat) [AV.sc (Value.bool true)]))
 False))
 (iteP
 (okIn
 (boxIn g (25 : Nat)
 [AV.sl si (0 : Nat), AV.sl sf (0 : Nat), AV.sc (Value.int IntKind.i64 b),
 AV.sc (Value.int IntKind.i64 e), AV.sc (Value.int IntKind.i64 n),
 AV.sc (Value.int IntKind.i64 r)])
 w (3 : Nat) (1 : Nat))
 (K (AV.sc (Value.tuple (Array.mk [])))
 (storeIn
 (boxIn g (25 : Nat)
 [AV.sl si (0 : Nat), AV.sl sf (0 : Nat), AV.sc (Value.int IntKind.i64 b),
 AV.sc (Value.int IntKind.i64 e), AV.sc (Value.int IntKind.i64 n),
 AV.sc (Value.int IntKind.i64 r)])
 w (3 : Nat) [AV.sc (Value.bool true)]))
 False)))
 False))
 False)
 False)
 False)
 False)
 False)
 False) :
 (fun (M : Int) (si sf : Cells) (b e n r : Int) (w : Nat) (i : Int) (g : Heap) (K : AV → Heap → Prop) => wpCall T37 (cfg M) Tryz.prog 100 37 [.ptr w 0, codeA si sf b e n r, iA i, .sc (.pointer none)] g K) M si sf b e n r w i g K :=
 Eq.mp (by kernel_rfl) h
theorem v37 (M : Int) (si : Cells) (sf : Cells) (b : Int) (e : Int) (n : Int) (r : Int) (w : Nat) (i : Int) (fid : Nat) (g : Heap) (K : AV → Heap → Prop) (h :
 iteP
 (slIn
 (boxIn g (25 : Nat)
 [AV.sl si (0 : Nat), AV.sl sf (0 : Nat), AV.sc (Value.int IntKind.i64 b), AV.sc (Value.int IntKind.i64 e),
 AV.sc (Value.int IntKind.i64 n), AV.sc (Value.int IntKind.i64 r)])
 g.next (0 : Nat))
 (iteP
 (inRange i
 (elsIn
 (boxIn g (25 : Nat)
 [AV.sl si (0 : Nat), AV.sl sf (0 : Nat), AV.sc (Value.int IntKind.i64 b), AV.sc (Value.int IntKind.i64 e),
 AV.sc (Value.int IntKind.i64 n), AV.sc (Value.int IntKind.i64 r)])
 g.next (0 : Nat)).length)
 (getI i.toNat
 (elsIn
 (boxIn g (25 : Nat)
 [AV.sl si (0 : Nat), AV.sl sf (0 : Nat), AV.sc (Value.int IntKind.i64 b), AV.sc (Value.int IntKind.i64 e),
 AV.sc (Value.int IntKind.i64 n), AV.sc (Value.int IntKind.i64 r)])
 g.next (0 : Nat)) =
 some
 [AV.sc
 (Value.int IntKind.i64
 (cellInt
 (elsIn
 (boxIn g (25 : Nat)
 [AV.sl si (0 : Nat), AV.sl sf (0 : Nat), AV.sc (Value.int IntKind.i64 b),
 AV.sc (Value.int IntKind.i64 e), AV.sc (Value.int IntKind.i64 n),
 AV.sc (Value.int IntKind.i64 r)])
 g.next (0 : Nat))
 i (0 : Nat))),
 AV.sc
 (Value.int IntKind.i64
 (cellInt
 (elsIn
 (boxIn g (25 : Nat)
 [AV.sl si (0 : Nat), AV.sl sf (0 : Nat), AV.sc (Value.int IntKind.i64 b),
 AV.sc (Value.int IntKind.i64 e), AV.sc (Value.int IntKind.i64 n),
 AV.sc (Value.int IntKind.i64 r)])
 g.next (0 : Nat))
 i (1 : Nat))),
 AV.sc
 (Value.int IntKind.i64
 (cellInt
 (elsIn
 (boxIn g (25 : Nat)
 [AV.sl si (0 : Nat), AV.sl sf (0 : Nat), AV.sc (Value.int IntKind.i64 b),
 AV.sc (Value.int IntKind.i64 e), AV.sc (Value.int IntKind.i64 n),
 AV.sc (Value.int IntKind.i64 r)])
 g.next (0 : Nat))
 i (2 : Nat))),
 AV.sc
 (Value.int IntKind.i64
 (cellInt
 (elsIn
 (boxIn g (25 : Nat)
 [AV.sl si (0 : Nat), AV.sl sf (0 : Nat), AV.sc (Value.int IntKind.i64 b),
 AV.sc (Value.int IntKind.i64 e), AV.sc (Value.int IntKind.i64 n),
 AV.sc (Value.int IntKind.i64 r)])
 g.next (0 : Nat))
 i (3 : Nat))),
 AV.sc
 (Value.string
 (ByteArray.mk
 (Array.mk
 (cellStr
 (elsIn
 (boxIn g (25 : Nat)
 [AV.sl si (0 : Nat), AV.sl sf (0 : Nat), AV.sc (Value.int IntKind.i64 b),
 AV.sc (Value.int IntKind.i64 e), AV.sc (Value.int IntKind.i64 n),
 AV.sc (Value.int IntKind.i64 r)])
 g.next (0 : Nat))
 i (4 : Nat))))),
 AV.sc
 (Value.int IntKind.i64
 (cellInt
 (elsIn
 (boxIn g (25 : Nat)
 [AV.sl si (0 : Nat), AV.sl sf (0 : Nat), AV.sc (Value.int IntKind.i64 b),
 AV.sc (Value.int IntKind.i64 e), AV.sc (Value.int IntKind.i64 n),
 AV.sc (Value.int IntKind.i64 r)])
 g.next (0 : Nat))
 i (5 : Nat)))] ∧
 iteP
 (rslIn
 (boxIn g (25 : Nat)
 [AV.sl si (0 : Nat), AV.sl sf (0 : Nat), AV.sc (Value.int IntKind.i64 b), AV.sc (Value.int IntKind.i64 e),
 AV.sc (Value.int IntKind.i64 n), AV.sc (Value.int IntKind.i64 r)])
 w (1 : Nat) (1 : Nat))
 (iteP
 (inRange i
 (rLenIn
 (boxIn g (25 : Nat)
 [AV.sl si (0 : Nat), AV.sl sf (0 : Nat), AV.sc (Value.int IntKind.i64 b),
 AV.sc (Value.int IntKind.i64 e), AV.sc (Value.int IntKind.i64 n), AV.sc (Value.int IntKind.i64 r)])
 w (1 : Nat)))
 (iteP
 (kdsIn
 (boxIn g (25 : Nat)
 [AV.sl si (0 : Nat), AV.sl sf (0 : Nat), AV.sc (Value.int IntKind.i64 b),
 AV.sc (Value.int IntKind.i64 e), AV.sc (Value.int IntKind.i64 n), AV.sc (Value.int IntKind.i64 r)])
 (rIdIn
 (boxIn g (25 : Nat)
 [AV.sl si (0 : Nat), AV.sl sf (0 : Nat), AV.sc (Value.int IntKind.i64 b),
 AV.sc (Value.int IntKind.i64 e), AV.sc (Value.int IntKind.i64 n), AV.sc (Value.int IntKind.i64 r)])
 w (1 : Nat))
 (rOffIn
 (boxIn g (25 : Nat)
 [AV.sl si (0 : Nat), AV.sl sf (0 : Nat), AV.sc (Value.int IntKind.i64 b),
 AV.sc (Value.int IntKind.i64 e), AV.sc (Value.int IntKind.i64 n),
 AV.sc (Value.int IntKind.i64 r)])
 w (1 : Nat) +
 i.toNat * (1 : Nat))
 [Kd.str])
 (iteP
 (kdsIn
 (boxIn g (25 : Nat)
 [AV.sl si (0 : Nat), AV.sl sf (0 : Nat), AV.sc (Value.int IntKind.i64 b),
 AV.sc (Value.int IntKind.i64 e), AV.sc (Value.int IntKind.i64 n), AV.sc (Value.int IntKind.i64 r)])
 g.next (0 : Nat)
 [[Kd.sl], [Kd.sl], [Kd.int IntKind.i64], [Kd.int IntKind.i64], [Kd.int IntKind.i64],
 [Kd.int IntKind.i64]].flatten)
 (InsOk
 (elsIn
 (boxIn g (25 : Nat)
 [AV.sl si (0 : Nat), AV.sl sf (0 : Nat), AV.sc (Value.int IntKind.i64 b),
 AV.sc (Value.int IntKind.i64 e), AV.sc (Value.int IntKind.i64 n),
 AV.sc (Value.int IntKind.i64 r)])
 g.next (0 : Nat))
 (elsIn
 (boxIn g (25 : Nat)
 [AV.sl si (0 : Nat), AV.sl sf (0 : Nat), AV.sc (Value.int IntKind.i64 b),
 AV.sc (Value.int IntKind.i64 e), AV.sc (Value.int IntKind.i64 n),
 AV.sc (Value.int IntKind.i64 r)])
 g.next (1 : Nat))
 (intIn
 (boxIn g (25 : Nat)
 [AV.sl si (0 : Nat), AV.sl sf (0 : Nat), AV.sc (Value.int IntKind.i64 b),
 AV.sc (Value.int IntKind.i64 e), AV.sc (Value.int IntKind.i64 n),
 AV.sc (Value.int IntKind.i64 r)])
 g.next (5 : Nat))
 (cellInt
 (elsIn
 (boxIn g (25 : Nat)
 [AV.sl si (0 : Nat), AV.sl sf (0 : Nat), AV.sc (Value.int IntKind.i64 b),
 AV.sc (Value.int IntKind.i64 e), AV.sc (Value.int IntKind.i64 n),
 AV.sc (Value.int IntKind.i64 r)])
 g.next (0 : Nat))
 i (0 : Nat))
 (cellInt
 (elsIn
 (boxIn g (25 : Nat)
 [AV.sl si (0 : Nat), AV.sl sf (0 : Nat), AV.sc (Value.int IntKind.i64 b),
 AV.sc (Value.int IntKind.i64 e), AV.sc (Value.int IntKind.i64 n),
 AV.sc (Value.int IntKind.i64 r)])
 g.next (0 : Nat))
 i (1 : Nat))
 (cellInt
 (elsIn
 (boxIn g (25 : Nat)
 [AV.sl si (0 : Nat), AV.sl sf (0 : Nat), AV.sc (Value.int IntKind.i64 b),
 AV.sc (Value.int IntKind.i64 e), AV.sc (Value.int IntKind.i64 n),
 AV.sc (Value.int IntKind.i64 r)])
 g.next (0 : Nat))
 i (2 : Nat))
 (cellInt
 (elsIn
 (boxIn g (25 : Nat)
 [AV.sl si (0 : Nat), AV.sl sf (0 : Nat), AV.sc (Value.int IntKind.i64 b),
 AV.sc (Value.int IntKind.i64 e), AV.sc (Value.int IntKind.i64 n),
 AV.sc (Value.int IntKind.i64 r)])
 g.next (0 : Nat))
 i (3 : Nat))
 (cellStr
 (elsIn
 (boxIn g (25 : Nat)
 [AV.sl si (0 : Nat), AV.sl sf (0 : Nat), AV.sc (Value.int IntKind.i64 b),
 AV.sc (Value.int IntKind.i64 e), AV.sc (Value.int IntKind.i64 n),
 AV.sc (Value.int IntKind.i64 r)])
 g.next (0 : Nat))
 i (4 : Nat)) ∧
 ∀ (x : List UInt8),
 x =
 popsF
 (elsIn
 (boxIn g (25 : Nat)
 [AV.sl si (0 : Nat), AV.sl sf (0 : Nat), AV.sc (Value.int IntKind.i64 b),
 AV.sc (Value.int IntKind.i64 e), AV.sc (Value.int IntKind.i64 n),
 AV.sc (Value.int IntKind.i64 r)])
 g.next (1 : Nat))
 (cellInt
 (elsIn
 (boxIn g (25 : Nat)
 [AV.sl si (0 : Nat), AV.sl sf (0 : Nat), AV.sc (Value.int IntKind.i64 b),
 AV.sc (Value.int IntKind.i64 e), AV.sc (Value.int IntKind.i64 n),
 AV.sc (Value.int IntKind.i64 r)])
 g.next (0 : Nat))
 i (0 : Nat))
 (cellInt
 (elsIn
 (boxIn g (25 : Nat)
 [AV.sl si (0 : Nat), AV.sl sf (0 : Nat), AV.sc (Value.int IntKind.i64 b),
 AV.sc (Value.int IntKind.i64 e), AV.sc (Value.int IntKind.i64 n),
 AV.sc (Value.int IntKind.i64 r)])
 g.next (0 : Nat))
 i (1 : Nat))
 (cellInt
 (elsIn
 (boxIn g (25 : Nat)
 [AV.sl si (0 : Nat), AV.sl sf (0 : Nat), AV.sc (Value.int IntKind.i64 b),
 AV.sc (Value.int IntKind.i64 e), AV.sc (Value.int IntKind.i64 n),
 AV.sc (Value.int IntKind.i64 r)])
 g.next (0 : Nat))
 i (2 : Nat)) →
 iteP
 (decide
 (IntKind.i64.wrap
 ((↑(txtIn
 (boxIn g (25 : Nat)
 [AV.sl si (0 : Nat), AV.sl sf (0 : Nat), AV.sc (Value.int IntKind.i64 b),
 AV.sc (Value.int IntKind.i64 e), AV.sc (Value.int IntKind.i64 n),
 AV.sc (Value.int IntKind.i64 r)])
 (rIdIn
 (boxIn g (25 : Nat)
 [AV.sl si (0 : Nat), AV.sl sf (0 : Nat), AV.sc (Value.int IntKind.i64 b),
 AV.sc (Value.int IntKind.i64 e), AV.sc (Value.int IntKind.i64 n),
 AV.sc (Value.int IntKind.i64 r)])
 w (1 : Nat))
 (rOffIn
 (boxIn g (25 : Nat)
 [AV.sl si (0 : Nat), AV.sl sf (0 : Nat), AV.sc (Value.int IntKind.i64 b),
 AV.sc (Value.int IntKind.i64 e), AV.sc (Value.int IntKind.i64 n),
 AV.sc (Value.int IntKind.i64 r)])
 w (1 : Nat) +
 i.toNat * (1 : Nat))).length :
 Int) -
 (↑x.length : Int)) <
 (0 : Int)))
 (iteP
 (okIn
 (boxIn g (25 : Nat)
 [AV.sl si (0 : Nat), AV.sl sf (0 : Nat), AV.sc (Value.int IntKind.i64 b),
 AV.sc (Value.int IntKind.i64 e), AV.sc (Value.int IntKind.i64 n),
 AV.sc (Value.int IntKind.i64 r)])
 w (3 : Nat) (1 : Nat))
 (K (AV.sc (Value.tuple (Array.mk [])))
 (storeIn
 (boxIn g (25 : Nat)
 [AV.sl si (0 : Nat), AV.sl sf (0 : Nat), AV.sc (Value.int IntKind.i64 b),
 AV.sc (Value.int IntKind.i64 e), AV.sc (Value.int IntKind.i64 n),
 AV.sc (Value.int IntKind.i64 r)])
 w (3 : Nat) [AV.sc (Value.bool true)]))
 False)
 (iteP
 (decide
 ((0 : Int) ≤
 IntKind.i64.wrap
 ((↑(txtIn
 (boxIn g (25 : Nat)
 [AV.sl si (0 : Nat), AV.sl sf (0 : Nat), AV.sc (Value.int IntKind.i64 b),
 AV.sc (Value.int IntKind.i64 e), AV.sc (Value.int IntKind.i64 n),
 AV.sc (Value.int IntKind.i64 r)])
 (rIdIn
 (boxIn g (25 : Nat)
 [AV.sl si (0 : Nat), AV.sl sf (0 : Nat), AV.sc (Value.int IntKind.i64 b),
 AV.sc (Value.int IntKind.i64 e), AV.sc (Value.int IntKind.i64 n),
 AV.sc (Value.int IntKind.i64 r)])
 w (1 : Nat))
 (rOffIn
 (boxIn g (25 : Nat)
 [AV.sl si (0 : Nat), AV.sl sf (0 : Nat),
 AV.sc (Value.int IntKind.i64 b), AV.sc (Value.int IntKind.i64 e),
 AV.sc (Value.int IntKind.i64 n), AV.sc (Value.int IntKind.i64 r)])
 w (1 : Nat) +
 i.toNat * (1 : Nat))).length :
 Int) -
 (↑x.length : Int))) &&
 decide
 (IntKind.i64.wrap
 ((↑(txtIn
 (boxIn g (25 : Nat)
 [AV.sl si (0 : Nat), AV.sl sf (0 : Nat), AV.sc (Value.int IntKind.i64 b),
 AV.sc (Value.int IntKind.i64 e), AV.sc (Value.int IntKind.i64 n),
 AV.sc (Value.int IntKind.i64 r)])
 (rIdIn
 (boxIn g (25 : Nat)
 [AV.sl si (0 : Nat), AV.sl sf (0 : Nat), AV.sc (Value.int IntKind.i64 b),
 AV.sc (Value.int IntKind.i64 e), AV.sc (Value.int IntKind.i64 n),
 AV.sc (Value.int IntKind.i64 r)])
 w (1 : Nat))
 (rOffIn
 (boxIn g (25 : Nat)
 [AV.sl si (0 : Nat), AV.sl sf (0 : Nat),
 AV.sc (Value.int IntKind.i64 b), AV.sc (Value.int IntKind.i64 e),
 AV.sc (Value.int IntKind.i64 n), AV.sc (Value.int IntKind.i64 r)])
 w (1 : Nat) +
 i.toNat * (1 : Nat))).length :
 Int) -
 (↑x.length : Int)) ≤
 (↑(txtIn
 (boxIn g (25 : Nat)
 [AV.sl si (0 : Nat), AV.sl sf (0 : Nat), AV.sc (Value.int IntKind.i64 b),
 AV.sc (Value.int IntKind.i64 e), AV.sc (Value.int IntKind.i64 n),
 AV.sc (Value.int IntKind.i64 r)])
 (rIdIn
 (boxIn g (25 : Nat)
 [AV.sl si (0 : Nat), AV.sl sf (0 : Nat), AV.sc (Value.int IntKind.i64 b),
 AV.sc (Value.int IntKind.i64 e), AV.sc (Value.int IntKind.i64 n),
 AV.sc (Value.int IntKind.i64 r)])
 w (1 : Nat))
 (rOffIn
 (boxIn g (25 : Nat)
 [AV.sl si (0 : Nat), AV.sl sf (0 : Nat), AV.sc (Value.int IntKind.i64 b),
 AV.sc (Value.int IntKind.i64 e), AV.sc (Value.int IntKind.i64 n),
 AV.sc (Value.int IntKind.i64 r)])
 w (1 : Nat) +
 i.toNat * (1 : Nat))).length :
 Int)))
 (iteP
 (decide
 (List.drop
 (IntKind.i64.wrap
 ((↑(txtIn
 (boxIn g (25 : Nat)
 [AV.sl si (0 : Nat), AV.sl sf (0 : Nat),
 AV.sc (Value.int IntKind.i64 b), AV.sc (Value.int IntKind.i64 e),
 AV.sc (Value.int IntKind.i64 n), AV.sc (Value.int IntKind.i64 r)])
 (rIdIn
 (boxIn g (25 : Nat)
 [AV.sl si (0 : Nat), AV.sl sf (0 : Nat),
 AV.sc (Value.int IntKind.i64 b), AV.sc (Value.int IntKind.i64 e),
 AV.sc (Value.int IntKind.i64 n), AV.sc (Value.int IntKind.i64 r)])
 w (1 : Nat))
 (rOffIn
 (boxIn g (25 : Nat)
 [AV.sl si (0 : Nat), AV.sl sf (0 : Nat),
 AV.sc (Value.int IntKind.i64 b), AV.sc (Value.int IntKind.i64 e),
 AV.sc (Value.int IntKind.i64 n), AV.sc (Value.int IntKind.i64 r)])
 w (1 : Nat) +
 i.toNat * (1 : Nat))).length :
 Int) -
 (↑x.length : Int))).toNat
 (txtIn
 (boxIn g (25 : Nat)
 [AV.sl si (0 : Nat), AV.sl sf (0 : Nat), AV.sc (Value.int IntKind.i64 b),
 AV.sc (Value.int IntKind.i64 e), AV.sc (Value.int IntKind.i64 n),
 AV.sc (Value.int IntKind.i64 r)])
 (rIdIn
 (boxIn g (25 : Nat)
 [AV.sl si (0 : Nat), AV.sl sf (0 : Nat), AV.sc (Value.int IntKind.i64 b),
 AV.sc (Value.int IntKind.i64 e), AV.sc (Value.int IntKind.i64 n),
 AV.sc (Value.int IntKind.i64 r)])
 w (1 : Nat))
 (rOffIn
 (boxIn g (25 : Nat)
 [AV.sl si (0 : Nat), AV.sl sf (0 : Nat), AV.sc (Value.int IntKind.i64 b),
 AV.sc (Value.int IntKind.i64 e), AV.sc (Value.int IntKind.i64 n),
 AV.sc (Value.int IntKind.i64 r)])
 w (1 : Nat) +
 i.toNat * (1 : Nat))) ≠
 x))
 (iteP
 (okIn
 (boxIn g (25 : Nat)
 [AV.sl si (0 : Nat), AV.sl sf (0 : Nat), AV.sc (Value.int IntKind.i64 b),
 AV.sc (Value.int IntKind.i64 e), AV.sc (Value.int IntKind.i64 n),
 AV.sc (Value.int IntKind.i64 r)])
 w (3 : Nat) (1 : Nat))
 (K (AV.sc (Value.tuple (Array.mk [])))
 (storeIn
 (boxIn g (25 : Nat)
 [AV.sl si (0 : Nat), AV.sl sf (0 : Nat), AV.sc (Value.int IntKind.i64 b),
 AV.sc (Value.int IntKind.i64 e), AV.sc (Value.int IntKind.i64 n),
 AV.sc (Value.int IntKind.i64 r)])
 w (3 : Nat) [AV.sc (Value.bool true)]))
 False)
 (True ∧
 ∀ (x_1 : Bool),
 x_1 =
 partB
 (cellInt
 (elsIn
 (boxIn g (25 : Nat)
 [AV.sl si (0 : Nat), AV.sl sf (0 : Nat), AV.sc (Value.int IntKind.i64 b),
 AV.sc (Value.int IntKind.i64 e), AV.sc (Value.int IntKind.i64 n),
 AV.sc (Value.int IntKind.i64 r)])
 g.next (0 : Nat))
 i (0 : Nat))
 true →
 iteP x_1
 (FpIs
 (boxIn g (25 : Nat)
 [AV.sl si (0 : Nat), AV.sl sf (0 : Nat), AV.sc (Value.int IntKind.i64 b),
 AV.sc (Value.int IntKind.i64 e), AV.sc (Value.int IntKind.i64 n),
 AV.sc (Value.int IntKind.i64 r)])
 fid ∧
 ∀ (x_2 : Bool),
 x_2 =
 slotB
 (cellInt
 (elsIn
 (boxIn g (25 : Nat)
 [AV.sl si (0 : Nat), AV.sl sf (0 : Nat),
 AV.sc (Value.int IntKind.i64 b), AV.sc (Value.int IntKind.i64 e),
 AV.sc (Value.int IntKind.i64 n), AV.sc (Value.int IntKind.i64 r)])
 g.next (0 : Nat))
 i (0 : Nat))
 (cellInt
 (elsIn
 (boxIn g (25 : Nat)
 [AV.sl si (0 : Nat), AV.sl sf (0 : Nat),
 AV.sc (Value.int IntKind.i64 b), AV.sc (Value.int IntKind.i64 e),
 AV.sc (Value.int IntKind.i64 n), AV.sc (Value.int IntKind.i64 r)])
 g.next (0 : Nat))
 i (1 : Nat))
 (cellInt
 (elsIn
 (boxIn g (25 : Nat)
 [AV.sl si (0 : Nat), AV.sl sf (0 : Nat),
 AV.sc (Value.int IntKind.i64 b), AV.sc (Value.int IntKind.i64 e),
 AV.sc (Value.int IntKind.i64 n), AV.sc (Value.int IntKind.i64 r)])
 g.next (0 : Nat))
 i (2 : Nat))
 (some
 (elsIn
 (boxIn g (25 : Nat)
 [AV.sl si (0 : Nat), AV.sl sf (0 : Nat),
 AV.sc (Value.int IntKind.i64 b), AV.sc (Value.int IntKind.i64 e),
 AV.sc (Value.int IntKind.i64 n), AV.sc (Value.int IntKind.i64 r)])
 fid (2 : Nat),
 elsIn
 (boxIn g (25 : Nat)
 [AV.sl si (0 : Nat), AV.sl sf (0 : Nat),
 AV.sc (Value.int IntKind.i64 b), AV.sc (Value.int IntKind.i64 e),
 AV.sc (Value.int IntKind.i64 n), AV.sc (Value.int IntKind.i64 r)])
 fid (3 : Nat))) →
 iteP x_2
 (True ∧
 ∀ (x_3 : Bool),
 x_3 =
 endsB
 (cellInt
 (elsIn
 (boxIn g (25 : Nat)
 [AV.sl si (0 : Nat), AV.sl sf (0 : Nat),
 AV.sc (Value.int IntKind.i64 b),
 AV.sc (Value.int IntKind.i64 e),
 AV.sc (Value.int IntKind.i64 n),
 AV.sc (Value.int IntKind.i64 r)])
 g.next (0 : Nat))
 i (0 : Nat)) →
 iteP x_3
 (iteP
 (kdsIn
 (boxIn g (25 : Nat)
 [AV.sl si (0 : Nat), AV.sl sf (0 : Nat),
 AV.sc (Value.int IntKind.i64 b),
 AV.sc (Value.int IntKind.i64 e),
 AV.sc (Value.int IntKind.i64 n),
 AV.sc (Value.int IntKind.i64 r)])
 w (3 : Nat) [Kd.bool])
 (iteP
 (boolIn
 (boxIn g (25 : Nat)
 [AV.sl si (0 : Nat), AV.sl sf (0 : Nat),
 AV.sc (Value.int IntKind.i64 b),
 AV.sc (Value.int IntKind.i64 e),
 AV.sc (Value.int IntKind.i64 n),
 AV.sc (Value.int IntKind.i64 r)])
 w (3 : Nat))
 (iteP
 (okIn
 (boxIn g (25 : Nat)
 [AV.sl si (0 : Nat), AV.sl sf (0 : Nat),
 AV.sc (Value.int IntKind.i64 b),
 AV.sc (Value.int IntKind.i64 e),
 AV.sc (Value.int IntKind.i64 n),
 AV.sc (Value.int IntKind.i64 r)])
 w (3 : Nat) (1 : Nat))
 (K (AV.sc (Value.tuple (Array.mk [])))
 (storeIn
 (boxIn g (25 : Nat)
 [AV.sl si (0 : Nat), AV.sl sf (0 : Nat),
 AV.sc (Value.int IntKind.i64 b),
 AV.sc (Value.int IntKind.i64 e),
 AV.sc (Value.int IntKind.i64 n),
 AV.sc (Value.int IntKind.i64 r)])
 w (3 : Nat) [AV.sc (Value.bool true)]))
 False)
 (iteP
 (cellInt
 (elsIn
 (boxIn g (25 : Nat)
 [AV.sl si (0 : Nat), AV.sl sf (0 : Nat),
 AV.sc (Value.int IntKind.i64 b),
 AV.sc (Value.int IntKind.i64 e),
 AV.sc (Value.int IntKind.i64 n),
 AV.sc (Value.int IntKind.i64 r)])
 g.next (0 : Nat))
 i (0 : Nat) ==
 (48 : Int))
 (iteP
 (decide
 (txtIn
 (boxIn g (25 : Nat)
 [AV.sl si (0 : Nat), AV.sl sf (0 : Nat),
 AV.sc (Value.int IntKind.i64 b),
 AV.sc (Value.int IntKind.i64 e),
 AV.sc (Value.int IntKind.i64 n),
 AV.sc (Value.int IntKind.i64 r)])
 (rIdIn
 (boxIn g (25 : Nat)
 [AV.sl si (0 : Nat), AV.sl sf (0 : Nat),
 AV.sc (Value.int IntKind.i64 b),
 AV.sc (Value.int IntKind.i64 e),
 AV.sc (Value.int IntKind.i64 n),
 AV.sc (Value.int IntKind.i64 r)])
 w (1 : Nat))
 (rOffIn
 (boxIn g (25 : Nat)
 [AV.sl si (0 : Nat), AV.sl sf (0 : Nat),
 AV.sc (Value.int IntKind.i64 b),
 AV.sc (Value.int IntKind.i64 e),
 AV.sc (Value.int IntKind.i64 n),
 AV.sc (Value.int IntKind.i64 r)])
 w (1 : Nat) +
 i.toNat * (1 : Nat)) ≠
 []))
 (iteP
 (okIn
 (boxIn g (25 : Nat)
 [AV.sl si (0 : Nat), AV.sl sf (0 : Nat),
 AV.sc (Value.int IntKind.i64 b),
 AV.sc (Value.int IntKind.i64 e),
 AV.sc (Value.int IntKind.i64 n),
 AV.sc (Value.int IntKind.i64 r)])
 w (3 : Nat) (1 : Nat))
 (K (AV.sc (Value.tuple (Array.mk [])))
 (storeIn
 (boxIn g (25 : Nat)
 [AV.sl si (0 : Nat), AV.sl sf (0 : Nat),
 AV.sc (Value.int IntKind.i64 b),
 AV.sc (Value.int IntKind.i64 e),
 AV.sc (Value.int IntKind.i64 n),
 AV.sc (Value.int IntKind.i64 r)])
 w (3 : Nat) [AV.sc (Value.bool true)]))
 False)
 (iteP
 (okIn
 (boxIn g (25 : Nat)
 [AV.sl si (0 : Nat), AV.sl sf (0 : Nat),
 AV.sc (Value.int IntKind.i64 b),
 AV.sc (Value.int IntKind.i64 e),
 AV.sc (Value.int IntKind.i64 n),
 AV.sc (Value.int IntKind.i64 r)])
 w (3 : Nat) (1 : Nat))
 (K (AV.sc (Value.tuple (Array.mk [])))
 (storeIn
 (boxIn g (25 : Nat)
 [AV.sl si (0 : Nat), AV.sl sf (0 : Nat),
 AV.sc (Value.int IntKind.i64 b),
 AV.sc (Value.int IntKind.i64 e),
 AV.sc (Value.int IntKind.i64 n),
 AV.sc (Value.int IntKind.i64 r)])
 w (3 : Nat) [AV.sc (Value.bool false)]))
 False))
 (iteP
 (cellInt
 (elsIn
 (boxIn g (25 : Nat)
 [AV.sl si (0 : Nat), AV.sl sf (0 : Nat),
 AV.sc (Value.int IntKind.i64 b),
 AV.sc (Value.int IntKind.i64 e),
 AV.sc (Value.int IntKind.i64 n),
 AV.sc (Value.int IntKind.i64 r)])
 g.next (0 : Nat))
 i (0 : Nat) ==
 (49 : Int))
 (iteP
 (decide
 (txtIn
 (boxIn g (25 : Nat)
 [AV.sl si (0 : Nat), AV.sl sf (0 : Nat),
 AV.sc (Value.int IntKind.i64 b),
 AV.sc (Value.int IntKind.i64 e),
 AV.sc (Value.int IntKind.i64 n),
 AV.sc (Value.int IntKind.i64 r)])
 (rIdIn
 (boxIn g (25 : Nat)
 [AV.sl si (0 : Nat), AV.sl sf (0 : Nat),
 AV.sc (Value.int IntKind.i64 b),
 AV.sc (Value.int IntKind.i64 e),
 AV.sc (Value.int IntKind.i64 n),
 AV.sc (Value.int IntKind.i64 r)])
 w (1 : Nat))
 (rOffIn
 (boxIn g (25 : Nat)
 [AV.sl si (0 : Nat), AV.sl sf (0 : Nat),
 AV.sc (Value.int IntKind.i64 b),
 AV.sc (Value.int IntKind.i64 e),
 AV.sc (Value.int IntKind.i64 n),
 AV.sc (Value.int IntKind.i64 r)])
 w (1 : Nat) +
 i.toNat * (1 : Nat)) ≠
 []))
 (iteP
 (okIn
 (boxIn g (25 : Nat)
 [AV.sl si (0 : Nat), AV.sl sf (0 : Nat),
 AV.sc (Value.int IntKind.i64 b),
 AV.sc (Value.int IntKind.i64 e),
 AV.sc (Value.int IntKind.i64 n),
 AV.sc (Value.int IntKind.i64 r)])
 w (3 : Nat) (1 : Nat))
 (K (AV.sc (Value.tuple (Array.mk [])))
 (storeIn
 (boxIn g (25 : Nat)
 [AV.sl si (0 : Nat), AV.sl sf (0 : Nat),
 AV.sc (Value.int IntKind.i64 b),
 AV.sc (Value.int IntKind.i64 e),
 AV.sc (Value.int IntKind.i64 n),
 AV.sc (Value.int IntKind.i64 r)])
 w (3 : Nat) [AV.sc (Value.bool true)]))
 False)
 (iteP
 (okIn
 (boxIn g (25 : Nat)
 [AV.sl si (0 : Nat), AV.sl sf (0 : Nat),
 AV.sc (Value.int IntKind.i64 b),
 AV.sc (Value.int IntKind.i64 e),
 AV.sc (Value.int IntKind.i64 n),
 AV.sc (Value.int IntKind.i64 r)])
 w (3 : Nat) (1 : Nat))
 (K (AV.sc (Value.tuple (Array.mk [])))
 (storeIn
 (boxIn g (25 : Nat)
 [AV.sl si (0 : Nat), AV.sl sf (0 : Nat),
 AV.sc (Value.int IntKind.i64 b),
 AV.sc (Value.int IntKind.i64 e),
 AV.sc (Value.int IntKind.i64 n),
 AV.sc (Value.int IntKind.i64 r)])
 w (3 : Nat) [AV.sc (Value.bool false)]))
 False))
 (iteP
 (okIn
 (boxIn g (25 : Nat)
 [AV.sl si (0 : Nat), AV.sl sf (0 : Nat),
 AV.sc (Value.int IntKind.i64 b),
 AV.sc (Value.int IntKind.i64 e),
 AV.sc (Value.int IntKind.i64 n),
 AV.sc (Value.int IntKind.i64 r)])
 w (3 : Nat) (1 : Nat))
 (K (AV.sc (Value.tuple (Array.mk [])))
 (storeIn
 (boxIn g (25 : Nat)
 [AV.sl si (0 : Nat), AV.sl sf (0 : Nat),
 AV.sc (Value.int IntKind.i64 b),
 AV.sc (Value.int IntKind.i64 e),
 AV.sc (Value.int IntKind.i64 n),
 AV.sc (Value.int IntKind.i64 r)])
 w (3 : Nat) [AV.sc (Value.bool false)]))
 False))))
 False)
 (iteP
 (decide
 ((0 : Int) ≤
 IntKind.i64.wrap
 ((↑(txtIn
 (boxIn g (25 : Nat)
 [AV.sl si (0 : Nat), AV.sl sf (0 : Nat),
 AV.sc (Value.int IntKind.i64 b),
 AV.sc (Value.int IntKind.i64 e),
 AV.sc (Value.int IntKind.i64 n),
 AV.sc (Value.int IntKind.i64 r)])
 (rIdIn
 (boxIn g (25 : Nat)
 [AV.sl si (0 : Nat), AV.sl sf (0 : Nat),
 AV.sc (Value.int IntKind.i64 b),
 AV.sc (Value.int IntKind.i64 e),
 AV.sc (Value.int IntKind.i64 n),
 AV.sc (Value.int IntKind.i64 r)])
 w (1 : Nat))
 (rOffIn
 (boxIn g (25 : Nat)
 [AV.sl si (0 : Nat), AV.sl sf (0 : Nat),
 AV.sc (Value.int IntKind.i64 b),
 AV.sc (Value.int IntKind.i64 e),
 AV.sc (Value.int IntKind.i64 n),
 AV.sc (Value.int IntKind.i64 r)])
 w (1 : Nat) +
 i.toNat * (1 : Nat))).length :
 Int) -
 (↑x.length : Int))) &&
 decide
 (IntKind.i64.wrap
 ((↑(txtIn
 (boxIn g (25 : Nat)
 [AV.sl si (0 : Nat), AV.sl sf (0 : Nat),
 AV.sc (Value.int IntKind.i64 b),
 AV.sc (Value.int IntKind.i64 e),
 AV.sc (Value.int IntKind.i64 n),
 AV.sc (Value.int IntKind.i64 r)])
 (rIdIn
 (boxIn g (25 : Nat)
 [AV.sl si (0 : Nat), AV.sl sf (0 : Nat),
 AV.sc (Value.int IntKind.i64 b),
 AV.sc (Value.int IntKind.i64 e),
 AV.sc (Value.int IntKind.i64 n),
 AV.sc (Value.int IntKind.i64 r)])
 w (1 : Nat))
 (rOffIn
 (boxIn g (25 : Nat)
 [AV.sl si (0 : Nat), AV.sl sf (0 : Nat),
 AV.sc (Value.int IntKind.i64 b),
 AV.sc (Value.int IntKind.i64 e),
 AV.sc (Value.int IntKind.i64 n),
 AV.sc (Value.int IntKind.i64 r)])
 w (1 : Nat) +
 i.toNat * (1 : Nat))).length :
 Int) -
 (↑x.length : Int)) ≤
 (↑(txtIn
 (boxIn g (25 : Nat)
 [AV.sl si (0 : Nat), AV.sl sf (0 : Nat),
 AV.sc (Value.int IntKind.i64 b),
 AV.sc (Value.int IntKind.i64 e),
 AV.sc (Value.int IntKind.i64 n),
 AV.sc (Value.int IntKind.i64 r)])
 (rIdIn
 (boxIn g (25 : Nat)
 [AV.sl si (0 : Nat), AV.sl sf (0 : Nat),
 AV.sc (Value.int IntKind.i64 b),
 AV.sc (Value.int IntKind.i64 e),
 AV.sc (Value.int IntKind.i64 n),
 AV.sc (Value.int IntKind.i64 r)])
 w (1 : Nat))
 (rOffIn
 (boxIn g (25 : Nat)
 [AV.sl si (0 : Nat), AV.sl sf (0 : Nat),
 AV.sc (Value.int IntKind.i64 b),
 AV.sc (Value.int IntKind.i64 e),
 AV.sc (Value.int IntKind.i64 n),
 AV.sc (Value.int IntKind.i64 r)])
 w (1 : Nat) +
 i.toNat * (1 : Nat))).length :
 Int)))
 (((1 : Int) ≤
 cellInt
 (elsIn
 (boxIn g (25 : Nat)
 [AV.sl si (0 : Nat), AV.sl sf (0 : Nat),
 AV.sc (Value.int IntKind.i64 b),
 AV.sc (Value.int IntKind.i64 e),
 AV.sc (Value.int IntKind.i64 n),
 AV.sc (Value.int IntKind.i64 r)])
 g.next (0 : Nat))
 i (0 : Nat) ∧
 cellInt
 (elsIn
 (boxIn g (25 : Nat)
 [AV.sl si (0 : Nat), AV.sl sf (0 : Nat),
 AV.sc (Value.int IntKind.i64 b),
 AV.sc (Value.int IntKind.i64 e),
 AV.sc (Value.int IntKind.i64 n),
 AV.sc (Value.int IntKind.i64 r)])
 g.next (0 : Nat))
 i (0 : Nat) ≤
 (49 : Int)) ∧
 ∀ (x_4 : List UInt8),
 x_4 =
 pushF
 (cellInt
 (elsIn
 (boxIn g (25 : Nat)
 [AV.sl si (0 : Nat), AV.sl sf (0 : Nat),
 AV.sc (Value.int IntKind.i64 b),
 AV.sc (Value.int IntKind.i64 e),
 AV.sc (Value.int IntKind.i64 n),
 AV.sc (Value.int IntKind.i64 r)])
 g.next (0 : Nat))
 i (0 : Nat)) →
 iteP
 (strFits
 (List.take
 (IntKind.i64.wrap
 ((↑(txtIn
 (boxIn g (25 : Nat)
 [AV.sl si (0 : Nat), AV.sl sf (0 : Nat),
 AV.sc (Value.int IntKind.i64 b),
 AV.sc (Value.int IntKind.i64 e),
 AV.sc (Value.int IntKind.i64 n),
 AV.sc (Value.int IntKind.i64 r)])
 (rIdIn
 (boxIn g (25 : Nat)
 [AV.sl si (0 : Nat),
 AV.sl sf (0 : Nat),
 AV.sc (Value.int IntKind.i64 b),
 AV.sc (Value.int IntKind.i64 e),
 AV.sc (Value.int IntKind.i64 n),
 AV.sc (Value.int IntKind.i64 r)])
 w (1 : Nat))
 (rOffIn
 (boxIn g (25 : Nat)
 [AV.sl si (0 : Nat),
 AV.sl sf (0 : Nat),
 AV.sc (Value.int IntKind.i64 b),
 AV.sc (Value.int IntKind.i64 e),
 AV.sc (Value.int IntKind.i64 n),
 AV.sc (Value.int IntKind.i64 r)])
 w (1 : Nat) +
 i.toNat * (1 : Nat))).length :
 Int) -
 (↑x.length : Int))).toNat
 (txtIn
 (boxIn g (25 : Nat)
 [AV.sl si (0 : Nat), AV.sl sf (0 : Nat),
 AV.sc (Value.int IntKind.i64 b),
 AV.sc (Value.int IntKind.i64 e),
 AV.sc (Value.int IntKind.i64 n),
 AV.sc (Value.int IntKind.i64 r)])
 (rIdIn
 (boxIn g (25 : Nat)
 [AV.sl si (0 : Nat), AV.sl sf (0 : Nat),
 AV.sc (Value.int IntKind.i64 b),
 AV.sc (Value.int IntKind.i64 e),
 AV.sc (Value.int IntKind.i64 n),
 AV.sc (Value.int IntKind.i64 r)])
 w (1 : Nat))
 (rOffIn
 (boxIn g (25 : Nat)
 [AV.sl si (0 : Nat), AV.sl sf (0 : Nat),
 AV.sc (Value.int IntKind.i64 b),
 AV.sc (Value.int IntKind.i64 e),
 AV.sc (Value.int IntKind.i64 n),
 AV.sc (Value.int IntKind.i64 r)])
 w (1 : Nat) +
 i.toNat * (1 : Nat))))
 x_4)
 (iteP
 (cellInt
 (elsIn
 (boxIn g (25 : Nat)
 [AV.sl si (0 : Nat), AV.sl sf (0 : Nat),
 AV.sc (Value.int IntKind.i64 b),
 AV.sc (Value.int IntKind.i64 e),
 AV.sc (Value.int IntKind.i64 n),
 AV.sc (Value.int IntKind.i64 r)])
 g.next (0 : Nat))
 i (0 : Nat) ==
 (39 : Int))
 (WIs
 (boxIn g (25 : Nat)
 [AV.sl si (0 : Nat), AV.sl sf (0 : Nat),
 AV.sc (Value.int IntKind.i64 b),
 AV.sc (Value.int IntKind.i64 e),
 AV.sc (Value.int IntKind.i64 n),
 AV.sc (Value.int IntKind.i64 r)])
 w
 (cellInt
 (elsIn
 (boxIn g (25 : Nat)
 [AV.sl si (0 : Nat), AV.sl sf (0 : Nat),
 AV.sc (Value.int IntKind.i64 b),
 AV.sc (Value.int IntKind.i64 e),
 AV.sc (Value.int IntKind.i64 n),
 AV.sc (Value.int IntKind.i64 r)])
 g.next (0 : Nat))
 i (1 : Nat)) ∧
 ∀ (x_5 : Heap),
 ToDone
 (boxIn g (25 : Nat)
 [AV.sl si (0 : Nat), AV.sl sf (0 : Nat),
 AV.sc (Value.int IntKind.i64 b),
 AV.sc (Value.int IntKind.i64 e),
 AV.sc (Value.int IntKind.i64 n),
 AV.sc (Value.int IntKind.i64 r)])
 w
 (cellInt
 (elsIn
 (boxIn g (25 : Nat)
 [AV.sl si (0 : Nat), AV.sl sf (0 : Nat),
 AV.sc (Value.int IntKind.i64 b),
 AV.sc (Value.int IntKind.i64 e),
 AV.sc (Value.int IntKind.i64 n),
 AV.sc (Value.int IntKind.i64 r)])
 g.next (0 : Nat))
 i (1 : Nat))
 (txtIn
 (boxIn g (25 : Nat)
 [AV.sl si (0 : Nat), AV.sl sf (0 : Nat),
 AV.sc (Value.int IntKind.i64 b),
 AV.sc (Value.int IntKind.i64 e),
 AV.sc (Value.int IntKind.i64 n),
 AV.sc (Value.int IntKind.i64 r)])
 (rIdIn
 (boxIn g (25 : Nat)
 [AV.sl si (0 : Nat), AV.sl sf (0 : Nat),
 AV.sc (Value.int IntKind.i64 b),
 AV.sc (Value.int IntKind.i64 e),
 AV.sc (Value.int IntKind.i64 n),
 AV.sc (Value.int IntKind.i64 r)])
 w (1 : Nat))
 (rOffIn
 (boxIn g (25 : Nat)
 [AV.sl si (0 : Nat), AV.sl sf (0 : Nat),
 AV.sc (Value.int IntKind.i64 b),
 AV.sc (Value.int IntKind.i64 e),
 AV.sc (Value.int IntKind.i64 n),
 AV.sc (Value.int IntKind.i64 r)])
 w (1 : Nat) +
 i.toNat * (1 : Nat)))
 x_5 →
 iteP
 (cellInt
 (elsIn
 (boxIn g (25 : Nat)
 [AV.sl si (0 : Nat), AV.sl sf (0 : Nat),
 AV.sc (Value.int IntKind.i64 b),
 AV.sc (Value.int IntKind.i64 e),
 AV.sc (Value.int IntKind.i64 n),
 AV.sc (Value.int IntKind.i64 r)])
 g.next (0 : Nat))
 i (0 : Nat) !=
 (22 : Int))
 (WIs x_5 w (IntKind.i64.wrap (i + (1 : Int))) ∧
 ∀ (x_6 : Heap),
 ToDone x_5 w
 (IntKind.i64.wrap (i + (1 : Int)))
 (List.take
 (IntKind.i64.wrap
 ((↑(txtIn
 (boxIn g (25 : Nat)
 [AV.sl si (0 : Nat),
 AV.sl sf (0 : Nat),
 AV.sc
 (Value.int
 IntKind.i64 b),
 AV.sc
 (Value.int
 IntKind.i64 e),
 AV.sc
 (Value.int
 IntKind.i64 n),
 AV.sc
 (Value.int
 IntKind.i64 r)])
 (rIdIn
 (boxIn g (25 : Nat)
 [AV.sl si (0 : Nat),
 AV.sl sf
 (0 : Nat),
 AV.sc
 (Value.int
 IntKind.i64
 b),
 AV.sc
 (Value.int
 IntKind.i64
 e),
 AV.sc
 (Value.int
 IntKind.i64
 n),
 AV.sc
 (Value.int
 IntKind.i64
 r)])
 w (1 : Nat))
 (rOffIn
 (boxIn g (25 : Nat)
 [AV.sl si
 (0 : Nat),
 AV.sl sf
 (0 : Nat),
 AV.sc
 (Value.int
 IntKind.i64
 b),
 AV.sc
 (Value.int
 IntKind.i64
 e),
 AV.sc
 (Value.int
 IntKind.i64
 n),
 AV.sc
 (Value.int
 IntKind.i64
 r)])
 w (1 : Nat) +
 i.toNat *
 (1 : Nat))).length :
 Int) -
 (↑x.length : Int))).toNat
 (txtIn
 (boxIn g (25 : Nat)
 [AV.sl si (0 : Nat),
 AV.sl sf (0 : Nat),
 AV.sc (Value.int IntKind.i64 b),
 AV.sc (Value.int IntKind.i64 e),
 AV.sc (Value.int IntKind.i64 n),
 AV.sc
 (Value.int IntKind.i64 r)])
 (rIdIn
 (boxIn g (25 : Nat)
 [AV.sl si (0 : Nat),
 AV.sl sf (0 : Nat),
 AV.sc
 (Value.int IntKind.i64 b),
 AV.sc
 (Value.int IntKind.i64 e),
 AV.sc
 (Value.int IntKind.i64 n),
 AV.sc
 (Value.int IntKind.i64 r)])
 w (1 : Nat))
 (rOffIn
 (boxIn g (25 : Nat)
 [AV.sl si (0 : Nat),
 AV.sl sf (0 : Nat),
 AV.sc
 (Value.int IntKind.i64 b),
 AV.sc
 (Value.int IntKind.i64 e),
 AV.sc
 (Value.int IntKind.i64 n),
 AV.sc
 (Value.int IntKind.i64
 r)])
 w (1 : Nat) +
 i.toNat * (1 : Nat))) ++
 x_4)
 x_6 →
 K (AV.sc (Value.tuple (Array.mk []))) x_6)
 (K (AV.sc (Value.tuple (Array.mk []))) x_5))
 (True ∧
 ∀ (x_5 : Bool),
 x_5 =
 targetB
 (cellInt
 (elsIn
 (boxIn g (25 : Nat)
 [AV.sl si (0 : Nat), AV.sl sf (0 : Nat),
 AV.sc (Value.int IntKind.i64 b),
 AV.sc (Value.int IntKind.i64 e),
 AV.sc (Value.int IntKind.i64 n),
 AV.sc (Value.int IntKind.i64 r)])
 g.next (0 : Nat))
 i (0 : Nat)) →
 iteP x_5
 (WIs
 (boxIn g (25 : Nat)
 [AV.sl si (0 : Nat), AV.sl sf (0 : Nat),
 AV.sc (Value.int IntKind.i64 b),
 AV.sc (Value.int IntKind.i64 e),
 AV.sc (Value.int IntKind.i64 n),
 AV.sc (Value.int IntKind.i64 r)])
 w
 (cellInt
 (elsIn
 (boxIn g (25 : Nat)
 [AV.sl si (0 : Nat), AV.sl sf (0 : Nat),
 AV.sc (Value.int IntKind.i64 b),
 AV.sc (Value.int IntKind.i64 e),
 AV.sc (Value.int IntKind.i64 n),
 AV.sc (Value.int IntKind.i64 r)])
 g.next (0 : Nat))
 i (1 : Nat)) ∧
 ∀ (x_6 : Heap),
 ToDone
 (boxIn g (25 : Nat)
 [AV.sl si (0 : Nat), AV.sl sf (0 : Nat),
 AV.sc (Value.int IntKind.i64 b),
 AV.sc (Value.int IntKind.i64 e),
 AV.sc (Value.int IntKind.i64 n),
 AV.sc (Value.int IntKind.i64 r)])
 w
 (cellInt
 (elsIn
 (boxIn g (25 : Nat)
 [AV.sl si (0 : Nat),
 AV.sl sf (0 : Nat),
 AV.sc (Value.int IntKind.i64 b),
 AV.sc (Value.int IntKind.i64 e),
 AV.sc (Value.int IntKind.i64 n),
 AV.sc (Value.int IntKind.i64 r)])
 g.next (0 : Nat))
 i (1 : Nat))
 (List.take
 (IntKind.i64.wrap
 ((↑(txtIn
 (boxIn g (25 : Nat)
 [AV.sl si (0 : Nat),
 AV.sl sf (0 : Nat),
 AV.sc
 (Value.int
 IntKind.i64 b),
 AV.sc
 (Value.int
 IntKind.i64 e),
 AV.sc
 (Value.int
 IntKind.i64 n),
 AV.sc
 (Value.int
 IntKind.i64 r)])
 (rIdIn
 (boxIn g (25 : Nat)
 [AV.sl si (0 : Nat),
 AV.sl sf
 (0 : Nat),
 AV.sc
 (Value.int
 IntKind.i64
 b),
 AV.sc
 (Value.int
 IntKind.i64
 e),
 AV.sc
 (Value.int
 IntKind.i64
 n),
 AV.sc
 (Value.int
 IntKind.i64
 r)])
 w (1 : Nat))
 (rOffIn
 (boxIn g (25 : Nat)
 [AV.sl si
 (0 : Nat),
 AV.sl sf
 (0 : Nat),
 AV.sc
 (Value.int
 IntKind.i64
 b),
 AV.sc
 (Value.int
 IntKind.i64
 e),
 AV.sc
 (Value.int
 IntKind.i64
 n),
 AV.sc
 (Value.int
 IntKind.i64
 r)])
 w (1 : Nat) +
 i.toNat *
 (1 : Nat))).length :
 Int) -
 (↑x.length : Int))).toNat
 (txtIn
 (boxIn g (25 : Nat)
 [AV.sl si (0 : Nat),
 AV.sl sf (0 : Nat),
 AV.sc (Value.int IntKind.i64 b),
 AV.sc (Value.int IntKind.i64 e),
 AV.sc (Value.int IntKind.i64 n),
 AV.sc
 (Value.int IntKind.i64 r)])
 (rIdIn
 (boxIn g (25 : Nat)
 [AV.sl si (0 : Nat),
 AV.sl sf (0 : Nat),
 AV.sc
 (Value.int IntKind.i64 b),
 AV.sc
 (Value.int IntKind.i64 e),
 AV.sc
 (Value.int IntKind.i64 n),
 AV.sc
 (Value.int IntKind.i64 r)])
 w (1 : Nat))
 (rOffIn
 (boxIn g (25 : Nat)
 [AV.sl si (0 : Nat),
 AV.sl sf (0 : Nat),
 AV.sc
 (Value.int IntKind.i64 b),
 AV.sc
 (Value.int IntKind.i64 e),
 AV.sc
 (Value.int IntKind.i64 n),
 AV.sc
 (Value.int IntKind.i64
 r)])
 w (1 : Nat) +
 i.toNat * (1 : Nat))) ++
 x_4)
 x_6 →
 iteP
 (cellInt
 (elsIn
 (boxIn g (25 : Nat)
 [AV.sl si (0 : Nat),
 AV.sl sf (0 : Nat),
 AV.sc (Value.int IntKind.i64 b),
 AV.sc (Value.int IntKind.i64 e),
 AV.sc (Value.int IntKind.i64 n),
 AV.sc
 (Value.int IntKind.i64 r)])
 g.next (0 : Nat))
 i (0 : Nat) !=
 (22 : Int))
 (WIs x_6 w
 (IntKind.i64.wrap (i + (1 : Int))) ∧
 ∀ (x_7 : Heap),
 ToDone x_6 w
 (IntKind.i64.wrap (i + (1 : Int)))
 (List.take
 (IntKind.i64.wrap
 ((↑(txtIn
 (boxIn g
 (25 : Nat)
 [AV.sl si
 (0 : Nat),
 AV.sl sf
 (0 : Nat),
 AV.sc
 (Value.int
 IntKind.i64
 b),
 AV.sc
 (Value.int
 IntKind.i64
 e),
 AV.sc
 (Value.int
 IntKind.i64
 n),
 AV.sc
 (Value.int
 IntKind.i64
 r)])
 (rIdIn
 (boxIn g
 (25 : Nat)
 [AV.sl si
 (0 :
 Nat),
 AV.sl sf
 (0 :
 Nat),
 AV.sc
 (Value.int
 IntKind.i64
 b),
 AV.sc
 (Value.int
 IntKind.i64
 e),
 AV.sc
 (Value.int
 IntKind.i64
 n),
 AV.sc
 (Value.int
 IntKind.i64
 r)])
 w (1 : Nat))
 (rOffIn
 (boxIn g
 (25 : Nat)
 [AV.sl si
 (0 :
 Nat),
 AV.sl sf
 (0 :
 Nat),
 AV.sc
 (Value.int
 IntKind.i64
 b),
 AV.sc
 (Value.int
 IntKind.i64
 e),
 AV.sc
 (Value.int
 IntKind.i64
 n),
 AV.sc
 (Value.int
 IntKind.i64
 r)])
 w
 (1 : Nat) +
 i.toNat *
 (1 :
 Nat))).length :
 Int) -
 (↑x.length :
 Int))).toNat
 (txtIn
 (boxIn g (25 : Nat)
 [AV.sl si (0 : Nat),
 AV.sl sf (0 : Nat),
 AV.sc
 (Value.int IntKind.i64
 b),
 AV.sc
 (Value.int IntKind.i64
 e),
 AV.sc
 (Value.int IntKind.i64
 n),
 AV.sc
 (Value.int IntKind.i64
 r)])
 (rIdIn
 (boxIn g (25 : Nat)
 [AV.sl si (0 : Nat),
 AV.sl sf (0 : Nat),
 AV.sc
 (Value.int
 IntKind.i64 b),
 AV.sc
 (Value.int
 IntKind.i64 e),
 AV.sc
 (Value.int
 IntKind.i64 n),
 AV.sc
 (Value.int
 IntKind.i64 r)])
 w (1 : Nat))
 (rOffIn
 (boxIn g (25 : Nat)
 [AV.sl si (0 : Nat),
 AV.sl sf (0 : Nat),
 AV.sc
 (Value.int
 IntKind.i64 b),
 AV.sc
 (Value.int
 IntKind.i64 e),
 AV.sc
 (Value.int
 IntKind.i64 n),
 AV.sc
 (Value.int
 IntKind.i64 r)])
 w (1 : Nat) +
 i.toNat * (1 : Nat))) ++
 x_4)
 x_7 →
 K
 (AV.sc
 (Value.tuple (Array.mk [])))
 x_7)
 (K (AV.sc (Value.tuple (Array.mk [])))
 x_6))
 (iteP
 (cellInt
 (elsIn
 (boxIn g (25 : Nat)
 [AV.sl si (0 : Nat), AV.sl sf (0 : Nat),
 AV.sc (Value.int IntKind.i64 b),
 AV.sc (Value.int IntKind.i64 e),
 AV.sc (Value.int IntKind.i64 n),
 AV.sc (Value.int IntKind.i64 r)])
 g.next (0 : Nat))
 i (0 : Nat) !=
 (22 : Int))
 (WIs
 (boxIn g (25 : Nat)
 [AV.sl si (0 : Nat), AV.sl sf (0 : Nat),
 AV.sc (Value.int IntKind.i64 b),
 AV.sc (Value.int IntKind.i64 e),
 AV.sc (Value.int IntKind.i64 n),
 AV.sc (Value.int IntKind.i64 r)])
 w (IntKind.i64.wrap (i + (1 : Int))) ∧
 ∀ (x_6 : Heap),
 ToDone
 (boxIn g (25 : Nat)
 [AV.sl si (0 : Nat),
 AV.sl sf (0 : Nat),
 AV.sc (Value.int IntKind.i64 b),
 AV.sc (Value.int IntKind.i64 e),
 AV.sc (Value.int IntKind.i64 n),
 AV.sc (Value.int IntKind.i64 r)])
 w (IntKind.i64.wrap (i + (1 : Int)))
 (List.take
 (IntKind.i64.wrap
 ((↑(txtIn
 (boxIn g (25 : Nat)
 [AV.sl si (0 : Nat),
 AV.sl sf
 (0 : Nat),
 AV.sc
 (Value.int
 IntKind.i64
 b),
 AV.sc
 (Value.int
 IntKind.i64
 e),
 AV.sc
 (Value.int
 IntKind.i64
 n),
 AV.sc
 (Value.int
 IntKind.i64
 r)])
 (rIdIn
 (boxIn g (25 : Nat)
 [AV.sl si
 (0 : Nat),
 AV.sl sf
 (0 : Nat),
 AV.sc
 (Value.int
 IntKind.i64
 b),
 AV.sc
 (Value.int
 IntKind.i64
 e),
 AV.sc
 (Value.int
 IntKind.i64
 n),
 AV.sc
 (Value.int
 IntKind.i64
 r)])
 w (1 : Nat))
 (rOffIn
 (boxIn g
 (25 : Nat)
 [AV.sl si
 (0 : Nat),
 AV.sl sf
 (0 : Nat),
 AV.sc
 (Value.int
 IntKind.i64
 b),
 AV.sc
 (Value.int
 IntKind.i64
 e),
 AV.sc
 (Value.int
 IntKind.i64
 n),
 AV.sc
 (Value.int
 IntKind.i64
 r)])
 w (1 : Nat) +
 i.toNat *
 (1 :
 Nat))).length :
 Int) -
 (↑x.length : Int))).toNat
 (txtIn
 (boxIn g (25 : Nat)
 [AV.sl si (0 : Nat),
 AV.sl sf (0 : Nat),
 AV.sc
 (Value.int IntKind.i64 b),
 AV.sc
 (Value.int IntKind.i64 e),
 AV.sc
 (Value.int IntKind.i64 n),
 AV.sc
 (Value.int IntKind.i64 r)])
 (rIdIn
 (boxIn g (25 : Nat)
 [AV.sl si (0 : Nat),
 AV.sl sf (0 : Nat),
 AV.sc
 (Value.int IntKind.i64 b),
 AV.sc
 (Value.int IntKind.i64 e),
 AV.sc
 (Value.int IntKind.i64 n),
 AV.sc
 (Value.int IntKind.i64
 r)])
 w (1 : Nat))
 (rOffIn
 (boxIn g (25 : Nat)
 [AV.sl si (0 : Nat),
 AV.sl sf (0 : Nat),
 AV.sc
 (Value.int IntKind.i64
 b),
 AV.sc
 (Value.int IntKind.i64
 e),
 AV.sc
 (Value.int IntKind.i64
 n),
 AV.sc
 (Value.int IntKind.i64
 r)])
 w (1 : Nat) +
 i.toNat * (1 : Nat))) ++
 x_4)
 x_6 →
 K (AV.sc (Value.tuple (Array.mk []))) x_6)
 (K (AV.sc (Value.tuple (Array.mk [])))
 (boxIn g (25 : Nat)
 [AV.sl si (0 : Nat), AV.sl sf (0 : Nat),
 AV.sc (Value.int IntKind.i64 b),
 AV.sc (Value.int IntKind.i64 e),
 AV.sc (Value.int IntKind.i64 n),
 AV.sc (Value.int IntKind.i64 r)])))))
 False)
 False))
 (iteP
 (okIn
 (boxIn g (25 : Nat)
 [AV.sl si (0 : Nat), AV.sl sf (0 : Nat),
 AV.sc (Value.int IntKind.i64 b), AV.sc (Value.int IntKind.i64 e),
 AV.sc (Value.int IntKind.i64 n), AV.sc (Value.int IntKind.i64 r)])
 w (3 : Nat) (1 : Nat))
 (K (AV.sc (Value.tuple (Array.mk [])))
 (storeIn
 (boxIn g (25 : Nat)
 [AV.sl si (0 : Nat), AV.sl sf (0 : Nat),
 AV.sc (Value.int IntKind.i64 b), AV.sc (Value.int IntKind.i64 e),
 AV.sc (Value.int IntKind.i64 n), AV.sc (Value.int IntKind.i64 r)])
 w (3 : Nat) [AV.sc (Value.bool true)]))
 False))
 (iteP
 (okIn
 (boxIn g (25 : Nat)
 [AV.sl si (0 : Nat), AV.sl sf (0 : Nat), AV.sc (Value.int IntKind.i64 b),
 AV.sc (Value.int IntKind.i64 e), AV.sc (Value.int IntKind.i64 n),
 AV.sc (Value.int IntKind.i64 r)])
 w (3 : Nat) (1 : Nat))
 (K (AV.sc (Value.tuple (Array.mk [])))
 (storeIn
 (boxIn g (25 : Nat)
 [AV.sl si (0 : Nat), AV.sl sf (0 : Nat), AV.sc (Value.int IntKind.i64 b),
 AV.sc (Value.int IntKind.i64 e), AV.sc (Value.int IntKind.i64 n),
 AV.sc (Value.int IntKind.i64 r)])
 w (3 : Nat) [AV.sc (Value.bool true)]))
 False)))
 False))
 False)
 False)
 False)
 False)
 False)
 False) :
 (fun (M : Int) (si sf : Cells) (b e n r : Int) (w : Nat) (i : Int) (fid : Nat) (g : Heap) (K : AV → Heap → Prop) => wpCall T37 (cfg M) Tryz.prog 100 37 [.ptr w 0, codeA si sf b e n r, iA i, .ptr fid 0] g K) M si sf b e n r w i fid g K :=
 Eq.mp (by kernel_rfl) h
end
end Go.Proofs.Sp.Sj
namespace Go.Proofs.Sp.Sj
open Go Go.Ef Go.Proofs.Pt
noncomputable section
set_option maxRecDepth 100000
theorem v36 (M : Int) (w : Nat) (i : Int) (s : List UInt8) (g : Heap) (K : AV → Heap → Prop) (h :
 iteP (rslIn g w (0 : Nat) (1 : Nat))
 (iteP (decide ((↑(rLenIn g w (0 : Nat)) : Int) ≤ i))
 (iteP (okIn g w (3 : Nat) (1 : Nat))
 (K (AV.sc (Value.tuple (Array.mk []))) (storeIn g w (3 : Nat) [AV.sc (Value.bool true)])) False)
 (iteP (rslIn g w (0 : Nat) (1 : Nat))
 (iteP (inRange i (rLenIn g w (0 : Nat)))
 (iteP (kdsIn g (rIdIn g w (0 : Nat)) (rOffIn g w (0 : Nat) + i.toNat * (1 : Nat)) [Kd.bool])
 (iteP (boolIn g (rIdIn g w (0 : Nat)) (rOffIn g w (0 : Nat) + i.toNat * (1 : Nat)))
 (iteP (rslIn g w (1 : Nat) (1 : Nat))
 (iteP (inRange i (rLenIn g w (1 : Nat)))
 (iteP (kdsIn g (rIdIn g w (1 : Nat)) (rOffIn g w (1 : Nat) + i.toNat * (1 : Nat)) [Kd.str])
 (iteP (decide (txtIn g (rIdIn g w (1 : Nat)) (rOffIn g w (1 : Nat) + i.toNat * (1 : Nat)) ≠ s))
 (iteP (okIn g w (3 : Nat) (1 : Nat))
 (K (AV.sc (Value.tuple (Array.mk []))) (storeIn g w (3 : Nat) [AV.sc (Value.bool true)])) False)
 (iteP (rslIn g w (0 : Nat) (1 : Nat))
 (iteP (inRange i (rLenIn g w (0 : Nat)))
 (iteP (kdsIn g (rIdIn g w (0 : Nat)) (rOffIn g w (0 : Nat) + i.toNat * (1 : Nat)) [Kd.bool])
 (iteP (boolIn g (rIdIn g w (0 : Nat)) (rOffIn g w (0 : Nat) + i.toNat * (1 : Nat)))
 (K (AV.sc (Value.tuple (Array.mk []))) g)
 (iteP (rslIn g w (0 : Nat) (1 : Nat))
 (iteP (inRange i (rLenIn g w (0 : Nat)))
 (iteP
 (okIn g (rIdIn g w (0 : Nat)) (rOffIn g w (0 : Nat) + i.toNat * (1 : Nat)) (1 : Nat))
 (iteP
 (rslIn
 (storeIn g (rIdIn g w (0 : Nat)) (rOffIn g w (0 : Nat) + i.toNat * (1 : Nat))
 [AV.sc (Value.bool true)])
 w (1 : Nat) (1 : Nat))
 (iteP
 (inRange i
 (rLenIn
 (storeIn g (rIdIn g w (0 : Nat)) (rOffIn g w (0 : Nat) + i.toNat * (1 : Nat))
 [AV.sc (Value.bool true)])
 w (1 : Nat)))
 (iteP
 (okIn
 (storeIn g (rIdIn g w (0 : Nat)) (rOffIn g w (0 : Nat) + i.toNat * (1 : Nat))
 [AV.sc (Value.bool true)])
 (rIdIn
 (storeIn g (rIdIn g w (0 : Nat))
 (rOffIn g w (0 : Nat) + i.toNat * (1 : Nat)) [AV.sc (Value.bool true)])
 w (1 : Nat))
 (rOffIn
 (storeIn g (rIdIn g w (0 : Nat))
 (rOffIn g w (0 : Nat) + i.toNat * (1 : Nat)) [AV.sc (Value.bool true)])
 w (1 : Nat) +
 i.toNat * (1 : Nat))
 [AV.sc (Value.string (ByteArray.mk (Array.mk s)))].length)
 (iteP
 (nilIn
 (storeIn
 (storeIn g (rIdIn g w (0 : Nat))
 (rOffIn g w (0 : Nat) + i.toNat * (1 : Nat)) [AV.sc (Value.bool true)])
 (rIdIn
 (storeIn g (rIdIn g w (0 : Nat))
 (rOffIn g w (0 : Nat) + i.toNat * (1 : Nat))
 [AV.sc (Value.bool true)])
 w (1 : Nat))
 (rOffIn
 (storeIn g (rIdIn g w (0 : Nat))
 (rOffIn g w (0 : Nat) + i.toNat * (1 : Nat))
 [AV.sc (Value.bool true)])
 w (1 : Nat) +
 i.toNat * (1 : Nat))
 [AV.sc (Value.string (ByteArray.mk (Array.mk s)))])
 w (2 : Nat))
 (iteP
 (okIn
 (newIn
 (storeIn
 (storeIn g (rIdIn g w (0 : Nat))
 (rOffIn g w (0 : Nat) + i.toNat * (1 : Nat))
 [AV.sc (Value.bool true)])
 (rIdIn
 (storeIn g (rIdIn g w (0 : Nat))
 (rOffIn g w (0 : Nat) + i.toNat * (1 : Nat))
 [AV.sc (Value.bool true)])
 w (1 : Nat))
 (rOffIn
 (storeIn g (rIdIn g w (0 : Nat))
 (rOffIn g w (0 : Nat) + i.toNat * (1 : Nat))
 [AV.sc (Value.bool true)])
 w (1 : Nat) +
 i.toNat * (1 : Nat))
 [AV.sc (Value.string (ByteArray.mk (Array.mk s)))])
 (AObj.cells [AV.sc (Value.int IntKind.i64 i)]))
 w (2 : Nat)
 [AV.rsl
 (storeIn
 (storeIn g (rIdIn g w (0 : Nat))
 (rOffIn g w (0 : Nat) + i.toNat * (1 : Nat))
 [AV.sc (Value.bool true)])
 (rIdIn
 (storeIn g (rIdIn g w (0 : Nat))
 (rOffIn g w (0 : Nat) + i.toNat * (1 : Nat))
 [AV.sc (Value.bool true)])
 w (1 : Nat))
 (rOffIn
 (storeIn g (rIdIn g w (0 : Nat))
 (rOffIn g w (0 : Nat) + i.toNat * (1 : Nat))
 [AV.sc (Value.bool true)])
 w (1 : Nat) +
 i.toNat * (1 : Nat))
 [AV.sc (Value.string (ByteArray.mk (Array.mk s)))]).next
 (0 : Nat) [[AV.sc (Value.int IntKind.i64 i)]].length
 (1 : Nat)].length)
 (K (AV.sc (Value.tuple (Array.mk [])))
 (storeIn
 (newIn
 (storeIn
 (storeIn g (rIdIn g w (0 : Nat))
 (rOffIn g w (0 : Nat) + i.toNat * (1 : Nat))
 [AV.sc (Value.bool true)])
 (rIdIn
 (storeIn g (rIdIn g w (0 : Nat))
 (rOffIn g w (0 : Nat) + i.toNat * (1 : Nat))
 [AV.sc (Value.bool true)])
 w (1 : Nat))
 (rOffIn
 (storeIn g (rIdIn g w (0 : Nat))
 (rOffIn g w (0 : Nat) + i.toNat * (1 : Nat))
 [AV.sc (Value.bool true)])
 w (1 : Nat) +
 i.toNat * (1 : Nat))
 [AV.sc (Value.string (ByteArray.mk (Array.mk s)))])
 (AObj.cells [AV.sc (Value.int IntKind.i64 i)]))
 w (2 : Nat)
 [AV.rsl
 (storeIn
 (storeIn g (rIdIn g w (0 : Nat))
 (rOffIn g w (0 : Nat) + i.toNat * (1 : Nat))
 [AV.sc (Value.bool true)])
 (rIdIn
 (storeIn g (rIdIn g w (0 : Nat))
 (rOffIn g w (0 : Nat) + i.toNat * (1 : Nat))
 [AV.sc (Value.bool true)])
 w (1 : Nat))
 (rOffIn
 (storeIn g (rIdIn g w (0 : Nat))
 (rOffIn g w (0 : Nat) + i.toNat * (1 : Nat))
 [AV.sc (Value.bool true)])
 w (1 : Nat) +
 i.toNat * (1 : Nat))
 [AV.sc (Value.string (ByteArray.mk (Array.mk s)))]).next
 (0 : Nat) [[AV.sc (Value.int IntKind.i64 i)]].length (1 : Nat)]))
 False)
 (iteP
 (rslIn
 (storeIn
 (storeIn g (rIdIn g w (0 : Nat))
 (rOffIn g w (0 : Nat) + i.toNat * (1 : Nat))
 [AV.sc (Value.bool true)])
 (rIdIn
 (storeIn g (rIdIn g w (0 : Nat))
 (rOffIn g w (0 : Nat) + i.toNat * (1 : Nat))
 [AV.sc (Value.bool true)])
 w (1 : Nat))
 (rOffIn
 (storeIn g (rIdIn g w (0 : Nat))
 (rOffIn g w (0 : Nat) + i.toNat * (1 : Nat))
 [AV.sc (Value.bool true)])
 w (1 : Nat) +
 i.toNat * (1 : Nat))
 [AV.sc (Value.string (ByteArray.mk (Array.mk s)))])
 w (2 : Nat) (1 : Nat))
 (iteP
 (fits
 (rLenIn
 (storeIn
 (storeIn g (rIdIn g w (0 : Nat))
 (rOffIn g w (0 : Nat) + i.toNat * (1 : Nat))
 [AV.sc (Value.bool true)])
 (rIdIn
 (storeIn g (rIdIn g w (0 : Nat))
 (rOffIn g w (0 : Nat) + i.toNat * (1 : Nat))
 [AV.sc (Value.bool true)])
 w (1 : Nat))
 (rOffIn
 (storeIn g (rIdIn g w (0 : Nat))
 (rOffIn g w (0 : Nat) + i.toNat * (1 : Nat))
 [AV.sc (Value.bool true)])
 w (1 : Nat) +
 i.toNat * (1 : Nat))
 [AV.sc (Value.string (ByteArray.mk (Array.mk s)))])
 w (2 : Nat) +
 [[AV.sc (Value.int IntKind.i64 i)]].length)
 (8 : Nat) &&
 appOk
 (storeIn
 (storeIn g (rIdIn g w (0 : Nat))
 (rOffIn g w (0 : Nat) + i.toNat * (1 : Nat))
 [AV.sc (Value.bool true)])
 (rIdIn
 (storeIn g (rIdIn g w (0 : Nat))
 (rOffIn g w (0 : Nat) + i.toNat * (1 : Nat))
 [AV.sc (Value.bool true)])
 w (1 : Nat))
 (rOffIn
 (storeIn g (rIdIn g w (0 : Nat))
 (rOffIn g w (0 : Nat) + i.toNat * (1 : Nat))
 [AV.sc (Value.bool true)])
 w (1 : Nat) +
 i.toNat * (1 : Nat))
 [AV.sc (Value.string (ByteArray.mk (Array.mk s)))])
 (rIdIn
 (storeIn
 (storeIn g (rIdIn g w (0 : Nat))
 (rOffIn g w (0 : Nat) + i.toNat * (1 : Nat))
 [AV.sc (Value.bool true)])
 (rIdIn
 (storeIn g (rIdIn g w (0 : Nat))
 (rOffIn g w (0 : Nat) + i.toNat * (1 : Nat))
 [AV.sc (Value.bool true)])
 w (1 : Nat))
 (rOffIn
 (storeIn g (rIdIn g w (0 : Nat))
 (rOffIn g w (0 : Nat) + i.toNat * (1 : Nat))
 [AV.sc (Value.bool true)])
 w (1 : Nat) +
 i.toNat * (1 : Nat))
 [AV.sc (Value.string (ByteArray.mk (Array.mk s)))])
 w (2 : Nat))
 (rOffIn
 (storeIn
 (storeIn g (rIdIn g w (0 : Nat))
 (rOffIn g w (0 : Nat) + i.toNat * (1 : Nat))
 [AV.sc (Value.bool true)])
 (rIdIn
 (storeIn g (rIdIn g w (0 : Nat))
 (rOffIn g w (0 : Nat) + i.toNat * (1 : Nat))
 [AV.sc (Value.bool true)])
 w (1 : Nat))
 (rOffIn
 (storeIn g (rIdIn g w (0 : Nat))
 (rOffIn g w (0 : Nat) + i.toNat * (1 : Nat))
 [AV.sc (Value.bool true)])
 w (1 : Nat) +
 i.toNat * (1 : Nat))
 [AV.sc (Value.string (ByteArray.mk (Array.mk s)))])
 w (2 : Nat))
 (rLenIn
 (storeIn
 (storeIn g (rIdIn g w (0 : Nat))
 (rOffIn g w (0 : Nat) + i.toNat * (1 : Nat))
 [AV.sc (Value.bool true)])
 (rIdIn
 (storeIn g (rIdIn g w (0 : Nat))
 (rOffIn g w (0 : Nat) + i.toNat * (1 : Nat))
 [AV.sc (Value.bool true)])
 w (1 : Nat))
 (rOffIn
 (storeIn g (rIdIn g w (0 : Nat))
 (rOffIn g w (0 : Nat) + i.toNat * (1 : Nat))
 [AV.sc (Value.bool true)])
 w (1 : Nat) +
 i.toNat * (1 : Nat))
 [AV.sc (Value.string (ByteArray.mk (Array.mk s)))])
 w (2 : Nat) *
 (1 : Nat)))
 (iteP
 (okIn
 (appIn
 (storeIn
 (storeIn g (rIdIn g w (0 : Nat))
 (rOffIn g w (0 : Nat) + i.toNat * (1 : Nat))
 [AV.sc (Value.bool true)])
 (rIdIn
 (storeIn g (rIdIn g w (0 : Nat))
 (rOffIn g w (0 : Nat) + i.toNat * (1 : Nat))
 [AV.sc (Value.bool true)])
 w (1 : Nat))
 (rOffIn
 (storeIn g (rIdIn g w (0 : Nat))
 (rOffIn g w (0 : Nat) + i.toNat * (1 : Nat))
 [AV.sc (Value.bool true)])
 w (1 : Nat) +
 i.toNat * (1 : Nat))
 [AV.sc (Value.string (ByteArray.mk (Array.mk s)))])
 (rIdIn
 (storeIn
 (storeIn g (rIdIn g w (0 : Nat))
 (rOffIn g w (0 : Nat) + i.toNat * (1 : Nat))
 [AV.sc (Value.bool true)])
 (rIdIn
 (storeIn g (rIdIn g w (0 : Nat))
 (rOffIn g w (0 : Nat) + i.toNat * (1 : Nat))
 [AV.sc (Value.bool true)])
 w (1 : Nat))
 (rOffIn
 (storeIn g (rIdIn g w (0 : Nat))
 (rOffIn g w (0 : Nat) + i.toNat * (1 : Nat))
 [AV.sc (Value.bool true)])
 w (1 : Nat) +
 i.toNat * (1 : Nat))
 [AV.sc (Value.string (ByteArray.mk (Array.mk s)))])
 w (2 : Nat))
 (rOffIn
 (storeIn
 (storeIn g (rIdIn g w (0 : Nat))
 (rOffIn g w (0 : Nat) + i.toNat * (1 : Nat))
 [AV.sc (Value.bool true)])
 (rIdIn
 (storeIn g (rIdIn g w (0 : Nat))
 (rOffIn g w (0 : Nat) + i.toNat * (1 : Nat))
 [AV.sc (Value.bool true)])
 w (1 : Nat))
 (rOffIn
 (storeIn g (rIdIn g w (0 : Nat))
 (rOffIn g w (0 : Nat) + i.toNat * (1 : Nat))
 [AV.sc (Value.bool true)])
 w (1 : Nat) +
 i.toNat * (1 : Nat))
 [AV.sc (Value.string (ByteArray.mk (Array.mk s)))])
 w (2 : Nat))
 (rLenIn
 (storeIn
 (storeIn g (rIdIn g w (0 : Nat))
 (rOffIn g w (0 : Nat) + i.toNat * (1 : Nat))
 [AV.sc (Value.bool true)])
 (rIdIn
 (storeIn g (rIdIn g w (0 : Nat))
 (rOffIn g w (0 : Nat) + i.toNat * (1 : Nat))
 [AV.sc (Value.bool true)])
 w (1 : Nat))
 (rOffIn
 (storeIn g (rIdIn g w (0 : Nat))
 (rOffIn g w (0 : Nat) + i.toNat * (1 : Nat))
 [AV.sc (Value.bool true)])
 w (1 : Nat) +
 i.toNat * (1 : Nat))
 [AV.sc (Value.string (ByteArray.mk (Array.mk s)))])
 w (2 : Nat) *
 (1 : Nat))
 [[AV.sc (Value.int IntKind.i64 i)]])
 w (2 : Nat)
 [AV.rsl
 (storeIn
 (storeIn g (rIdIn g w (0 : Nat))
 (rOffIn g w (0 : Nat) + i.toNat * (1 : Nat))
 [AV.sc (Value.bool true)])
 (rIdIn
 (storeIn g (rIdIn g w (0 : Nat))
 (rOffIn g w (0 : Nat) + i.toNat * (1 : Nat))
 [AV.sc (Value.bool true)])
 w (1 : Nat))
 (rOffIn
 (storeIn g (rIdIn g w (0 : Nat))
 (rOffIn g w (0 : Nat) + i.toNat * (1 : Nat))
 [AV.sc (Value.bool true)])
 w (1 : Nat) +
 i.toNat * (1 : Nat))
 [AV.sc (Value.string (ByteArray.mk (Array.mk s)))]).next
 (0 : Nat)
 (rLenIn
 (storeIn
 (storeIn g (rIdIn g w (0 : Nat))
 (rOffIn g w (0 : Nat) + i.toNat * (1 : Nat))
 [AV.sc (Value.bool true)])
 (rIdIn
 (storeIn g (rIdIn g w (0 : Nat))
 (rOffIn g w (0 : Nat) + i.toNat * (1 : Nat))
 [AV.sc (Value.bool true)])
 w (1 : Nat))
 (rOffIn
 (storeIn g (rIdIn g w (0 : Nat))
 (rOffIn g w (0 : Nat) + i.toNat * (1 : Nat))
 [AV.sc (Value.bool true)])
 w (1 : Nat) +
 i.toNat * (1 : Nat))
 [AV.sc (Value.string (ByteArray.mk (Array.mk s)))])
 w (2 : Nat) +
 [[AV.sc (Value.int IntKind.i64 i)]].length)
 (1 : Nat)].length)
 (K (AV.sc (Value.tuple (Array.mk [])))
 (storeIn
 (appIn
 (storeIn
 (storeIn g (rIdIn g w (0 : Nat))
 (rOffIn g w (0 : Nat) + i.toNat * (1 : Nat))
 [AV.sc (Value.bool true)])
 (rIdIn
 (storeIn g (rIdIn g w (0 : Nat))
 (rOffIn g w (0 : Nat) + i.toNat * (1 : Nat))
 [AV.sc (Value.bool true)])
 w (1 : Nat))
 (rOffIn
 (storeIn g (rIdIn g w (0 : Nat))
 (rOffIn g w (0 : Nat) + i.toNat * (1 : Nat))
 [AV.sc (Value.bool true)])
 w (1 : Nat) +
 i.toNat * (1 : Nat))
 [AV.sc (Value.string (ByteArray.mk (Array.mk s)))])
 (rIdIn
 (storeIn
 (storeIn g (rIdIn g w (0 : Nat))
 (rOffIn g w (0 : Nat) + i.toNat * (1 : Nat))
 [AV.sc (Value.bool true)])
 (rIdIn
 (storeIn g (rIdIn g w (0 : Nat))
 (rOffIn g w (0 : Nat) + i.toNat * (1 : Nat))
 [AV.sc (Value.bool true)])
 w (1 : Nat))
 (rOffIn
 (storeIn g (rIdIn g w (0 : Nat))
 (rOffIn g w (0 : Nat) + i.toNat * (1 : Nat))
 [AV.sc (Value.bool true)])
 w (1 : Nat) +
 i.toNat * (1 : Nat))
 [AV.sc (Value.string (ByteArray.mk (Array.mk s)))])
 w (2 : Nat))
 (rOffIn
 (storeIn
 (storeIn g (rIdIn g w (0 : Nat))
 (rOffIn g w (0 : Nat) + i.toNat * (1 : Nat))
 [AV.sc (Value.bool true)])
 (rIdIn
 (storeIn g (rIdIn g w (0 : Nat))
 (rOffIn g w (0 : Nat) + i.toNat * (1 : Nat))
 [AV.sc (Value.bool true)])
 w (1 : Nat))
 (rOffIn
 (storeIn g (rIdIn g w (0 : Nat))
 (rOffIn g w (0 : Nat) + i.toNat * (1 : Nat))
 [AV.sc (Value.bool true)])
 w (1 : Nat) +
 i.toNat * (1 : Nat))
 [AV.sc (Value.string (ByteArray.mk (Array.mk s)))])
 w (2 : Nat))
 (rLenIn
 (storeIn
 (storeIn g (rIdIn g w (0 : Nat))
 (rOffIn g w (0 : Nat) + i.toNat * (1 : Nat))
 [AV.sc (Value.bool true)])
 (rIdIn
 (storeIn g (rIdIn g w (0 : Nat))
 (rOffIn g w (0 : Nat) + i.toNat * (1 : Nat))
 [AV.sc (Value.bool true)])
 w (1 : Nat))
 (rOffIn
 (storeIn g (rIdIn g w (0 : Nat))
 (rOffIn g w (0 : Nat) + i.toNat * (1 : Nat))
 [AV.sc (Value.bool true)])
 w (1 : Nat) +
 i.toNat * (1 : Nat))
 [AV.sc (Value.string (ByteArray.mk (Array.mk s)))])
 w (2 : Nat) *
 (1 : Nat))
 [[AV.sc (Value.int IntKind.i64 i)]])
 w (2 : Nat)
 [AV.rsl
 (storeIn
 (storeIn g (rIdIn g w (0 : Nat))
 (rOffIn g w (0 : Nat) + i.toNat * (1 : Nat))
 [AV.sc (Value.bool true)])
 (rIdIn
 (storeIn g (rIdIn g w (0 : Nat))
 (rOffIn g w (0 : Nat) + i.toNat * (1 : Nat))
 [AV.sc (Value.bool true)])
 w (1 : Nat))
 (rOffIn
 (storeIn g (rIdIn g w (0 : Nat))
 (rOffIn g w (0 : Nat) + i.toNat * (1 : Nat))
 [AV.sc (Value.bool true)])
 w (1 : Nat) +
 i.toNat * (1 : Nat))
 [AV.sc (Value.string (ByteArray.mk (Array.mk s)))]).next
 (0 : Nat)
 (rLenIn
 (storeIn
 (storeIn g (rIdIn g w (0 : Nat))
 (rOffIn g w (0 : Nat) + i.toNat * (1 : Nat))
 [AV.sc (Value.bool true)])
 (rIdIn
 (storeIn g (rIdIn g w (0 : Nat))
 (rOffIn g w (0 : Nat) + i.toNat * (1 : Nat))
 [AV.sc (Value.bool true)])
 w (1 : Nat))
 (rOffIn
 (storeIn g (rIdIn g w (0 : Nat))
 (rOffIn g w (0 : Nat) + i.toNat * (1 : Nat))
 [AV.sc (Value.bool true)])
 w (1 : Nat) +
 i.toNat * (1 : Nat))
 [AV.sc (Value.string (ByteArray.mk (Array.mk s)))])
 w (2 : Nat) +
 [[AV.sc (Value.int IntKind.i64 i)]].length)
 (1 : Nat)]))
 False)
 False)
 False))
 False)
 False)
 False)
 False)
 False)
 False))
 False)
 False)
 False))
 False)
 False)
 False)
 (iteP (rslIn g w (0 : Nat) (1 : Nat))
 (iteP (inRange i (rLenIn g w (0 : Nat)))
 (iteP (kdsIn g (rIdIn g w (0 : Nat)) (rOffIn g w (0 : Nat) + i.toNat * (1 : Nat)) [Kd.bool])
 (iteP (boolIn g (rIdIn g w (0 : Nat)) (rOffIn g w (0 : Nat) + i.toNat * (1 : Nat)))
 (K (AV.sc (Value.tuple (Array.mk []))) g)
 (iteP (rslIn g w (0 : Nat) (1 : Nat))
 (iteP (inRange i (rLenIn g w (0 : Nat)))
 (iteP (okIn g (rIdIn g w (0 : Nat)) (rOffIn g w (0 : Nat) + i.toNat * (1 : Nat)) (1 : Nat))
 (iteP
 (rslIn
 (storeIn g (rIdIn g w (0 : Nat)) (rOffIn g w (0 : Nat) + i.toNat * (1 : Nat))
 [AV.sc (Value.bool true)])
 w (1 : Nat) (1 : Nat))
 (iteP
 (inRange i
 (rLenIn
 (storeIn g (rIdIn g w (0 : Nat)) (rOffIn g w (0 : Nat) + i.toNat * (1 : Nat))
 [AV.sc (Value.bool true)])
 w (1 : Nat)))
 (iteP
 (okIn
 (storeIn g (rIdIn g w (0 : Nat)) (rOffIn g w (0 : Nat) + i.toNat * (1 : Nat))
 [AV.sc (Value.bool true)])
 (rIdIn
 (storeIn g (rIdIn g w (0 : Nat)) (rOffIn g w (0 : Nat) + i.toNat * (1 : Nat))
 [AV.sc (Value.bool true)])
 w (1 : Nat))
 (rOffIn
 (storeIn g (rIdIn g w (0 : Nat)) (rOffIn g w (0 : Nat) + i.toNat * (1 : Nat))
 [AV.sc (Value.bool true)])
 w (1 : Nat) +
 i.toNat * (1 : Nat))
 [AV.sc (Value.string (ByteArray.mk (Array.mk s)))].length)
 (iteP
 (nilIn
 (storeIn
 (storeIn g (rIdIn g w (0 : Nat)) (rOffIn g w (0 : Nat) + i.toNat * (1 : Nat))
 [AV.sc (Value.bool true)])
 (rIdIn
 (storeIn g (rIdIn g w (0 : Nat)) (rOffIn g w (0 : Nat) + i.toNat * (1 : Nat))
 [AV.sc (Value.bool true)])
 w (1 : Nat))
 (rOffIn
 (storeIn g (rIdIn g w (0 : Nat)) (rOffIn g w (0 : Nat) + i.toNat * (1 : Nat))
 [AV.sc (Value.bool true)])
 w (1 : Nat) +
 i.toNat * (1 : Nat))
 [AV.sc (Value.string (ByteArray.mk (Array.mk s)))])
 w (2 : Nat))
 (iteP
 (okIn
 (newIn
 (storeIn
 (storeIn g (rIdIn g w (0 : Nat)) (rOffIn g w (0 : Nat) + i.toNat * (1 : Nat))
 [AV.sc (Value.bool true)])
 (rIdIn
 (storeIn g (rIdIn g w (0 : Nat))
 (rOffIn g w (0 : Nat) + i.toNat * (1 : Nat)) [AV.sc (Value.bool true)])
 w (1 : Nat))
 (rOffIn
 (storeIn g (rIdIn g w (0 : Nat))
 (rOffIn g w (0 : Nat) + i.toNat * (1 : Nat)) [AV.sc (Value.bool true)])
 w (1 : Nat) +
 i.toNat * (1 : Nat))
 [AV.sc (Value.string (ByteArray.mk (Array.mk s)))])
 (AObj.cells [AV.sc (Value.int IntKind.i64 i)]))
 w (2 : Nat)
 [AV.rsl
 (storeIn
 (storeIn g (rIdIn g w (0 : Nat))
 (rOffIn g w (0 : Nat) + i.toNat * (1 : Nat))
 [AV.sc (Value.bool true)])
 (rIdIn
 (storeIn g (rIdIn g w (0 : Nat))
 (rOffIn g w (0 : Nat) + i.toNat * (1 : Nat))
 [AV.sc (Value.bool true)])
 w (1 : Nat))
 (rOffIn
 (storeIn g (rIdIn g w (0 : Nat))
 (rOffIn g w (0 : Nat) + i.toNat * (1 : Nat))
 [AV.sc (Value.bool true)])
 w (1 : Nat) +
 i.toNat * (1 : Nat))
 [AV.sc (Value.string (ByteArray.mk (Array.mk s)))]).next
 (0 : Nat) [[AV.sc (Value.int IntKind.i64 i)]].length (1 : Nat)].length)
 (K (AV.sc (Value.tuple (Array.mk [])))
 (storeIn
 (newIn
 (storeIn
 (storeIn g (rIdIn g w (0 : Nat))
 (rOffIn g w (0 : Nat) + i.toNat * (1 : Nat)) [AV.sc (Value.bool true)])
 (rIdIn
 (storeIn g (rIdIn g w (0 : Nat))
 (rOffIn g w (0 : Nat) + i.toNat * (1 : Nat)) [AV.sc (Value.bool true)])
 w (1 : Nat))
 (rOffIn
 (storeIn g (rIdIn g w (0 : Nat))
 (rOffIn g w (0 : Nat) + i.toNat * (1 : Nat))
 [AV.sc (Value.bool true)])
 w (1 : Nat) +
 i.toNat * (1 : Nat))
 [AV.sc (Value.string (ByteArray.mk (Array.mk s)))])
 (AObj.cells [AV.sc (Value.int IntKind.i64 i)]))
 w (2 : Nat)
 [AV.rsl
 (storeIn
 (storeIn g (rIdIn g w (0 : Nat))
 (rOffIn g w (0 : Nat) + i.toNat * (1 : Nat))
 [AV.sc (Value.bool true)])
 (rIdIn
 (storeIn g (rIdIn g w (0 : Nat))
 (rOffIn g w (0 : Nat) + i.toNat * (1 : Nat))
 [AV.sc (Value.bool true)])
 w (1 : Nat))
 (rOffIn
 (storeIn g (rIdIn g w (0 : Nat))
 (rOffIn g w (0 : Nat) + i.toNat * (1 : Nat))
 [AV.sc (Value.bool true)])
 w (1 : Nat) +
 i.toNat * (1 : Nat))
 [AV.sc (Value.string (ByteArray.mk (Array.mk s)))]).next
 (0 : Nat) [[AV.sc (Value.int IntKind.i64 i)]].length (1 : Nat)]))
 False)
 (iteP
 (rslIn
 (storeIn
 (storeIn g (rIdIn g w (0 : Nat)) (rOffIn g w (0 : Nat) + i.toNat * (1 : Nat))
 [AV.sc (Value.bool true)])
 (rIdIn
 (storeIn g (rIdIn g w (0 : Nat)) (rOffIn g w (0 : Nat) + i.toNat * (1 : Nat))
 [AV.sc (Value.bool true)])
 w (1 : Nat))
 (rOffIn
 (storeIn g (rIdIn g w (0 : Nat))
 (rOffIn g w (0 : Nat) + i.toNat * (1 : Nat)) [AV.sc (Value.bool true)])
 w (1 : Nat) +
 i.toNat * (1 : Nat))
 [AV.sc (Value.string (ByteArray.mk (Array.mk s)))])
 w (2 : Nat) (1 : Nat))
 (iteP
 (fits
 (rLenIn
 (storeIn
 (storeIn g (rIdIn g w (0 : Nat))
 (rOffIn g w (0 : Nat) + i.toNat * (1 : Nat))
 [AV.sc (Value.bool true)])
 (rIdIn
 (storeIn g (rIdIn g w (0 : Nat))
 (rOffIn g w (0 : Nat) + i.toNat * (1 : Nat))
 [AV.sc (Value.bool true)])
 w (1 : Nat))
 (rOffIn
 (storeIn g (rIdIn g w (0 : Nat))
 (rOffIn g w (0 : Nat) + i.toNat * (1 : Nat))
 [AV.sc (Value.bool true)])
 w (1 : Nat) +
 i.toNat * (1 : Nat))
 [AV.sc (Value.string (ByteArray.mk (Array.mk s)))])
 w (2 : Nat) +
 [[AV.sc (Value.int IntKind.i64 i)]].length)
 (8 : Nat) &&
 appOk
 (storeIn
 (storeIn g (rIdIn g w (0 : Nat))
 (rOffIn g w (0 : Nat) + i.toNat * (1 : Nat)) [AV.sc (Value.bool true)])
 (rIdIn
 (storeIn g (rIdIn g w (0 : Nat))
 (rOffIn g w (0 : Nat) + i.toNat * (1 : Nat)) [AV.sc (Value.bool true)])
 w (1 : Nat))
 (rOffIn
 (storeIn g (rIdIn g w (0 : Nat))
 (rOffIn g w (0 : Nat) + i.toNat * (1 : Nat))
 [AV.sc (Value.bool true)])
 w (1 : Nat) +
 i.toNat * (1 : Nat))
 [AV.sc (Value.string (ByteArray.mk (Array.mk s)))])
 (rIdIn
 (storeIn
 (storeIn g (rIdIn g w (0 : Nat))
 (rOffIn g w (0 : Nat) + i.toNat * (1 : Nat)) [AV.sc (Value.bool true)])
 (rIdIn
 (storeIn g (rIdIn g w (0 : Nat))
 (rOffIn g w (0 : Nat) + i.toNat * (1 : Nat))
 [AV.sc (Value.bool true)])
 w (1 : Nat))
 (rOffIn
 (storeIn g (rIdIn g w (0 : Nat))
 (rOffIn g w (0 : Nat) + i.toNat * (1 : Nat))
 [AV.sc (Value.bool true)])
 w (1 : Nat) +
 i.toNat * (1 : Nat))
 [AV.sc (Value.string (ByteArray.mk (Array.mk s)))])
 w (2 : Nat))
 (rOffIn
 (storeIn
 (storeIn g (rIdIn g w (0 : Nat))
 (rOffIn g w (0 : Nat) + i.toNat * (1 : Nat)) [AV.sc (Value.bool true)])
 (rIdIn
 (storeIn g (rIdIn g w (0 : Nat))
 (rOffIn g w (0 : Nat) + i.toNat * (1 : Nat))
 [AV.sc (Value.bool true)])
 w (1 : Nat))
 (rOffIn
 (storeIn g (rIdIn g w (0 : Nat))
 (rOffIn g w (0 : Nat) + i.toNat * (1 : Nat))
 [AV.sc (Value.bool true)])
 w (1 : Nat) +
 i.toNat * (1 : Nat))
 [AV.sc (Value.string (ByteArray.mk (Array.mk s)))])
 w (2 : Nat))
 (rLenIn
 (storeIn
 (storeIn g (rIdIn g w (0 : Nat))
 (rOffIn g w (0 : Nat) + i.toNat * (1 : Nat))
 [AV.sc (Value.bool true)])
 (rIdIn
 (storeIn g (rIdIn g w (0 : Nat))
 (rOffIn g w (0 : Nat) + i.toNat * (1 : Nat))
 [AV.sc (Value.bool true)])
 w (1 : Nat))
 (rOffIn
 (storeIn g (rIdIn g w (0 : Nat))
 (rOffIn g w (0 : Nat) + i.toNat * (1 : Nat))
 [AV.sc (Value.bool true)])
 w (1 : Nat) +
 i.toNat * (1 : Nat))
 [AV.sc (Value.string (ByteArray.mk (Array.mk s)))])
 w (2 : Nat) *
 (1 : Nat)))
 (iteP
 (okIn
 (appIn
 (storeIn
 (storeIn g (rIdIn g w (0 : Nat))
 (rOffIn g w (0 : Nat) + i.toNat * (1 : Nat)) [AV.sc (Value.bool true)])
 (rIdIn
 (storeIn g (rIdIn g w (0 : Nat))
 (rOffIn g w (0 : Nat) + i.toNat * (1 : Nat))
 [AV.sc (Value.bool true)])
 w (1 : Nat))
 (rOffIn
 (storeIn g (rIdIn g w (0 : Nat))
 (rOffIn g w (0 : Nat) + i.toNat * (1 : Nat))
 [AV.sc (Value.bool true)])
 w (1 : Nat) +
 i.toNat * (1 : Nat))
 [AV.sc (Value.string (ByteArray.mk (Array.mk s)))])
 (rIdIn
 (storeIn
 (storeIn g (rIdIn g w (0 : Nat))
 (rOffIn g w (0 : Nat) + i.toNat * (1 : Nat))
 [AV.sc (Value.bool true)])
 (rIdIn
 (storeIn g (rIdIn g w (0 : Nat))
 (rOffIn g w (0 : Nat) + i.toNat * (1 : Nat))
 [AV.sc (Value.bool true)])
 w (1 : Nat))
 (rOffIn
 (storeIn g (rIdIn g w (0 : Nat))
 (rOffIn g w (0 : Nat) + i.toNat * (1 : Nat))
 [AV.sc (Value.bool true)])
 w (1 : Nat) +
 i.toNat * (1 : Nat))
 [AV.sc (Value.string (ByteArray.mk (Array.mk s)))])
 w (2 : Nat))
 (rOffIn
 (storeIn
 (storeIn g (rIdIn g w (0 : Nat))
 (rOffIn g w (0 : Nat) + i.toNat * (1 : Nat))
 [AV.sc (Value.bool true)])
 (rIdIn
 (storeIn g (rIdIn g w (0 : Nat))
 (rOffIn g w (0 : Nat) + i.toNat * (1 : Nat))
 [AV.sc (Value.bool true)])
 w (1 : Nat))
 (rOffIn
 (storeIn g (rIdIn g w (0 : Nat))
 (rOffIn g w (0 : Nat) + i.toNat * (1 : Nat))
 [AV.sc (Value.bool true)])
 w (1 : Nat) +
 i.toNat * (1 : Nat))
 [AV.sc (Value.string (ByteArray.mk (Array.mk s)))])
 w (2 : Nat))
 (rLenIn
 (storeIn
 (storeIn g (rIdIn g w (0 : Nat))
 (rOffIn g w (0 : Nat) + i.toNat * (1 : Nat))
 [AV.sc (Value.bool true)])
 (rIdIn
 (storeIn g (rIdIn g w (0 : Nat))
 (rOffIn g w (0 : Nat) + i.toNat * (1 : Nat))
 [AV.sc (Value.bool true)])
 w (1 : Nat))
 (rOffIn
 (storeIn g (rIdIn g w (0 : Nat))
 (rOffIn g w (0 : Nat) + i.toNat * (1 : Nat))
 [AV.sc (Value.bool true)])
 w (1 : Nat) +
 i.toNat * (1 : Nat))
 [AV.sc (Value.string (ByteArray.mk (Array.mk s)))])
 w (2 : Nat) *
 (1 : Nat))
 [[AV.sc (Value.int IntKind.i64 i)]])
 w (2 : Nat)
 [AV.rsl
 (storeIn
 (storeIn g (rIdIn g w (0 : Nat))
 (rOffIn g w (0 : Nat) + i.toNat * (1 : Nat))
 [AV.sc (Value.bool true)])
 (rIdIn
 (storeIn g (rIdIn g w (0 : Nat))
 (rOffIn g w (0 : Nat) + i.toNat * (1 : Nat))
 [AV.sc (Value.bool true)])
 w (1 : Nat))
 (rOffIn
 (storeIn g (rIdIn g w (0 : Nat))
 (rOffIn g w (0 : Nat) + i.toNat * (1 : Nat))
 [AV.sc (Value.bool true)])
 w (1 : Nat) +
 i.toNat * (1 : Nat))
 [AV.sc (Value.string (ByteArray.mk (Array.mk s)))]).next
 (0 : Nat)
 (rLenIn
 (storeIn
 (storeIn g (rIdIn g w (0 : Nat))
 (rOffIn g w (0 : Nat) + i.toNat * (1 : Nat))
 [AV.sc (Value.bool true)])
 (rIdIn
 (storeIn g (rIdIn g w (0 : Nat))
 (rOffIn g w (0 : Nat) + i.toNat * (1 : Nat))
 [AV.sc (Value.bool true)])
 w (1 : Nat))
 (rOffIn
 (storeIn g (rIdIn g w (0 : Nat))
 (rOffIn g w (0 : Nat) + i.toNat * (1 : Nat))
 [AV.sc (Value.bool true)])
 w (1 : Nat) +
 i.toNat * (1 : Nat))
 [AV.sc (Value.string (ByteArray.mk (Array.mk s)))])
 w (2 : Nat) +
 [[AV.sc (Value.int IntKind.i64 i)]].length)
 (1 : Nat)].length)
 (K (AV.sc (Value.tuple (Array.mk [])))
 (storeIn
 (appIn
 (storeIn
 (storeIn g (rIdIn g w (0 : Nat))
 (rOffIn g w (0 : Nat) + i.toNat * (1 : Nat))
 [AV.sc (Value.bool true)])
 (rIdIn
 (storeIn g (rIdIn g w (0 : Nat))
 (rOffIn g w (0 : Nat) + i.toNat * (1 : Nat))
 [AV.sc (Value.bool true)])
 w (1 : Nat))
 (rOffIn
 (storeIn g (rIdIn g w (0 : Nat))
 (rOffIn g w (0 : Nat) + i.toNat * (1 : Nat))
 [AV.sc (Value.bool true)])
 w (1 : Nat) +
 i.toNat * (1 : Nat))
 [AV.sc (Value.string (ByteArray.mk (Array.mk s)))])
 (rIdIn
 (storeIn
 (storeIn g (rIdIn g w (0 : Nat))
 (rOffIn g w (0 : Nat) + i.toNat * (1 : Nat))
 [AV.sc (Value.bool true)])
 (rIdIn
 (storeIn g (rIdIn g w (0 : Nat))
 (rOffIn g w (0 : Nat) + i.toNat * (1 : Nat))
 [AV.sc (Value.bool true)])
 w (1 : Nat))
 (rOffIn
 (storeIn g (rIdIn g w (0 : Nat))
 (rOffIn g w (0 : Nat) + i.toNat * (1 : Nat))
 [AV.sc (Value.bool true)])
 w (1 : Nat) +
 i.toNat * (1 : Nat))
 [AV.sc (Value.string (ByteArray.mk (Array.mk s)))])
 w (2 : Nat))
 (rOffIn
 (storeIn
 (storeIn g (rIdIn g w (0 : Nat))
 (rOffIn g w (0 : Nat) + i.toNat * (1 : Nat))
 [AV.sc (Value.bool true)])
 (rIdIn
 (storeIn g (rIdIn g w (0 : Nat))
 (rOffIn g w (0 : Nat) + i.toNat * (1 : Nat))
 [AV.sc (Value.bool true)])
 w (1 : Nat))
 (rOffIn
 (storeIn g (rIdIn g w (0 : Nat))
 (rOffIn g w (0 : Nat) + i.toNat * (1 : Nat))
 [AV.sc (Value.bool true)])
 w (1 : Nat) +
 i.toNat * (1 : Nat))
 [AV.sc (Value.string (ByteArray.mk (Array.mk s)))])
 w (2 : Nat))
 (rLenIn
 (storeIn
 (storeIn g (rIdIn g w (0 : Nat))
 (rOffIn g w (0 : Nat) + i.toNat * (1 : Nat))
 [AV.sc (Value.bool true)])
 (rIdIn
 (storeIn g (rIdIn g w (0 : Nat))
 (rOffIn g w (0 : Nat) + i.toNat * (1 : Nat))
 [AV.sc (Value.bool true)])
 w (1 : Nat))
 (rOffIn
 (storeIn g (rIdIn g w (0 : Nat))
 (rOffIn g w (0 : Nat) + i.toNat * (1 : Nat))
 [AV.sc (Value.bool true)])
 w (1 : Nat) +
 i.toNat * (1 : Nat))
 [AV.sc (Value.string (ByteArray.mk (Array.mk s)))])
 w (2 : Nat) *
 (1 : Nat))
 [[AV.sc (Value.int IntKind.i64 i)]])
 w (2 : Nat)
 [AV.rsl
 (storeIn
 (storeIn g (rIdIn g w (0 : Nat))
 (rOffIn g w (0 : Nat) + i.toNat * (1 : Nat))
 [AV.sc (Value.bool true)])
 (rIdIn
 (storeIn g (rIdIn g w (0 : Nat))
 (rOffIn g w (0 : Nat) + i.toNat * (1 : Nat))
 [AV.sc (Value.bool true)])
 w (1 : Nat))
 (rOffIn
 (storeIn g (rIdIn g w (0 : Nat))
 (rOffIn g w (0 : Nat) + i.toNat * (1 : Nat))
 [AV.sc (Value.bool true)])
 w (1 : Nat) +
 i.toNat * (1 : Nat))
 [AV.sc (Value.string (ByteArray.mk (Array.mk s)))]).next
 (0 : Nat)
 (rLenIn
 (storeIn
 (storeIn g (rIdIn g w (0 : Nat))
 (rOffIn g w (0 : Nat) + i.toNat * (1 : Nat))
 [AV.sc (Value.bool true)])
 (rIdIn
 (storeIn g (rIdIn g w (0 : Nat))
 (rOffIn g w (0 : Nat) + i.toNat * (1 : Nat))
 [AV.sc (Value.bool true)])
 w (1 : Nat))
 (rOffIn
 (storeIn g (rIdIn g w (0 : Nat))
 (rOffIn g w (0 : Nat) + i.toNat * (1 : Nat))
 [AV.sc (Value.bool true)])
 w (1 : Nat) +
 i.toNat * (1 : Nat))
 [AV.sc (Value.string (ByteArray.mk (Array.mk s)))])
 w (2 : Nat) +
 [[AV.sc (Value.int IntKind.i64 i)]].length)
 (1 : Nat)]))
 False)
 False)
 False))
 False)
 False)
 False)
 False)
 False)
 False))
 False)
 False)
 False))
 False)
 False)
 False))
 False) :
 (fun (M : Int) (w : Nat) (i : Int) (s : List UInt8) (g : Heap) (K : AV → Heap → Prop) => wpCall T36 (cfg M) Tryz.prog 100 36 [.ptr w 0, iA i, aStr s] g K) M w i s g K :=
 Eq.mp (by kernel_rfl) h
end
end Go.Proofs.Sp.Sj
namespace Go.Proofs.Sp.Sj
open Go Go.Ef Go.Proofs.Pt
noncomputable section
set_option maxRecDepth 100000
variable {M : Int}
theorem ev_det {C : Cfg} {P : Program} {m m' g : Nat} {args : List AV} {h : Heap} {r r' : AV × Heap} (h1 : evCall C P m g args h = some r) (h2 : evCall C P m' g args h = some r') : r = r' := by
 rcases Nat.le_total m m' with hm | hm
 ·have := call_mono hm g args h r h1
  rw [h2] at this; cases this; rfl
 ·have := call_mono hm g args h r' h2
  rw [h1] at this; cases this; rfl
structure WR (g : Heap) (w a k n fid : Nat) (fo : List AV) (td : AV) (ss ks : List AV) (bad : Bool) : Prop where
 lw : Live g w (.cells [.rsl a 0 n 1, .rsl k 0 n 1, td, bA bad])
 la : Live g a (.cells ss)
 lk : Live g k (.cells ks)
 wa : w ≠ a
 wk : w ≠ k
 ak : a ≠ k
 fw : fid ≠ w
 fa : fid ≠ a
 fk : fid ≠ k
 lf : fid = 0 ∨ g.get fid = some (.cells fo)
variable {g : Heap} {w a k n fid : Nat} {fo : List AV} {td : AV} {ss ks : List AV} {bad : Bool} {todo : List Int} {K : Lab}
theorem WParts.raw (H : WParts g w a k n fid fo td K todo bad) : WR g w a k n fid fo td (seenC n K) (kindC n K) bad := ⟨H.lw, H.la, H.lk, H.wa, H.wk, H.ak, H.fw, H.fa, H.fk, H.lf⟩
theorem WR.parts (H : WR g w a k n fid fo td (seenC n K) (kindC n K) bad) (ht : TodoIs g [w, a, k, fid] td todo) : WParts g w a k n fid fo td K todo bad := ⟨H.lw, H.la, H.lk, ht, H.wa, H.wk, H.ak, H.fw, H.fa, H.fk, H.lf⟩
theorem WR.f_put {id : Nat} {o p : AObj} (l : Live g id p) (hf : fid ≠ id) (h : fid = 0 ∨ g.get fid = some (.cells fo)) : fid = 0 ∨ (putIn g id o).get fid = some (.cells fo) := h.imp (fun e => e) fun e => get_put_other l e hf.symm
theorem WR.store_a (H : WR g w a k n fid fo td ss ks bad) {i : Nat} (hi : i < ss.length) (v : AV) : WR (storeIn g a i [v]) w a k n fid fo td (ss.set i v) ks bad := by
 rw [store_eq H.la, over_one hi]
 exact ⟨H.la.put H.lw H.wa.symm, live_put H.la _, H.la.put H.lk H.ak, H.wa, H.wk, H.ak, H.fw, H.fa, H.fk, WR.f_put H.la H.fa H.lf⟩
theorem WR.store_k (H : WR g w a k n fid fo td ss ks bad) {i : Nat} (hi : i < ks.length) (v : AV) : WR (storeIn g k i [v]) w a k n fid fo td ss (ks.set i v) bad := by
 rw [store_eq H.lk, over_one hi]
 exact ⟨H.lk.put H.lw H.wk.symm, H.lk.put H.la H.ak.symm, live_put H.lk _, H.wa, H.wk, H.ak, H.fw, H.fa, H.fk, WR.f_put H.lk H.fk H.lf⟩
theorem WR.store_t (H : WR g w a k n fid fo td ss ks bad) (v : AV) : WR (storeIn g w 2 [v]) w a k n fid fo v ss ks bad := by
 rw [store_eq H.lw]
 exact ⟨live_put H.lw _, H.lw.put H.la H.wa, H.lw.put H.lk H.wk, H.wa, H.wk, H.ak, H.fw, H.fa, H.fk, WR.f_put H.lw H.fw H.lf⟩
theorem WR.store_b (H : WR g w a k n fid fo td ss ks bad) (v : Bool) : WR (storeIn g w 3 [bA v]) w a k n fid fo td ss ks v := by
 rw [store_eq H.lw]
 exact ⟨live_put H.lw _, H.lw.put H.la H.wa, H.lw.put H.lk H.wk, H.wa, H.wk, H.ak, H.fw, H.fa, H.fk, WR.f_put H.lw H.fw H.lf⟩
theorem WR.new (H : WR g w a k n fid fo td ss ks bad) (o : AObj) : WR (newIn g o) w a k n fid fo td ss ks bad :=
 ⟨H.lw.new, H.la.new, H.lk.new, H.wa, H.wk, H.ak, H.fw, H.fa, H.fk, H.lf.imp (fun e => e) newIn_old⟩
theorem WR.box (H : WR g w a k n fid fo td ss ks bad) (t : TypeId) (cs : List AV) : WR (boxIn g t cs) w a k n fid fo td ss ks bad :=
 ⟨H.lw.box, H.la.box, H.lk.box, H.wa, H.wk, H.ak, H.fw, H.fa, H.fk, H.lf.imp (fun e => e) fun e => by rw [box_get]; exact newIn_old e⟩
theorem WR.app (H : WR g w a k n fid fo td ss ks bad) {t off m : Nat} {cs : List AV} {new : List (List AV)} (l : Live g t (.cells cs)) (hd : t ∉ [w, a, k, fid]) : WR (appIn g t off m new) w a k n fid fo td ss ks bad := by
 simp only [List.mem_cons, List.not_mem_nil, or_false, not_or] at hd
 obtain ⟨h1, h2, h3, h4⟩ := hd
 exact ⟨l.app H.lw h1, l.app H.la h2, l.app H.lk h3, H.wa, H.wk, H.ak, H.fw, H.fa, H.fk, H.lf.imp (fun e => e) fun e => get_app_other l e h4⟩
theorem TodoIs.put {ids : List Nat} (H : TodoIs g ids td todo) {id : Nat} {o p : AObj} (l : Live g id p) (hid : id ∈ ids) : TodoIs (putIn g id o) ids td todo := by
 cases H with
 | no => exact .no
 | row t ts todo lt e n d => exact .row t ts todo (l.put lt (fun h => d (h ▸ hid))) e n d
theorem TodoIs.new {ids : List Nat} (H : TodoIs g ids td todo) (o : AObj) : TodoIs (newIn g o) ids td todo := by
 cases H with
 | no => exact .no
 | row t ts todo lt e n d => exact .row t ts todo lt.new e n d
theorem TodoIs.box {ids : List Nat} (H : TodoIs g ids td todo) (t : TypeId) (cs : List AV) : TodoIs (boxIn g t cs) ids td todo := by
 cases H with
 | no => exact .no
 | row t ts todo lt e n d => exact .row t ts todo lt.box e n d
theorem WParts.flag (H : WParts g w a k n fid fo td K todo bad) (v : Bool) : WParts (storeIn g w 3 [bA v]) w a k n fid fo td K todo v :=
 (H.raw.store_b v).parts (by rw [store_eq H.lw]; exact H.lt.put H.lw (by simp))
theorem WParts.box (H : WParts g w a k n fid fo td K todo bad) (t : TypeId) (cs : List AV) : WParts (boxIn g t cs) w a k n fid fo td K todo bad := (H.raw.box t cs).parts (H.lt.box t cs)
theorem WR.f0 (H : WR g w a k n fid fo td ss ks bad) : rslIn g w 0 1 = true ∧ rIdIn g w 0 = a ∧ rOffIn g w 0 = 0 ∧ rLenIn g w 0 = n := by
 have e : cellIn g w 0 = some (.rsl a 0 n 1) := by rw [H.lw.cell]; rfl
 unfold rslIn rIdIn rOffIn rLenIn; rw [e]; exact ⟨rfl, rfl, rfl, rfl⟩
theorem WR.f1 (H : WR g w a k n fid fo td ss ks bad) : rslIn g w 1 1 = true ∧ rIdIn g w 1 = k ∧ rOffIn g w 1 = 0 ∧ rLenIn g w 1 = n := by
 have e : cellIn g w 1 = some (.rsl k 0 n 1) := by rw [H.lw.cell]; rfl
 unfold rslIn rIdIn rOffIn rLenIn; rw [e]; exact ⟨rfl, rfl, rfl, rfl⟩
theorem WR.ok3 (H : WR g w a k n fid fo td ss ks bad) : okIn g w 3 1 = true := ok_in H.lw (Nat.le_refl _)
theorem WR.ok2 (H : WR g w a k n fid fo td ss ks bad) : okIn g w 2 1 = true := ok_in H.lw (by simp)
theorem WR.f2n (H : WR g w a k n fid fo nilA ss ks bad) : nilIn g w 2 = true := by
 have e : cellIn g w 2 = some nilA := by rw [H.lw.cell]; rfl
 unfold nilIn; rw [e]; rfl
theorem WR.f2r {t m : Nat} (H : WR g w a k n fid fo (.rsl t 0 m 1) ss ks bad) : nilIn g w 2 = false ∧ rslIn g w 2 1 = true ∧ rIdIn g w 2 = t ∧ rOffIn g w 2 = 0 ∧ rLenIn g w 2 = m := by
 have e : cellIn g w 2 = some (.rsl t 0 m 1) := by rw [H.lw.cell]; rfl
 unfold nilIn rslIn rIdIn rOffIn rLenIn; rw [e]; exact ⟨rfl, rfl, rfl, rfl, rfl⟩
theorem WR.f3 (H : WR g w a k n fid fo td ss ks bad) : kdsIn g w 3 [Kd.bool] = true ∧ boolIn g w 3 = bad := by
 have e : cellIn g w 3 = some (bA bad) := by rw [H.lw.cell]; rfl
 unfold boolIn
 simp only [kdsIn, e]; exact ⟨rfl, rfl⟩
theorem seen_len (n : Nat) (K : Lab) : (seenC n K).length = n := by simp [seenC]
theorem kind_len (n : Nat) (K : Lab) : (kindC n K).length = n := by simp [kindC]
theorem seen_at (H : WR g w a k n fid fo td (seenC n K) ks bad) {i : Nat} (hi : i < n) : kdsIn g a (0 + i * 1) [Kd.bool] = true ∧ boolIn g a (0 + i * 1) = (K (i : Int)).isSome := by
 have e : cellIn g a (0 + i * 1) = some (bA (K (i : Int)).isSome) := by
  rw [H.la.cell, Nat.zero_add, Nat.mul_one]
  unfold seenC
  rw [List.getElem?_map, List.getElem?_range hi]; rfl
 unfold boolIn
 simp only [kdsIn, e]; exact ⟨rfl, rfl⟩
theorem kind_at (H : WR g w a k n fid fo td ss (kindC n K) bad) {i : Nat} (hi : i < n) : kdsIn g k (0 + i * 1) [Kd.str] = true ∧ txtIn g k (0 + i * 1) = (K (i : Int)).getD [] := by
 have e : cellIn g k (0 + i * 1) = some (aStr ((K (i : Int)).getD [])) := by
  rw [H.lk.cell, Nat.zero_add, Nat.mul_one]
  unfold kindC
  rw [List.getElem?_map, List.getElem?_range hi]; rfl
 unfold txtIn
 simp only [kdsIn, e]; exact ⟨rfl, rfl⟩
theorem seen_set {i : Nat} (s : Str) : (seenC n K).set i (bA true) = seenC n (K.set (i : Int) s) := by
 unfold seenC
 apply List.ext_getElem?
 intro j
 rw [List.getElem?_set]
 by_cases hj : j < n
 ·by_cases e : i = j
  ·subst e
   rw [if_pos rfl, if_pos (by simpa using hj), List.getElem?_map, List.getElem?_range hj]
   simp only [Option.map_some, Lab.set_same]; rfl
  ·rw [if_neg e, List.getElem?_map, List.getElem?_map, List.getElem?_range hj]
   simp only [Option.map_some]
   rw [Lab.set_other _ _ (by omega)]
 ·by_cases e : i = j
  ·subst e
   rw [if_pos rfl, if_neg (by simpa using hj), List.getElem?_eq_none (by simpa using hj)]
  ·rw [if_neg e, List.getElem?_eq_none (by simpa using hj), List.getElem?_eq_none (by simpa using hj)]
theorem kind_set {i : Nat} (s : Str) : (kindC n K).set i (aStr s) = kindC n (K.set (i : Int) s) := by
 unfold kindC
 apply List.ext_getElem?
 intro j
 rw [List.getElem?_set]
 by_cases hj : j < n
 ·by_cases e : i = j
  ·subst e
   rw [if_pos rfl, if_pos (by simpa using hj), List.getElem?_map, List.getElem?_range hj]
   simp only [Option.map_some, Lab.set_same]; rfl
  ·rw [if_neg e, List.getElem?_map, List.getElem?_map, List.getElem?_range hj]
   simp only [Option.map_some]
   rw [Lab.set_other _ _ (by omega)]
 ·by_cases e : i = j
  ·subst e
   rw [if_pos rfl, if_neg (by simpa using hj), List.getElem?_eq_none (by simpa using hj)]
  ·rw [if_neg e, List.getElem?_eq_none (by simpa using hj), List.getElem?_eq_none (by simpa using hj)]
theorem okz36 : Ok M T36 := ⟨ok0.call, ok0.loop⟩
theorem fits_row {m : Nat} (h : m ≤ 200000) : fits m 8 = true := by
 unfold fits
 rw [Bool.and_eq_true]
 exact ⟨Nat.ble_eq_true_of_le (by unfold maxRoom; omega), Nat.ble_eq_true_of_le (by unfold maxRoom; omega)⟩
theorem toF_out {i : Int} {s : Str} (h : (n : Int) ≤ i) : toF n K todo bad i s = (K, todo, true) := if_pos h
theorem toF_in {i : Int} {s : Str} (h : ¬(n : Int) ≤ i) : toF n K todo bad i s = match K i with
  | some t => if t = s then (K, todo, bad) else (K, todo, true)
  | none => (K.set i s, todo ++ [i], bad) := if_neg h
set_option maxHeartbeats 1000000 in
theorem wp36 {i : Int} {s : Str} {Q : AV → Heap → Prop} (H : WOk g w n fid fo K todo bad) (h0 : 0 ≤ i) (hl : todo.length ≤ 100000)
  (hQ : ∀ g', WOk g' w n fid fo (toF n K todo bad i s).1 (toF n K todo bad i s).2.1 (toF n K todo bad i s).2.2 → Q unitA g') : wpCall T36 (cfg M) Tryz.prog 100 36 [.ptr w 0, iA i, aStr s] g Q := by
 obtain ⟨a, k, td, P⟩ := H
 have R := P.raw
 refine v36 M w i s g Q ?_
 obtain ⟨e1, e2, e3, e4⟩ := R.f0
 obtain ⟨e5, e6, e7, e8⟩ := R.f1
 have e9 := R.ok3
 rw [e2, e3, e4, e6, e7, e8]
 have bads : ∀ s', toF n K todo bad i s = (K, todo, true) → s' = storeIn g w 3 [AV.sc (Value.bool true)] → Q unitA s' := by
  intro s' hb hs
  subst hs
  refine hQ _ ?_
  rw [hb]
  exact ⟨a, k, td, P.flag true⟩
 refine it e1 (iti (fun hge => ?_) (fun hge => ?_))
 ·exact it e9 (bads _ (toF_out (of_decide_eq_true hge)) rfl)
 ·have hge := of_decide_eq_false hge
  obtain ⟨j, rfl⟩ : ∃ j : Nat, i = j := ⟨i.toNat, by omega⟩
  have hj : j < n := by omega
  have hr : inRange (j : Int) n = true := by rw [inRange_iff]; omega
  have hto := toF_in (K := K) (todo := todo) (bad := bad) (s := s) hge
  rw [Int.toNat_natCast]
  obtain ⟨s1, s2⟩ := seen_at R hj
  obtain ⟨k1, k2⟩ := kind_at R hj
  rw [s2, k2]
  refine it e1 (it hr (it s1 ?_))
  cases hK : K (j : Int) with
  | some t =>
   rw [hK] at hto
   refine it rfl (it e5 (it hr (it k1 (iti (fun hne => ?_) (fun hne => ?_)))))
   ·have hne : t ≠ s := of_decide_eq_true hne
    simp only [] at hto
    rw [if_neg hne] at hto
    exact it e9 (bads _ hto rfl)
   ·have hts : t = s := Classical.byContradiction fun h => of_decide_eq_false hne h
    simp only [] at hto
    rw [if_pos hts] at hto
    refine it e1 (it hr (it s1 (it rfl (hQ _ ?_))))
    rw [hto]
    exact ⟨a, k, td, P⟩
  | none =>
   rw [hK] at hto
   simp only [] at hto
   refine ie rfl (it e1 (it hr (it s1 (ie rfl (it e1 (it hr (it ?_ ?_)))))))
   ·exact ok_in R.la (by rw [seen_len]; omega)
   rw [Nat.zero_add, Nat.mul_one]
   have R1 := R.store_a (i := j) (by rw [seen_len]; exact hj) (bA true)
   rw [seen_set s] at R1
   revert R1
   generalize hg1 : storeIn g a j [AV.sc (Value.bool true)] = g1
   rw [show storeIn g a j [bA true] = g1 from hg1]
   intro R1
   have T1 : TodoIs g1 [w, a, k, fid] td todo := by rw [← hg1, store_eq R.la]; exact P.lt.put R.la (by simp)
   clear hg1
   obtain ⟨f1, f2, f3, f4⟩ := R1.f1
   rw [f2, f3, f4, Nat.zero_add]
   refine it f1 (it hr (it (ok_in R1.lk (by rw [kind_len]; exact hj)) ?_))
   have R2 := R1.store_k (i := j) (by rw [kind_len]; exact hj) (aStr s)
   rw [kind_set s] at R2
   revert R2
   generalize hg2 : storeIn g1 k j [AV.sc (Value.string (ByteArray.mk (Array.mk s)))] = g2
   rw [show storeIn g1 k j [aStr s] = g2 from hg2]
   intro R2
   have T2 : TodoIs g2 [w, a, k, fid] td todo := by rw [← hg2, store_eq R1.lk]; exact T1.put R1.lk (by simp)
   clear hg2
   cases T2 with
   | no =>
    refine it R2.f2n ?_
    have R3 := R2.new (.cells [AV.sc (Value.int IntKind.i64 j)])
    refine it R3.ok2 (hQ _ ?_)
    rw [hto]
    have R4 := R3.store_t (.rsl g2.next 0 1 1)
    refine ⟨a, k, _, R4.parts ?_⟩
    rw [store_eq R3.lw]
    have hlow : g2.ro ≤ g2.next := R2.lw.low
    refine TodoIs.put (TodoIs.row g2.next [iA j] [(j : Int)] (live_new hlow _) rfl (Nat.le_refl _) ?_) R3.lw (by simp)
    simp only [List.mem_cons, List.not_mem_nil, or_false, not_or]
    have h1 := R2.lw.lt
    have h2 := R2.la.lt
    have h3 := R2.lk.lt
    refine ⟨by omega, by omega, by omega, fun e => ?_⟩
    rcases R2.lf with h | h
    ·omega
    ·rw [← e, get_next] at h; cases h
   | row t ts todo lt e nn d =>
    obtain ⟨q0, q1, q2, q3, q4⟩ := R2.f2r
    rw [q2, q3, q4]
    refine ie q0 (it q1 (it ?_ ?_))
    ·rw [Bool.and_eq_true]
     exact ⟨fits_row (by show todo.length + 1 ≤ _; omega), app_ok lt (by omega)⟩
    ·have R3 := R2.app (off := 0) (m := todo.length * 1) (new := [[AV.sc (Value.int IntKind.i64 j)]]) lt d
     refine it R3.ok2 (hQ _ ?_)
     rw [hto]
     have R4 := R3.store_t (.rsl g2.next 0 (todo.length + 1) 1)
     refine ⟨a, k, _, R4.parts ?_⟩
     rw [store_eq R3.lw]
     have hl2 : (todo ++ [(j : Int)]).length = todo.length + 1 := by simp
     have hrow : TodoIs (appIn g2 t 0 (todo.length * 1) [[AV.sc (Value.int IntKind.i64 j)]]) [w, a, k, fid] (.rsl g2.next 0 (todo ++ [(j : Int)]).length 1) (todo ++ [(j : Int)]) := by
      refine TodoIs.row g2.next _ _ (app_get lt) ?_ ?_ ?_
      ·unfold cutC
       rw [List.drop_zero, Nat.mul_one, e, hl2, List.map_append, List.take_of_length_le (by simp)]
       rfl
      ·unfold cutC
       rw [List.drop_zero, Nat.mul_one, e, hl2]; simp
      ·simp only [List.mem_cons, List.not_mem_nil, or_false, not_or]
       have h1 := R2.lw.lt
       have h2 := R2.la.lt
       have h3 := R2.lk.lt
       refine ⟨by omega, by omega, by omega, fun e => ?_⟩
       rcases R2.lf with h | h
       ·omega
       ·rw [← e, get_next] at h; cases h
     rw [hl2] at hrow
     exact hrow.put R3.lw (by simp)
theorem ok36 {T : Tab} (O : Ok M T) : Ok M (T.addC 36 C36) := by
 refine addC_ok O fun args h s hs hp => ?_
 unfold C36 at hs
 split at hs
 ·rename_i w i s
  obtain ⟨⟨s⟩⟩ := s
  cases hs
  obtain ⟨⟨n, fid, fo, K, todo, bad, hW, hl⟩, h0⟩ := hp
  obtain ⟨m, v, g', e, rfl, _⟩ := call_okW (okz36 (M := M)) 100 36 [.ptr w 0, iA i, aStr s] h (fun v g' => v = unitA ∧ True) (wp36 hW h0 hl fun _ _ => ⟨rfl, trivial⟩)
  refine ⟨_, List.mem_singleton.2 rfl, g', m, ⟨fun n fid fo K todo bad hW2 hl2 => ?_⟩, e⟩
  obtain ⟨m2, v2, g2, e2, rfl, h2⟩ := call_okW (okz36 (M := M)) 100 36 [.ptr w 0, iA i, aStr s] h (fun v g' => v = unitA ∧ WOk g' w n fid fo (toF n K todo bad i s).1 (toF n K todo bad i s).2.1 (toF n K todo bad i s).2.2) (wp36 hW2 h0 hl2 fun _ hw => ⟨rfl, hw⟩)
  have := ev_det e e2
  cases this
  exact h2
 ·cases hs
end
end Go.Proofs.Sp.Sj
namespace Go.Proofs.Sp.Sj
open Go Go.Ef Go.Proofs.Pt
noncomputable section
set_option maxRecDepth 100000
variable {M : Int}
def folT (n : Nat) (q : Lab × List Int × Bool) (p : Int × Str) : Lab × List Int × Bool := toF n q.1 q.2.1 q.2.2 p.1 p.2
structure FolOf (n : Nat) (o : Option (List (Int × Str))) (K : Lab) (todo : List Int) (K' : Lab) (todo' : List Int) (bad' : Bool) : Prop where
 no : o = none → bad' = true
 yes : ∀ m, o = some m → (K', todo', bad') = m.foldl (folT n) (K, todo, false)
theorem to_len {n : Nat} {K : Lab} {todo : List Int} {bad : Bool} {i : Int} {s : Str} : (toF n K todo bad i s).2.1.length ≤ todo.length + 1 := by
 unfold toF
 split
 ·simp
 ·split
  ·split <;> simp
  ·simp
theorem ends_of {op : Int} (h : endsB op = true) : op = 29 ∨ op = 43 ∨ op = 44 ∨ op = 48 ∨ op = 49 := by
 unfold endsB at h
 repeat' (split at h <;> try (simp_all; done))
theorem ends_no {op : Int} (h : endsB op = false) : op ≠ 29 ∧ op ≠ 43 ∧ op ≠ 44 ∧ op ≠ 48 ∧ op ≠ 49 := by
 refine ⟨?_, ?_, ?_, ?_, ?_⟩ <;> (rintro rfl; cases h)
theorem target_no {op : Int} (h : targetB op = false) : op ≠ 22 ∧ op ≠ 23 ∧ op ≠ 24 ∧ op ≠ 39 ∧ op ≠ 45 := by
 refine ⟨?_, ?_, ?_, ?_, ?_⟩ <;> (rintro rfl; cases h)
theorem nei {a b : Int} (h : (a == b) = false) : a ≠ b := by intro e; rw [e] at h; simp at h
set_option maxHeartbeats 1000000 in
theorem rest37 {g : Heap} {w n fid : Nat} {fo : List AV} {K : Lab} {todo : List Int} {op x i : Int} {s p : Str} {d : Nat} {Q : AV → Heap → Prop} (H : WOk g w n fid fo K todo false) (hl : todo.length ≤ 50000) (hi0 : 0 ≤ i) (hi1 : i ≤ 100000)
  (hop : 1 ≤ op ∧ op ≤ 49) (hx : targetB op = true → 0 ≤ x) (hs : s.length ≤ 1000000) (hd : IntKind.i64.wrap ((s.length : Int) - (p.length : Int)) = (d : Int)) (hd2 : d ≤ s.length)
  (hQ : ∀ g' K' todo' bad', WOk g' w n fid fo K' todo' bad' → FolOf n (nextK op x i s (s.take d)) K todo K' todo' bad' → Q unitA g') :
  (True ∧ ∀ (x_3 : Bool), x_3 = endsB op → iteP x_3 (iteP (kdsIn g w (3 : Nat) [Kd.bool]) (iteP (boolIn g w (3 : Nat)) (iteP (okIn g w (3 : Nat) (1 : Nat)) (Q unitA (storeIn g w (3 : Nat) [AV.sc (Value.bool true)])) False) (iteP (op == (48 : Int)) (iteP (decide (s ≠ [])) (iteP (okIn g w (3 : Nat) (1 : Nat)) (Q unitA (storeIn g w (3 : Nat) [AV.sc (Value.bool true)])) False) (iteP (okIn g w (3 : Nat) (1 : Nat)) (Q unitA (storeIn g w (3 : Nat) [AV.sc (Value.bool false)])) False)) (iteP (op == (49 : Int)) (iteP (decide (s ≠ [])) (iteP (okIn g w (3 : Nat) (1 : Nat)) (Q unitA (storeIn g w (3 : Nat) [AV.sc (Value.bool true)])) False) (iteP (okIn g w (3 : Nat) (1 : Nat)) (Q unitA (storeIn g w (3 : Nat) [AV.sc (Value.bool false)])) False)) (iteP (okIn g w (3 : Nat) (1 : Nat)) (Q unitA (storeIn g w (3 : Nat) [AV.sc (Value.bool false)])) False)))) False) (iteP (decide ((0 : Int) ≤ IntKind.i64.wrap ((s.length : Int) - (p.length : Int))) && decide (IntKind.i64.wrap ((s.length : Int) - (p.length : Int)) ≤ (s.length : Int))) (((1 : Int) ≤ op ∧ op ≤ (49 : Int)) ∧ ∀ (x_4 : List UInt8), x_4 = pushF op → iteP (strFits (List.take (IntKind.i64.wrap ((s.length : Int) - (p.length : Int))).toNat s) x_4) (iteP (op == (39 : Int)) (WIs g w x ∧ ∀ (x_5 : Heap), ToDone g w x s x_5 → iteP (op != (22 : Int)) (WIs x_5 w (IntKind.i64.wrap (i + (1 : Int))) ∧ ∀ (x_6 : Heap), ToDone x_5 w (IntKind.i64.wrap (i + (1 : Int))) (List.take (IntKind.i64.wrap ((s.length : Int) - (p.length : Int))).toNat s ++ x_4) x_6 → Q unitA x_6) (Q unitA x_5)) (True ∧ ∀ (x_5 : Bool), x_5 = targetB op → iteP x_5 (WIs g w x ∧ ∀ (x_6 : Heap), ToDone g w x (List.take (IntKind.i64.wrap ((s.length : Int) - (p.length : Int))).toNat s ++ x_4) x_6 → iteP (op != (22 : Int)) (WIs x_6 w (IntKind.i64.wrap (i + (1 : Int))) ∧ ∀ (x_7 : Heap), ToDone x_6 w (IntKind.i64.wrap (i + (1 : Int))) (List.take (IntKind.i64.wrap ((s.length : Int) - (p.length : Int))).toNat s ++ x_4) x_7 → Q unitA x_7) (Q unitA x_6)) (iteP (op != (22 : Int)) (WIs g w (IntKind.i64.wrap (i + (1 : Int))) ∧ ∀ (x_6 : Heap), ToDone g w (IntKind.i64.wrap (i + (1 : Int))) (List.take (IntKind.i64.wrap ((s.length : Int) - (p.length : Int))).toNat s ++ x_4) x_6 → Q unitA x_6) (Q unitA g)))) False) False)) := by
 rw [hd, Int.toNat_natCast, wrap_in (x := i + 1) (by omega) (by omega)]
 obtain ⟨a, k, td, P⟩ := H
 have R := P.raw
 have W : WOk g w n fid fo K todo false := ⟨a, k, td, P⟩
 have o3 := R.ok3
 obtain ⟨b1, b2⟩ := R.f3
 have pushL : (pushF op).length ≤ 2 := by
  rcases push_len op with h | h
  ·omega
  ·rw [h, push39]; simp
 refine ⟨trivial, ?_⟩
 intro q hq
 subst hq
 refine iti (fun he => ?_) (fun he => ?_)
 ·refine it b1 ?_
  rw [b2]
  refine ie rfl ?_
  have stT : nextK op x i s (s.take d) = none → iteP (okIn g w (3 : Nat) (1 : Nat)) (Q unitA (storeIn g w (3 : Nat) [AV.sc (Value.bool true)])) False := fun hn =>
   it o3 (hQ _ K todo true ⟨a, k, td, P.flag true⟩ ⟨fun _ => rfl, fun m hm => by rw [hn] at hm; cases hm⟩)
  have stF : nextK op x i s (s.take d) = some [] → iteP (okIn g w (3 : Nat) (1 : Nat)) (Q unitA (storeIn g w (3 : Nat) [AV.sc (Value.bool false)])) False := fun hn =>
   it o3 (hQ _ K todo false ⟨a, k, td, P.flag false⟩ ⟨fun h => (by rw [hn] at h; cases h), fun m hm => by rw [hn] at hm; cases hm; rfl⟩)
  rcases ends_of he with rfl | rfl | rfl | rfl | rfl
  ·exact ie rfl (ie rfl (stF rfl))
  ·exact ie rfl (ie rfl (stF rfl))
  ·exact ie rfl (ie rfl (stF rfl))
  ·refine it rfl (iti (fun h => stT ?_) (fun h => stF ?_))
   ·show (if s = [] then some [] else none) = _
    rw [if_neg (of_decide_eq_true h)]
   ·show (if s = [] then some [] else none) = _
    rw [if_pos (Classical.byContradiction fun e => of_decide_eq_false h e)]
  ·refine ie rfl (it rfl (iti (fun h => stT ?_) (fun h => stF ?_)))
   ·show (if s = [] then some [] else none) = _
    rw [if_neg (of_decide_eq_true h)]
   ·show (if s = [] then some [] else none) = _
    rw [if_pos (Classical.byContradiction fun e => of_decide_eq_false h e)]
 ·obtain ⟨n1, n2, n3, n4, n5⟩ := ends_no he
  refine it (by simp only [Bool.and_eq_true, decide_eq_true_eq]; omega) ⟨hop, ?_⟩
  intro q hq
  subst hq
  have htl : (s.take d).length ≤ 1000000 := by rw [List.length_take]; omega
  refine it (fitsS (by omega)) ?_
  have wis : ∀ {g' : Heap} {K' : Lab} {todo' : List Int} {bad' : Bool} {j : Int}, WOk g' w n fid fo K' todo' bad' → todo'.length ≤ 100000 → 0 ≤ j → WIs g' w j := fun h1 h2 h3 => ⟨⟨_, _, _, _, _, _, h1, h2⟩, h3⟩
  have tl1 : ∀ {j : Int} {t : Str}, (toF n K todo false j t).2.1.length ≤ 100000 := by intro j t; have := to_len (n := n) (K := K) (todo := todo) (bad := false) (i := j) (s := t); omega
  refine iti (fun h39 => ?_) (fun h39 => ?_)
  ·obtain rfl := eqi h39
   refine ⟨wis W (by omega) (hx rfl), fun g5 h5 => it rfl ?_⟩
   have W5 := h5.is n fid fo K todo false W (by omega)
   refine ⟨wis W5 tl1 (by omega), fun g6 h6 => ?_⟩
   exact hQ _ _ _ _ (h6.is _ _ _ _ _ _ W5 tl1) ⟨fun h => (by cases h), fun m hm => by cases hm; rfl⟩
  ·have m39 := nei h39
   refine ⟨trivial, ?_⟩
   intro q hq
   subst hq
   refine iti (fun ht => ?_) (fun ht => ?_)
   ·refine ⟨wis W (by omega) (hx ht), fun g5 h5 => ?_⟩
    have W5 := h5.is n fid fo K todo false W (by omega)
    rcases target_of ht with rfl | rfl | rfl | rfl | rfl
    ·refine ie rfl ?_
     rw [show pushF 22 = [] from rfl, List.append_nil] at W5
     exact hQ _ _ _ _ W5 ⟨fun h => (by cases h), fun m hm => by cases hm; rfl⟩
    ·refine it rfl ⟨wis W5 tl1 (by omega), fun g6 h6 => ?_⟩
     have W6 := h6.is _ _ _ _ _ _ W5 tl1
     rw [show pushF 23 = [] from rfl, List.append_nil] at W6
     exact hQ _ _ _ _ W6 ⟨fun h => (by cases h), fun m hm => by cases hm; rw [show pushF 23 = [] from rfl, List.append_nil]; rfl⟩
    ·refine it rfl ⟨wis W5 tl1 (by omega), fun g6 h6 => ?_⟩
     have W6 := h6.is _ _ _ _ _ _ W5 tl1
     rw [show pushF 24 = [] from rfl, List.append_nil] at W6
     exact hQ _ _ _ _ W6 ⟨fun h => (by cases h), fun m hm => by cases hm; rw [show pushF 24 = [] from rfl, List.append_nil]; rfl⟩
    ·exact absurd rfl m39
    ·refine it rfl ⟨wis W5 tl1 (by omega), fun g6 h6 => ?_⟩
     have W6 := h6.is _ _ _ _ _ _ W5 tl1
     rw [show pushF 45 = [] from rfl, List.append_nil] at W6
     exact hQ _ _ _ _ W6 ⟨fun h => (by cases h), fun m hm => by cases hm; rw [show pushF 45 = [] from rfl, List.append_nil]; rfl⟩
   ·obtain ⟨t1, t2, t3, t4, t5⟩ := target_no ht
    have hn : nextK op x i s (s.take d) = some [(i + 1, s.take d ++ pushF op)] := by
     unfold nextK
     rw [if_neg n1, if_neg n2, if_neg n3, if_neg n4, if_neg n5, if_neg t1, if_neg t4, if_neg t2, if_neg t3, if_neg t5]
    refine it (by simpa using t1) ⟨wis W (by omega) (by omega), fun g6 h6 => ?_⟩
    exact hQ _ _ _ _ (h6.is _ _ _ _ _ _ W (by omega)) ⟨fun h => (by rw [hn] at h; cases h), fun m hm => by rw [hn] at hm; cases hm; rfl⟩
end
end Go.Proofs.Sp.Sj
