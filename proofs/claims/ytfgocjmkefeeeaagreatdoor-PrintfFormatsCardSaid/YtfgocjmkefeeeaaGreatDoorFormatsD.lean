/- A part of the proof: definitions and lemmas. -/
import Derived.Test.YtfgocjmkefeeeaaGreatDoorFormatsC
namespace Go.Proofs.Pr
open Go Go.Ef
noncomputable section
def numA (l : Int) : List UInt8 → Int → Int × List UInt8
 | [], n => (n, [])
 | c :: r, n => if (c.toNat : Int) < l then (n, c :: r) else numL (c :: r) n
def E9 : St := stOf 29 [(2, .unk)] [] heapF
def L34 (σ : St) : Option LSpec := some (lspec (σ.tidy [0, 1, 2, 8, 9] 0 = I34 (slS σ 0) (slI σ 1) (slI σ 2) (slI σ 8) (slI σ 9) ∧ slI σ 8 = -1 ∧ slI σ 9 = slI σ 1 ∧ 0 ≤ slI σ 1 ∧ slI σ 1 ≤ ((slS σ 0).length : Int) ∧ (slS σ 0).length ≤ 1000000)
 (Int × Int) (fun x => 0 ≤ x.2 ∧ x.2 ≤ ((slS σ 0).length : Int) ∧ numA (slI σ 2) ((slS σ 0).drop (slI σ 1).toNat) (-1) = (x.1, (slS σ 0).drop x.2.toNat)) (.exit 0) (fun x => J34 x.1 x.2))
def C34 (args : List AV) (h : Heap) : Option CSpec :=
 match args with
 | [.sc (.string s), .sc (.int .i64 a), .sc (.int .u8 l)] => some { pre := s.data.toList.length ≤ 1000000 ∧ 0 ≤ a ∧ a ≤ (s.data.toList.length : Int), alts := [{ α := Int × Int, post := fun x => 0 ≤ x.2 ∧ x.2 ≤ (s.data.toList.length : Int) ∧ numR l (s.data.toList.drop a.toNat) = (x.1, s.data.toList.drop x.2.toNat), val := fun x => .tup [aK .i64 x.1, aK .i64 x.2], heap := fun _ => h }] }
 | _ => none
def L33' (σ : St) : Option LSpec := some { pre := σ.tidy [0, 1, 5] 0 = I33 (slS σ 0) (slI σ 1) (slI σ 5) ∧ slI σ 5 = 0 ∧ (slS σ 0).length ≤ 1000000, alts := [{ α := Unit, post := fun _ => (slS σ 0).any (fun c => decide ((c.toNat : Int) = slI σ 1)) = true, ex := .ret, st := fun _ => J33 true }, { α := Unit, post := fun _ => (slS σ 0).any (fun c => decide ((c.toNat : Int) = slI σ 1)) = false, ex := .exit 0, st := fun _ => stOf 17 [(4, .unk)] [] heapF }] }
def C33 (args : List AV) (h : Heap) : Option CSpec :=
 match args with
 | [.sc (.string s), .sc (.int .u8 c)] => some (nspec (s.data.toList.length ≤ 1000000) (s.data.toList.any fun b => decide ((b.toNat : Int) = c)) (fun x => aBool x) h)
 | _ => none
def L20 (σ : St) : Option LSpec := some (lspec (σ.tidy [0, 1, 4, 7] 2 = I20 (slS σ 0) (slI σ 1) (rdDir σ 1) ∧ 0 ≤ slI σ 1 ∧ slI σ 1 ≤ ((slS σ 0).length : Int) ∧ (slS σ 0).length ≤ 1000000)
 (Int × Dir) (fun x => 0 ≤ x.1 ∧ x.1 ≤ ((slS σ 0).length : Int) ∧ flagsF ((slS σ 0).drop (slI σ 1).toNat) (rdDir σ 1) = (x.2, (slS σ 0).drop x.1.toNat)) (.exit 0) (fun x => I20 (slS σ 0) x.1 x.2))
def C20 (args : List AV) (h : Heap) : Option CSpec :=
 match args with
 | [.sc (.string s), .sc (.int .i64 a)] => some { pre := s.data.toList.length ≤ 1000000 ∧ 0 ≤ a ∧ a ≤ (s.data.toList.length : Int), alts := [{ α := Dir × Int × Int, post := fun x => ((x.2.2 = 0 ∧ 0 ≤ x.2.1 ∧ x.2.1 ≤ (s.data.toList.length : Int) ∧ readR (s.data.toList.drop a.toNat) = (x.1, s.data.toList.drop x.2.1.toNat, 0)) ∨ (x.2.2 ≠ 0 ∧ (readR (s.data.toList.drop a.toNat)).2.2 = x.2.2)), val := fun x => .tup [.agg x.1.cells, aK .i64 x.2.1, aK .i64 x.2.2], heap := fun _ => h }] }
 | _ => none
def L9 (σ : St) : Option LSpec := some { pre := σ.tidy [0, 3] 0 = I9 (slS σ 0) (slI σ 3) ∧ slI σ 3 = 0 ∧ (slS σ 0).length ≤ 1000000, alts := [{ α := Unit, post := fun _ => checkR ((slS σ 0).length + 1) (slS σ 0) = 0, ex := .exit 0, st := fun _ => E9 }, { α := Int, post := fun x => x = checkR ((slS σ 0).length + 1) (slS σ 0), ex := .ret, st := fun x => J9 x }] }
def C9 (args : List AV) (h : Heap) : Option CSpec :=
 match args with
 | [.sc (.string s)] => some (nspec (s.data.toList.length ≤ 1000000) (checkR (s.data.toList.length + 1) s.data.toList) (fun x => aK .i64 x) h)
 | _ => none
def R1 : Tab := ((T4.addC 9 C8).addL 38 5 L34).addL 37 3 L33'
def R2 : Tab := (R1.addC 38 C34).addC 37 C33
def R3 : Tab := R2.addL 19 3 L20
def R4 : Tab := R3.addC 19 C20
def R5 : Tab := R4.addL 18 3 L9
def C10 (args : List AV) (h : Heap) : Option CSpec :=
 match args with
 | [] => some (nspec True true (fun x => aBool x) h)
 | _ => none
def R6 : Tab := (R5.addC 18 C9).addC 5 C10
end
end Go.Proofs.Pr
namespace Go.Proofs.Pr
open Go Go.Ef
noncomputable section
def isByteCells (els : Cells) : Prop := byteCells (els.map byteD) = els
def C27 (args : List AV) (h : Heap) : Option CSpec :=
 match args with
 | [.ptr 3 0] => match h.objs.get 3 with
  | some (.cells [_, .sc (.slice none 0 0)]) => some (nspec (IS [] h = sB (hArg h)) ([] : List UInt8) (fun x => aStr x) h)
  | some (.cells [_, .sl els 5]) => some (nspec (IS [] h = sC (hArg h) els (hN h) ∧ els.isEmpty = false ∧ hN h = els.length ∧ els.length ≤ 100000000 ∧ isByteCells els) (els.map byteD) (fun x => aStr x) { h with objs := h.objs.set 4 .dead })
  | _ => none
 | _ => none
end
end Go.Proofs.Pr
namespace Go.Proofs.Pr
open Go Go.Ef
noncomputable section
set_option maxRecDepth 100000
theorem can18 (s : List UInt8) (h : Heap) : (IS s h).tidy [0, 1] 0 = IS s h := by kernel_rfl
theorem first18 : firstId 8 (loopAt Tryz.prog 10 2) = 2 := by kernel_rfl
theorem byteS_cell (b : UInt8) : byteS [aK .u8 b.toNat] = some b := by
 show (bif decide ((b.toNat : Int) = ((UInt8.ofNat ((b.toNat : Int)).toNat).toNat : Int)) then some (UInt8.ofNat ((b.toNat : Int)).toNat) else none) = some b
 have e : UInt8.ofNat ((b.toNat : Int)).toNat = b := by simp
 rw [e, decide_eq_true rfl]; rfl
theorem byteS_cells (u : List UInt8) : mapO byteS (byteCells u) = some u := by
 induction u with
 | nil => rfl
 | cons b u ih =>
  show consO (byteS [aK .u8 b.toNat]) (mapO byteS (byteCells u)) = _
  rw [byteS_cell, ih]; rfl
theorem byteD_cell (b : UInt8) : byteD [aK .u8 b.toNat] = b := by
 show (some (UInt8.ofNat ((b.toNat : Int)).toNat)).getD 0 = b
 simp
theorem byteD_cells (u : List UInt8) : (byteCells u).map byteD = u := by
 induction u with
 | nil => rfl
 | cons b u ih =>
  show byteD [aK .u8 b.toNat] :: (byteCells u).map byteD = _
  rw [byteD_cell, ih]
theorem ok27 {T : Tab} (O : TabOk Tryz.prog Door.cfg T) : TabOk Tryz.prog Door.cfg (T.addC 17 C27) := by
 refine addC_ok O fun args h s hs hp => ?_
 unfold C27 at hs
 split at hs
 ·split at hs
  ·refine nspec_ok (Option.some.inj hs) (fun hpre => ?_) hp
   have hh : h = hB (hArg h) := IS_heap (s := []) (s' := []) hpre
   refine EvP.prim (p := stringP 39 5) rfl (v := aStr []) (h' := h) ?_ ⟨rfl, rfl⟩
   rw [hh]; rfl
  ·rename_i els _
   refine nspec_ok2 (Option.some.inj hs) (fun hpre => ?_) hp
   obtain ⟨p1, p2, p3, p4, p5⟩ := hpre
   have hh : h = hC (hArg h) els (hN h) := IS_heap (s := []) (s' := []) p1
   rw [p3] at hh
   generalize hArg h = a at hh
   subst hh
   replace p5 : byteCells (els.map byteD) = els := p5
   generalize els.map byteD = u at p5
   subst p5
   refine EvP.prim (p := stringP 39 5) rfl (v := aStr u) (h' := { hC a (byteCells u) (byteCells u).length with objs := (hC a (byteCells u) (byteCells u).length).objs.set 4 .dead }) ?_ ⟨rfl, rfl⟩
   show (bif (Nat.beq 1 1 && Nat.beq 5 5 && !(byteCells u).isEmpty && Nat.ble (byteCells u).length maxRoom) && Nat.beq (byteCells u).length (byteCells u).length then
        (match mapO byteS (byteCells u), (hC a (byteCells u) (byteCells u).length).put 4 .dead with
        | some bs, some h' => some (AV.sc (.string ⟨⟨bs⟩⟩), h')
        | _, _ => none) else none) = _
   rw [p2, show Nat.ble (byteCells u).length maxRoom = true from Nat.ble_eq_true_of_le (by unfold maxRoom; omega), Nat.beq_refl (List.length (byteCells u)), byteS_cells]
   rfl
  ·cases hs
 ·cases hs
end
end Go.Proofs.Pr
namespace Go.Proofs.Pr
open Go Go.Ef
noncomputable section
def isDig (c : UInt8) : Bool := decide (48 ≤ (c.toNat : Int)) && decide ((c.toNat : Int) ≤ 57)
def isBlank (c : UInt8) : Bool := c == 32 || c == 9
def digN (s : List UInt8) : Nat := (s.takeWhile isDig).length
def blankN (s : List UInt8) : Nat := (s.takeWhile isBlank).length
def valL : List UInt8 → Int → Option Int
 | [], d => some d
 | c :: r, d => if 10 * d + ((c.toNat : Int) - 48) > 1000000000 then none else valL r (10 * d + ((c.toNat : Int) - 48))
def digAt (f : List UInt8) (k : Nat) : Int :=
 match f[k]? with
 | some c => (c.toNat : Int) - 48
 | none => 0
def fracL (f : List UInt8) : Int := ((digAt f 0 * 10 + digAt f 1) * 10 + digAt f 2) * 10 + digAt f 3
def valueF (w f : List UInt8) : Int :=
 match valL w 0 with
 | none => 10000000000001
 | some d => min 10000000000001 (d * 10000 + fracL f)
def fracPart : List UInt8 → List UInt8
 | [] => []
 | c :: r => if c = 46 then r.take (digN r) else []
def signed (s : List UInt8) : Bool :=
 match s with
 | [] => false
 | c :: _ => c == 45 || c == 43
def minus (s : List UInt8) : Bool :=
 match s with
 | [] => false
 | c :: _ => c == 45
def prefU (u : List UInt8) : Int := if digN u = 0 ∧ fracPart (u.drop (digN u)) = [] then 0 else min 10000000000000 (valueF (u.take (digN u)) (fracPart (u.drop (digN u))))
def prefixD (s : List UInt8) : Int :=
 if minus (s.dropWhile isBlank) then -(prefU ((s.dropWhile isBlank).drop 1)) else if signed (s.dropWhile isBlank) then prefU ((s.dropWhile isBlank).drop 1) else prefU (s.dropWhile isBlank)
def nearF (d : Int) : Int := max (-10000000000000) (min 10000000000000 d)
def numberF (k n : Int) (s : List UInt8) : Int := if k = 2 then prefixD s else if k = 1 ∨ k = 3 then nearF n else 0
def I64 (s : List UInt8) (n : Int) : St := stOf 23 [(0, sStr s), (3, sInt n)] [] heapF
def E64 (n : Int) : St := stOf 23 [(3, sInt n)] [] heapF
def I50 (s : List UInt8) (n : Int) : St := stOf 116 [(0, sStr s), (4, sInt n)] [] heapF
def I65 (w f : List UInt8) (d n i : Int) : St := stOf 29 [(0, sStr w), (1, sStr f), (5, sInt d), (8, sInt n), (9, sInt i)] [] heapF
def E65 (f : List UInt8) (d : Int) : St := stOf 29 [(1, sStr f), (4, .unk), (5, sInt d)] [] heapF
def J65 (f : List UInt8) (r d : Int) : St := stOf 29 [(1, sStr f), (4, sInt r), (5, sInt d)] [] heapF
def L64 (σ : St) : Option LSpec :=
 match σ.at 0, σ.at 3 with
 | .v (.sc (.string s)), .v (.sc (.int .i64 k)) => some (lspec (σ.tidy [0, 3] 0 = I64 s.data.toList k ∧ k = 0 ∧ s.data.toList.length ≤ 1000000) Int (fun x => x = digN s.data.toList) (.exit 0) (fun x => E64 x))
 | _, _ => none
def C64 (args : List AV) (h : Heap) : Option CSpec :=
 match args with
 | [.sc (.string s)] => some (nspec (s.data.toList.length ≤ 1000000) ((digN s.data.toList : Nat) : Int) (fun x => aK .i64 x) h)
 | _ => none
def L50 (σ : St) : Option LSpec :=
 match σ.at 0, σ.at 4 with
 | .v (.sc (.string s)), .v (.sc (.int .i64 k)) => some (lspec (σ.tidy [0, 4] 0 = I50 s.data.toList k ∧ k = 0 ∧ s.data.toList.length ≤ 1000000) Int (fun x => x = blankN s.data.toList) (.exit 0) (fun x => I50 s.data.toList x))
 | _, _ => none
def C80 (args : List AV) (h : Heap) : Option CSpec :=
 match args with
 | [.sc (.string s)] => some (nspec (s.data.toList.length ≤ 1000000 ∧ s.data.toList.all isDig = true) (fracL s.data.toList) (fun x => aK .i64 x) h)
 | _ => none
def L65 (σ : St) : Option LSpec :=
 match σ.at 0, σ.at 1, σ.at 5, σ.at 8, σ.at 9 with
 | .v (.sc (.string s)), .v (.sc (.string f)), .v (.sc (.int .i64 d)), .v (.sc (.int .i64 n)), .v (.sc (.int .i64 k)) =>
  some { pre := σ.tidy [0, 1, 5, 8, 9] 0 = I65 s.data.toList f.data.toList d n k ∧ d = 0 ∧ k = 0 ∧ n = s.data.toList.length ∧ s.data.toList.length ≤ 1000000 ∧ s.data.toList.all isDig = true, alts := [{ α := Int, post := fun x => valL s.data.toList 0 = some x, ex := .exit 0, st := fun x => E65 f.data.toList x }, { α := Int, post := fun _ => valL s.data.toList 0 = none, ex := .ret, st := fun x => J65 f.data.toList 10000000000001 x }] }
 | _, _, _, _, _ => none
def C65 (args : List AV) (h : Heap) : Option CSpec :=
 match args with
 | [.sc (.string s), .sc (.string f)] => some (nspec (s.data.toList.length ≤ 1000000 ∧ s.data.toList.all isDig = true ∧ f.data.toList.length ≤ 1000000 ∧ f.data.toList.all isDig = true) (valueF s.data.toList f.data.toList) (fun x => aK .i64 x) h)
 | _ => none
def C50 (args : List AV) (h : Heap) : Option CSpec :=
 match args with
 | [.sc (.string s)] => some { pre := s.data.toList.length ≤ 1000000, alts := [{ α := Int × Int, post := fun x => x.1 = prefixD s.data.toList, val := fun x => .tup [aK .i64 x.1, aK .i64 x.2], heap := fun _ => h }] }
 | _ => none
def C37 (args : List AV) (h : Heap) : Option CSpec :=
 match args with
 | [.agg [.sc (.int .i64 k), .sc (.int .i64 n), .sc (.string s)]] => some (nspec (s.data.toList.length ≤ 1000000) (numberF k n s.data.toList) (fun x => aK .i64 x) h)
 | _ => none
def C38 (args : List AV) (h : Heap) : Option CSpec :=
 match args with
 | [.sc (.int .i64 d)] => some (nspec True ((nearF d).tdiv 10000) (fun x => aK .i64 x) h)
 | _ => none
def N1 : Tab := (tab0.addL 71 3 L64)
def N2 : Tab := ((tab0.addC 71 C64).addC 92 C80).addL 72 4 L65
def N3 : Tab := (((((((((((N2.addC 72 C65).addL 50 3 L50).name 50 54).name 50 67).name 50 57).name 50 64).name 50 80).name 50 81).name 50 96).name 50 91).name 50 93).name 50 95
def N4 : Tab := (N3.addC 50 C50)
def N5 : Tab := (N4.addC 28 C37).addC 29 C38
end
end Go.Proofs.Pr
namespace Go.Proofs.Pr
open Go Go.Ef
noncomputable section
set_option maxRecDepth 100000
theorem v64 (s : List UInt8) (k : Int) (N : Int → Prop) (X : Ex → Int → Prop) (h :
 iteP (decide (k < (↑s.length : Int))) (iteP (inRange k s.length) (iteP (decide (48 ≤ byteAt s k)) (iteP (inRange k s.length) (iteP (decide (byteAt s k ≤ 57)) (I64 s (IntKind.i64.wrap (k + 1)) = I64 s (IntKind.i64.wrap (k + 1)) ∧ N (IntKind.i64.wrap (k + 1))) (E64 k = E64 k ∧ X (Ex.exit 0) k)) False) (E64 k = E64 k ∧ X (Ex.exit 0) k)) False) (E64 k = E64 k ∧ X (Ex.exit 0) k)) :
 (fun (s : List UInt8) (k : Int) (N : Int → Prop) (X : Ex → Int → Prop) => wpRound tab0 Door.cfg Tryz.prog 40 71 3 (I64 s k) (fun τ => τ = I64 s (slI τ 3) ∧ N (slI τ 3)) (fun e τ => τ = E64 (slI τ 3) ∧ X e (slI τ 3))) s k N X :=
 Eq.mp (by kernel_rfl) h
theorem c64 (s : List UInt8) (K : AV → Prop) (h :
 loopAt Tryz.prog 71 3 = loopAt Tryz.prog 71 3 ∧ (I64 s 0 = I64 s 0 ∧ (0 : Int) = 0 ∧ s.length ≤ 1000000) ∧ ∀ (x : Int), x = (↑(digN s) : Int) → K (AV.sc (Value.int IntKind.i64 x))) :
 (fun (s : List UInt8) (K : AV → Prop) => wpCall N1 Door.cfg Tryz.prog 40 71 [aStr s] heapF fun r h' => wpBack h' r K) s K :=
 Eq.mp (by kernel_rfl) h
theorem c80 (s : List UInt8) (K : AV → Prop) (h :
 iteP (decide (0 < (↑s.length : Int))) (iteP (inRange 0 s.length) (iteP (decide (1 < (↑s.length : Int))) (iteP (inRange 1 s.length) (iteP (decide (2 < (↑s.length : Int))) (iteP (inRange 2 s.length) (iteP (decide (3 < (↑s.length : Int))) (iteP (inRange 3 s.length) (K (AV.sc (Value.int IntKind.i64 (IntKind.i64.wrap (IntKind.i64.wrap (IntKind.i64.wrap (IntKind.i64.wrap (IntKind.i64.wrap
 (IntKind.i64.wrap (IntKind.i64.wrap (0 + IntKind.i64.wrap (IntKind.u8.wrap (byteAt s 0 - 48))) * 10) + IntKind.i64.wrap (IntKind.u8.wrap (byteAt s 1 - 48))) * 10) + IntKind.i64.wrap (IntKind.u8.wrap (byteAt s 2 - 48))) * 10) + IntKind.i64.wrap (IntKind.u8.wrap (byteAt s 3 - 48))))))) False) (K (AV.sc (Value.int IntKind.i64 (IntKind.i64.wrap (IntKind.i64.wrap (IntKind.i64.wrap (IntKind.i64.wrap
 (IntKind.i64.wrap (IntKind.i64.wrap (0 + IntKind.i64.wrap (IntKind.u8.wrap (byteAt s 0 - 48))) * 10) + IntKind.i64.wrap (IntKind.u8.wrap (byteAt s 1 - 48))) * 10) + IntKind.i64.wrap (IntKind.u8.wrap (byteAt s 2 - 48))) * 10)))))) False) (iteP (decide (3 < (↑s.length : Int))) (iteP (inRange 3 s.length) (K (AV.sc (Value.int IntKind.i64 (IntKind.i64.wrap (IntKind.i64.wrap (IntKind.i64.wrap
 (IntKind.i64.wrap (IntKind.i64.wrap (IntKind.i64.wrap (0 + IntKind.i64.wrap (IntKind.u8.wrap (byteAt s 0 - 48))) * 10) + IntKind.i64.wrap (IntKind.u8.wrap (byteAt s 1 - 48))) * 10) * 10) + IntKind.i64.wrap (IntKind.u8.wrap (byteAt s 3 - 48))))))) False) (K (AV.sc (Value.int IntKind.i64 (IntKind.i64.wrap (IntKind.i64.wrap (IntKind.i64.wrap (IntKind.i64.wrap (IntKind.i64.wrap
 (0 + IntKind.i64.wrap (IntKind.u8.wrap (byteAt s 0 - 48))) * 10) + IntKind.i64.wrap (IntKind.u8.wrap (byteAt s 1 - 48))) * 10) * 10))))))) False) (iteP (decide (2 < (↑s.length : Int))) (iteP (inRange 2 s.length) (iteP (decide (3 < (↑s.length : Int))) (iteP (inRange 3 s.length) (K (AV.sc (Value.int IntKind.i64 (IntKind.i64.wrap (IntKind.i64.wrap (IntKind.i64.wrap (IntKind.i64.wrap (IntKind.i64.wrap
 (IntKind.i64.wrap (0 + IntKind.i64.wrap (IntKind.u8.wrap (byteAt s 0 - 48))) * 10) * 10) + IntKind.i64.wrap (IntKind.u8.wrap (byteAt s 2 - 48))) * 10) + IntKind.i64.wrap (IntKind.u8.wrap (byteAt s 3 - 48))))))) False) (K (AV.sc (Value.int IntKind.i64 (IntKind.i64.wrap (IntKind.i64.wrap (IntKind.i64.wrap (IntKind.i64.wrap (IntKind.i64.wrap (0 + IntKind.i64.wrap (IntKind.u8.wrap (byteAt s 0 - 48))) *
 10) * 10) + IntKind.i64.wrap (IntKind.u8.wrap (byteAt s 2 - 48))) * 10)))))) False) (iteP (decide (3 < (↑s.length : Int))) (iteP (inRange 3 s.length) (K (AV.sc (Value.int IntKind.i64 (IntKind.i64.wrap (IntKind.i64.wrap (IntKind.i64.wrap (IntKind.i64.wrap (IntKind.i64.wrap (0 + IntKind.i64.wrap (IntKind.u8.wrap (byteAt s 0 - 48))) * 10) * 10) * 10) +
 IntKind.i64.wrap (IntKind.u8.wrap (byteAt s 3 - 48))))))) False) (K (AV.sc (Value.int IntKind.i64 (IntKind.i64.wrap (IntKind.i64.wrap (IntKind.i64.wrap (IntKind.i64.wrap (0 + IntKind.i64.wrap (IntKind.u8.wrap (byteAt s 0 - 48))) * 10) * 10) * 10)))))))) False) (iteP (decide (1 < (↑s.length : Int))) (iteP (inRange 1 s.length) (iteP (decide (2 < (↑s.length : Int))) (iteP (inRange 2 s.length)
 (iteP (decide (3 < (↑s.length : Int))) (iteP (inRange 3 s.length) (K (AV.sc (Value.int IntKind.i64 (IntKind.i64.wrap (IntKind.i64.wrap (IntKind.i64.wrap (IntKind.i64.wrap (IntKind.i64.wrap (0 + IntKind.i64.wrap (IntKind.u8.wrap (byteAt s 1 - 48))) * 10) + IntKind.i64.wrap (IntKind.u8.wrap (byteAt s 2 - 48))) * 10) + IntKind.i64.wrap (IntKind.u8.wrap (byteAt s 3 - 48))))))) False) (K (AV.sc
 (Value.int IntKind.i64 (IntKind.i64.wrap (IntKind.i64.wrap (IntKind.i64.wrap (IntKind.i64.wrap (0 + IntKind.i64.wrap (IntKind.u8.wrap (byteAt s 1 - 48))) * 10) + IntKind.i64.wrap (IntKind.u8.wrap (byteAt s 2 - 48))) * 10)))))) False) (iteP (decide (3 < (↑s.length : Int))) (iteP (inRange 3 s.length) (K (AV.sc (Value.int IntKind.i64 (IntKind.i64.wrap (IntKind.i64.wrap (IntKind.i64.wrap
 (IntKind.i64.wrap (0 + IntKind.i64.wrap (IntKind.u8.wrap (byteAt s 1 - 48))) * 10) * 10) + IntKind.i64.wrap (IntKind.u8.wrap (byteAt s 3 - 48))))))) False) (K (AV.sc (Value.int IntKind.i64 (IntKind.i64.wrap (IntKind.i64.wrap (IntKind.i64.wrap (0 + IntKind.i64.wrap (IntKind.u8.wrap (byteAt s 1 - 48))) * 10) * 10))))))) False) (iteP (decide (2 < (↑s.length : Int))) (iteP (inRange 2 s.length)
 (iteP (decide (3 < (↑s.length : Int))) (iteP (inRange 3 s.length) (K (AV.sc (Value.int IntKind.i64 (IntKind.i64.wrap (IntKind.i64.wrap (IntKind.i64.wrap (0 + IntKind.i64.wrap (IntKind.u8.wrap (byteAt s 2 - 48))) * 10) + IntKind.i64.wrap (IntKind.u8.wrap (byteAt s 3 - 48))))))) False) (K (AV.sc (Value.int IntKind.i64 (IntKind.i64.wrap
 (IntKind.i64.wrap (0 + IntKind.i64.wrap (IntKind.u8.wrap (byteAt s 2 - 48))) * 10)))))) False) (iteP (decide (3 < (↑s.length : Int))) (iteP (inRange 3 s.length) (K (AV.sc (Value.int IntKind.i64 (IntKind.i64.wrap (0 + IntKind.i64.wrap (IntKind.u8.wrap (byteAt s 3 - 48))))))) False) (K (AV.sc (Value.int IntKind.i64 0))))))) :
 (fun (s : List UInt8) (K : AV → Prop) => wpCall tab0 Door.cfg Tryz.prog 60 92 [aStr s] heapF fun r h' => wpBack h' r K) s K :=
 Eq.mp (by kernel_rfl) h
theorem v65 (s : List UInt8) (f : List UInt8) (d : Int) (n : Int) (k : Int) (N : Int → Int → Prop) (X : Int → Int → Prop) (E : Ex → Int → Prop) (h :
 iteP (decide (k < n)) (iteP (inRange k s.length) (iteP (decide (1000000000 < IntKind.i64.wrap (IntKind.i64.wrap (10 * d) + IntKind.i64.wrap (IntKind.u8.wrap (byteAt s k - 48))))) (J65 f 10000000000001 (IntKind.i64.wrap (IntKind.i64.wrap (10 * d) + IntKind.i64.wrap (IntKind.u8.wrap (byteAt s k - 48)))) = J65 f 10000000000001 (IntKind.i64.wrap
 (IntKind.i64.wrap (10 * d) + IntKind.i64.wrap (IntKind.u8.wrap (byteAt s k - 48)))) ∧ X 10000000000001 (IntKind.i64.wrap (IntKind.i64.wrap (10 * d) + IntKind.i64.wrap (IntKind.u8.wrap (byteAt s k - 48))))) (I65 s f (IntKind.i64.wrap (IntKind.i64.wrap (10 * d) + IntKind.i64.wrap (IntKind.u8.wrap (byteAt s k - 48)))) n (IntKind.i64.wrap (k + 1)) = I65 s f (IntKind.i64.wrap
 (IntKind.i64.wrap (10 * d) + IntKind.i64.wrap (IntKind.u8.wrap (byteAt s k - 48)))) n (IntKind.i64.wrap (k + 1)) ∧ N (IntKind.i64.wrap (IntKind.i64.wrap (10 * d) + IntKind.i64.wrap (IntKind.u8.wrap (byteAt s k - 48)))) (IntKind.i64.wrap (k + 1)))) False) (E65 f d = E65 f d ∧ E (Ex.exit 0) d)) :
 (fun (s f : List UInt8) (d n k : Int) (N : Int → Int → Prop) (X : Int → Int → Prop) (E : Ex → Int → Prop) => wpRound tab0 Door.cfg Tryz.prog 40 72 4 (I65 s f d n k) (fun τ => τ = I65 s f (slI τ 5) n (slI τ 9) ∧ N (slI τ 5) (slI τ 9)) (fun e τ => match e with | .ret => τ = J65 f (slI τ 4) (slI τ 5) ∧ X (slI τ 4) (slI τ 5) | e => τ = E65 f (slI τ 5) ∧ E e (slI τ 5))) s f d n k N X E :=
 Eq.mp (by kernel_rfl) h
theorem c65 (s : List UInt8) (f : List UInt8) (K : AV → Prop) (h :
 loopAt Tryz.prog 72 4 = loopAt Tryz.prog 72 4 ∧ (I65 s f 0 (↑s.length : Int) 0 = I65 s f 0 (↑s.length : Int) 0 ∧ (0 : Int) = 0 ∧ (0 : Int) = 0 ∧ (↑s.length : Int) = (↑s.length : Int) ∧ s.length ≤ 1000000 ∧ s.all isDig = true) ∧ (∀ (x : Int), valL s 0 = some x → (f.length ≤ 1000000 ∧ f.all isDig = true) ∧ ∀ (x_1 : Int), x_1 = fracL f → K (AV.sc (Value.int IntKind.i64
 (min 10000000000001 (IntKind.i64.wrap (IntKind.i64.wrap (x * 10000) + x_1)))))) ∧ ∀ (_ : Int), valL s 0 = none → K (AV.sc (Value.int IntKind.i64 10000000000001))) :
 (fun (s f : List UInt8) (K : AV → Prop) => wpCall N2 Door.cfg Tryz.prog 40 72 [aStr s, aStr f] heapF fun r h' => wpBack h' r K) s f K :=
 Eq.mp (by kernel_rfl) h
theorem v50 (s : List UInt8) (k : Int) (N : Int → Prop) (X : Ex → Int → Prop) (h :
 iteP (decide (k < (↑s.length : Int))) (iteP (inRange k s.length) (iteP (byteAt s k == 32) (I50 s (IntKind.i64.wrap (k + 1)) = I50 s (IntKind.i64.wrap (k + 1)) ∧ N (IntKind.i64.wrap (k + 1))) (iteP (inRange k s.length) (iteP (byteAt s k == 9) (I50 s (IntKind.i64.wrap (k + 1)) = I50 s (IntKind.i64.wrap (k + 1)) ∧ N (IntKind.i64.wrap (k + 1))) (I50 s k = I50 s k ∧ X (Ex.exit 0) k)) False)) False)
 (I50 s k = I50 s k ∧ X (Ex.exit 0) k)) :
 (fun (s : List UInt8) (k : Int) (N : Int → Prop) (X : Ex → Int → Prop) => wpRound tab0 Door.cfg Tryz.prog 40 50 3 (I50 s k) (fun τ => τ = I50 s (slI τ 4) ∧ N (slI τ 4)) (fun e τ => τ = I50 s (slI τ 4) ∧ X e (slI τ 4))) s k N X :=
 Eq.mp (by kernel_rfl) h
theorem c37 (k : Int) (n : Int) (s : List UInt8) (K : AV → Prop) (h :
 iteP (k == 2) (s.length.le 1000000 ∧ ∀ (x : Int × Int), x.fst = prefixD s → K (AV.sc (Value.int IntKind.i64 x.fst))) (iteP (k == 1) (K (AV.sc (Value.int IntKind.i64 (min (max n (-10000000000000)) 10000000000000)))) (iteP (k == 3) (K (AV.sc (Value.int IntKind.i64 (min (max n (-10000000000000)) 10000000000000)))) (K (AV.sc (Value.int IntKind.i64 0)))))) :
 (fun (k n : Int) (s : List UInt8) (K : AV → Prop) => wpCall N4 Door.cfg Tryz.prog 40 28 [.agg [aK .i64 k, aK .i64 n, aStr s]] heapF fun r h' => wpBack h' r K) k n s K :=
 Eq.mp (by kernel_rfl) h
theorem c38 (d : Int) (K : AV → Prop) (h :
 K (AV.sc (Value.int IntKind.i64 (IntKind.i64.wrap ((max (-10000000000000) (min 10000000000000 d)).tdiv 10000))))) :
 (fun (d : Int) (K : AV → Prop) => wpCall tab0 Door.cfg Tryz.prog 40 29 [aK .i64 d] heapF fun r h' => wpBack h' r K) d K :=
 Eq.mp (by kernel_rfl) h
end
end Go.Proofs.Pr
namespace Go.Proofs.Pr
open Go Go.Ef
noncomputable section
set_option maxRecDepth 100000
theorem c50 (s : List UInt8) (K : Int → Prop) (h :
 loopAt Tryz.prog 50 3 = loopAt Tryz.prog 50 3 ∧ (I50 s 0 = I50 s 0 ∧ (0 : Int) = 0 ∧ s.length ≤ 1000000) ∧ ∀ (x : Int), x = (↑(blankN s) : Int) → iteP (decide (x < (↑s.length : Int))) (iteP (inRange x s.length) (iteP (byteAt s x == 45) (∀ (m : Int), m = IntKind.i64.wrap (x + 1) → iteP (decide (0 ≤ m) && decide (m ≤ (↑s.length : Int))) (∀ (l : List UInt8), l = List.drop m.toNat s →
 l.length.le 1000000 ∧ ∀ (x : Int), x = (↑(digN l) : Int) → iteP (decide (0 ≤ m) && (decide (m ≤ IntKind.i64.wrap (m + x)) && decide (IntKind.i64.wrap (m + x) ≤ (↑s.length : Int)))) (∀ (l : List UInt8), l = cutL s m (IntKind.i64.wrap (m + x)) → ∀ (m_1 : Int), m_1 = IntKind.i64.wrap (m + x) → iteP (decide (m_1 < (↑s.length : Int))) (iteP (inRange m_1 s.length) (iteP (byteAt s m_1 == 46) (∀ (m : Int),
 m = IntKind.i64.wrap (m_1 + 1) → iteP (decide (0 ≤ m) && decide (m ≤ (↑s.length : Int))) (∀ (l_1 : List UInt8), l_1 = List.drop m.toNat s → l_1.length.le 1000000 ∧ ∀ (x_1 : Int), x_1 = (↑(digN l_1) : Int) → iteP (decide (0 < x)) (∀ (m : Int), m = IntKind.i64.wrap (m_1 + 1) → ∀ (m_2 : Int), m_2 = IntKind.i64.wrap (m_1 + 1) → ∀ (m_3 : Int), m_3 = IntKind.i64.wrap (m_2 + x_1) → iteP (decide (0 ≤ m) &&
 (decide (m ≤ m_3) && decide (m_3 ≤ (↑s.length : Int)))) (∀ (l_2 : List UInt8), l_2 = cutL s m m_3 → iteP (x == 0) (iteP (decide (l_2 = [])) (K 0) ((l.length ≤ 1000000 ∧ l.all isDig = true ∧ l_2.length ≤ 1000000 ∧ l_2.all isDig = true) ∧ ∀ (x : Int), x = valueF l l_2 → K (IntKind.i64.wrap (0 - min (10000000000000 : Int) x)))) ((l.length ≤ 1000000 ∧ l.all isDig = true ∧ l_2.length ≤ 1000000 ∧
 l_2.all isDig = true) ∧ ∀ (x : Int), x = valueF l l_2 → K (IntKind.i64.wrap (0 - min 10000000000000 x)))) False) (iteP (decide (0 < x_1)) (∀ (m : Int), m = IntKind.i64.wrap (m_1 + 1) → ∀ (m_2 : Int), m_2 = IntKind.i64.wrap (m_1 + 1) → ∀ (m_3 : Int), m_3 = IntKind.i64.wrap (m_2 + x_1) → iteP (decide (0 ≤ m) && (decide (m ≤ m_3) && decide (m_3 ≤ (↑s.length : Int)))) (∀ (l_2 : List UInt8),
 l_2 = cutL s m m_3 → iteP (x == 0) (iteP (decide (l_2 = [])) (K 0) ((l.length ≤ 1000000 ∧ l.all isDig = true ∧ l_2.length ≤ 1000000 ∧ l_2.all isDig = true) ∧ ∀ (x : Int), x = valueF l l_2 → K (IntKind.i64.wrap (0 - min (10000000000000 : Int) x)))) ((l.length ≤ 1000000 ∧ l.all isDig = true ∧ l_2.length ≤ 1000000 ∧ l_2.all isDig = true) ∧ ∀ (x : Int), x = valueF l l_2 → K (IntKind.i64.wrap (0 - min
 (10000000000000 : Int) x)))) False) (iteP (x == 0) (K 0) ((l.length ≤ 1000000 ∧ l.all isDig = true ∧ (0 : Nat) ≤ 1000000 ∧ true = true) ∧ ∀ (x : Int), x = valueF l [] → K (IntKind.i64.wrap (0 - min 10000000000000 x)))))) False) (iteP (x == 0) (K 0) ((l.length ≤ 1000000 ∧ l.all isDig = true ∧ (0 : Nat) ≤ 1000000 ∧ true = true) ∧ ∀ (x : Int), x = valueF l [] →
 K (IntKind.i64.wrap (0 - min 10000000000000 x))))) False) (iteP (x == 0) (K 0) ((l.length ≤ 1000000 ∧ l.all isDig = true ∧ (0 : Nat) ≤ 1000000 ∧ true = true) ∧ ∀ (x : Int), x = valueF l [] → K (IntKind.i64.wrap (0 - min 10000000000000 x))))) False) False) (iteP (decide (x < (↑s.length : Int))) (iteP (inRange x s.length) (iteP (byteAt s x == 43) (∀ (m : Int), m = IntKind.i64.wrap (x + 1) →
 iteP (decide (0 ≤ m) && decide (m ≤ (↑s.length : Int))) (∀ (l : List UInt8), l = List.drop m.toNat s → l.length.le 1000000 ∧ ∀ (x : Int), x = (↑(digN l) : Int) → iteP (decide (0 ≤ m) && (decide (m ≤ IntKind.i64.wrap (m + x)) && decide (IntKind.i64.wrap (m + x) ≤ (↑s.length : Int)))) (∀ (l : List UInt8), l = cutL s m (IntKind.i64.wrap (m + x)) → ∀ (m_1 : Int), m_1 = IntKind.i64.wrap (m + x) →
 iteP (decide (m_1 < (↑s.length : Int))) (iteP (inRange m_1 s.length) (iteP (byteAt s m_1 == 46) (∀ (m : Int), m = IntKind.i64.wrap (m_1 + 1) → iteP (decide (0 ≤ m) && decide (m ≤ (↑s.length : Int))) (∀ (l_1 : List UInt8), l_1 = List.drop m.toNat s → l_1.length.le 1000000 ∧ ∀ (x_1 : Int), x_1 = (↑(digN l_1) : Int) → iteP (decide (0 < x)) (∀ (m : Int), m = IntKind.i64.wrap (m_1 + 1) → ∀ (m_2 : Int),
 m_2 = IntKind.i64.wrap (m_1 + 1) → ∀ (m_3 : Int), m_3 = IntKind.i64.wrap (m_2 + x_1) → iteP (decide (0 ≤ m) && (decide (m ≤ m_3) && decide (m_3 ≤ (↑s.length : Int)))) (∀ (l_2 : List UInt8), l_2 = cutL s m m_3 → iteP (x == 0) (iteP (decide (l_2 = [])) (K 0) ((l.length ≤ 1000000 ∧ l.all isDig = true ∧ l_2.length ≤ 1000000 ∧ l_2.all isDig = true) ∧ ∀ (x : Int), x = valueF l l_2 → K (min
 (10000000000000 : Int) x))) ((l.length ≤ 1000000 ∧ l.all isDig = true ∧ l_2.length ≤ 1000000 ∧ l_2.all isDig = true) ∧ ∀ (x : Int), x = valueF l l_2 → K (min (10000000000000 : Int) x))) False) (iteP (decide (0 < x_1)) (∀ (m : Int), m = IntKind.i64.wrap (m_1 + 1) → ∀ (m_2 : Int), m_2 = IntKind.i64.wrap (m_1 + 1) → ∀ (m_3 : Int), m_3 = IntKind.i64.wrap (m_2 + x_1) → iteP (decide (0 ≤ m) &&
 (decide (m ≤ m_3) && decide (m_3 ≤ (↑s.length : Int)))) (∀ (l_2 : List UInt8), l_2 = cutL s m m_3 → iteP (x == 0) (iteP (decide (l_2 = [])) (K 0) ((l.length ≤ 1000000 ∧ l.all isDig = true ∧ l_2.length ≤ (1000000 : Nat) ∧ l_2.all isDig = true) ∧ ∀ (x : Int), x = valueF l l_2 → K (min (10000000000000 : Int) x))) ((l.length ≤ 1000000 ∧ l.all isDig = true ∧ l_2.length ≤ 1000000 ∧ l_2.all isDig =
 true) ∧ ∀ (x : Int), x = valueF l l_2 → K (min (10000000000000 : Int) x))) False) (iteP (x == 0) (K 0) ((l.length ≤ 1000000 ∧ l.all isDig = true ∧ (0 : Nat) ≤ 1000000 ∧ true = true) ∧ ∀ (x : Int), x = valueF l [] → K (min 10000000000000 x))))) False) (iteP (x == 0) (K 0) ((l.length ≤ 1000000 ∧ l.all isDig = true ∧ (0 : Nat) ≤ 1000000 ∧ true = true) ∧ ∀ (x : Int),
 x = valueF l [] → K (min 10000000000000 x)))) False) (iteP (x == 0) (K 0) ((l.length ≤ 1000000 ∧ l.all isDig = true ∧ (0 : Nat) ≤ 1000000 ∧ true = true) ∧ ∀ (x : Int), x = valueF l [] → K (min 10000000000000 x)))) False) False) (iteP (decide (0 ≤ x) && decide (x ≤ (↑s.length : Int))) (∀ (l : List UInt8), l = List.drop x.toNat s → l.length.le 1000000 ∧ ∀ (x_1 : Int), x_1 = (↑(digN l) : Int) → iteP
 (decide (0 ≤ x) && (decide (x ≤ IntKind.i64.wrap (x + x_1)) && decide (IntKind.i64.wrap (x + x_1) ≤ (↑s.length : Int)))) (∀ (l : List UInt8), l = cutL s x (IntKind.i64.wrap (x + x_1)) → ∀ (m : Int), m = IntKind.i64.wrap (x + x_1) → iteP (decide (m < (↑s.length : Int))) (iteP (inRange m s.length) (iteP (byteAt s m == 46) (∀ (m_1 : Int), m_1 = IntKind.i64.wrap (m + 1) →
 iteP (decide (0 ≤ m_1) && decide (m_1 ≤ (↑s.length : Int))) (∀ (l_1 : List UInt8), l_1 = List.drop m_1.toNat s → l_1.length.le 1000000 ∧ ∀ (x : Int), x = (↑(digN l_1) : Int) → iteP (decide (0 < x_1)) (∀ (m_2 : Int), m_2 = IntKind.i64.wrap (m + 1) → ∀ (m_3 : Int), m_3 = IntKind.i64.wrap (m + 1) → ∀ (m : Int), m = IntKind.i64.wrap (m_3 + x) → iteP (decide (0 ≤ m_2) && (decide (m_2 ≤ m) &&
 decide (m ≤ (↑s.length : Int)))) (∀ (l_2 : List UInt8), l_2 = cutL s m_2 m → iteP (x_1 == 0) (iteP (decide (l_2 = [])) (K 0) ((l.length ≤ 1000000 ∧ l.all isDig = true ∧ l_2.length ≤ 1000000 ∧ l_2.all isDig = true) ∧ ∀ (x : Int), x = valueF l l_2 → K (min 10000000000000 x))) ((l.length ≤ 1000000 ∧ l.all isDig = true ∧ l_2.length ≤ 1000000 ∧ l_2.all isDig = true) ∧ ∀ (x : Int), x = valueF l l_2 → K
 (min 10000000000000 x))) False) (iteP (decide (0 < x)) (∀ (m_2 : Int), m_2 = IntKind.i64.wrap (m + 1) → ∀ (m_3 : Int), m_3 = IntKind.i64.wrap (m + 1) → ∀ (m : Int), m = IntKind.i64.wrap (m_3 + x) → iteP (decide (0 ≤ m_2) && (decide (m_2 ≤ m) && decide (m ≤ (↑s.length : Int)))) (∀ (l_2 : List UInt8), l_2 = cutL s m_2 m → iteP (x_1 == 0) (iteP (decide (l_2 = [])) (K 0) ((l.length ≤ 1000000 ∧
 l.all isDig = true ∧ l_2.length ≤ 1000000 ∧ l_2.all isDig = true) ∧ ∀ (x : Int), x = valueF l l_2 → K (min (10000000000000 : Int) x))) ((l.length ≤ 1000000 ∧ l.all isDig = true ∧ l_2.length ≤ 1000000 ∧ l_2.all isDig = true) ∧ ∀ (x : Int), x = valueF l l_2 → K (min 10000000000000 x))) False) (iteP (x_1 == 0) (K 0) ((l.length ≤ 1000000 ∧ l.all isDig = true ∧ (0 : Nat) ≤ 1000000 ∧ true = true) ∧
 ∀ (x : Int), x = valueF l [] → K (min 10000000000000 x))))) False) (iteP (x_1 == 0) (K 0) ((l.length ≤ 1000000 ∧ l.all isDig = true ∧ (0 : Nat) ≤ 1000000 ∧ true = true) ∧ ∀ (x : Int), x = valueF l [] → K (min 10000000000000 x)))) False) (iteP (x_1 == 0) (K 0) ((l.length ≤ 1000000 ∧ l.all isDig = true ∧ (0 : Nat) ≤ 1000000 ∧ true = true) ∧ ∀ (x : Int), x = valueF l [] → K (min 10000000000000 x))))
 False) False)) False) (iteP (decide (0 ≤ x) && decide (x ≤ (↑s.length : Int))) (∀ (l : List UInt8), l = List.drop x.toNat s → l.length.le 1000000 ∧ ∀ (x_1 : Int), x_1 = (↑(digN l) : Int) → iteP (decide (0 ≤ x) && (decide (x ≤ IntKind.i64.wrap (x + x_1)) && decide (IntKind.i64.wrap (x + x_1) ≤ (↑s.length : Int)))) (∀ (l : List UInt8), l = cutL s x (IntKind.i64.wrap (x + x_1)) → ∀ (m : Int),
 m = IntKind.i64.wrap (x + x_1) → iteP (decide (m < (↑s.length : Int))) (iteP (inRange m s.length) (iteP (byteAt s m == 46) (∀ (m_1 : Int), m_1 = IntKind.i64.wrap (m + 1) → iteP (decide (0 ≤ m_1) && decide (m_1 ≤ (↑s.length : Int))) (∀ (l_1 : List UInt8), l_1 = List.drop m_1.toNat s → l_1.length.le 1000000 ∧ ∀ (x : Int), x = (↑(digN l_1) : Int) → iteP (decide (0 < x_1)) (∀ (m_2 : Int),
 m_2 = IntKind.i64.wrap (m + 1) → ∀ (m_3 : Int), m_3 = IntKind.i64.wrap (m + 1) → ∀ (m : Int), m = IntKind.i64.wrap (m_3 + x) → iteP (decide (0 ≤ m_2) && (decide (m_2 ≤ m) && decide (m ≤ (↑s.length : Int)))) (∀ (l_2 : List UInt8), l_2 = cutL s m_2 m → iteP (x_1 == 0) (iteP (decide (l_2 = [])) (K 0) ((l.length ≤ 1000000 ∧ l.all isDig = true ∧ l_2.length ≤ 1000000 ∧ l_2.all isDig = true) ∧
 ∀ (x : Int), x = valueF l l_2 → K (min 10000000000000 x))) ((l.length ≤ 1000000 ∧ l.all isDig = true ∧ l_2.length ≤ 1000000 ∧ l_2.all isDig = true) ∧ ∀ (x : Int), x = valueF l l_2 → K (min 10000000000000 x))) False) (iteP (decide (0 < x)) (∀ (m_2 : Int), m_2 = IntKind.i64.wrap (m + 1) → ∀ (m_3 : Int), m_3 = IntKind.i64.wrap (m + 1) → ∀ (m : Int), m = IntKind.i64.wrap (m_3 + x) → iteP
 (decide (0 ≤ m_2) && (decide (m_2 ≤ m) && decide (m ≤ (↑s.length : Int)))) (∀ (l_2 : List UInt8), l_2 = cutL s m_2 m → iteP (x_1 == 0) (iteP (decide (l_2 = [])) (K 0) ((l.length ≤ 1000000 ∧ l.all isDig = true ∧ l_2.length ≤ 1000000 ∧ l_2.all isDig = true) ∧ ∀ (x : Int), x = valueF l l_2 → K (min 10000000000000 x))) ((l.length ≤ 1000000 ∧ l.all isDig = true ∧ l_2.length ≤ 1000000 ∧
 l_2.all isDig = true) ∧ ∀ (x : Int), x = valueF l l_2 → K (min 10000000000000 x))) False) (iteP (x_1 == 0) (K 0) ((l.length ≤ 1000000 ∧ l.all isDig = true ∧ (0 : Nat) ≤ 1000000 ∧ true = true) ∧ ∀ (x : Int), x = valueF l [] → K (min 10000000000000 x))))) False) (iteP (x_1 == 0) (K 0) ((l.length ≤ 1000000 ∧ l.all isDig = true ∧ (0 : Nat) ≤ 1000000 ∧ true = true) ∧
 ∀ (x : Int), x = valueF l [] → K (min 10000000000000 x)))) False) (iteP (x_1 == 0) (K 0) ((l.length ≤ 1000000 ∧ l.all isDig = true ∧ (0 : Nat) ≤ 1000000 ∧ true = true) ∧ ∀ (x : Int), x = valueF l [] → K (min 10000000000000 x)))) False) False))) False) (iteP (decide (x < (↑s.length : Int))) (iteP (inRange x s.length) (iteP (byteAt s x == 43) (∀ (m : Int), m = IntKind.i64.wrap (x + 1) →
 iteP (decide (0 ≤ m) && decide (m ≤ (↑s.length : Int))) (∀ (l : List UInt8), l = List.drop m.toNat s → l.length.le 1000000 ∧ ∀ (x : Int), x = (↑(digN l) : Int) → iteP (decide (0 ≤ m) && (decide (m ≤ IntKind.i64.wrap (m + x)) && decide (IntKind.i64.wrap (m + x) ≤ (↑s.length : Int)))) (∀ (l : List UInt8), l = cutL s m (IntKind.i64.wrap (m + x)) → ∀ (m_1 : Int), m_1 = IntKind.i64.wrap (m + x) →
 iteP (decide (m_1 < (↑s.length : Int))) (iteP (inRange m_1 s.length) (iteP (byteAt s m_1 == 46) (∀ (m : Int), m = IntKind.i64.wrap (m_1 + 1) → iteP (decide (0 ≤ m) && decide (m ≤ (↑s.length : Int))) (∀ (l_1 : List UInt8), l_1 = List.drop m.toNat s → l_1.length.le 1000000 ∧ ∀ (x_1 : Int), x_1 = (↑(digN l_1) : Int) → iteP (decide (0 < x)) (∀ (m : Int), m = IntKind.i64.wrap (m_1 + 1) → ∀ (m_2 : Int),
 m_2 = IntKind.i64.wrap (m_1 + 1) → ∀ (m_3 : Int), m_3 = IntKind.i64.wrap (m_2 + x_1) → iteP (decide (0 ≤ m) && (decide (m ≤ m_3) && decide (m_3 ≤ (↑s.length : Int)))) (∀ (l_2 : List UInt8), l_2 = cutL s m m_3 → iteP (x == 0) (iteP (decide (l_2 = [])) (K 0) ((l.length ≤ 1000000 ∧ l.all isDig = true ∧ l_2.length ≤ 1000000 ∧ l_2.all isDig = true) ∧ ∀ (x : Int), x = valueF l l_2 → K (min 10000000000000
 x))) ((l.length ≤ 1000000 ∧ l.all isDig = true ∧ l_2.length ≤ 1000000 ∧ l_2.all isDig = true) ∧ ∀ (x : Int), x = valueF l l_2 → K (min 10000000000000 x))) False) (iteP (decide (0 < x_1)) (∀ (m : Int), m = IntKind.i64.wrap (m_1 + 1) → ∀ (m_2 : Int), m_2 = IntKind.i64.wrap (m_1 + 1) → ∀ (m_3 : Int), m_3 = IntKind.i64.wrap (m_2 + x_1) → iteP (decide (0 ≤ m) && (decide (m ≤ m_3) &&
 decide (m_3 ≤ (↑s.length : Int)))) (∀ (l_2 : List UInt8), l_2 = cutL s m m_3 → iteP (x == 0) (iteP (decide (l_2 = [])) (K 0) ((l.length ≤ 1000000 ∧ l.all isDig = true ∧ l_2.length ≤ 1000000 ∧ l_2.all isDig = true) ∧ ∀ (x : Int), x = valueF l l_2 → K (min (10000000000000 : Int) x))) ((l.length ≤ 1000000 ∧ l.all isDig = true ∧ l_2.length ≤ 1000000 ∧ l_2.all isDig = true) ∧ ∀ (x : Int),
 x = valueF l l_2 → K (min 10000000000000 x))) False) (iteP (x == 0) (K 0) ((l.length ≤ 1000000 ∧ l.all isDig = true ∧ (0 : Nat) ≤ 1000000 ∧ true = true) ∧ ∀ (x : Int), x = valueF l [] → K (min 10000000000000 x))))) False) (iteP (x == 0) (K 0) ((l.length ≤ 1000000 ∧ l.all isDig = true ∧ (0 : Nat) ≤ 1000000 ∧ true = true) ∧ ∀ (x : Int), x = valueF l [] → K (min 10000000000000 x)))) False)
 (iteP (x == 0) (K 0) ((l.length ≤ 1000000 ∧ l.all isDig = true ∧ (0 : Nat) ≤ 1000000 ∧ true = true) ∧ ∀ (x : Int), x = valueF l [] → K (min 10000000000000 x)))) False) False) (iteP (decide (0 ≤ x) && decide (x ≤ (↑s.length : Int))) (∀ (l : List UInt8), l = List.drop x.toNat s → l.length.le 1000000 ∧ ∀ (x_1 : Int), x_1 = (↑(digN l) : Int) → iteP (decide (0 ≤ x) &&
 (decide (x ≤ IntKind.i64.wrap (x + x_1)) && decide (IntKind.i64.wrap (x + x_1) ≤ (↑s.length : Int)))) (∀ (l : List UInt8), l = cutL s x (IntKind.i64.wrap (x + x_1)) → ∀ (m : Int), m = IntKind.i64.wrap (x + x_1) → iteP (decide (m < (↑s.length : Int))) (iteP (inRange m s.length) (iteP (byteAt s m == 46) (∀ (m_1 : Int), m_1 = IntKind.i64.wrap (m + 1) →
 iteP (decide (0 ≤ m_1) && decide (m_1 ≤ (↑s.length : Int))) (∀ (l_1 : List UInt8), l_1 = List.drop m_1.toNat s → l_1.length.le 1000000 ∧ ∀ (x : Int), x = (↑(digN l_1) : Int) → iteP (decide (0 < x_1)) (∀ (m_2 : Int), m_2 = IntKind.i64.wrap (m + 1) → ∀ (m_3 : Int), m_3 = IntKind.i64.wrap (m + 1) → ∀ (m : Int), m = IntKind.i64.wrap (m_3 + x) → iteP (decide (0 ≤ m_2) && (decide (m_2 ≤ m) &&
 decide (m ≤ (↑s.length : Int)))) (∀ (l_2 : List UInt8), l_2 = cutL s m_2 m → iteP (x_1 == 0) (iteP (decide (l_2 = [])) (K 0) ((l.length ≤ 1000000 ∧ l.all isDig = true ∧ l_2.length ≤ 1000000 ∧ l_2.all isDig = true) ∧ ∀ (x : Int), x = valueF l l_2 → K (min 10000000000000 x))) ((l.length ≤ 1000000 ∧ l.all isDig = true ∧ l_2.length ≤ 1000000 ∧ l_2.all isDig = true) ∧ ∀ (x : Int), x = valueF l l_2 → K
 (min 10000000000000 x))) False) (iteP (decide (0 < x)) (∀ (m_2 : Int), m_2 = IntKind.i64.wrap (m + 1) → ∀ (m_3 : Int), m_3 = IntKind.i64.wrap (m + 1) → ∀ (m : Int), m = IntKind.i64.wrap (m_3 + x) → iteP (decide (0 ≤ m_2) && (decide (m_2 ≤ m) && decide (m ≤ (↑s.length : Int)))) (∀ (l_2 : List UInt8), l_2 = cutL s m_2 m → iteP (x_1 == 0) (iteP (decide (l_2 = [])) (K 0) ((l.length ≤ 1000000 ∧
 l.all isDig = true ∧ l_2.length ≤ 1000000 ∧ l_2.all isDig = true) ∧ ∀ (x : Int), x = valueF l l_2 → K (min 10000000000000 x))) ((l.length ≤ 1000000 ∧ l.all isDig = true ∧ l_2.length ≤ 1000000 ∧ l_2.all isDig = true) ∧ ∀ (x : Int), x = valueF l l_2 → K (min 10000000000000 x))) False) (iteP (x_1 == 0) (K 0) ((l.length ≤ 1000000 ∧ l.all isDig = true ∧ (0 : Nat) ≤ 1000000 ∧ true = true) ∧ ∀ (x : Int),
 x = valueF l [] → K (min 10000000000000 x))))) False) (iteP (x_1 == 0) (K 0) ((l.length ≤ 1000000 ∧ l.all isDig = true ∧ (0 : Nat) ≤ 1000000 ∧ true = true) ∧ ∀ (x : Int), x = valueF l [] → K (min 10000000000000 x)))) False) (iteP (x_1 == 0) (K 0) ((l.length ≤ 1000000 ∧ l.all isDig = true ∧ (0 : Nat) ≤ 1000000 ∧ true = true) ∧ ∀ (x : Int), x = valueF l [] → K (min 10000000000000 x)))) False) False))
 False) (iteP (decide (0 ≤ x) && decide (x ≤ (↑s.length : Int))) (∀ (l : List UInt8), l = List.drop x.toNat s → l.length.le 1000000 ∧ ∀ (x_1 : Int), x_1 = (↑(digN l) : Int) → iteP (decide (0 ≤ x) && (decide (x ≤ IntKind.i64.wrap (x + x_1)) && decide (IntKind.i64.wrap (x + x_1) ≤ (↑s.length : Int)))) (∀ (l : List UInt8), l = cutL s x (IntKind.i64.wrap (x + x_1)) → ∀ (m : Int),
 m = IntKind.i64.wrap (x + x_1) → iteP (decide (m < (↑s.length : Int))) (iteP (inRange m s.length) (iteP (byteAt s m == 46) (∀ (m_1 : Int), m_1 = IntKind.i64.wrap (m + 1) → iteP (decide (0 ≤ m_1) && decide (m_1 ≤ (↑s.length : Int))) (∀ (l_1 : List UInt8), l_1 = List.drop m_1.toNat s → l_1.length.le 1000000 ∧ ∀ (x : Int), x = (↑(digN l_1) : Int) → iteP (decide (0 < x_1)) (∀ (m_2 : Int),
 m_2 = IntKind.i64.wrap (m + 1) → ∀ (m_3 : Int), m_3 = IntKind.i64.wrap (m + 1) → ∀ (m : Int), m = IntKind.i64.wrap (m_3 + x) → iteP (decide (0 ≤ m_2) && (decide (m_2 ≤ m) && decide (m ≤ (↑s.length : Int)))) (∀ (l_2 : List UInt8), l_2 = cutL s m_2 m → iteP (x_1 == 0) (iteP (decide (l_2 = [])) (K 0) ((l.length ≤ 1000000 ∧ l.all isDig = true ∧ l_2.length ≤ 1000000 ∧ l_2.all isDig = true) ∧
 ∀ (x : Int), x = valueF l l_2 → K (min 10000000000000 x))) ((l.length ≤ 1000000 ∧ l.all isDig = true ∧ l_2.length ≤ 1000000 ∧ l_2.all isDig = true) ∧ ∀ (x : Int), x = valueF l l_2 → K (min 10000000000000 x))) False) (iteP (decide (0 < x)) (∀ (m_2 : Int), m_2 = IntKind.i64.wrap (m + 1) → ∀ (m_3 : Int), m_3 = IntKind.i64.wrap (m + 1) → ∀ (m : Int), m = IntKind.i64.wrap (m_3 + x) → iteP
 (decide (0 ≤ m_2) && (decide (m_2 ≤ m) && decide (m ≤ (↑s.length : Int)))) (∀ (l_2 : List UInt8), l_2 = cutL s m_2 m → iteP (x_1 == 0) (iteP (decide (l_2 = [])) (K 0) ((l.length ≤ 1000000 ∧ l.all isDig = true ∧ l_2.length ≤ 1000000 ∧ l_2.all isDig = true) ∧ ∀ (x : Int), x = valueF l l_2 → K (min 10000000000000 x))) ((l.length ≤ 1000000 ∧ l.all isDig = true ∧ l_2.length ≤ 1000000 ∧
 l_2.all isDig = true) ∧ ∀ (x : Int), x = valueF l l_2 → K (min 10000000000000 x))) False) (iteP (x_1 == 0) (K 0) ((l.length ≤ 1000000 ∧ l.all isDig = true ∧ (0 : Nat) ≤ 1000000 ∧ true = true) ∧ ∀ (x : Int), x = valueF l [] → K (min 10000000000000 x))))) False) (iteP (x_1 == 0) (K 0) ((l.length ≤ 1000000 ∧ l.all isDig = true ∧ (0 : Nat) ≤ 1000000 ∧ true = true) ∧
 ∀ (x : Int), x = valueF l [] → K (min 10000000000000 x)))) False) (iteP (x_1 == 0) (K 0) ((l.length ≤ 1000000 ∧ l.all isDig = true ∧ (0 : Nat) ≤ 1000000 ∧ true = true) ∧ ∀ (x : Int), x = valueF l [] → K (min 10000000000000 x)))) False) False))) :
 (fun (s : List UInt8) (K : Int → Prop) => wpCall N3 Door.cfg Tryz.prog 40 50 [aStr s] heapF fun r h' => wpBack h' r fun v => match v with | .tup [.sc (.int .i64 a), .sc (.int .i64 _)] => K a | _ => False) s K :=
 Eq.mp (by kernel_rfl) h
end
end Go.Proofs.Pr
namespace Go.Proofs.Pr
open Go Go.Ef
noncomputable section
set_option maxRecDepth 100000
theorem isDig_iff (c : UInt8) : (isDig c = true) = (48 ≤ (c.toNat : Int) ∧ (c.toNat : Int) ≤ 57) := by simp [isDig]
theorem useK {K : AV → Prop} {a b : Int} (hk : K (AV.sc (.int .i64 b))) (e : a = b) : K (AV.sc (.int .i64 a)) := e ▸ hk
theorem can64 (s : List UInt8) (n : Int) : (I64 s n).tidy [0, 3] 0 = I64 s n := by kernel_rfl
theorem can50 (s : List UInt8) (n : Int) : (I50 s n).tidy [0, 4] 0 = I50 s n := by kernel_rfl
theorem can65 (w f : List UInt8) (d n i : Int) : (I65 w f d n i).tidy [0, 1, 5, 8, 9] 0 = I65 w f d n i := by kernel_rfl
theorem takeWhile_step {p : UInt8 → Bool} {l : List UInt8} {c : UInt8} {r : List UInt8} (h : l = c :: r) : (l.takeWhile p).length = if p c then (r.takeWhile p).length + 1 else 0 := by
 subst h
 rw [List.takeWhile_cons]
 split <;> rfl
theorem loop64 (s : List UInt8) (hs : s.length ≤ 1000000) : Ev Door.cfg Tryz.prog 71 (.loop (loopAt Tryz.prog 71 3)) (I64 s 0) fun e τ => τ = E64 (slI τ 3) ∧ e = .exit 0 ∧ slI τ 3 = digN s := by
 refine loop_rd (C := Door.cfg) (P := Tryz.prog) tab0_ok (f := 71) (i := 3) (n := 40) (fun x : Int => I64 s x) (fun τ => slI τ 3) (fun x => 0 ≤ x ∧ x ≤ s.length ∧ (digN s : Int) = x + digN (s.drop x.toNat)) (fun x => s.length - x.toNat) (by kernel_rfl)
  (fun x t ht => ?_) (fun x hx => ?_) 0 ⟨Int.le_refl _, by omega, by simp⟩
 ·replace ht : Door.tidy 71 3 = some t := ht
  cases ht
  exact can64 s x
 ·obtain ⟨q1, q2, q3⟩ := hx
  refine v64 s x (fun y => (0 ≤ y ∧ y ≤ s.length ∧ (digN s : Int) = y + digN (s.drop y.toNat)) ∧ s.length - y.toNat < s.length - x.toNat) (fun e v => e = .exit 0 ∧ v = digN s) ?_
  rcases hr : s.drop x.toNat with _ | ⟨c, r⟩
  ·have := drop_end hr
   rw [show decide (x < (s.length : Int)) = false by simp; omega, iteP_f]
   refine ⟨rfl, rfl, ?_⟩
   rw [q3, hr]; simp [digN]
  ·obtain ⟨e1, e2, e3⟩ := byteAt_drop hr
   have hj : IntKind.i64.wrap (x + 1) = x + 1 := wrap_in (by omega) (by omega)
   have hd : digN (s.drop x.toNat) = if isDig c then digN r + 1 else 0 := takeWhile_step hr
   rw [show decide (x < (s.length : Int)) = true by simp; omega, iteP_t, show inRange x s.length = true by rw [inRange_iff]; omega, iteP_t, iteP_t, e1, hj]
   have stop : isDig c = false → (E64 x = E64 x ∧ Ex.exit 0 = Ex.exit 0 ∧ x = digN s) := by
    intro hc
    rw [hc] at hd
    refine ⟨rfl, rfl, ?_⟩
    rw [q3, hd]; simp
   by_cases h1 : (48 : Int) ≤ c.toNat
   ·rw [decide_eq_true h1, iteP_t]
    by_cases h2 : (c.toNat : Int) ≤ 57
    ·rw [decide_eq_true h2, iteP_t]
     have hc : isDig c = true := by rw [isDig_iff]; exact ⟨h1, h2⟩
     rw [hc] at hd
     refine ⟨rfl, ⟨by omega, by omega, ?_⟩, by omega⟩
     rw [q3, hd, toNat_succ q1, e3]
     simp; omega
    ·rw [decide_eq_false h2, iteP_f]
     exact stop (by rw [Bool.eq_false_iff, Ne, isDig_iff]; omega)
   ·rw [decide_eq_false h1, iteP_f]
    exact stop (by rw [Bool.eq_false_iff, Ne, isDig_iff]; omega)
theorem loop50 (s : List UInt8) (hs : s.length ≤ 1000000) : Ev Door.cfg Tryz.prog 50 (.loop (loopAt Tryz.prog 50 3)) (I50 s 0) fun e τ => τ = I50 s (slI τ 4) ∧ e = .exit 0 ∧ slI τ 4 = blankN s := by
 refine loop_rd (C := Door.cfg) (P := Tryz.prog) tab0_ok (f := 50) (i := 3) (n := 40) (fun x : Int => I50 s x) (fun τ => slI τ 4) (fun x => 0 ≤ x ∧ x ≤ s.length ∧ (blankN s : Int) = x + blankN (s.drop x.toNat)) (fun x => s.length - x.toNat) (by kernel_rfl)
  (fun x t ht => ?_) (fun x hx => ?_) 0 ⟨Int.le_refl _, by omega, by simp⟩
 ·replace ht : Door.tidy 50 3 = some t := ht
  cases ht
  exact can50 s x
 ·obtain ⟨q1, q2, q3⟩ := hx
  refine v50 s x (fun y => (0 ≤ y ∧ y ≤ s.length ∧ (blankN s : Int) = y + blankN (s.drop y.toNat)) ∧ s.length - y.toNat < s.length - x.toNat) (fun e v => e = .exit 0 ∧ v = blankN s) ?_
  rcases hr : s.drop x.toNat with _ | ⟨c, r⟩
  ·have := drop_end hr
   rw [show decide (x < (s.length : Int)) = false by simp; omega, iteP_f]
   refine ⟨rfl, rfl, ?_⟩
   rw [q3, hr]; simp [blankN]
  ·obtain ⟨e1, e2, e3⟩ := byteAt_drop hr
   have hj : IntKind.i64.wrap (x + 1) = x + 1 := wrap_in (by omega) (by omega)
   have hd : blankN (s.drop x.toNat) = if isBlank c then blankN r + 1 else 0 := takeWhile_step hr
   rw [show decide (x < (s.length : Int)) = true by simp; omega, iteP_t, show inRange x s.length = true by rw [inRange_iff]; omega, iteP_t, iteP_t, e1, hj]
   rw [show ((c.toNat : Int) == 32) = (c == 32) from beq_byte c 32 (by decide), show ((c.toNat : Int) == 9) = (c == 9) from beq_byte c 9 (by decide)]
   have go : isBlank c = true → (I50 s (x + 1) = I50 s (x + 1) ∧ (0 ≤ x + 1 ∧ x + 1 ≤ s.length ∧ (blankN s : Int) = x + 1 + blankN (s.drop (x + 1).toNat)) ∧ s.length - (x + 1).toNat < s.length - x.toNat) := by
    intro hc
    rw [hc] at hd
    refine ⟨rfl, ⟨by omega, by omega, ?_⟩, by omega⟩
    rw [q3, hd, toNat_succ q1, e3]
    simp; omega
   cases h1 : c == 32 with
   | true => rw [iteP_t]; exact go (by unfold isBlank; rw [h1]; rfl)
   | false =>
    rw [iteP_f]
    cases h2 : c == 9 with
    | true => rw [iteP_t]; exact go (by unfold isBlank; rw [h1, h2]; rfl)
    | false =>
     rw [iteP_f]
     have hc : isBlank c = false := by unfold isBlank; rw [h1, h2]; rfl
     rw [hc] at hd
     refine ⟨rfl, rfl, ?_⟩
     rw [q3, hd]; simp
theorem okN1 : TabOk Tryz.prog Door.cfg N1 := by
 refine addL_ok tab0_ok fun σ s hs hp => ?_
 unfold L64 at hs
 split at hs
 ·rename_i s0 k _ _
  refine lspec_ok (Option.some.inj hs) (fun hpre => ?_) hp
  obtain ⟨e, h1, h5⟩ := hpre
  refine Ev.tidied (t := ⟨[0, 3], [3], 0⟩) (τ := I64 s0.data.toList 0) (by kernel_rfl) (by rw [e, h1]; exact (can64 _ _).symm) ?_
  exact (loop64 _ h5).mono fun ex τ h => ⟨slI τ 3, h.2.2, h.2.1, h.1⟩
 ·cases hs
theorem ok64 {T : Tab} (O : TabOk Tryz.prog Door.cfg T) : TabOk Tryz.prog Door.cfg (T.addC 71 C64) := by
 refine addC_ok O fun args h s hs hp => ?_
 unfold C64 at hs
 split at hs
 ·rename_i s0
  obtain ⟨⟨u⟩⟩ := s0
  refine nspec_ok (Option.some.inj hs) (fun hpre => ?_) hp
  replace hpre : u.length ≤ 1000000 := hpre
  exact EvP.freshV okN1 (n := 40) (by kernel_rfl) (by kernel_rfl) (args' := [aStr u]) rfl (c64 u _ ⟨rfl, ⟨rfl, rfl, hpre⟩, fun x hx => by subst hx; rfl⟩)
 ·cases hs
theorem digAt_cons {f : List UInt8} (h : f.all isDig = true) (k : Nat) : 0 ≤ digAt f k ∧ digAt f k ≤ 9 := by
 unfold digAt
 split
 ·rename_i c hc
  have := List.all_eq_true.1 h c (List.mem_of_getElem? hc)
  rw [isDig_iff] at this
  omega
 ·omega
theorem frac_ok (s : List UInt8) (hd : s.all isDig = true) (K : AV → Prop) (hk : K (AV.sc (.int .i64 (fracL s)))) : wpCall tab0 Door.cfg Tryz.prog 60 92 [aStr s] heapF fun r h' => wpBack h' r K := by
 refine c80 s K ?_
 have b : ∀ k : Nat, k < s.length → IntKind.i64.wrap (IntKind.u8.wrap (byteAt s (k : Int) - 48)) = digAt s k := by
  intro k hk
  have h1 := List.all_eq_true.1 hd s[k] (List.getElem_mem hk)
  rw [isDig_iff] at h1
  have e1 : byteAt s (k : Int) = s[k].toNat := by unfold byteAt; rw [Int.toNat_natCast, List.getElem?_eq_getElem hk]; rfl
  have e2 : digAt s k = (s[k].toNat : Int) - 48 := by unfold digAt; rw [List.getElem?_eq_getElem hk]
  rw [e1, e2, wrap8_in (by omega) (by omega), wrap_in (by omega) (by omega)]
 have z : ∀ k : Nat, s.length ≤ k → digAt s k = 0 := by
  intro k hk
  unfold digAt
  rw [List.getElem?_eq_none hk]
 have d0 := digAt_cons hd 0
 have d1 := digAt_cons hd 1
 have d2 := digAt_cons hd 2
 have d3 := digAt_cons hd 3
 have lt : ∀ k : Nat, k < s.length → decide ((k : Int) < (s.length : Int)) = true := fun k hk => by simp; omega
 have ge : ∀ k : Nat, s.length ≤ k → decide ((k : Int) < (s.length : Int)) = false := fun k hk => by simp; omega
 have ir : ∀ k : Nat, k < s.length → inRange (k : Int) s.length = true := fun k hk => by rw [inRange_iff]; omega
 unfold fracL at hk
 have b0 := b 0; have b1 := b 1; have b2 := b 2; have b3 := b 3
 have l0 := lt 0; have l1 := lt 1; have l2 := lt 2; have l3 := lt 3
 have g0 := ge 0; have g1 := ge 1; have g2 := ge 2; have g3 := ge 3
 have i0 := ir 0; have i1 := ir 1; have i2 := ir 2; have i3 := ir 3
 have z0 := z 0; have z1 := z 1; have z2 := z 2; have z3 := z 3
 simp only [Int.cast_ofNat_Int] at b0 b1 b2 b3 l0 l1 l2 l3 g0 g1 g2 g3 i0 i1 i2 i3
 rcases Nat.lt_or_ge 3 s.length with h | h
 ·have m0 := l0 (by omega); have j0 := i0 (by omega); have c0 := b0 (by omega)
  have m1 := l1 (by omega); have j1 := i1 (by omega); have c1 := b1 (by omega)
  have m2 := l2 (by omega); have j2 := i2 (by omega); have c2 := b2 (by omega)
  have m3 := l3 (by omega); have j3 := i3 (by omega); have c3 := b3 (by omega)
  simp only [m0, m1, m2, m3, j0, c0, j1, c1, j2, c2, j3, c3, iteP_t]
  refine useK hk ?_
  simp (disch := omega) only [wrap_in]
  omega
 rcases Nat.lt_or_ge 2 s.length with h' | h'
 ·have m0 := l0 (by omega); have j0 := i0 (by omega); have c0 := b0 (by omega)
  have m1 := l1 (by omega); have j1 := i1 (by omega); have c1 := b1 (by omega)
  have m2 := l2 (by omega); have j2 := i2 (by omega); have c2 := b2 (by omega)
  have m3 := g3 (by omega); have y3 := z3 (by omega)
  simp only [m0, m1, m2, m3, j0, c0, j1, c1, j2, c2, iteP_t, iteP_f]
  refine useK hk ?_
  simp (disch := omega) only [wrap_in]
  omega
 rcases Nat.lt_or_ge 1 s.length with h'' | h''
 ·have m0 := l0 (by omega); have j0 := i0 (by omega); have c0 := b0 (by omega)
  have m1 := l1 (by omega); have j1 := i1 (by omega); have c1 := b1 (by omega)
  have m2 := g2 (by omega); have y2 := z2 (by omega)
  have m3 := g3 (by omega); have y3 := z3 (by omega)
  simp only [m0, m1, m2, m3, j0, c0, j1, c1, iteP_t, iteP_f]
  refine useK hk ?_
  simp (disch := omega) only [wrap_in]
  omega
 rcases Nat.lt_or_ge 0 s.length with h3 | h3
 ·have m0 := l0 (by omega); have j0 := i0 (by omega); have c0 := b0 (by omega)
  have m1 := g1 (by omega); have y1 := z1 (by omega)
  have m2 := g2 (by omega); have y2 := z2 (by omega)
  have m3 := g3 (by omega); have y3 := z3 (by omega)
  simp only [m0, m1, m2, m3, j0, c0, iteP_t, iteP_f]
  refine useK hk ?_
  simp (disch := omega) only [wrap_in]
  omega
 have m0 := g0 (by omega); have y0 := z0 (by omega)
 have m1 := g1 (by omega); have y1 := z1 (by omega)
 have m2 := g2 (by omega); have y2 := z2 (by omega)
 have m3 := g3 (by omega); have y3 := z3 (by omega)
 simp only [m0, m1, m2, m3, iteP_f]
 refine useK hk ?_
 omega
theorem ok80 {T : Tab} (O : TabOk Tryz.prog Door.cfg T) : TabOk Tryz.prog Door.cfg (T.addC 92 C80) := by
 refine addC_ok O fun args h s hs hp => ?_
 unfold C80 at hs
 split at hs
 ·rename_i s0
  obtain ⟨⟨u⟩⟩ := s0
  refine nspec_ok (Option.some.inj hs) (fun hpre => ?_) hp
  exact EvP.freshV tab0_ok (n := 60) (by kernel_rfl) (by kernel_rfl) (args' := [aStr u]) rfl (frac_ok u hpre.2 _ rfl)
 ·cases hs
theorem valL_le : ∀ (w : List UInt8) (d x : Int), w.all isDig = true → 0 ≤ d → d ≤ 1000000000 → valL w d = some x → 0 ≤ x ∧ x ≤ 1000000000 := by
 intro w
 induction w with
 | nil => intro d x _ h1 h2 h; cases h; exact ⟨h1, h2⟩
 | cons c r ih =>
  intro d x hd h1 h2 h
  rw [List.all_cons, Bool.and_eq_true, isDig_iff] at hd
  unfold valL at h
  split at h
  ·cases h
  ·exact ih _ x hd.2 (by omega) (by omega) h
theorem loop65 (s f : List UInt8) (hs : s.length ≤ 1000000) (hd : s.all isDig = true) : Ev Door.cfg Tryz.prog 72 (.loop (loopAt Tryz.prog 72 4)) (I65 s f 0 s.length 0) fun e τ => (∃ d, valL s 0 = some d ∧ e = .exit 0 ∧ τ = E65 f d) ∨ (∃ d, valL s 0 = none ∧ e = .ret ∧ τ = J65 f 10000000000001 d) := by
 have main := loop_rd (C := Door.cfg) (P := Tryz.prog) tab0_ok (f := 72) (i := 4) (n := 40) (fun x : Int × Int => I65 s f x.1 s.length x.2) (fun τ => (slI τ 5, slI τ 9)) (fun x => 0 ≤ x.2 ∧ x.2 ≤ s.length ∧ 0 ≤ x.1 ∧ x.1 ≤ 1000000000 ∧ valL s 0 = valL (s.drop x.2.toNat) x.1) (fun x => s.length - x.2.toNat)
  (K := fun e τ => match e with
   | .ret => τ = J65 f (slI τ 4) (slI τ 5) ∧ (slI τ 4 = 10000000000001 ∧ valL s 0 = none)
   | e => τ = E65 f (slI τ 5) ∧ (e = .exit 0 ∧ valL s 0 = some (slI τ 5))) (by kernel_rfl)
  (fun x t ht => ?_) (fun x hx => ?_) (0, 0) ⟨Int.le_refl _, by omega, Int.le_refl _, by omega, rfl⟩
 ·refine main.mono fun e τ h => ?_
  cases e with
  | ret => exact .inr ⟨slI τ 5, h.2.2, rfl, by rw [← h.2.1]; exact h.1⟩
  | normal => cases h.2.1
  | exit j => exact .inl ⟨slI τ 5, h.2.2, h.2.1, h.1⟩
 ·replace ht : Door.tidy 72 4 = some t := ht
  cases ht
  exact can65 s f x.1 s.length x.2
 ·obtain ⟨d, x⟩ := x
  obtain ⟨q1, q2, q4, q5, q3⟩ := hx
  replace q1 : 0 ≤ x := q1
  replace q2 : x ≤ s.length := q2
  replace q4 : 0 ≤ d := q4
  replace q5 : d ≤ 1000000000 := q5
  replace q3 : valL s 0 = valL (s.drop x.toNat) d := q3
  refine v65 s f d s.length x (fun e y => (0 ≤ y ∧ y ≤ s.length ∧ 0 ≤ e ∧ e ≤ 1000000000 ∧ valL s 0 = valL (s.drop y.toNat) e) ∧ s.length - y.toNat < s.length - x.toNat) (fun r _ => r = 10000000000001 ∧ valL s 0 = none) (fun e v => e = .exit 0 ∧ valL s 0 = some v) ?_
  rcases hr : s.drop x.toNat with _ | ⟨c, r⟩
  ·have := drop_end hr
   rw [show decide (x < (s.length : Int)) = false by simp; omega, iteP_f]
   refine ⟨rfl, rfl, ?_⟩
   rw [q3, hr]; rfl
  ·obtain ⟨e1, e2, e3⟩ := byteAt_drop hr
   have hj : IntKind.i64.wrap (x + 1) = x + 1 := wrap_in (by omega) (by omega)
   have hc : isDig c = true := by
    have h1 : c ∈ s.drop x.toNat := by rw [hr]; simp
    exact List.all_eq_true.1 hd c (List.mem_of_mem_drop h1)
   rw [isDig_iff] at hc
   have w1 : IntKind.i64.wrap (IntKind.i64.wrap (10 * d) + IntKind.i64.wrap (IntKind.u8.wrap ((c.toNat : Int) - 48))) = 10 * d + ((c.toNat : Int) - 48) := by
    rw [wrap8_in (by omega) (by omega)]
    simp (disch := omega) only [wrap_in]
   have hv : valL (s.drop x.toNat) d = if 10 * d + ((c.toNat : Int) - 48) > 1000000000 then none else valL r (10 * d + ((c.toNat : Int) - 48)) := by rw [hr]; rfl
   rw [show decide (x < (s.length : Int)) = true by simp; omega, iteP_t, show inRange x s.length = true by rw [inRange_iff]; omega, iteP_t, e1, hj, w1]
   by_cases h1 : (1000000000 : Int) < 10 * d + ((c.toNat : Int) - 48)
   ·rw [decide_eq_true h1, iteP_t]
    rw [if_pos h1] at hv
    exact ⟨rfl, rfl, by rw [q3, hv]⟩
   ·rw [decide_eq_false h1, iteP_f]
    rw [if_neg h1] at hv
    refine ⟨rfl, ⟨by omega, by omega, by omega, by omega, ?_⟩, by omega⟩
    rw [q3, hv, toNat_succ q1, e3]
theorem okN2 : TabOk Tryz.prog Door.cfg N2 := by
 refine addL_ok (ok80 (ok64 tab0_ok)) fun σ s hs hp => ?_
 unfold L65 at hs
 split at hs
 ·rename_i s0 f0 d n k _ _ _ _ _
  cases Option.some.inj hs
  obtain ⟨e, h1, h2, h3, h4, h5⟩ := hp
  have := Ev.tidied (C := Door.cfg) (P := Tryz.prog) (b := loopAt Tryz.prog 72 4) (f := 72) (σ := σ) (t := ⟨[0, 1, 5, 8, 9], [1, 4, 5], 0⟩) (τ := I65 s0.data.toList f0.data.toList 0 s0.data.toList.length 0) (by kernel_rfl) (by rw [e, h1, h2, h3]; exact (can65 _ _ _ _ _).symm) (loop65 s0.data.toList f0.data.toList h4 h5)
  obtain ⟨m, ex, τ, g2, g3⟩ := this
  rcases g3 with ⟨d', q1, rfl, rfl⟩ | ⟨d', q1, rfl, rfl⟩
  ·exact ⟨_, .head _, d', q1, m, g2⟩
  ·exact ⟨_, .tail _ (.head _), d', q1, m, g2⟩
 ·cases hs
theorem frac_le {f : List UInt8} (h : f.all isDig = true) : 0 ≤ fracL f ∧ fracL f ≤ 9999 := by
 have d0 := digAt_cons h 0
 have d1 := digAt_cons h 1
 have d2 := digAt_cons h 2
 have d3 := digAt_cons h 3
 unfold fracL
 omega
theorem ok65 {T : Tab} (O : TabOk Tryz.prog Door.cfg T) : TabOk Tryz.prog Door.cfg (T.addC 72 C65) := by
 refine addC_ok O fun args h s hs hp => ?_
 unfold C65 at hs
 split at hs
 ·rename_i s0 f0
  obtain ⟨⟨u⟩⟩ := s0
  obtain ⟨⟨f⟩⟩ := f0
  refine nspec_ok (Option.some.inj hs) (fun hpre => ?_) hp
  obtain ⟨p1, p2, p3, p4⟩ := hpre
  refine EvP.freshV okN2 (n := 40) (by kernel_rfl) (by kernel_rfl) (args' := [aStr u, aStr f]) rfl (c65 u f _ ⟨rfl, ⟨rfl, rfl, rfl, rfl, p1, p2⟩, fun x hx => ⟨⟨p3, p4⟩, fun y hy => ?_⟩, fun x hx => ?_⟩)
  ·have b1 := valL_le u 0 x p2 (by omega) (by omega) hx
   have b2 := frac_le (f := f) p4
   show AV.sc (.int .i64 (min 10000000000001 _)) = aK .i64 (valueF u f)
   unfold valueF
   rw [hx, hy, wrap_in (x := x * 10000) (by omega) (by omega), wrap_in (by omega) (by omega)]
   rfl
  ·show _ = aK .i64 (valueF u f)
   unfold valueF
   rw [hx]; rfl
 ·cases hs
theorem value_le (u f : List UInt8) (h1 : u.all isDig = true) (h2 : f.all isDig = true) : 0 ≤ valueF u f ∧ valueF u f ≤ 10000000000001 := by
 unfold valueF
 split
 ·omega
 ·rename_i d hd
  have b1 := valL_le u 0 d h1 (by omega) (by omega) hd
  have b2 := frac_le h2
  omega
end
end Go.Proofs.Pr
namespace Go.Proofs.Pr
open Go Go.Ef
noncomputable section
set_option maxRecDepth 100000
theorem take_cut (s : List UInt8) (m n : Nat) : cutL s (m : Int) ((m : Int) + n) = (s.drop m).take n := by
 unfold cutL
 rw [show ((m : Int) + n).toNat = m + n by omega, Int.toNat_natCast, List.drop_take]
 congr 1
 omega
theorem take_takeWhile {p : UInt8 → Bool} (l : List UInt8) : l.take (l.takeWhile p).length = l.takeWhile p := by
 induction l with
 | nil => rfl
 | cons c r ih =>
  rw [List.takeWhile_cons]
  split
  ·simp [ih]
  ·rfl
theorem drop_takeWhile {p : UInt8 → Bool} (l : List UInt8) : l.drop (l.takeWhile p).length = l.dropWhile p := by
 induction l with
 | nil => rfl
 | cons c r ih =>
  rw [List.takeWhile_cons, List.dropWhile_cons]
  split
  ·simp [ih]
  ·rfl
theorem take_digN (u : List UInt8) : (u.take (digN u)).all isDig = true := by
 unfold digN
 rw [take_takeWhile]
 exact List.all_takeWhile
theorem digN_le (u : List UInt8) : digN u ≤ u.length := (List.takeWhile_sublist _).length_le
section
variable (s l : List UInt8) (K K' : Int → Prop)
def endP (f : List UInt8) (x : Int) : Prop :=
 iteP (x == 0) (iteP (decide (f = [])) (K 0) ((l.length ≤ 1000000 ∧ l.all isDig = true ∧ f.length ≤ 1000000 ∧ f.all isDig = true) ∧ ∀ x : Int, x = valueF l f → K' (min 10000000000000 x)))
  ((l.length ≤ 1000000 ∧ l.all isDig = true ∧ f.length ≤ 1000000 ∧ f.all isDig = true) ∧ ∀ x : Int, x = valueF l f → K' (min 10000000000000 x))
def zeroP (x : Int) : Prop := iteP (x == 0) (K 0) ((l.length ≤ 1000000 ∧ l.all isDig = true ∧ 0 ≤ 1000000 ∧ true = true) ∧ ∀ x : Int, x = valueF l [] → K' (min 10000000000000 x))
def cutP (m1 x x1 : Int) : Prop :=
 ∀ m : Int, m = IntKind.i64.wrap (m1 + 1) → ∀ m2 : Int, m2 = IntKind.i64.wrap (m1 + 1) → ∀ m3 : Int, m3 = IntKind.i64.wrap (m2 + x1) →
  iteP (decide (0 ≤ m) && (decide (m ≤ m3) && decide (m3 ≤ (s.length : Int)))) (∀ f : List UInt8, f = cutL s m m3 → endP l K K' f x) False
end
def restP (s l : List UInt8) (K K' : Int → Prop) (m1 x : Int) : Prop :=
 iteP (decide (m1 < (s.length : Int))) (iteP (inRange m1 s.length) (iteP (byteAt s m1 == 46)
  (∀ m : Int, m = IntKind.i64.wrap (m1 + 1) → iteP (decide (0 ≤ m) && decide (m ≤ (s.length : Int))) (∀ l1 : List UInt8, l1 = List.drop m.toNat s → l1.length ≤ 1000000 ∧ ∀ x1 : Int, x1 = (digN l1 : Int) →
   iteP (decide (0 < x)) (cutP s l K K' m1 x x1) (iteP (decide (0 < x1)) (cutP s l K K' m1 x x1) (zeroP l K K' x))) False)
  (zeroP l K K' x)) False) (zeroP l K K' x)
def tailP (s : List UInt8) (K K' : Int → Prop) (m : Int) : Prop :=
 iteP (decide (0 ≤ m) && decide (m ≤ (s.length : Int))) (∀ l : List UInt8, l = List.drop m.toNat s → l.length ≤ 1000000 ∧ ∀ x : Int, x = (digN l : Int) →
  iteP (decide (0 ≤ m) && (decide (m ≤ IntKind.i64.wrap (m + x)) && decide (IntKind.i64.wrap (m + x) ≤ (s.length : Int))))
   (∀ l : List UInt8, l = cutL s m (IntKind.i64.wrap (m + x)) → ∀ m1 : Int, m1 = IntKind.i64.wrap (m + x) → restP s l K K' m1 x) False) False
theorem tail_ok (s : List UInt8) (K K' : Int → Prop) (m : Nat) (hs : s.length ≤ 1000000) (hm : m ≤ s.length)
  (h0 : digN (s.drop m) = 0 → fracPart ((s.drop m).drop (digN (s.drop m))) = [] → K 0)
  (h1 : ¬ (digN (s.drop m) = 0 ∧ fracPart ((s.drop m).drop (digN (s.drop m))) = []) → K' (min 10000000000000 (valueF ((s.drop m).take (digN (s.drop m))) (fracPart ((s.drop m).drop (digN (s.drop m))))))) : tailP s K K' (m : Int) := by
 unfold tailP
 rw [show (decide (0 ≤ (m : Int)) && decide ((m : Int) ≤ (s.length : Int))) = true by simp; omega, iteP_t]
 intro l hl
 rw [Int.toNat_natCast] at hl
 rw [← hl] at h0 h1
 have hll : l.length = s.length - m := by rw [hl, List.length_drop]
 refine ⟨by omega, fun x hx => ?_⟩
 have hn := digN_le l
 have hw : IntKind.i64.wrap ((m : Int) + x) = (m : Int) + (digN l : Int) := by rw [hx, wrap_in (by omega) (by omega)]
 rw [hw, show (decide (0 ≤ (m : Int)) && (decide ((m : Int) ≤ (m : Int) + (digN l : Int)) && decide ((m : Int) + (digN l : Int) ≤ (s.length : Int)))) = true by simp; omega, iteP_t]
 intro w hw2 m1 hm1
 rw [take_cut, ← hl] at hw2
 have hd : (l.drop (digN l)) = s.drop (m + digN l) := by rw [hl, List.drop_drop]
 generalize hn' : digN l = n at *
 have hwd : w.all isDig = true := by rw [hw2, ← hn']; exact take_digN l
 have hwl : w.length ≤ 1000000 := by rw [hw2, List.length_take]; omega
 subst hw2
 subst hm1
 subst hx
 have zero : fracPart (l.drop n) = [] → zeroP (l.take n) K K' (n : Int) := by
  intro hf
  rw [hf] at h0 h1
  unfold zeroP
  by_cases hz : n = 0
  ·rw [show ((n : Int) == 0) = true by simp; omega, iteP_t]
   exact h0 hz rfl
  ·rw [show ((n : Int) == 0) = false by simp; omega, iteP_f]
   exact ⟨⟨hwl, hwd, by omega, rfl⟩, fun x hx => by rw [hx]; exact h1 (by omega)⟩
 unfold restP
 rcases hr : s.drop (m + n) with _ | ⟨c, r⟩
 ·have := drop_end (k := ((m + n : Nat) : Int)) (by rw [Int.toNat_natCast]; exact hr)
  rw [show decide ((m : Int) + (n : Int) < (s.length : Int)) = false by simp; omega, iteP_f]
  exact zero (by rw [hd, hr]; rfl)
 ·obtain ⟨e1, e2, e3⟩ := byteAt_drop (l := s) (k := ((m + n : Nat) : Int)) (by rw [Int.toNat_natCast]; exact hr)
  rw [Int.toNat_natCast] at e2 e3
  rw [show ((m : Int) + (n : Int)) = ((m + n : Nat) : Int) by omega, show decide (((m + n : Nat) : Int) < (s.length : Int)) = true by simp; omega, iteP_t, show inRange ((m + n : Nat) : Int) s.length = true by rw [inRange_iff]; omega, iteP_t, e1]
  rw [show ((c.toNat : Int) == 46) = (c == 46) from beq_byte c 46 (by decide)]
  cases hc : c == 46 with
  | false =>
   rw [iteP_f]
   refine zero ?_
   rw [hd, hr]
   show (if c = 46 then _ else _) = _
   rw [if_neg (by simpa using hc)]
  | true =>
   rw [iteP_t]
   have hc' : c = 46 := by simpa using hc
   have hf : fracPart (l.drop n) = r.take (digN r) := by
    rw [hd, hr]
    show (if c = 46 then _ else _) = _
    rw [if_pos hc']
   rw [hf] at h0 h1 zero
   intro q hq
   rw [wrap_in (by omega) (by omega)] at hq
   have hq' : q = ((m + n + 1 : Nat) : Int) := by omega
   subst hq'
   rw [show (decide (0 ≤ ((m + n + 1 : Nat) : Int)) && decide (((m + n + 1 : Nat) : Int) ≤ (s.length : Int))) = true by simp; omega, iteP_t]
   intro r1 hr1
   rw [Int.toNat_natCast, e3] at hr1
   subst hr1
   have hrl : r1.length = s.length - (m + n + 1) := by rw [← e3, List.length_drop]
   refine ⟨by omega, fun x1 hx1 => ?_⟩
   have hk := digN_le r1
   subst hx1
   have cut : cutP s (l.take n) K K' ((m + n : Nat) : Int) n (digN r1) := by
    intro m3 hm3 m4 hm4 m5 hm5
    rw [wrap_in (by omega) (by omega)] at hm3 hm4
    subst hm4
    rw [wrap_in (by omega) (by omega)] at hm5
    subst hm3
    subst hm5
    rw [show (decide (0 ≤ ((m + n : Nat) : Int) + 1) && (decide (((m + n : Nat) : Int) + 1 ≤ ((m + n : Nat) : Int) + 1 + (digN r1 : Int)) && decide (((m + n : Nat) : Int) + 1 + (digN r1 : Int) ≤ (s.length : Int)))) = true by simp; omega, iteP_t]
    intro f hf2
    rw [show (((m + n : Nat) : Int) + 1) = ((m + n + 1 : Nat) : Int) by omega, take_cut, e3] at hf2
    subst hf2
    have hfd : (r1.take (digN r1)).all isDig = true := take_digN r1
    have hfl : (r1.take (digN r1)).length ≤ 1000000 := by rw [List.length_take]; omega
    have fin : ¬ (n = 0 ∧ r1.take (digN r1) = []) → ((l.take n).length ≤ 1000000 ∧ (l.take n).all isDig = true ∧ (r1.take (digN r1)).length ≤ 1000000 ∧ (r1.take (digN r1)).all isDig = true) ∧ ∀ x : Int, x = valueF (l.take n) (r1.take (digN r1)) → K' (min 10000000000000 x) :=
     fun hh => ⟨⟨hwl, hwd, hfl, hfd⟩, fun x hx => by rw [hx]; exact h1 hh⟩
    unfold endP
    by_cases hz : n = 0
    ·rw [show ((n : Int) == 0) = true by simp; omega, iteP_t]
     by_cases he : r1.take (digN r1) = []
     ·rw [decide_eq_true he, iteP_t]; exact h0 hz he
     ·rw [decide_eq_false he, iteP_f]; exact fin (fun h => he h.2)
    ·rw [show ((n : Int) == 0) = false by simp; omega, iteP_f]
     exact fin (fun h => hz h.1)
   by_cases hz : (0 : Int) < (n : Int)
   ·rw [decide_eq_true hz, iteP_t]; exact cut
   ·rw [decide_eq_false hz, iteP_f]
    by_cases hk0 : (0 : Int) < (digN r1 : Int)
    ·rw [decide_eq_true hk0, iteP_t]; exact cut
    ·rw [decide_eq_false hk0, iteP_f]
     exact zero (by rw [show digN r1 = 0 by omega]; rfl)
end
end Go.Proofs.Pr
namespace Go.Proofs.Pr
open Go Go.Ef
noncomputable section
set_option maxRecDepth 100000
theorem EvP_mono {P : Program} {C : Cfg} {g : FuncId} {args : List AV} {h : Heap} {K K' : AV → Heap → Prop} (H : EvP C P g args h K) (hk : ∀ v h', K v h' → K' v h') : EvP C P g args h K' := by
 obtain ⟨m, v, h', h1, h2⟩ := H
 exact ⟨m, v, h', h1, hk _ _ h2⟩
theorem tail_pref (s : List UInt8) (K K' : Int → Prop) (m : Nat) (hs : s.length ≤ 1000000) (hm : m ≤ s.length) (hz : prefU (s.drop m) = 0 → K 0) (hk : K' (prefU (s.drop m))) : tailP s K K' (m : Int) := by
 refine tail_ok s K K' m hs hm (fun e1 e2 => hz ?_) (fun hn => ?_)
 ·unfold prefU; rw [if_pos ⟨e1, e2⟩]
 ·unfold prefU at hk
  rw [if_neg hn] at hk
  exact hk
theorem prefU_le (u : List UInt8) : 0 ≤ prefU u ∧ prefU u ≤ 10000000000000 := by
 unfold prefU
 split
 ·omega
 ·have hf : (fracPart (u.drop (digN u))).all isDig = true := by
   unfold fracPart
   split
   ·rfl
   ·split
    ·exact take_digN _
    ·rfl
  have := value_le _ _ (take_digN u) hf
  omega
theorem prefix_ok (s : List UInt8) (hs : s.length ≤ 1000000) : wpCall N3 Door.cfg Tryz.prog 40 50 [aStr s] heapF fun r h' => wpBack h' r fun v => match v with | .tup [.sc (.int .i64 a), .sc (.int .i64 _)] => a = prefixD s | _ => False := by
 refine c50 s (fun a => a = prefixD s) ⟨rfl, ⟨rfl, rfl, hs⟩, fun x hx => ?_⟩
 have hb : blankN s ≤ s.length := (List.takeWhile_sublist _).length_le
 have ht : s.drop (blankN s) = s.dropWhile isBlank := drop_takeWhile s
 generalize hbn : blankN s = b at *
 subst hx
 have pos : ∀ m : Nat, m ≤ s.length → prefU (s.drop m) = prefixD s → tailP s (fun a => a = prefixD s) (fun a => a = prefixD s) (m : Int) := fun m hm he => tail_pref s _ _ m hs hm (fun h => by rw [← he, h]) he
 have neg : ∀ m : Nat, m ≤ s.length → -prefU (s.drop m) = prefixD s → tailP s (fun a => a = prefixD s) (fun a => IntKind.i64.wrap (0 - a) = prefixD s) (m : Int) := fun m hm he => by
  have hle := prefU_le (s.drop m)
  refine tail_pref s _ _ m hs hm (fun h => by rw [← he, h]; rfl) ?_
  rw [wrap_in (by omega) (by omega), ← he]; omega
 show iteP (decide ((b : Int) < (s.length : Int))) (iteP (inRange (b : Int) s.length) (iteP (byteAt s b == 45) (∀ m : Int, m = IntKind.i64.wrap ((b : Int) + 1) → tailP s (fun a => a = prefixD s) (fun a => IntKind.i64.wrap (0 - a) = prefixD s) m)
   (iteP (decide ((b : Int) < (s.length : Int))) (iteP (inRange (b : Int) s.length) (iteP (byteAt s b == 43) (∀ m : Int, m = IntKind.i64.wrap ((b : Int) + 1) → tailP s (fun a => a = prefixD s) (fun a => a = prefixD s) m) (tailP s (fun a => a = prefixD s) (fun a => a = prefixD s) (b : Int))) False) (tailP s (fun a => a = prefixD s) (fun a => a = prefixD s) (b : Int)))) False)
  (iteP (decide ((b : Int) < (s.length : Int))) (iteP (inRange (b : Int) s.length) (iteP (byteAt s b == 43) (∀ m : Int, m = IntKind.i64.wrap ((b : Int) + 1) → tailP s (fun a => a = prefixD s) (fun a => a = prefixD s) m) (tailP s (fun a => a = prefixD s) (fun a => a = prefixD s) (b : Int))) False) (tailP s (fun a => a = prefixD s) (fun a => a = prefixD s) (b : Int)))
 rcases hr : s.drop b with _ | ⟨c, r⟩
 ·have := drop_end (k := (b : Int)) (by rw [Int.toNat_natCast]; exact hr)
  rw [Int.toNat_natCast] at this
  rw [show decide ((b : Int) < (s.length : Int)) = false by simp; omega, iteP_f, iteP_f]
  refine pos b hb ?_
  unfold prefixD
  rw [← ht, hr]; rfl
 ·obtain ⟨e1, e2, e3⟩ := byteAt_drop (l := s) (k := (b : Int)) (by rw [Int.toNat_natCast]; exact hr)
  rw [Int.toNat_natCast] at e2 e3
  rw [show decide ((b : Int) < (s.length : Int)) = true by simp; omega, iteP_t, show inRange (b : Int) s.length = true by rw [inRange_iff]; omega, iteP_t, iteP_t, iteP_t, e1]
  rw [show ((c.toNat : Int) == 45) = (c == 45) from beq_byte c 45 (by decide), show ((c.toNat : Int) == 43) = (c == 43) from beq_byte c 43 (by decide)]
  have hj : IntKind.i64.wrap ((b : Int) + 1) = ((b + 1 : Nat) : Int) := by rw [wrap_in (by omega) (by omega)]; omega
  have hp : prefixD s = if c == 45 then -prefU r else if (c == 45 || c == 43) then prefU r else prefU (c :: r) := by
   unfold prefixD
   rw [← ht, hr]; rfl
  cases h45 : c == 45 with
  | true =>
   rw [iteP_t]
   rw [h45] at hp
   intro m hm
   rw [hm, hj]
   exact neg (b + 1) (by omega) (by rw [e3, hp]; rfl)
  | false =>
   rw [iteP_f]
   rw [h45] at hp
   cases h43 : c == 43 with
   | true =>
    rw [iteP_t]
    rw [h43] at hp
    intro m hm
    rw [hm, hj]
    exact pos (b + 1) (by omega) (by rw [e3, hp]; rfl)
   | false =>
    rw [iteP_f]
    rw [h43] at hp
    exact pos b hb (by rw [hr, hp]; rfl)
theorem okN3 : TabOk Tryz.prog Door.cfg N3 := by
 refine name_ok (name_ok (name_ok (name_ok (name_ok (name_ok (name_ok (name_ok (name_ok (name_ok (addL_ok (ok65 okN2) fun σ s hs hp => ?_) _ _) _ _) _ _) _ _) _ _) _ _) _ _) _ _) _ _) _ _
 unfold L50 at hs
 split at hs
 ·rename_i s0 k _ _
  refine lspec_ok (Option.some.inj hs) (fun hpre => ?_) hp
  obtain ⟨e, h1, h5⟩ := hpre
  refine Ev.tidied (t := ⟨[0, 4], [0, 4], 0⟩) (τ := I50 s0.data.toList 0) (by kernel_rfl) (by rw [e, h1]; exact (can50 _ _).symm) ?_
  exact (loop50 _ h5).mono fun ex τ h => ⟨slI τ 4, h.2.2, h.2.1, h.1⟩
 ·cases hs
theorem ok50 {T : Tab} (O : TabOk Tryz.prog Door.cfg T) : TabOk Tryz.prog Door.cfg (T.addC 50 C50) := by
 refine addC_ok O fun args h s hs hp => ?_
 unfold C50 at hs
 split at hs
 ·rename_i s0
  obtain ⟨⟨u⟩⟩ := s0
  refine aspec_ok (Option.some.inj hs) (fun hpre => ?_) hp
  replace hpre : u.length ≤ 1000000 := hpre
  refine EvP_mono (EvP.freshK okN3 (n := 40) (by kernel_rfl) (by kernel_rfl) (args' := [aStr u]) rfl (prefix_ok u hpre)) fun v h' hv => ⟨?_, hv.2⟩
  have h1 := hv.1
  split at h1
  ·rename_i a e
   exact ⟨(a, e), h1, rfl⟩
  ·exact h1.elim
 ·cases hs
theorem ok37 {T : Tab} (O : TabOk Tryz.prog Door.cfg T) : TabOk Tryz.prog Door.cfg (T.addC 28 C37) := by
 refine addC_ok O fun args h s hs hp => ?_
 unfold C37 at hs
 split at hs
 ·rename_i k n s0
  obtain ⟨⟨u⟩⟩ := s0
  refine nspec_ok (Option.some.inj hs) (fun hpre => ?_) hp
  replace hpre : u.length ≤ 1000000 := hpre
  refine EvP.freshV (ok50 okN3) (n := 40) (by kernel_rfl) (by kernel_rfl) (args' := [.agg [aK .i64 k, aK .i64 n, aStr u]]) rfl (c37 k n u _ ?_)
  have hnum : numberF k n u = if k = 2 then prefixD u else if k = 1 ∨ k = 3 then nearF n else 0 := rfl
  by_cases h2 : k = 2
  ·rw [show (k == 2) = true by simpa using h2, iteP_t]
   refine ⟨hpre, fun x hx => ?_⟩
   show _ = aK .i64 (numberF k n u)
   rw [hnum, if_pos h2, hx]; rfl
  ·rw [show (k == 2) = false by simpa using h2, iteP_f]
   have hn : min (max n (-10000000000000 : Int)) 10000000000000 = nearF n := by unfold nearF; omega
   by_cases h1 : k = 1
   ·rw [show (k == 1) = true by simpa using h1, iteP_t, hn]
    show _ = aK .i64 (numberF k n u)
    rw [hnum, if_neg h2, if_pos (.inl h1)]; rfl
   ·rw [show (k == 1) = false by simpa using h1, iteP_f]
    by_cases h3 : k = 3
    ·rw [show (k == 3) = true by simpa using h3, iteP_t, hn]
     show _ = aK .i64 (numberF k n u)
     rw [hnum, if_neg h2, if_pos (.inr h3)]; rfl
    ·rw [show (k == 3) = false by simpa using h3, iteP_f]
     show _ = aK .i64 (numberF k n u)
     rw [hnum, if_neg h2, if_neg (by rintro (h | h) <;> contradiction)]; rfl
 ·cases hs
theorem near_le (d : Int) : -10000000000000 ≤ nearF d ∧ nearF d ≤ 10000000000000 := by unfold nearF; omega
theorem tdiv_le {a : Int} (h1 : -10000000000000 ≤ a) (h2 : a ≤ 10000000000000) : -1000000000 ≤ a.tdiv 10000 ∧ a.tdiv 10000 ≤ 1000000000 := by
 rcases Int.le_total 0 a with h | h
 ·rw [Int.tdiv_eq_ediv_of_nonneg h]; omega
 ·have e : a = -(-a) := by omega
  rw [e, Int.neg_tdiv, Int.tdiv_eq_ediv_of_nonneg (by omega)]; omega
theorem ok38 {T : Tab} (O : TabOk Tryz.prog Door.cfg T) : TabOk Tryz.prog Door.cfg (T.addC 29 C38) := by
 refine addC_ok O fun args h s hs hp => ?_
 unfold C38 at hs
 split at hs
 ·rename_i d
  refine nspec_ok (Option.some.inj hs) (fun _ => ?_) hp
  refine EvP.freshV tab0_ok (n := 40) (by kernel_rfl) (by kernel_rfl) (args' := [aK .i64 d]) rfl (c38 d _ ?_)
  have h1 := near_le d
  have h2 := tdiv_le h1.1 h1.2
  show _ = aK .i64 ((nearF d).tdiv 10000)
  rw [show max (-10000000000000 : Int) (min 10000000000000 d) = nearF d from rfl, wrap_in (by omega) (by omega)]
  rfl
 ·cases hs
end
end Go.Proofs.Pr
namespace Go.Proofs.Pr
open Go Go.Ef
noncomputable section
def goodArg (e : List AV) : Prop := ∃ (k n : Int) (s : List UInt8), e = [aK .i64 k, aK .i64 n, aStr s]
end
end Go.Proofs.Pr
namespace Go.Proofs.Pr
open Go Go.Ef
noncomputable section
def headK (l : Cells) : Int := cellInt l 0 0
def headN (l : Cells) : Int := cellInt l 0 1
def headS (l : Cells) : List UInt8 := cellStr l 0 2
def takeF (l : Cells) : Int := (nearF (numberF (headK l) (headN l) (headS l))).tdiv 10000
def needF (d : Dir) : Nat := (if d.width = -2 then 1 else 0) + (if d.prec = -2 then 1 else 0) + (if d.kind = 37 then 0 else 1)
def resW (d : Dir) (l : Cells) : Dir × Cells :=
 if d.width = -2 then (if takeF l < 0 then ({ d with minus := true, width := -takeF l }, l.drop 1) else ({ d with width := takeF l }, l.drop 1)) else (d, l)
def resP (x : Dir × Cells) : Dir × Cells :=
 if x.1.prec = -2 then ({ x.1 with prec := max (takeF x.2) (-1) }, x.2.drop 1) else x
def resE (x : Dir × Cells) : Dir × Int × Cells := if x.1.width > 255 ∨ x.1.prec > 255 then (x.1, 2, x.2) else (x.1, 0, x.2)
def resolveF (d : Dir) (l : Cells) : Dir × Int × Cells := if l.length < needF d then (d, 18, l) else resE (resP (resW d l))
def setArg (h : Heap) (a : AV) : Heap := { h with objs := h.objs.set 1 (.cells [a]) }
def goodC (e : List AV) : Bool :=
 match e with
 | [.sc (.int .i64 _), .sc (.int .i64 _), .sc (.string s)] => decide (s.data.toList.length ≤ 1000000)
 | _ => false
def goodsB (l : Cells) : Bool := l.all goodC
def C36 (args : List AV) (h : Heap) : Option CSpec :=
 match args with
 | [.ptr 1 0] => match hArg h with
  | .sl l 0 => some (nspec ((bif Nat.beq h.next 4 then IS [] h = sB (.sl l 0) else IS [] h = sC (.sl l 0) (hBytes h) (hN h)) ∧ 1 ≤ l.length ∧ goodsB l = true) (takeF l) (fun x => aK .i64 x) (setArg h (.sl (l.drop 1) 0)))
  | _ => some { pre := False, alts := [] }
 | _ => none
def C23 (args : List AV) (h : Heap) : Option CSpec :=
 match args with
 | [.ptr 1 0, .agg [.sc (.bool a), .sc (.bool b), .sc (.bool c), .sc (.bool e), .sc (.int .i64 w), .sc (.int .i64 p), .sc (.int .u8 k)]] => match hArg h with
  | .sl l 0 => some { pre := (bif Nat.beq h.next 4 then IS [] h = sB (.sl l 0) else IS [] h = sC (.sl l 0) (hBytes h) (hN h)) ∧ goodsB l = true, alts := [{ α := Dir × Int × Cells, post := fun x => x = resolveF ⟨a, b, c, e, w, p, k⟩ l, val := fun x => .tup [.agg x.1.cells, aK .i64 x.2.1], heap := fun x => setArg h (.sl x.2.2 0) }] }
  | .sc (.slice none 0 0) => some { pre := (bif Nat.beq h.next 4 then IS [] h = sB nilA else IS [] h = sC nilA (hBytes h) (hN h)), alts := [{ α := Dir × Int × Cells, post := fun x => x = resolveF ⟨a, b, c, e, w, p, k⟩ [], val := fun x => .tup [.agg x.1.cells, aK .i64 x.2.1], heap := fun _ => h }] }
  | _ => none
 | _ => none
def rdB (h : Heap) (K : AV → Prop) : Prop :=
 match h with
 | ⟨4, .node (.node (.node .leaf (some (.cells [.ptr 3 0, .sc (.slice none 0 0)])) .leaf) (some (.cells [a])) .leaf) none (.node .leaf (some (.cells [.ptr 1 0])) .leaf), 1, .node (.node (.node .leaf (some (39, 2)) .leaf) (some (35, 1)) .leaf) none (.node .leaf (some (33, 1)) .leaf)⟩ => K a
 | _ => False
def rdC (h : Heap) (K : AV → Cells → Nat → Prop) : Prop :=
 match h with
 | ⟨5, .node (.node (.node .leaf (some (.cells [.ptr 3 0, .sl b 5])) .leaf) (some (.cells [a])) .leaf) none (.node (.node .leaf (some (.own 1 5 n)) .leaf) (some (.cells [.ptr 1 0])) .leaf), 1, .node (.node (.node .leaf (some (39, 2)) .leaf) (some (35, 1)) .leaf) none (.node .leaf (some (33, 1)) .leaf)⟩ => K a b n
 | _ => False
theorem rdB_ok {h : Heap} {K : AV → Prop} (hk : rdB h K) : ∃ a, h = hB a ∧ K a := by
 unfold rdB at hk
 split at hk
 ·exact ⟨_, rfl, hk⟩
 ·exact hk.elim
theorem rdC_ok {h : Heap} {K : AV → Cells → Nat → Prop} (hk : rdC h K) : ∃ a b n, h = hC a b n ∧ K a b n := by
 unfold rdC at hk
 split at hk
 ·exact ⟨_, _, _, rfl, hk⟩
 ·exact hk.elim
def wasDir (r : AV) (K : Dir → Int → Prop) : Prop :=
 match r with
 | .tup [.agg [.sc (.bool a), .sc (.bool b), .sc (.bool c), .sc (.bool e), .sc (.int .i64 w), .sc (.int .i64 p), .sc (.int .u8 k)], .sc (.int .i64 x)] => K ⟨a, b, c, e, w, p, k⟩ x
 | _ => False
def Q1 : Tab := N5
def Q2 : Tab := Q1.addC 27 C36
end
end Go.Proofs.Pr
namespace Go.Proofs.Pr
open Go Go.Ef
noncomputable section
set_option maxRecDepth 100000
theorem c36b (l : Cells) (K : AV → AV → Prop) (h :
 iteP (inRange 0 (List.length l)) (getI 0 l = some [AV.sc (Value.int IntKind.i64 (cellInt l 0 0)), AV.sc (Value.int IntKind.i64 (cellInt l 0 1)), AV.sc (Value.string (ByteArray.mk (Array.mk (cellStr l 0 2))))] ∧ iteP (headLen 3 l) (iteP (true && decide (1 ≤ (↑(List.length l) : Int))) ((cellStr l 0 2).length.le 1000000 ∧ ∀ (x : Int), x = numberF (cellInt l 0 0) (cellInt l 0 1) (cellStr l 0 2) →
 True ∧ ∀ (x_1 : Int), x_1 = (nearF x).tdiv 10000 → K (AV.sc (Value.int IntKind.i64 x_1)) (AV.sl (List.drop 1 l) 0)) False) False) False) :
 (fun (l : Cells) (K : AV → AV → Prop) => wpCall Q1 Door.cfg Tryz.prog 40 27 [.ptr 1 0] (hB (.sl l 0)) fun r h' => rdB h' fun a => K r a) l K :=
 Eq.mp (by kernel_rfl) h
theorem c36c (l : Cells) (b : Cells) (n : Nat) (K : AV → AV → Cells → Nat → Prop) (h :
 iteP (inRange 0 (List.length l)) (getI 0 l = some [AV.sc (Value.int IntKind.i64 (cellInt l 0 0)), AV.sc (Value.int IntKind.i64 (cellInt l 0 1)), AV.sc (Value.string (ByteArray.mk (Array.mk (cellStr l 0 2))))] ∧ iteP (headLen 3 l) (iteP (true && decide (1 ≤ (↑(List.length l) : Int))) ((cellStr l 0 2).length.le 1000000 ∧ ∀ (x : Int), x = numberF (cellInt l 0 0) (cellInt l 0 1) (cellStr l 0 2) →
 True ∧ ∀ (x_1 : Int), x_1 = (nearF x).tdiv 10000 → K (AV.sc (Value.int IntKind.i64 x_1)) (AV.sl (List.drop 1 l) 0) b n) False) False) False) :
 (fun (l b : Cells) (n : Nat) (K : AV → AV → Cells → Nat → Prop) => wpCall Q1 Door.cfg Tryz.prog 40 27 [.ptr 1 0] (hC (.sl l 0) b n) fun r h' => rdC h' fun a b n => K r a b n) l b n K :=
 Eq.mp (by kernel_rfl) h
def d23P (d : Dir) (l : Cells) (S : AV → St) (K : Dir → Int → AV → Prop) : Prop :=
 iteP (d.width == (-2)) (iteP (d.prec == (-2)) (iteP (d.kind != 37) (iteP (decide ((↑(List.length l) : Int) < 3)) (K (Dir.mk d.minus d.zero d.plus d.space d.width d.prec d.kind) 18 (AV.sl l 0)) (iteP (d.width == (-2)) ((S (AV.sl l 0) = S (AV.sl l 0) ∧ 1 ≤ List.length l ∧ goodsB l = true) ∧ ∀ (x : Int), x = takeF l → iteP (decide (x < 0)) (iteP (d.prec == (-2))
 ((S (AV.sl (List.drop 1 l) 0) = S (AV.sl (List.drop 1 l) 0) ∧ 1 ≤ (List.drop 1 l).length ∧ goodsB (List.drop 1 l) = true) ∧ ∀ (x_1 : Int), x_1 = takeF (List.drop 1 l) → iteP (decide (255 < IntKind.i64.wrap (0 - x))) (K (Dir.mk true d.zero d.plus d.space (IntKind.i64.wrap (0 - x)) (max x_1 (-1)) d.kind) 2 (AV.sl (List.drop 1 (List.drop 1 l)) 0)) (iteP (decide (255 < max x_1 (-1))) (K
 (Dir.mk true d.zero d.plus d.space (IntKind.i64.wrap (0 - x)) (max x_1 (-1)) d.kind) 2 (AV.sl (List.drop 1 (List.drop 1 l)) 0)) (K (Dir.mk true d.zero d.plus d.space (IntKind.i64.wrap (0 - x)) (max x_1 (-1)) d.kind) 0 (AV.sl (List.drop 1 (List.drop 1 l)) 0)))) (iteP (decide (255 < IntKind.i64.wrap (0 - x))) (K (Dir.mk true d.zero d.plus d.space (IntKind.i64.wrap (0 - x)) d.prec d.kind) 2
 (AV.sl (List.drop 1 l) 0)) (iteP (decide (255 < d.prec)) (K (Dir.mk true d.zero d.plus d.space (IntKind.i64.wrap (0 - x)) d.prec d.kind) 2 (AV.sl (List.drop 1 l) 0)) (K (Dir.mk true d.zero d.plus d.space (IntKind.i64.wrap (0 - x)) d.prec d.kind) 0 (AV.sl (List.drop 1 l) 0))))) (iteP (d.prec == (-2)) ((S (AV.sl (List.drop 1 l) 0) = S (AV.sl (List.drop 1 l) 0) ∧
 1 ≤ (List.drop 1 l).length ∧ goodsB (List.drop 1 l) = true) ∧ ∀ (x_1 : Int), x_1 = takeF (List.drop 1 l) → iteP (decide (255 < x)) (K (Dir.mk d.minus d.zero d.plus d.space x (max x_1 (-1)) d.kind) 2 (AV.sl (List.drop 1 (List.drop 1 l)) 0)) (iteP (decide (255 < max x_1 (-1))) (K (Dir.mk d.minus d.zero d.plus d.space x (max x_1 (-1)) d.kind) 2 (AV.sl (List.drop 1 (List.drop 1 l)) 0))
 (K (Dir.mk d.minus d.zero d.plus d.space x (max x_1 (-1)) d.kind) 0 (AV.sl (List.drop 1 (List.drop 1 l)) 0)))) (iteP (decide (255 < x)) (K (Dir.mk d.minus d.zero d.plus d.space x d.prec d.kind) 2 (AV.sl (List.drop 1 l) 0)) (iteP (decide (255 < d.prec)) (K (Dir.mk d.minus d.zero d.plus d.space x d.prec d.kind) 2 (AV.sl (List.drop 1 l) 0)) (K (Dir.mk d.minus d.zero d.plus d.space x d.prec d.kind) 0
 (AV.sl (List.drop 1 l) 0)))))) (iteP (d.prec == (-2)) ((S (AV.sl l 0) = S (AV.sl l 0) ∧ 1 ≤ List.length l ∧ goodsB l = true) ∧ ∀ (x : Int), x = takeF l → iteP (decide (255 < d.width)) (K (Dir.mk d.minus d.zero d.plus d.space d.width (max x (-1)) d.kind) 2 (AV.sl (List.drop 1 l) 0)) (iteP (decide (255 < max x (-1))) (K (Dir.mk d.minus d.zero d.plus d.space d.width (max x (-1)) d.kind) 2
 (AV.sl (List.drop 1 l) 0)) (K (Dir.mk d.minus d.zero d.plus d.space d.width (max x (-1)) d.kind) 0 (AV.sl (List.drop 1 l) 0)))) (iteP (decide (255 < d.width)) (K (Dir.mk d.minus d.zero d.plus d.space d.width d.prec d.kind) 2 (AV.sl l 0)) (iteP (decide (255 < d.prec)) (K (Dir.mk d.minus d.zero d.plus d.space d.width d.prec d.kind) 2 (AV.sl l 0))
 (K (Dir.mk d.minus d.zero d.plus d.space d.width d.prec d.kind) 0 (AV.sl l 0))))))) (iteP (decide ((↑(List.length l) : Int) < 2)) (K (Dir.mk d.minus d.zero d.plus d.space d.width d.prec d.kind) 18 (AV.sl l 0)) (iteP (d.width == (-2)) ((S (AV.sl l 0) = S (AV.sl l 0) ∧ 1 ≤ List.length l ∧ goodsB l = true) ∧ ∀ (x : Int), x = takeF l → iteP (decide (x < 0)) (iteP (d.prec == (-2))
 ((S (AV.sl (List.drop 1 l) 0) = S (AV.sl (List.drop 1 l) 0) ∧ 1 ≤ (List.drop 1 l).length ∧ goodsB (List.drop 1 l) = true) ∧ ∀ (x_1 : Int), x_1 = takeF (List.drop 1 l) → iteP (decide (255 < IntKind.i64.wrap (0 - x))) (K (Dir.mk true d.zero d.plus d.space (IntKind.i64.wrap (0 - x)) (max x_1 (-1)) d.kind) 2 (AV.sl (List.drop 1 (List.drop 1 l)) 0)) (iteP (decide (255 < max x_1 (-1))) (K
 (Dir.mk true d.zero d.plus d.space (IntKind.i64.wrap (0 - x)) (max x_1 (-1)) d.kind) 2 (AV.sl (List.drop 1 (List.drop 1 l)) 0)) (K (Dir.mk true d.zero d.plus d.space (IntKind.i64.wrap (0 - x)) (max x_1 (-1)) d.kind) 0 (AV.sl (List.drop 1 (List.drop 1 l)) 0)))) (iteP (decide (255 < IntKind.i64.wrap (0 - x))) (K (Dir.mk true d.zero d.plus d.space (IntKind.i64.wrap (0 - x)) d.prec d.kind) 2
 (AV.sl (List.drop 1 l) 0)) (iteP (decide (255 < d.prec)) (K (Dir.mk true d.zero d.plus d.space (IntKind.i64.wrap (0 - x)) d.prec d.kind) 2 (AV.sl (List.drop 1 l) 0)) (K (Dir.mk true d.zero d.plus d.space (IntKind.i64.wrap (0 - x)) d.prec d.kind) 0 (AV.sl (List.drop 1 l) 0))))) (iteP (d.prec == (-2)) ((S (AV.sl (List.drop 1 l) 0) = S (AV.sl (List.drop 1 l) 0) ∧
 1 ≤ (List.drop 1 l).length ∧ goodsB (List.drop 1 l) = true) ∧ ∀ (x_1 : Int), x_1 = takeF (List.drop 1 l) → iteP (decide (255 < x)) (K (Dir.mk d.minus d.zero d.plus d.space x (max x_1 (-1)) d.kind) 2 (AV.sl (List.drop 1 (List.drop 1 l)) 0)) (iteP (decide (255 < max x_1 (-1))) (K (Dir.mk d.minus d.zero d.plus d.space x (max x_1 (-1)) d.kind) 2 (AV.sl (List.drop 1 (List.drop 1 l)) 0))
 (K (Dir.mk d.minus d.zero d.plus d.space x (max x_1 (-1)) d.kind) 0 (AV.sl (List.drop 1 (List.drop 1 l)) 0)))) (iteP (decide (255 < x)) (K (Dir.mk d.minus d.zero d.plus d.space x d.prec d.kind) 2 (AV.sl (List.drop 1 l) 0)) (iteP (decide (255 < d.prec)) (K (Dir.mk d.minus d.zero d.plus d.space x d.prec d.kind) 2 (AV.sl (List.drop 1 l) 0)) (K (Dir.mk d.minus d.zero d.plus d.space x d.prec d.kind) 0
 (AV.sl (List.drop 1 l) 0)))))) (iteP (d.prec == (-2)) ((S (AV.sl l 0) = S (AV.sl l 0) ∧ 1 ≤ List.length l ∧ goodsB l = true) ∧ ∀ (x : Int), x = takeF l → iteP (decide (255 < d.width)) (K (Dir.mk d.minus d.zero d.plus d.space d.width (max x (-1)) d.kind) 2 (AV.sl (List.drop 1 l) 0)) (iteP (decide (255 < max x (-1))) (K (Dir.mk d.minus d.zero d.plus d.space d.width (max x (-1)) d.kind) 2
 (AV.sl (List.drop 1 l) 0)) (K (Dir.mk d.minus d.zero d.plus d.space d.width (max x (-1)) d.kind) 0 (AV.sl (List.drop 1 l) 0)))) (iteP (decide (255 < d.width)) (K (Dir.mk d.minus d.zero d.plus d.space d.width d.prec d.kind) 2 (AV.sl l 0)) (iteP (decide (255 < d.prec)) (K (Dir.mk d.minus d.zero d.plus d.space d.width d.prec d.kind) 2 (AV.sl l 0))
 (K (Dir.mk d.minus d.zero d.plus d.space d.width d.prec d.kind) 0 (AV.sl l 0)))))))) (iteP (d.kind != 37) (iteP (decide ((↑(List.length l) : Int) < 2)) (K (Dir.mk d.minus d.zero d.plus d.space d.width d.prec d.kind) 18 (AV.sl l 0)) (iteP (d.width == (-2)) ((S (AV.sl l 0) = S (AV.sl l 0) ∧ 1 ≤ List.length l ∧ goodsB l = true) ∧ ∀ (x : Int), x = takeF l → iteP (decide (x < 0)) (iteP (d.prec == (-2))
 ((S (AV.sl (List.drop 1 l) 0) = S (AV.sl (List.drop 1 l) 0) ∧ 1 ≤ (List.drop 1 l).length ∧ goodsB (List.drop 1 l) = true) ∧ ∀ (x_1 : Int), x_1 = takeF (List.drop 1 l) → iteP (decide (255 < IntKind.i64.wrap (0 - x))) (K (Dir.mk true d.zero d.plus d.space (IntKind.i64.wrap (0 - x)) (max x_1 (-1)) d.kind) 2 (AV.sl (List.drop 1 (List.drop 1 l)) 0)) (iteP (decide (255 < max x_1 (-1))) (K
 (Dir.mk true d.zero d.plus d.space (IntKind.i64.wrap (0 - x)) (max x_1 (-1)) d.kind) 2 (AV.sl (List.drop 1 (List.drop 1 l)) 0)) (K (Dir.mk true d.zero d.plus d.space (IntKind.i64.wrap (0 - x)) (max x_1 (-1)) d.kind) 0 (AV.sl (List.drop 1 (List.drop 1 l)) 0)))) (iteP (decide (255 < IntKind.i64.wrap (0 - x))) (K (Dir.mk true d.zero d.plus d.space (IntKind.i64.wrap (0 - x)) d.prec d.kind) 2
 (AV.sl (List.drop 1 l) 0)) (iteP (decide (255 < d.prec)) (K (Dir.mk true d.zero d.plus d.space (IntKind.i64.wrap (0 - x)) d.prec d.kind) 2 (AV.sl (List.drop 1 l) 0)) (K (Dir.mk true d.zero d.plus d.space (IntKind.i64.wrap (0 - x)) d.prec d.kind) 0 (AV.sl (List.drop 1 l) 0))))) (iteP (d.prec == (-2)) ((S (AV.sl (List.drop 1 l) 0) = S (AV.sl (List.drop 1 l) 0) ∧
 1 ≤ (List.drop 1 l).length ∧ goodsB (List.drop 1 l) = true) ∧ ∀ (x_1 : Int), x_1 = takeF (List.drop 1 l) → iteP (decide (255 < x)) (K (Dir.mk d.minus d.zero d.plus d.space x (max x_1 (-1)) d.kind) 2 (AV.sl (List.drop 1 (List.drop 1 l)) 0)) (iteP (decide (255 < max x_1 (-1))) (K (Dir.mk d.minus d.zero d.plus d.space x (max x_1 (-1)) d.kind) 2 (AV.sl (List.drop 1 (List.drop 1 l)) 0))
 (K (Dir.mk d.minus d.zero d.plus d.space x (max x_1 (-1)) d.kind) 0 (AV.sl (List.drop 1 (List.drop 1 l)) 0)))) (iteP (decide (255 < x)) (K (Dir.mk d.minus d.zero d.plus d.space x d.prec d.kind) 2 (AV.sl (List.drop 1 l) 0)) (iteP (decide (255 < d.prec)) (K (Dir.mk d.minus d.zero d.plus d.space x d.prec d.kind) 2 (AV.sl (List.drop 1 l) 0)) (K (Dir.mk d.minus d.zero d.plus d.space x d.prec d.kind) 0
 (AV.sl (List.drop 1 l) 0)))))) (iteP (d.prec == (-2)) ((S (AV.sl l 0) = S (AV.sl l 0) ∧ 1 ≤ List.length l ∧ goodsB l = true) ∧ ∀ (x : Int), x = takeF l → iteP (decide (255 < d.width)) (K (Dir.mk d.minus d.zero d.plus d.space d.width (max x (-1)) d.kind) 2 (AV.sl (List.drop 1 l) 0)) (iteP (decide (255 < max x (-1))) (K (Dir.mk d.minus d.zero d.plus d.space d.width (max x (-1)) d.kind) 2
 (AV.sl (List.drop 1 l) 0)) (K (Dir.mk d.minus d.zero d.plus d.space d.width (max x (-1)) d.kind) 0 (AV.sl (List.drop 1 l) 0)))) (iteP (decide (255 < d.width)) (K (Dir.mk d.minus d.zero d.plus d.space d.width d.prec d.kind) 2 (AV.sl l 0)) (iteP (decide (255 < d.prec)) (K (Dir.mk d.minus d.zero d.plus d.space d.width d.prec d.kind) 2 (AV.sl l 0))
 (K (Dir.mk d.minus d.zero d.plus d.space d.width d.prec d.kind) 0 (AV.sl l 0))))))) (iteP (decide ((↑(List.length l) : Int) < 1)) (K (Dir.mk d.minus d.zero d.plus d.space d.width d.prec d.kind) 18 (AV.sl l 0)) (iteP (d.width == (-2)) ((S (AV.sl l 0) = S (AV.sl l 0) ∧ 1 ≤ List.length l ∧ goodsB l = true) ∧ ∀ (x : Int), x = takeF l → iteP (decide (x < 0)) (iteP (d.prec == (-2))
 ((S (AV.sl (List.drop 1 l) 0) = S (AV.sl (List.drop 1 l) 0) ∧ 1 ≤ (List.drop 1 l).length ∧ goodsB (List.drop 1 l) = true) ∧ ∀ (x_1 : Int), x_1 = takeF (List.drop 1 l) → iteP (decide (255 < IntKind.i64.wrap (0 - x))) (K (Dir.mk true d.zero d.plus d.space (IntKind.i64.wrap (0 - x)) (max x_1 (-1)) d.kind) 2 (AV.sl (List.drop 1 (List.drop 1 l)) 0)) (iteP (decide (255 < max x_1 (-1))) (K
 (Dir.mk true d.zero d.plus d.space (IntKind.i64.wrap (0 - x)) (max x_1 (-1)) d.kind) 2 (AV.sl (List.drop 1 (List.drop 1 l)) 0)) (K (Dir.mk true d.zero d.plus d.space (IntKind.i64.wrap (0 - x)) (max x_1 (-1)) d.kind) 0 (AV.sl (List.drop 1 (List.drop 1 l)) 0)))) (iteP (decide (255 < IntKind.i64.wrap (0 - x))) (K (Dir.mk true d.zero d.plus d.space (IntKind.i64.wrap (0 - x)) d.prec d.kind) 2
 (AV.sl (List.drop 1 l) 0)) (iteP (decide (255 < d.prec)) (K (Dir.mk true d.zero d.plus d.space (IntKind.i64.wrap (0 - x)) d.prec d.kind) 2 (AV.sl (List.drop 1 l) 0)) (K (Dir.mk true d.zero d.plus d.space (IntKind.i64.wrap (0 - x)) d.prec d.kind) 0 (AV.sl (List.drop 1 l) 0))))) (iteP (d.prec == (-2)) ((S (AV.sl (List.drop 1 l) 0) = S (AV.sl (List.drop 1 l) 0) ∧
 1 ≤ (List.drop 1 l).length ∧ goodsB (List.drop 1 l) = true) ∧ ∀ (x_1 : Int), x_1 = takeF (List.drop 1 l) → iteP (decide (255 < x)) (K (Dir.mk d.minus d.zero d.plus d.space x (max x_1 (-1)) d.kind) 2 (AV.sl (List.drop 1 (List.drop 1 l)) 0)) (iteP (decide (255 < max x_1 (-1))) (K (Dir.mk d.minus d.zero d.plus d.space x (max x_1 (-1)) d.kind) 2 (AV.sl (List.drop 1 (List.drop 1 l)) 0))
 (K (Dir.mk d.minus d.zero d.plus d.space x (max x_1 (-1)) d.kind) 0 (AV.sl (List.drop 1 (List.drop 1 l)) 0)))) (iteP (decide (255 < x)) (K (Dir.mk d.minus d.zero d.plus d.space x d.prec d.kind) 2 (AV.sl (List.drop 1 l) 0)) (iteP (decide (255 < d.prec)) (K (Dir.mk d.minus d.zero d.plus d.space x d.prec d.kind) 2 (AV.sl (List.drop 1 l) 0)) (K (Dir.mk d.minus d.zero d.plus d.space x d.prec d.kind) 0
 (AV.sl (List.drop 1 l) 0)))))) (iteP (d.prec == (-2)) ((S (AV.sl l 0) = S (AV.sl l 0) ∧ 1 ≤ List.length l ∧ goodsB l = true) ∧ ∀ (x : Int), x = takeF l → iteP (decide (255 < d.width)) (K (Dir.mk d.minus d.zero d.plus d.space d.width (max x (-1)) d.kind) 2 (AV.sl (List.drop 1 l) 0)) (iteP (decide (255 < max x (-1))) (K (Dir.mk d.minus d.zero d.plus d.space d.width (max x (-1)) d.kind) 2
 (AV.sl (List.drop 1 l) 0)) (K (Dir.mk d.minus d.zero d.plus d.space d.width (max x (-1)) d.kind) 0 (AV.sl (List.drop 1 l) 0)))) (iteP (decide (255 < d.width)) (K (Dir.mk d.minus d.zero d.plus d.space d.width d.prec d.kind) 2 (AV.sl l 0)) (iteP (decide (255 < d.prec)) (K (Dir.mk d.minus d.zero d.plus d.space d.width d.prec d.kind) 2 (AV.sl l 0))
 (K (Dir.mk d.minus d.zero d.plus d.space d.width d.prec d.kind) 0 (AV.sl l 0))))))))) (iteP (d.prec == (-2)) (iteP (d.kind != 37) (iteP (decide ((↑(List.length l) : Int) < 2)) (K (Dir.mk d.minus d.zero d.plus d.space d.width d.prec d.kind) 18 (AV.sl l 0)) (iteP (d.width == (-2)) ((S (AV.sl l 0) = S (AV.sl l 0) ∧ 1 ≤ List.length l ∧ goodsB l = true) ∧ ∀ (x : Int), x = takeF l → iteP (decide (x < 0))
 (iteP (d.prec == (-2)) ((S (AV.sl (List.drop 1 l) 0) = S (AV.sl (List.drop 1 l) 0) ∧ 1 ≤ (List.drop 1 l).length ∧ goodsB (List.drop 1 l) = true) ∧ ∀ (x_1 : Int), x_1 = takeF (List.drop 1 l) → iteP (decide (255 < IntKind.i64.wrap (0 - x))) (K (Dir.mk true d.zero d.plus d.space (IntKind.i64.wrap (0 - x)) (max x_1 (-1)) d.kind) 2 (AV.sl (List.drop 1 (List.drop 1 l)) 0))
 (iteP (decide (255 < max x_1 (-1))) (K (Dir.mk true d.zero d.plus d.space (IntKind.i64.wrap (0 - x)) (max x_1 (-1)) d.kind) 2 (AV.sl (List.drop 1 (List.drop 1 l)) 0)) (K (Dir.mk true d.zero d.plus d.space (IntKind.i64.wrap (0 - x)) (max x_1 (-1)) d.kind) 0 (AV.sl (List.drop 1 (List.drop 1 l)) 0)))) (iteP (decide (255 < IntKind.i64.wrap (0 - x)))
 (K (Dir.mk true d.zero d.plus d.space (IntKind.i64.wrap (0 - x)) d.prec d.kind) 2 (AV.sl (List.drop 1 l) 0)) (iteP (decide (255 < d.prec)) (K (Dir.mk true d.zero d.plus d.space (IntKind.i64.wrap (0 - x)) d.prec d.kind) 2 (AV.sl (List.drop 1 l) 0)) (K (Dir.mk true d.zero d.plus d.space (IntKind.i64.wrap (0 - x)) d.prec d.kind) 0 (AV.sl (List.drop 1 l) 0))))) (iteP (d.prec == (-2))
 ((S (AV.sl (List.drop 1 l) 0) = S (AV.sl (List.drop 1 l) 0) ∧ 1 ≤ (List.drop 1 l).length ∧ goodsB (List.drop 1 l) = true) ∧ ∀ (x_1 : Int), x_1 = takeF (List.drop 1 l) → iteP (decide (255 < x)) (K (Dir.mk d.minus d.zero d.plus d.space x (max x_1 (-1)) d.kind) 2 (AV.sl (List.drop 1 (List.drop 1 l)) 0)) (iteP (decide (255 < max x_1 (-1)))
 (K (Dir.mk d.minus d.zero d.plus d.space x (max x_1 (-1)) d.kind) 2 (AV.sl (List.drop 1 (List.drop 1 l)) 0)) (K (Dir.mk d.minus d.zero d.plus d.space x (max x_1 (-1)) d.kind) 0 (AV.sl (List.drop 1 (List.drop 1 l)) 0)))) (iteP (decide (255 < x)) (K (Dir.mk d.minus d.zero d.plus d.space x d.prec d.kind) 2 (AV.sl (List.drop 1 l) 0)) (iteP (decide (255 < d.prec))
 (K (Dir.mk d.minus d.zero d.plus d.space x d.prec d.kind) 2 (AV.sl (List.drop 1 l) 0)) (K (Dir.mk d.minus d.zero d.plus d.space x d.prec d.kind) 0 (AV.sl (List.drop 1 l) 0)))))) (iteP (d.prec == (-2)) ((S (AV.sl l 0) = S (AV.sl l 0) ∧ 1 ≤ List.length l ∧ goodsB l = true) ∧ ∀ (x : Int), x = takeF l → iteP (decide (255 < d.width))
 (K (Dir.mk d.minus d.zero d.plus d.space d.width (max x (-1)) d.kind) 2 (AV.sl (List.drop 1 l) 0)) (iteP (decide (255 < max x (-1))) (K (Dir.mk d.minus d.zero d.plus d.space d.width (max x (-1)) d.kind) 2 (AV.sl (List.drop 1 l) 0)) (K (Dir.mk d.minus d.zero d.plus d.space d.width (max x (-1)) d.kind) 0 (AV.sl (List.drop 1 l) 0)))) (iteP (decide (255 < d.width))
 (K (Dir.mk d.minus d.zero d.plus d.space d.width d.prec d.kind) 2 (AV.sl l 0)) (iteP (decide (255 < d.prec)) (K (Dir.mk d.minus d.zero d.plus d.space d.width d.prec d.kind) 2 (AV.sl l 0)) (K (Dir.mk d.minus d.zero d.plus d.space d.width d.prec d.kind) 0 (AV.sl l 0))))))) (iteP (decide ((↑(List.length l) : Int) < 1)) (K (Dir.mk d.minus d.zero d.plus d.space d.width d.prec d.kind) 18 (AV.sl l 0))
 (iteP (d.width == (-2)) ((S (AV.sl l 0) = S (AV.sl l 0) ∧ 1 ≤ List.length l ∧ goodsB l = true) ∧ ∀ (x : Int), x = takeF l → iteP (decide (x < 0)) (iteP (d.prec == (-2)) ((S (AV.sl (List.drop 1 l) 0) = S (AV.sl (List.drop 1 l) 0) ∧ 1 ≤ (List.drop 1 l).length ∧ goodsB (List.drop 1 l) = true) ∧ ∀ (x_1 : Int), x_1 = takeF (List.drop 1 l) → iteP (decide (255 < IntKind.i64.wrap (0 - x))) (K
 (Dir.mk true d.zero d.plus d.space (IntKind.i64.wrap (0 - x)) (max x_1 (-1)) d.kind) 2 (AV.sl (List.drop 1 (List.drop 1 l)) 0)) (iteP (decide (255 < max x_1 (-1))) (K (Dir.mk true d.zero d.plus d.space (IntKind.i64.wrap (0 - x)) (max x_1 (-1)) d.kind) 2 (AV.sl (List.drop 1 (List.drop 1 l)) 0)) (K (Dir.mk true d.zero d.plus d.space (IntKind.i64.wrap (0 - x)) (max x_1 (-1)) d.kind)
 0 (AV.sl (List.drop 1 (List.drop 1 l)) 0)))) (iteP (decide (255 < IntKind.i64.wrap (0 - x))) (K (Dir.mk true d.zero d.plus d.space (IntKind.i64.wrap (0 - x)) d.prec d.kind) 2 (AV.sl (List.drop 1 l) 0)) (iteP (decide (255 < d.prec)) (K (Dir.mk true d.zero d.plus d.space (IntKind.i64.wrap (0 - x)) d.prec d.kind) 2 (AV.sl (List.drop 1 l) 0))
 (K (Dir.mk true d.zero d.plus d.space (IntKind.i64.wrap (0 - x)) d.prec d.kind) 0 (AV.sl (List.drop 1 l) 0))))) (iteP (d.prec == (-2)) ((S (AV.sl (List.drop 1 l) 0) = S (AV.sl (List.drop 1 l) 0) ∧ 1 ≤ (List.drop 1 l).length ∧ goodsB (List.drop 1 l) = true) ∧ ∀ (x_1 : Int), x_1 = takeF (List.drop 1 l) → iteP (decide (255 < x)) (K (Dir.mk d.minus d.zero d.plus d.space x (max x_1 (-1)) d.kind) 2
 (AV.sl (List.drop 1 (List.drop 1 l)) 0)) (iteP (decide (255 < max x_1 (-1))) (K (Dir.mk d.minus d.zero d.plus d.space x (max x_1 (-1)) d.kind) 2 (AV.sl (List.drop 1 (List.drop 1 l)) 0)) (K (Dir.mk d.minus d.zero d.plus d.space x (max x_1 (-1)) d.kind) 0 (AV.sl (List.drop 1 (List.drop 1 l)) 0)))) (iteP (decide (255 < x)) (K (Dir.mk d.minus d.zero d.plus d.space x d.prec d.kind) 2
 (AV.sl (List.drop 1 l) 0)) (iteP (decide (255 < d.prec)) (K (Dir.mk d.minus d.zero d.plus d.space x d.prec d.kind) 2 (AV.sl (List.drop 1 l) 0)) (K (Dir.mk d.minus d.zero d.plus d.space x d.prec d.kind) 0 (AV.sl (List.drop 1 l) 0)))))) (iteP (d.prec == (-2)) ((S (AV.sl l 0) = S (AV.sl l 0) ∧ 1 ≤ List.length l ∧ goodsB l = true) ∧ ∀ (x : Int), x = takeF l → iteP (decide (255 < d.width))
 (K (Dir.mk d.minus d.zero d.plus d.space d.width (max x (-1)) d.kind) 2 (AV.sl (List.drop 1 l) 0)) (iteP (decide (255 < max x (-1))) (K (Dir.mk d.minus d.zero d.plus d.space d.width (max x (-1)) d.kind) 2 (AV.sl (List.drop 1 l) 0)) (K (Dir.mk d.minus d.zero d.plus d.space d.width (max x (-1)) d.kind) 0 (AV.sl (List.drop 1 l) 0)))) (iteP (decide (255 < d.width))
 (K (Dir.mk d.minus d.zero d.plus d.space d.width d.prec d.kind) 2 (AV.sl l 0)) (iteP (decide (255 < d.prec)) (K (Dir.mk d.minus d.zero d.plus d.space d.width d.prec d.kind) 2 (AV.sl l 0)) (K (Dir.mk d.minus d.zero d.plus d.space d.width d.prec d.kind) 0 (AV.sl l 0)))))))) (iteP (d.kind != 37) (iteP (decide ((↑(List.length l) : Int) < 1))
 (K (Dir.mk d.minus d.zero d.plus d.space d.width d.prec d.kind) 18 (AV.sl l 0)) (iteP (d.width == (-2)) ((S (AV.sl l 0) = S (AV.sl l 0) ∧ 1 ≤ List.length l ∧ goodsB l = true) ∧ ∀ (x : Int), x = takeF l → iteP (decide (x < 0)) (iteP (d.prec == (-2)) ((S (AV.sl (List.drop 1 l) 0) = S (AV.sl (List.drop 1 l) 0) ∧ 1 ≤ (List.drop 1 l).length ∧ goodsB (List.drop 1 l) = true) ∧ ∀ (x_1 : Int),
 x_1 = takeF (List.drop 1 l) → iteP (decide (255 < IntKind.i64.wrap (0 - x))) (K (Dir.mk true d.zero d.plus d.space (IntKind.i64.wrap (0 - x)) (max x_1 (-1)) d.kind) 2 (AV.sl (List.drop 1 (List.drop 1 l)) 0)) (iteP (decide (255 < max x_1 (-1))) (K (Dir.mk true d.zero d.plus d.space (IntKind.i64.wrap (0 - x)) (max x_1 (-1)) d.kind) 2 (AV.sl (List.drop 1 (List.drop 1 l)) 0)) (K
 (Dir.mk true d.zero d.plus d.space (IntKind.i64.wrap (0 - x)) (max x_1 (-1)) d.kind) 0 (AV.sl (List.drop 1 (List.drop 1 l)) 0)))) (iteP (decide (255 < IntKind.i64.wrap (0 - x))) (K (Dir.mk true d.zero d.plus d.space (IntKind.i64.wrap (0 - x)) d.prec d.kind) 2 (AV.sl (List.drop 1 l) 0)) (iteP (decide (255 < d.prec)) (K (Dir.mk true d.zero d.plus d.space (IntKind.i64.wrap (0 - x)) d.prec d.kind)
 2 (AV.sl (List.drop 1 l) 0)) (K (Dir.mk true d.zero d.plus d.space (IntKind.i64.wrap (0 - x)) d.prec d.kind) 0 (AV.sl (List.drop 1 l) 0))))) (iteP (d.prec == (-2)) ((S (AV.sl (List.drop 1 l) 0) = S (AV.sl (List.drop 1 l) 0) ∧ 1 ≤ (List.drop 1 l).length ∧ goodsB (List.drop 1 l) = true) ∧ ∀ (x_1 : Int), x_1 = takeF (List.drop 1 l) → iteP (decide (255 < x))
 (K (Dir.mk d.minus d.zero d.plus d.space x (max x_1 (-1)) d.kind) 2 (AV.sl (List.drop 1 (List.drop 1 l)) 0)) (iteP (decide (255 < max x_1 (-1))) (K (Dir.mk d.minus d.zero d.plus d.space x (max x_1 (-1)) d.kind) 2 (AV.sl (List.drop 1 (List.drop 1 l)) 0)) (K (Dir.mk d.minus d.zero d.plus d.space x (max x_1 (-1)) d.kind) 0 (AV.sl (List.drop 1 (List.drop 1 l)) 0)))) (iteP (decide (255 < x))
 (K (Dir.mk d.minus d.zero d.plus d.space x d.prec d.kind) 2 (AV.sl (List.drop 1 l) 0)) (iteP (decide (255 < d.prec)) (K (Dir.mk d.minus d.zero d.plus d.space x d.prec d.kind) 2 (AV.sl (List.drop 1 l) 0)) (K (Dir.mk d.minus d.zero d.plus d.space x d.prec d.kind) 0 (AV.sl (List.drop 1 l) 0)))))) (iteP (d.prec == (-2)) ((S (AV.sl l 0) = S (AV.sl l 0) ∧ 1 ≤ List.length l ∧ goodsB l = true) ∧
 ∀ (x : Int), x = takeF l → iteP (decide (255 < d.width)) (K (Dir.mk d.minus d.zero d.plus d.space d.width (max x (-1)) d.kind) 2 (AV.sl (List.drop 1 l) 0)) (iteP (decide (255 < max x (-1))) (K (Dir.mk d.minus d.zero d.plus d.space d.width (max x (-1)) d.kind) 2 (AV.sl (List.drop 1 l) 0)) (K (Dir.mk d.minus d.zero d.plus d.space d.width (max x (-1)) d.kind) 0 (AV.sl (List.drop 1 l) 0))))
 (iteP (decide (255 < d.width)) (K (Dir.mk d.minus d.zero d.plus d.space d.width d.prec d.kind) 2 (AV.sl l 0)) (iteP (decide (255 < d.prec)) (K (Dir.mk d.minus d.zero d.plus d.space d.width d.prec d.kind) 2 (AV.sl l 0)) (K (Dir.mk d.minus d.zero d.plus d.space d.width d.prec d.kind) 0 (AV.sl l 0))))))) (iteP (d.width == (-2)) ((S (AV.sl l 0) = S (AV.sl l 0) ∧ 1 ≤ List.length l ∧ goodsB l = true) ∧
 ∀ (x : Int), x = takeF l → iteP (decide (x < 0)) (iteP (d.prec == (-2)) ((S (AV.sl (List.drop 1 l) 0) = S (AV.sl (List.drop 1 l) 0) ∧ 1 ≤ (List.drop 1 l).length ∧ goodsB (List.drop 1 l) = true) ∧ ∀ (x_1 : Int), x_1 = takeF (List.drop 1 l) → iteP (decide (255 < IntKind.i64.wrap (0 - x))) (K (Dir.mk true d.zero d.plus d.space (IntKind.i64.wrap (0 - x)) (max x_1 (-1)) d.kind)
 2 (AV.sl (List.drop 1 (List.drop 1 l)) 0)) (iteP (decide (255 < max x_1 (-1))) (K (Dir.mk true d.zero d.plus d.space (IntKind.i64.wrap (0 - x)) (max x_1 (-1)) d.kind) 2 (AV.sl (List.drop 1 (List.drop 1 l)) 0)) (K (Dir.mk true d.zero d.plus d.space (IntKind.i64.wrap (0 - x)) (max x_1 (-1)) d.kind) 0 (AV.sl (List.drop 1 (List.drop 1 l)) 0)))) (iteP (decide (255 < IntKind.i64.wrap (0 - x)))
 (K (Dir.mk true d.zero d.plus d.space (IntKind.i64.wrap (0 - x)) d.prec d.kind) 2 (AV.sl (List.drop 1 l) 0)) (iteP (decide (255 < d.prec)) (K (Dir.mk true d.zero d.plus d.space (IntKind.i64.wrap (0 - x)) d.prec d.kind) 2 (AV.sl (List.drop 1 l) 0)) (K (Dir.mk true d.zero d.plus d.space (IntKind.i64.wrap (0 - x)) d.prec d.kind) 0 (AV.sl (List.drop 1 l) 0))))) (iteP (d.prec == (-2))
 ((S (AV.sl (List.drop 1 l) 0) = S (AV.sl (List.drop 1 l) 0) ∧ 1 ≤ (List.drop 1 l).length ∧ goodsB (List.drop 1 l) = true) ∧ ∀ (x_1 : Int), x_1 = takeF (List.drop 1 l) → iteP (decide (255 < x)) (K (Dir.mk d.minus d.zero d.plus d.space x (max x_1 (-1)) d.kind) 2 (AV.sl (List.drop 1 (List.drop 1 l)) 0)) (iteP (decide (255 < max x_1 (-1)))
 (K (Dir.mk d.minus d.zero d.plus d.space x (max x_1 (-1)) d.kind) 2 (AV.sl (List.drop 1 (List.drop 1 l)) 0)) (K (Dir.mk d.minus d.zero d.plus d.space x (max x_1 (-1)) d.kind) 0 (AV.sl (List.drop 1 (List.drop 1 l)) 0)))) (iteP (decide (255 < x)) (K (Dir.mk d.minus d.zero d.plus d.space x d.prec d.kind) 2 (AV.sl (List.drop 1 l) 0)) (iteP (decide (255 < d.prec))
 (K (Dir.mk d.minus d.zero d.plus d.space x d.prec d.kind) 2 (AV.sl (List.drop 1 l) 0)) (K (Dir.mk d.minus d.zero d.plus d.space x d.prec d.kind) 0 (AV.sl (List.drop 1 l) 0)))))) (iteP (d.prec == (-2)) ((S (AV.sl l 0) = S (AV.sl l 0) ∧ 1 ≤ List.length l ∧ goodsB l = true) ∧ ∀ (x : Int), x = takeF l → iteP (decide (255 < d.width))
 (K (Dir.mk d.minus d.zero d.plus d.space d.width (max x (-1)) d.kind) 2 (AV.sl (List.drop 1 l) 0)) (iteP (decide (255 < max x (-1))) (K (Dir.mk d.minus d.zero d.plus d.space d.width (max x (-1)) d.kind) 2 (AV.sl (List.drop 1 l) 0)) (K (Dir.mk d.minus d.zero d.plus d.space d.width (max x (-1)) d.kind) 0 (AV.sl (List.drop 1 l) 0)))) (iteP (decide (255 < d.width))
 (K (Dir.mk d.minus d.zero d.plus d.space d.width d.prec d.kind) 2 (AV.sl l 0)) (iteP (decide (255 < d.prec)) (K (Dir.mk d.minus d.zero d.plus d.space d.width d.prec d.kind) 2 (AV.sl l 0)) (K (Dir.mk d.minus d.zero d.plus d.space d.width d.prec d.kind) 0 (AV.sl l 0))))))))
theorem d23b (d : Dir) (l : Cells) (K : Dir → Int → AV → Prop) (h : d23P d l sB K) :
 (fun (d : Dir) (l : Cells) (K : Dir → Int → AV → Prop) => wpCall Q2 Door.cfg Tryz.prog 40 13 [.ptr 1 0, .agg d.cells] (hB (.sl l 0)) fun r h' => wasDir r fun d' e => rdB h' fun a => K d' e a) d l K :=
 Eq.mp (by kernel_rfl) h
theorem d23c (d : Dir) (l : Cells) (b : Cells) (n : Nat) (K : Dir → Int → AV → Cells → Nat → Prop) (h : d23P d l (fun a => sC a b n) (fun d e a => K d e a b n)) :
 (fun (d : Dir) (l b : Cells) (n : Nat) (K : Dir → Int → AV → Cells → Nat → Prop) => wpCall Q2 Door.cfg Tryz.prog 40 13 [.ptr 1 0, .agg d.cells] (hC (.sl l 0) b n) fun r h' => wasDir r fun d' e => rdC h' fun a b n => K d' e a b n) d l b n K :=
 Eq.mp (by kernel_rfl) h
theorem d23bn (d : Dir) (K : Dir → Int → AV → Prop) (h :
 iteP (d.width == (-2)) (iteP (d.prec == (-2)) (iteP (d.kind != 37) (K (Dir.mk d.minus d.zero d.plus d.space d.width d.prec d.kind) 18 (AV.sc (Value.slice none 0 0))) (K (Dir.mk d.minus d.zero d.plus d.space d.width d.prec d.kind) 18 (AV.sc (Value.slice none 0 0)))) (iteP (d.kind != 37) (K (Dir.mk d.minus d.zero d.plus d.space d.width d.prec d.kind) 18 (AV.sc (Value.slice none 0 0)))
 (K (Dir.mk d.minus d.zero d.plus d.space d.width d.prec d.kind) 18 (AV.sc (Value.slice none 0 0))))) (iteP (d.prec == (-2)) (iteP (d.kind != 37) (K (Dir.mk d.minus d.zero d.plus d.space d.width d.prec d.kind) 18 (AV.sc (Value.slice none 0 0))) (K (Dir.mk d.minus d.zero d.plus d.space d.width d.prec d.kind) 18 (AV.sc (Value.slice none 0 0)))) (iteP (d.kind != 37)
 (K (Dir.mk d.minus d.zero d.plus d.space d.width d.prec d.kind) 18 (AV.sc (Value.slice none 0 0))) (iteP (d.width == (-2)) (False ∧ True) (iteP (d.prec == (-2)) (False ∧ True) (iteP (decide (255 < d.width)) (K (Dir.mk d.minus d.zero d.plus d.space d.width d.prec d.kind) 2 (AV.sc (Value.slice none 0 0))) (iteP (decide (255 < d.prec)) (K (Dir.mk d.minus d.zero d.plus d.space d.width d.prec d.kind) 2
 (AV.sc (Value.slice none 0 0))) (K (Dir.mk d.minus d.zero d.plus d.space d.width d.prec d.kind) 0 (AV.sc (Value.slice none 0 0)))))))))) :
 (fun (d : Dir) (K : Dir → Int → AV → Prop) => wpCall Q2 Door.cfg Tryz.prog 40 13 [.ptr 1 0, .agg d.cells] (hB nilA) fun r h' => wasDir r fun d' e => rdB h' fun a => K d' e a) d K :=
 Eq.mp (by kernel_rfl) h
theorem d23cn (d : Dir) (b : Cells) (n : Nat) (K : Dir → Int → AV → Cells → Nat → Prop) (h :
 iteP (d.width == (-2)) (iteP (d.prec == (-2)) (iteP (d.kind != 37) (K (Dir.mk d.minus d.zero d.plus d.space d.width d.prec d.kind) 18 (AV.sc (Value.slice none 0 0)) b n) (K (Dir.mk d.minus d.zero d.plus d.space d.width d.prec d.kind) 18 (AV.sc (Value.slice none 0 0)) b n)) (iteP (d.kind != 37) (K (Dir.mk d.minus d.zero d.plus d.space d.width d.prec d.kind) 18 (AV.sc (Value.slice none 0 0)) b n)
 (K (Dir.mk d.minus d.zero d.plus d.space d.width d.prec d.kind) 18 (AV.sc (Value.slice none 0 0)) b n))) (iteP (d.prec == (-2)) (iteP (d.kind != 37) (K (Dir.mk d.minus d.zero d.plus d.space d.width d.prec d.kind) 18 (AV.sc (Value.slice none 0 0)) b n) (K (Dir.mk d.minus d.zero d.plus d.space d.width d.prec d.kind) 18 (AV.sc (Value.slice none 0 0)) b n)) (iteP (d.kind != 37)
 (K (Dir.mk d.minus d.zero d.plus d.space d.width d.prec d.kind) 18 (AV.sc (Value.slice none 0 0)) b n) (iteP (d.width == (-2)) (False ∧ True) (iteP (d.prec == (-2)) (False ∧ True) (iteP (decide (255 < d.width)) (K (Dir.mk d.minus d.zero d.plus d.space d.width d.prec d.kind) 2 (AV.sc (Value.slice none 0 0)) b n) (iteP (decide (255 < d.prec))
 (K (Dir.mk d.minus d.zero d.plus d.space d.width d.prec d.kind) 2 (AV.sc (Value.slice none 0 0)) b n) (K (Dir.mk d.minus d.zero d.plus d.space d.width d.prec d.kind) 0 (AV.sc (Value.slice none 0 0)) b n)))))))) :
 (fun (d : Dir) (b : Cells) (n : Nat) (K : Dir → Int → AV → Cells → Nat → Prop) => wpCall Q2 Door.cfg Tryz.prog 40 13 [.ptr 1 0, .agg d.cells] (hC nilA b n) fun r h' => wasDir r fun d' e => rdC h' fun a b n => K d' e a b n) d b n K :=
 Eq.mp (by kernel_rfl) h
end
end Go.Proofs.Pr
namespace Go.Proofs.Pr
open Go Go.Ef
noncomputable section
set_option maxRecDepth 100000
theorem goodC_inv {e : List AV} (h : goodC e = true) : ∃ (k n : Int) (s : List UInt8), e = [aK .i64 k, aK .i64 n, aStr s] ∧ s.length ≤ 1000000 := by
 unfold goodC at h
 split at h
 ·rename_i k n s
  obtain ⟨⟨s⟩⟩ := s
  exact ⟨k, n, s, rfl, by simpa using h⟩
 ·cases h
theorem goods_head {l : Cells} (h : goodsB l = true) (hl : 1 ≤ l.length) : ∃ (k n : Int) (s : List UInt8) (r : Cells), l = [aK .i64 k, aK .i64 n, aStr s] :: r ∧ s.length ≤ 1000000 ∧ goodsB r = true := by
 cases l with
 | nil => simp at hl
 | cons e r =>
  unfold goodsB at h
  rw [List.all_cons, Bool.and_eq_true] at h
  obtain ⟨k, n, s, rfl, hs⟩ := goodC_inv h.1
  exact ⟨k, n, s, r, rfl, hs, h.2⟩
theorem goods_drop {l : Cells} (h : goodsB l = true) (k : Nat) : goodsB (l.drop k) = true :=
 List.all_eq_true.2 fun x hx => List.all_eq_true.1 h x (List.mem_of_mem_drop hx)
theorem head_ok {l : Cells} (hg : goodsB l = true) (hl : 1 ≤ l.length) : inRange 0 (List.length l) = true ∧ getI 0 l = some [aK .i64 (cellInt l 0 0), aK .i64 (cellInt l 0 1), aStr (cellStr l 0 2)] ∧ headLen 3 l = true ∧ decide ((1 : Int) ≤ (List.length l : Int)) = true ∧ (headS l).length ≤ 1000000 := by
 obtain ⟨k, n, s, r, rfl, hs, hr⟩ := goods_head hg hl
 refine ⟨by rw [inRange_iff]; simp, rfl, rfl, by simp; omega, hs⟩
theorem okQ1 : TabOk Tryz.prog Door.cfg Q1 := ok38 (ok37 (ok50 okN3))
theorem ok36 : TabOk Tryz.prog Door.cfg Q2 := by
 refine addC_ok okQ1 fun args h s hs hp => ?_
 unfold C36 at hs
 split at hs
 ·split at hs
  ·rename_i l _
   refine nspec_ok2 (Option.some.inj hs) (fun hpre => ?_) hp
   obtain ⟨hh, hl, hg⟩ := hpre
   obtain ⟨g1, g2, g3, g4, g5⟩ := head_ok hg hl
   cases hn : Nat.beq h.next 4 with
   | true =>
    rw [hn] at hh
    replace hh : h = hB (.sl l 0) := IS_heap (s := []) (s' := []) hh
    subst hh
    refine evp_plain (by kernel_rfl) (by kernel_rfl) ?_
    have hw := c36b l (fun r a => r = aK .i64 (takeF l) ∧ a = .sl (l.drop 1) 0) (by
     rw [g1, iteP_t]
     refine ⟨g2, ?_⟩
     rw [g3, iteP_t, g4, Bool.and_self, iteP_t]
     exact ⟨g5, fun x hx => ⟨trivial, fun y hy => ⟨by rw [hy, hx]; rfl, rfl⟩⟩⟩)
    obtain ⟨m, r, h', h1, h2⟩ := call_okW okQ1 40 27 _ _ _ hw
    obtain ⟨a, rfl, rfl, rfl⟩ := rdB_ok h2
    exact ⟨m, _, _, h1, rfl, rfl⟩
   | false =>
    rw [hn] at hh
    replace hh : h = hC (.sl l 0) (hBytes h) (hN h) := IS_heap (s := []) (s' := []) hh
    generalize hBytes h = b at hh
    generalize hN h = n at hh
    subst hh
    refine evp_plain (by kernel_rfl) (by kernel_rfl) ?_
    have hw := c36c l b n (fun r a b' n' => r = aK .i64 (takeF l) ∧ a = .sl (l.drop 1) 0 ∧ b' = b ∧ n' = n) (by
     rw [g1, iteP_t]
     refine ⟨g2, ?_⟩
     rw [g3, iteP_t, g4, Bool.and_self, iteP_t]
     exact ⟨g5, fun x hx => ⟨trivial, fun y hy => ⟨by rw [hy, hx]; rfl, rfl, rfl, rfl⟩⟩⟩)
    obtain ⟨m, r, h', h1, h2⟩ := call_okW okQ1 40 27 _ _ _ hw
    obtain ⟨a, b', n', rfl, rfl, rfl, rfl, rfl⟩ := rdC_ok h2
    exact ⟨m, _, _, h1, rfl, rfl⟩
  ·cases Option.some.inj hs
   exact hp.elim
 ·cases hs
theorem take_le (l : Cells) : -1000000000 ≤ takeF l ∧ takeF l ≤ 1000000000 := by
 have h1 := near_le (numberF (headK l) (headN l) (headS l))
 exact tdiv_le h1.1 h1.2
theorem use3 {K : Dir → Int → AV → Prop} {d : Dir} {l : Cells} (hk : K (resolveF d l).1 (resolveF d l).2.1 (.sl (resolveF d l).2.2 0)) {d' : Dir} {e : Int} {l' : Cells} (h : resolveF d l = (d', e, l')) : K d' e (.sl l' 0) := by
 rw [h] at hk; exact hk
theorem res_lt {d : Dir} {l : Cells} (h : l.length < needF d) : resolveF d l = (d, 18, l) := if_pos h
theorem res_ge {d : Dir} {l : Cells} (h : ¬ l.length < needF d) : resolveF d l = resE (resP (resW d l)) := if_neg h
theorem resW_neg {d : Dir} {l : Cells} (h : d.width = -2) (h2 : takeF l < 0) : resW d l = ({ d with minus := true, width := -takeF l }, l.drop 1) := by unfold resW; rw [if_pos h, if_pos h2]
theorem resW_pos {d : Dir} {l : Cells} (h : d.width = -2) (h2 : ¬ takeF l < 0) : resW d l = ({ d with width := takeF l }, l.drop 1) := by unfold resW; rw [if_pos h, if_neg h2]
theorem resW_no {d : Dir} {l : Cells} (h : ¬ d.width = -2) : resW d l = (d, l) := if_neg h
theorem resP_yes {x : Dir × Cells} (h : x.1.prec = -2) : resP x = ({ x.1 with prec := max (takeF x.2) (-1) }, x.2.drop 1) := if_pos h
theorem resP_no {x : Dir × Cells} (h : ¬ x.1.prec = -2) : resP x = x := if_neg h
theorem resE_yes {x : Dir × Cells} (h : x.1.width > 255 ∨ x.1.prec > 255) : resE x = (x.1, 2, x.2) := if_pos h
theorem resE_no {x : Dir × Cells} (h : ¬ (x.1.width > 255 ∨ x.1.prec > 255)) : resE x = (x.1, 0, x.2) := if_neg h
theorem res_P (d : Dir) (l : Cells) (hg : goodsB l = true) (S : AV → St) (K : Dir → Int → AV → Prop) (hk : K (resolveF d l).1 (resolveF d l).2.1 (.sl (resolveF d l).2.2 0)) : d23P d l S K := by
 unfold d23P
 have hg1 : goodsB (List.drop 1 l) = true := goods_drop hg 1
 have t1 := take_le l
 have w1 : IntKind.i64.wrap (0 - takeF l) = -takeF l := by rw [wrap_in (by omega) (by omega)]; omega
 have hl1 : (List.drop 1 l).length = l.length - 1 := List.length_drop
 obtain ⟨mi, ze, pl, sp, wi, pr, ki⟩ := d
 have I : ∀ {q : Bool} {A B : Prop}, (q = true → A) → (q = false → B) → iteP q A B := fun h1 h2 => iteP_iff ▸ ⟨h1, h2⟩
 obtain ⟨bw, hbw⟩ : ∃ b, (wi == -2) = b := ⟨_, rfl⟩
 obtain ⟨bp, hbp⟩ : ∃ b, (pr == -2) = b := ⟨_, rfl⟩
 obtain ⟨bk, hbk⟩ : ∃ b, (ki != 37) = b := ⟨_, rfl⟩
 have nw : (if wi = -2 then 1 else 0) = (if bw then 1 else 0) := by rw [← hbw]; simp
 have np : (if pr = -2 then 1 else 0) = (if bp then 1 else 0) := by rw [← hbp]; simp
 have nk : (if ki = 37 then 0 else 1) = (if bk then 1 else 0) := by rw [← hbk]; by_cases h : ki = 37 <;> simp [h]
 have need : needF ⟨mi, ze, pl, sp, wi, pr, ki⟩ = (if bw then 1 else 0) + (if bp then 1 else 0) + (if bk then 1 else 0) := by
  show (if wi = -2 then 1 else 0) + (if pr = -2 then 1 else 0) + (if ki = 37 then 0 else 1) = _
  rw [nw, np, nk]
 have cw : bw = true → wi = -2 := fun h => by rw [h] at hbw; simpa using hbw
 have cw' : bw = false → ¬ wi = -2 := fun h => by rw [h] at hbw; simpa using hbw
 have cp : bp = true → pr = -2 := fun h => by rw [h] at hbp; simpa using hbp
 have cp' : bp = false → ¬ pr = -2 := fun h => by rw [h] at hbp; simpa using hbp
 clear nw np nk
 have fin : ∀ (x : Dir × Cells), ¬ (l.length < needF ⟨mi, ze, pl, sp, wi, pr, ki⟩) → resP (resW ⟨mi, ze, pl, sp, wi, pr, ki⟩ l) = x →
   iteP (decide ((255 : Int) < x.1.width)) (K x.1 2 (.sl x.2 0)) (iteP (decide ((255 : Int) < x.1.prec)) (K x.1 2 (.sl x.2 0)) (K x.1 0 (.sl x.2 0))) := by
  intro x hn he
  have hr : resolveF ⟨mi, ze, pl, sp, wi, pr, ki⟩ l = resE x := by rw [res_ge hn, he]
  refine I (fun h => ?_) (fun h => I (fun h' => ?_) (fun h' => ?_))
  ·exact use3 hk (hr.trans (resE_yes (.inl (by simpa using h))))
  ·exact use3 hk (hr.trans (resE_yes (.inr (by simpa using h'))))
  ·exact use3 hk (hr.trans (resE_no (by rw [decide_eq_false_iff_not] at h h'; omega)))
 have few : l.length < needF ⟨mi, ze, pl, sp, wi, pr, ki⟩ → K ⟨mi, ze, pl, sp, wi, pr, ki⟩ 18 (.sl l 0) := fun h => use3 hk (res_lt h)
 simp only [hbw, hbp, hbk]
 cases bw with
 | true =>
  have ww := cw rfl
  cases bp with
  | true =>
   have pp := cp rfl
   cases bk with
   | true =>
    simp only [iteP_t]
    refine I (fun h => few (by rw [need]; simp only [decide_eq_true_eq] at h; show List.length l < 3; omega)) (fun h => ?_)
    simp only [decide_eq_false_iff_not] at h
    have hn : ¬ l.length < needF ⟨mi, ze, pl, sp, wi, pr, ki⟩ := by rw [need]; show ¬ List.length l < 3; omega
    refine ⟨⟨trivial, by omega, hg⟩, fun x hx => ?_⟩
    subst hx
    refine I (fun h2 => ?_) (fun h2 => ?_)
    ·simp only [decide_eq_true_eq] at h2
     refine ⟨⟨trivial, by omega, hg1⟩, fun y hy => ?_⟩
     subst hy
     rw [w1]
     exact fin (⟨true, ze, pl, sp, -takeF l, max (takeF (List.drop 1 l)) (-1), ki⟩, List.drop 1 (List.drop 1 l)) hn (by rw [resW_neg ww h2]; exact resP_yes pp)
    ·simp only [decide_eq_false_iff_not] at h2
     refine ⟨⟨trivial, by omega, hg1⟩, fun y hy => ?_⟩
     subst hy
     exact fin (⟨mi, ze, pl, sp, takeF l, max (takeF (List.drop 1 l)) (-1), ki⟩, List.drop 1 (List.drop 1 l)) hn (by rw [resW_pos ww h2]; exact resP_yes pp)
   | false =>
    simp only [iteP_t, iteP_f]
    refine I (fun h => few (by rw [need]; simp only [decide_eq_true_eq] at h; show List.length l < 2; omega)) (fun h => ?_)
    simp only [decide_eq_false_iff_not] at h
    have hn : ¬ l.length < needF ⟨mi, ze, pl, sp, wi, pr, ki⟩ := by rw [need]; show ¬ List.length l < 2; omega
    refine ⟨⟨trivial, by omega, hg⟩, fun x hx => ?_⟩
    subst hx
    refine I (fun h2 => ?_) (fun h2 => ?_)
    ·simp only [decide_eq_true_eq] at h2
     refine ⟨⟨trivial, by omega, hg1⟩, fun y hy => ?_⟩
     subst hy
     rw [w1]
     exact fin (⟨true, ze, pl, sp, -takeF l, max (takeF (List.drop 1 l)) (-1), ki⟩, List.drop 1 (List.drop 1 l)) hn (by rw [resW_neg ww h2]; exact resP_yes pp)
    ·simp only [decide_eq_false_iff_not] at h2
     refine ⟨⟨trivial, by omega, hg1⟩, fun y hy => ?_⟩
     subst hy
     exact fin (⟨mi, ze, pl, sp, takeF l, max (takeF (List.drop 1 l)) (-1), ki⟩, List.drop 1 (List.drop 1 l)) hn (by rw [resW_pos ww h2]; exact resP_yes pp)
  | false =>
   have pp := cp' rfl
   cases bk with
   | true =>
    simp only [iteP_t, iteP_f]
    refine I (fun h => few (by rw [need]; simp only [decide_eq_true_eq] at h; show List.length l < 2; omega)) (fun h => ?_)
    simp only [decide_eq_false_iff_not] at h
    have hn : ¬ l.length < needF ⟨mi, ze, pl, sp, wi, pr, ki⟩ := by rw [need]; show ¬ List.length l < 2; omega
    refine ⟨⟨trivial, by omega, hg⟩, fun x hx => ?_⟩
    subst hx
    refine I (fun h2 => ?_) (fun h2 => ?_)
    ·simp only [decide_eq_true_eq] at h2
     rw [w1]
     exact fin (⟨true, ze, pl, sp, -takeF l, pr, ki⟩, (List.drop 1 l)) hn (by rw [resW_neg ww h2]; exact resP_no pp)
    ·simp only [decide_eq_false_iff_not] at h2
     exact fin (⟨mi, ze, pl, sp, takeF l, pr, ki⟩, (List.drop 1 l)) hn (by rw [resW_pos ww h2]; exact resP_no pp)
   | false =>
    simp only [iteP_t, iteP_f]
    refine I (fun h => few (by rw [need]; simp only [decide_eq_true_eq] at h; show List.length l < 1; omega)) (fun h => ?_)
    simp only [decide_eq_false_iff_not] at h
    have hn : ¬ l.length < needF ⟨mi, ze, pl, sp, wi, pr, ki⟩ := by rw [need]; show ¬ List.length l < 1; omega
    refine ⟨⟨trivial, by omega, hg⟩, fun x hx => ?_⟩
    subst hx
    refine I (fun h2 => ?_) (fun h2 => ?_)
    ·simp only [decide_eq_true_eq] at h2
     rw [w1]
     exact fin (⟨true, ze, pl, sp, -takeF l, pr, ki⟩, (List.drop 1 l)) hn (by rw [resW_neg ww h2]; exact resP_no pp)
    ·simp only [decide_eq_false_iff_not] at h2
     exact fin (⟨mi, ze, pl, sp, takeF l, pr, ki⟩, (List.drop 1 l)) hn (by rw [resW_pos ww h2]; exact resP_no pp)
 | false =>
  have ww := cw' rfl
  cases bp with
  | true =>
   have pp := cp rfl
   cases bk with
   | true =>
    simp only [iteP_t, iteP_f]
    refine I (fun h => few (by rw [need]; simp only [decide_eq_true_eq] at h; show List.length l < 2; omega)) (fun h => ?_)
    simp only [decide_eq_false_iff_not] at h
    have hn : ¬ l.length < needF ⟨mi, ze, pl, sp, wi, pr, ki⟩ := by rw [need]; show ¬ List.length l < 2; omega
    refine ⟨⟨trivial, by omega, hg⟩, fun y hy => ?_⟩
    subst hy
    exact fin (⟨mi, ze, pl, sp, wi, max (takeF l) (-1), ki⟩, List.drop 1 l) hn (by rw [resW_no ww]; exact resP_yes pp)
   | false =>
    simp only [iteP_t, iteP_f]
    refine I (fun h => few (by rw [need]; simp only [decide_eq_true_eq] at h; show List.length l < 1; omega)) (fun h => ?_)
    simp only [decide_eq_false_iff_not] at h
    have hn : ¬ l.length < needF ⟨mi, ze, pl, sp, wi, pr, ki⟩ := by rw [need]; show ¬ List.length l < 1; omega
    refine ⟨⟨trivial, by omega, hg⟩, fun y hy => ?_⟩
    subst hy
    exact fin (⟨mi, ze, pl, sp, wi, max (takeF l) (-1), ki⟩, List.drop 1 l) hn (by rw [resW_no ww]; exact resP_yes pp)
  | false =>
   have pp := cp' rfl
   cases bk with
   | true =>
    simp only [iteP_t, iteP_f]
    refine I (fun h => few (by rw [need]; simp only [decide_eq_true_eq] at h; show List.length l < 1; omega)) (fun h => ?_)
    simp only [decide_eq_false_iff_not] at h
    have hn : ¬ l.length < needF ⟨mi, ze, pl, sp, wi, pr, ki⟩ := by rw [need]; show ¬ List.length l < 1; omega
    exact fin (⟨mi, ze, pl, sp, wi, pr, ki⟩, l) hn (by rw [resW_no ww]; exact resP_no pp)
   | false =>
    simp only [iteP_f]
    have hn : ¬ l.length < needF ⟨mi, ze, pl, sp, wi, pr, ki⟩ := by rw [need]; exact Nat.not_lt_zero _
    exact fin (⟨mi, ze, pl, sp, wi, pr, ki⟩, l) hn (by rw [resW_no ww]; exact resP_no pp)
theorem res_b (d : Dir) (l : Cells) (hg : goodsB l = true) (K : Dir → Int → AV → Prop) (hk : K (resolveF d l).1 (resolveF d l).2.1 (.sl (resolveF d l).2.2 0)) :
  wpCall Q2 Door.cfg Tryz.prog 40 13 [.ptr 1 0, .agg d.cells] (hB (.sl l 0)) fun r h' => wasDir r fun d' e => rdB h' fun a => K d' e a := d23b d l K (res_P d l hg sB K hk)
theorem res_c (d : Dir) (l b : Cells) (n : Nat) (hg : goodsB l = true) (K : Dir → Int → AV → Cells → Nat → Prop) (hk : K (resolveF d l).1 (resolveF d l).2.1 (.sl (resolveF d l).2.2 0) b n) :
  wpCall Q2 Door.cfg Tryz.prog 40 13 [.ptr 1 0, .agg d.cells] (hC (.sl l 0) b n) fun r h' => wasDir r fun d' e => rdC h' fun a b n => K d' e a b n := d23c d l b n K (res_P d l hg (fun a => sC a b n) (fun d e a => K d e a b n) hk)
theorem res_nil (d : Dir) : resolveF d [] = (d, (if needF d = 0 then (if d.width > 255 ∨ d.prec > 255 then 2 else 0) else 18), []) := by
 unfold resolveF
 by_cases h : needF d = 0
 ·rw [if_neg (by rw [h]; decide), if_pos h]
  have h1 : ¬ d.width = -2 := fun e => by unfold needF at h; rw [if_pos e] at h; omega
  have h2 : ¬ d.prec = -2 := fun e => by unfold needF at h; rw [if_pos e] at h; omega
  rw [resW_no h1]
  rw [resP_no (x := (d, [])) h2]
  by_cases h3 : d.width > 255 ∨ d.prec > 255
  ·rw [resE_yes (x := (d, [])) h3, if_pos h3]
  ·rw [resE_no (x := (d, [])) h3, if_neg h3]
 ·rw [if_pos (by show 0 < needF d; omega), if_neg h]
theorem res_bn (d : Dir) (K : Dir → Int → AV → Prop) (hk : K (resolveF d []).1 (resolveF d []).2.1 nilA) :
  wpCall Q2 Door.cfg Tryz.prog 40 13 [.ptr 1 0, .agg d.cells] (hB nilA) fun r h' => wasDir r fun d' e => rdB h' fun a => K d' e a := by
 refine d23bn d K ?_
 rw [res_nil] at hk
 obtain ⟨mi, ze, pl, sp, wi, pr, ki⟩ := d
 have nd : needF ⟨mi, ze, pl, sp, wi, pr, ki⟩ = (if wi = -2 then 1 else 0) + (if pr = -2 then 1 else 0) + (if ki = 37 then 0 else 1) := rfl
 by_cases hw : wi = -2
 ·rw [if_neg (by rw [nd, if_pos hw]; omega)] at hk
  simp only [show (wi == -2) = true by simpa using hw, iteP_t]
  cases (pr == -2) <;> cases (ki != 37) <;> exact hk
 ·simp only [show (wi == -2) = false by simpa using hw, iteP_f]
  by_cases hp : pr = -2
  ·rw [if_neg (by rw [nd, if_pos hp]; omega)] at hk
   simp only [show (pr == -2) = true by simpa using hp, iteP_t]
   cases (ki != 37) <;> exact hk
  ·simp only [show (pr == -2) = false by simpa using hp, iteP_f]
   by_cases hkk : ki = 37
   ·rw [if_pos (by rw [nd, if_neg hw, if_neg hp, if_pos hkk])] at hk
    simp only [show (ki != 37) = false by simpa using hkk, iteP_f]
    by_cases h1 : (255 : Int) < wi
    ·rw [if_pos (.inl h1)] at hk
     rw [decide_eq_true h1]; exact hk
    ·rw [decide_eq_false h1, iteP_f]
     by_cases h2 : (255 : Int) < pr
     ·rw [if_pos (.inr h2)] at hk
      rw [decide_eq_true h2]; exact hk
     ·rw [if_neg (by rintro (h | h); exact h1 h; exact h2 h)] at hk
      rw [decide_eq_false h2]; exact hk
   ·rw [if_neg (by rw [nd, if_neg hkk]; omega)] at hk
    simp only [show (ki != 37) = true by simpa using hkk, iteP_t]
    exact hk
theorem res_cn (d : Dir) (b : Cells) (n : Nat) (K : Dir → Int → AV → Cells → Nat → Prop) (hk : K (resolveF d []).1 (resolveF d []).2.1 nilA b n) :
  wpCall Q2 Door.cfg Tryz.prog 40 13 [.ptr 1 0, .agg d.cells] (hC nilA b n) fun r h' => wasDir r fun d' e => rdC h' fun a b n => K d' e a b n := by
 refine d23cn d b n K ?_
 rw [res_nil] at hk
 obtain ⟨mi, ze, pl, sp, wi, pr, ki⟩ := d
 have nd : needF ⟨mi, ze, pl, sp, wi, pr, ki⟩ = (if wi = -2 then 1 else 0) + (if pr = -2 then 1 else 0) + (if ki = 37 then 0 else 1) := rfl
 by_cases hw : wi = -2
 ·rw [if_neg (by rw [nd, if_pos hw]; omega)] at hk
  simp only [show (wi == -2) = true by simpa using hw, iteP_t]
  cases (pr == -2) <;> cases (ki != 37) <;> exact hk
 ·simp only [show (wi == -2) = false by simpa using hw, iteP_f]
  by_cases hp : pr = -2
  ·rw [if_neg (by rw [nd, if_pos hp]; omega)] at hk
   simp only [show (pr == -2) = true by simpa using hp, iteP_t]
   cases (ki != 37) <;> exact hk
  ·simp only [show (pr == -2) = false by simpa using hp, iteP_f]
   by_cases hkk : ki = 37
   ·rw [if_pos (by rw [nd, if_neg hw, if_neg hp, if_pos hkk])] at hk
    simp only [show (ki != 37) = false by simpa using hkk, iteP_f]
    by_cases h1 : (255 : Int) < wi
    ·rw [if_pos (.inl h1)] at hk
     rw [decide_eq_true h1]; exact hk
    ·rw [decide_eq_false h1, iteP_f]
     by_cases h2 : (255 : Int) < pr
     ·rw [if_pos (.inr h2)] at hk
      rw [decide_eq_true h2]; exact hk
     ·rw [if_neg (by rintro (h | h); exact h1 h; exact h2 h)] at hk
      rw [decide_eq_false h2]; exact hk
   ·rw [if_neg (by rw [nd, if_neg hkk]; omega)] at hk
    simp only [show (ki != 37) = true by simpa using hkk, iteP_t]
    exact hk
theorem wasDir_ok {r : AV} {K : Dir → Int → Prop} (h : wasDir r K) : ∃ d x, r = .tup [.agg (Dir.cells d), aK .i64 x] ∧ K d x := by
 unfold wasDir at h
 split at h
 ·rename_i a b c e w p k x
  exact ⟨⟨a, b, c, e, w, p, k⟩, x, rfl, h⟩
 ·exact h.elim
theorem plain_call {g : FuncId} {args : List AV} {h h' : Heap} {m : Nat} {v : AV} (hf : Door.cfg.fresh g = false) (hp : Door.cfg.prim g = none) (H : evCall Door.cfg Tryz.prog m g args h = some (v, h')) : callP Door.cfg (evCall Door.cfg Tryz.prog m) g args h = some (v, h') := by
 unfold callP
 rw [hp]; simp only []; rw [hf]
 exact H
theorem ok23 : TabOk Tryz.prog Door.cfg (Q2.addC 13 C23) := by
 refine addC_ok ok36 fun args h s hs hp => ?_
 unfold C23 at hs
 split at hs
 ·rename_i a b c e w p k
  split at hs
  ·rename_i l _
   cases Option.some.inj hs
   obtain ⟨hh, hg⟩ := hp
   cases hn : Nat.beq h.next 4 with
   | true =>
    rw [hn] at hh
    replace hh : h = hB (.sl l 0) := IS_heap (s := []) (s' := []) hh
    subst hh
    obtain ⟨m, r, h', h1, h2⟩ := call_okW ok36 40 13 _ _ _ (res_b ⟨a, b, c, e, w, p, k⟩ l hg (fun d' e' a' => d' = (resolveF ⟨a, b, c, e, w, p, k⟩ l).1 ∧ e' = (resolveF ⟨a, b, c, e, w, p, k⟩ l).2.1 ∧ a' = .sl (resolveF ⟨a, b, c, e, w, p, k⟩ l).2.2 0) ⟨rfl, rfl, rfl⟩)
    obtain ⟨d', e', rfl, h3⟩ := wasDir_ok h2
    obtain ⟨a', rfl, rfl, rfl, rfl⟩ := rdB_ok h3
    exact ⟨_, .head _, _, m, rfl, plain_call (by kernel_rfl) (by kernel_rfl) h1⟩
   | false =>
    rw [hn] at hh
    replace hh : h = hC (.sl l 0) (hBytes h) (hN h) := IS_heap (s := []) (s' := []) hh
    generalize hBytes h = b' at hh
    generalize hN h = n' at hh
    subst hh
    obtain ⟨m, r, h', h1, h2⟩ := call_okW ok36 40 13 _ _ _ (res_c ⟨a, b, c, e, w, p, k⟩ l b' n' hg (fun d' e' a' b1 n1 => d' = (resolveF ⟨a, b, c, e, w, p, k⟩ l).1 ∧ e' = (resolveF ⟨a, b, c, e, w, p, k⟩ l).2.1 ∧ a' = .sl (resolveF ⟨a, b, c, e, w, p, k⟩ l).2.2 0 ∧ b1 = b' ∧ n1 = n') ⟨rfl, rfl, rfl, rfl, rfl⟩)
    obtain ⟨d', e', rfl, h3⟩ := wasDir_ok h2
    obtain ⟨a', b1, n1, rfl, rfl, rfl, rfl, rfl, rfl⟩ := rdC_ok h3
    exact ⟨_, .head _, _, m, rfl, plain_call (by kernel_rfl) (by kernel_rfl) h1⟩
  ·cases Option.some.inj hs
   replace hp : (bif Nat.beq h.next 4 then IS [] h = sB nilA else IS [] h = sC nilA (hBytes h) (hN h)) := hp
   cases hn : Nat.beq h.next 4 with
   | true =>
    rw [hn] at hp
    replace hp : h = hB nilA := IS_heap (s := []) (s' := []) hp
    subst hp
    obtain ⟨m, r, h', h1, h2⟩ := call_okW ok36 40 13 _ _ _ (res_bn ⟨a, b, c, e, w, p, k⟩ (fun d' e' a' => d' = (resolveF ⟨a, b, c, e, w, p, k⟩ []).1 ∧ e' = (resolveF ⟨a, b, c, e, w, p, k⟩ []).2.1 ∧ a' = nilA) ⟨rfl, rfl, rfl⟩)
    obtain ⟨d', e', rfl, h3⟩ := wasDir_ok h2
    obtain ⟨a', rfl, rfl, rfl, rfl⟩ := rdB_ok h3
    exact ⟨_, .head _, _, m, rfl, plain_call (by kernel_rfl) (by kernel_rfl) h1⟩
   | false =>
    rw [hn] at hp
    replace hp : h = hC nilA (hBytes h) (hN h) := IS_heap (s := []) (s' := []) hp
    generalize hBytes h = b' at hp
    generalize hN h = n' at hp
    subst hp
    obtain ⟨m, r, h', h1, h2⟩ := call_okW ok36 40 13 _ _ _ (res_cn ⟨a, b, c, e, w, p, k⟩ b' n' (fun d' e' a' b1 n1 => d' = (resolveF ⟨a, b, c, e, w, p, k⟩ []).1 ∧ e' = (resolveF ⟨a, b, c, e, w, p, k⟩ []).2.1 ∧ a' = nilA ∧ b1 = b' ∧ n1 = n') ⟨rfl, rfl, rfl, rfl, rfl⟩)
    obtain ⟨d', e', rfl, h3⟩ := wasDir_ok h2
    obtain ⟨a', b1, n1, rfl, rfl, rfl, rfl, rfl, rfl⟩ := rdC_ok h3
    exact ⟨_, .head _, _, m, rfl, plain_call (by kernel_rfl) (by kernel_rfl) h1⟩
  ·cases hs
 ·cases hs
end
end Go.Proofs.Pr
namespace Go.Proofs.Pr
open Go Go.Ef
noncomputable section
def digitC (n : Nat) : UInt8 := if n < 10 then UInt8.ofNat (48 + n) else UInt8.ofNat (87 + n)
def digitsL (base : Nat) : Nat → Nat → List UInt8 → List UInt8
 | 0, _, acc => acc
 | f + 1, n, acc => if n < base then digitC n :: acc else digitsL base f (n / base) (digitC (n % base) :: acc)
def fmtN (base n : Nat) : List UInt8 := digitsL base 70 n []
def stripZ (l : List UInt8) : List UInt8 := (l.reverse.dropWhile (· == 48)).reverse
def decF (d : Int) : List UInt8 :=
 (if d < 0 then [45] else []) ++ fmtN 10 (d.natAbs / 10000) ++ (if d.natAbs % 10000 = 0 then [] else [46] ++ stripZ ((fmtN 10 (10000 + d.natAbs % 10000)).drop 1))
def textF (k n : Int) (s : List UInt8) : List UInt8 := if k = 1 then decF (nearF n) else if k = 2 ∨ k = 3 then s else []
def signF (d : Dir) (neg : Bool) : List UInt8 := if neg then [45] else if d.plus then [43] else if d.space then [32] else []
def zerosF (n : Int) : List UInt8 := List.replicate n.toNat 48
def upC (c : UInt8) : UInt8 := if 97 ≤ (c.toNat : Int) ∧ (c.toNat : Int) ≤ 122 then UInt8.ofNat (c.toNat - 32) else c
def intDigits (d : Dir) (n : Int) : List UInt8 :=
 if n = 0 ∧ d.prec = 0 then []
 else if d.kind = 100 ∨ d.kind = 105 then fmtN 10 n.natAbs
 else
  let m := (if n < 0 then n + 4294967296 else n).toNat
  if d.kind = 111 then fmtN 8 m else if d.kind = 120 then fmtN 16 m else if d.kind = 88 then (fmtN 16 m).map upC else fmtN 10 m
def integerF (d : Dir) (n : Int) : List UInt8 × List UInt8 :=
 (if d.kind = 100 ∨ d.kind = 105 then signF d (decide (n < 0)) else [], zerosF (d.prec - (intDigits d n).length) ++ intDigits d n)
def unitF (p : Int) : Int := if p ≤ 0 then 10000 else if p = 1 then 1000 else if p = 2 then 100 else if p = 3 then 10 else 1
def roundF (x p : Int) : Int := if nearF x < 0 then -((-(nearF x) + unitF p / 2) / unitF p * unitF p) else (nearF x + unitF p / 2) / unitF p * unitF p
def placesF (d : Dir) : Int := if d.prec = -1 then 6 else d.prec
def decimalsF (d : Dir) (x : Int) : List UInt8 × List UInt8 :=
 let r := roundF x (min (placesF d) 4)
 let rest := fmtN 10 (r.natAbs % 10000)
 (signF d (decide (x < 0) && decide (r ≠ 0)),
  fmtN 10 (r.natAbs / 10000) ++ (if placesF d > 0 then [46] ++ (zerosF (4 - rest.length) ++ rest ++ zerosF (placesF d - 4)).take (placesF d).toNat else []))
def bodyF (d : Dir) (k n : Int) (s : List UInt8) : List UInt8 × List UInt8 :=
 if d.kind = 99 then (if k = 1 then ([], [UInt8.ofNat (((nearF (numberF k n s)).tdiv 10000 % 256).toNat)]) else ([], (textF k n s).take 1))
 else if d.kind = 115 then ([], if d.prec = -1 then textF k n s else (textF k n s).take d.prec.toNat)
 else if d.kind = 102 then decimalsF d (numberF k n s)
 else integerF d ((nearF (numberF k n s)).tdiv 10000)
def bodyOk (d : Dir) (_ : Int) : Bool := decide (-1 ≤ d.prec) && decide (d.prec ≤ 255) && (d.kind == 99 || d.kind == 115 || d.kind == 102 || d.kind == 100 || d.kind == 105 || d.kind == 111 || d.kind == 117 || d.kind == 120 || d.kind == 88)
def C24 (args : List AV) (h : Heap) : Option CSpec :=
 match args with
 | [.agg [.sc (.bool a), .sc (.bool b), .sc (.bool c), .sc (.bool e), .sc (.int .i64 w), .sc (.int .i64 p), .sc (.int .u8 kd)], .agg [.sc (.int .i64 k), .sc (.int .i64 n), .sc (.string s)]] =>
  some (nspec (bodyOk ⟨a, b, c, e, w, p, kd⟩ k = true ∧ s.data.toList.length ≤ 1000000) (bodyF ⟨a, b, c, e, w, p, kd⟩ k n s.data.toList) (fun x => .tup [aStr x.1, aStr x.2]) h)
 | _ => none
def wasI (τ : St) (K : List UInt8 → Heap → Prop) : Prop :=
 match τ with
 | ⟨41, .node (.node .leaf (some (.v (.fn (.func 11) [] [.ptr 3 0, .ptr 2 0]))) .leaf) (some (.v (.sc (.string ⟨⟨s⟩⟩)))) .leaf, .unk, [], h⟩ => K s h
 | _ => False
def wasJ (τ : St) (K : Int → Heap → Prop) : Prop :=
 match τ with
 | ⟨41, .node .leaf none (.node (.node .leaf (some (.v (.sc (.int .i64 e)))) .leaf) none .leaf), .unk, [], h⟩ => K e h
 | _ => False
def rdA (h : Heap) (K : AV → Prop) : Prop :=
 match h with
 | ⟨4, .node (.node (.node .leaf (some (.cells [.sc (.pointer none), .sc (.slice none 0 0)])) .leaf) (some (.cells [a])) .leaf) none (.node .leaf (some (.cells [.ptr 1 0])) .leaf), 1, .node (.node (.node .leaf (some (39, 2)) .leaf) (some (35, 1)) .leaf) none (.node .leaf (some (33, 1)) .leaf)⟩ => K a
 | _ => False
theorem rdA_ok {h : Heap} {K : AV → Prop} (hk : rdA h K) : ∃ a, h = hA a ∧ K a := by
 unfold rdA at hk
 split at hk
 ·exact ⟨_, rfl, hk⟩
 ·exact hk.elim
theorem wasI_ok {τ : St} {K : List UInt8 → Heap → Prop} (hk : wasI τ K) : ∃ s h, τ = IS s h ∧ K s h := by
 unfold wasI at hk
 split at hk
 ·exact ⟨_, _, rfl, hk⟩
 ·exact hk.elim
theorem wasJ_ok {τ : St} {K : Int → Heap → Prop} (hk : wasJ τ K) : ∃ s h, τ = JS s h ∧ K s h := by
 unfold wasJ at hk
 split at hk
 ·exact ⟨_, _, rfl, hk⟩
 ·exact hk.elim
def qN (NB : List UInt8 → AV → Prop) (NC : List UInt8 → AV → Cells → Nat → Prop) (τ : St) : Prop :=
 wasI τ fun s h => match shp h with
  | 1 => rdB h (NB s)
  | 2 => rdC h (NC s)
  | _ => False
def qX (XA XB : Int → AV → Prop) (XC : Int → AV → Cells → Nat → Prop) (e : Ex) (τ : St) : Prop :=
 match e with
 | .ret => wasJ τ fun v h => match shp h with
  | 0 => rdA h (XA v)
  | 1 => rdB h (XB v)
  | 2 => rdC h (XC v)
  | _ => False
 | _ => False
def Y2 : Tab := ((Z2.addC 25 C32).addC 13 C23).addC 14 C24
end
end Go.Proofs.Pr
namespace Go.Proofs.Pr
open Go Go.Ef
noncomputable section
set_option maxRecDepth 100000
theorem gA (s : List UInt8) (l : Cells) (NB : List UInt8 → AV → Prop) (NC : List UInt8 → AV → Cells → Nat → Prop) (XA : Int → AV → Prop) (XB : Int → AV → Prop) (XC : Int → AV → Cells → Nat → Prop) (h :
 (s.length ≤ 1000000 ∧ [(37 : UInt8)] = [(37 : UInt8)]) ∧ ∀ (x : List UInt8 × List UInt8 × Bool), x = (before s, after s, hasPct s) → iteP x.snd.snd (x.snd.fst.length.le 1000000 ∧ ∀ (x_1 : Dir × List UInt8 × Int), x_1 = readF x.snd.fst → iteP (x_1.snd.snd != 0) (XA x_1.snd.snd (AV.sl l 0)) (iteP ((List.map (fun (b : UInt8) => [AV.sc (Value.int IntKind.u8 (↑b.toNat : Int))]) x.fst).all
 fun (e : List AV) => e.all AV.one) (iteP (List.map (fun (b : UInt8) => [AV.sc (Value.int IntKind.u8 (↑b.toNat : Int))]) x.fst).isEmpty ((sB (AV.sl l 0) = sB (AV.sl l 0) ∧ goodsB l = true) ∧ ∀ (x : Dir × Int × Cells), x = resolveF (Dir.mk x_1.fst.minus x_1.fst.zero x_1.fst.plus x_1.fst.space x_1.fst.width x_1.fst.prec x_1.fst.kind) l → iteP (x.snd.fst != 0)
 (iteP (x.snd.fst != 0) (XB x.snd.fst (AV.sl x.snd.snd 0)) (NB x_1.snd.fst (AV.sl x.snd.snd 0))) (iteP (x.fst.kind != 37) (iteP (inRange 0 (List.length x.snd.snd)) (getI 0 x.snd.snd = some [AV.sc (Value.int IntKind.i64 (cellInt x.snd.snd 0 0)), AV.sc (Value.int IntKind.i64 (cellInt x.snd.snd 0 1)), AV.sc (Value.string (ByteArray.mk (Array.mk (cellStr x.snd.snd 0 2))))] ∧ (bodyOk
 (Dir.mk x.fst.minus x.fst.zero x.fst.plus x.fst.space x.fst.width x.fst.prec x.fst.kind) (cellInt x.snd.snd 0 0) = true ∧ (cellStr x.snd.snd 0 2).length ≤ 1000000) ∧ ∀ (x_2 : List UInt8 × List UInt8), x_2 = bodyF (Dir.mk x.fst.minus x.fst.zero x.fst.plus x.fst.space x.fst.width x.fst.prec x.fst.kind) (cellInt x.snd.snd 0 0) (cellInt x.snd.snd 0 1) (cellStr x.snd.snd 0 2) →
 iteP (headLen 3 x.snd.snd) (iteP (true && decide (1 ≤ (↑(List.length x.snd.snd) : Int))) (((-1000) ≤ x.fst.width ∧ x.fst.width ≤ 1000 ∧ 0 ≤ x.fst.kind ∧ x.fst.kind ≤ 255 ∧ x_2.fst.length ≤ 1000000 ∧ x_2.snd.length ≤ 1000000) ∧ ∀ (x_3 : List UInt8), x_3 = padF (Dir.mk x.fst.minus x.fst.zero x.fst.plus x.fst.space x.fst.width x.fst.prec x.fst.kind) x_2.fst x_2.snd → iteP ((List.map
 (fun (b : UInt8) => [AV.sc (Value.int IntKind.u8 (↑b.toNat : Int))]) x_3).all fun (e : List AV) => e.all AV.one) (iteP (List.map
 (fun (b : UInt8) => [AV.sc (Value.int IntKind.u8 (↑b.toNat : Int))]) x_3).isEmpty (NB x_1.snd.fst (AV.sl (List.drop 1 x.snd.snd) 0)) (iteP (fits (List.map
 (fun (b : UInt8) => [AV.sc (Value.int IntKind.u8 (↑b.toNat : Int))]) x_3).length 1) (NC x_1.snd.fst (AV.sl (List.drop 1 x.snd.snd) 0) (List.map
 (fun (b : UInt8) => [AV.sc (Value.int IntKind.u8 (↑b.toNat : Int))]) x_3) (List.map
 (fun (b : UInt8) => [AV.sc (Value.int IntKind.u8 (↑b.toNat : Int))]) x_3).length) False)) False) False) False) False) (((-1000) ≤ x.fst.width ∧ x.fst.width ≤ 1000 ∧ 0 ≤ x.fst.kind ∧ x.fst.kind ≤ 255 ∧ (0 : Nat) ≤ 1000000 ∧ (1 : Nat) ≤ 1000000) ∧ ∀ (x_2 : List UInt8), x_2 = padF (Dir.mk x.fst.minus x.fst.zero x.fst.plus x.fst.space x.fst.width x.fst.prec x.fst.kind) [] [(37 : UInt8)] → iteP
 ((List.map (fun (b : UInt8) => [AV.sc (Value.int IntKind.u8 (↑b.toNat : Int))]) x_2).all fun (e : List AV) => e.all AV.one) (iteP (List.map (fun (b : UInt8) => [AV.sc (Value.int IntKind.u8 (↑b.toNat : Int))]) x_2).isEmpty (NB x_1.snd.fst (AV.sl x.snd.snd 0)) (iteP (fits (List.map
 (fun (b : UInt8) => [AV.sc (Value.int IntKind.u8 (↑b.toNat : Int))]) x_2).length 1) (NC x_1.snd.fst (AV.sl x.snd.snd 0) (List.map
 (fun (b : UInt8) => [AV.sc (Value.int IntKind.u8 (↑b.toNat : Int))]) x_2) (List.map
 (fun (b : UInt8) => [AV.sc (Value.int IntKind.u8 (↑b.toNat : Int))]) x_2).length) False)) False))) (iteP (fits (List.map (fun (b : UInt8) => [AV.sc (Value.int IntKind.u8 (↑b.toNat : Int))]) x.fst).length 1) ((sC (AV.sl l 0) (List.map (fun (b : UInt8) => [AV.sc (Value.int IntKind.u8 (↑b.toNat : Int))]) x.fst) (List.map (fun (b : UInt8) => [AV.sc (Value.int IntKind.u8 (↑b.toNat : Int))])
 x.fst).length = sC (AV.sl l 0) (List.map (fun (b : UInt8) => [AV.sc (Value.int IntKind.u8 (↑b.toNat : Int))]) x.fst) (List.map (fun (b : UInt8) => [AV.sc (Value.int IntKind.u8 (↑b.toNat : Int))]) x.fst).length ∧ goodsB l = true) ∧ ∀ (x_2 : Dir × Int × Cells), x_2 = resolveF (Dir.mk x_1.fst.minus x_1.fst.zero x_1.fst.plus x_1.fst.space x_1.fst.width x_1.fst.prec x_1.fst.kind) l →
 iteP (x_2.snd.fst != 0) (iteP (x_2.snd.fst != 0) (XC x_2.snd.fst (AV.sl x_2.snd.snd 0) (List.map (fun (b : UInt8) => [AV.sc (Value.int IntKind.u8 (↑b.toNat : Int))]) x.fst) (List.map (fun (b : UInt8) => [AV.sc (Value.int IntKind.u8 (↑b.toNat : Int))]) x.fst).length) (NC x_1.snd.fst (AV.sl x_2.snd.snd 0) (List.map (fun (b : UInt8) => [AV.sc (Value.int IntKind.u8 (↑b.toNat : Int))]) x.fst)
 (List.map (fun (b : UInt8) => [AV.sc (Value.int IntKind.u8 (↑b.toNat : Int))]) x.fst).length)) (iteP (x_2.fst.kind != 37) (iteP (inRange 0 (List.length x_2.snd.snd)) (getI 0 x_2.snd.snd = some [AV.sc (Value.int IntKind.i64 (cellInt x_2.snd.snd 0 0)), AV.sc (Value.int IntKind.i64 (cellInt x_2.snd.snd 0 1)), AV.sc (Value.string (ByteArray.mk (Array.mk (cellStr x_2.snd.snd 0 2))))] ∧ (bodyOk
 (Dir.mk x_2.fst.minus x_2.fst.zero x_2.fst.plus x_2.fst.space x_2.fst.width x_2.fst.prec x_2.fst.kind) (cellInt x_2.snd.snd 0 0) = true ∧ (cellStr x_2.snd.snd 0 2).length ≤ 1000000) ∧ ∀ (x_3 : List UInt8 × List UInt8), x_3 = bodyF (Dir.mk x_2.fst.minus x_2.fst.zero x_2.fst.plus x_2.fst.space x_2.fst.width x_2.fst.prec x_2.fst.kind) (cellInt x_2.snd.snd 0 0) (cellInt x_2.snd.snd 0 1)
 (cellStr x_2.snd.snd 0 2) → iteP (headLen 3 x_2.snd.snd) (iteP (true && decide (1 ≤ (↑(List.length x_2.snd.snd) : Int))) (((-1000) ≤ x_2.fst.width ∧ x_2.fst.width ≤ 1000 ∧ 0 ≤ x_2.fst.kind ∧ x_2.fst.kind ≤ 255 ∧ x_3.fst.length ≤ 1000000 ∧ x_3.snd.length ≤ 1000000) ∧ ∀ (x_4 : List UInt8), x_4 = padF (Dir.mk x_2.fst.minus x_2.fst.zero x_2.fst.plus x_2.fst.space
 x_2.fst.width x_2.fst.prec x_2.fst.kind) x_3.fst x_3.snd → iteP ((List.map
 (fun (b : UInt8) => [AV.sc (Value.int IntKind.u8 (↑b.toNat : Int))]) x_4).all fun (e : List AV) => e.all AV.one) (iteP (List.map
 (fun (b : UInt8) => [AV.sc (Value.int IntKind.u8 (↑b.toNat : Int))]) x_4).isEmpty (NC x_1.snd.fst (AV.sl (List.drop 1 x_2.snd.snd) 0) (List.map
 (fun (b : UInt8) => [AV.sc (Value.int IntKind.u8 (↑b.toNat : Int))]) x.fst) (List.map
 (fun (b : UInt8) => [AV.sc (Value.int IntKind.u8 (↑b.toNat : Int))]) x.fst).length) (iteP (allLen 1 (List.map
 (fun (b : UInt8) => [AV.sc (Value.int IntKind.u8 (↑b.toNat : Int))]) x.fst) && fits ((List.map
 (fun (b : UInt8) => [AV.sc (Value.int IntKind.u8 (↑b.toNat : Int))]) x.fst).length + (List.map
 (fun (b : UInt8) => [AV.sc (Value.int IntKind.u8 (↑b.toNat : Int))]) x_4).length) 1) (iteP (decide ((List.map
 (fun (b : UInt8) => [AV.sc (Value.int IntKind.u8 (↑b.toNat : Int))]) x.fst).length = (List.map
 (fun (b : UInt8) => [AV.sc (Value.int IntKind.u8 (↑b.toNat : Int))]) x.fst).length)) (NC x_1.snd.fst (AV.sl (List.drop 1 x_2.snd.snd) 0) (List.map
 (fun (b : UInt8) => [AV.sc (Value.int IntKind.u8 (↑b.toNat : Int))]) x.fst ++ List.map
 (fun (b : UInt8) => [AV.sc (Value.int IntKind.u8 (↑b.toNat : Int))]) x_4) ((List.map
 (fun (b : UInt8) => [AV.sc (Value.int IntKind.u8 (↑b.toNat : Int))]) x.fst).length + (List.map
 (fun (b : UInt8) => [AV.sc (Value.int IntKind.u8 (↑b.toNat : Int))]) x_4).length)) False) False)) False) False) False) False) (((-1000) ≤ x_2.fst.width ∧ x_2.fst.width ≤ 1000 ∧ 0 ≤ x_2.fst.kind ∧ x_2.fst.kind ≤ 255 ∧ (0 : Nat) ≤ 1000000 ∧ (1 : Nat) ≤ 1000000) ∧ ∀ (x_3 : List UInt8), x_3 = padF (Dir.mk x_2.fst.minus x_2.fst.zero x_2.fst.plus x_2.fst.space x_2.fst.width x_2.fst.prec x_2.fst.kind)
 [] [(37 : UInt8)] → iteP ((List.map (fun (b : UInt8) => [AV.sc (Value.int IntKind.u8 (↑b.toNat : Int))]) x_3).all fun (e : List AV) => e.all AV.one) (iteP (List.map (fun (b : UInt8) => [AV.sc (Value.int IntKind.u8 (↑b.toNat : Int))]) x_3).isEmpty (NC x_1.snd.fst (AV.sl x_2.snd.snd 0) (List.map
 (fun (b : UInt8) => [AV.sc (Value.int IntKind.u8 (↑b.toNat : Int))]) x.fst) (List.map
 (fun (b : UInt8) => [AV.sc (Value.int IntKind.u8 (↑b.toNat : Int))]) x.fst).length) (iteP (allLen 1 (List.map
 (fun (b : UInt8) => [AV.sc (Value.int IntKind.u8 (↑b.toNat : Int))]) x.fst) && fits ((List.map
 (fun (b : UInt8) => [AV.sc (Value.int IntKind.u8 (↑b.toNat : Int))]) x.fst).length + (List.map
 (fun (b : UInt8) => [AV.sc (Value.int IntKind.u8 (↑b.toNat : Int))]) x_3).length) 1) (iteP (decide ((List.map
 (fun (b : UInt8) => [AV.sc (Value.int IntKind.u8 (↑b.toNat : Int))]) x.fst).length = (List.map
 (fun (b : UInt8) => [AV.sc (Value.int IntKind.u8 (↑b.toNat : Int))]) x.fst).length)) (NC x_1.snd.fst (AV.sl x_2.snd.snd 0) (List.map
 (fun (b : UInt8) => [AV.sc (Value.int IntKind.u8 (↑b.toNat : Int))]) x.fst ++ List.map
 (fun (b : UInt8) => [AV.sc (Value.int IntKind.u8 (↑b.toNat : Int))]) x_3) ((List.map
 (fun (b : UInt8) => [AV.sc (Value.int IntKind.u8 (↑b.toNat : Int))]) x.fst).length + (List.map
 (fun (b : UInt8) => [AV.sc (Value.int IntKind.u8 (↑b.toNat : Int))]) x_3).length)) False) False)) False))) False)) False)) (iteP ((List.map (fun (b : UInt8) => [AV.sc (Value.int IntKind.u8 (↑b.toNat : Int))]) x.fst).all fun (e : List AV) => e.all AV.one) (iteP (List.map (fun (b : UInt8) => [AV.sc (Value.int IntKind.u8 (↑b.toNat : Int))]) x.fst).isEmpty (XB 0 (AV.sl l 0)) (iteP
 (fits (List.map (fun (b : UInt8) => [AV.sc (Value.int IntKind.u8 (↑b.toNat : Int))]) x.fst).length 1) (XC 0 (AV.sl l 0) (List.map (fun (b : UInt8) => [AV.sc (Value.int IntKind.u8 (↑b.toNat : Int))]) x.fst) (List.map (fun (b : UInt8) => [AV.sc (Value.int IntKind.u8 (↑b.toNat : Int))]) x.fst).length) False)) False)) :
 (fun (s : List UInt8) (l : Cells) (NB : List UInt8 → AV → Prop) (NC : List UInt8 → AV → Cells → Nat → Prop) (XA XB : Int → AV → Prop) (XC : Int → AV → Cells → Nat → Prop) => wpRound Y2 Door.cfg Tryz.prog 40 10 2 (IA s (.sl l 0)) (qN NB NC) (qX XA XB XC)) s l NB NC XA XB XC :=
 Eq.mp (by kernel_rfl) h
theorem gB (s : List UInt8) (l : Cells) (NB : List UInt8 → AV → Prop) (NC : List UInt8 → AV → Cells → Nat → Prop) (XA : Int → AV → Prop) (XB : Int → AV → Prop) (XC : Int → AV → Cells → Nat → Prop) (h :
 (s.length ≤ 1000000 ∧ [(37 : UInt8)] = [(37 : UInt8)]) ∧ ∀ (x : List UInt8 × List UInt8 × Bool), x = (before s, after s, hasPct s) → iteP x.snd.snd (x.snd.fst.length.le 1000000 ∧ ∀ (x_1 : Dir × List UInt8 × Int), x_1 = readF x.snd.fst → iteP (x_1.snd.snd != 0) (XB x_1.snd.snd (AV.sl l 0)) (iteP ((List.map (fun (b : UInt8) => [AV.sc (Value.int IntKind.u8 (↑b.toNat : Int))]) x.fst).all
 fun (e : List AV) => e.all AV.one) (iteP (List.map (fun (b : UInt8) => [AV.sc (Value.int IntKind.u8 (↑b.toNat : Int))]) x.fst).isEmpty ((sB (AV.sl l 0) = sB (AV.sl l 0) ∧ goodsB l = true) ∧ ∀ (x : Dir × Int × Cells), x = resolveF (Dir.mk x_1.fst.minus x_1.fst.zero x_1.fst.plus x_1.fst.space x_1.fst.width x_1.fst.prec x_1.fst.kind) l → iteP (x.snd.fst != 0)
 (iteP (x.snd.fst != 0) (XB x.snd.fst (AV.sl x.snd.snd 0)) (NB x_1.snd.fst (AV.sl x.snd.snd 0))) (iteP (x.fst.kind != 37) (iteP (inRange 0 (List.length x.snd.snd)) (getI 0 x.snd.snd = some [AV.sc (Value.int IntKind.i64 (cellInt x.snd.snd 0 0)), AV.sc (Value.int IntKind.i64 (cellInt x.snd.snd 0 1)), AV.sc (Value.string (ByteArray.mk (Array.mk (cellStr x.snd.snd 0 2))))] ∧ (bodyOk
 (Dir.mk x.fst.minus x.fst.zero x.fst.plus x.fst.space x.fst.width x.fst.prec x.fst.kind) (cellInt x.snd.snd 0 0) = true ∧ (cellStr x.snd.snd 0 2).length ≤ 1000000) ∧ ∀ (x_2 : List UInt8 × List UInt8), x_2 = bodyF (Dir.mk x.fst.minus x.fst.zero x.fst.plus x.fst.space x.fst.width x.fst.prec x.fst.kind) (cellInt x.snd.snd 0 0) (cellInt x.snd.snd 0 1) (cellStr x.snd.snd 0 2) →
 iteP (headLen 3 x.snd.snd) (iteP (true && decide (1 ≤ (↑(List.length x.snd.snd) : Int))) (((-1000) ≤ x.fst.width ∧ x.fst.width ≤ 1000 ∧ 0 ≤ x.fst.kind ∧ x.fst.kind ≤ 255 ∧ x_2.fst.length ≤ 1000000 ∧ x_2.snd.length ≤ 1000000) ∧ ∀ (x_3 : List UInt8), x_3 = padF (Dir.mk x.fst.minus x.fst.zero x.fst.plus x.fst.space x.fst.width x.fst.prec x.fst.kind) x_2.fst x_2.snd → iteP ((List.map
 (fun (b : UInt8) => [AV.sc (Value.int IntKind.u8 (↑b.toNat : Int))]) x_3).all fun (e : List AV) => e.all AV.one) (iteP (List.map
 (fun (b : UInt8) => [AV.sc (Value.int IntKind.u8 (↑b.toNat : Int))]) x_3).isEmpty (NB x_1.snd.fst (AV.sl (List.drop 1 x.snd.snd) 0)) (iteP (fits (List.map
 (fun (b : UInt8) => [AV.sc (Value.int IntKind.u8 (↑b.toNat : Int))]) x_3).length 1) (NC x_1.snd.fst (AV.sl (List.drop 1 x.snd.snd) 0) (List.map
 (fun (b : UInt8) => [AV.sc (Value.int IntKind.u8 (↑b.toNat : Int))]) x_3) (List.map
 (fun (b : UInt8) => [AV.sc (Value.int IntKind.u8 (↑b.toNat : Int))]) x_3).length) False)) False) False) False) False) (((-1000) ≤ x.fst.width ∧ x.fst.width ≤ 1000 ∧ 0 ≤ x.fst.kind ∧ x.fst.kind ≤ 255 ∧ (0 : Nat) ≤ 1000000 ∧ (1 : Nat) ≤ 1000000) ∧ ∀ (x_2 : List UInt8), x_2 = padF (Dir.mk x.fst.minus x.fst.zero x.fst.plus x.fst.space x.fst.width x.fst.prec x.fst.kind) [] [(37 : UInt8)] → iteP
 ((List.map (fun (b : UInt8) => [AV.sc (Value.int IntKind.u8 (↑b.toNat : Int))]) x_2).all fun (e : List AV) => e.all AV.one) (iteP (List.map (fun (b : UInt8) => [AV.sc (Value.int IntKind.u8 (↑b.toNat : Int))]) x_2).isEmpty (NB x_1.snd.fst (AV.sl x.snd.snd 0)) (iteP (fits (List.map
 (fun (b : UInt8) => [AV.sc (Value.int IntKind.u8 (↑b.toNat : Int))]) x_2).length 1) (NC x_1.snd.fst (AV.sl x.snd.snd 0) (List.map
 (fun (b : UInt8) => [AV.sc (Value.int IntKind.u8 (↑b.toNat : Int))]) x_2) (List.map
 (fun (b : UInt8) => [AV.sc (Value.int IntKind.u8 (↑b.toNat : Int))]) x_2).length) False)) False))) (iteP (fits (List.map (fun (b : UInt8) => [AV.sc (Value.int IntKind.u8 (↑b.toNat : Int))]) x.fst).length 1) ((sC (AV.sl l 0) (List.map (fun (b : UInt8) => [AV.sc (Value.int IntKind.u8 (↑b.toNat : Int))]) x.fst) (List.map (fun (b : UInt8) => [AV.sc (Value.int IntKind.u8 (↑b.toNat : Int))])
 x.fst).length = sC (AV.sl l 0) (List.map (fun (b : UInt8) => [AV.sc (Value.int IntKind.u8 (↑b.toNat : Int))]) x.fst) (List.map (fun (b : UInt8) => [AV.sc (Value.int IntKind.u8 (↑b.toNat : Int))]) x.fst).length ∧ goodsB l = true) ∧ ∀ (x_2 : Dir × Int × Cells), x_2 = resolveF (Dir.mk x_1.fst.minus x_1.fst.zero x_1.fst.plus x_1.fst.space x_1.fst.width x_1.fst.prec x_1.fst.kind) l →
 iteP (x_2.snd.fst != 0) (iteP (x_2.snd.fst != 0) (XC x_2.snd.fst (AV.sl x_2.snd.snd 0) (List.map (fun (b : UInt8) => [AV.sc (Value.int IntKind.u8 (↑b.toNat : Int))]) x.fst) (List.map (fun (b : UInt8) => [AV.sc (Value.int IntKind.u8 (↑b.toNat : Int))]) x.fst).length) (NC x_1.snd.fst (AV.sl x_2.snd.snd 0) (List.map (fun (b : UInt8) => [AV.sc (Value.int IntKind.u8 (↑b.toNat : Int))]) x.fst)
 (List.map (fun (b : UInt8) => [AV.sc (Value.int IntKind.u8 (↑b.toNat : Int))]) x.fst).length)) (iteP (x_2.fst.kind != 37) (iteP (inRange 0 (List.length x_2.snd.snd)) (getI 0 x_2.snd.snd = some [AV.sc (Value.int IntKind.i64 (cellInt x_2.snd.snd 0 0)), AV.sc (Value.int IntKind.i64 (cellInt x_2.snd.snd 0 1)), AV.sc (Value.string (ByteArray.mk (Array.mk (cellStr x_2.snd.snd 0 2))))] ∧ (bodyOk
 (Dir.mk x_2.fst.minus x_2.fst.zero x_2.fst.plus x_2.fst.space x_2.fst.width x_2.fst.prec x_2.fst.kind) (cellInt x_2.snd.snd 0 0) = true ∧ (cellStr x_2.snd.snd 0 2).length ≤ 1000000) ∧ ∀ (x_3 : List UInt8 × List UInt8), x_3 = bodyF (Dir.mk x_2.fst.minus x_2.fst.zero x_2.fst.plus x_2.fst.space x_2.fst.width x_2.fst.prec x_2.fst.kind) (cellInt x_2.snd.snd 0 0) (cellInt x_2.snd.snd 0 1)
 (cellStr x_2.snd.snd 0 2) → iteP (headLen 3 x_2.snd.snd) (iteP (true && decide (1 ≤ (↑(List.length x_2.snd.snd) : Int))) (((-1000) ≤ x_2.fst.width ∧ x_2.fst.width ≤ 1000 ∧ 0 ≤ x_2.fst.kind ∧ x_2.fst.kind ≤ 255 ∧ x_3.fst.length ≤ 1000000 ∧ x_3.snd.length ≤ 1000000) ∧ ∀ (x_4 : List UInt8), x_4 = padF (Dir.mk x_2.fst.minus x_2.fst.zero x_2.fst.plus x_2.fst.space
 x_2.fst.width x_2.fst.prec x_2.fst.kind) x_3.fst x_3.snd → iteP ((List.map
 (fun (b : UInt8) => [AV.sc (Value.int IntKind.u8 (↑b.toNat : Int))]) x_4).all fun (e : List AV) => e.all AV.one) (iteP (List.map
 (fun (b : UInt8) => [AV.sc (Value.int IntKind.u8 (↑b.toNat : Int))]) x_4).isEmpty (NC x_1.snd.fst (AV.sl (List.drop 1 x_2.snd.snd) 0) (List.map
 (fun (b : UInt8) => [AV.sc (Value.int IntKind.u8 (↑b.toNat : Int))]) x.fst) (List.map
 (fun (b : UInt8) => [AV.sc (Value.int IntKind.u8 (↑b.toNat : Int))]) x.fst).length) (iteP (allLen 1 (List.map
 (fun (b : UInt8) => [AV.sc (Value.int IntKind.u8 (↑b.toNat : Int))]) x.fst) && fits ((List.map
 (fun (b : UInt8) => [AV.sc (Value.int IntKind.u8 (↑b.toNat : Int))]) x.fst).length + (List.map
 (fun (b : UInt8) => [AV.sc (Value.int IntKind.u8 (↑b.toNat : Int))]) x_4).length) 1) (iteP (decide ((List.map
 (fun (b : UInt8) => [AV.sc (Value.int IntKind.u8 (↑b.toNat : Int))]) x.fst).length = (List.map
 (fun (b : UInt8) => [AV.sc (Value.int IntKind.u8 (↑b.toNat : Int))]) x.fst).length)) (NC x_1.snd.fst (AV.sl (List.drop 1 x_2.snd.snd) 0) (List.map
 (fun (b : UInt8) => [AV.sc (Value.int IntKind.u8 (↑b.toNat : Int))]) x.fst ++ List.map
 (fun (b : UInt8) => [AV.sc (Value.int IntKind.u8 (↑b.toNat : Int))]) x_4) ((List.map
 (fun (b : UInt8) => [AV.sc (Value.int IntKind.u8 (↑b.toNat : Int))]) x.fst).length + (List.map
 (fun (b : UInt8) => [AV.sc (Value.int IntKind.u8 (↑b.toNat : Int))]) x_4).length)) False) False)) False) False) False) False) (((-1000) ≤ x_2.fst.width ∧ x_2.fst.width ≤ 1000 ∧ 0 ≤ x_2.fst.kind ∧ x_2.fst.kind ≤ 255 ∧ (0 : Nat) ≤ 1000000 ∧ (1 : Nat) ≤ 1000000) ∧ ∀ (x_3 : List UInt8), x_3 = padF (Dir.mk x_2.fst.minus x_2.fst.zero x_2.fst.plus x_2.fst.space x_2.fst.width x_2.fst.prec x_2.fst.kind)
 [] [(37 : UInt8)] → iteP ((List.map (fun (b : UInt8) => [AV.sc (Value.int IntKind.u8 (↑b.toNat : Int))]) x_3).all fun (e : List AV) => e.all AV.one) (iteP (List.map (fun (b : UInt8) => [AV.sc (Value.int IntKind.u8 (↑b.toNat : Int))]) x_3).isEmpty (NC x_1.snd.fst (AV.sl x_2.snd.snd 0) (List.map
 (fun (b : UInt8) => [AV.sc (Value.int IntKind.u8 (↑b.toNat : Int))]) x.fst) (List.map
 (fun (b : UInt8) => [AV.sc (Value.int IntKind.u8 (↑b.toNat : Int))]) x.fst).length) (iteP (allLen 1 (List.map
 (fun (b : UInt8) => [AV.sc (Value.int IntKind.u8 (↑b.toNat : Int))]) x.fst) && fits ((List.map
 (fun (b : UInt8) => [AV.sc (Value.int IntKind.u8 (↑b.toNat : Int))]) x.fst).length + (List.map
 (fun (b : UInt8) => [AV.sc (Value.int IntKind.u8 (↑b.toNat : Int))]) x_3).length) 1) (iteP (decide ((List.map
 (fun (b : UInt8) => [AV.sc (Value.int IntKind.u8 (↑b.toNat : Int))]) x.fst).length = (List.map
 (fun (b : UInt8) => [AV.sc (Value.int IntKind.u8 (↑b.toNat : Int))]) x.fst).length)) (NC x_1.snd.fst (AV.sl x_2.snd.snd 0) (List.map
 (fun (b : UInt8) => [AV.sc (Value.int IntKind.u8 (↑b.toNat : Int))]) x.fst ++ List.map
 (fun (b : UInt8) => [AV.sc (Value.int IntKind.u8 (↑b.toNat : Int))]) x_3) ((List.map
 (fun (b : UInt8) => [AV.sc (Value.int IntKind.u8 (↑b.toNat : Int))]) x.fst).length + (List.map
 (fun (b : UInt8) => [AV.sc (Value.int IntKind.u8 (↑b.toNat : Int))]) x_3).length)) False) False)) False))) False)) False)) (iteP ((List.map (fun (b : UInt8) => [AV.sc (Value.int IntKind.u8 (↑b.toNat : Int))]) x.fst).all fun (e : List AV) => e.all AV.one) (iteP (List.map (fun (b : UInt8) => [AV.sc (Value.int IntKind.u8 (↑b.toNat : Int))]) x.fst).isEmpty (XB 0 (AV.sl l 0)) (iteP
 (fits (List.map (fun (b : UInt8) => [AV.sc (Value.int IntKind.u8 (↑b.toNat : Int))]) x.fst).length 1) (XC 0 (AV.sl l 0) (List.map (fun (b : UInt8) => [AV.sc (Value.int IntKind.u8 (↑b.toNat : Int))]) x.fst) (List.map (fun (b : UInt8) => [AV.sc (Value.int IntKind.u8 (↑b.toNat : Int))]) x.fst).length) False)) False)) :
 (fun (s : List UInt8) (l : Cells) (NB : List UInt8 → AV → Prop) (NC : List UInt8 → AV → Cells → Nat → Prop) (XA XB : Int → AV → Prop) (XC : Int → AV → Cells → Nat → Prop) => wpRound Y2 Door.cfg Tryz.prog 40 10 2 (IB s (.sl l 0)) (qN NB NC) (qX XA XB XC)) s l NB NC XA XB XC :=
 Eq.mp (by kernel_rfl) h
theorem gC (s : List UInt8) (l : Cells) (b : Cells) (n : Nat) (NB : List UInt8 → AV → Prop) (NC : List UInt8 → AV → Cells → Nat → Prop) (XA : Int → AV → Prop) (XB : Int → AV → Prop) (XC : Int → AV → Cells → Nat → Prop) (h :
 (s.length ≤ 1000000 ∧ [(37 : UInt8)] = [(37 : UInt8)]) ∧ ∀ (x : List UInt8 × List UInt8 × Bool), x = (before s, after s, hasPct s) → iteP x.snd.snd (x.snd.fst.length.le 1000000 ∧ ∀ (x_1 : Dir × List UInt8 × Int), x_1 = readF x.snd.fst → iteP (x_1.snd.snd != 0) (XC x_1.snd.snd (AV.sl l 0) b n) (iteP ((List.map (fun (b : UInt8) => [AV.sc (Value.int IntKind.u8 (↑b.toNat : Int))]) x.fst).all
 fun (e : List AV) => e.all AV.one) (iteP (List.map (fun (b : UInt8) => [AV.sc (Value.int IntKind.u8 (↑b.toNat : Int))]) x.fst).isEmpty ((sC (AV.sl l 0) b n = sC (AV.sl l 0) b n ∧ goodsB l = true) ∧ ∀ (x : Dir × Int × Cells), x = resolveF (Dir.mk x_1.fst.minus x_1.fst.zero x_1.fst.plus x_1.fst.space x_1.fst.width x_1.fst.prec x_1.fst.kind) l → iteP (x.snd.fst != 0)
 (iteP (x.snd.fst != 0) (XC x.snd.fst (AV.sl x.snd.snd 0) b n) (NC x_1.snd.fst (AV.sl x.snd.snd 0) b n)) (iteP (x.fst.kind != 37) (iteP (inRange 0 (List.length x.snd.snd)) (getI 0 x.snd.snd = some [AV.sc (Value.int IntKind.i64 (cellInt x.snd.snd 0 0)), AV.sc (Value.int IntKind.i64 (cellInt x.snd.snd 0 1)), AV.sc (Value.string (ByteArray.mk (Array.mk (cellStr x.snd.snd 0 2))))] ∧ (bodyOk
 (Dir.mk x.fst.minus x.fst.zero x.fst.plus x.fst.space x.fst.width x.fst.prec x.fst.kind) (cellInt x.snd.snd 0 0) = true ∧ (cellStr x.snd.snd 0 2).length ≤ 1000000) ∧ ∀ (x_2 : List UInt8 × List UInt8), x_2 = bodyF (Dir.mk x.fst.minus x.fst.zero x.fst.plus x.fst.space x.fst.width x.fst.prec x.fst.kind) (cellInt x.snd.snd 0 0) (cellInt x.snd.snd 0 1) (cellStr x.snd.snd 0 2) →
 iteP (headLen 3 x.snd.snd) (iteP (true && decide (1 ≤ (↑(List.length x.snd.snd) : Int))) (((-1000) ≤ x.fst.width ∧ x.fst.width ≤ 1000 ∧ 0 ≤ x.fst.kind ∧ x.fst.kind ≤ 255 ∧ x_2.fst.length ≤ 1000000 ∧ x_2.snd.length ≤ 1000000) ∧ ∀ (x_3 : List UInt8), x_3 = padF (Dir.mk x.fst.minus x.fst.zero x.fst.plus x.fst.space x.fst.width x.fst.prec x.fst.kind) x_2.fst x_2.snd → iteP ((List.map
 (fun (b : UInt8) => [AV.sc (Value.int IntKind.u8 (↑b.toNat : Int))]) x_3).all fun (e : List AV) => e.all AV.one) (iteP (List.map
 (fun (b : UInt8) => [AV.sc (Value.int IntKind.u8 (↑b.toNat : Int))]) x_3).isEmpty (NC x_1.snd.fst (AV.sl (List.drop 1 x.snd.snd) 0) b n) (iteP (allLen 1 b && fits (List.length b + (List.map
 (fun (b : UInt8) => [AV.sc (Value.int IntKind.u8 (↑b.toNat : Int))]) x_3).length) 1) (iteP (decide (List.length b = n)) (NC x_1.snd.fst (AV.sl (List.drop 1 x.snd.snd) 0) (b ++ List.map
 (fun (b : UInt8) => [AV.sc (Value.int IntKind.u8 (↑b.toNat : Int))]) x_3) (n + (List.map
 (fun (b : UInt8) => [AV.sc (Value.int IntKind.u8 (↑b.toNat : Int))]) x_3).length)) False) False)) False) False) False) False) (((-1000) ≤ x.fst.width ∧ x.fst.width ≤ 1000 ∧ 0 ≤ x.fst.kind ∧ x.fst.kind ≤ 255 ∧ (0 : Nat) ≤ 1000000 ∧ (1 : Nat) ≤ 1000000) ∧ ∀ (x_2 : List UInt8), x_2 = padF (Dir.mk x.fst.minus x.fst.zero x.fst.plus x.fst.space x.fst.width x.fst.prec x.fst.kind) [] [(37 : UInt8)] → iteP
 ((List.map (fun (b : UInt8) => [AV.sc (Value.int IntKind.u8 (↑b.toNat : Int))]) x_2).all fun (e : List AV) => e.all AV.one) (iteP (List.map (fun (b : UInt8) => [AV.sc (Value.int IntKind.u8 (↑b.toNat : Int))]) x_2).isEmpty (NC x_1.snd.fst (AV.sl x.snd.snd 0) b n) (iteP (allLen 1 b && fits (List.length b + (List.map
 (fun (b : UInt8) => [AV.sc (Value.int IntKind.u8 (↑b.toNat : Int))]) x_2).length) 1) (iteP (decide (List.length b = n)) (NC x_1.snd.fst (AV.sl x.snd.snd 0) (b ++ List.map
 (fun (b : UInt8) => [AV.sc (Value.int IntKind.u8 (↑b.toNat : Int))]) x_2) (n + (List.map
 (fun (b : UInt8) => [AV.sc (Value.int IntKind.u8 (↑b.toNat : Int))]) x_2).length)) False) False)) False))) (iteP (allLen 1 b && fits (List.length b + (List.map (fun (b : UInt8) => [AV.sc (Value.int IntKind.u8 (↑b.toNat : Int))]) x.fst).length) 1) (iteP (decide (List.length b = n)) ((sC (AV.sl l 0) (b ++ List.map (fun (b : UInt8) => [AV.sc (Value.int IntKind.u8 (↑b.toNat : Int))]) x.fst) (n +
 (List.map (fun (b : UInt8) => [AV.sc (Value.int IntKind.u8 (↑b.toNat : Int))]) x.fst).length) = sC (AV.sl l 0) (b ++ List.map (fun (b : UInt8) => [AV.sc (Value.int IntKind.u8 (↑b.toNat : Int))]) x.fst) (n + (List.map (fun (b : UInt8) => [AV.sc (Value.int IntKind.u8 (↑b.toNat : Int))]) x.fst).length) ∧ goodsB l = true) ∧ ∀ (x_2 : Dir × Int × Cells), x_2 = resolveF
 (Dir.mk x_1.fst.minus x_1.fst.zero x_1.fst.plus x_1.fst.space x_1.fst.width x_1.fst.prec x_1.fst.kind) l → iteP (x_2.snd.fst != 0) (iteP (x_2.snd.fst != 0) (XC x_2.snd.fst (AV.sl x_2.snd.snd 0) (b ++ List.map (fun (b : UInt8) => [AV.sc (Value.int IntKind.u8 (↑b.toNat : Int))]) x.fst) (n + (List.map (fun (b : UInt8) => [AV.sc (Value.int IntKind.u8 (↑b.toNat : Int))]) x.fst).length))
 (NC x_1.snd.fst (AV.sl x_2.snd.snd 0) (b ++ List.map (fun (b : UInt8) => [AV.sc (Value.int IntKind.u8 (↑b.toNat : Int))]) x.fst) (n + (List.map (fun (b : UInt8) => [AV.sc (Value.int IntKind.u8 (↑b.toNat : Int))]) x.fst).length))) (iteP (x_2.fst.kind != 37) (iteP (inRange 0 (List.length x_2.snd.snd)) (getI 0 x_2.snd.snd = some [AV.sc (Value.int IntKind.i64 (cellInt x_2.snd.snd 0 0)),
 AV.sc (Value.int IntKind.i64 (cellInt x_2.snd.snd 0 1)), AV.sc (Value.string (ByteArray.mk (Array.mk (cellStr x_2.snd.snd 0 2))))] ∧ (bodyOk (Dir.mk x_2.fst.minus x_2.fst.zero x_2.fst.plus x_2.fst.space x_2.fst.width x_2.fst.prec x_2.fst.kind) (cellInt x_2.snd.snd 0 0) = true ∧ (cellStr x_2.snd.snd 0 2).length ≤ 1000000) ∧ ∀ (x_3 : List UInt8 × List UInt8), x_3 = bodyF
 (Dir.mk x_2.fst.minus x_2.fst.zero x_2.fst.plus x_2.fst.space x_2.fst.width x_2.fst.prec x_2.fst.kind) (cellInt x_2.snd.snd 0 0) (cellInt x_2.snd.snd 0 1) (cellStr x_2.snd.snd 0 2) → iteP (headLen 3 x_2.snd.snd) (iteP (true && decide (1 ≤ (↑(List.length x_2.snd.snd) : Int))) (((-1000) ≤ x_2.fst.width ∧ x_2.fst.width ≤ 1000 ∧ 0 ≤ x_2.fst.kind ∧ x_2.fst.kind ≤ 255 ∧ x_3.fst.length ≤ 1000000 ∧
 x_3.snd.length ≤ 1000000) ∧ ∀ (x_4 : List UInt8), x_4 = padF (Dir.mk x_2.fst.minus x_2.fst.zero x_2.fst.plus x_2.fst.space x_2.fst.width x_2.fst.prec x_2.fst.kind) x_3.fst x_3.snd → iteP ((List.map
 (fun (b : UInt8) => [AV.sc (Value.int IntKind.u8 (↑b.toNat : Int))]) x_4).all fun (e : List AV) => e.all AV.one) (iteP (List.map
 (fun (b : UInt8) => [AV.sc (Value.int IntKind.u8 (↑b.toNat : Int))]) x_4).isEmpty (NC x_1.snd.fst (AV.sl (List.drop 1 x_2.snd.snd) 0) (b ++ List.map
 (fun (b : UInt8) => [AV.sc (Value.int IntKind.u8 (↑b.toNat : Int))]) x.fst) (n + (List.map
 (fun (b : UInt8) => [AV.sc (Value.int IntKind.u8 (↑b.toNat : Int))]) x.fst).length)) (iteP (allLen 1 (b ++ List.map
 (fun (b : UInt8) => [AV.sc (Value.int IntKind.u8 (↑b.toNat : Int))]) x.fst) && fits ((b ++ List.map
 (fun (b : UInt8) => [AV.sc (Value.int IntKind.u8 (↑b.toNat : Int))]) x.fst).length + (List.map
 (fun (b : UInt8) => [AV.sc (Value.int IntKind.u8 (↑b.toNat : Int))]) x_4).length) 1) (iteP (decide ((b ++ List.map
 (fun (b : UInt8) => [AV.sc (Value.int IntKind.u8 (↑b.toNat : Int))]) x.fst).length = n + (List.map
 (fun (b : UInt8) => [AV.sc (Value.int IntKind.u8 (↑b.toNat : Int))]) x.fst).length)) (NC x_1.snd.fst (AV.sl (List.drop 1 x_2.snd.snd) 0) (b ++ List.map
 (fun (b : UInt8) => [AV.sc (Value.int IntKind.u8 (↑b.toNat : Int))]) x.fst ++ List.map
 (fun (b : UInt8) => [AV.sc (Value.int IntKind.u8 (↑b.toNat : Int))]) x_4) (n + (List.map
 (fun (b : UInt8) => [AV.sc (Value.int IntKind.u8 (↑b.toNat : Int))]) x.fst).length + (List.map
 (fun (b : UInt8) => [AV.sc (Value.int IntKind.u8 (↑b.toNat : Int))]) x_4).length)) False) False)) False) False) False) False) (((-1000) ≤ x_2.fst.width ∧ x_2.fst.width ≤ 1000 ∧ 0 ≤ x_2.fst.kind ∧ x_2.fst.kind ≤ 255 ∧ (0 : Nat) ≤ 1000000 ∧ (1 : Nat) ≤ 1000000) ∧ ∀ (x_3 : List UInt8), x_3 = padF (Dir.mk x_2.fst.minus x_2.fst.zero x_2.fst.plus x_2.fst.space x_2.fst.width x_2.fst.prec x_2.fst.kind)
 [] [(37 : UInt8)] → iteP ((List.map
 (fun (b : UInt8) => [AV.sc (Value.int IntKind.u8 (↑b.toNat : Int))]) x_3).all fun (e : List AV) => e.all AV.one) (iteP (List.map
 (fun (b : UInt8) => [AV.sc (Value.int IntKind.u8 (↑b.toNat : Int))]) x_3).isEmpty (NC x_1.snd.fst (AV.sl x_2.snd.snd 0) (b ++ List.map
 (fun (b : UInt8) => [AV.sc (Value.int IntKind.u8 (↑b.toNat : Int))]) x.fst) (n + (List.map
 (fun (b : UInt8) => [AV.sc (Value.int IntKind.u8 (↑b.toNat : Int))]) x.fst).length)) (iteP (allLen 1 (b ++ List.map
 (fun (b : UInt8) => [AV.sc (Value.int IntKind.u8 (↑b.toNat : Int))]) x.fst) && fits ((b ++ List.map
 (fun (b : UInt8) => [AV.sc (Value.int IntKind.u8 (↑b.toNat : Int))]) x.fst).length + (List.map
 (fun (b : UInt8) => [AV.sc (Value.int IntKind.u8 (↑b.toNat : Int))]) x_3).length) 1) (iteP (decide ((b ++ List.map
 (fun (b : UInt8) => [AV.sc (Value.int IntKind.u8 (↑b.toNat : Int))]) x.fst).length = n + (List.map
 (fun (b : UInt8) => [AV.sc (Value.int IntKind.u8 (↑b.toNat : Int))]) x.fst).length)) (NC x_1.snd.fst (AV.sl x_2.snd.snd 0) (b ++ List.map
 (fun (b : UInt8) => [AV.sc (Value.int IntKind.u8 (↑b.toNat : Int))]) x.fst ++ List.map
 (fun (b : UInt8) => [AV.sc (Value.int IntKind.u8 (↑b.toNat : Int))]) x_3) (n + (List.map
 (fun (b : UInt8) => [AV.sc (Value.int IntKind.u8 (↑b.toNat : Int))]) x.fst).length + (List.map
 (fun (b : UInt8) => [AV.sc (Value.int IntKind.u8 (↑b.toNat : Int))]) x_3).length)) False) False)) False))) False) False)) False)) (iteP ((List.map (fun (b : UInt8) => [AV.sc (Value.int IntKind.u8 (↑b.toNat : Int))]) x.fst).all fun (e : List AV) => e.all AV.one) (iteP (List.map (fun (b : UInt8) => [AV.sc (Value.int IntKind.u8 (↑b.toNat : Int))]) x.fst).isEmpty (XC 0 (AV.sl l 0) b n) (iteP
 (allLen 1 b && fits (List.length b + (List.map (fun (b : UInt8) => [AV.sc (Value.int IntKind.u8 (↑b.toNat : Int))]) x.fst).length) 1) (iteP (decide (List.length b = n)) (XC 0 (AV.sl l 0) (b ++ List.map (fun (b : UInt8) => [AV.sc (Value.int IntKind.u8 (↑b.toNat : Int))]) x.fst) (n + (List.map (fun (b : UInt8) => [AV.sc (Value.int IntKind.u8 (↑b.toNat : Int))]) x.fst).length)) False) False))
 False)) :
 (fun (s : List UInt8) (l b : Cells) (n : Nat) (NB : List UInt8 → AV → Prop) (NC : List UInt8 → AV → Cells → Nat → Prop) (XA XB : Int → AV → Prop) (XC : Int → AV → Cells → Nat → Prop) => wpRound Y2 Door.cfg Tryz.prog 40 10 2 (IC s (.sl l 0) b n) (qN NB NC) (qX XA XB XC)) s l b n NB NC XA XB XC :=
 Eq.mp (by kernel_rfl) h
theorem gAn (s : List UInt8) (NB : List UInt8 → AV → Prop) (NC : List UInt8 → AV → Cells → Nat → Prop) (XA : Int → AV → Prop) (XB : Int → AV → Prop) (XC : Int → AV → Cells → Nat → Prop) (h :
 (s.length ≤ 1000000 ∧ [(37 : UInt8)] = [(37 : UInt8)]) ∧ ∀ (x : List UInt8 × List UInt8 × Bool), x = (before s, after s, hasPct s) → iteP x.snd.snd (x.snd.fst.length.le 1000000 ∧ ∀ (x_1 : Dir × List UInt8 × Int), x_1 = readF x.snd.fst → iteP (x_1.snd.snd != 0) (XA x_1.snd.snd (AV.sc (Value.slice none 0 0))) (iteP
 ((List.map (fun (b : UInt8) => [AV.sc (Value.int IntKind.u8 (↑b.toNat : Int))]) x.fst).all fun (e : List AV) => e.all AV.one) (iteP (List.map (fun (b : UInt8) => [AV.sc (Value.int IntKind.u8 (↑b.toNat : Int))]) x.fst).isEmpty (sB (AV.sc (Value.slice none 0 0)) = sB (AV.sc (Value.slice none 0 0)) ∧ ∀ (x : Dir × Int × Cells), x = resolveF
 (Dir.mk x_1.fst.minus x_1.fst.zero x_1.fst.plus x_1.fst.space x_1.fst.width x_1.fst.prec x_1.fst.kind) [] → iteP (x.snd.fst != 0) (iteP (x.snd.fst != 0) (XB x.snd.fst (AV.sc (Value.slice none 0 0))) (NB x_1.snd.fst (AV.sc (Value.slice none 0 0)))) (iteP (x.fst.kind != 37) False (((-1000) ≤ x.fst.width ∧ x.fst.width ≤ 1000 ∧ 0 ≤ x.fst.kind ∧ x.fst.kind ≤ 255 ∧
 (0 : Nat) ≤ 1000000 ∧ (1 : Nat) ≤ 1000000) ∧ ∀ (x_2 : List UInt8), x_2 = padF (Dir.mk x.fst.minus x.fst.zero x.fst.plus x.fst.space x.fst.width x.fst.prec x.fst.kind) [] [(37 : UInt8)] → iteP ((List.map (fun (b : UInt8) => [AV.sc (Value.int IntKind.u8 (↑b.toNat : Int))]) x_2).all fun (e : List AV) => e.all AV.one) (iteP (List.map (fun (b : UInt8) => [AV.sc (Value.int IntKind.u8 (↑b.toNat : Int))])
 x_2).isEmpty (NB x_1.snd.fst (AV.sc (Value.slice none 0 0))) (iteP (fits (List.map
 (fun (b : UInt8) => [AV.sc (Value.int IntKind.u8 (↑b.toNat : Int))]) x_2).length 1) (NC x_1.snd.fst (AV.sc (Value.slice none 0 0)) (List.map
 (fun (b : UInt8) => [AV.sc (Value.int IntKind.u8 (↑b.toNat : Int))]) x_2) (List.map
 (fun (b : UInt8) => [AV.sc (Value.int IntKind.u8 (↑b.toNat : Int))]) x_2).length) False)) False))) (iteP (fits (List.map (fun (b : UInt8) => [AV.sc (Value.int IntKind.u8 (↑b.toNat : Int))]) x.fst).length 1) (sC (AV.sc (Value.slice none 0 0)) (List.map (fun (b : UInt8) => [AV.sc (Value.int IntKind.u8 (↑b.toNat : Int))]) x.fst)
 (List.map (fun (b : UInt8) => [AV.sc (Value.int IntKind.u8 (↑b.toNat : Int))]) x.fst).length = sC (AV.sc (Value.slice none 0 0)) (List.map (fun (b : UInt8) => [AV.sc (Value.int IntKind.u8 (↑b.toNat : Int))]) x.fst) (List.map (fun (b : UInt8) => [AV.sc (Value.int IntKind.u8 (↑b.toNat : Int))]) x.fst).length ∧ ∀ (x_2 : Dir × Int × Cells), x_2 = resolveF
 (Dir.mk x_1.fst.minus x_1.fst.zero x_1.fst.plus x_1.fst.space x_1.fst.width x_1.fst.prec x_1.fst.kind) [] → iteP (x_2.snd.fst != 0) (iteP (x_2.snd.fst != 0) (XC x_2.snd.fst (AV.sc (Value.slice none 0 0)) (List.map (fun (b : UInt8) => [AV.sc (Value.int IntKind.u8 (↑b.toNat : Int))]) x.fst) (List.map (fun (b : UInt8) => [AV.sc (Value.int IntKind.u8 (↑b.toNat : Int))]) x.fst).length)
 (NC x_1.snd.fst (AV.sc (Value.slice none 0 0)) (List.map (fun (b : UInt8) => [AV.sc (Value.int IntKind.u8 (↑b.toNat : Int))]) x.fst) (List.map (fun (b : UInt8) => [AV.sc (Value.int IntKind.u8 (↑b.toNat : Int))]) x.fst).length)) (iteP (x_2.fst.kind != 37) False (((-1000) ≤ x_2.fst.width ∧ x_2.fst.width ≤ 1000 ∧ 0 ≤ x_2.fst.kind ∧ x_2.fst.kind ≤ 255 ∧ (0 : Nat) ≤ 1000000 ∧ (1 : Nat) ≤ 1000000) ∧
 ∀ (x_3 : List UInt8), x_3 = padF (Dir.mk x_2.fst.minus x_2.fst.zero x_2.fst.plus x_2.fst.space x_2.fst.width x_2.fst.prec x_2.fst.kind) [] [(37 : UInt8)] → iteP ((List.map (fun (b : UInt8) => [AV.sc (Value.int IntKind.u8 (↑b.toNat : Int))]) x_3).all fun (e : List AV) => e.all AV.one) (iteP (List.map (fun (b : UInt8) => [AV.sc (Value.int IntKind.u8 (↑b.toNat : Int))]) x_3).isEmpty
 (NC x_1.snd.fst (AV.sc (Value.slice none 0 0)) (List.map
 (fun (b : UInt8) => [AV.sc (Value.int IntKind.u8 (↑b.toNat : Int))]) x.fst) (List.map
 (fun (b : UInt8) => [AV.sc (Value.int IntKind.u8 (↑b.toNat : Int))]) x.fst).length) (iteP (allLen 1 (List.map
 (fun (b : UInt8) => [AV.sc (Value.int IntKind.u8 (↑b.toNat : Int))]) x.fst) && fits ((List.map
 (fun (b : UInt8) => [AV.sc (Value.int IntKind.u8 (↑b.toNat : Int))]) x.fst).length + (List.map
 (fun (b : UInt8) => [AV.sc (Value.int IntKind.u8 (↑b.toNat : Int))]) x_3).length) 1) (iteP (decide ((List.map
 (fun (b : UInt8) => [AV.sc (Value.int IntKind.u8 (↑b.toNat : Int))]) x.fst).length = (List.map
 (fun (b : UInt8) => [AV.sc (Value.int IntKind.u8 (↑b.toNat : Int))]) x.fst).length)) (NC x_1.snd.fst (AV.sc (Value.slice none 0 0)) (List.map
 (fun (b : UInt8) => [AV.sc (Value.int IntKind.u8 (↑b.toNat : Int))]) x.fst ++ List.map
 (fun (b : UInt8) => [AV.sc (Value.int IntKind.u8 (↑b.toNat : Int))]) x_3) ((List.map
 (fun (b : UInt8) => [AV.sc (Value.int IntKind.u8 (↑b.toNat : Int))]) x.fst).length + (List.map
 (fun (b : UInt8) => [AV.sc (Value.int IntKind.u8 (↑b.toNat : Int))]) x_3).length)) False) False)) False))) False)) False)) (iteP ((List.map (fun (b : UInt8) => [AV.sc (Value.int IntKind.u8 (↑b.toNat : Int))]) x.fst).all fun (e : List AV) => e.all AV.one) (iteP (List.map (fun (b : UInt8) => [AV.sc (Value.int IntKind.u8 (↑b.toNat : Int))]) x.fst).isEmpty (XB 0 (AV.sc (Value.slice none 0 0))) (iteP
 (fits (List.map (fun (b : UInt8) => [AV.sc (Value.int IntKind.u8 (↑b.toNat : Int))]) x.fst).length 1) (XC 0 (AV.sc (Value.slice none 0 0)) (List.map (fun (b : UInt8) => [AV.sc (Value.int IntKind.u8 (↑b.toNat : Int))]) x.fst) (List.map (fun (b : UInt8) => [AV.sc (Value.int IntKind.u8 (↑b.toNat : Int))]) x.fst).length) False)) False)) :
 (fun (s : List UInt8) (NB : List UInt8 → AV → Prop) (NC : List UInt8 → AV → Cells → Nat → Prop) (XA XB : Int → AV → Prop) (XC : Int → AV → Cells → Nat → Prop) => wpRound Y2 Door.cfg Tryz.prog 40 10 2 (IA s nilA) (qN NB NC) (qX XA XB XC)) s NB NC XA XB XC :=
 Eq.mp (by kernel_rfl) h
theorem gBn (s : List UInt8) (NB : List UInt8 → AV → Prop) (NC : List UInt8 → AV → Cells → Nat → Prop) (XA : Int → AV → Prop) (XB : Int → AV → Prop) (XC : Int → AV → Cells → Nat → Prop) (h :
 (s.length ≤ 1000000 ∧ [(37 : UInt8)] = [(37 : UInt8)]) ∧ ∀ (x : List UInt8 × List UInt8 × Bool), x = (before s, after s, hasPct s) → iteP x.snd.snd (x.snd.fst.length.le 1000000 ∧ ∀ (x_1 : Dir × List UInt8 × Int), x_1 = readF x.snd.fst → iteP (x_1.snd.snd != 0) (XB x_1.snd.snd (AV.sc (Value.slice none 0 0))) (iteP
 ((List.map (fun (b : UInt8) => [AV.sc (Value.int IntKind.u8 (↑b.toNat : Int))]) x.fst).all fun (e : List AV) => e.all AV.one) (iteP (List.map (fun (b : UInt8) => [AV.sc (Value.int IntKind.u8 (↑b.toNat : Int))]) x.fst).isEmpty (sB (AV.sc (Value.slice none 0 0)) = sB (AV.sc (Value.slice none 0 0)) ∧ ∀ (x : Dir × Int × Cells), x = resolveF
 (Dir.mk x_1.fst.minus x_1.fst.zero x_1.fst.plus x_1.fst.space x_1.fst.width x_1.fst.prec x_1.fst.kind) [] → iteP (x.snd.fst != 0) (iteP (x.snd.fst != 0) (XB x.snd.fst (AV.sc (Value.slice none 0 0))) (NB x_1.snd.fst (AV.sc (Value.slice none 0 0)))) (iteP (x.fst.kind != 37) False (((-1000) ≤ x.fst.width ∧ x.fst.width ≤ 1000 ∧ 0 ≤ x.fst.kind ∧ x.fst.kind ≤ 255 ∧
 (0 : Nat) ≤ 1000000 ∧ (1 : Nat) ≤ 1000000) ∧ ∀ (x_2 : List UInt8), x_2 = padF (Dir.mk x.fst.minus x.fst.zero x.fst.plus x.fst.space x.fst.width x.fst.prec x.fst.kind) [] [(37 : UInt8)] → iteP ((List.map (fun (b : UInt8) => [AV.sc (Value.int IntKind.u8 (↑b.toNat : Int))]) x_2).all fun (e : List AV) => e.all AV.one) (iteP (List.map (fun (b : UInt8) => [AV.sc (Value.int IntKind.u8 (↑b.toNat : Int))])
 x_2).isEmpty (NB x_1.snd.fst (AV.sc (Value.slice none 0 0))) (iteP (fits (List.map
 (fun (b : UInt8) => [AV.sc (Value.int IntKind.u8 (↑b.toNat : Int))]) x_2).length 1) (NC x_1.snd.fst (AV.sc (Value.slice none 0 0)) (List.map
 (fun (b : UInt8) => [AV.sc (Value.int IntKind.u8 (↑b.toNat : Int))]) x_2) (List.map
 (fun (b : UInt8) => [AV.sc (Value.int IntKind.u8 (↑b.toNat : Int))]) x_2).length) False)) False))) (iteP (fits (List.map (fun (b : UInt8) => [AV.sc (Value.int IntKind.u8 (↑b.toNat : Int))]) x.fst).length 1) (sC (AV.sc (Value.slice none 0 0)) (List.map (fun (b : UInt8) => [AV.sc (Value.int IntKind.u8 (↑b.toNat : Int))]) x.fst)
 (List.map (fun (b : UInt8) => [AV.sc (Value.int IntKind.u8 (↑b.toNat : Int))]) x.fst).length = sC (AV.sc (Value.slice none 0 0)) (List.map (fun (b : UInt8) => [AV.sc (Value.int IntKind.u8 (↑b.toNat : Int))]) x.fst) (List.map (fun (b : UInt8) => [AV.sc (Value.int IntKind.u8 (↑b.toNat : Int))]) x.fst).length ∧ ∀ (x_2 : Dir × Int × Cells), x_2 = resolveF
 (Dir.mk x_1.fst.minus x_1.fst.zero x_1.fst.plus x_1.fst.space x_1.fst.width x_1.fst.prec x_1.fst.kind) [] → iteP (x_2.snd.fst != 0) (iteP (x_2.snd.fst != 0) (XC x_2.snd.fst (AV.sc (Value.slice none 0 0)) (List.map (fun (b : UInt8) => [AV.sc (Value.int IntKind.u8 (↑b.toNat : Int))]) x.fst) (List.map (fun (b : UInt8) => [AV.sc (Value.int IntKind.u8 (↑b.toNat : Int))]) x.fst).length)
 (NC x_1.snd.fst (AV.sc (Value.slice none 0 0)) (List.map (fun (b : UInt8) => [AV.sc (Value.int IntKind.u8 (↑b.toNat : Int))]) x.fst) (List.map (fun (b : UInt8) => [AV.sc (Value.int IntKind.u8 (↑b.toNat : Int))]) x.fst).length)) (iteP (x_2.fst.kind != 37) False (((-1000) ≤ x_2.fst.width ∧ x_2.fst.width ≤ 1000 ∧ 0 ≤ x_2.fst.kind ∧ x_2.fst.kind ≤ 255 ∧ (0 : Nat) ≤ 1000000 ∧ (1 : Nat) ≤ 1000000) ∧
 ∀ (x_3 : List UInt8), x_3 = padF (Dir.mk x_2.fst.minus x_2.fst.zero x_2.fst.plus x_2.fst.space x_2.fst.width x_2.fst.prec x_2.fst.kind) [] [(37 : UInt8)] → iteP ((List.map (fun (b : UInt8) => [AV.sc (Value.int IntKind.u8 (↑b.toNat : Int))]) x_3).all fun (e : List AV) => e.all AV.one) (iteP (List.map (fun (b : UInt8) => [AV.sc (Value.int IntKind.u8 (↑b.toNat : Int))]) x_3).isEmpty
 (NC x_1.snd.fst (AV.sc (Value.slice none 0 0)) (List.map
 (fun (b : UInt8) => [AV.sc (Value.int IntKind.u8 (↑b.toNat : Int))]) x.fst) (List.map
 (fun (b : UInt8) => [AV.sc (Value.int IntKind.u8 (↑b.toNat : Int))]) x.fst).length) (iteP (allLen 1 (List.map
 (fun (b : UInt8) => [AV.sc (Value.int IntKind.u8 (↑b.toNat : Int))]) x.fst) && fits ((List.map
 (fun (b : UInt8) => [AV.sc (Value.int IntKind.u8 (↑b.toNat : Int))]) x.fst).length + (List.map
 (fun (b : UInt8) => [AV.sc (Value.int IntKind.u8 (↑b.toNat : Int))]) x_3).length) 1) (iteP (decide ((List.map
 (fun (b : UInt8) => [AV.sc (Value.int IntKind.u8 (↑b.toNat : Int))]) x.fst).length = (List.map
 (fun (b : UInt8) => [AV.sc (Value.int IntKind.u8 (↑b.toNat : Int))]) x.fst).length)) (NC x_1.snd.fst (AV.sc (Value.slice none 0 0)) (List.map
 (fun (b : UInt8) => [AV.sc (Value.int IntKind.u8 (↑b.toNat : Int))]) x.fst ++ List.map
 (fun (b : UInt8) => [AV.sc (Value.int IntKind.u8 (↑b.toNat : Int))]) x_3) ((List.map
 (fun (b : UInt8) => [AV.sc (Value.int IntKind.u8 (↑b.toNat : Int))]) x.fst).length + (List.map
 (fun (b : UInt8) => [AV.sc (Value.int IntKind.u8 (↑b.toNat : Int))]) x_3).length)) False) False)) False))) False)) False)) (iteP ((List.map (fun (b : UInt8) => [AV.sc (Value.int IntKind.u8 (↑b.toNat : Int))]) x.fst).all fun (e : List AV) => e.all AV.one) (iteP (List.map (fun (b : UInt8) => [AV.sc (Value.int IntKind.u8 (↑b.toNat : Int))]) x.fst).isEmpty (XB 0 (AV.sc (Value.slice none 0 0))) (iteP
 (fits (List.map (fun (b : UInt8) => [AV.sc (Value.int IntKind.u8 (↑b.toNat : Int))]) x.fst).length 1) (XC 0 (AV.sc (Value.slice none 0 0)) (List.map (fun (b : UInt8) => [AV.sc (Value.int IntKind.u8 (↑b.toNat : Int))]) x.fst) (List.map (fun (b : UInt8) => [AV.sc (Value.int IntKind.u8 (↑b.toNat : Int))]) x.fst).length) False)) False)) :
 (fun (s : List UInt8) (NB : List UInt8 → AV → Prop) (NC : List UInt8 → AV → Cells → Nat → Prop) (XA XB : Int → AV → Prop) (XC : Int → AV → Cells → Nat → Prop) => wpRound Y2 Door.cfg Tryz.prog 40 10 2 (IB s nilA) (qN NB NC) (qX XA XB XC)) s NB NC XA XB XC :=
 Eq.mp (by kernel_rfl) h
theorem gCn (s : List UInt8) (b : Cells) (n : Nat) (NB : List UInt8 → AV → Prop) (NC : List UInt8 → AV → Cells → Nat → Prop) (XA : Int → AV → Prop) (XB : Int → AV → Prop) (XC : Int → AV → Cells → Nat → Prop) (h :
 (s.length ≤ 1000000 ∧ [(37 : UInt8)] = [(37 : UInt8)]) ∧ ∀ (x : List UInt8 × List UInt8 × Bool), x = (before s, after s, hasPct s) → iteP x.snd.snd (x.snd.fst.length.le 1000000 ∧ ∀ (x_1 : Dir × List UInt8 × Int), x_1 = readF x.snd.fst → iteP (x_1.snd.snd != 0) (XC x_1.snd.snd (AV.sc (Value.slice none 0 0)) b n) (iteP
 ((List.map (fun (b : UInt8) => [AV.sc (Value.int IntKind.u8 (↑b.toNat : Int))]) x.fst).all fun (e : List AV) => e.all AV.one) (iteP (List.map (fun (b : UInt8) => [AV.sc (Value.int IntKind.u8 (↑b.toNat : Int))]) x.fst).isEmpty (sC (AV.sc (Value.slice none 0 0)) b n = sC (AV.sc (Value.slice none 0 0)) b n ∧ ∀ (x : Dir × Int × Cells), x = resolveF
 (Dir.mk x_1.fst.minus x_1.fst.zero x_1.fst.plus x_1.fst.space x_1.fst.width x_1.fst.prec x_1.fst.kind) [] → iteP (x.snd.fst != 0) (iteP (x.snd.fst != 0) (XC x.snd.fst (AV.sc (Value.slice none 0 0)) b n) (NC x_1.snd.fst (AV.sc (Value.slice none 0 0)) b n)) (iteP (x.fst.kind != 37) False (((-1000) ≤ x.fst.width ∧ x.fst.width ≤ 1000 ∧ 0 ≤ x.fst.kind ∧ x.fst.kind ≤ 255 ∧
 (0 : Nat) ≤ 1000000 ∧ (1 : Nat) ≤ 1000000) ∧ ∀ (x_2 : List UInt8), x_2 = padF (Dir.mk x.fst.minus x.fst.zero x.fst.plus x.fst.space x.fst.width x.fst.prec x.fst.kind) [] [(37 : UInt8)] → iteP ((List.map (fun (b : UInt8) => [AV.sc (Value.int IntKind.u8 (↑b.toNat : Int))]) x_2).all fun (e : List AV) => e.all AV.one) (iteP (List.map (fun (b : UInt8) => [AV.sc (Value.int IntKind.u8 (↑b.toNat : Int))])
 x_2).isEmpty (NC x_1.snd.fst (AV.sc (Value.slice none 0 0)) b n) (iteP (allLen 1 b && fits (List.length b + (List.map
 (fun (b : UInt8) => [AV.sc (Value.int IntKind.u8 (↑b.toNat : Int))]) x_2).length) 1) (iteP (decide (List.length b = n)) (NC x_1.snd.fst (AV.sc (Value.slice none 0 0)) (b ++ List.map
 (fun (b : UInt8) => [AV.sc (Value.int IntKind.u8 (↑b.toNat : Int))]) x_2) (n + (List.map
 (fun (b : UInt8) => [AV.sc (Value.int IntKind.u8 (↑b.toNat : Int))]) x_2).length)) False) False)) False))) (iteP (allLen 1 b && fits (List.length b + (List.map (fun (b : UInt8) => [AV.sc (Value.int IntKind.u8 (↑b.toNat : Int))]) x.fst).length) 1) (iteP (decide (List.length b = n)) (sC (AV.sc (Value.slice none 0 0))
 (b ++ List.map (fun (b : UInt8) => [AV.sc (Value.int IntKind.u8 (↑b.toNat : Int))]) x.fst) (n + (List.map (fun (b : UInt8) => [AV.sc (Value.int IntKind.u8 (↑b.toNat : Int))]) x.fst).length) = sC (AV.sc (Value.slice none 0 0)) (b ++ List.map (fun (b : UInt8) => [AV.sc (Value.int IntKind.u8 (↑b.toNat : Int))]) x.fst) (n + (List.map (fun (b : UInt8) => [AV.sc (Value.int IntKind.u8 (↑b.toNat : Int))])
 x.fst).length) ∧ ∀ (x_2 : Dir × Int × Cells), x_2 = resolveF (Dir.mk x_1.fst.minus x_1.fst.zero x_1.fst.plus x_1.fst.space x_1.fst.width x_1.fst.prec x_1.fst.kind) [] → iteP (x_2.snd.fst != 0) (iteP (x_2.snd.fst != 0) (XC x_2.snd.fst (AV.sc (Value.slice none 0 0)) (b ++ List.map (fun (b : UInt8) => [AV.sc (Value.int IntKind.u8 (↑b.toNat : Int))]) x.fst) (n +
 (List.map (fun (b : UInt8) => [AV.sc (Value.int IntKind.u8 (↑b.toNat : Int))]) x.fst).length)) (NC x_1.snd.fst (AV.sc (Value.slice none 0 0)) (b ++ List.map (fun (b : UInt8) => [AV.sc (Value.int IntKind.u8 (↑b.toNat : Int))]) x.fst) (n + (List.map (fun (b : UInt8) => [AV.sc (Value.int IntKind.u8 (↑b.toNat : Int))]) x.fst).length))) (iteP (x_2.fst.kind != 37) False (((-1000) ≤ x_2.fst.width ∧
 x_2.fst.width ≤ 1000 ∧ 0 ≤ x_2.fst.kind ∧ x_2.fst.kind ≤ 255 ∧ (0 : Nat) ≤ 1000000 ∧ (1 : Nat) ≤ 1000000) ∧ ∀ (x_3 : List UInt8), x_3 = padF (Dir.mk x_2.fst.minus x_2.fst.zero x_2.fst.plus x_2.fst.space x_2.fst.width x_2.fst.prec x_2.fst.kind) [] [(37 : UInt8)] → iteP ((List.map
 (fun (b : UInt8) => [AV.sc (Value.int IntKind.u8 (↑b.toNat : Int))]) x_3).all fun (e : List AV) => e.all AV.one) (iteP (List.map
 (fun (b : UInt8) => [AV.sc (Value.int IntKind.u8 (↑b.toNat : Int))]) x_3).isEmpty (NC x_1.snd.fst (AV.sc (Value.slice none 0 0)) (b ++ List.map
 (fun (b : UInt8) => [AV.sc (Value.int IntKind.u8 (↑b.toNat : Int))]) x.fst) (n + (List.map
 (fun (b : UInt8) => [AV.sc (Value.int IntKind.u8 (↑b.toNat : Int))]) x.fst).length)) (iteP (allLen 1 (b ++ List.map
 (fun (b : UInt8) => [AV.sc (Value.int IntKind.u8 (↑b.toNat : Int))]) x.fst) && fits ((b ++ List.map
 (fun (b : UInt8) => [AV.sc (Value.int IntKind.u8 (↑b.toNat : Int))]) x.fst).length + (List.map
 (fun (b : UInt8) => [AV.sc (Value.int IntKind.u8 (↑b.toNat : Int))]) x_3).length) 1) (iteP (decide ((b ++ List.map
 (fun (b : UInt8) => [AV.sc (Value.int IntKind.u8 (↑b.toNat : Int))]) x.fst).length = n + (List.map
 (fun (b : UInt8) => [AV.sc (Value.int IntKind.u8 (↑b.toNat : Int))]) x.fst).length)) (NC x_1.snd.fst (AV.sc (Value.slice none 0 0)) (b ++ List.map
 (fun (b : UInt8) => [AV.sc (Value.int IntKind.u8 (↑b.toNat : Int))]) x.fst ++ List.map
 (fun (b : UInt8) => [AV.sc (Value.int IntKind.u8 (↑b.toNat : Int))]) x_3) (n + (List.map
 (fun (b : UInt8) => [AV.sc (Value.int IntKind.u8 (↑b.toNat : Int))]) x.fst).length + (List.map
 (fun (b : UInt8) => [AV.sc (Value.int IntKind.u8 (↑b.toNat : Int))]) x_3).length)) False) False)) False))) False) False)) False)) (iteP ((List.map (fun (b : UInt8) => [AV.sc (Value.int IntKind.u8 (↑b.toNat : Int))]) x.fst).all fun (e : List AV) => e.all AV.one) (iteP (List.map (fun (b : UInt8) => [AV.sc (Value.int IntKind.u8 (↑b.toNat : Int))]) x.fst).isEmpty
 (XC 0 (AV.sc (Value.slice none 0 0)) b n) (iteP (allLen 1 b && fits (List.length b + (List.map (fun (b : UInt8) => [AV.sc (Value.int IntKind.u8 (↑b.toNat : Int))]) x.fst).length) 1) (iteP (decide (List.length b = n)) (XC 0 (AV.sc (Value.slice none 0 0)) (b ++ List.map (fun (b : UInt8) => [AV.sc (Value.int IntKind.u8 (↑b.toNat : Int))]) x.fst)
 (n + (List.map (fun (b : UInt8) => [AV.sc (Value.int IntKind.u8 (↑b.toNat : Int))]) x.fst).length)) False) False)) False)) :
 (fun (s : List UInt8) (b : Cells) (n : Nat) (NB : List UInt8 → AV → Prop) (NC : List UInt8 → AV → Cells → Nat → Prop) (XA XB : Int → AV → Prop) (XC : Int → AV → Cells → Nat → Prop) => wpRound Y2 Door.cfg Tryz.prog 40 10 2 (IC s nilA b n) (qN NB NC) (qX XA XB XC)) s b n NB NC XA XB XC :=
 Eq.mp (by kernel_rfl) h
end
end Go.Proofs.Pr
