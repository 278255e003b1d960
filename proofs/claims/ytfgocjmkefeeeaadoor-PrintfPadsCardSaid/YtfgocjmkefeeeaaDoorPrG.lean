/- Printf: the numbers of values. -/
import Derived.Test.YtfgocjmkefeeeaaDoorPrF
/- Printf: the numbers of values, in plain form; tables. -/
namespace Go.Proofs.Pr
open Go Go.Ef
noncomputable section

def isDig (c : UInt8) : Bool := decide (48 ≤ (c.toNat : Int)) && decide ((c.toNat : Int) ≤ 57)
def isBlank (c : UInt8) : Bool := c == 32 || c == 9
def digN (s : List UInt8) : Nat := (s.takeWhile isDig).length
def blankN (s : List UInt8) : Nat := (s.takeWhile isBlank).length
def valL : List UInt8 → Int → Option Int
  | [], d => some d
  | c :: r, d => if 10 * d + ((c.toNat : Int) - 48) > 1000000000 then none else valL r (10 * d + ((c.toNat : Int) - 48))
def digAt (f : List UInt8) (k : Nat) : Int :=
  match f[k]? with
  | some c => (c.toNat : Int) - 48
  | none => 0
def fracL (f : List UInt8) : Int := ((digAt f 0 * 10 + digAt f 1) * 10 + digAt f 2) * 10 + digAt f 3
def valueF (w f : List UInt8) : Int :=
  match valL w 0 with
  | none => 10000000000001
  | some d => min 10000000000001 (d * 10000 + fracL f)
def fracPart : List UInt8 → List UInt8
  | [] => []
  | c :: r => if c = 46 then r.take (digN r) else []
def signed (s : List UInt8) : Bool :=
  match s with
  | [] => false
  | c :: _ => c == 45 || c == 43
def minus (s : List UInt8) : Bool :=
  match s with
  | [] => false
  | c :: _ => c == 45
def prefU (u : List UInt8) : Int := if digN u = 0 ∧ fracPart (u.drop (digN u)) = [] then 0 else min 10000000000000 (valueF (u.take (digN u)) (fracPart (u.drop (digN u))))
def prefixD (s : List UInt8) : Int :=
  if minus (s.dropWhile isBlank) then -(prefU ((s.dropWhile isBlank).drop 1)) else if signed (s.dropWhile isBlank) then prefU ((s.dropWhile isBlank).drop 1) else prefU (s.dropWhile isBlank)
def nearF (d : Int) : Int := max (-10000000000000) (min 10000000000000 d)
def numberF (k n : Int) (s : List UInt8) : Int := if k = 2 then prefixD s else if k = 1 ∨ k = 3 then nearF n else 0

def I64 (s : List UInt8) (n : Int) : St := stOf 23 [(0, sStr s), (3, sInt n)] [] heapF
def E64 (n : Int) : St := stOf 23 [(3, sInt n)] [] heapF
def I50 (s : List UInt8) (n : Int) : St := stOf 116 [(0, sStr s), (4, sInt n)] [] heapF
def I65 (w f : List UInt8) (d n i : Int) : St := stOf 29 [(0, sStr w), (1, sStr f), (5, sInt d), (8, sInt n), (9, sInt i)] [] heapF
def E65 (f : List UInt8) (d : Int) : St := stOf 29 [(1, sStr f), (4, .unk), (5, sInt d)] [] heapF
def J65 (f : List UInt8) (r d : Int) : St := stOf 29 [(1, sStr f), (4, sInt r), (5, sInt d)] [] heapF

def L64 (σ : St) : Option LSpec :=
  match σ.at 0, σ.at 3 with
  | .v (.sc (.string s)), .v (.sc (.int .i64 k)) => some (lspec (σ.tidy [0, 3] 0 = I64 s.data.toList k ∧ k = 0 ∧ s.data.toList.length ≤ 1000000) Int (fun x => x = digN s.data.toList) (.exit 0) (fun x => E64 x))
  | _, _ => none
def C64 (args : List AV) (h : Heap) : Option CSpec :=
  match args with
  | [.sc (.string s)] => some (nspec (s.data.toList.length ≤ 1000000) ((digN s.data.toList : Nat) : Int) (fun x => aK .i64 x) h)
  | _ => none
def L50 (σ : St) : Option LSpec :=
  match σ.at 0, σ.at 4 with
  | .v (.sc (.string s)), .v (.sc (.int .i64 k)) => some (lspec (σ.tidy [0, 4] 0 = I50 s.data.toList k ∧ k = 0 ∧ s.data.toList.length ≤ 1000000) Int (fun x => x = blankN s.data.toList) (.exit 0) (fun x => I50 s.data.toList x))
  | _, _ => none
def C80 (args : List AV) (h : Heap) : Option CSpec :=
  match args with
  | [.sc (.string s)] => some (nspec (s.data.toList.length ≤ 1000000 ∧ s.data.toList.all isDig = true) (fracL s.data.toList) (fun x => aK .i64 x) h)
  | _ => none
def L65 (σ : St) : Option LSpec :=
  match σ.at 0, σ.at 1, σ.at 5, σ.at 8, σ.at 9 with
  | .v (.sc (.string s)), .v (.sc (.string f)), .v (.sc (.int .i64 d)), .v (.sc (.int .i64 n)), .v (.sc (.int .i64 k)) =>
    some { pre := σ.tidy [0, 1, 5, 8, 9] 0 = I65 s.data.toList f.data.toList d n k ∧ d = 0 ∧ k = 0 ∧ n = s.data.toList.length ∧ s.data.toList.length ≤ 1000000 ∧ s.data.toList.all isDig = true, alts := [{ α := Int, post := fun x => valL s.data.toList 0 = some x, ex := .exit 0, st := fun x => E65 f.data.toList x }, { α := Int, post := fun _ => valL s.data.toList 0 = none, ex := .ret, st := fun x => J65 f.data.toList 10000000000001 x }] }
  | _, _, _, _, _ => none
def C65 (args : List AV) (h : Heap) : Option CSpec :=
  match args with
  | [.sc (.string s), .sc (.string f)] => some (nspec (s.data.toList.length ≤ 1000000 ∧ s.data.toList.all isDig = true ∧ f.data.toList.length ≤ 1000000 ∧ f.data.toList.all isDig = true) (valueF s.data.toList f.data.toList) (fun x => aK .i64 x) h)
  | _ => none
def C50 (args : List AV) (h : Heap) : Option CSpec :=
  match args with
  | [.sc (.string s)] => some { pre := s.data.toList.length ≤ 1000000, alts := [{ α := Int × Int, post := fun x => x.1 = prefixD s.data.toList, val := fun x => .tup [aK .i64 x.1, aK .i64 x.2], heap := fun _ => h }] }
  | _ => none
def C37 (args : List AV) (h : Heap) : Option CSpec :=
  match args with
  | [.agg [.sc (.int .i64 k), .sc (.int .i64 n), .sc (.string s)]] => some (nspec (s.data.toList.length ≤ 1000000) (numberF k n s.data.toList) (fun x => aK .i64 x) h)
  | _ => none
def C38 (args : List AV) (h : Heap) : Option CSpec :=
  match args with
  | [.sc (.int .i64 d)] => some (nspec True ((nearF d).tdiv 10000) (fun x => aK .i64 x) h)
  | _ => none
def N1 : Tab := (tab0.addL 64 3 L64)
def N2 : Tab := ((tab0.addC 64 C64).addC 80 C80).addL 65 4 L65
def N3 : Tab := (((((((((((N2.addC 65 C65).addL 50 3 L50).name 50 54).name 50 67).name 50 57).name 50 64).name 50 80).name 50 81).name 50 96).name 50 91).name 50 93).name 50 95
def N4 : Tab := (N3.addC 50 C50)
def N5 : Tab := (N4.addC 37 C37).addC 38 C38
end
end Go.Proofs.Pr

/- Printf: conditions of the numbers of values, printed by a program from the evaluation. -/
namespace Go.Proofs.Pr
open Go Go.Ef
noncomputable section
set_option maxRecDepth 100000

theorem v64 (s : List UInt8) (k : Int) (N : Int → Prop) (X : Ex → Int → Prop) (h :
 iteP (decide (k < (↑s.length : Int)))
 (iteP (inRange k s.length)
 (iteP (decide ((48 : Int) ≤ byteAt s k))
 (iteP (inRange k s.length)
 (iteP (decide (byteAt s k ≤ (57 : Int)))
 (I64 s (IntKind.i64.wrap (k + (1 : Int))) = I64 s (IntKind.i64.wrap (k + (1 : Int))) ∧
 N (IntKind.i64.wrap (k + (1 : Int))))
 (E64 k = E64 k ∧ X (Ex.exit (0 : Nat)) k))
 False)
 (E64 k = E64 k ∧ X (Ex.exit (0 : Nat)) k))
 False)
 (E64 k = E64 k ∧ X (Ex.exit (0 : Nat)) k)) :
 (fun (s : List UInt8) (k : Int) (N : Int → Prop) (X : Ex → Int → Prop) => wpRound tab0 Door.cfg Tryd.prog 40 64 3 (I64 s k) (fun τ => τ = I64 s (slI τ 3) ∧ N (slI τ 3)) (fun e τ => τ = E64 (slI τ 3) ∧ X e (slI τ 3))) s k N X :=
 Eq.mp (by kernel_rfl) h

theorem c64 (s : List UInt8) (K : AV → Prop) (h :
 loopAt Tryd.prog (64 : Nat) (3 : Nat) = loopAt Tryd.prog (64 : Nat) (3 : Nat) ∧
 (I64 s (0 : Int) = I64 s (0 : Int) ∧ (0 : Int) = (0 : Int) ∧ s.length ≤ (1000000 : Nat)) ∧
 ∀ (x : Int), x = (↑(digN s) : Int) → K (AV.sc (Value.int IntKind.i64 x))) :
 (fun (s : List UInt8) (K : AV → Prop) => wpCall N1 Door.cfg Tryd.prog 40 64 [aStr s] heapF fun r h' => wpBack h' r K) s K :=
 Eq.mp (by kernel_rfl) h

theorem c80 (s : List UInt8) (K : AV → Prop) (h :
 iteP (decide ((0 : Int) < (↑s.length : Int)))
 (iteP (inRange (0 : Int) s.length)
 (iteP (decide ((1 : Int) < (↑s.length : Int)))
 (iteP (inRange (1 : Int) s.length)
 (iteP (decide ((2 : Int) < (↑s.length : Int)))
 (iteP (inRange (2 : Int) s.length)
 (iteP (decide ((3 : Int) < (↑s.length : Int)))
 (iteP (inRange (3 : Int) s.length)
 (K
 (AV.sc
 (Value.int IntKind.i64
 (IntKind.i64.wrap
 (IntKind.i64.wrap
 (IntKind.i64.wrap
 (IntKind.i64.wrap
 (IntKind.i64.wrap
 (IntKind.i64.wrap
 (IntKind.i64.wrap
 ((0 : Int) +
 IntKind.i64.wrap
 (IntKind.u8.wrap (byteAt s (0 : Int) - (48 : Int)))) *
 (10 : Int)) +
 IntKind.i64.wrap (IntKind.u8.wrap (byteAt s (1 : Int) - (48 : Int)))) *
 (10 : Int)) +
 IntKind.i64.wrap (IntKind.u8.wrap (byteAt s (2 : Int) - (48 : Int)))) *
 (10 : Int)) +
 IntKind.i64.wrap (IntKind.u8.wrap (byteAt s (3 : Int) - (48 : Int))))))))
 False)
 (K
 (AV.sc
 (Value.int IntKind.i64
 (IntKind.i64.wrap
 (IntKind.i64.wrap
 (IntKind.i64.wrap
 (IntKind.i64.wrap
 (IntKind.i64.wrap
 (IntKind.i64.wrap
 ((0 : Int) +
 IntKind.i64.wrap (IntKind.u8.wrap (byteAt s (0 : Int) - (48 : Int)))) *
 (10 : Int)) +
 IntKind.i64.wrap (IntKind.u8.wrap (byteAt s (1 : Int) - (48 : Int)))) *
 (10 : Int)) +
 IntKind.i64.wrap (IntKind.u8.wrap (byteAt s (2 : Int) - (48 : Int)))) *
 (10 : Int)))))))
 False)
 (iteP (decide ((3 : Int) < (↑s.length : Int)))
 (iteP (inRange (3 : Int) s.length)
 (K
 (AV.sc
 (Value.int IntKind.i64
 (IntKind.i64.wrap
 (IntKind.i64.wrap
 (IntKind.i64.wrap
 (IntKind.i64.wrap
 (IntKind.i64.wrap
 (IntKind.i64.wrap
 ((0 : Int) +
 IntKind.i64.wrap (IntKind.u8.wrap (byteAt s (0 : Int) - (48 : Int)))) *
 (10 : Int)) +
 IntKind.i64.wrap (IntKind.u8.wrap (byteAt s (1 : Int) - (48 : Int)))) *
 (10 : Int)) *
 (10 : Int)) +
 IntKind.i64.wrap (IntKind.u8.wrap (byteAt s (3 : Int) - (48 : Int))))))))
 False)
 (K
 (AV.sc
 (Value.int IntKind.i64
 (IntKind.i64.wrap
 (IntKind.i64.wrap
 (IntKind.i64.wrap
 (IntKind.i64.wrap
 (IntKind.i64.wrap
 ((0 : Int) + IntKind.i64.wrap (IntKind.u8.wrap (byteAt s (0 : Int) - (48 : Int)))) *
 (10 : Int)) +
 IntKind.i64.wrap (IntKind.u8.wrap (byteAt s (1 : Int) - (48 : Int)))) *
 (10 : Int)) *
 (10 : Int))))))))
 False)
 (iteP (decide ((2 : Int) < (↑s.length : Int)))
 (iteP (inRange (2 : Int) s.length)
 (iteP (decide ((3 : Int) < (↑s.length : Int)))
 (iteP (inRange (3 : Int) s.length)
 (K
 (AV.sc
 (Value.int IntKind.i64
 (IntKind.i64.wrap
 (IntKind.i64.wrap
 (IntKind.i64.wrap
 (IntKind.i64.wrap
 (IntKind.i64.wrap
 (IntKind.i64.wrap
 ((0 : Int) +
 IntKind.i64.wrap (IntKind.u8.wrap (byteAt s (0 : Int) - (48 : Int)))) *
 (10 : Int)) *
 (10 : Int)) +
 IntKind.i64.wrap (IntKind.u8.wrap (byteAt s (2 : Int) - (48 : Int)))) *
 (10 : Int)) +
 IntKind.i64.wrap (IntKind.u8.wrap (byteAt s (3 : Int) - (48 : Int))))))))
 False)
 (K
 (AV.sc
 (Value.int IntKind.i64
 (IntKind.i64.wrap
 (IntKind.i64.wrap
 (IntKind.i64.wrap
 (IntKind.i64.wrap
 (IntKind.i64.wrap
 ((0 : Int) + IntKind.i64.wrap (IntKind.u8.wrap (byteAt s (0 : Int) - (48 : Int)))) *
 (10 : Int)) *
 (10 : Int)) +
 IntKind.i64.wrap (IntKind.u8.wrap (byteAt s (2 : Int) - (48 : Int)))) *
 (10 : Int)))))))
 False)
 (iteP (decide ((3 : Int) < (↑s.length : Int)))
 (iteP (inRange (3 : Int) s.length)
 (K
 (AV.sc
 (Value.int IntKind.i64
 (IntKind.i64.wrap
 (IntKind.i64.wrap
 (IntKind.i64.wrap
 (IntKind.i64.wrap
 (IntKind.i64.wrap
 ((0 : Int) + IntKind.i64.wrap (IntKind.u8.wrap (byteAt s (0 : Int) - (48 : Int)))) *
 (10 : Int)) *
 (10 : Int)) *
 (10 : Int)) +
 IntKind.i64.wrap (IntKind.u8.wrap (byteAt s (3 : Int) - (48 : Int))))))))
 False)
 (K
 (AV.sc
 (Value.int IntKind.i64
 (IntKind.i64.wrap
 (IntKind.i64.wrap
 (IntKind.i64.wrap
 (IntKind.i64.wrap
 ((0 : Int) + IntKind.i64.wrap (IntKind.u8.wrap (byteAt s (0 : Int) - (48 : Int)))) *
 (10 : Int)) *
 (10 : Int)) *
 (10 : Int)))))))))
 False)
 (iteP (decide ((1 : Int) < (↑s.length : Int)))
 (iteP (inRange (1 : Int) s.length)
 (iteP (decide ((2 : Int) < (↑s.length : Int)))
 (iteP (inRange (2 : Int) s.length)
 (iteP (decide ((3 : Int) < (↑s.length : Int)))
 (iteP (inRange (3 : Int) s.length)
 (K
 (AV.sc
 (Value.int IntKind.i64
 (IntKind.i64.wrap
 (IntKind.i64.wrap
 (IntKind.i64.wrap
 (IntKind.i64.wrap
 (IntKind.i64.wrap
 ((0 : Int) +
 IntKind.i64.wrap (IntKind.u8.wrap (byteAt s (1 : Int) - (48 : Int)))) *
 (10 : Int)) +
 IntKind.i64.wrap (IntKind.u8.wrap (byteAt s (2 : Int) - (48 : Int)))) *
 (10 : Int)) +
 IntKind.i64.wrap (IntKind.u8.wrap (byteAt s (3 : Int) - (48 : Int))))))))
 False)
 (K
 (AV.sc
 (Value.int IntKind.i64
 (IntKind.i64.wrap
 (IntKind.i64.wrap
 (IntKind.i64.wrap
 (IntKind.i64.wrap
 ((0 : Int) + IntKind.i64.wrap (IntKind.u8.wrap (byteAt s (1 : Int) - (48 : Int)))) *
 (10 : Int)) +
 IntKind.i64.wrap (IntKind.u8.wrap (byteAt s (2 : Int) - (48 : Int)))) *
 (10 : Int)))))))
 False)
 (iteP (decide ((3 : Int) < (↑s.length : Int)))
 (iteP (inRange (3 : Int) s.length)
 (K
 (AV.sc
 (Value.int IntKind.i64
 (IntKind.i64.wrap
 (IntKind.i64.wrap
 (IntKind.i64.wrap
 (IntKind.i64.wrap
 ((0 : Int) + IntKind.i64.wrap (IntKind.u8.wrap (byteAt s (1 : Int) - (48 : Int)))) *
 (10 : Int)) *
 (10 : Int)) +
 IntKind.i64.wrap (IntKind.u8.wrap (byteAt s (3 : Int) - (48 : Int))))))))
 False)
 (K
 (AV.sc
 (Value.int IntKind.i64
 (IntKind.i64.wrap
 (IntKind.i64.wrap
 (IntKind.i64.wrap
 ((0 : Int) + IntKind.i64.wrap (IntKind.u8.wrap (byteAt s (1 : Int) - (48 : Int)))) *
 (10 : Int)) *
 (10 : Int))))))))
 False)
 (iteP (decide ((2 : Int) < (↑s.length : Int)))
 (iteP (inRange (2 : Int) s.length)
 (iteP (decide ((3 : Int) < (↑s.length : Int)))
 (iteP (inRange (3 : Int) s.length)
 (K
 (AV.sc
 (Value.int IntKind.i64
 (IntKind.i64.wrap
 (IntKind.i64.wrap
 (IntKind.i64.wrap
 ((0 : Int) + IntKind.i64.wrap (IntKind.u8.wrap (byteAt s (2 : Int) - (48 : Int)))) *
 (10 : Int)) +
 IntKind.i64.wrap (IntKind.u8.wrap (byteAt s (3 : Int) - (48 : Int))))))))
 False)
 (K
 (AV.sc
 (Value.int IntKind.i64
 (IntKind.i64.wrap
 (IntKind.i64.wrap ((0 : Int) + IntKind.i64.wrap (IntKind.u8.wrap (byteAt s (2 : Int) - (48 : Int)))) *
 (10 : Int)))))))
 False)
 (iteP (decide ((3 : Int) < (↑s.length : Int)))
 (iteP (inRange (3 : Int) s.length)
 (K
 (AV.sc
 (Value.int IntKind.i64
 (IntKind.i64.wrap ((0 : Int) + IntKind.i64.wrap (IntKind.u8.wrap (byteAt s (3 : Int) - (48 : Int))))))))
 False)
 (K (AV.sc (Value.int IntKind.i64 (0 : Int)))))))) :
 (fun (s : List UInt8) (K : AV → Prop) => wpCall tab0 Door.cfg Tryd.prog 60 80 [aStr s] heapF fun r h' => wpBack h' r K) s K :=
 Eq.mp (by kernel_rfl) h

theorem v65 (s : List UInt8) (f : List UInt8) (d : Int) (n : Int) (k : Int) (N : Int → Int → Prop) (X : Int → Int → Prop) (E : Ex → Int → Prop) (h :
 iteP (decide (k < n))
 (iteP (inRange k s.length)
 (iteP
 (decide
 ((1000000000 : Int) <
 IntKind.i64.wrap
 (IntKind.i64.wrap ((10 : Int) * d) + IntKind.i64.wrap (IntKind.u8.wrap (byteAt s k - (48 : Int))))))
 (J65 f (10000000000001 : Int)
 (IntKind.i64.wrap
 (IntKind.i64.wrap ((10 : Int) * d) + IntKind.i64.wrap (IntKind.u8.wrap (byteAt s k - (48 : Int))))) =
 J65 f (10000000000001 : Int)
 (IntKind.i64.wrap
 (IntKind.i64.wrap ((10 : Int) * d) + IntKind.i64.wrap (IntKind.u8.wrap (byteAt s k - (48 : Int))))) ∧
 X (10000000000001 : Int)
 (IntKind.i64.wrap
 (IntKind.i64.wrap ((10 : Int) * d) + IntKind.i64.wrap (IntKind.u8.wrap (byteAt s k - (48 : Int))))))
 (I65 s f
 (IntKind.i64.wrap
 (IntKind.i64.wrap ((10 : Int) * d) + IntKind.i64.wrap (IntKind.u8.wrap (byteAt s k - (48 : Int)))))
 n (IntKind.i64.wrap (k + (1 : Int))) =
 I65 s f
 (IntKind.i64.wrap
 (IntKind.i64.wrap ((10 : Int) * d) + IntKind.i64.wrap (IntKind.u8.wrap (byteAt s k - (48 : Int)))))
 n (IntKind.i64.wrap (k + (1 : Int))) ∧
 N
 (IntKind.i64.wrap
 (IntKind.i64.wrap ((10 : Int) * d) + IntKind.i64.wrap (IntKind.u8.wrap (byteAt s k - (48 : Int)))))
 (IntKind.i64.wrap (k + (1 : Int)))))
 False)
 (E65 f d = E65 f d ∧ E (Ex.exit (0 : Nat)) d)) :
 (fun (s f : List UInt8) (d n k : Int) (N : Int → Int → Prop) (X : Int → Int → Prop) (E : Ex → Int → Prop) => wpRound tab0 Door.cfg Tryd.prog 40 65 4 (I65 s f d n k) (fun τ => τ = I65 s f (slI τ 5) n (slI τ 9) ∧ N (slI τ 5) (slI τ 9)) (fun e τ => match e with | .ret => τ = J65 f (slI τ 4) (slI τ 5) ∧ X (slI τ 4) (slI τ 5) | e => τ = E65 f (slI τ 5) ∧ E e (slI τ 5))) s f d n k N X E :=
 Eq.mp (by kernel_rfl) h

theorem c65 (s : List UInt8) (f : List UInt8) (K : AV → Prop) (h :
 loopAt Tryd.prog (65 : Nat) (4 : Nat) = loopAt Tryd.prog (65 : Nat) (4 : Nat) ∧
 (I65 s f (0 : Int) (↑s.length : Int) (0 : Int) = I65 s f (0 : Int) (↑s.length : Int) (0 : Int) ∧
 (0 : Int) = (0 : Int) ∧
 (0 : Int) = (0 : Int) ∧
 (↑s.length : Int) = (↑s.length : Int) ∧ s.length ≤ (1000000 : Nat) ∧ s.all isDig = true) ∧
 (∀ (x : Int),
 valL s (0 : Int) = some x →
 (f.length ≤ (1000000 : Nat) ∧ f.all isDig = true) ∧
 ∀ (x_1 : Int),
 x_1 = fracL f →
 K
 (AV.sc
 (Value.int IntKind.i64
 (min (10000000000001 : Int) (IntKind.i64.wrap (IntKind.i64.wrap (x * (10000 : Int)) + x_1)))))) ∧
 ∀ (_ : Int), valL s (0 : Int) = none → K (AV.sc (Value.int IntKind.i64 (10000000000001 : Int)))) :
 (fun (s f : List UInt8) (K : AV → Prop) => wpCall N2 Door.cfg Tryd.prog 40 65 [aStr s, aStr f] heapF fun r h' => wpBack h' r K) s f K :=
 Eq.mp (by kernel_rfl) h

theorem v50 (s : List UInt8) (k : Int) (N : Int → Prop) (X : Ex → Int → Prop) (h :
 iteP (decide (k < (↑s.length : Int)))
 (iteP (inRange k s.length)
 (iteP (byteAt s k == (32 : Int))
 (I50 s (IntKind.i64.wrap (k + (1 : Int))) = I50 s (IntKind.i64.wrap (k + (1 : Int))) ∧
 N (IntKind.i64.wrap (k + (1 : Int))))
 (iteP (inRange k s.length)
 (iteP (byteAt s k == (9 : Int))
 (I50 s (IntKind.i64.wrap (k + (1 : Int))) = I50 s (IntKind.i64.wrap (k + (1 : Int))) ∧
 N (IntKind.i64.wrap (k + (1 : Int))))
 (I50 s k = I50 s k ∧ X (Ex.exit (0 : Nat)) k))
 False))
 False)
 (I50 s k = I50 s k ∧ X (Ex.exit (0 : Nat)) k)) :
 (fun (s : List UInt8) (k : Int) (N : Int → Prop) (X : Ex → Int → Prop) => wpRound tab0 Door.cfg Tryd.prog 40 50 3 (I50 s k) (fun τ => τ = I50 s (slI τ 4) ∧ N (slI τ 4)) (fun e τ => τ = I50 s (slI τ 4) ∧ X e (slI τ 4))) s k N X :=
 Eq.mp (by kernel_rfl) h

theorem c37 (k : Int) (n : Int) (s : List UInt8) (K : AV → Prop) (h :
 iteP (k == (2 : Int))
 (s.length.le (1000000 : Nat) ∧ ∀ (x : Int × Int), x.fst = prefixD s → K (AV.sc (Value.int IntKind.i64 x.fst)))
 (iteP (k == (1 : Int))
 (K (AV.sc (Value.int IntKind.i64 (min (max n (-10000000000000 : Int)) (10000000000000 : Int)))))
 (iteP (k == (3 : Int))
 (K (AV.sc (Value.int IntKind.i64 (min (max n (-10000000000000 : Int)) (10000000000000 : Int)))))
 (K (AV.sc (Value.int IntKind.i64 (0 : Int))))))) :
 (fun (k n : Int) (s : List UInt8) (K : AV → Prop) => wpCall N4 Door.cfg Tryd.prog 40 37 [.agg [aK .i64 k, aK .i64 n, aStr s]] heapF fun r h' => wpBack h' r K) k n s K :=
 Eq.mp (by kernel_rfl) h

theorem c38 (d : Int) (K : AV → Prop) (h :
 K
 (AV.sc
 (Value.int IntKind.i64
 (IntKind.i64.wrap ((max (-10000000000000 : Int) (min (10000000000000 : Int) d)).tdiv (10000 : Int)))))) :
 (fun (d : Int) (K : AV → Prop) => wpCall tab0 Door.cfg Tryd.prog 40 38 [aK .i64 d] heapF fun r h' => wpBack h' r K) d K :=
 Eq.mp (by kernel_rfl) h

end
end Go.Proofs.Pr

/- Printf: digits, fractions, values. -/
namespace Go.Proofs.Pr
open Go Go.Ef
noncomputable section
set_option maxRecDepth 100000

theorem isDig_iff (c : UInt8) : (isDig c = true) = (48 ≤ (c.toNat : Int) ∧ (c.toNat : Int) ≤ 57) := by simp [isDig]
theorem useK {K : AV → Prop} {a b : Int} (hk : K (AV.sc (.int .i64 b))) (e : a = b) : K (AV.sc (.int .i64 a)) := e ▸ hk

theorem can64 (s : List UInt8) (n : Int) : (I64 s n).tidy [0, 3] 0 = I64 s n := by kernel_rfl
theorem can50 (s : List UInt8) (n : Int) : (I50 s n).tidy [0, 4] 0 = I50 s n := by kernel_rfl
theorem can65 (w f : List UInt8) (d n i : Int) : (I65 w f d n i).tidy [0, 1, 5, 8, 9] 0 = I65 w f d n i := by kernel_rfl

theorem takeWhile_step {p : UInt8 → Bool} {l : List UInt8} {c : UInt8} {r : List UInt8} (h : l = c :: r) : (l.takeWhile p).length = if p c then (r.takeWhile p).length + 1 else 0 := by
  subst h
  rw [List.takeWhile_cons]
  split <;> rfl

theorem loop64 (s : List UInt8) (hs : s.length ≤ 1000000) : Ev Door.cfg Tryd.prog 64 (.loop (loopAt Tryd.prog 64 3)) (I64 s 0) fun e τ => τ = E64 (slI τ 3) ∧ e = .exit 0 ∧ slI τ 3 = digN s := by
  refine loop_rd (C := Door.cfg) (P := Tryd.prog) tab0_ok (f := 64) (i := 3) (n := 40) (fun x : Int => I64 s x) (fun τ => slI τ 3) (fun x => 0 ≤ x ∧ x ≤ s.length ∧ (digN s : Int) = x + digN (s.drop x.toNat)) (fun x => s.length - x.toNat) (by kernel_rfl)
    (fun x t ht => ?_) (fun x hx => ?_) 0 ⟨Int.le_refl _, by omega, by simp⟩
  · replace ht : Door.tidy 64 3 = some t := ht
    cases ht
    exact can64 s x
  · obtain ⟨q1, q2, q3⟩ := hx
    refine v64 s x (fun y => (0 ≤ y ∧ y ≤ s.length ∧ (digN s : Int) = y + digN (s.drop y.toNat)) ∧ s.length - y.toNat < s.length - x.toNat) (fun e v => e = .exit 0 ∧ v = digN s) ?_
    rcases hr : s.drop x.toNat with _ | ⟨c, r⟩
    · have := drop_end hr
      rw [show decide (x < (s.length : Int)) = false by simp; omega, iteP_f]
      refine ⟨rfl, rfl, ?_⟩
      rw [q3, hr]; simp [digN]
    · obtain ⟨e1, e2, e3⟩ := byteAt_drop hr
      have hj : IntKind.i64.wrap (x + 1) = x + 1 := wrap_in (by omega) (by omega)
      have hd : digN (s.drop x.toNat) = if isDig c then digN r + 1 else 0 := takeWhile_step hr
      rw [show decide (x < (s.length : Int)) = true by simp; omega, iteP_t, show inRange x s.length = true by rw [inRange_iff]; omega, iteP_t, iteP_t, e1, hj]
      have stop : isDig c = false → (E64 x = E64 x ∧ Ex.exit 0 = Ex.exit 0 ∧ x = digN s) := by
        intro hc
        rw [hc] at hd
        refine ⟨rfl, rfl, ?_⟩
        rw [q3, hd]; simp
      by_cases h1 : (48 : Int) ≤ c.toNat
      · rw [decide_eq_true h1, iteP_t]
        by_cases h2 : (c.toNat : Int) ≤ 57
        · rw [decide_eq_true h2, iteP_t]
          have hc : isDig c = true := by rw [isDig_iff]; exact ⟨h1, h2⟩
          rw [hc] at hd
          refine ⟨rfl, ⟨by omega, by omega, ?_⟩, by omega⟩
          rw [q3, hd, toNat_succ q1, e3]
          simp; omega
        · rw [decide_eq_false h2, iteP_f]
          exact stop (by rw [Bool.eq_false_iff, Ne, isDig_iff]; omega)
      · rw [decide_eq_false h1, iteP_f]
        exact stop (by rw [Bool.eq_false_iff, Ne, isDig_iff]; omega)
theorem loop50 (s : List UInt8) (hs : s.length ≤ 1000000) : Ev Door.cfg Tryd.prog 50 (.loop (loopAt Tryd.prog 50 3)) (I50 s 0) fun e τ => τ = I50 s (slI τ 4) ∧ e = .exit 0 ∧ slI τ 4 = blankN s := by
  refine loop_rd (C := Door.cfg) (P := Tryd.prog) tab0_ok (f := 50) (i := 3) (n := 40) (fun x : Int => I50 s x) (fun τ => slI τ 4) (fun x => 0 ≤ x ∧ x ≤ s.length ∧ (blankN s : Int) = x + blankN (s.drop x.toNat)) (fun x => s.length - x.toNat) (by kernel_rfl)
    (fun x t ht => ?_) (fun x hx => ?_) 0 ⟨Int.le_refl _, by omega, by simp⟩
  · replace ht : Door.tidy 50 3 = some t := ht
    cases ht
    exact can50 s x
  · obtain ⟨q1, q2, q3⟩ := hx
    refine v50 s x (fun y => (0 ≤ y ∧ y ≤ s.length ∧ (blankN s : Int) = y + blankN (s.drop y.toNat)) ∧ s.length - y.toNat < s.length - x.toNat) (fun e v => e = .exit 0 ∧ v = blankN s) ?_
    rcases hr : s.drop x.toNat with _ | ⟨c, r⟩
    · have := drop_end hr
      rw [show decide (x < (s.length : Int)) = false by simp; omega, iteP_f]
      refine ⟨rfl, rfl, ?_⟩
      rw [q3, hr]; simp [blankN]
    · obtain ⟨e1, e2, e3⟩ := byteAt_drop hr
      have hj : IntKind.i64.wrap (x + 1) = x + 1 := wrap_in (by omega) (by omega)
      have hd : blankN (s.drop x.toNat) = if isBlank c then blankN r + 1 else 0 := takeWhile_step hr
      rw [show decide (x < (s.length : Int)) = true by simp; omega, iteP_t, show inRange x s.length = true by rw [inRange_iff]; omega, iteP_t, iteP_t, e1, hj]
      rw [show ((c.toNat : Int) == 32) = (c == 32) from beq_byte c 32 (by decide), show ((c.toNat : Int) == 9) = (c == 9) from beq_byte c 9 (by decide)]
      have go : isBlank c = true → (I50 s (x + 1) = I50 s (x + 1) ∧ (0 ≤ x + 1 ∧ x + 1 ≤ s.length ∧ (blankN s : Int) = x + 1 + blankN (s.drop (x + 1).toNat)) ∧ s.length - (x + 1).toNat < s.length - x.toNat) := by
        intro hc
        rw [hc] at hd
        refine ⟨rfl, ⟨by omega, by omega, ?_⟩, by omega⟩
        rw [q3, hd, toNat_succ q1, e3]
        simp; omega
      cases h1 : c == 32 with
      | true => rw [iteP_t]; exact go (by unfold isBlank; rw [h1]; rfl)
      | false =>
        rw [iteP_f]
        cases h2 : c == 9 with
        | true => rw [iteP_t]; exact go (by unfold isBlank; rw [h1, h2]; rfl)
        | false =>
          rw [iteP_f]
          have hc : isBlank c = false := by unfold isBlank; rw [h1, h2]; rfl
          rw [hc] at hd
          refine ⟨rfl, rfl, ?_⟩
          rw [q3, hd]; simp

theorem okN1 : TabOk Tryd.prog Door.cfg N1 := by
  refine addL_ok tab0_ok fun σ s hs hp => ?_
  unfold L64 at hs
  split at hs
  · rename_i s0 k _ _
    refine lspec_ok (Option.some.inj hs) (fun hpre => ?_) hp
    obtain ⟨e, h1, h5⟩ := hpre
    refine Ev.tidied (t := ⟨[0, 3], [3], 0⟩) (τ := I64 s0.data.toList 0) (by kernel_rfl) (by rw [e, h1]; exact (can64 _ _).symm) ?_
    exact (loop64 _ h5).mono fun ex τ h => ⟨slI τ 3, h.2.2, h.2.1, h.1⟩
  · cases hs
theorem ok64 {T : Tab} (O : TabOk Tryd.prog Door.cfg T) : TabOk Tryd.prog Door.cfg (T.addC 64 C64) := by
  refine addC_ok O fun args h s hs hp => ?_
  unfold C64 at hs
  split at hs
  · rename_i s0
    obtain ⟨⟨u⟩⟩ := s0
    refine nspec_ok (Option.some.inj hs) (fun hpre => ?_) hp
    replace hpre : u.length ≤ 1000000 := hpre
    exact EvP.freshV okN1 (n := 40) (by kernel_rfl) (by kernel_rfl) (args' := [aStr u]) rfl (c64 u _ ⟨rfl, ⟨rfl, rfl, hpre⟩, fun x hx => by subst hx; rfl⟩)
  · cases hs

theorem digAt_cons {f : List UInt8} (h : f.all isDig = true) (k : Nat) : 0 ≤ digAt f k ∧ digAt f k ≤ 9 := by
  unfold digAt
  split
  · rename_i c hc
    have := List.all_eq_true.1 h c (List.mem_of_getElem? hc)
    rw [isDig_iff] at this
    omega
  · omega
theorem frac_ok (s : List UInt8) (hd : s.all isDig = true) (K : AV → Prop) (hk : K (AV.sc (.int .i64 (fracL s)))) : wpCall tab0 Door.cfg Tryd.prog 60 80 [aStr s] heapF fun r h' => wpBack h' r K := by
  refine c80 s K ?_
  have b : ∀ k : Nat, k < s.length → IntKind.i64.wrap (IntKind.u8.wrap (byteAt s (k : Int) - 48)) = digAt s k := by
    intro k hk
    have h1 := List.all_eq_true.1 hd s[k] (List.getElem_mem hk)
    rw [isDig_iff] at h1
    have e1 : byteAt s (k : Int) = s[k].toNat := by unfold byteAt; rw [Int.toNat_natCast, List.getElem?_eq_getElem hk]; rfl
    have e2 : digAt s k = (s[k].toNat : Int) - 48 := by unfold digAt; rw [List.getElem?_eq_getElem hk]
    rw [e1, e2, wrap8_in (by omega) (by omega), wrap_in (by omega) (by omega)]
  have z : ∀ k : Nat, s.length ≤ k → digAt s k = 0 := by
    intro k hk
    unfold digAt
    rw [List.getElem?_eq_none hk]
  have d0 := digAt_cons hd 0
  have d1 := digAt_cons hd 1
  have d2 := digAt_cons hd 2
  have d3 := digAt_cons hd 3
  have lt : ∀ k : Nat, k < s.length → decide ((k : Int) < (s.length : Int)) = true := fun k hk => by simp; omega
  have ge : ∀ k : Nat, s.length ≤ k → decide ((k : Int) < (s.length : Int)) = false := fun k hk => by simp; omega
  have ir : ∀ k : Nat, k < s.length → inRange (k : Int) s.length = true := fun k hk => by rw [inRange_iff]; omega
  unfold fracL at hk
  have b0 := b 0; have b1 := b 1; have b2 := b 2; have b3 := b 3
  have l0 := lt 0; have l1 := lt 1; have l2 := lt 2; have l3 := lt 3
  have g0 := ge 0; have g1 := ge 1; have g2 := ge 2; have g3 := ge 3
  have i0 := ir 0; have i1 := ir 1; have i2 := ir 2; have i3 := ir 3
  have z0 := z 0; have z1 := z 1; have z2 := z 2; have z3 := z 3
  simp only [Int.cast_ofNat_Int] at b0 b1 b2 b3 l0 l1 l2 l3 g0 g1 g2 g3 i0 i1 i2 i3
  rcases Nat.lt_or_ge 3 s.length with h | h
  · have m0 := l0 (by omega); have j0 := i0 (by omega); have c0 := b0 (by omega)
    have m1 := l1 (by omega); have j1 := i1 (by omega); have c1 := b1 (by omega)
    have m2 := l2 (by omega); have j2 := i2 (by omega); have c2 := b2 (by omega)
    have m3 := l3 (by omega); have j3 := i3 (by omega); have c3 := b3 (by omega)
    simp only [m0, m1, m2, m3, j0, c0, j1, c1, j2, c2, j3, c3, iteP_t]
    refine useK hk ?_
    simp (disch := omega) only [wrap_in]
    omega
  rcases Nat.lt_or_ge 2 s.length with h' | h'
  · have m0 := l0 (by omega); have j0 := i0 (by omega); have c0 := b0 (by omega)
    have m1 := l1 (by omega); have j1 := i1 (by omega); have c1 := b1 (by omega)
    have m2 := l2 (by omega); have j2 := i2 (by omega); have c2 := b2 (by omega)
    have m3 := g3 (by omega); have y3 := z3 (by omega)
    simp only [m0, m1, m2, m3, j0, c0, j1, c1, j2, c2, iteP_t, iteP_f]
    refine useK hk ?_
    simp (disch := omega) only [wrap_in]
    omega
  rcases Nat.lt_or_ge 1 s.length with h'' | h''
  · have m0 := l0 (by omega); have j0 := i0 (by omega); have c0 := b0 (by omega)
    have m1 := l1 (by omega); have j1 := i1 (by omega); have c1 := b1 (by omega)
    have m2 := g2 (by omega); have y2 := z2 (by omega)
    have m3 := g3 (by omega); have y3 := z3 (by omega)
    simp only [m0, m1, m2, m3, j0, c0, j1, c1, iteP_t, iteP_f]
    refine useK hk ?_
    simp (disch := omega) only [wrap_in]
    omega
  rcases Nat.lt_or_ge 0 s.length with h3 | h3
  · have m0 := l0 (by omega); have j0 := i0 (by omega); have c0 := b0 (by omega)
    have m1 := g1 (by omega); have y1 := z1 (by omega)
    have m2 := g2 (by omega); have y2 := z2 (by omega)
    have m3 := g3 (by omega); have y3 := z3 (by omega)
    simp only [m0, m1, m2, m3, j0, c0, iteP_t, iteP_f]
    refine useK hk ?_
    simp (disch := omega) only [wrap_in]
    omega
  have m0 := g0 (by omega); have y0 := z0 (by omega)
  have m1 := g1 (by omega); have y1 := z1 (by omega)
  have m2 := g2 (by omega); have y2 := z2 (by omega)
  have m3 := g3 (by omega); have y3 := z3 (by omega)
  simp only [m0, m1, m2, m3, iteP_f]
  refine useK hk ?_
  omega

theorem ok80 {T : Tab} (O : TabOk Tryd.prog Door.cfg T) : TabOk Tryd.prog Door.cfg (T.addC 80 C80) := by
  refine addC_ok O fun args h s hs hp => ?_
  unfold C80 at hs
  split at hs
  · rename_i s0
    obtain ⟨⟨u⟩⟩ := s0
    refine nspec_ok (Option.some.inj hs) (fun hpre => ?_) hp
    exact EvP.freshV tab0_ok (n := 60) (by kernel_rfl) (by kernel_rfl) (args' := [aStr u]) rfl (frac_ok u hpre.2 _ rfl)
  · cases hs

theorem valL_le : ∀ (w : List UInt8) (d x : Int), w.all isDig = true → 0 ≤ d → d ≤ 1000000000 → valL w d = some x → 0 ≤ x ∧ x ≤ 1000000000 := by
  intro w
  induction w with
  | nil => intro d x _ h1 h2 h; cases h; exact ⟨h1, h2⟩
  | cons c r ih =>
    intro d x hd h1 h2 h
    rw [List.all_cons, Bool.and_eq_true, isDig_iff] at hd
    unfold valL at h
    split at h
    · cases h
    · exact ih _ x hd.2 (by omega) (by omega) h
theorem loop65 (s f : List UInt8) (hs : s.length ≤ 1000000) (hd : s.all isDig = true) : Ev Door.cfg Tryd.prog 65 (.loop (loopAt Tryd.prog 65 4)) (I65 s f 0 s.length 0) fun e τ => (∃ d, valL s 0 = some d ∧ e = .exit 0 ∧ τ = E65 f d) ∨ (∃ d, valL s 0 = none ∧ e = .ret ∧ τ = J65 f 10000000000001 d) := by
  have main := loop_rd (C := Door.cfg) (P := Tryd.prog) tab0_ok (f := 65) (i := 4) (n := 40) (fun x : Int × Int => I65 s f x.1 s.length x.2) (fun τ => (slI τ 5, slI τ 9)) (fun x => 0 ≤ x.2 ∧ x.2 ≤ s.length ∧ 0 ≤ x.1 ∧ x.1 ≤ 1000000000 ∧ valL s 0 = valL (s.drop x.2.toNat) x.1) (fun x => s.length - x.2.toNat)
    (K := fun e τ => match e with
      | .ret => τ = J65 f (slI τ 4) (slI τ 5) ∧ (slI τ 4 = 10000000000001 ∧ valL s 0 = none)
      | e => τ = E65 f (slI τ 5) ∧ (e = .exit 0 ∧ valL s 0 = some (slI τ 5))) (by kernel_rfl)
    (fun x t ht => ?_) (fun x hx => ?_) (0, 0) ⟨Int.le_refl _, by omega, Int.le_refl _, by omega, rfl⟩
  · refine main.mono fun e τ h => ?_
    cases e with
    | ret => exact .inr ⟨slI τ 5, h.2.2, rfl, by rw [← h.2.1]; exact h.1⟩
    | normal => cases h.2.1
    | exit j => exact .inl ⟨slI τ 5, h.2.2, h.2.1, h.1⟩
  · replace ht : Door.tidy 65 4 = some t := ht
    cases ht
    exact can65 s f x.1 s.length x.2
  · obtain ⟨d, x⟩ := x
    obtain ⟨q1, q2, q4, q5, q3⟩ := hx
    replace q1 : 0 ≤ x := q1
    replace q2 : x ≤ s.length := q2
    replace q4 : 0 ≤ d := q4
    replace q5 : d ≤ 1000000000 := q5
    replace q3 : valL s 0 = valL (s.drop x.toNat) d := q3
    refine v65 s f d s.length x (fun e y => (0 ≤ y ∧ y ≤ s.length ∧ 0 ≤ e ∧ e ≤ 1000000000 ∧ valL s 0 = valL (s.drop y.toNat) e) ∧ s.length - y.toNat < s.length - x.toNat) (fun r _ => r = 10000000000001 ∧ valL s 0 = none) (fun e v => e = .exit 0 ∧ valL s 0 = some v) ?_
    rcases hr : s.drop x.toNat with _ | ⟨c, r⟩
    · have := drop_end hr
      rw [show decide (x < (s.length : Int)) = false by simp; omega, iteP_f]
      refine ⟨rfl, rfl, ?_⟩
      rw [q3, hr]; rfl
    · obtain ⟨e1, e2, e3⟩ := byteAt_drop hr
      have hj : IntKind.i64.wrap (x + 1) = x + 1 := wrap_in (by omega) (by omega)
      have hc : isDig c = true := by
        have h1 : c ∈ s.drop x.toNat := by rw [hr]; simp
        exact List.all_eq_true.1 hd c (List.mem_of_mem_drop h1)
      rw [isDig_iff] at hc
      have w1 : IntKind.i64.wrap (IntKind.i64.wrap (10 * d) + IntKind.i64.wrap (IntKind.u8.wrap ((c.toNat : Int) - 48))) = 10 * d + ((c.toNat : Int) - 48) := by
        rw [wrap8_in (by omega) (by omega)]
        simp (disch := omega) only [wrap_in]
      have hv : valL (s.drop x.toNat) d = if 10 * d + ((c.toNat : Int) - 48) > 1000000000 then none else valL r (10 * d + ((c.toNat : Int) - 48)) := by rw [hr]; rfl
      rw [show decide (x < (s.length : Int)) = true by simp; omega, iteP_t, show inRange x s.length = true by rw [inRange_iff]; omega, iteP_t, e1, hj, w1]
      by_cases h1 : (1000000000 : Int) < 10 * d + ((c.toNat : Int) - 48)
      · rw [decide_eq_true h1, iteP_t]
        rw [if_pos h1] at hv
        exact ⟨rfl, rfl, by rw [q3, hv]⟩
      · rw [decide_eq_false h1, iteP_f]
        rw [if_neg h1] at hv
        refine ⟨rfl, ⟨by omega, by omega, by omega, by omega, ?_⟩, by omega⟩
        rw [q3, hv, toNat_succ q1, e3]

theorem okN2 : TabOk Tryd.prog Door.cfg N2 := by
  refine addL_ok (ok80 (ok64 tab0_ok)) fun σ s hs hp => ?_
  unfold L65 at hs
  split at hs
  · rename_i s0 f0 d n k _ _ _ _ _
    cases Option.some.inj hs
    obtain ⟨e, h1, h2, h3, h4, h5⟩ := hp
    have := Ev.tidied (C := Door.cfg) (P := Tryd.prog) (b := loopAt Tryd.prog 65 4) (f := 65) (σ := σ) (t := ⟨[0, 1, 5, 8, 9], [1, 4, 5], 0⟩) (τ := I65 s0.data.toList f0.data.toList 0 s0.data.toList.length 0) (by kernel_rfl) (by rw [e, h1, h2, h3]; exact (can65 _ _ _ _ _).symm) (loop65 s0.data.toList f0.data.toList h4 h5)
    obtain ⟨m, ex, τ, g2, g3⟩ := this
    rcases g3 with ⟨d', q1, rfl, rfl⟩ | ⟨d', q1, rfl, rfl⟩
    · exact ⟨_, .head _, d', q1, m, g2⟩
    · exact ⟨_, .tail _ (.head _), d', q1, m, g2⟩
  · cases hs
theorem frac_le {f : List UInt8} (h : f.all isDig = true) : 0 ≤ fracL f ∧ fracL f ≤ 9999 := by
  have d0 := digAt_cons h 0
  have d1 := digAt_cons h 1
  have d2 := digAt_cons h 2
  have d3 := digAt_cons h 3
  unfold fracL
  omega
theorem ok65 {T : Tab} (O : TabOk Tryd.prog Door.cfg T) : TabOk Tryd.prog Door.cfg (T.addC 65 C65) := by
  refine addC_ok O fun args h s hs hp => ?_
  unfold C65 at hs
  split at hs
  · rename_i s0 f0
    obtain ⟨⟨u⟩⟩ := s0
    obtain ⟨⟨f⟩⟩ := f0
    refine nspec_ok (Option.some.inj hs) (fun hpre => ?_) hp
    obtain ⟨p1, p2, p3, p4⟩ := hpre
    refine EvP.freshV okN2 (n := 40) (by kernel_rfl) (by kernel_rfl) (args' := [aStr u, aStr f]) rfl (c65 u f _ ⟨rfl, ⟨rfl, rfl, rfl, rfl, p1, p2⟩, fun x hx => ⟨⟨p3, p4⟩, fun y hy => ?_⟩, fun x hx => ?_⟩)
    · have b1 := valL_le u 0 x p2 (by omega) (by omega) hx
      have b2 := frac_le (f := f) p4
      show AV.sc (.int .i64 (min 10000000000001 _)) = aK .i64 (valueF u f)
      unfold valueF
      rw [hx, hy, wrap_in (x := x * 10000) (by omega) (by omega), wrap_in (by omega) (by omega)]
      rfl
    · show _ = aK .i64 (valueF u f)
      unfold valueF
      rw [hx]; rfl
  · cases hs
theorem value_le (u f : List UInt8) (h1 : u.all isDig = true) (h2 : f.all isDig = true) : 0 ≤ valueF u f ∧ valueF u f ≤ 10000000000001 := by
  unfold valueF
  split
  · omega
  · rename_i d hd
    have b1 := valL_le u 0 d h1 (by omega) (by omega) hd
    have b2 := frac_le h2
    omega
end
end Go.Proofs.Pr

/- Printf: condition of Prefix, printed by a program from the evaluation. -/
namespace Go.Proofs.Pr
open Go Go.Ef
noncomputable section
set_option maxRecDepth 100000

theorem c50 (s : List UInt8) (K : Int → Prop) (h :
 loopAt Tryd.prog (50 : Nat) (3 : Nat) = loopAt Tryd.prog (50 : Nat) (3 : Nat) ∧
 (I50 s (0 : Int) = I50 s (0 : Int) ∧ (0 : Int) = (0 : Int) ∧ s.length ≤ (1000000 : Nat)) ∧
 ∀ (x : Int),
 x = (↑(blankN s) : Int) →
 iteP (decide (x < (↑s.length : Int)))
 (iteP (inRange x s.length)
 (iteP (byteAt s x == (45 : Int))
 (∀ (m : Int),
 m = IntKind.i64.wrap (x + (1 : Int)) →
 iteP (decide ((0 : Int) ≤ m) && decide (m ≤ (↑s.length : Int)))
 (∀ (l : List UInt8),
 l = List.drop m.toNat s →
 l.length.le (1000000 : Nat) ∧
 ∀ (x : Int),
 x = (↑(digN l) : Int) →
 iteP
 (decide ((0 : Int) ≤ m) &&
 (decide (m ≤ IntKind.i64.wrap (m + x)) &&
 decide (IntKind.i64.wrap (m + x) ≤ (↑s.length : Int))))
 (∀ (l : List UInt8),
 l = cutL s m (IntKind.i64.wrap (m + x)) →
 ∀ (m_1 : Int),
 m_1 = IntKind.i64.wrap (m + x) →
 iteP (decide (m_1 < (↑s.length : Int)))
 (iteP (inRange m_1 s.length)
 (iteP (byteAt s m_1 == (46 : Int))
 (∀ (m : Int),
 m = IntKind.i64.wrap (m_1 + (1 : Int)) →
 iteP (decide ((0 : Int) ≤ m) && decide (m ≤ (↑s.length : Int)))
 (∀ (l_1 : List UInt8),
 l_1 = List.drop m.toNat s →
 l_1.length.le (1000000 : Nat) ∧
 ∀ (x_1 : Int),
 x_1 = (↑(digN l_1) : Int) →
 iteP (decide ((0 : Int) < x))
 (∀ (m : Int),
 m = IntKind.i64.wrap (m_1 + (1 : Int)) →
 ∀ (m_2 : Int),
 m_2 = IntKind.i64.wrap (m_1 + (1 : Int)) →
 ∀ (m_3 : Int),
 m_3 = IntKind.i64.wrap (m_2 + x_1) →
 iteP
 (decide ((0 : Int) ≤ m) &&
 (decide (m ≤ m_3) &&
 decide (m_3 ≤ (↑s.length : Int))))
 (∀ (l_2 : List UInt8),
 l_2 = cutL s m m_3 →
 iteP (x == (0 : Int))
 (iteP (decide (l_2 = []))
 (K (0 : Int))
 ((l.length ≤ (1000000 : Nat) ∧
 l.all isDig = true ∧
 l_2.length ≤
 (1000000 : Nat) ∧
 l_2.all isDig = true) ∧
 ∀ (x : Int),
 x = valueF l l_2 →
 K
 (IntKind.i64.wrap
 ((0 : Int) -
 min
 (10000000000000 :
 Int)
 x))))
 ((l.length ≤ (1000000 : Nat) ∧
 l.all isDig = true ∧
 l_2.length ≤ (1000000 : Nat) ∧
 l_2.all isDig = true) ∧
 ∀ (x : Int),
 x = valueF l l_2 →
 K
 (IntKind.i64.wrap
 ((0 : Int) -
 min
 (10000000000000 : Int)
 x))))
 False)
 (iteP (decide ((0 : Int) < x_1))
 (∀ (m : Int),
 m = IntKind.i64.wrap (m_1 + (1 : Int)) →
 ∀ (m_2 : Int),
 m_2 = IntKind.i64.wrap (m_1 + (1 : Int)) →
 ∀ (m_3 : Int),
 m_3 = IntKind.i64.wrap (m_2 + x_1) →
 iteP
 (decide ((0 : Int) ≤ m) &&
 (decide (m ≤ m_3) &&
 decide (m_3 ≤ (↑s.length : Int))))
 (∀ (l_2 : List UInt8),
 l_2 = cutL s m m_3 →
 iteP (x == (0 : Int))
 (iteP (decide (l_2 = []))
 (K (0 : Int))
 ((l.length ≤ (1000000 : Nat) ∧
 l.all isDig = true ∧
 l_2.length ≤
 (1000000 : Nat) ∧
 l_2.all isDig = true) ∧
 ∀ (x : Int),
 x = valueF l l_2 →
 K
 (IntKind.i64.wrap
 ((0 : Int) -
 min
 (10000000000000 :
 Int)
 x))))
 ((l.length ≤ (1000000 : Nat) ∧
 l.all isDig = true ∧
 l_2.length ≤
 (1000000 : Nat) ∧
 l_2.all isDig = true) ∧
 ∀ (x : Int),
 x = valueF l l_2 →
 K
 (IntKind.i64.wrap
 ((0 : Int) -
 min
 (10000000000000 :
 Int)
 x))))
 False)
 (iteP (x == (0 : Int)) (K (0 : Int))
 ((l.length ≤ (1000000 : Nat) ∧
 l.all isDig = true ∧
 (0 : Nat) ≤ (1000000 : Nat) ∧ true = true) ∧
 ∀ (x : Int),
 x = valueF l [] →
 K
 (IntKind.i64.wrap
 ((0 : Int) -
 min (10000000000000 : Int) x))))))
 False)
 (iteP (x == (0 : Int)) (K (0 : Int))
 ((l.length ≤ (1000000 : Nat) ∧
 l.all isDig = true ∧ (0 : Nat) ≤ (1000000 : Nat) ∧ true = true) ∧
 ∀ (x : Int),
 x = valueF l [] →
 K (IntKind.i64.wrap ((0 : Int) - min (10000000000000 : Int) x)))))
 False)
 (iteP (x == (0 : Int)) (K (0 : Int))
 ((l.length ≤ (1000000 : Nat) ∧
 l.all isDig = true ∧ (0 : Nat) ≤ (1000000 : Nat) ∧ true = true) ∧
 ∀ (x : Int),
 x = valueF l [] →
 K (IntKind.i64.wrap ((0 : Int) - min (10000000000000 : Int) x)))))
 False)
 False)
 (iteP (decide (x < (↑s.length : Int)))
 (iteP (inRange x s.length)
 (iteP (byteAt s x == (43 : Int))
 (∀ (m : Int),
 m = IntKind.i64.wrap (x + (1 : Int)) →
 iteP (decide ((0 : Int) ≤ m) && decide (m ≤ (↑s.length : Int)))
 (∀ (l : List UInt8),
 l = List.drop m.toNat s →
 l.length.le (1000000 : Nat) ∧
 ∀ (x : Int),
 x = (↑(digN l) : Int) →
 iteP
 (decide ((0 : Int) ≤ m) &&
 (decide (m ≤ IntKind.i64.wrap (m + x)) &&
 decide (IntKind.i64.wrap (m + x) ≤ (↑s.length : Int))))
 (∀ (l : List UInt8),
 l = cutL s m (IntKind.i64.wrap (m + x)) →
 ∀ (m_1 : Int),
 m_1 = IntKind.i64.wrap (m + x) →
 iteP (decide (m_1 < (↑s.length : Int)))
 (iteP (inRange m_1 s.length)
 (iteP (byteAt s m_1 == (46 : Int))
 (∀ (m : Int),
 m = IntKind.i64.wrap (m_1 + (1 : Int)) →
 iteP (decide ((0 : Int) ≤ m) && decide (m ≤ (↑s.length : Int)))
 (∀ (l_1 : List UInt8),
 l_1 = List.drop m.toNat s →
 l_1.length.le (1000000 : Nat) ∧
 ∀ (x_1 : Int),
 x_1 = (↑(digN l_1) : Int) →
 iteP (decide ((0 : Int) < x))
 (∀ (m : Int),
 m = IntKind.i64.wrap (m_1 + (1 : Int)) →
 ∀ (m_2 : Int),
 m_2 = IntKind.i64.wrap (m_1 + (1 : Int)) →
 ∀ (m_3 : Int),
 m_3 = IntKind.i64.wrap (m_2 + x_1) →
 iteP
 (decide ((0 : Int) ≤ m) &&
 (decide (m ≤ m_3) &&
 decide
 (m_3 ≤ (↑s.length : Int))))
 (∀ (l_2 : List UInt8),
 l_2 = cutL s m m_3 →
 iteP (x == (0 : Int))
 (iteP (decide (l_2 = []))
 (K (0 : Int))
 ((l.length ≤
 (1000000 : Nat) ∧
 l.all isDig = true ∧
 l_2.length ≤
 (1000000 : Nat) ∧
 l_2.all isDig =
 true) ∧
 ∀ (x : Int),
 x = valueF l l_2 →
 K
 (min
 (10000000000000 :
 Int)
 x)))
 ((l.length ≤ (1000000 : Nat) ∧
 l.all isDig = true ∧
 l_2.length ≤
 (1000000 : Nat) ∧
 l_2.all isDig =
 true) ∧
 ∀ (x : Int),
 x = valueF l l_2 →
 K
 (min
 (10000000000000 :
 Int)
 x)))
 False)
 (iteP (decide ((0 : Int) < x_1))
 (∀ (m : Int),
 m = IntKind.i64.wrap (m_1 + (1 : Int)) →
 ∀ (m_2 : Int),
 m_2 = IntKind.i64.wrap (m_1 + (1 : Int)) →
 ∀ (m_3 : Int),
 m_3 = IntKind.i64.wrap (m_2 + x_1) →
 iteP
 (decide ((0 : Int) ≤ m) &&
 (decide (m ≤ m_3) &&
 decide
 (m_3 ≤ (↑s.length : Int))))
 (∀ (l_2 : List UInt8),
 l_2 = cutL s m m_3 →
 iteP (x == (0 : Int))
 (iteP (decide (l_2 = []))
 (K (0 : Int))
 ((l.length ≤
 (1000000 : Nat) ∧
 l.all isDig = true ∧
 l_2.length ≤
 (1000000 :
 Nat) ∧
 l_2.all isDig =
 true) ∧
 ∀ (x : Int),
 x = valueF l l_2 →
 K
 (min
 (10000000000000 :
 Int)
 x)))
 ((l.length ≤
 (1000000 : Nat) ∧
 l.all isDig = true ∧
 l_2.length ≤
 (1000000 : Nat) ∧
 l_2.all isDig =
 true) ∧
 ∀ (x : Int),
 x = valueF l l_2 →
 K
 (min
 (10000000000000 :
 Int)
 x)))
 False)
 (iteP (x == (0 : Int)) (K (0 : Int))
 ((l.length ≤ (1000000 : Nat) ∧
 l.all isDig = true ∧
 (0 : Nat) ≤ (1000000 : Nat) ∧
 true = true) ∧
 ∀ (x : Int),
 x = valueF l [] →
 K (min (10000000000000 : Int) x)))))
 False)
 (iteP (x == (0 : Int)) (K (0 : Int))
 ((l.length ≤ (1000000 : Nat) ∧
 l.all isDig = true ∧
 (0 : Nat) ≤ (1000000 : Nat) ∧ true = true) ∧
 ∀ (x : Int),
 x = valueF l [] → K (min (10000000000000 : Int) x))))
 False)
 (iteP (x == (0 : Int)) (K (0 : Int))
 ((l.length ≤ (1000000 : Nat) ∧
 l.all isDig = true ∧ (0 : Nat) ≤ (1000000 : Nat) ∧ true = true) ∧
 ∀ (x : Int), x = valueF l [] → K (min (10000000000000 : Int) x))))
 False)
 False)
 (iteP (decide ((0 : Int) ≤ x) && decide (x ≤ (↑s.length : Int)))
 (∀ (l : List UInt8),
 l = List.drop x.toNat s →
 l.length.le (1000000 : Nat) ∧
 ∀ (x_1 : Int),
 x_1 = (↑(digN l) : Int) →
 iteP
 (decide ((0 : Int) ≤ x) &&
 (decide (x ≤ IntKind.i64.wrap (x + x_1)) &&
 decide (IntKind.i64.wrap (x + x_1) ≤ (↑s.length : Int))))
 (∀ (l : List UInt8),
 l = cutL s x (IntKind.i64.wrap (x + x_1)) →
 ∀ (m : Int),
 m = IntKind.i64.wrap (x + x_1) →
 iteP (decide (m < (↑s.length : Int)))
 (iteP (inRange m s.length)
 (iteP (byteAt s m == (46 : Int))
 (∀ (m_1 : Int),
 m_1 = IntKind.i64.wrap (m + (1 : Int)) →
 iteP (decide ((0 : Int) ≤ m_1) && decide (m_1 ≤ (↑s.length : Int)))
 (∀ (l_1 : List UInt8),
 l_1 = List.drop m_1.toNat s →
 l_1.length.le (1000000 : Nat) ∧
 ∀ (x : Int),
 x = (↑(digN l_1) : Int) →
 iteP (decide ((0 : Int) < x_1))
 (∀ (m_2 : Int),
 m_2 = IntKind.i64.wrap (m + (1 : Int)) →
 ∀ (m_3 : Int),
 m_3 = IntKind.i64.wrap (m + (1 : Int)) →
 ∀ (m : Int),
 m = IntKind.i64.wrap (m_3 + x) →
 iteP
 (decide ((0 : Int) ≤ m_2) &&
 (decide (m_2 ≤ m) &&
 decide (m ≤ (↑s.length : Int))))
 (∀ (l_2 : List UInt8),
 l_2 = cutL s m_2 m →
 iteP (x_1 == (0 : Int))
 (iteP (decide (l_2 = []))
 (K (0 : Int))
 ((l.length ≤ (1000000 : Nat) ∧
 l.all isDig = true ∧
 l_2.length ≤
 (1000000 : Nat) ∧
 l_2.all isDig = true) ∧
 ∀ (x : Int),
 x = valueF l l_2 →
 K
 (min
 (10000000000000 : Int)
 x)))
 ((l.length ≤ (1000000 : Nat) ∧
 l.all isDig = true ∧
 l_2.length ≤
 (1000000 : Nat) ∧
 l_2.all isDig = true) ∧
 ∀ (x : Int),
 x = valueF l l_2 →
 K
 (min
 (10000000000000 : Int)
 x)))
 False)
 (iteP (decide ((0 : Int) < x))
 (∀ (m_2 : Int),
 m_2 = IntKind.i64.wrap (m + (1 : Int)) →
 ∀ (m_3 : Int),
 m_3 = IntKind.i64.wrap (m + (1 : Int)) →
 ∀ (m : Int),
 m = IntKind.i64.wrap (m_3 + x) →
 iteP
 (decide ((0 : Int) ≤ m_2) &&
 (decide (m_2 ≤ m) &&
 decide (m ≤ (↑s.length : Int))))
 (∀ (l_2 : List UInt8),
 l_2 = cutL s m_2 m →
 iteP (x_1 == (0 : Int))
 (iteP (decide (l_2 = []))
 (K (0 : Int))
 ((l.length ≤ (1000000 : Nat) ∧
 l.all isDig = true ∧
 l_2.length ≤
 (1000000 : Nat) ∧
 l_2.all isDig =
 true) ∧
 ∀ (x : Int),
 x = valueF l l_2 →
 K
 (min
 (10000000000000 :
 Int)
 x)))
 ((l.length ≤ (1000000 : Nat) ∧
 l.all isDig = true ∧
 l_2.length ≤
 (1000000 : Nat) ∧
 l_2.all isDig = true) ∧
 ∀ (x : Int),
 x = valueF l l_2 →
 K
 (min
 (10000000000000 : Int)
 x)))
 False)
 (iteP (x_1 == (0 : Int)) (K (0 : Int))
 ((l.length ≤ (1000000 : Nat) ∧
 l.all isDig = true ∧
 (0 : Nat) ≤ (1000000 : Nat) ∧ true = true) ∧
 ∀ (x : Int),
 x = valueF l [] →
 K (min (10000000000000 : Int) x)))))
 False)
 (iteP (x_1 == (0 : Int)) (K (0 : Int))
 ((l.length ≤ (1000000 : Nat) ∧
 l.all isDig = true ∧ (0 : Nat) ≤ (1000000 : Nat) ∧ true = true) ∧
 ∀ (x : Int), x = valueF l [] → K (min (10000000000000 : Int) x))))
 False)
 (iteP (x_1 == (0 : Int)) (K (0 : Int))
 ((l.length ≤ (1000000 : Nat) ∧
 l.all isDig = true ∧ (0 : Nat) ≤ (1000000 : Nat) ∧ true = true) ∧
 ∀ (x : Int), x = valueF l [] → K (min (10000000000000 : Int) x))))
 False)
 False))
 False)
 (iteP (decide ((0 : Int) ≤ x) && decide (x ≤ (↑s.length : Int)))
 (∀ (l : List UInt8),
 l = List.drop x.toNat s →
 l.length.le (1000000 : Nat) ∧
 ∀ (x_1 : Int),
 x_1 = (↑(digN l) : Int) →
 iteP
 (decide ((0 : Int) ≤ x) &&
 (decide (x ≤ IntKind.i64.wrap (x + x_1)) &&
 decide (IntKind.i64.wrap (x + x_1) ≤ (↑s.length : Int))))
 (∀ (l : List UInt8),
 l = cutL s x (IntKind.i64.wrap (x + x_1)) →
 ∀ (m : Int),
 m = IntKind.i64.wrap (x + x_1) →
 iteP (decide (m < (↑s.length : Int)))
 (iteP (inRange m s.length)
 (iteP (byteAt s m == (46 : Int))
 (∀ (m_1 : Int),
 m_1 = IntKind.i64.wrap (m + (1 : Int)) →
 iteP (decide ((0 : Int) ≤ m_1) && decide (m_1 ≤ (↑s.length : Int)))
 (∀ (l_1 : List UInt8),
 l_1 = List.drop m_1.toNat s →
 l_1.length.le (1000000 : Nat) ∧
 ∀ (x : Int),
 x = (↑(digN l_1) : Int) →
 iteP (decide ((0 : Int) < x_1))
 (∀ (m_2 : Int),
 m_2 = IntKind.i64.wrap (m + (1 : Int)) →
 ∀ (m_3 : Int),
 m_3 = IntKind.i64.wrap (m + (1 : Int)) →
 ∀ (m : Int),
 m = IntKind.i64.wrap (m_3 + x) →
 iteP
 (decide ((0 : Int) ≤ m_2) &&
 (decide (m_2 ≤ m) &&
 decide (m ≤ (↑s.length : Int))))
 (∀ (l_2 : List UInt8),
 l_2 = cutL s m_2 m →
 iteP (x_1 == (0 : Int))
 (iteP (decide (l_2 = []))
 (K (0 : Int))
 ((l.length ≤ (1000000 : Nat) ∧
 l.all isDig = true ∧
 l_2.length ≤ (1000000 : Nat) ∧
 l_2.all isDig = true) ∧
 ∀ (x : Int),
 x = valueF l l_2 →
 K
 (min (10000000000000 : Int)
 x)))
 ((l.length ≤ (1000000 : Nat) ∧
 l.all isDig = true ∧
 l_2.length ≤ (1000000 : Nat) ∧
 l_2.all isDig = true) ∧
 ∀ (x : Int),
 x = valueF l l_2 →
 K
 (min (10000000000000 : Int)
 x)))
 False)
 (iteP (decide ((0 : Int) < x))
 (∀ (m_2 : Int),
 m_2 = IntKind.i64.wrap (m + (1 : Int)) →
 ∀ (m_3 : Int),
 m_3 = IntKind.i64.wrap (m + (1 : Int)) →
 ∀ (m : Int),
 m = IntKind.i64.wrap (m_3 + x) →
 iteP
 (decide ((0 : Int) ≤ m_2) &&
 (decide (m_2 ≤ m) &&
 decide (m ≤ (↑s.length : Int))))
 (∀ (l_2 : List UInt8),
 l_2 = cutL s m_2 m →
 iteP (x_1 == (0 : Int))
 (iteP (decide (l_2 = []))
 (K (0 : Int))
 ((l.length ≤ (1000000 : Nat) ∧
 l.all isDig = true ∧
 l_2.length ≤
 (1000000 : Nat) ∧
 l_2.all isDig = true) ∧
 ∀ (x : Int),
 x = valueF l l_2 →
 K
 (min
 (10000000000000 : Int)
 x)))
 ((l.length ≤ (1000000 : Nat) ∧
 l.all isDig = true ∧
 l_2.length ≤ (1000000 : Nat) ∧
 l_2.all isDig = true) ∧
 ∀ (x : Int),
 x = valueF l l_2 →
 K
 (min (10000000000000 : Int)
 x)))
 False)
 (iteP (x_1 == (0 : Int)) (K (0 : Int))
 ((l.length ≤ (1000000 : Nat) ∧
 l.all isDig = true ∧
 (0 : Nat) ≤ (1000000 : Nat) ∧ true = true) ∧
 ∀ (x : Int),
 x = valueF l [] →
 K (min (10000000000000 : Int) x)))))
 False)
 (iteP (x_1 == (0 : Int)) (K (0 : Int))
 ((l.length ≤ (1000000 : Nat) ∧
 l.all isDig = true ∧ (0 : Nat) ≤ (1000000 : Nat) ∧ true = true) ∧
 ∀ (x : Int), x = valueF l [] → K (min (10000000000000 : Int) x))))
 False)
 (iteP (x_1 == (0 : Int)) (K (0 : Int))
 ((l.length ≤ (1000000 : Nat) ∧
 l.all isDig = true ∧ (0 : Nat) ≤ (1000000 : Nat) ∧ true = true) ∧
 ∀ (x : Int), x = valueF l [] → K (min (10000000000000 : Int) x))))
 False)
 False)))
 False)
 (iteP (decide (x < (↑s.length : Int)))
 (iteP (inRange x s.length)
 (iteP (byteAt s x == (43 : Int))
 (∀ (m : Int),
 m = IntKind.i64.wrap (x + (1 : Int)) →
 iteP (decide ((0 : Int) ≤ m) && decide (m ≤ (↑s.length : Int)))
 (∀ (l : List UInt8),
 l = List.drop m.toNat s →
 l.length.le (1000000 : Nat) ∧
 ∀ (x : Int),
 x = (↑(digN l) : Int) →
 iteP
 (decide ((0 : Int) ≤ m) &&
 (decide (m ≤ IntKind.i64.wrap (m + x)) &&
 decide (IntKind.i64.wrap (m + x) ≤ (↑s.length : Int))))
 (∀ (l : List UInt8),
 l = cutL s m (IntKind.i64.wrap (m + x)) →
 ∀ (m_1 : Int),
 m_1 = IntKind.i64.wrap (m + x) →
 iteP (decide (m_1 < (↑s.length : Int)))
 (iteP (inRange m_1 s.length)
 (iteP (byteAt s m_1 == (46 : Int))
 (∀ (m : Int),
 m = IntKind.i64.wrap (m_1 + (1 : Int)) →
 iteP (decide ((0 : Int) ≤ m) && decide (m ≤ (↑s.length : Int)))
 (∀ (l_1 : List UInt8),
 l_1 = List.drop m.toNat s →
 l_1.length.le (1000000 : Nat) ∧
 ∀ (x_1 : Int),
 x_1 = (↑(digN l_1) : Int) →
 iteP (decide ((0 : Int) < x))
 (∀ (m : Int),
 m = IntKind.i64.wrap (m_1 + (1 : Int)) →
 ∀ (m_2 : Int),
 m_2 = IntKind.i64.wrap (m_1 + (1 : Int)) →
 ∀ (m_3 : Int),
 m_3 = IntKind.i64.wrap (m_2 + x_1) →
 iteP
 (decide ((0 : Int) ≤ m) &&
 (decide (m ≤ m_3) &&
 decide (m_3 ≤ (↑s.length : Int))))
 (∀ (l_2 : List UInt8),
 l_2 = cutL s m m_3 →
 iteP (x == (0 : Int))
 (iteP (decide (l_2 = []))
 (K (0 : Int))
 ((l.length ≤ (1000000 : Nat) ∧
 l.all isDig = true ∧
 l_2.length ≤
 (1000000 : Nat) ∧
 l_2.all isDig = true) ∧
 ∀ (x : Int),
 x = valueF l l_2 →
 K
 (min
 (10000000000000 : Int)
 x)))
 ((l.length ≤ (1000000 : Nat) ∧
 l.all isDig = true ∧
 l_2.length ≤
 (1000000 : Nat) ∧
 l_2.all isDig = true) ∧
 ∀ (x : Int),
 x = valueF l l_2 →
 K
 (min
 (10000000000000 : Int)
 x)))
 False)
 (iteP (decide ((0 : Int) < x_1))
 (∀ (m : Int),
 m = IntKind.i64.wrap (m_1 + (1 : Int)) →
 ∀ (m_2 : Int),
 m_2 = IntKind.i64.wrap (m_1 + (1 : Int)) →
 ∀ (m_3 : Int),
 m_3 = IntKind.i64.wrap (m_2 + x_1) →
 iteP
 (decide ((0 : Int) ≤ m) &&
 (decide (m ≤ m_3) &&
 decide (m_3 ≤ (↑s.length : Int))))
 (∀ (l_2 : List UInt8),
 l_2 = cutL s m m_3 →
 iteP (x == (0 : Int))
 (iteP (decide (l_2 = []))
 (K (0 : Int))
 ((l.length ≤ (1000000 : Nat) ∧
 l.all isDig = true ∧
 l_2.length ≤
 (1000000 : Nat) ∧
 l_2.all isDig =
 true) ∧
 ∀ (x : Int),
 x = valueF l l_2 →
 K
 (min
 (10000000000000 :
 Int)
 x)))
 ((l.length ≤ (1000000 : Nat) ∧
 l.all isDig = true ∧
 l_2.length ≤
 (1000000 : Nat) ∧
 l_2.all isDig = true) ∧
 ∀ (x : Int),
 x = valueF l l_2 →
 K
 (min
 (10000000000000 : Int)
 x)))
 False)
 (iteP (x == (0 : Int)) (K (0 : Int))
 ((l.length ≤ (1000000 : Nat) ∧
 l.all isDig = true ∧
 (0 : Nat) ≤ (1000000 : Nat) ∧ true = true) ∧
 ∀ (x : Int),
 x = valueF l [] →
 K (min (10000000000000 : Int) x)))))
 False)
 (iteP (x == (0 : Int)) (K (0 : Int))
 ((l.length ≤ (1000000 : Nat) ∧
 l.all isDig = true ∧ (0 : Nat) ≤ (1000000 : Nat) ∧ true = true) ∧
 ∀ (x : Int), x = valueF l [] → K (min (10000000000000 : Int) x))))
 False)
 (iteP (x == (0 : Int)) (K (0 : Int))
 ((l.length ≤ (1000000 : Nat) ∧
 l.all isDig = true ∧ (0 : Nat) ≤ (1000000 : Nat) ∧ true = true) ∧
 ∀ (x : Int), x = valueF l [] → K (min (10000000000000 : Int) x))))
 False)
 False)
 (iteP (decide ((0 : Int) ≤ x) && decide (x ≤ (↑s.length : Int)))
 (∀ (l : List UInt8),
 l = List.drop x.toNat s →
 l.length.le (1000000 : Nat) ∧
 ∀ (x_1 : Int),
 x_1 = (↑(digN l) : Int) →
 iteP
 (decide ((0 : Int) ≤ x) &&
 (decide (x ≤ IntKind.i64.wrap (x + x_1)) &&
 decide (IntKind.i64.wrap (x + x_1) ≤ (↑s.length : Int))))
 (∀ (l : List UInt8),
 l = cutL s x (IntKind.i64.wrap (x + x_1)) →
 ∀ (m : Int),
 m = IntKind.i64.wrap (x + x_1) →
 iteP (decide (m < (↑s.length : Int)))
 (iteP (inRange m s.length)
 (iteP (byteAt s m == (46 : Int))
 (∀ (m_1 : Int),
 m_1 = IntKind.i64.wrap (m + (1 : Int)) →
 iteP (decide ((0 : Int) ≤ m_1) && decide (m_1 ≤ (↑s.length : Int)))
 (∀ (l_1 : List UInt8),
 l_1 = List.drop m_1.toNat s →
 l_1.length.le (1000000 : Nat) ∧
 ∀ (x : Int),
 x = (↑(digN l_1) : Int) →
 iteP (decide ((0 : Int) < x_1))
 (∀ (m_2 : Int),
 m_2 = IntKind.i64.wrap (m + (1 : Int)) →
 ∀ (m_3 : Int),
 m_3 = IntKind.i64.wrap (m + (1 : Int)) →
 ∀ (m : Int),
 m = IntKind.i64.wrap (m_3 + x) →
 iteP
 (decide ((0 : Int) ≤ m_2) &&
 (decide (m_2 ≤ m) &&
 decide (m ≤ (↑s.length : Int))))
 (∀ (l_2 : List UInt8),
 l_2 = cutL s m_2 m →
 iteP (x_1 == (0 : Int))
 (iteP (decide (l_2 = []))
 (K (0 : Int))
 ((l.length ≤ (1000000 : Nat) ∧
 l.all isDig = true ∧
 l_2.length ≤ (1000000 : Nat) ∧
 l_2.all isDig = true) ∧
 ∀ (x : Int),
 x = valueF l l_2 →
 K
 (min (10000000000000 : Int)
 x)))
 ((l.length ≤ (1000000 : Nat) ∧
 l.all isDig = true ∧
 l_2.length ≤ (1000000 : Nat) ∧
 l_2.all isDig = true) ∧
 ∀ (x : Int),
 x = valueF l l_2 →
 K
 (min (10000000000000 : Int)
 x)))
 False)
 (iteP (decide ((0 : Int) < x))
 (∀ (m_2 : Int),
 m_2 = IntKind.i64.wrap (m + (1 : Int)) →
 ∀ (m_3 : Int),
 m_3 = IntKind.i64.wrap (m + (1 : Int)) →
 ∀ (m : Int),
 m = IntKind.i64.wrap (m_3 + x) →
 iteP
 (decide ((0 : Int) ≤ m_2) &&
 (decide (m_2 ≤ m) &&
 decide (m ≤ (↑s.length : Int))))
 (∀ (l_2 : List UInt8),
 l_2 = cutL s m_2 m →
 iteP (x_1 == (0 : Int))
 (iteP (decide (l_2 = []))
 (K (0 : Int))
 ((l.length ≤ (1000000 : Nat) ∧
 l.all isDig = true ∧
 l_2.length ≤
 (1000000 : Nat) ∧
 l_2.all isDig = true) ∧
 ∀ (x : Int),
 x = valueF l l_2 →
 K
 (min
 (10000000000000 : Int)
 x)))
 ((l.length ≤ (1000000 : Nat) ∧
 l.all isDig = true ∧
 l_2.length ≤ (1000000 : Nat) ∧
 l_2.all isDig = true) ∧
 ∀ (x : Int),
 x = valueF l l_2 →
 K
 (min (10000000000000 : Int)
 x)))
 False)
 (iteP (x_1 == (0 : Int)) (K (0 : Int))
 ((l.length ≤ (1000000 : Nat) ∧
 l.all isDig = true ∧
 (0 : Nat) ≤ (1000000 : Nat) ∧ true = true) ∧
 ∀ (x : Int),
 x = valueF l [] →
 K (min (10000000000000 : Int) x)))))
 False)
 (iteP (x_1 == (0 : Int)) (K (0 : Int))
 ((l.length ≤ (1000000 : Nat) ∧
 l.all isDig = true ∧ (0 : Nat) ≤ (1000000 : Nat) ∧ true = true) ∧
 ∀ (x : Int), x = valueF l [] → K (min (10000000000000 : Int) x))))
 False)
 (iteP (x_1 == (0 : Int)) (K (0 : Int))
 ((l.length ≤ (1000000 : Nat) ∧
 l.all isDig = true ∧ (0 : Nat) ≤ (1000000 : Nat) ∧ true = true) ∧
 ∀ (x : Int), x = valueF l [] → K (min (10000000000000 : Int) x))))
 False)
 False))
 False)
 (iteP (decide ((0 : Int) ≤ x) && decide (x ≤ (↑s.length : Int)))
 (∀ (l : List UInt8),
 l = List.drop x.toNat s →
 l.length.le (1000000 : Nat) ∧
 ∀ (x_1 : Int),
 x_1 = (↑(digN l) : Int) →
 iteP
 (decide ((0 : Int) ≤ x) &&
 (decide (x ≤ IntKind.i64.wrap (x + x_1)) &&
 decide (IntKind.i64.wrap (x + x_1) ≤ (↑s.length : Int))))
 (∀ (l : List UInt8),
 l = cutL s x (IntKind.i64.wrap (x + x_1)) →
 ∀ (m : Int),
 m = IntKind.i64.wrap (x + x_1) →
 iteP (decide (m < (↑s.length : Int)))
 (iteP (inRange m s.length)
 (iteP (byteAt s m == (46 : Int))
 (∀ (m_1 : Int),
 m_1 = IntKind.i64.wrap (m + (1 : Int)) →
 iteP (decide ((0 : Int) ≤ m_1) && decide (m_1 ≤ (↑s.length : Int)))
 (∀ (l_1 : List UInt8),
 l_1 = List.drop m_1.toNat s →
 l_1.length.le (1000000 : Nat) ∧
 ∀ (x : Int),
 x = (↑(digN l_1) : Int) →
 iteP (decide ((0 : Int) < x_1))
 (∀ (m_2 : Int),
 m_2 = IntKind.i64.wrap (m + (1 : Int)) →
 ∀ (m_3 : Int),
 m_3 = IntKind.i64.wrap (m + (1 : Int)) →
 ∀ (m : Int),
 m = IntKind.i64.wrap (m_3 + x) →
 iteP
 (decide ((0 : Int) ≤ m_2) &&
 (decide (m_2 ≤ m) &&
 decide (m ≤ (↑s.length : Int))))
 (∀ (l_2 : List UInt8),
 l_2 = cutL s m_2 m →
 iteP (x_1 == (0 : Int))
 (iteP (decide (l_2 = [])) (K (0 : Int))
 ((l.length ≤ (1000000 : Nat) ∧
 l.all isDig = true ∧
 l_2.length ≤ (1000000 : Nat) ∧
 l_2.all isDig = true) ∧
 ∀ (x : Int),
 x = valueF l l_2 →
 K (min (10000000000000 : Int) x)))
 ((l.length ≤ (1000000 : Nat) ∧
 l.all isDig = true ∧
 l_2.length ≤ (1000000 : Nat) ∧
 l_2.all isDig = true) ∧
 ∀ (x : Int),
 x = valueF l l_2 →
 K (min (10000000000000 : Int) x)))
 False)
 (iteP (decide ((0 : Int) < x))
 (∀ (m_2 : Int),
 m_2 = IntKind.i64.wrap (m + (1 : Int)) →
 ∀ (m_3 : Int),
 m_3 = IntKind.i64.wrap (m + (1 : Int)) →
 ∀ (m : Int),
 m = IntKind.i64.wrap (m_3 + x) →
 iteP
 (decide ((0 : Int) ≤ m_2) &&
 (decide (m_2 ≤ m) &&
 decide (m ≤ (↑s.length : Int))))
 (∀ (l_2 : List UInt8),
 l_2 = cutL s m_2 m →
 iteP (x_1 == (0 : Int))
 (iteP (decide (l_2 = [])) (K (0 : Int))
 ((l.length ≤ (1000000 : Nat) ∧
 l.all isDig = true ∧
 l_2.length ≤ (1000000 : Nat) ∧
 l_2.all isDig = true) ∧
 ∀ (x : Int),
 x = valueF l l_2 →
 K
 (min (10000000000000 : Int)
 x)))
 ((l.length ≤ (1000000 : Nat) ∧
 l.all isDig = true ∧
 l_2.length ≤ (1000000 : Nat) ∧
 l_2.all isDig = true) ∧
 ∀ (x : Int),
 x = valueF l l_2 →
 K (min (10000000000000 : Int) x)))
 False)
 (iteP (x_1 == (0 : Int)) (K (0 : Int))
 ((l.length ≤ (1000000 : Nat) ∧
 l.all isDig = true ∧
 (0 : Nat) ≤ (1000000 : Nat) ∧ true = true) ∧
 ∀ (x : Int),
 x = valueF l [] → K (min (10000000000000 : Int) x)))))
 False)
 (iteP (x_1 == (0 : Int)) (K (0 : Int))
 ((l.length ≤ (1000000 : Nat) ∧
 l.all isDig = true ∧ (0 : Nat) ≤ (1000000 : Nat) ∧ true = true) ∧
 ∀ (x : Int), x = valueF l [] → K (min (10000000000000 : Int) x))))
 False)
 (iteP (x_1 == (0 : Int)) (K (0 : Int))
 ((l.length ≤ (1000000 : Nat) ∧
 l.all isDig = true ∧ (0 : Nat) ≤ (1000000 : Nat) ∧ true = true) ∧
 ∀ (x : Int), x = valueF l [] → K (min (10000000000000 : Int) x))))
 False)
 False))) :
 (fun (s : List UInt8) (K : Int → Prop) => wpCall N3 Door.cfg Tryd.prog 40 50 [aStr s] heapF fun r h' => wpBack h' r fun v => match v with | .tup [.sc (.int .i64 a), .sc (.int .i64 _)] => K a | _ => False) s K :=
 Eq.mp (by kernel_rfl) h

end
end Go.Proofs.Pr

/- Printf: the number at the beginning of a string. -/
namespace Go.Proofs.Pr
open Go Go.Ef
noncomputable section
set_option maxRecDepth 100000

theorem take_cut (s : List UInt8) (m n : Nat) : cutL s (m : Int) ((m : Int) + n) = (s.drop m).take n := by
  unfold cutL
  rw [show ((m : Int) + n).toNat = m + n by omega, Int.toNat_natCast, List.drop_take]
  congr 1
  omega
theorem take_takeWhile {p : UInt8 → Bool} (l : List UInt8) : l.take (l.takeWhile p).length = l.takeWhile p := by
  induction l with
  | nil => rfl
  | cons c r ih =>
    rw [List.takeWhile_cons]
    split
    · simp [ih]
    · rfl
theorem drop_takeWhile {p : UInt8 → Bool} (l : List UInt8) : l.drop (l.takeWhile p).length = l.dropWhile p := by
  induction l with
  | nil => rfl
  | cons c r ih =>
    rw [List.takeWhile_cons, List.dropWhile_cons]
    split
    · simp [ih]
    · rfl
theorem take_digN (u : List UInt8) : (u.take (digN u)).all isDig = true := by
  unfold digN
  rw [take_takeWhile]
  exact List.all_takeWhile
theorem digN_le (u : List UInt8) : digN u ≤ u.length := (List.takeWhile_sublist _).length_le

section
variable (s l : List UInt8) (K K' : Int → Prop)
def endP (f : List UInt8) (x : Int) : Prop :=
  iteP (x == 0) (iteP (decide (f = [])) (K 0) ((l.length ≤ 1000000 ∧ l.all isDig = true ∧ f.length ≤ 1000000 ∧ f.all isDig = true) ∧ ∀ x : Int, x = valueF l f → K' (min 10000000000000 x)))
    ((l.length ≤ 1000000 ∧ l.all isDig = true ∧ f.length ≤ 1000000 ∧ f.all isDig = true) ∧ ∀ x : Int, x = valueF l f → K' (min 10000000000000 x))
def zeroP (x : Int) : Prop := iteP (x == 0) (K 0) ((l.length ≤ 1000000 ∧ l.all isDig = true ∧ 0 ≤ 1000000 ∧ true = true) ∧ ∀ x : Int, x = valueF l [] → K' (min 10000000000000 x))
def cutP (m1 x x1 : Int) : Prop :=
  ∀ m : Int, m = IntKind.i64.wrap (m1 + 1) → ∀ m2 : Int, m2 = IntKind.i64.wrap (m1 + 1) → ∀ m3 : Int, m3 = IntKind.i64.wrap (m2 + x1) →
    iteP (decide (0 ≤ m) && (decide (m ≤ m3) && decide (m3 ≤ (s.length : Int)))) (∀ f : List UInt8, f = cutL s m m3 → endP l K K' f x) False
end
def restP (s l : List UInt8) (K K' : Int → Prop) (m1 x : Int) : Prop :=
  iteP (decide (m1 < (s.length : Int))) (iteP (inRange m1 s.length) (iteP (byteAt s m1 == 46)
    (∀ m : Int, m = IntKind.i64.wrap (m1 + 1) → iteP (decide (0 ≤ m) && decide (m ≤ (s.length : Int))) (∀ l1 : List UInt8, l1 = List.drop m.toNat s → l1.length ≤ 1000000 ∧ ∀ x1 : Int, x1 = (digN l1 : Int) →
      iteP (decide (0 < x)) (cutP s l K K' m1 x x1) (iteP (decide (0 < x1)) (cutP s l K K' m1 x x1) (zeroP l K K' x))) False)
    (zeroP l K K' x)) False) (zeroP l K K' x)
def tailP (s : List UInt8) (K K' : Int → Prop) (m : Int) : Prop :=
  iteP (decide (0 ≤ m) && decide (m ≤ (s.length : Int))) (∀ l : List UInt8, l = List.drop m.toNat s → l.length ≤ 1000000 ∧ ∀ x : Int, x = (digN l : Int) →
    iteP (decide (0 ≤ m) && (decide (m ≤ IntKind.i64.wrap (m + x)) && decide (IntKind.i64.wrap (m + x) ≤ (s.length : Int))))
      (∀ l : List UInt8, l = cutL s m (IntKind.i64.wrap (m + x)) → ∀ m1 : Int, m1 = IntKind.i64.wrap (m + x) → restP s l K K' m1 x) False) False

theorem tail_ok (s : List UInt8) (K K' : Int → Prop) (m : Nat) (hs : s.length ≤ 1000000) (hm : m ≤ s.length)
    (h0 : digN (s.drop m) = 0 → fracPart ((s.drop m).drop (digN (s.drop m))) = [] → K 0)
    (h1 : ¬ (digN (s.drop m) = 0 ∧ fracPart ((s.drop m).drop (digN (s.drop m))) = []) → K' (min 10000000000000 (valueF ((s.drop m).take (digN (s.drop m))) (fracPart ((s.drop m).drop (digN (s.drop m))))))) : tailP s K K' (m : Int) := by
  unfold tailP
  rw [show (decide (0 ≤ (m : Int)) && decide ((m : Int) ≤ (s.length : Int))) = true by simp; omega, iteP_t]
  intro l hl
  rw [Int.toNat_natCast] at hl
  rw [← hl] at h0 h1
  have hll : l.length = s.length - m := by rw [hl, List.length_drop]
  refine ⟨by omega, fun x hx => ?_⟩
  have hn := digN_le l
  have hw : IntKind.i64.wrap ((m : Int) + x) = (m : Int) + (digN l : Int) := by rw [hx, wrap_in (by omega) (by omega)]
  rw [hw, show (decide (0 ≤ (m : Int)) && (decide ((m : Int) ≤ (m : Int) + (digN l : Int)) && decide ((m : Int) + (digN l : Int) ≤ (s.length : Int)))) = true by simp; omega, iteP_t]
  intro w hw2 m1 hm1
  rw [take_cut, ← hl] at hw2
  have hd : (l.drop (digN l)) = s.drop (m + digN l) := by rw [hl, List.drop_drop]
  generalize hn' : digN l = n at *
  have hwd : w.all isDig = true := by rw [hw2, ← hn']; exact take_digN l
  have hwl : w.length ≤ 1000000 := by rw [hw2, List.length_take]; omega
  subst hw2
  subst hm1
  subst hx
  have zero : fracPart (l.drop n) = [] → zeroP (l.take n) K K' (n : Int) := by
    intro hf
    rw [hf] at h0 h1
    unfold zeroP
    by_cases hz : n = 0
    · rw [show ((n : Int) == 0) = true by simp; omega, iteP_t]
      exact h0 hz rfl
    · rw [show ((n : Int) == 0) = false by simp; omega, iteP_f]
      exact ⟨⟨hwl, hwd, by omega, rfl⟩, fun x hx => by rw [hx]; exact h1 (by omega)⟩
  unfold restP
  rcases hr : s.drop (m + n) with _ | ⟨c, r⟩
  · have := drop_end (k := ((m + n : Nat) : Int)) (by rw [Int.toNat_natCast]; exact hr)
    rw [show decide ((m : Int) + (n : Int) < (s.length : Int)) = false by simp; omega, iteP_f]
    exact zero (by rw [hd, hr]; rfl)
  · obtain ⟨e1, e2, e3⟩ := byteAt_drop (l := s) (k := ((m + n : Nat) : Int)) (by rw [Int.toNat_natCast]; exact hr)
    rw [Int.toNat_natCast] at e2 e3
    rw [show ((m : Int) + (n : Int)) = ((m + n : Nat) : Int) by omega, show decide (((m + n : Nat) : Int) < (s.length : Int)) = true by simp; omega, iteP_t, show inRange ((m + n : Nat) : Int) s.length = true by rw [inRange_iff]; omega, iteP_t, e1]
    rw [show ((c.toNat : Int) == 46) = (c == 46) from beq_byte c 46 (by decide)]
    cases hc : c == 46 with
    | false =>
      rw [iteP_f]
      refine zero ?_
      rw [hd, hr]
      show (if c = 46 then _ else _) = _
      rw [if_neg (by simpa using hc)]
    | true =>
      rw [iteP_t]
      have hc' : c = 46 := by simpa using hc
      have hf : fracPart (l.drop n) = r.take (digN r) := by
        rw [hd, hr]
        show (if c = 46 then _ else _) = _
        rw [if_pos hc']
      rw [hf] at h0 h1 zero
      intro q hq
      rw [wrap_in (by omega) (by omega)] at hq
      have hq' : q = ((m + n + 1 : Nat) : Int) := by omega
      subst hq'
      rw [show (decide (0 ≤ ((m + n + 1 : Nat) : Int)) && decide (((m + n + 1 : Nat) : Int) ≤ (s.length : Int))) = true by simp; omega, iteP_t]
      intro r1 hr1
      rw [Int.toNat_natCast, e3] at hr1
      subst hr1
      have hrl : r1.length = s.length - (m + n + 1) := by rw [← e3, List.length_drop]
      refine ⟨by omega, fun x1 hx1 => ?_⟩
      have hk := digN_le r1
      subst hx1
      have cut : cutP s (l.take n) K K' ((m + n : Nat) : Int) n (digN r1) := by
        intro m3 hm3 m4 hm4 m5 hm5
        rw [wrap_in (by omega) (by omega)] at hm3 hm4
        subst hm4
        rw [wrap_in (by omega) (by omega)] at hm5
        subst hm3
        subst hm5
        rw [show (decide (0 ≤ ((m + n : Nat) : Int) + 1) && (decide (((m + n : Nat) : Int) + 1 ≤ ((m + n : Nat) : Int) + 1 + (digN r1 : Int)) && decide (((m + n : Nat) : Int) + 1 + (digN r1 : Int) ≤ (s.length : Int)))) = true by simp; omega, iteP_t]
        intro f hf2
        rw [show (((m + n : Nat) : Int) + 1) = ((m + n + 1 : Nat) : Int) by omega, take_cut, e3] at hf2
        subst hf2
        have hfd : (r1.take (digN r1)).all isDig = true := take_digN r1
        have hfl : (r1.take (digN r1)).length ≤ 1000000 := by rw [List.length_take]; omega
        have fin : ¬ (n = 0 ∧ r1.take (digN r1) = []) → ((l.take n).length ≤ 1000000 ∧ (l.take n).all isDig = true ∧ (r1.take (digN r1)).length ≤ 1000000 ∧ (r1.take (digN r1)).all isDig = true) ∧ ∀ x : Int, x = valueF (l.take n) (r1.take (digN r1)) → K' (min 10000000000000 x) :=
          fun hh => ⟨⟨hwl, hwd, hfl, hfd⟩, fun x hx => by rw [hx]; exact h1 hh⟩
        unfold endP
        by_cases hz : n = 0
        · rw [show ((n : Int) == 0) = true by simp; omega, iteP_t]
          by_cases he : r1.take (digN r1) = []
          · rw [decide_eq_true he, iteP_t]; exact h0 hz he
          · rw [decide_eq_false he, iteP_f]; exact fin (fun h => he h.2)
        · rw [show ((n : Int) == 0) = false by simp; omega, iteP_f]
          exact fin (fun h => hz h.1)
      by_cases hz : (0 : Int) < (n : Int)
      · rw [decide_eq_true hz, iteP_t]; exact cut
      · rw [decide_eq_false hz, iteP_f]
        by_cases hk0 : (0 : Int) < (digN r1 : Int)
        · rw [decide_eq_true hk0, iteP_t]; exact cut
        · rw [decide_eq_false hk0, iteP_f]
          exact zero (by rw [show digN r1 = 0 by omega]; rfl)
end
end Go.Proofs.Pr

/- Printf: the number of a value; contracts. -/
namespace Go.Proofs.Pr
open Go Go.Ef
noncomputable section
set_option maxRecDepth 100000

theorem EvP_mono {P : Program} {C : Cfg} {g : FuncId} {args : List AV} {h : Heap} {K K' : AV → Heap → Prop} (H : EvP C P g args h K) (hk : ∀ v h', K v h' → K' v h') : EvP C P g args h K' := by
  obtain ⟨m, v, h', h1, h2⟩ := H
  exact ⟨m, v, h', h1, hk _ _ h2⟩
theorem tail_pref (s : List UInt8) (K K' : Int → Prop) (m : Nat) (hs : s.length ≤ 1000000) (hm : m ≤ s.length) (hz : prefU (s.drop m) = 0 → K 0) (hk : K' (prefU (s.drop m))) : tailP s K K' (m : Int) := by
  refine tail_ok s K K' m hs hm (fun e1 e2 => hz ?_) (fun hn => ?_)
  · unfold prefU; rw [if_pos ⟨e1, e2⟩]
  · unfold prefU at hk
    rw [if_neg hn] at hk
    exact hk
theorem prefU_le (u : List UInt8) : 0 ≤ prefU u ∧ prefU u ≤ 10000000000000 := by
  unfold prefU
  split
  · omega
  · have hf : (fracPart (u.drop (digN u))).all isDig = true := by
      unfold fracPart
      split
      · rfl
      · split
        · exact take_digN _
        · rfl
    have := value_le _ _ (take_digN u) hf
    omega

theorem prefix_ok (s : List UInt8) (hs : s.length ≤ 1000000) : wpCall N3 Door.cfg Tryd.prog 40 50 [aStr s] heapF fun r h' => wpBack h' r fun v => match v with | .tup [.sc (.int .i64 a), .sc (.int .i64 _)] => a = prefixD s | _ => False := by
  refine c50 s (fun a => a = prefixD s) ⟨rfl, ⟨rfl, rfl, hs⟩, fun x hx => ?_⟩
  have hb : blankN s ≤ s.length := (List.takeWhile_sublist _).length_le
  have ht : s.drop (blankN s) = s.dropWhile isBlank := drop_takeWhile s
  generalize hbn : blankN s = b at *
  subst hx
  have pos : ∀ m : Nat, m ≤ s.length → prefU (s.drop m) = prefixD s → tailP s (fun a => a = prefixD s) (fun a => a = prefixD s) (m : Int) := fun m hm he => tail_pref s _ _ m hs hm (fun h => by rw [← he, h]) he
  have neg : ∀ m : Nat, m ≤ s.length → -prefU (s.drop m) = prefixD s → tailP s (fun a => a = prefixD s) (fun a => IntKind.i64.wrap (0 - a) = prefixD s) (m : Int) := fun m hm he => by
    have hle := prefU_le (s.drop m)
    refine tail_pref s _ _ m hs hm (fun h => by rw [← he, h]; rfl) ?_
    rw [wrap_in (by omega) (by omega), ← he]; omega
  show iteP (decide ((b : Int) < (s.length : Int))) (iteP (inRange (b : Int) s.length) (iteP (byteAt s b == 45) (∀ m : Int, m = IntKind.i64.wrap ((b : Int) + 1) → tailP s (fun a => a = prefixD s) (fun a => IntKind.i64.wrap (0 - a) = prefixD s) m)
      (iteP (decide ((b : Int) < (s.length : Int))) (iteP (inRange (b : Int) s.length) (iteP (byteAt s b == 43) (∀ m : Int, m = IntKind.i64.wrap ((b : Int) + 1) → tailP s (fun a => a = prefixD s) (fun a => a = prefixD s) m) (tailP s (fun a => a = prefixD s) (fun a => a = prefixD s) (b : Int))) False) (tailP s (fun a => a = prefixD s) (fun a => a = prefixD s) (b : Int)))) False)
    (iteP (decide ((b : Int) < (s.length : Int))) (iteP (inRange (b : Int) s.length) (iteP (byteAt s b == 43) (∀ m : Int, m = IntKind.i64.wrap ((b : Int) + 1) → tailP s (fun a => a = prefixD s) (fun a => a = prefixD s) m) (tailP s (fun a => a = prefixD s) (fun a => a = prefixD s) (b : Int))) False) (tailP s (fun a => a = prefixD s) (fun a => a = prefixD s) (b : Int)))
  rcases hr : s.drop b with _ | ⟨c, r⟩
  · have := drop_end (k := (b : Int)) (by rw [Int.toNat_natCast]; exact hr)
    rw [Int.toNat_natCast] at this
    rw [show decide ((b : Int) < (s.length : Int)) = false by simp; omega, iteP_f, iteP_f]
    refine pos b hb ?_
    unfold prefixD
    rw [← ht, hr]; rfl
  · obtain ⟨e1, e2, e3⟩ := byteAt_drop (l := s) (k := (b : Int)) (by rw [Int.toNat_natCast]; exact hr)
    rw [Int.toNat_natCast] at e2 e3
    rw [show decide ((b : Int) < (s.length : Int)) = true by simp; omega, iteP_t, show inRange (b : Int) s.length = true by rw [inRange_iff]; omega, iteP_t, iteP_t, iteP_t, e1]
    rw [show ((c.toNat : Int) == 45) = (c == 45) from beq_byte c 45 (by decide), show ((c.toNat : Int) == 43) = (c == 43) from beq_byte c 43 (by decide)]
    have hj : IntKind.i64.wrap ((b : Int) + 1) = ((b + 1 : Nat) : Int) := by rw [wrap_in (by omega) (by omega)]; omega
    have hp : prefixD s = if c == 45 then -prefU r else if (c == 45 || c == 43) then prefU r else prefU (c :: r) := by
      unfold prefixD
      rw [← ht, hr]; rfl
    cases h45 : c == 45 with
    | true =>
      rw [iteP_t]
      rw [h45] at hp
      intro m hm
      rw [hm, hj]
      exact neg (b + 1) (by omega) (by rw [e3, hp]; rfl)
    | false =>
      rw [iteP_f]
      rw [h45] at hp
      cases h43 : c == 43 with
      | true =>
        rw [iteP_t]
        rw [h43] at hp
        intro m hm
        rw [hm, hj]
        exact pos (b + 1) (by omega) (by rw [e3, hp]; rfl)
      | false =>
        rw [iteP_f]
        rw [h43] at hp
        exact pos b hb (by rw [hr, hp]; rfl)

theorem okN3 : TabOk Tryd.prog Door.cfg N3 := by
  refine name_ok (name_ok (name_ok (name_ok (name_ok (name_ok (name_ok (name_ok (name_ok (name_ok (addL_ok (ok65 okN2) fun σ s hs hp => ?_) _ _) _ _) _ _) _ _) _ _) _ _) _ _) _ _) _ _) _ _
  unfold L50 at hs
  split at hs
  · rename_i s0 k _ _
    refine lspec_ok (Option.some.inj hs) (fun hpre => ?_) hp
    obtain ⟨e, h1, h5⟩ := hpre
    refine Ev.tidied (t := ⟨[0, 4], [0, 4], 0⟩) (τ := I50 s0.data.toList 0) (by kernel_rfl) (by rw [e, h1]; exact (can50 _ _).symm) ?_
    exact (loop50 _ h5).mono fun ex τ h => ⟨slI τ 4, h.2.2, h.2.1, h.1⟩
  · cases hs
theorem ok50 {T : Tab} (O : TabOk Tryd.prog Door.cfg T) : TabOk Tryd.prog Door.cfg (T.addC 50 C50) := by
  refine addC_ok O fun args h s hs hp => ?_
  unfold C50 at hs
  split at hs
  · rename_i s0
    obtain ⟨⟨u⟩⟩ := s0
    refine aspec_ok (Option.some.inj hs) (fun hpre => ?_) hp
    replace hpre : u.length ≤ 1000000 := hpre
    refine EvP_mono (EvP.freshK okN3 (n := 40) (by kernel_rfl) (by kernel_rfl) (args' := [aStr u]) rfl (prefix_ok u hpre)) fun v h' hv => ⟨?_, hv.2⟩
    have h1 := hv.1
    split at h1
    · rename_i a e
      exact ⟨(a, e), h1, rfl⟩
    · exact h1.elim
  · cases hs
theorem ok37 {T : Tab} (O : TabOk Tryd.prog Door.cfg T) : TabOk Tryd.prog Door.cfg (T.addC 37 C37) := by
  refine addC_ok O fun args h s hs hp => ?_
  unfold C37 at hs
  split at hs
  · rename_i k n s0
    obtain ⟨⟨u⟩⟩ := s0
    refine nspec_ok (Option.some.inj hs) (fun hpre => ?_) hp
    replace hpre : u.length ≤ 1000000 := hpre
    refine EvP.freshV (ok50 okN3) (n := 40) (by kernel_rfl) (by kernel_rfl) (args' := [.agg [aK .i64 k, aK .i64 n, aStr u]]) rfl (c37 k n u _ ?_)
    have hnum : numberF k n u = if k = 2 then prefixD u else if k = 1 ∨ k = 3 then nearF n else 0 := rfl
    by_cases h2 : k = 2
    · rw [show (k == 2) = true by simpa using h2, iteP_t]
      refine ⟨hpre, fun x hx => ?_⟩
      show _ = aK .i64 (numberF k n u)
      rw [hnum, if_pos h2, hx]; rfl
    · rw [show (k == 2) = false by simpa using h2, iteP_f]
      have hn : min (max n (-10000000000000 : Int)) 10000000000000 = nearF n := by unfold nearF; omega
      by_cases h1 : k = 1
      · rw [show (k == 1) = true by simpa using h1, iteP_t, hn]
        show _ = aK .i64 (numberF k n u)
        rw [hnum, if_neg h2, if_pos (.inl h1)]; rfl
      · rw [show (k == 1) = false by simpa using h1, iteP_f]
        by_cases h3 : k = 3
        · rw [show (k == 3) = true by simpa using h3, iteP_t, hn]
          show _ = aK .i64 (numberF k n u)
          rw [hnum, if_neg h2, if_pos (.inr h3)]; rfl
        · rw [show (k == 3) = false by simpa using h3, iteP_f]
          show _ = aK .i64 (numberF k n u)
          rw [hnum, if_neg h2, if_neg (by rintro (h | h) <;> contradiction)]; rfl
  · cases hs
theorem near_le (d : Int) : -10000000000000 ≤ nearF d ∧ nearF d ≤ 10000000000000 := by unfold nearF; omega
theorem tdiv_le {a : Int} (h1 : -10000000000000 ≤ a) (h2 : a ≤ 10000000000000) : -1000000000 ≤ a.tdiv 10000 ∧ a.tdiv 10000 ≤ 1000000000 := by
  rcases Int.le_total 0 a with h | h
  · rw [Int.tdiv_eq_ediv_of_nonneg h]; omega
  · have e : a = -(-a) := by omega
    rw [e, Int.neg_tdiv, Int.tdiv_eq_ediv_of_nonneg (by omega)]; omega
theorem ok38 {T : Tab} (O : TabOk Tryd.prog Door.cfg T) : TabOk Tryd.prog Door.cfg (T.addC 38 C38) := by
  refine addC_ok O fun args h s hs hp => ?_
  unfold C38 at hs
  split at hs
  · rename_i d
    refine nspec_ok (Option.some.inj hs) (fun _ => ?_) hp
    refine EvP.freshV tab0_ok (n := 40) (by kernel_rfl) (by kernel_rfl) (args' := [aK .i64 d]) rfl (c38 d _ ?_)
    have h1 := near_le d
    have h2 := tdiv_le h1.1 h1.2
    show _ = aK .i64 ((nearF d).tdiv 10000)
    rw [show max (-10000000000000 : Int) (min 10000000000000 d) = nearF d from rfl, wrap_in (by omega) (by omega)]
    rfl
  · cases hs
end
end Go.Proofs.Pr

