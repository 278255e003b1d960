/- A part of the proof: definitions and lemmas. -/
import Derived.Test.YtijnmcodipdioaaGreatDoorLiteralsA
import Derived.Test.YtijnmcodipdioaaGreatDoorLiteralsB
import Derived.Test.YtijnmcodipdioaaGreatDoorLiteralsC
import Derived.Test.YtijnmcodipdioaaGreatDoorLiteralsD
import Derived.Test.YtijnmcodipdioaaGreatDoorLiteralsE
namespace Go.Proofs.Rl
open Go Go.Ef
noncomputable section
def nilA : AV := .sc (.slice none 0 0)
def iA (n : Int) : AV := .sc (.int .i64 n)
def bA (b : Bool) : AV := .sc (.bool b)
def uA (n : Int) : AV := .sc (.int .u64 n)
def isAl (b : UInt8) : Bool := (Nat.ble 97 b.toNat && Nat.ble b.toNat 122) || ((Nat.ble 65 b.toNat && Nat.ble b.toNat 90) || (Nat.ble 48 b.toNat && Nat.ble b.toNat 57))
structure Al (b : UInt8) : Prop where
 is : isAl b = true
structure AlI (n : Int) : Prop where
 is : ∃ b : UInt8, isAl b = true ∧ n = b.toNat
def wd (b : UInt8) (k : Nat) : Int := bif Nat.beq (b.toNat / 64) k then (2 ^ (b.toNat % 64) : Nat) else 0
def csW (b : UInt8) : List AV := [uA (wd b 0), uA (wd b 1), uA (wd b 2), uA (wd b 3)]
def rowR (b : UInt8) : List AV := [iA 2, uA (wd b 0), uA (wd b 1), uA (wd b 2), uA (wd b 3), iA 0, iA 0, iA 0, nilA]
def CNo (_ : List AV) (_ : Heap) : Option CSpec := some { pre := False, alts := [] }
def C33 (args : List AV) (h : Heap) : Option CSpec :=
 match args with
 | [.sc (.string ⟨⟨b :: _⟩⟩), .sc (.string ⟨⟨c :: _⟩⟩)] => some (fspec (bif isAl c then False else Al b) (bA false) h)
 | [.sc (.string ⟨⟨[]⟩⟩), .sc (.string ⟨⟨_ :: _⟩⟩)] => some (fspec True (bA false) h)
 | _ => none
def sp0 : List UInt8 := [46, 91, 93, 42, 94, 36, 92]
def sp1 : List UInt8 := [46, 91, 93, 40, 41, 42, 43, 63, 123, 125, 124, 94, 36, 92]
def isSp (l : List UInt8) : Bool := eqL eqU l sp0 || eqL eqU l sp1
def C90 (args : List AV) (h : Heap) : Option CSpec :=
 match args with
 | [.sc (.string ⟨⟨l⟩⟩), .sc (.int .u8 n)] => some (fspec (bif isSp l then AlI n else False) (iA (-1)) h)
 | _ => none
def hdB (s : List UInt8) : UInt8 := match s with
 | b :: _ => b
 | [] => 0
structure One (s : List UInt8) : Prop where
 is : ∃ b, isAl b = true ∧ s = [b]
def C80 (args : List AV) (h : Heap) : Option CSpec :=
 match args with
 | [.sc (.string ⟨⟨s⟩⟩)] => some (fspec (One s) (.agg (csW (hdB s))) h)
 | _ => none
def pC (l : List UInt8) (i : Nat) (e : Bool) (r : List AV) : List AV := .sc (.string ⟨⟨l⟩⟩) :: .sc (.int .i64 (.ofNat i)) :: .sc (.bool e) :: .sc (.bool false) :: r
def C47 (args : List AV) (h : Heap) : Option CSpec :=
 match args with
 | [.ptr 1 0] => match bif Nat.beq h.ro 1 then h.get 1 else none with
  | some (.cells [.sc (.string ⟨⟨l⟩⟩), .sc (.int .i64 (.ofNat i)), .sc (.bool e), .sc (.bool false), x0, x1, x2, x3, x4, x5, x6, x7, x8, x9, x10, x11, x12, x13, x14, x15, x16, x17, x18, x19]) => match (bif Nat.ble l.length 300 then l.drop i else []), h.put 1 (.cells (pC l (i + 1) e [x0, x1, x2, x3, x4, x5, x6, x7, x8, x9, x10, x11, x12, x13, x14, x15, x16, x17, x18, x19])) with
   | b :: _, some h' => some { pre := Al b, alts := [{ α := Unit, post := fun _ => True, val := fun _ => .agg (rowR b), heap := fun _ => h' }] }
   | _, _ => none
  | _ => none
 | _ => none
def hG (k : Nat) (q r1 r0 : Tr AObj) (v0 : Option AObj) (ty : Tr (Nat × Nat)) (rec : List AV) : Heap := ⟨k + 2, .node (.node q (some (.cells rec)) r1) v0 r0, 1, ty⟩
structure HdAl (s : List UInt8) : Prop where
 is : ∃ b r, s = b :: r ∧ isAl b = true
def D33 (args : List AV) (h : Heap) : Option CSpec :=
 match args with
 | [.sc (.string ⟨⟨s⟩⟩), .sc (.string ⟨⟨c :: _⟩⟩)] => some (fspec (bif isAl c then False else HdAl s) (bA false) h)
 | _ => none
def T47 : Tab := { (((((((tab0.addC 33 D33).addC 80 C80).addC 90 C90).addC 63 CNo).addC 64 CNo).addC 65 CNo).addC 66 CNo).addC 22 CNo with lazy := fun _ => true }
def TPa : Tab := (((tab0.addC 33 C33).addC 47 C47).addC 80 C80).addC 90 C90
structure NZ (a b c d : Int) : Prop where
 is : ∃ x, isAl x = true ∧ a = wd x 0 ∧ b = wd x 1 ∧ c = wd x 2 ∧ d = wd x 3
def z4 (x y z u : AV) : Bool := eqA 3 x (iA 0) && (eqA 3 y (iA 0) && (eqA 3 z (iA 0) && eqA 3 u nilA))
def z7 (a b c d : Int) (x y z : AV) : Bool := (eqI a 0 && (eqI b 0 && (eqI c 0 && eqI d 0))) && (eqA 3 x (iA 0) && (eqA 3 y (iA 0) && eqA 3 z (iA 0)))
def two2 (els : List (List AV)) : Bool := match els with
 | _ :: _ :: _ => true
 | _ => false
structure FlatA (args : List AV) : Prop where
 is : mapO (stripA 8) args = some args
def C50 (args : List AV) (h : Heap) : Option CSpec :=
 match args with
 | [.agg [.sc (.int .i64 o), .sc (.int .u64 a), .sc (.int .u64 b), .sc (.int .u64 c), .sc (.int .u64 d), x, y, z, .sl els 0]] => some (fspec (bif eqI o 3 && (z7 a b c d x y z && two2 els) then FlatA args else False) (bA true) h)
 | [.agg [.sc (.int .i64 o), .sc (.int .u64 a), .sc (.int .u64 b), .sc (.int .u64 c), .sc (.int .u64 d), x, y, z, u]] => some (fspec (bif eqI o 2 && z4 x y z u then NZ a b c d else False) (bA true) h)
 | _ => none
def TTr : Tab := tab0.addC 50 C50
def catR (l : List UInt8) : List AV := [iA 3, uA 0, uA 0, uA 0, uA 0, iA 0, iA 0, iA 0, .sl (l.map rowR) 0]
def treeR (l : List UInt8) : List AV := match l with
 | [b] => rowR b
 | l => catR l
def parseV (l : List UInt8) : AV := .tup [.agg (treeR l), iA 0, iA 0]
def NZb (b : UInt8) : Prop := NZ (wd b 0) (wd b 1) (wd b 2) (wd b 3)
def chain (c : List Prop) (X : Prop) : Prop := List.rec (motive := fun _ => Prop) X (fun p _ ih => p ∧ ∀ _ : Unit, True → ih) c
theorem chain_ok {X : Prop} (h : X) : ∀ (c : List Prop), (∀ p ∈ c, p) → chain c X
 | [], _ => h
 | p :: r, H => ⟨H p (by simp), fun _ _ => chain_ok h r fun q hq => H q (by simp [hq])⟩
def rep (k : Nat) (p : Prop) : List Prop := Nat.rec (motive := fun _ => List Prop) [] (fun _ ih => p :: ih) k
def chkN (k m e : Nat) (l : List UInt8) : List Prop := match l with
 | [] => []
 | b :: r => rep k (Al b) ++ ((r.flatMap fun x => rep m (Al x)) ++ rep e True)
def chkT (l : List UInt8) : List Prop := match l with
 | [b] => [NZb b]
 | l => FlatA [.agg (treeR l)] :: l.map NZb
def chkP (l : List UInt8) : List Prop := chkT l ++ chkT l
def rowI (b : UInt8) : List AV := [iA 1, uA (wd b 0), uA (wd b 1), uA (wd b 2), uA (wd b 3), iA 0, iA 0]
def rowM : List AV := [iA 6, uA 0, uA 0, uA 0, uA 0, iA 0, iA 0]
def progR (l : List UInt8) : List (List AV) := l.map rowI ++ [rowM]
def progV (l : List UInt8) : AV := .tup [.agg [.sl (l.map rowI ++ [rowM]) 0, bA false], iA 0]
def locV (n : List UInt8) (o : List (List AV)) (lo up : List UInt8) : AV := .agg [aStr n, .sl o 0, aStr lo, aStr up, nilA, nilA]
structure Run (T : Tab) (g : Nat) (args : List AV) (v : AV) (c : List Prop) : Prop where
 run : ∀ K : AV → Prop, chain c (K v) → wpCall T cfg Tryz.prog 260 g args heapF fun r h' => wpDeepB h' r K
structure RunF (T : Tab) (g : Nat) (args : List AV) (v : AV) (c : List Prop) : Prop where
 flat : mapO (stripA 8) args = some args
 run : ∀ K : AV → Prop, chain c (K v) → wpCall T cfg Tryz.prog 260 g args heapF fun r h' => wpDeepB h' r K
def RP0 (l : List UInt8) : Prop := ∀ n o lo up, Run TPa 11 [aStr l, iA 0, locV n o lo up] (parseV l) (chkN 6 7 2 l)
def RP1 (l : List UInt8) : Prop := ∀ n o lo up, Run TPa 11 [aStr l, iA 1, locV n o lo up] (parseV l) (chkN 3 9 5 l)
def R12 (l : List UInt8) : Prop := RunF TTr 12 [.agg (treeR l)] (iA 0) []
def R13 (l : List UInt8) : Prop := RunF TTr 13 [.agg (treeR l)] (bA false) []
def R25 (l : List UInt8) : Prop := RunF TTr 25 [.agg (treeR l)] (iA 0) (chkT l)
def R14 (l : List UInt8) : Prop := RunF TTr 14 [.agg (treeR l), bA false] (progV l) (chkP l)
end
end Go.Proofs.Rl
