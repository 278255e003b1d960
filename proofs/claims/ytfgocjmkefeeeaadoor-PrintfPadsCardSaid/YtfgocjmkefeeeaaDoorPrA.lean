/- Printf: what the functions compute, in plain form; conditions printed from the evaluation. -/
import Derived.Test.YtfgocjmkefeeeaaDoorEfP
import Derived.Test.YtfgocjmkefeeeaaDoorEfW
/- Printf: what the functions compute; tables. -/
namespace Go.Proofs.Pr
open Go Go.Ef
noncomputable section

structure Dir where
  minus : Bool
  zero : Bool
  plus : Bool
  space : Bool
  width : Int
  prec : Int
  kind : Int
def Dir.none : Dir := ⟨false, false, false, false, 0, 0, 0⟩
def Dir.cells (d : Dir) : List AV := [aBool d.minus, aBool d.zero, aBool d.plus, aBool d.space, aK .i64 d.width, aK .i64 d.prec, aK .u8 d.kind]

/- the program's reader -/
def numL : List UInt8 → Int → Int × List UInt8
  | [], n => (n, [])
  | c :: r, n => if 48 ≤ (c.toNat : Int) ∧ (c.toNat : Int) ≤ 57 then numL r (min (10 * max n 0 + (c.toNat - 48)) 256) else (n, c :: r)
def numF : List UInt8 → Int × List UInt8
  | [] => (-1, [])
  | c :: r => if c = 42 then (-2, r) else numL (c :: r) (-1)
def setFlag (d : Dir) (c : UInt8) : Dir :=
  if c = 45 then { d with minus := true } else if c = 48 then { d with zero := true } else if c = 43 then { d with plus := true } else { d with space := true }
def isFlag (c : UInt8) : Bool := c == 45 || c == 48 || c == 43 || c == 32
def flagsF : List UInt8 → Dir → Dir × List UInt8
  | [], d => (d, [])
  | c :: r, d => if isFlag c then flagsF r (setFlag d c) else (d, c :: r)
def kinds : List UInt8 := [100, 105, 111, 120, 88, 117, 99, 115, 102, 37]
def precF : List UInt8 → Int × List UInt8
  | [] => (-1, [])
  | c :: r => if c = 46 then ((if (numF r).1 = -1 then 0 else (numF r).1), (numF r).2) else (-1, c :: r)
def endF (d : Dir) (w : Int) (p : Int) : List UInt8 → Dir × List UInt8 × Int
  | [] => (Dir.none, [], 1)
  | c :: r => if kinds.contains c then (if w > 255 ∨ p > 255 then (Dir.none, [], 2) else ({ d with width := w, prec := p, kind := c.toNat }, r, 0)) else (Dir.none, [], 1)
def readF (s : List UInt8) : Dir × List UInt8 × Int :=
  endF (flagsF s { Dir.none with prec := -1 }).1 (numF (flagsF s { Dir.none with prec := -1 }).2).1 (precF (numF (flagsF s { Dir.none with prec := -1 }).2).2).1 (precF (numF (flagsF s { Dir.none with prec := -1 }).2).2).2
def before (s : List UInt8) : List UInt8 := s.takeWhile (· != 37)
def after (s : List UInt8) : List UInt8 := (s.dropWhile (· != 37)).drop 1
def hasPct (s : List UInt8) : Bool := s.contains 37
def checkF : Nat → List UInt8 → Int
  | 0, _ => 0
  | n + 1, s => if hasPct s then (if (readF (after s)).2.2 = 0 then checkF n (readF (after s)).2.1 else (readF (after s)).2.2) else 0

/- states at the heads of loops -/
def I47 (s : List UInt8) (n k : Int) : St := stOf 42 [(0, sStr s), (4, sInt n), (5, sInt k)] [] heapF
def I32 (s : List UInt8) (d : Dir) : St := stOf 69 [(0, sStr s), (2, .lp 0 0), (5, .lp 1 0)] [.cells Dir.none.cells, .cells d.cells] heapF
def rdDir (σ : St) (k : Nat) : Dir := ⟨lcB σ k 0, lcB σ k 1, lcB σ k 2, lcB σ k 3, lcI σ k 4, lcI σ k 5, lcI σ k 6⟩
def I18 (s : List UInt8) : St := stOf 41 [(0, sStr s), (1, .v (.fn (.func 19) [] []))] [] heapF
def J18 (e : Int) : St := stOf 41 [(4, sInt e)] [] heapF

/- tables -/
def L47 (σ : St) : Option LSpec := some (lspec (σ.tidy [0, 4, 5] 0 = I47 (slS σ 0) (slI σ 4) (slI σ 5) ∧ 0 ≤ slI σ 5 ∧ -1 ≤ slI σ 4 ∧ slI σ 4 ≤ 256 ∧ slI σ 5 ≤ ((slS σ 0).length : Int) ∧ (slS σ 0).length ≤ 1000000)
  (Int × Int) (fun x => 0 ≤ x.2 ∧ x.2 ≤ ((slS σ 0).length : Int) ∧ numL ((slS σ 0).drop (slI σ 5).toNat) (slI σ 4) = (x.1, (slS σ 0).drop x.2.toNat)) (.exit 0) (fun x => I47 (slS σ 0) x.1 x.2))
def C47 (args : List AV) (h : Heap) : Option CSpec :=
  match args with
  | [.sc (.string s)] => some (nspec (s.data.toList.length ≤ 1000000) (numF s.data.toList) (fun x => .tup [aK .i64 x.1, aStr x.2]) h)
  | _ => none
def C31 (args : List AV) (h : Heap) : Option CSpec :=
  match args with
  | [.sc (.string s), .sc (.string c)] => some (nspec (s.data.toList.length ≤ 1000000 ∧ c.data.toList = [37]) (before s.data.toList, after s.data.toList, hasPct s.data.toList) (fun x => .tup [aStr x.1, aStr x.2.1, aBool x.2.2]) h)
  | _ => none
def C43 (args : List AV) (h : Heap) : Option CSpec :=
  match args with
  | [.sc (.string s), .sc (.int .i32 r)] => some (nspec (s.data.toList = kinds ∧ 0 ≤ r ∧ r ≤ 255) (kinds.contains (UInt8.ofNat r.toNat)) (fun x => aBool x) h)
  | _ => none
def C48 (args : List AV) (h : Heap) : Option CSpec :=
  match args with
  | [.sc (.string s), .sc (.string p)] => some (nspec (s.data.toList.length ≤ 1000000) (p.data.toList.isPrefixOf s.data.toList) (fun x => aBool x) h)
  | _ => none
def L32 (σ : St) : Option LSpec := some (lspec (σ.tidy [0, 2, 5] 2 = I32 (slS σ 0) (rdDir σ 1) ∧ (slS σ 0).length ≤ 1000000)
  (Dir × List UInt8) (fun x => x = flagsF (slS σ 0) (rdDir σ 1)) (.exit 0) (fun x => I32 x.2 x.1))
def C32 (args : List AV) (h : Heap) : Option CSpec :=
  match args with
  | [.sc (.string s)] => some (nspec (s.data.toList.length ≤ 1000000) (readF s.data.toList) (fun x => .tup [.agg x.1.cells, aStr x.2.1, aK .i64 x.2.2]) h)
  | _ => none
def L18 (σ : St) : Option LSpec := some (lspec (σ.tidy [0, 1] 0 = I18 (slS σ 0) ∧ (slS σ 0).length ≤ 1000000)
  Int (fun x => x = checkF ((slS σ 0).length + 1) (slS σ 0)) .ret (fun x => J18 x))
def C8 (args : List AV) (h : Heap) : Option CSpec :=
  match args with
  | [.sc (.string s)] => some (nspec (s.data.toList.length ≤ 1000000) (checkF (s.data.toList.length + 1) s.data.toList) (fun x => aK .i64 x) h)
  | _ => none
def T1 : Tab := tab0.addL 47 5 L47
def T2 : Tab := (((T1.addC 48 C48).addC 47 C47).addC 43 C43).addL 32 3 L32
def T3 : Tab := (T2.addC 32 C32).addC 31 C31
def T4 : Tab := T3.addL 18 2 L18

/- the reference's reader, by the rest of the format -/
def numR (l : Int) : List UInt8 → Int × List UInt8
  | [] => (-1, [])
  | c :: r => if c = 42 then (-2, r) else if (c.toNat : Int) < l then (-1, c :: r) else numL (c :: r) (-1)
def precR : List UInt8 → Int × List UInt8
  | [] => (-1, [])
  | c :: r => if c = 46 then ((if (numR 48 r).1 = -1 then 0 else (numR 48 r).1), (numR 48 r).2) else (-1, c :: r)
def readR (s : List UInt8) : Dir × List UInt8 × Int :=
  endF (flagsF s { Dir.none with prec := -1 }).1 (numR 49 (flagsF s { Dir.none with prec := -1 }).2).1 (precR (numR 49 (flagsF s { Dir.none with prec := -1 }).2).2).1 (precR (numR 49 (flagsF s { Dir.none with prec := -1 }).2).2).2
def checkR : Nat → List UInt8 → Int
  | 0, _ => 0
  | _ + 1, [] => 0
  | n + 1, c :: r => if c = 37 then (if (readR r).2.2 = 0 then checkR n (readR r).2.1 else (readR r).2.2) else checkR n r
def I34 (s : List UInt8) (a l n k : Int) : St := stOf 65 [(0, sStr s), (1, sInt a), (2, sK .u8 l), (8, sInt n), (9, sInt k)] [] heapF
def J34 (n k : Int) : St := stOf 65 [(8, sInt n), (9, sInt k)] [] heapF
def I33 (s : List UInt8) (c k : Int) : St := stOf 17 [(0, sStr s), (1, sK .u8 c), (5, sInt k)] [] heapF
def J33 (b : Bool) : St := stOf 17 [(4, sBool b)] [] heapF
def I20 (s : List UInt8) (a : Int) (d : Dir) : St := stOf 96 [(0, sStr s), (1, sInt a), (4, .lp 0 0), (7, .lp 1 0)] [.cells Dir.none.cells, .cells d.cells] heapF
def I9 (s : List UInt8) (k : Int) : St := stOf 29 [(0, sStr s), (3, sInt k)] [] heapF
def J9 (e : Int) : St := stOf 29 [(2, sInt e)] [] heapF
end
end Go.Proofs.Pr

/- Printf: conditions, printed by a program from the evaluation. -/
namespace Go.Proofs.Pr
open Go Go.Ef
noncomputable section
set_option maxRecDepth 100000

theorem v47 (s : List UInt8) (n : Int) (k : Int) (N : Int → Int → Prop) (X : Ex → Int → Int → Prop) (h :
    iteP (decide (k < (↑s.length : Int)))
  (iteP (inRange k s.length)
    (iteP (decide ((48 : Int) ≤ byteAt s k))
      (iteP (inRange k s.length)
        (iteP (decide (byteAt s k ≤ (57 : Int)))
          (iteP (inRange k s.length)
            (I47 s
                  (min
                    (IntKind.i64.wrap
                      (IntKind.i64.wrap ((10 : Int) * max n (0 : Int)) +
                        IntKind.i64.wrap (IntKind.u8.wrap (byteAt s k - (48 : Int)))))
                    (256 : Int))
                  (IntKind.i64.wrap (k + (1 : Int))) =
                I47 s
                  (min
                    (IntKind.i64.wrap
                      (IntKind.i64.wrap ((10 : Int) * max n (0 : Int)) +
                        IntKind.i64.wrap (IntKind.u8.wrap (byteAt s k - (48 : Int)))))
                    (256 : Int))
                  (IntKind.i64.wrap (k + (1 : Int))) ∧
              N
                (min
                  (IntKind.i64.wrap
                    (IntKind.i64.wrap ((10 : Int) * max n (0 : Int)) +
                      IntKind.i64.wrap (IntKind.u8.wrap (byteAt s k - (48 : Int)))))
                  (256 : Int))
                (IntKind.i64.wrap (k + (1 : Int))))
            False)
          (I47 s n k = I47 s n k ∧ X (Ex.exit (0 : Nat)) n k))
        False)
      (I47 s n k = I47 s n k ∧ X (Ex.exit (0 : Nat)) n k))
    False)
  (I47 s n k = I47 s n k ∧ X (Ex.exit (0 : Nat)) n k)) :
    (fun (s : List UInt8) (n k : Int) (N : Int → Int → Prop) (X : Ex → Int → Int → Prop) => wpRound tab0 Door.cfg Tryd.prog 40 47 5 (I47 s n k) (fun τ => τ = I47 s (slI τ 4) (slI τ 5) ∧ N (slI τ 4) (slI τ 5)) (fun e τ => τ = I47 s (slI τ 4) (slI τ 5) ∧ X e (slI τ 4) (slI τ 5))) s n k N X :=
  Eq.mp (by kernel_rfl) h

theorem c47 (s : List UInt8) (K : AV → Prop) (h :
    s.length.le (1000000 : Nat) ∧
  ∀ (x : Bool),
    x = [(42 : UInt8)].isPrefixOf s →
      iteP x
        (iteP (true && decide ((1 : Int) ≤ (↑s.length : Int)))
          (K
            (AV.tup
              [AV.sc (Value.int IntKind.i64 (-2 : Int)),
                AV.sc (Value.string { data := { toList := List.drop (1 : Nat) s } })]))
          False)
        (loopAt Tryd.prog (47 : Nat) (5 : Nat) = loopAt Tryd.prog (47 : Nat) (5 : Nat) ∧
          (I47 s (-1 : Int) (0 : Int) = I47 s (-1 : Int) (0 : Int) ∧
              (0 : Int) ≤ (0 : Int) ∧
                (-1 : Int) ≤ (-1 : Int) ∧
                  (-1 : Int) ≤ (256 : Int) ∧ (0 : Int) ≤ (↑s.length : Int) ∧ s.length ≤ (1000000 : Nat)) ∧
            ∀ (x : Int × Int),
              (0 : Int) ≤ x.snd ∧
                  x.snd ≤ (↑s.length : Int) ∧
                    numL (List.drop (Int.toNat (0 : Int)) s) (-1 : Int) = (x.fst, List.drop x.snd.toNat s) →
                iteP (decide ((0 : Int) ≤ x.snd) && decide (x.snd ≤ (↑s.length : Int)))
                  (K
                    (AV.tup
                      [AV.sc (Value.int IntKind.i64 x.fst),
                        AV.sc (Value.string { data := { toList := List.drop x.snd.toNat s } })]))
                  False)) :
    (fun (s : List UInt8) (K : AV → Prop) => wpCall (T1.addC 48 C48) Door.cfg Tryd.prog 40 47 [aStr s] heapF fun r h' => wpBack h' r K) s K :=
  Eq.mp (by kernel_rfl) h

theorem c48 (s : List UInt8) (p : List UInt8) (K : AV → Prop) (h :
    iteP (decide ((↑p.length : Int) ≤ (↑s.length : Int)))
  (iteP (decide ((0 : Int) ≤ (↑p.length : Int)) && decide ((↑p.length : Int) ≤ (↑s.length : Int)))
    (iteP (decide (List.take (↑p.length : Int).toNat s = p)) (K (AV.sc (Value.bool true)))
      (K (AV.sc (Value.bool false))))
    False)
  (K (AV.sc (Value.bool false)))) :
    (fun (s p : List UInt8) (K : AV → Prop) => wpCall tab0 Door.cfg Tryd.prog 40 48 [aStr s, aStr p] heapF fun r h' => wpBack h' r K) s p K :=
  Eq.mp (by kernel_rfl) h

theorem c31 (s : List UInt8) (K : AV → Prop) (h :
    iteP (decide ([(37 : UInt8)] = s))
  (iteP (true && decide ((1 : Int) ≤ (↑s.length : Int)))
    (K
      (AV.tup
        [AV.sc (Value.string { data := { toList := List.take (0 : Nat) s } }),
          AV.sc (Value.string { data := { toList := List.drop (1 : Nat) s } }), AV.sc (Value.bool true)]))
    False)
  (iteP (decide ((0 : Int) ≤ placeOf (37 : UInt8) s (0 : Nat)))
    (iteP
      (decide ((0 : Int) ≤ placeOf (37 : UInt8) s (0 : Nat)) &&
        decide (placeOf (37 : UInt8) s (0 : Nat) ≤ (↑s.length : Int)))
      (iteP
        (decide ((0 : Int) ≤ IntKind.i64.wrap (placeOf (37 : UInt8) s (0 : Nat) + (1 : Int))) &&
          decide (IntKind.i64.wrap (placeOf (37 : UInt8) s (0 : Nat) + (1 : Int)) ≤ (↑s.length : Int)))
        (K
          (AV.tup
            [AV.sc (Value.string { data := { toList := List.take (placeOf (37 : UInt8) s (0 : Nat)).toNat s } }),
              AV.sc
                (Value.string
                  {
                    data :=
                      {
                        toList :=
                          List.drop (IntKind.i64.wrap (placeOf (37 : UInt8) s (0 : Nat) + (1 : Int))).toNat s } }),
              AV.sc (Value.bool true)]))
        False)
      False)
    (K
      (AV.tup
        [AV.sc (Value.string { data := { toList := s } }), AV.sc (Value.string { data := { toList := [] } }),
          AV.sc (Value.bool false)])))) :
    (fun (s : List UInt8) (K : AV → Prop) => wpCall tab0 Door.cfg Tryd.prog 40 31 [aStr s, aStr [37]] heapF fun r h' => wpBack h' r K) s K :=
  Eq.mp (by kernel_rfl) h

theorem v32 (s : List UInt8) (d : Dir) (N : List UInt8 → Dir → Prop) (X : Ex → List UInt8 → Dir → Prop) (h :
    iteP (decide (s ≠ []))
  (iteP (inRange (0 : Int) s.length)
    (iteP (byteAt s (0 : Int) == (45 : Int))
      (iteP (true && decide ((1 : Int) ≤ (↑s.length : Int)))
        (I32 (List.drop (1 : Nat) s)
              { minus := true, zero := d.zero, plus := d.plus, space := d.space, width := d.width, prec := d.prec,
                kind := d.kind } =
            I32 (List.drop (1 : Nat) s)
              { minus := true, zero := d.zero, plus := d.plus, space := d.space, width := d.width, prec := d.prec,
                kind := d.kind } ∧
          N (List.drop (1 : Nat) s)
            { minus := true, zero := d.zero, plus := d.plus, space := d.space, width := d.width, prec := d.prec,
              kind := d.kind })
        False)
      (iteP (byteAt s (0 : Int) == (48 : Int))
        (iteP (true && decide ((1 : Int) ≤ (↑s.length : Int)))
          (I32 (List.drop (1 : Nat) s)
                { minus := d.minus, zero := true, plus := d.plus, space := d.space, width := d.width, prec := d.prec,
                  kind := d.kind } =
              I32 (List.drop (1 : Nat) s)
                { minus := d.minus, zero := true, plus := d.plus, space := d.space, width := d.width, prec := d.prec,
                  kind := d.kind } ∧
            N (List.drop (1 : Nat) s)
              { minus := d.minus, zero := true, plus := d.plus, space := d.space, width := d.width, prec := d.prec,
                kind := d.kind })
          False)
        (iteP (byteAt s (0 : Int) == (43 : Int))
          (iteP (true && decide ((1 : Int) ≤ (↑s.length : Int)))
            (I32 (List.drop (1 : Nat) s)
                  { minus := d.minus, zero := d.zero, plus := true, space := d.space, width := d.width, prec := d.prec,
                    kind := d.kind } =
                I32 (List.drop (1 : Nat) s)
                  { minus := d.minus, zero := d.zero, plus := true, space := d.space, width := d.width, prec := d.prec,
                    kind := d.kind } ∧
              N (List.drop (1 : Nat) s)
                { minus := d.minus, zero := d.zero, plus := true, space := d.space, width := d.width, prec := d.prec,
                  kind := d.kind })
            False)
          (iteP (byteAt s (0 : Int) == (32 : Int))
            (iteP (true && decide ((1 : Int) ≤ (↑s.length : Int)))
              (I32 (List.drop (1 : Nat) s)
                    { minus := d.minus, zero := d.zero, plus := d.plus, space := true, width := d.width, prec := d.prec,
                      kind := d.kind } =
                  I32 (List.drop (1 : Nat) s)
                    { minus := d.minus, zero := d.zero, plus := d.plus, space := true, width := d.width, prec := d.prec,
                      kind := d.kind } ∧
                N (List.drop (1 : Nat) s)
                  { minus := d.minus, zero := d.zero, plus := d.plus, space := true, width := d.width, prec := d.prec,
                    kind := d.kind })
              False)
            (I32 s
                  { minus := d.minus, zero := d.zero, plus := d.plus, space := d.space, width := d.width,
                    prec := d.prec, kind := d.kind } =
                I32 s
                  { minus := d.minus, zero := d.zero, plus := d.plus, space := d.space, width := d.width,
                    prec := d.prec, kind := d.kind } ∧
              X (Ex.exit (0 : Nat)) s
                { minus := d.minus, zero := d.zero, plus := d.plus, space := d.space, width := d.width, prec := d.prec,
                  kind := d.kind })))))
    False)
  (I32 s
        { minus := d.minus, zero := d.zero, plus := d.plus, space := d.space, width := d.width, prec := d.prec,
          kind := d.kind } =
      I32 s
        { minus := d.minus, zero := d.zero, plus := d.plus, space := d.space, width := d.width, prec := d.prec,
          kind := d.kind } ∧
    X (Ex.exit (0 : Nat)) s
      { minus := d.minus, zero := d.zero, plus := d.plus, space := d.space, width := d.width, prec := d.prec,
        kind := d.kind })) :
    (fun (s : List UInt8) (d : Dir) (N : List UInt8 → Dir → Prop) (X : Ex → List UInt8 → Dir → Prop) => wpRound tab0 Door.cfg Tryd.prog 40 32 3 (I32 s d) (fun τ => τ = I32 (slS τ 0) (rdDir τ 1) ∧ N (slS τ 0) (rdDir τ 1)) (fun e τ => τ = I32 (slS τ 0) (rdDir τ 1) ∧ X e (slS τ 0) (rdDir τ 1))) s d N X :=
  Eq.mp (by kernel_rfl) h

theorem c32 (s : List UInt8) (K : AV → Prop) (h :
    loopAt Tryd.prog (32 : Nat) (3 : Nat) = loopAt Tryd.prog (32 : Nat) (3 : Nat) ∧
  (I32 s
          { minus := false, zero := false, plus := false, space := false, width := (0 : Int), prec := (-1 : Int),
            kind := (0 : Int) } =
        I32 s
          { minus := false, zero := false, plus := false, space := false, width := (0 : Int), prec := (-1 : Int),
            kind := (0 : Int) } ∧
      s.length ≤ (1000000 : Nat)) ∧
    ∀ (x : Dir × List UInt8),
      x =
          flagsF s
            { minus := false, zero := false, plus := false, space := false, width := (0 : Int), prec := (-1 : Int),
              kind := (0 : Int) } →
        x.snd.length.le (1000000 : Nat) ∧
          ∀ (x_1 : Int × List UInt8),
            x_1 = numF x.snd →
              x_1.snd.length.le (1000000 : Nat) ∧
                ∀ (x_2 : Bool),
                  x_2 = [(46 : UInt8)].isPrefixOf x_1.snd →
                    iteP x_2
                      (iteP (true && decide ((1 : Int) ≤ (↑x_1.snd.length : Int)))
                        ((List.drop (1 : Nat) x_1.snd).length.le (1000000 : Nat) ∧
                          ∀ (x_3 : Int × List UInt8),
                            x_3 = numF (List.drop (1 : Nat) x_1.snd) →
                              iteP (x_3.fst == (-1 : Int))
                                (iteP (decide (x_3.snd = []))
                                  (K
                                    (AV.tup
                                      [AV.agg
                                          [AV.sc (Value.bool false), AV.sc (Value.bool false), AV.sc (Value.bool false),
                                            AV.sc (Value.bool false), AV.sc (Value.int IntKind.i64 (0 : Int)),
                                            AV.sc (Value.int IntKind.i64 (0 : Int)),
                                            AV.sc (Value.int IntKind.u8 (0 : Int))],
                                        AV.sc (Value.string { data := { toList := [] } }),
                                        AV.sc (Value.int IntKind.i64 (1 : Int))]))
                                  (iteP (inRange (0 : Int) x_3.snd.length)
                                    (([(100 : UInt8), (105 : UInt8), (111 : UInt8), (120 : UInt8), (88 : UInt8),
                                            (117 : UInt8), (99 : UInt8), (115 : UInt8), (102 : UInt8), (37 : UInt8)] =
                                          kinds ∧
                                        (0 : Int) ≤ IntKind.i32.wrap (byteAt x_3.snd (0 : Int)) ∧
                                          IntKind.i32.wrap (byteAt x_3.snd (0 : Int)) ≤ (255 : Int)) ∧
                                      ∀ (x_4 : Bool),
                                        x_4 =
                                            kinds.contains
                                              (UInt8.ofNat (IntKind.i32.wrap (byteAt x_3.snd (0 : Int))).toNat) →
                                          iteP x_4
                                            (iteP (decide ((255 : Int) < x_1.fst))
                                              (K
                                                (AV.tup
                                                  [AV.agg
                                                      [AV.sc (Value.bool false), AV.sc (Value.bool false),
                                                        AV.sc (Value.bool false), AV.sc (Value.bool false),
                                                        AV.sc (Value.int IntKind.i64 (0 : Int)),
                                                        AV.sc (Value.int IntKind.i64 (0 : Int)),
                                                        AV.sc (Value.int IntKind.u8 (0 : Int))],
                                                    AV.sc (Value.string { data := { toList := [] } }),
                                                    AV.sc (Value.int IntKind.i64 (2 : Int))]))
                                              (iteP (inRange (0 : Int) x_3.snd.length)
                                                (iteP (true && decide ((1 : Int) ≤ (↑x_3.snd.length : Int)))
                                                  (K
                                                    (AV.tup
                                                      [AV.agg
                                                          [AV.sc (Value.bool x.fst.minus),
                                                            AV.sc (Value.bool x.fst.zero),
                                                            AV.sc (Value.bool x.fst.plus),
                                                            AV.sc (Value.bool x.fst.space),
                                                            AV.sc (Value.int IntKind.i64 x_1.fst),
                                                            AV.sc (Value.int IntKind.i64 (0 : Int)),
                                                            AV.sc (Value.int IntKind.u8 (byteAt x_3.snd (0 : Int)))],
                                                        AV.sc
                                                          (Value.string
                                                            { data := { toList := List.drop (1 : Nat) x_3.snd } }),
                                                        AV.sc (Value.int IntKind.i64 (0 : Int))]))
                                                  False)
                                                False))
                                            (K
                                              (AV.tup
                                                [AV.agg
                                                    [AV.sc (Value.bool false), AV.sc (Value.bool false),
                                                      AV.sc (Value.bool false), AV.sc (Value.bool false),
                                                      AV.sc (Value.int IntKind.i64 (0 : Int)),
                                                      AV.sc (Value.int IntKind.i64 (0 : Int)),
                                                      AV.sc (Value.int IntKind.u8 (0 : Int))],
                                                  AV.sc (Value.string { data := { toList := [] } }),
                                                  AV.sc (Value.int IntKind.i64 (1 : Int))])))
                                    False))
                                (iteP (decide (x_3.snd = []))
                                  (K
                                    (AV.tup
                                      [AV.agg
                                          [AV.sc (Value.bool false), AV.sc (Value.bool false), AV.sc (Value.bool false),
                                            AV.sc (Value.bool false), AV.sc (Value.int IntKind.i64 (0 : Int)),
                                            AV.sc (Value.int IntKind.i64 (0 : Int)),
                                            AV.sc (Value.int IntKind.u8 (0 : Int))],
                                        AV.sc (Value.string { data := { toList := [] } }),
                                        AV.sc (Value.int IntKind.i64 (1 : Int))]))
                                  (iteP (inRange (0 : Int) x_3.snd.length)
                                    (([(100 : UInt8), (105 : UInt8), (111 : UInt8), (120 : UInt8), (88 : UInt8),
                                            (117 : UInt8), (99 : UInt8), (115 : UInt8), (102 : UInt8), (37 : UInt8)] =
                                          kinds ∧
                                        (0 : Int) ≤ IntKind.i32.wrap (byteAt x_3.snd (0 : Int)) ∧
                                          IntKind.i32.wrap (byteAt x_3.snd (0 : Int)) ≤ (255 : Int)) ∧
                                      ∀ (x_4 : Bool),
                                        x_4 =
                                            kinds.contains
                                              (UInt8.ofNat (IntKind.i32.wrap (byteAt x_3.snd (0 : Int))).toNat) →
                                          iteP x_4
                                            (iteP (decide ((255 : Int) < x_1.fst))
                                              (K
                                                (AV.tup
                                                  [AV.agg
                                                      [AV.sc (Value.bool false), AV.sc (Value.bool false),
                                                        AV.sc (Value.bool false), AV.sc (Value.bool false),
                                                        AV.sc (Value.int IntKind.i64 (0 : Int)),
                                                        AV.sc (Value.int IntKind.i64 (0 : Int)),
                                                        AV.sc (Value.int IntKind.u8 (0 : Int))],
                                                    AV.sc (Value.string { data := { toList := [] } }),
                                                    AV.sc (Value.int IntKind.i64 (2 : Int))]))
                                              (iteP (decide ((255 : Int) < x_3.fst))
                                                (K
                                                  (AV.tup
                                                    [AV.agg
                                                        [AV.sc (Value.bool false), AV.sc (Value.bool false),
                                                          AV.sc (Value.bool false), AV.sc (Value.bool false),
                                                          AV.sc (Value.int IntKind.i64 (0 : Int)),
                                                          AV.sc (Value.int IntKind.i64 (0 : Int)),
                                                          AV.sc (Value.int IntKind.u8 (0 : Int))],
                                                      AV.sc (Value.string { data := { toList := [] } }),
                                                      AV.sc (Value.int IntKind.i64 (2 : Int))]))
                                                (iteP (inRange (0 : Int) x_3.snd.length)
                                                  (iteP (true && decide ((1 : Int) ≤ (↑x_3.snd.length : Int)))
                                                    (K
                                                      (AV.tup
                                                        [AV.agg
                                                            [AV.sc (Value.bool x.fst.minus),
                                                              AV.sc (Value.bool x.fst.zero),
                                                              AV.sc (Value.bool x.fst.plus),
                                                              AV.sc (Value.bool x.fst.space),
                                                              AV.sc (Value.int IntKind.i64 x_1.fst),
                                                              AV.sc (Value.int IntKind.i64 x_3.fst),
                                                              AV.sc (Value.int IntKind.u8 (byteAt x_3.snd (0 : Int)))],
                                                          AV.sc
                                                            (Value.string
                                                              { data := { toList := List.drop (1 : Nat) x_3.snd } }),
                                                          AV.sc (Value.int IntKind.i64 (0 : Int))]))
                                                    False)
                                                  False)))
                                            (K
                                              (AV.tup
                                                [AV.agg
                                                    [AV.sc (Value.bool false), AV.sc (Value.bool false),
                                                      AV.sc (Value.bool false), AV.sc (Value.bool false),
                                                      AV.sc (Value.int IntKind.i64 (0 : Int)),
                                                      AV.sc (Value.int IntKind.i64 (0 : Int)),
                                                      AV.sc (Value.int IntKind.u8 (0 : Int))],
                                                  AV.sc (Value.string { data := { toList := [] } }),
                                                  AV.sc (Value.int IntKind.i64 (1 : Int))])))
                                    False)))
                        False)
                      (iteP (decide (x_1.snd = []))
                        (K
                          (AV.tup
                            [AV.agg
                                [AV.sc (Value.bool false), AV.sc (Value.bool false), AV.sc (Value.bool false),
                                  AV.sc (Value.bool false), AV.sc (Value.int IntKind.i64 (0 : Int)),
                                  AV.sc (Value.int IntKind.i64 (0 : Int)), AV.sc (Value.int IntKind.u8 (0 : Int))],
                              AV.sc (Value.string { data := { toList := [] } }),
                              AV.sc (Value.int IntKind.i64 (1 : Int))]))
                        (iteP (inRange (0 : Int) x_1.snd.length)
                          (([(100 : UInt8), (105 : UInt8), (111 : UInt8), (120 : UInt8), (88 : UInt8), (117 : UInt8),
                                  (99 : UInt8), (115 : UInt8), (102 : UInt8), (37 : UInt8)] =
                                kinds ∧
                              (0 : Int) ≤ IntKind.i32.wrap (byteAt x_1.snd (0 : Int)) ∧
                                IntKind.i32.wrap (byteAt x_1.snd (0 : Int)) ≤ (255 : Int)) ∧
                            ∀ (x_3 : Bool),
                              x_3 = kinds.contains (UInt8.ofNat (IntKind.i32.wrap (byteAt x_1.snd (0 : Int))).toNat) →
                                iteP x_3
                                  (iteP (decide ((255 : Int) < x_1.fst))
                                    (K
                                      (AV.tup
                                        [AV.agg
                                            [AV.sc (Value.bool false), AV.sc (Value.bool false),
                                              AV.sc (Value.bool false), AV.sc (Value.bool false),
                                              AV.sc (Value.int IntKind.i64 (0 : Int)),
                                              AV.sc (Value.int IntKind.i64 (0 : Int)),
                                              AV.sc (Value.int IntKind.u8 (0 : Int))],
                                          AV.sc (Value.string { data := { toList := [] } }),
                                          AV.sc (Value.int IntKind.i64 (2 : Int))]))
                                    (iteP (decide ((255 : Int) < x.fst.prec))
                                      (K
                                        (AV.tup
                                          [AV.agg
                                              [AV.sc (Value.bool false), AV.sc (Value.bool false),
                                                AV.sc (Value.bool false), AV.sc (Value.bool false),
                                                AV.sc (Value.int IntKind.i64 (0 : Int)),
                                                AV.sc (Value.int IntKind.i64 (0 : Int)),
                                                AV.sc (Value.int IntKind.u8 (0 : Int))],
                                            AV.sc (Value.string { data := { toList := [] } }),
                                            AV.sc (Value.int IntKind.i64 (2 : Int))]))
                                      (iteP (inRange (0 : Int) x_1.snd.length)
                                        (iteP (true && decide ((1 : Int) ≤ (↑x_1.snd.length : Int)))
                                          (K
                                            (AV.tup
                                              [AV.agg
                                                  [AV.sc (Value.bool x.fst.minus), AV.sc (Value.bool x.fst.zero),
                                                    AV.sc (Value.bool x.fst.plus), AV.sc (Value.bool x.fst.space),
                                                    AV.sc (Value.int IntKind.i64 x_1.fst),
                                                    AV.sc (Value.int IntKind.i64 x.fst.prec),
                                                    AV.sc (Value.int IntKind.u8 (byteAt x_1.snd (0 : Int)))],
                                                AV.sc
                                                  (Value.string { data := { toList := List.drop (1 : Nat) x_1.snd } }),
                                                AV.sc (Value.int IntKind.i64 (0 : Int))]))
                                          False)
                                        False)))
                                  (K
                                    (AV.tup
                                      [AV.agg
                                          [AV.sc (Value.bool false), AV.sc (Value.bool false), AV.sc (Value.bool false),
                                            AV.sc (Value.bool false), AV.sc (Value.int IntKind.i64 (0 : Int)),
                                            AV.sc (Value.int IntKind.i64 (0 : Int)),
                                            AV.sc (Value.int IntKind.u8 (0 : Int))],
                                        AV.sc (Value.string { data := { toList := [] } }),
                                        AV.sc (Value.int IntKind.i64 (1 : Int))])))
                          False))) :
    (fun (s : List UInt8) (K : AV → Prop) => wpCall T2 Door.cfg Tryd.prog 40 32 [aStr s] heapF fun r h' => wpBack h' r K) s K :=
  Eq.mp (by kernel_rfl) h

theorem v18 (s : List UInt8) (N : List UInt8 → Prop) (X : Ex → Int → Prop) (h :
    (s.length ≤ (1000000 : Nat) ∧ [(37 : UInt8)] = [(37 : UInt8)]) ∧
  ∀ (x : List UInt8 × List UInt8 × Bool),
    x = (before s, after s, hasPct s) →
      iteP x.snd.snd
        (x.snd.fst.length.le (1000000 : Nat) ∧
          ∀ (x_1 : Dir × List UInt8 × Int),
            x_1 = readF x.snd.fst →
              iteP (x_1.snd.snd != (0 : Int)) (J18 x_1.snd.snd = J18 x_1.snd.snd ∧ X Ex.ret x_1.snd.snd)
                (I18 x_1.snd.fst = I18 x_1.snd.fst ∧ N x_1.snd.fst))
        (J18 (0 : Int) = J18 (0 : Int) ∧ X Ex.ret (0 : Int))) :
    (fun (s : List UInt8) (N : List UInt8 → Prop) (X : Ex → Int → Prop) => wpRound T3 Door.cfg Tryd.prog 40 18 2 (I18 s) (fun τ => τ = I18 (slS τ 0) ∧ N (slS τ 0)) (fun e τ => τ = J18 (slI τ 4) ∧ X e (slI τ 4))) s N X :=
  Eq.mp (by kernel_rfl) h

theorem c8 (s : List UInt8) (K : AV → Prop) (h :
    loopAt Tryd.prog (18 : Nat) (2 : Nat) = loopAt Tryd.prog (18 : Nat) (2 : Nat) ∧
  (I18 s = I18 s ∧ s.length ≤ (1000000 : Nat)) ∧
    ∀ (x : Int), x = checkF (s.length + (1 : Nat)) s → K (AV.sc (Value.int IntKind.i64 x))) :
    (fun (s : List UInt8) (K : AV → Prop) => wpCall T4 Door.cfg Tryd.prog 40 8 [aStr s] heapF fun r h' => wpBack h' r K) s K :=
  Eq.mp (by kernel_rfl) h

end
end Go.Proofs.Pr

/- Printf: the reference's reader; tables. -/
namespace Go.Proofs.Pr
open Go Go.Ef
noncomputable section

def numA (l : Int) : List UInt8 → Int → Int × List UInt8
  | [], n => (n, [])
  | c :: r, n => if (c.toNat : Int) < l then (n, c :: r) else numL (c :: r) n
def E9 : St := stOf 29 [(2, .unk)] [] heapF

def L34 (σ : St) : Option LSpec := some (lspec (σ.tidy [0, 1, 2, 8, 9] 0 = I34 (slS σ 0) (slI σ 1) (slI σ 2) (slI σ 8) (slI σ 9) ∧ slI σ 8 = -1 ∧ slI σ 9 = slI σ 1 ∧ 0 ≤ slI σ 1 ∧ slI σ 1 ≤ ((slS σ 0).length : Int) ∧ (slS σ 0).length ≤ 1000000)
  (Int × Int) (fun x => 0 ≤ x.2 ∧ x.2 ≤ ((slS σ 0).length : Int) ∧ numA (slI σ 2) ((slS σ 0).drop (slI σ 1).toNat) (-1) = (x.1, (slS σ 0).drop x.2.toNat)) (.exit 0) (fun x => J34 x.1 x.2))
def C34 (args : List AV) (h : Heap) : Option CSpec :=
  match args with
  | [.sc (.string s), .sc (.int .i64 a), .sc (.int .u8 l)] => some { pre := s.data.toList.length ≤ 1000000 ∧ 0 ≤ a ∧ a ≤ (s.data.toList.length : Int), alts := [{ α := Int × Int, post := fun x => 0 ≤ x.2 ∧ x.2 ≤ (s.data.toList.length : Int) ∧ numR l (s.data.toList.drop a.toNat) = (x.1, s.data.toList.drop x.2.toNat), val := fun x => .tup [aK .i64 x.1, aK .i64 x.2], heap := fun _ => h }] }
  | _ => none
def L33 (σ : St) : Option LSpec := some (lspec (σ.tidy [0, 1, 5] 0 = I33 (slS σ 0) (slI σ 1) (slI σ 5) ∧ slI σ 5 = 0 ∧ (slS σ 0).length ≤ 1000000)
  Bool (fun x => x = (slS σ 0).any (fun c => decide ((c.toNat : Int) = slI σ 1))) .ret (fun x => J33 x))
def L33' (σ : St) : Option LSpec := some { pre := σ.tidy [0, 1, 5] 0 = I33 (slS σ 0) (slI σ 1) (slI σ 5) ∧ slI σ 5 = 0 ∧ (slS σ 0).length ≤ 1000000, alts := [{ α := Unit, post := fun _ => (slS σ 0).any (fun c => decide ((c.toNat : Int) = slI σ 1)) = true, ex := .ret, st := fun _ => J33 true }, { α := Unit, post := fun _ => (slS σ 0).any (fun c => decide ((c.toNat : Int) = slI σ 1)) = false, ex := .exit 0, st := fun _ => stOf 17 [(4, .unk)] [] heapF }] }
def C33 (args : List AV) (h : Heap) : Option CSpec :=
  match args with
  | [.sc (.string s), .sc (.int .u8 c)] => some (nspec (s.data.toList.length ≤ 1000000) (s.data.toList.any fun b => decide ((b.toNat : Int) = c)) (fun x => aBool x) h)
  | _ => none
def L20 (σ : St) : Option LSpec := some (lspec (σ.tidy [0, 1, 4, 7] 2 = I20 (slS σ 0) (slI σ 1) (rdDir σ 1) ∧ 0 ≤ slI σ 1 ∧ slI σ 1 ≤ ((slS σ 0).length : Int) ∧ (slS σ 0).length ≤ 1000000)
  (Int × Dir) (fun x => 0 ≤ x.1 ∧ x.1 ≤ ((slS σ 0).length : Int) ∧ flagsF ((slS σ 0).drop (slI σ 1).toNat) (rdDir σ 1) = (x.2, (slS σ 0).drop x.1.toNat)) (.exit 0) (fun x => I20 (slS σ 0) x.1 x.2))
def C20 (args : List AV) (h : Heap) : Option CSpec :=
  match args with
  | [.sc (.string s), .sc (.int .i64 a)] => some { pre := s.data.toList.length ≤ 1000000 ∧ 0 ≤ a ∧ a ≤ (s.data.toList.length : Int), alts := [{ α := Dir × Int × Int, post := fun x => ((x.2.2 = 0 ∧ 0 ≤ x.2.1 ∧ x.2.1 ≤ (s.data.toList.length : Int) ∧ readR (s.data.toList.drop a.toNat) = (x.1, s.data.toList.drop x.2.1.toNat, 0)) ∨ (x.2.2 ≠ 0 ∧ (readR (s.data.toList.drop a.toNat)).2.2 = x.2.2)), val := fun x => .tup [.agg x.1.cells, aK .i64 x.2.1, aK .i64 x.2.2], heap := fun _ => h }] }
  | _ => none
def L9 (σ : St) : Option LSpec := some { pre := σ.tidy [0, 3] 0 = I9 (slS σ 0) (slI σ 3) ∧ slI σ 3 = 0 ∧ (slS σ 0).length ≤ 1000000, alts := [{ α := Unit, post := fun _ => checkR ((slS σ 0).length + 1) (slS σ 0) = 0, ex := .exit 0, st := fun _ => E9 }, { α := Int, post := fun x => x = checkR ((slS σ 0).length + 1) (slS σ 0), ex := .ret, st := fun x => J9 x }] }
def C9 (args : List AV) (h : Heap) : Option CSpec :=
  match args with
  | [.sc (.string s)] => some (nspec (s.data.toList.length ≤ 1000000) (checkR (s.data.toList.length + 1) s.data.toList) (fun x => aK .i64 x) h)
  | _ => none
def R1 : Tab := ((T4.addC 8 C8).addL 34 5 L34).addL 33 3 L33'
def R2 : Tab := (R1.addC 34 C34).addC 33 C33
def R3 : Tab := R2.addL 20 3 L20
def R4 : Tab := R3.addC 20 C20
def R5 : Tab := R4.addL 9 3 L9
def C10 (args : List AV) (h : Heap) : Option CSpec :=
  match args with
  | [] => some (nspec True true (fun x => aBool x) h)
  | _ => none
def R6 : Tab := (R5.addC 9 C9).addC 10 C10
end
end Go.Proofs.Pr

/- Printf: conditions of the reference, printed by a program from the evaluation. -/
namespace Go.Proofs.Pr
open Go Go.Ef
noncomputable section
set_option maxRecDepth 100000

theorem v34 (s : List UInt8) (a : Int) (l : Int) (n : Int) (k : Int) (N : Int → Int → Prop) (X : Ex → Int → Int → Prop) (h :
    iteP (decide (k < (↑s.length : Int)))
  (iteP (inRange k s.length)
    (iteP (decide ((48 : Int) ≤ byteAt s k))
      (iteP (inRange k s.length)
        (iteP (decide (byteAt s k ≤ (57 : Int)))
          (iteP (decide (a < k))
            (iteP (inRange k s.length)
              (I34 s a l
                    (min
                      (IntKind.i64.wrap
                        (IntKind.i64.wrap ((10 : Int) * max n (0 : Int)) +
                          IntKind.i64.wrap (IntKind.u8.wrap (byteAt s k - (48 : Int)))))
                      (256 : Int))
                    (IntKind.i64.wrap (k + (1 : Int))) =
                  I34 s a l
                    (min
                      (IntKind.i64.wrap
                        (IntKind.i64.wrap ((10 : Int) * max n (0 : Int)) +
                          IntKind.i64.wrap (IntKind.u8.wrap (byteAt s k - (48 : Int)))))
                      (256 : Int))
                    (IntKind.i64.wrap (k + (1 : Int))) ∧
                N
                  (min
                    (IntKind.i64.wrap
                      (IntKind.i64.wrap ((10 : Int) * max n (0 : Int)) +
                        IntKind.i64.wrap (IntKind.u8.wrap (byteAt s k - (48 : Int)))))
                    (256 : Int))
                  (IntKind.i64.wrap (k + (1 : Int))))
              False)
            (iteP (inRange k s.length)
              (iteP (decide (l ≤ byteAt s k))
                (iteP (inRange k s.length)
                  (I34 s a l
                        (min
                          (IntKind.i64.wrap
                            (IntKind.i64.wrap ((10 : Int) * max n (0 : Int)) +
                              IntKind.i64.wrap (IntKind.u8.wrap (byteAt s k - (48 : Int)))))
                          (256 : Int))
                        (IntKind.i64.wrap (k + (1 : Int))) =
                      I34 s a l
                        (min
                          (IntKind.i64.wrap
                            (IntKind.i64.wrap ((10 : Int) * max n (0 : Int)) +
                              IntKind.i64.wrap (IntKind.u8.wrap (byteAt s k - (48 : Int)))))
                          (256 : Int))
                        (IntKind.i64.wrap (k + (1 : Int))) ∧
                    N
                      (min
                        (IntKind.i64.wrap
                          (IntKind.i64.wrap ((10 : Int) * max n (0 : Int)) +
                            IntKind.i64.wrap (IntKind.u8.wrap (byteAt s k - (48 : Int)))))
                        (256 : Int))
                      (IntKind.i64.wrap (k + (1 : Int))))
                  False)
                (J34 n k = J34 n k ∧ X (Ex.exit (0 : Nat)) n k))
              False))
          (J34 n k = J34 n k ∧ X (Ex.exit (0 : Nat)) n k))
        False)
      (J34 n k = J34 n k ∧ X (Ex.exit (0 : Nat)) n k))
    False)
  (J34 n k = J34 n k ∧ X (Ex.exit (0 : Nat)) n k)) :
    (fun (s : List UInt8) (a l n k : Int) (N : Int → Int → Prop) (X : Ex → Int → Int → Prop) => wpRound tab0 Door.cfg Tryd.prog 40 34 5 (I34 s a l n k) (fun τ => τ = I34 s a l (slI τ 8) (slI τ 9) ∧ N (slI τ 8) (slI τ 9)) (fun e τ => τ = J34 (slI τ 8) (slI τ 9) ∧ X e (slI τ 8) (slI τ 9))) s a l n k N X :=
  Eq.mp (by kernel_rfl) h

theorem v33 (s : List UInt8) (c : Int) (k : Int) (N : Int → Prop) (X1 : Bool → Prop) (X2 : Ex → Prop) (h :
    iteP (decide (k < (↑s.length : Int)))
  (iteP (inRange k s.length)
    (iteP (byteAt s k == c) (J33 true = J33 true ∧ X1 true)
      (I33 s c (IntKind.i64.wrap (k + (1 : Int))) = I33 s c (IntKind.i64.wrap (k + (1 : Int))) ∧
        N (IntKind.i64.wrap (k + (1 : Int)))))
    False)
  (stOf (17 : Nat) [((4 : Nat), Slot.unk)] [] { next := (1 : Nat), objs := Tr.leaf, ro := (1 : Nat), ty := Tr.leaf } =
      stOf (17 : Nat) [((4 : Nat), Slot.unk)] []
        { next := (1 : Nat), objs := Tr.leaf, ro := (1 : Nat), ty := Tr.leaf } ∧
    X2 (Ex.exit (0 : Nat)))) :
    (fun (s : List UInt8) (c k : Int) (N : Int → Prop) (X1 : Bool → Prop) (X2 : Ex → Prop) => wpRound tab0 Door.cfg Tryd.prog 40 33 3 (I33 s c k) (fun τ => τ = I33 s c (slI τ 5) ∧ N (slI τ 5)) (fun e τ => match e with | .ret => τ = J33 (slB τ 4) ∧ X1 (slB τ 4) | e => τ = stOf 17 [(4, .unk)] [] heapF ∧ X2 e)) s c k N X1 X2 :=
  Eq.mp (by kernel_rfl) h

theorem c34 (s : List UInt8) (a : Int) (l : Int) (K : AV → Prop) (h :
    iteP (decide (a < (↑s.length : Int)))
  (iteP (inRange a s.length)
    (iteP (byteAt s a == (42 : Int))
      (K
        (AV.tup
          [AV.sc (Value.int IntKind.i64 (-2 : Int)), AV.sc (Value.int IntKind.i64 (IntKind.i64.wrap (a + (1 : Int))))]))
      (loopAt Tryd.prog (34 : Nat) (5 : Nat) = loopAt Tryd.prog (34 : Nat) (5 : Nat) ∧
        (I34 s a l (-1 : Int) a = I34 s a l (-1 : Int) a ∧
            (-1 : Int) = (-1 : Int) ∧ a = a ∧ (0 : Int) ≤ a ∧ a ≤ (↑s.length : Int) ∧ s.length ≤ (1000000 : Nat)) ∧
          ∀ (x : Int × Int),
            (0 : Int) ≤ x.snd ∧
                x.snd ≤ (↑s.length : Int) ∧ numA l (List.drop a.toNat s) (-1 : Int) = (x.fst, List.drop x.snd.toNat s) →
              K (AV.tup [AV.sc (Value.int IntKind.i64 x.fst), AV.sc (Value.int IntKind.i64 x.snd)])))
    False)
  (loopAt Tryd.prog (34 : Nat) (5 : Nat) = loopAt Tryd.prog (34 : Nat) (5 : Nat) ∧
    (I34 s a l (-1 : Int) a = I34 s a l (-1 : Int) a ∧
        (-1 : Int) = (-1 : Int) ∧ a = a ∧ (0 : Int) ≤ a ∧ a ≤ (↑s.length : Int) ∧ s.length ≤ (1000000 : Nat)) ∧
      ∀ (x : Int × Int),
        (0 : Int) ≤ x.snd ∧
            x.snd ≤ (↑s.length : Int) ∧ numA l (List.drop a.toNat s) (-1 : Int) = (x.fst, List.drop x.snd.toNat s) →
          K (AV.tup [AV.sc (Value.int IntKind.i64 x.fst), AV.sc (Value.int IntKind.i64 x.snd)]))) :
    (fun (s : List UInt8) (a l : Int) (K : AV → Prop) => wpCall R1 Door.cfg Tryd.prog 40 34 [aStr s, aK .i64 a, aK .u8 l] heapF fun r h' => wpBack h' r K) s a l K :=
  Eq.mp (by kernel_rfl) h

theorem c33 (s : List UInt8) (c : Int) (K : AV → Prop) (h :
    loopAt Tryd.prog (33 : Nat) (3 : Nat) = loopAt Tryd.prog (33 : Nat) (3 : Nat) ∧
  (I33 s c (0 : Int) = I33 s c (0 : Int) ∧ (0 : Int) = (0 : Int) ∧ s.length ≤ (1000000 : Nat)) ∧
    (∀ (_ : Unit), (s.any fun (c_1 : UInt8) => decide ((↑c_1.toNat : Int) = c)) = true → K (AV.sc (Value.bool true))) ∧
      ∀ (_ : Unit), (s.any fun (c_1 : UInt8) => decide ((↑c_1.toNat : Int) = c)) = false → K (AV.sc (Value.bool false))) :
    (fun (s : List UInt8) (c : Int) (K : AV → Prop) => wpCall R1 Door.cfg Tryd.prog 40 33 [aStr s, aK .u8 c] heapF fun r h' => wpBack h' r K) s c K :=
  Eq.mp (by kernel_rfl) h

theorem v20 (s : List UInt8) (a : Int) (d : Dir) (N : Int → Dir → Prop) (X : Ex → Int → Dir → Prop) (h :
    iteP (decide (a < (↑s.length : Int)))
  (iteP (inRange a s.length)
    (Nat.le (4 : Nat) (1000000 : Nat) ∧
      ∀ (x : Bool),
        (x =
            [(45 : UInt8), (48 : UInt8), (43 : UInt8), (32 : UInt8)].any fun (b : UInt8) =>
              decide ((↑b.toNat : Int) = byteAt s a)) →
          iteP x
            (iteP (inRange a s.length)
              (iteP (byteAt s a == (45 : Int))
                (I20 s (IntKind.i64.wrap (a + (1 : Int)))
                      { minus := true, zero := d.zero, plus := d.plus, space := d.space, width := d.width,
                        prec := d.prec, kind := d.kind } =
                    I20 s (IntKind.i64.wrap (a + (1 : Int)))
                      { minus := true, zero := d.zero, plus := d.plus, space := d.space, width := d.width,
                        prec := d.prec, kind := d.kind } ∧
                  N (IntKind.i64.wrap (a + (1 : Int)))
                    { minus := true, zero := d.zero, plus := d.plus, space := d.space, width := d.width, prec := d.prec,
                      kind := d.kind })
                (iteP (byteAt s a == (48 : Int))
                  (I20 s (IntKind.i64.wrap (a + (1 : Int)))
                        { minus := d.minus, zero := true, plus := d.plus, space := d.space, width := d.width,
                          prec := d.prec, kind := d.kind } =
                      I20 s (IntKind.i64.wrap (a + (1 : Int)))
                        { minus := d.minus, zero := true, plus := d.plus, space := d.space, width := d.width,
                          prec := d.prec, kind := d.kind } ∧
                    N (IntKind.i64.wrap (a + (1 : Int)))
                      { minus := d.minus, zero := true, plus := d.plus, space := d.space, width := d.width,
                        prec := d.prec, kind := d.kind })
                  (iteP (byteAt s a == (43 : Int))
                    (I20 s (IntKind.i64.wrap (a + (1 : Int)))
                          { minus := d.minus, zero := d.zero, plus := true, space := d.space, width := d.width,
                            prec := d.prec, kind := d.kind } =
                        I20 s (IntKind.i64.wrap (a + (1 : Int)))
                          { minus := d.minus, zero := d.zero, plus := true, space := d.space, width := d.width,
                            prec := d.prec, kind := d.kind } ∧
                      N (IntKind.i64.wrap (a + (1 : Int)))
                        { minus := d.minus, zero := d.zero, plus := true, space := d.space, width := d.width,
                          prec := d.prec, kind := d.kind })
                    (I20 s (IntKind.i64.wrap (a + (1 : Int)))
                          { minus := d.minus, zero := d.zero, plus := d.plus, space := true, width := d.width,
                            prec := d.prec, kind := d.kind } =
                        I20 s (IntKind.i64.wrap (a + (1 : Int)))
                          { minus := d.minus, zero := d.zero, plus := d.plus, space := true, width := d.width,
                            prec := d.prec, kind := d.kind } ∧
                      N (IntKind.i64.wrap (a + (1 : Int)))
                        { minus := d.minus, zero := d.zero, plus := d.plus, space := true, width := d.width,
                          prec := d.prec, kind := d.kind }))))
              False)
            (I20 s a
                  { minus := d.minus, zero := d.zero, plus := d.plus, space := d.space, width := d.width,
                    prec := d.prec, kind := d.kind } =
                I20 s a
                  { minus := d.minus, zero := d.zero, plus := d.plus, space := d.space, width := d.width,
                    prec := d.prec, kind := d.kind } ∧
              X (Ex.exit (0 : Nat)) a
                { minus := d.minus, zero := d.zero, plus := d.plus, space := d.space, width := d.width, prec := d.prec,
                  kind := d.kind }))
    False)
  (I20 s a
        { minus := d.minus, zero := d.zero, plus := d.plus, space := d.space, width := d.width, prec := d.prec,
          kind := d.kind } =
      I20 s a
        { minus := d.minus, zero := d.zero, plus := d.plus, space := d.space, width := d.width, prec := d.prec,
          kind := d.kind } ∧
    X (Ex.exit (0 : Nat)) a
      { minus := d.minus, zero := d.zero, plus := d.plus, space := d.space, width := d.width, prec := d.prec,
        kind := d.kind })) :
    (fun (s : List UInt8) (a : Int) (d : Dir) (N : Int → Dir → Prop) (X : Ex → Int → Dir → Prop) => wpRound R2 Door.cfg Tryd.prog 40 20 3 (I20 s a d) (fun τ => τ = I20 s (slI τ 1) (rdDir τ 1) ∧ N (slI τ 1) (rdDir τ 1)) (fun e τ => τ = I20 s (slI τ 1) (rdDir τ 1) ∧ X e (slI τ 1) (rdDir τ 1))) s a d N X :=
  Eq.mp (by kernel_rfl) h

theorem c20 (s : List UInt8) (a : Int) (K : AV → Prop) (h :
    loopAt Tryd.prog (20 : Nat) (3 : Nat) = loopAt Tryd.prog (20 : Nat) (3 : Nat) ∧
  (I20 s a
          { minus := false, zero := false, plus := false, space := false, width := (0 : Int), prec := (-1 : Int),
            kind := (0 : Int) } =
        I20 s a
          { minus := false, zero := false, plus := false, space := false, width := (0 : Int), prec := (-1 : Int),
            kind := (0 : Int) } ∧
      (0 : Int) ≤ a ∧ a ≤ (↑s.length : Int) ∧ s.length ≤ (1000000 : Nat)) ∧
    ∀ (x : Int × Dir),
      (0 : Int) ≤ x.fst ∧
          x.fst ≤ (↑s.length : Int) ∧
            flagsF (List.drop a.toNat s)
                { minus := false, zero := false, plus := false, space := false, width := (0 : Int), prec := (-1 : Int),
                  kind := (0 : Int) } =
              (x.snd, List.drop x.fst.toNat s) →
        (s.length ≤ (1000000 : Nat) ∧ (0 : Int) ≤ x.fst ∧ x.fst ≤ (↑s.length : Int)) ∧
          ∀ (x_1 : Int × Int),
            (0 : Int) ≤ x_1.snd ∧
                x_1.snd ≤ (↑s.length : Int) ∧
                  numR (49 : Int) (List.drop x.fst.toNat s) = (x_1.fst, List.drop x_1.snd.toNat s) →
              iteP (decide (x_1.snd < (↑s.length : Int)))
                (iteP (inRange x_1.snd s.length)
                  (iteP (byteAt s x_1.snd == (46 : Int))
                    ((s.length ≤ (1000000 : Nat) ∧
                        (0 : Int) ≤ IntKind.i64.wrap (x_1.snd + (1 : Int)) ∧
                          IntKind.i64.wrap (x_1.snd + (1 : Int)) ≤ (↑s.length : Int)) ∧
                      ∀ (x_2 : Int × Int),
                        (0 : Int) ≤ x_2.snd ∧
                            x_2.snd ≤ (↑s.length : Int) ∧
                              numR (48 : Int) (List.drop (IntKind.i64.wrap (x_1.snd + (1 : Int))).toNat s) =
                                (x_2.fst, List.drop x_2.snd.toNat s) →
                          iteP (x_2.fst == (-1 : Int))
                            (iteP (decide ((↑s.length : Int) ≤ x_2.snd))
                              (K
                                (AV.tup
                                  [AV.agg
                                      [AV.sc (Value.bool false), AV.sc (Value.bool false), AV.sc (Value.bool false),
                                        AV.sc (Value.bool false), AV.sc (Value.int IntKind.i64 (0 : Int)),
                                        AV.sc (Value.int IntKind.i64 (0 : Int)),
                                        AV.sc (Value.int IntKind.u8 (0 : Int))],
                                    AV.sc (Value.int IntKind.i64 (0 : Int)), AV.sc (Value.int IntKind.i64 (1 : Int))]))
                              (iteP (inRange x_2.snd s.length)
                                (Nat.le (10 : Nat) (1000000 : Nat) ∧
                                  ∀ (x_3 : Bool),
                                    (x_3 =
                                        [(100 : UInt8), (105 : UInt8), (111 : UInt8), (120 : UInt8), (88 : UInt8),
                                              (117 : UInt8), (99 : UInt8), (115 : UInt8), (102 : UInt8),
                                              (37 : UInt8)].any
                                          fun (b : UInt8) => decide ((↑b.toNat : Int) = byteAt s x_2.snd)) →
                                      iteP x_3
                                        (iteP (decide ((255 : Int) < x_1.fst))
                                          (K
                                            (AV.tup
                                              [AV.agg
                                                  [AV.sc (Value.bool false), AV.sc (Value.bool false),
                                                    AV.sc (Value.bool false), AV.sc (Value.bool false),
                                                    AV.sc (Value.int IntKind.i64 (0 : Int)),
                                                    AV.sc (Value.int IntKind.i64 (0 : Int)),
                                                    AV.sc (Value.int IntKind.u8 (0 : Int))],
                                                AV.sc (Value.int IntKind.i64 (0 : Int)),
                                                AV.sc (Value.int IntKind.i64 (2 : Int))]))
                                          (iteP (inRange x_2.snd s.length)
                                            (K
                                              (AV.tup
                                                [AV.agg
                                                    [AV.sc (Value.bool x.snd.minus), AV.sc (Value.bool x.snd.zero),
                                                      AV.sc (Value.bool x.snd.plus), AV.sc (Value.bool x.snd.space),
                                                      AV.sc (Value.int IntKind.i64 x_1.fst),
                                                      AV.sc (Value.int IntKind.i64 (0 : Int)),
                                                      AV.sc (Value.int IntKind.u8 (byteAt s x_2.snd))],
                                                  AV.sc
                                                    (Value.int IntKind.i64 (IntKind.i64.wrap (x_2.snd + (1 : Int)))),
                                                  AV.sc (Value.int IntKind.i64 (0 : Int))]))
                                            False))
                                        (K
                                          (AV.tup
                                            [AV.agg
                                                [AV.sc (Value.bool false), AV.sc (Value.bool false),
                                                  AV.sc (Value.bool false), AV.sc (Value.bool false),
                                                  AV.sc (Value.int IntKind.i64 (0 : Int)),
                                                  AV.sc (Value.int IntKind.i64 (0 : Int)),
                                                  AV.sc (Value.int IntKind.u8 (0 : Int))],
                                              AV.sc (Value.int IntKind.i64 (0 : Int)),
                                              AV.sc (Value.int IntKind.i64 (1 : Int))])))
                                False))
                            (iteP (decide ((↑s.length : Int) ≤ x_2.snd))
                              (K
                                (AV.tup
                                  [AV.agg
                                      [AV.sc (Value.bool false), AV.sc (Value.bool false), AV.sc (Value.bool false),
                                        AV.sc (Value.bool false), AV.sc (Value.int IntKind.i64 (0 : Int)),
                                        AV.sc (Value.int IntKind.i64 (0 : Int)),
                                        AV.sc (Value.int IntKind.u8 (0 : Int))],
                                    AV.sc (Value.int IntKind.i64 (0 : Int)), AV.sc (Value.int IntKind.i64 (1 : Int))]))
                              (iteP (inRange x_2.snd s.length)
                                (Nat.le (10 : Nat) (1000000 : Nat) ∧
                                  ∀ (x_3 : Bool),
                                    (x_3 =
                                        [(100 : UInt8), (105 : UInt8), (111 : UInt8), (120 : UInt8), (88 : UInt8),
                                              (117 : UInt8), (99 : UInt8), (115 : UInt8), (102 : UInt8),
                                              (37 : UInt8)].any
                                          fun (b : UInt8) => decide ((↑b.toNat : Int) = byteAt s x_2.snd)) →
                                      iteP x_3
                                        (iteP (decide ((255 : Int) < x_1.fst))
                                          (K
                                            (AV.tup
                                              [AV.agg
                                                  [AV.sc (Value.bool false), AV.sc (Value.bool false),
                                                    AV.sc (Value.bool false), AV.sc (Value.bool false),
                                                    AV.sc (Value.int IntKind.i64 (0 : Int)),
                                                    AV.sc (Value.int IntKind.i64 (0 : Int)),
                                                    AV.sc (Value.int IntKind.u8 (0 : Int))],
                                                AV.sc (Value.int IntKind.i64 (0 : Int)),
                                                AV.sc (Value.int IntKind.i64 (2 : Int))]))
                                          (iteP (decide ((255 : Int) < x_2.fst))
                                            (K
                                              (AV.tup
                                                [AV.agg
                                                    [AV.sc (Value.bool false), AV.sc (Value.bool false),
                                                      AV.sc (Value.bool false), AV.sc (Value.bool false),
                                                      AV.sc (Value.int IntKind.i64 (0 : Int)),
                                                      AV.sc (Value.int IntKind.i64 (0 : Int)),
                                                      AV.sc (Value.int IntKind.u8 (0 : Int))],
                                                  AV.sc (Value.int IntKind.i64 (0 : Int)),
                                                  AV.sc (Value.int IntKind.i64 (2 : Int))]))
                                            (iteP (inRange x_2.snd s.length)
                                              (K
                                                (AV.tup
                                                  [AV.agg
                                                      [AV.sc (Value.bool x.snd.minus), AV.sc (Value.bool x.snd.zero),
                                                        AV.sc (Value.bool x.snd.plus), AV.sc (Value.bool x.snd.space),
                                                        AV.sc (Value.int IntKind.i64 x_1.fst),
                                                        AV.sc (Value.int IntKind.i64 x_2.fst),
                                                        AV.sc (Value.int IntKind.u8 (byteAt s x_2.snd))],
                                                    AV.sc
                                                      (Value.int IntKind.i64 (IntKind.i64.wrap (x_2.snd + (1 : Int)))),
                                                    AV.sc (Value.int IntKind.i64 (0 : Int))]))
                                              False)))
                                        (K
                                          (AV.tup
                                            [AV.agg
                                                [AV.sc (Value.bool false), AV.sc (Value.bool false),
                                                  AV.sc (Value.bool false), AV.sc (Value.bool false),
                                                  AV.sc (Value.int IntKind.i64 (0 : Int)),
                                                  AV.sc (Value.int IntKind.i64 (0 : Int)),
                                                  AV.sc (Value.int IntKind.u8 (0 : Int))],
                                              AV.sc (Value.int IntKind.i64 (0 : Int)),
                                              AV.sc (Value.int IntKind.i64 (1 : Int))])))
                                False)))
                    (iteP (decide ((↑s.length : Int) ≤ x_1.snd))
                      (K
                        (AV.tup
                          [AV.agg
                              [AV.sc (Value.bool false), AV.sc (Value.bool false), AV.sc (Value.bool false),
                                AV.sc (Value.bool false), AV.sc (Value.int IntKind.i64 (0 : Int)),
                                AV.sc (Value.int IntKind.i64 (0 : Int)), AV.sc (Value.int IntKind.u8 (0 : Int))],
                            AV.sc (Value.int IntKind.i64 (0 : Int)), AV.sc (Value.int IntKind.i64 (1 : Int))]))
                      (iteP (inRange x_1.snd s.length)
                        (Nat.le (10 : Nat) (1000000 : Nat) ∧
                          ∀ (x_2 : Bool),
                            (x_2 =
                                [(100 : UInt8), (105 : UInt8), (111 : UInt8), (120 : UInt8), (88 : UInt8),
                                      (117 : UInt8), (99 : UInt8), (115 : UInt8), (102 : UInt8), (37 : UInt8)].any
                                  fun (b : UInt8) => decide ((↑b.toNat : Int) = byteAt s x_1.snd)) →
                              iteP x_2
                                (iteP (decide ((255 : Int) < x_1.fst))
                                  (K
                                    (AV.tup
                                      [AV.agg
                                          [AV.sc (Value.bool false), AV.sc (Value.bool false), AV.sc (Value.bool false),
                                            AV.sc (Value.bool false), AV.sc (Value.int IntKind.i64 (0 : Int)),
                                            AV.sc (Value.int IntKind.i64 (0 : Int)),
                                            AV.sc (Value.int IntKind.u8 (0 : Int))],
                                        AV.sc (Value.int IntKind.i64 (0 : Int)),
                                        AV.sc (Value.int IntKind.i64 (2 : Int))]))
                                  (iteP (decide ((255 : Int) < x.snd.prec))
                                    (K
                                      (AV.tup
                                        [AV.agg
                                            [AV.sc (Value.bool false), AV.sc (Value.bool false),
                                              AV.sc (Value.bool false), AV.sc (Value.bool false),
                                              AV.sc (Value.int IntKind.i64 (0 : Int)),
                                              AV.sc (Value.int IntKind.i64 (0 : Int)),
                                              AV.sc (Value.int IntKind.u8 (0 : Int))],
                                          AV.sc (Value.int IntKind.i64 (0 : Int)),
                                          AV.sc (Value.int IntKind.i64 (2 : Int))]))
                                    (iteP (inRange x_1.snd s.length)
                                      (K
                                        (AV.tup
                                          [AV.agg
                                              [AV.sc (Value.bool x.snd.minus), AV.sc (Value.bool x.snd.zero),
                                                AV.sc (Value.bool x.snd.plus), AV.sc (Value.bool x.snd.space),
                                                AV.sc (Value.int IntKind.i64 x_1.fst),
                                                AV.sc (Value.int IntKind.i64 x.snd.prec),
                                                AV.sc (Value.int IntKind.u8 (byteAt s x_1.snd))],
                                            AV.sc (Value.int IntKind.i64 (IntKind.i64.wrap (x_1.snd + (1 : Int)))),
                                            AV.sc (Value.int IntKind.i64 (0 : Int))]))
                                      False)))
                                (K
                                  (AV.tup
                                    [AV.agg
                                        [AV.sc (Value.bool false), AV.sc (Value.bool false), AV.sc (Value.bool false),
                                          AV.sc (Value.bool false), AV.sc (Value.int IntKind.i64 (0 : Int)),
                                          AV.sc (Value.int IntKind.i64 (0 : Int)),
                                          AV.sc (Value.int IntKind.u8 (0 : Int))],
                                      AV.sc (Value.int IntKind.i64 (0 : Int)),
                                      AV.sc (Value.int IntKind.i64 (1 : Int))])))
                        False)))
                  False)
                (iteP (decide ((↑s.length : Int) ≤ x_1.snd))
                  (K
                    (AV.tup
                      [AV.agg
                          [AV.sc (Value.bool false), AV.sc (Value.bool false), AV.sc (Value.bool false),
                            AV.sc (Value.bool false), AV.sc (Value.int IntKind.i64 (0 : Int)),
                            AV.sc (Value.int IntKind.i64 (0 : Int)), AV.sc (Value.int IntKind.u8 (0 : Int))],
                        AV.sc (Value.int IntKind.i64 (0 : Int)), AV.sc (Value.int IntKind.i64 (1 : Int))]))
                  (iteP (inRange x_1.snd s.length)
                    (Nat.le (10 : Nat) (1000000 : Nat) ∧
                      ∀ (x_2 : Bool),
                        (x_2 =
                            [(100 : UInt8), (105 : UInt8), (111 : UInt8), (120 : UInt8), (88 : UInt8), (117 : UInt8),
                                  (99 : UInt8), (115 : UInt8), (102 : UInt8), (37 : UInt8)].any
                              fun (b : UInt8) => decide ((↑b.toNat : Int) = byteAt s x_1.snd)) →
                          iteP x_2
                            (iteP (decide ((255 : Int) < x_1.fst))
                              (K
                                (AV.tup
                                  [AV.agg
                                      [AV.sc (Value.bool false), AV.sc (Value.bool false), AV.sc (Value.bool false),
                                        AV.sc (Value.bool false), AV.sc (Value.int IntKind.i64 (0 : Int)),
                                        AV.sc (Value.int IntKind.i64 (0 : Int)),
                                        AV.sc (Value.int IntKind.u8 (0 : Int))],
                                    AV.sc (Value.int IntKind.i64 (0 : Int)), AV.sc (Value.int IntKind.i64 (2 : Int))]))
                              (iteP (decide ((255 : Int) < x.snd.prec))
                                (K
                                  (AV.tup
                                    [AV.agg
                                        [AV.sc (Value.bool false), AV.sc (Value.bool false), AV.sc (Value.bool false),
                                          AV.sc (Value.bool false), AV.sc (Value.int IntKind.i64 (0 : Int)),
                                          AV.sc (Value.int IntKind.i64 (0 : Int)),
                                          AV.sc (Value.int IntKind.u8 (0 : Int))],
                                      AV.sc (Value.int IntKind.i64 (0 : Int)),
                                      AV.sc (Value.int IntKind.i64 (2 : Int))]))
                                (iteP (inRange x_1.snd s.length)
                                  (K
                                    (AV.tup
                                      [AV.agg
                                          [AV.sc (Value.bool x.snd.minus), AV.sc (Value.bool x.snd.zero),
                                            AV.sc (Value.bool x.snd.plus), AV.sc (Value.bool x.snd.space),
                                            AV.sc (Value.int IntKind.i64 x_1.fst),
                                            AV.sc (Value.int IntKind.i64 x.snd.prec),
                                            AV.sc (Value.int IntKind.u8 (byteAt s x_1.snd))],
                                        AV.sc (Value.int IntKind.i64 (IntKind.i64.wrap (x_1.snd + (1 : Int)))),
                                        AV.sc (Value.int IntKind.i64 (0 : Int))]))
                                  False)))
                            (K
                              (AV.tup
                                [AV.agg
                                    [AV.sc (Value.bool false), AV.sc (Value.bool false), AV.sc (Value.bool false),
                                      AV.sc (Value.bool false), AV.sc (Value.int IntKind.i64 (0 : Int)),
                                      AV.sc (Value.int IntKind.i64 (0 : Int)), AV.sc (Value.int IntKind.u8 (0 : Int))],
                                  AV.sc (Value.int IntKind.i64 (0 : Int)), AV.sc (Value.int IntKind.i64 (1 : Int))])))
                    False))) :
    (fun (s : List UInt8) (a : Int) (K : AV → Prop) => wpCall R3 Door.cfg Tryd.prog 40 20 [aStr s, aK .i64 a] heapF fun r h' => wpBack h' r K) s a K :=
  Eq.mp (by kernel_rfl) h

theorem v9 (s : List UInt8) (k : Int) (N : Int → Prop) (X1 : Int → Prop) (X2 : Ex → Prop) (h :
    iteP (decide (k < (↑s.length : Int)))
  (iteP (inRange k s.length)
    (iteP (byteAt s k != (37 : Int))
      (I9 s (IntKind.i64.wrap (k + (1 : Int))) = I9 s (IntKind.i64.wrap (k + (1 : Int))) ∧
        N (IntKind.i64.wrap (k + (1 : Int))))
      ((s.length ≤ (1000000 : Nat) ∧
          (0 : Int) ≤ IntKind.i64.wrap (k + (1 : Int)) ∧ IntKind.i64.wrap (k + (1 : Int)) ≤ (↑s.length : Int)) ∧
        ∀ (x : Dir × Int × Int),
          x.snd.snd = (0 : Int) ∧
                (0 : Int) ≤ x.snd.fst ∧
                  x.snd.fst ≤ (↑s.length : Int) ∧
                    readR (List.drop (IntKind.i64.wrap (k + (1 : Int))).toNat s) =
                      (x.fst, List.drop x.snd.fst.toNat s, (0 : Int)) ∨
              x.snd.snd ≠ (0 : Int) ∧
                (readR (List.drop (IntKind.i64.wrap (k + (1 : Int))).toNat s)).snd.snd = x.snd.snd →
            iteP (x.snd.snd != (0 : Int)) (J9 x.snd.snd = J9 x.snd.snd ∧ X1 x.snd.snd)
              (I9 s x.snd.fst = I9 s x.snd.fst ∧ N x.snd.fst)))
    False)
  (E9 = E9 ∧ X2 (Ex.exit (0 : Nat)))) :
    (fun (s : List UInt8) (k : Int) (N : Int → Prop) (X1 : Int → Prop) (X2 : Ex → Prop) => wpRound R4 Door.cfg Tryd.prog 40 9 3 (I9 s k) (fun τ => τ = I9 s (slI τ 3) ∧ N (slI τ 3)) (fun e τ => match e with | .ret => τ = J9 (slI τ 2) ∧ X1 (slI τ 2) | e => τ = E9 ∧ X2 e)) s k N X1 X2 :=
  Eq.mp (by kernel_rfl) h

theorem c9 (s : List UInt8) (K : AV → Prop) (h :
    loopAt Tryd.prog (9 : Nat) (3 : Nat) = loopAt Tryd.prog (9 : Nat) (3 : Nat) ∧
  (I9 s (0 : Int) = I9 s (0 : Int) ∧ (0 : Int) = (0 : Int) ∧ s.length ≤ (1000000 : Nat)) ∧
    (∀ (_ : Unit), checkR (s.length + (1 : Nat)) s = (0 : Int) → K (AV.sc (Value.int IntKind.i64 (0 : Int)))) ∧
      ∀ (x : Int), x = checkR (s.length + (1 : Nat)) s → K (AV.sc (Value.int IntKind.i64 x))) :
    (fun (s : List UInt8) (K : AV → Prop) => wpCall R5 Door.cfg Tryd.prog 40 9 [aStr s] heapF fun r h' => wpBack h' r K) s K :=
  Eq.mp (by kernel_rfl) h

theorem c3 (s : List UInt8) (K : AV → Heap → Prop) (h :
    iteP (decide ((60 : Int) < (↑s.length : Int)))
  (True ∧
    ∀ (x : Bool),
      x = true →
        iteP x (K (AV.sc (Value.bool true)) { next := (1 : Nat), objs := Tr.leaf, ro := (0 : Nat), ty := Tr.leaf })
          (K (AV.sc (Value.bool false)) { next := (1 : Nat), objs := Tr.leaf, ro := (0 : Nat), ty := Tr.leaf }))
  (s.length.le (1000000 : Nat) ∧
    ∀ (x : Int),
      x = checkF (s.length + (1 : Nat)) s →
        s.length.le (1000000 : Nat) ∧
          ∀ (x_1 : Int),
            x_1 = checkR (s.length + (1 : Nat)) s →
              iteP (x == x_1)
                (True ∧
                  ∀ (x : Bool),
                    x = true →
                      iteP x
                        (K (AV.sc (Value.bool true))
                          { next := (1 : Nat), objs := Tr.leaf, ro := (0 : Nat), ty := Tr.leaf })
                        (K (AV.sc (Value.bool false))
                          { next := (1 : Nat), objs := Tr.leaf, ro := (0 : Nat), ty := Tr.leaf }))
                (K (AV.sc (Value.bool false)) { next := (1 : Nat), objs := Tr.leaf, ro := (0 : Nat), ty := Tr.leaf }))) :
    (fun (s : List UInt8) (K : AV → Heap → Prop) => wpCall R6 Door.cfg Tryd.prog 40 3 [aStr s] heap0 K) s K :=
  Eq.mp (by kernel_rfl) h

end
end Go.Proofs.Pr

