/- Printf: the rounds and the loop of Sprintf in general. -/
import Derived.Test.YtfgocjmkefeeeaaDoorPrH
/- Printf: bodies, runs, in plain form; the rounds of Sprintf in general. -/
namespace Go.Proofs.Pr
open Go Go.Ef
noncomputable section

def digitC (n : Nat) : UInt8 := if n < 10 then UInt8.ofNat (48 + n) else UInt8.ofNat (87 + n)
def digitsL (base : Nat) : Nat → Nat → List UInt8 → List UInt8
  | 0, _, acc => acc
  | f + 1, n, acc => if n < base then digitC n :: acc else digitsL base f (n / base) (digitC (n % base) :: acc)
def fmtN (base n : Nat) : List UInt8 := digitsL base 70 n []
def stripZ (l : List UInt8) : List UInt8 := (l.reverse.dropWhile (· == 48)).reverse
def decF (d : Int) : List UInt8 :=
  (if d < 0 then [45] else []) ++ fmtN 10 (d.natAbs / 10000) ++ (if d.natAbs % 10000 = 0 then [] else [46] ++ stripZ ((fmtN 10 (10000 + d.natAbs % 10000)).drop 1))
def textF (k n : Int) (s : List UInt8) : List UInt8 := if k = 1 then decF (nearF n) else if k = 2 ∨ k = 3 then s else []
def signF (d : Dir) (neg : Bool) : List UInt8 := if neg then [45] else if d.plus then [43] else if d.space then [32] else []
def zerosF (n : Int) : List UInt8 := List.replicate n.toNat 48
def upC (c : UInt8) : UInt8 := if 97 ≤ (c.toNat : Int) ∧ (c.toNat : Int) ≤ 122 then UInt8.ofNat (c.toNat - 32) else c
def intDigits (d : Dir) (n : Int) : List UInt8 :=
  if n = 0 ∧ d.prec = 0 then []
  else if d.kind = 100 ∨ d.kind = 105 then fmtN 10 n.natAbs
  else
    let m := (if n < 0 then n + 4294967296 else n).toNat
    if d.kind = 111 then fmtN 8 m else if d.kind = 120 then fmtN 16 m else if d.kind = 88 then (fmtN 16 m).map upC else fmtN 10 m
def integerF (d : Dir) (n : Int) : List UInt8 × List UInt8 :=
  (if d.kind = 100 ∨ d.kind = 105 then signF d (decide (n < 0)) else [], zerosF (d.prec - (intDigits d n).length) ++ intDigits d n)
def unitF (p : Int) : Int := if p ≤ 0 then 10000 else if p = 1 then 1000 else if p = 2 then 100 else if p = 3 then 10 else 1
def roundF (x p : Int) : Int := if nearF x < 0 then -((-(nearF x) + unitF p / 2) / unitF p * unitF p) else (nearF x + unitF p / 2) / unitF p * unitF p
def placesF (d : Dir) : Int := if d.prec = -1 then 6 else d.prec
def decimalsF (d : Dir) (x : Int) : List UInt8 × List UInt8 :=
  let r := roundF x (min (placesF d) 4)
  let rest := fmtN 10 (r.natAbs % 10000)
  (signF d (decide (x < 0) && decide (r ≠ 0)),
    fmtN 10 (r.natAbs / 10000) ++ (if placesF d > 0 then [46] ++ (zerosF (4 - rest.length) ++ rest ++ zerosF (placesF d - 4)).take (placesF d).toNat else []))
def bodyF (d : Dir) (k n : Int) (s : List UInt8) : List UInt8 × List UInt8 :=
  if d.kind = 99 then (if k = 1 then ([], [UInt8.ofNat (((nearF (numberF k n s)).tdiv 10000 % 256).toNat)]) else ([], (textF k n s).take 1))
  else if d.kind = 115 then ([], if d.prec = -1 then textF k n s else (textF k n s).take d.prec.toNat)
  else if d.kind = 102 then decimalsF d (numberF k n s)
  else integerF d ((nearF (numberF k n s)).tdiv 10000)
/- for which bodies the contract stands -/
def bodyOk (d : Dir) (k : Int) : Bool := d.kind == 115 && k != 1 && decide (-1 ≤ d.prec)
def C24 (args : List AV) (h : Heap) : Option CSpec :=
  match args with
  | [.agg [.sc (.bool a), .sc (.bool b), .sc (.bool c), .sc (.bool e), .sc (.int .i64 w), .sc (.int .i64 p), .sc (.int .u8 kd)], .agg [.sc (.int .i64 k), .sc (.int .i64 n), .sc (.string s)]] =>
    some (nspec (bodyOk ⟨a, b, c, e, w, p, kd⟩ k = true ∧ s.data.toList.length ≤ 1000000) (bodyF ⟨a, b, c, e, w, p, kd⟩ k n s.data.toList) (fun x => .tup [aStr x.1, aStr x.2]) h)
  | _ => none

def wasI (τ : St) (K : List UInt8 → Heap → Prop) : Prop :=
  match τ with
  | ⟨41, .node (.node .leaf (some (.v (.fn (.func 21) [] [.ptr 3 0, .ptr 2 0]))) .leaf) (some (.v (.sc (.string ⟨⟨s⟩⟩)))) .leaf, .unk, [], h⟩ => K s h
  | _ => False
def wasJ (τ : St) (K : Int → Heap → Prop) : Prop :=
  match τ with
  | ⟨41, .node .leaf none (.node (.node .leaf (some (.v (.sc (.int .i64 e)))) .leaf) none .leaf), .unk, [], h⟩ => K e h
  | _ => False
def rdA (h : Heap) (K : AV → Prop) : Prop :=
  match h with
  | ⟨4, .node (.node (.node .leaf (some (.cells [.sc (.pointer none), .sc (.slice none 0 0)])) .leaf) (some (.cells [a])) .leaf) none (.node .leaf (some (.cells [.ptr 1 0])) .leaf), 1, .node (.node (.node .leaf (some (54, 2)) .leaf) (some (51, 1)) .leaf) none (.node .leaf (some (49, 1)) .leaf)⟩ => K a
  | _ => False
theorem rdA_ok {h : Heap} {K : AV → Prop} (hk : rdA h K) : ∃ a, h = hA a ∧ K a := by
  unfold rdA at hk
  split at hk
  · exact ⟨_, rfl, hk⟩
  · exact hk.elim
theorem wasI_ok {τ : St} {K : List UInt8 → Heap → Prop} (hk : wasI τ K) : ∃ s h, τ = IS s h ∧ K s h := by
  unfold wasI at hk
  split at hk
  · exact ⟨_, _, rfl, hk⟩
  · exact hk.elim
theorem wasJ_ok {τ : St} {K : Int → Heap → Prop} (hk : wasJ τ K) : ∃ s h, τ = JS s h ∧ K s h := by
  unfold wasJ at hk
  split at hk
  · exact ⟨_, _, rfl, hk⟩
  · exact hk.elim
def qN (NB : List UInt8 → AV → Prop) (NC : List UInt8 → AV → Cells → Nat → Prop) (τ : St) : Prop :=
  wasI τ fun s h => match shp h with
    | 1 => rdB h (NB s)
    | 2 => rdC h (NC s)
    | _ => False
def qX (XA XB : Int → AV → Prop) (XC : Int → AV → Cells → Nat → Prop) (e : Ex) (τ : St) : Prop :=
  match e with
  | .ret => wasJ τ fun v h => match shp h with
    | 0 => rdA h (XA v)
    | 1 => rdB h (XB v)
    | 2 => rdC h (XC v)
    | _ => False
  | _ => False
def Y2 : Tab := ((Z2.addC 32 C32).addC 23 C23).addC 24 C24
end
end Go.Proofs.Pr

/- Printf: conditions of the rounds of Sprintf in general, printed by a program from the evaluation. -/
namespace Go.Proofs.Pr
open Go Go.Ef
noncomputable section
set_option maxRecDepth 100000

theorem gA (s : List UInt8) (l : Cells) (NB : List UInt8 → AV → Prop) (NC : List UInt8 → AV → Cells → Nat → Prop) (XA : Int → AV → Prop) (XB : Int → AV → Prop) (XC : Int → AV → Cells → Nat → Prop) (h :
 (s.length ≤ (1000000 : Nat) ∧ [(37 : UInt8)] = [(37 : UInt8)]) ∧
 ∀ (x : List UInt8 × List UInt8 × Bool),
 x = (before s, after s, hasPct s) →
 iteP x.snd.snd
 (x.snd.fst.length.le (1000000 : Nat) ∧
 ∀ (x_1 : Dir × List UInt8 × Int),
 x_1 = readF x.snd.fst →
 iteP (x_1.snd.snd != (0 : Int)) (XA x_1.snd.snd (AV.sl l (0 : Nat)))
 (iteP
 ((List.map (fun (b : UInt8) => [AV.sc (Value.int IntKind.u8 (↑b.toNat : Int))]) x.fst).all
 fun (e : List AV) => e.all AV.one)
 (iteP (List.map (fun (b : UInt8) => [AV.sc (Value.int IntKind.u8 (↑b.toNat : Int))]) x.fst).isEmpty
 ((sB (AV.sl l (0 : Nat)) = sB (AV.sl l (0 : Nat)) ∧ goodsB l = true) ∧
 ∀ (x : Dir × Int × Cells),
 x =
 resolveF
 (Dir.mk x_1.fst.minus x_1.fst.zero x_1.fst.plus x_1.fst.space x_1.fst.width x_1.fst.prec
 x_1.fst.kind)
 l →
 iteP (x.snd.fst != (0 : Int))
 (iteP (x.snd.fst != (0 : Int)) (XB x.snd.fst (AV.sl x.snd.snd (0 : Nat)))
 (NB x_1.snd.fst (AV.sl x.snd.snd (0 : Nat))))
 (iteP (x.fst.kind != (37 : Int))
 (iteP (inRange (0 : Int) (List.length x.snd.snd))
 (getI (0 : Nat) x.snd.snd =
 some
 [AV.sc (Value.int IntKind.i64 (cellInt x.snd.snd (0 : Int) (0 : Nat))),
 AV.sc (Value.int IntKind.i64 (cellInt x.snd.snd (0 : Int) (1 : Nat))),
 AV.sc
 (Value.string
 (ByteArray.mk (Array.mk (cellStr x.snd.snd (0 : Int) (2 : Nat)))))] ∧
 (bodyOk
 (Dir.mk x.fst.minus x.fst.zero x.fst.plus x.fst.space x.fst.width x.fst.prec
 x.fst.kind)
 (cellInt x.snd.snd (0 : Int) (0 : Nat)) =
 true ∧
 (cellStr x.snd.snd (0 : Int) (2 : Nat)).length ≤ (1000000 : Nat)) ∧
 ∀ (x_2 : List UInt8 × List UInt8),
 x_2 =
 bodyF
 (Dir.mk x.fst.minus x.fst.zero x.fst.plus x.fst.space x.fst.width x.fst.prec
 x.fst.kind)
 (cellInt x.snd.snd (0 : Int) (0 : Nat))
 (cellInt x.snd.snd (0 : Int) (1 : Nat))
 (cellStr x.snd.snd (0 : Int) (2 : Nat)) →
 iteP (headLen (3 : Nat) x.snd.snd)
 (iteP (true && decide ((1 : Int) ≤ (↑(List.length x.snd.snd) : Int)))
 (((-1000 : Int) ≤ x.fst.width ∧
 x.fst.width ≤ (1000 : Int) ∧
 (0 : Int) ≤ x.fst.kind ∧
 x.fst.kind ≤ (255 : Int) ∧
 x_2.fst.length ≤ (1000000 : Nat) ∧
 x_2.snd.length ≤ (1000000 : Nat)) ∧
 ∀ (x_3 : List UInt8),
 x_3 =
 padF
 (Dir.mk x.fst.minus x.fst.zero x.fst.plus x.fst.space x.fst.width
 x.fst.prec x.fst.kind)
 x_2.fst x_2.snd →
 iteP
 ((List.map
 (fun (b : UInt8) =>
 [AV.sc (Value.int IntKind.u8 (↑b.toNat : Int))])
 x_3).all
 fun (e : List AV) => e.all AV.one)
 (iteP
 (List.map
 (fun (b : UInt8) =>
 [AV.sc (Value.int IntKind.u8 (↑b.toNat : Int))])
 x_3).isEmpty
 (NB x_1.snd.fst (AV.sl (List.drop (1 : Nat) x.snd.snd) (0 : Nat)))
 (iteP
 (fits
 (List.map
 (fun (b : UInt8) =>
 [AV.sc (Value.int IntKind.u8 (↑b.toNat : Int))])
 x_3).length
 (1 : Nat))
 (NC x_1.snd.fst
 (AV.sl (List.drop (1 : Nat) x.snd.snd) (0 : Nat))
 (List.map
 (fun (b : UInt8) =>
 [AV.sc (Value.int IntKind.u8 (↑b.toNat : Int))])
 x_3)
 (List.map
 (fun (b : UInt8) =>
 [AV.sc (Value.int IntKind.u8 (↑b.toNat : Int))])
 x_3).length)
 False))
 False)
 False)
 False)
 False)
 (((-1000 : Int) ≤ x.fst.width ∧
 x.fst.width ≤ (1000 : Int) ∧
 (0 : Int) ≤ x.fst.kind ∧
 x.fst.kind ≤ (255 : Int) ∧
 (0 : Nat) ≤ (1000000 : Nat) ∧ (1 : Nat) ≤ (1000000 : Nat)) ∧
 ∀ (x_2 : List UInt8),
 x_2 =
 padF
 (Dir.mk x.fst.minus x.fst.zero x.fst.plus x.fst.space x.fst.width x.fst.prec
 x.fst.kind)
 [] [(37 : UInt8)] →
 iteP
 ((List.map (fun (b : UInt8) => [AV.sc (Value.int IntKind.u8 (↑b.toNat : Int))])
 x_2).all
 fun (e : List AV) => e.all AV.one)
 (iteP
 (List.map (fun (b : UInt8) => [AV.sc (Value.int IntKind.u8 (↑b.toNat : Int))])
 x_2).isEmpty
 (NB x_1.snd.fst (AV.sl x.snd.snd (0 : Nat)))
 (iteP
 (fits
 (List.map
 (fun (b : UInt8) => [AV.sc (Value.int IntKind.u8 (↑b.toNat : Int))])
 x_2).length
 (1 : Nat))
 (NC x_1.snd.fst (AV.sl x.snd.snd (0 : Nat))
 (List.map
 (fun (b : UInt8) => [AV.sc (Value.int IntKind.u8 (↑b.toNat : Int))]) x_2)
 (List.map
 (fun (b : UInt8) => [AV.sc (Value.int IntKind.u8 (↑b.toNat : Int))])
 x_2).length)
 False))
 False)))
 (iteP
 (fits (List.map (fun (b : UInt8) => [AV.sc (Value.int IntKind.u8 (↑b.toNat : Int))]) x.fst).length
 (1 : Nat))
 ((sC (AV.sl l (0 : Nat))
 (List.map (fun (b : UInt8) => [AV.sc (Value.int IntKind.u8 (↑b.toNat : Int))]) x.fst)
 (List.map (fun (b : UInt8) => [AV.sc (Value.int IntKind.u8 (↑b.toNat : Int))])
 x.fst).length =
 sC (AV.sl l (0 : Nat))
 (List.map (fun (b : UInt8) => [AV.sc (Value.int IntKind.u8 (↑b.toNat : Int))]) x.fst)
 (List.map (fun (b : UInt8) => [AV.sc (Value.int IntKind.u8 (↑b.toNat : Int))])
 x.fst).length ∧
 goodsB l = true) ∧
 ∀ (x_2 : Dir × Int × Cells),
 x_2 =
 resolveF
 (Dir.mk x_1.fst.minus x_1.fst.zero x_1.fst.plus x_1.fst.space x_1.fst.width x_1.fst.prec
 x_1.fst.kind)
 l →
 iteP (x_2.snd.fst != (0 : Int))
 (iteP (x_2.snd.fst != (0 : Int))
 (XC x_2.snd.fst (AV.sl x_2.snd.snd (0 : Nat))
 (List.map (fun (b : UInt8) => [AV.sc (Value.int IntKind.u8 (↑b.toNat : Int))]) x.fst)
 (List.map (fun (b : UInt8) => [AV.sc (Value.int IntKind.u8 (↑b.toNat : Int))])
 x.fst).length)
 (NC x_1.snd.fst (AV.sl x_2.snd.snd (0 : Nat))
 (List.map (fun (b : UInt8) => [AV.sc (Value.int IntKind.u8 (↑b.toNat : Int))]) x.fst)
 (List.map (fun (b : UInt8) => [AV.sc (Value.int IntKind.u8 (↑b.toNat : Int))])
 x.fst).length))
 (iteP (x_2.fst.kind != (37 : Int))
 (iteP (inRange (0 : Int) (List.length x_2.snd.snd))
 (getI (0 : Nat) x_2.snd.snd =
 some
 [AV.sc (Value.int IntKind.i64 (cellInt x_2.snd.snd (0 : Int) (0 : Nat))),
 AV.sc (Value.int IntKind.i64 (cellInt x_2.snd.snd (0 : Int) (1 : Nat))),
 AV.sc
 (Value.string
 (ByteArray.mk (Array.mk (cellStr x_2.snd.snd (0 : Int) (2 : Nat)))))] ∧
 (bodyOk
 (Dir.mk x_2.fst.minus x_2.fst.zero x_2.fst.plus x_2.fst.space x_2.fst.width
 x_2.fst.prec x_2.fst.kind)
 (cellInt x_2.snd.snd (0 : Int) (0 : Nat)) =
 true ∧
 (cellStr x_2.snd.snd (0 : Int) (2 : Nat)).length ≤ (1000000 : Nat)) ∧
 ∀ (x_3 : List UInt8 × List UInt8),
 x_3 =
 bodyF
 (Dir.mk x_2.fst.minus x_2.fst.zero x_2.fst.plus x_2.fst.space
 x_2.fst.width x_2.fst.prec x_2.fst.kind)
 (cellInt x_2.snd.snd (0 : Int) (0 : Nat))
 (cellInt x_2.snd.snd (0 : Int) (1 : Nat))
 (cellStr x_2.snd.snd (0 : Int) (2 : Nat)) →
 iteP (headLen (3 : Nat) x_2.snd.snd)
 (iteP (true && decide ((1 : Int) ≤ (↑(List.length x_2.snd.snd) : Int)))
 (((-1000 : Int) ≤ x_2.fst.width ∧
 x_2.fst.width ≤ (1000 : Int) ∧
 (0 : Int) ≤ x_2.fst.kind ∧
 x_2.fst.kind ≤ (255 : Int) ∧
 x_3.fst.length ≤ (1000000 : Nat) ∧
 x_3.snd.length ≤ (1000000 : Nat)) ∧
 ∀ (x_4 : List UInt8),
 x_4 =
 padF
 (Dir.mk x_2.fst.minus x_2.fst.zero x_2.fst.plus x_2.fst.space
 x_2.fst.width x_2.fst.prec x_2.fst.kind)
 x_3.fst x_3.snd →
 iteP
 ((List.map
 (fun (b : UInt8) =>
 [AV.sc (Value.int IntKind.u8 (↑b.toNat : Int))])
 x_4).all
 fun (e : List AV) => e.all AV.one)
 (iteP
 (List.map
 (fun (b : UInt8) =>
 [AV.sc (Value.int IntKind.u8 (↑b.toNat : Int))])
 x_4).isEmpty
 (NC x_1.snd.fst
 (AV.sl (List.drop (1 : Nat) x_2.snd.snd) (0 : Nat))
 (List.map
 (fun (b : UInt8) =>
 [AV.sc (Value.int IntKind.u8 (↑b.toNat : Int))])
 x.fst)
 (List.map
 (fun (b : UInt8) =>
 [AV.sc (Value.int IntKind.u8 (↑b.toNat : Int))])
 x.fst).length)
 (iteP
 (allLen (1 : Nat)
 (List.map
 (fun (b : UInt8) =>
 [AV.sc (Value.int IntKind.u8 (↑b.toNat : Int))])
 x.fst) &&
 fits
 ((List.map
 (fun (b : UInt8) =>
 [AV.sc (Value.int IntKind.u8 (↑b.toNat : Int))])
 x.fst).length +
 (List.map
 (fun (b : UInt8) =>
 [AV.sc (Value.int IntKind.u8 (↑b.toNat : Int))])
 x_4).length)
 (1 : Nat))
 (iteP
 (decide
 ((List.map
 (fun (b : UInt8) =>
 [AV.sc (Value.int IntKind.u8 (↑b.toNat : Int))])
 x.fst).length =
 (List.map
 (fun (b : UInt8) =>
 [AV.sc (Value.int IntKind.u8 (↑b.toNat : Int))])
 x.fst).length))
 (NC x_1.snd.fst
 (AV.sl (List.drop (1 : Nat) x_2.snd.snd) (0 : Nat))
 (List.map
 (fun (b : UInt8) =>
 [AV.sc (Value.int IntKind.u8 (↑b.toNat : Int))])
 x.fst ++
 List.map
 (fun (b : UInt8) =>
 [AV.sc (Value.int IntKind.u8 (↑b.toNat : Int))])
 x_4)
 ((List.map
 (fun (b : UInt8) =>
 [AV.sc (Value.int IntKind.u8 (↑b.toNat : Int))])
 x.fst).length +
 (List.map
 (fun (b : UInt8) =>
 [AV.sc (Value.int IntKind.u8 (↑b.toNat : Int))])
 x_4).length))
 False)
 False))
 False)
 False)
 False)
 False)
 (((-1000 : Int) ≤ x_2.fst.width ∧
 x_2.fst.width ≤ (1000 : Int) ∧
 (0 : Int) ≤ x_2.fst.kind ∧
 x_2.fst.kind ≤ (255 : Int) ∧
 (0 : Nat) ≤ (1000000 : Nat) ∧ (1 : Nat) ≤ (1000000 : Nat)) ∧
 ∀ (x_3 : List UInt8),
 x_3 =
 padF
 (Dir.mk x_2.fst.minus x_2.fst.zero x_2.fst.plus x_2.fst.space x_2.fst.width
 x_2.fst.prec x_2.fst.kind)
 [] [(37 : UInt8)] →
 iteP
 ((List.map (fun (b : UInt8) => [AV.sc (Value.int IntKind.u8 (↑b.toNat : Int))])
 x_3).all
 fun (e : List AV) => e.all AV.one)
 (iteP
 (List.map (fun (b : UInt8) => [AV.sc (Value.int IntKind.u8 (↑b.toNat : Int))])
 x_3).isEmpty
 (NC x_1.snd.fst (AV.sl x_2.snd.snd (0 : Nat))
 (List.map
 (fun (b : UInt8) => [AV.sc (Value.int IntKind.u8 (↑b.toNat : Int))])
 x.fst)
 (List.map
 (fun (b : UInt8) => [AV.sc (Value.int IntKind.u8 (↑b.toNat : Int))])
 x.fst).length)
 (iteP
 (allLen (1 : Nat)
 (List.map
 (fun (b : UInt8) => [AV.sc (Value.int IntKind.u8 (↑b.toNat : Int))])
 x.fst) &&
 fits
 ((List.map
 (fun (b : UInt8) =>
 [AV.sc (Value.int IntKind.u8 (↑b.toNat : Int))])
 x.fst).length +
 (List.map
 (fun (b : UInt8) =>
 [AV.sc (Value.int IntKind.u8 (↑b.toNat : Int))])
 x_3).length)
 (1 : Nat))
 (iteP
 (decide
 ((List.map
 (fun (b : UInt8) =>
 [AV.sc (Value.int IntKind.u8 (↑b.toNat : Int))])
 x.fst).length =
 (List.map
 (fun (b : UInt8) =>
 [AV.sc (Value.int IntKind.u8 (↑b.toNat : Int))])
 x.fst).length))
 (NC x_1.snd.fst (AV.sl x_2.snd.snd (0 : Nat))
 (List.map
 (fun (b : UInt8) => [AV.sc (Value.int IntKind.u8 (↑b.toNat : Int))])
 x.fst ++
 List.map
 (fun (b : UInt8) => [AV.sc (Value.int IntKind.u8 (↑b.toNat : Int))])
 x_3)
 ((List.map
 (fun (b : UInt8) =>
 [AV.sc (Value.int IntKind.u8 (↑b.toNat : Int))])
 x.fst).length +
 (List.map
 (fun (b : UInt8) =>
 [AV.sc (Value.int IntKind.u8 (↑b.toNat : Int))])
 x_3).length))
 False)
 False))
 False)))
 False))
 False))
 (iteP
 ((List.map (fun (b : UInt8) => [AV.sc (Value.int IntKind.u8 (↑b.toNat : Int))]) x.fst).all
 fun (e : List AV) => e.all AV.one)
 (iteP (List.map (fun (b : UInt8) => [AV.sc (Value.int IntKind.u8 (↑b.toNat : Int))]) x.fst).isEmpty
 (XB (0 : Int) (AV.sl l (0 : Nat)))
 (iteP
 (fits (List.map (fun (b : UInt8) => [AV.sc (Value.int IntKind.u8 (↑b.toNat : Int))]) x.fst).length
 (1 : Nat))
 (XC (0 : Int) (AV.sl l (0 : Nat))
 (List.map (fun (b : UInt8) => [AV.sc (Value.int IntKind.u8 (↑b.toNat : Int))]) x.fst)
 (List.map (fun (b : UInt8) => [AV.sc (Value.int IntKind.u8 (↑b.toNat : Int))]) x.fst).length)
 False))
 False)) :
 (fun (s : List UInt8) (l : Cells) (NB : List UInt8 → AV → Prop) (NC : List UInt8 → AV → Cells → Nat → Prop) (XA XB : Int → AV → Prop) (XC : Int → AV → Cells → Nat → Prop) => wpRound Y2 Door.cfg Tryd.prog 40 18 2 (IA s (.sl l 0)) (qN NB NC) (qX XA XB XC)) s l NB NC XA XB XC :=
 Eq.mp (by kernel_rfl) h

theorem gB (s : List UInt8) (l : Cells) (NB : List UInt8 → AV → Prop) (NC : List UInt8 → AV → Cells → Nat → Prop) (XA : Int → AV → Prop) (XB : Int → AV → Prop) (XC : Int → AV → Cells → Nat → Prop) (h :
 (s.length ≤ (1000000 : Nat) ∧ [(37 : UInt8)] = [(37 : UInt8)]) ∧
 ∀ (x : List UInt8 × List UInt8 × Bool),
 x = (before s, after s, hasPct s) →
 iteP x.snd.snd
 (x.snd.fst.length.le (1000000 : Nat) ∧
 ∀ (x_1 : Dir × List UInt8 × Int),
 x_1 = readF x.snd.fst →
 iteP (x_1.snd.snd != (0 : Int)) (XB x_1.snd.snd (AV.sl l (0 : Nat)))
 (iteP
 ((List.map (fun (b : UInt8) => [AV.sc (Value.int IntKind.u8 (↑b.toNat : Int))]) x.fst).all
 fun (e : List AV) => e.all AV.one)
 (iteP (List.map (fun (b : UInt8) => [AV.sc (Value.int IntKind.u8 (↑b.toNat : Int))]) x.fst).isEmpty
 ((sB (AV.sl l (0 : Nat)) = sB (AV.sl l (0 : Nat)) ∧ goodsB l = true) ∧
 ∀ (x : Dir × Int × Cells),
 x =
 resolveF
 (Dir.mk x_1.fst.minus x_1.fst.zero x_1.fst.plus x_1.fst.space x_1.fst.width x_1.fst.prec
 x_1.fst.kind)
 l →
 iteP (x.snd.fst != (0 : Int))
 (iteP (x.snd.fst != (0 : Int)) (XB x.snd.fst (AV.sl x.snd.snd (0 : Nat)))
 (NB x_1.snd.fst (AV.sl x.snd.snd (0 : Nat))))
 (iteP (x.fst.kind != (37 : Int))
 (iteP (inRange (0 : Int) (List.length x.snd.snd))
 (getI (0 : Nat) x.snd.snd =
 some
 [AV.sc (Value.int IntKind.i64 (cellInt x.snd.snd (0 : Int) (0 : Nat))),
 AV.sc (Value.int IntKind.i64 (cellInt x.snd.snd (0 : Int) (1 : Nat))),
 AV.sc
 (Value.string
 (ByteArray.mk (Array.mk (cellStr x.snd.snd (0 : Int) (2 : Nat)))))] ∧
 (bodyOk
 (Dir.mk x.fst.minus x.fst.zero x.fst.plus x.fst.space x.fst.width x.fst.prec
 x.fst.kind)
 (cellInt x.snd.snd (0 : Int) (0 : Nat)) =
 true ∧
 (cellStr x.snd.snd (0 : Int) (2 : Nat)).length ≤ (1000000 : Nat)) ∧
 ∀ (x_2 : List UInt8 × List UInt8),
 x_2 =
 bodyF
 (Dir.mk x.fst.minus x.fst.zero x.fst.plus x.fst.space x.fst.width x.fst.prec
 x.fst.kind)
 (cellInt x.snd.snd (0 : Int) (0 : Nat))
 (cellInt x.snd.snd (0 : Int) (1 : Nat))
 (cellStr x.snd.snd (0 : Int) (2 : Nat)) →
 iteP (headLen (3 : Nat) x.snd.snd)
 (iteP (true && decide ((1 : Int) ≤ (↑(List.length x.snd.snd) : Int)))
 (((-1000 : Int) ≤ x.fst.width ∧
 x.fst.width ≤ (1000 : Int) ∧
 (0 : Int) ≤ x.fst.kind ∧
 x.fst.kind ≤ (255 : Int) ∧
 x_2.fst.length ≤ (1000000 : Nat) ∧
 x_2.snd.length ≤ (1000000 : Nat)) ∧
 ∀ (x_3 : List UInt8),
 x_3 =
 padF
 (Dir.mk x.fst.minus x.fst.zero x.fst.plus x.fst.space x.fst.width
 x.fst.prec x.fst.kind)
 x_2.fst x_2.snd →
 iteP
 ((List.map
 (fun (b : UInt8) =>
 [AV.sc (Value.int IntKind.u8 (↑b.toNat : Int))])
 x_3).all
 fun (e : List AV) => e.all AV.one)
 (iteP
 (List.map
 (fun (b : UInt8) =>
 [AV.sc (Value.int IntKind.u8 (↑b.toNat : Int))])
 x_3).isEmpty
 (NB x_1.snd.fst (AV.sl (List.drop (1 : Nat) x.snd.snd) (0 : Nat)))
 (iteP
 (fits
 (List.map
 (fun (b : UInt8) =>
 [AV.sc (Value.int IntKind.u8 (↑b.toNat : Int))])
 x_3).length
 (1 : Nat))
 (NC x_1.snd.fst
 (AV.sl (List.drop (1 : Nat) x.snd.snd) (0 : Nat))
 (List.map
 (fun (b : UInt8) =>
 [AV.sc (Value.int IntKind.u8 (↑b.toNat : Int))])
 x_3)
 (List.map
 (fun (b : UInt8) =>
 [AV.sc (Value.int IntKind.u8 (↑b.toNat : Int))])
 x_3).length)
 False))
 False)
 False)
 False)
 False)
 (((-1000 : Int) ≤ x.fst.width ∧
 x.fst.width ≤ (1000 : Int) ∧
 (0 : Int) ≤ x.fst.kind ∧
 x.fst.kind ≤ (255 : Int) ∧
 (0 : Nat) ≤ (1000000 : Nat) ∧ (1 : Nat) ≤ (1000000 : Nat)) ∧
 ∀ (x_2 : List UInt8),
 x_2 =
 padF
 (Dir.mk x.fst.minus x.fst.zero x.fst.plus x.fst.space x.fst.width x.fst.prec
 x.fst.kind)
 [] [(37 : UInt8)] →
 iteP
 ((List.map (fun (b : UInt8) => [AV.sc (Value.int IntKind.u8 (↑b.toNat : Int))])
 x_2).all
 fun (e : List AV) => e.all AV.one)
 (iteP
 (List.map (fun (b : UInt8) => [AV.sc (Value.int IntKind.u8 (↑b.toNat : Int))])
 x_2).isEmpty
 (NB x_1.snd.fst (AV.sl x.snd.snd (0 : Nat)))
 (iteP
 (fits
 (List.map
 (fun (b : UInt8) => [AV.sc (Value.int IntKind.u8 (↑b.toNat : Int))])
 x_2).length
 (1 : Nat))
 (NC x_1.snd.fst (AV.sl x.snd.snd (0 : Nat))
 (List.map
 (fun (b : UInt8) => [AV.sc (Value.int IntKind.u8 (↑b.toNat : Int))]) x_2)
 (List.map
 (fun (b : UInt8) => [AV.sc (Value.int IntKind.u8 (↑b.toNat : Int))])
 x_2).length)
 False))
 False)))
 (iteP
 (fits (List.map (fun (b : UInt8) => [AV.sc (Value.int IntKind.u8 (↑b.toNat : Int))]) x.fst).length
 (1 : Nat))
 ((sC (AV.sl l (0 : Nat))
 (List.map (fun (b : UInt8) => [AV.sc (Value.int IntKind.u8 (↑b.toNat : Int))]) x.fst)
 (List.map (fun (b : UInt8) => [AV.sc (Value.int IntKind.u8 (↑b.toNat : Int))])
 x.fst).length =
 sC (AV.sl l (0 : Nat))
 (List.map (fun (b : UInt8) => [AV.sc (Value.int IntKind.u8 (↑b.toNat : Int))]) x.fst)
 (List.map (fun (b : UInt8) => [AV.sc (Value.int IntKind.u8 (↑b.toNat : Int))])
 x.fst).length ∧
 goodsB l = true) ∧
 ∀ (x_2 : Dir × Int × Cells),
 x_2 =
 resolveF
 (Dir.mk x_1.fst.minus x_1.fst.zero x_1.fst.plus x_1.fst.space x_1.fst.width x_1.fst.prec
 x_1.fst.kind)
 l →
 iteP (x_2.snd.fst != (0 : Int))
 (iteP (x_2.snd.fst != (0 : Int))
 (XC x_2.snd.fst (AV.sl x_2.snd.snd (0 : Nat))
 (List.map (fun (b : UInt8) => [AV.sc (Value.int IntKind.u8 (↑b.toNat : Int))]) x.fst)
 (List.map (fun (b : UInt8) => [AV.sc (Value.int IntKind.u8 (↑b.toNat : Int))])
 x.fst).length)
 (NC x_1.snd.fst (AV.sl x_2.snd.snd (0 : Nat))
 (List.map (fun (b : UInt8) => [AV.sc (Value.int IntKind.u8 (↑b.toNat : Int))]) x.fst)
 (List.map (fun (b : UInt8) => [AV.sc (Value.int IntKind.u8 (↑b.toNat : Int))])
 x.fst).length))
 (iteP (x_2.fst.kind != (37 : Int))
 (iteP (inRange (0 : Int) (List.length x_2.snd.snd))
 (getI (0 : Nat) x_2.snd.snd =
 some
 [AV.sc (Value.int IntKind.i64 (cellInt x_2.snd.snd (0 : Int) (0 : Nat))),
 AV.sc (Value.int IntKind.i64 (cellInt x_2.snd.snd (0 : Int) (1 : Nat))),
 AV.sc
 (Value.string
 (ByteArray.mk (Array.mk (cellStr x_2.snd.snd (0 : Int) (2 : Nat)))))] ∧
 (bodyOk
 (Dir.mk x_2.fst.minus x_2.fst.zero x_2.fst.plus x_2.fst.space x_2.fst.width
 x_2.fst.prec x_2.fst.kind)
 (cellInt x_2.snd.snd (0 : Int) (0 : Nat)) =
 true ∧
 (cellStr x_2.snd.snd (0 : Int) (2 : Nat)).length ≤ (1000000 : Nat)) ∧
 ∀ (x_3 : List UInt8 × List UInt8),
 x_3 =
 bodyF
 (Dir.mk x_2.fst.minus x_2.fst.zero x_2.fst.plus x_2.fst.space
 x_2.fst.width x_2.fst.prec x_2.fst.kind)
 (cellInt x_2.snd.snd (0 : Int) (0 : Nat))
 (cellInt x_2.snd.snd (0 : Int) (1 : Nat))
 (cellStr x_2.snd.snd (0 : Int) (2 : Nat)) →
 iteP (headLen (3 : Nat) x_2.snd.snd)
 (iteP (true && decide ((1 : Int) ≤ (↑(List.length x_2.snd.snd) : Int)))
 (((-1000 : Int) ≤ x_2.fst.width ∧
 x_2.fst.width ≤ (1000 : Int) ∧
 (0 : Int) ≤ x_2.fst.kind ∧
 x_2.fst.kind ≤ (255 : Int) ∧
 x_3.fst.length ≤ (1000000 : Nat) ∧
 x_3.snd.length ≤ (1000000 : Nat)) ∧
 ∀ (x_4 : List UInt8),
 x_4 =
 padF
 (Dir.mk x_2.fst.minus x_2.fst.zero x_2.fst.plus x_2.fst.space
 x_2.fst.width x_2.fst.prec x_2.fst.kind)
 x_3.fst x_3.snd →
 iteP
 ((List.map
 (fun (b : UInt8) =>
 [AV.sc (Value.int IntKind.u8 (↑b.toNat : Int))])
 x_4).all
 fun (e : List AV) => e.all AV.one)
 (iteP
 (List.map
 (fun (b : UInt8) =>
 [AV.sc (Value.int IntKind.u8 (↑b.toNat : Int))])
 x_4).isEmpty
 (NC x_1.snd.fst
 (AV.sl (List.drop (1 : Nat) x_2.snd.snd) (0 : Nat))
 (List.map
 (fun (b : UInt8) =>
 [AV.sc (Value.int IntKind.u8 (↑b.toNat : Int))])
 x.fst)
 (List.map
 (fun (b : UInt8) =>
 [AV.sc (Value.int IntKind.u8 (↑b.toNat : Int))])
 x.fst).length)
 (iteP
 (allLen (1 : Nat)
 (List.map
 (fun (b : UInt8) =>
 [AV.sc (Value.int IntKind.u8 (↑b.toNat : Int))])
 x.fst) &&
 fits
 ((List.map
 (fun (b : UInt8) =>
 [AV.sc (Value.int IntKind.u8 (↑b.toNat : Int))])
 x.fst).length +
 (List.map
 (fun (b : UInt8) =>
 [AV.sc (Value.int IntKind.u8 (↑b.toNat : Int))])
 x_4).length)
 (1 : Nat))
 (iteP
 (decide
 ((List.map
 (fun (b : UInt8) =>
 [AV.sc (Value.int IntKind.u8 (↑b.toNat : Int))])
 x.fst).length =
 (List.map
 (fun (b : UInt8) =>
 [AV.sc (Value.int IntKind.u8 (↑b.toNat : Int))])
 x.fst).length))
 (NC x_1.snd.fst
 (AV.sl (List.drop (1 : Nat) x_2.snd.snd) (0 : Nat))
 (List.map
 (fun (b : UInt8) =>
 [AV.sc (Value.int IntKind.u8 (↑b.toNat : Int))])
 x.fst ++
 List.map
 (fun (b : UInt8) =>
 [AV.sc (Value.int IntKind.u8 (↑b.toNat : Int))])
 x_4)
 ((List.map
 (fun (b : UInt8) =>
 [AV.sc (Value.int IntKind.u8 (↑b.toNat : Int))])
 x.fst).length +
 (List.map
 (fun (b : UInt8) =>
 [AV.sc (Value.int IntKind.u8 (↑b.toNat : Int))])
 x_4).length))
 False)
 False))
 False)
 False)
 False)
 False)
 (((-1000 : Int) ≤ x_2.fst.width ∧
 x_2.fst.width ≤ (1000 : Int) ∧
 (0 : Int) ≤ x_2.fst.kind ∧
 x_2.fst.kind ≤ (255 : Int) ∧
 (0 : Nat) ≤ (1000000 : Nat) ∧ (1 : Nat) ≤ (1000000 : Nat)) ∧
 ∀ (x_3 : List UInt8),
 x_3 =
 padF
 (Dir.mk x_2.fst.minus x_2.fst.zero x_2.fst.plus x_2.fst.space x_2.fst.width
 x_2.fst.prec x_2.fst.kind)
 [] [(37 : UInt8)] →
 iteP
 ((List.map (fun (b : UInt8) => [AV.sc (Value.int IntKind.u8 (↑b.toNat : Int))])
 x_3).all
 fun (e : List AV) => e.all AV.one)
 (iteP
 (List.map (fun (b : UInt8) => [AV.sc (Value.int IntKind.u8 (↑b.toNat : Int))])
 x_3).isEmpty
 (NC x_1.snd.fst (AV.sl x_2.snd.snd (0 : Nat))
 (List.map
 (fun (b : UInt8) => [AV.sc (Value.int IntKind.u8 (↑b.toNat : Int))])
 x.fst)
 (List.map
 (fun (b : UInt8) => [AV.sc (Value.int IntKind.u8 (↑b.toNat : Int))])
 x.fst).length)
 (iteP
 (allLen (1 : Nat)
 (List.map
 (fun (b : UInt8) => [AV.sc (Value.int IntKind.u8 (↑b.toNat : Int))])
 x.fst) &&
 fits
 ((List.map
 (fun (b : UInt8) =>
 [AV.sc (Value.int IntKind.u8 (↑b.toNat : Int))])
 x.fst).length +
 (List.map
 (fun (b : UInt8) =>
 [AV.sc (Value.int IntKind.u8 (↑b.toNat : Int))])
 x_3).length)
 (1 : Nat))
 (iteP
 (decide
 ((List.map
 (fun (b : UInt8) =>
 [AV.sc (Value.int IntKind.u8 (↑b.toNat : Int))])
 x.fst).length =
 (List.map
 (fun (b : UInt8) =>
 [AV.sc (Value.int IntKind.u8 (↑b.toNat : Int))])
 x.fst).length))
 (NC x_1.snd.fst (AV.sl x_2.snd.snd (0 : Nat))
 (List.map
 (fun (b : UInt8) => [AV.sc (Value.int IntKind.u8 (↑b.toNat : Int))])
 x.fst ++
 List.map
 (fun (b : UInt8) => [AV.sc (Value.int IntKind.u8 (↑b.toNat : Int))])
 x_3)
 ((List.map
 (fun (b : UInt8) =>
 [AV.sc (Value.int IntKind.u8 (↑b.toNat : Int))])
 x.fst).length +
 (List.map
 (fun (b : UInt8) =>
 [AV.sc (Value.int IntKind.u8 (↑b.toNat : Int))])
 x_3).length))
 False)
 False))
 False)))
 False))
 False))
 (iteP
 ((List.map (fun (b : UInt8) => [AV.sc (Value.int IntKind.u8 (↑b.toNat : Int))]) x.fst).all
 fun (e : List AV) => e.all AV.one)
 (iteP (List.map (fun (b : UInt8) => [AV.sc (Value.int IntKind.u8 (↑b.toNat : Int))]) x.fst).isEmpty
 (XB (0 : Int) (AV.sl l (0 : Nat)))
 (iteP
 (fits (List.map (fun (b : UInt8) => [AV.sc (Value.int IntKind.u8 (↑b.toNat : Int))]) x.fst).length
 (1 : Nat))
 (XC (0 : Int) (AV.sl l (0 : Nat))
 (List.map (fun (b : UInt8) => [AV.sc (Value.int IntKind.u8 (↑b.toNat : Int))]) x.fst)
 (List.map (fun (b : UInt8) => [AV.sc (Value.int IntKind.u8 (↑b.toNat : Int))]) x.fst).length)
 False))
 False)) :
 (fun (s : List UInt8) (l : Cells) (NB : List UInt8 → AV → Prop) (NC : List UInt8 → AV → Cells → Nat → Prop) (XA XB : Int → AV → Prop) (XC : Int → AV → Cells → Nat → Prop) => wpRound Y2 Door.cfg Tryd.prog 40 18 2 (IB s (.sl l 0)) (qN NB NC) (qX XA XB XC)) s l NB NC XA XB XC :=
 Eq.mp (by kernel_rfl) h

theorem gC (s : List UInt8) (l : Cells) (b : Cells) (n : Nat) (NB : List UInt8 → AV → Prop) (NC : List UInt8 → AV → Cells → Nat → Prop) (XA : Int → AV → Prop) (XB : Int → AV → Prop) (XC : Int → AV → Cells → Nat → Prop) (h :
 (s.length ≤ (1000000 : Nat) ∧ [(37 : UInt8)] = [(37 : UInt8)]) ∧
 ∀ (x : List UInt8 × List UInt8 × Bool),
 x = (before s, after s, hasPct s) →
 iteP x.snd.snd
 (x.snd.fst.length.le (1000000 : Nat) ∧
 ∀ (x_1 : Dir × List UInt8 × Int),
 x_1 = readF x.snd.fst →
 iteP (x_1.snd.snd != (0 : Int)) (XC x_1.snd.snd (AV.sl l (0 : Nat)) b n)
 (iteP
 ((List.map (fun (b : UInt8) => [AV.sc (Value.int IntKind.u8 (↑b.toNat : Int))]) x.fst).all
 fun (e : List AV) => e.all AV.one)
 (iteP (List.map (fun (b : UInt8) => [AV.sc (Value.int IntKind.u8 (↑b.toNat : Int))]) x.fst).isEmpty
 ((sC (AV.sl l (0 : Nat)) b n = sC (AV.sl l (0 : Nat)) b n ∧ goodsB l = true) ∧
 ∀ (x : Dir × Int × Cells),
 x =
 resolveF
 (Dir.mk x_1.fst.minus x_1.fst.zero x_1.fst.plus x_1.fst.space x_1.fst.width x_1.fst.prec
 x_1.fst.kind)
 l →
 iteP (x.snd.fst != (0 : Int))
 (iteP (x.snd.fst != (0 : Int)) (XC x.snd.fst (AV.sl x.snd.snd (0 : Nat)) b n)
 (NC x_1.snd.fst (AV.sl x.snd.snd (0 : Nat)) b n))
 (iteP (x.fst.kind != (37 : Int))
 (iteP (inRange (0 : Int) (List.length x.snd.snd))
 (getI (0 : Nat) x.snd.snd =
 some
 [AV.sc (Value.int IntKind.i64 (cellInt x.snd.snd (0 : Int) (0 : Nat))),
 AV.sc (Value.int IntKind.i64 (cellInt x.snd.snd (0 : Int) (1 : Nat))),
 AV.sc
 (Value.string
 (ByteArray.mk (Array.mk (cellStr x.snd.snd (0 : Int) (2 : Nat)))))] ∧
 (bodyOk
 (Dir.mk x.fst.minus x.fst.zero x.fst.plus x.fst.space x.fst.width x.fst.prec
 x.fst.kind)
 (cellInt x.snd.snd (0 : Int) (0 : Nat)) =
 true ∧
 (cellStr x.snd.snd (0 : Int) (2 : Nat)).length ≤ (1000000 : Nat)) ∧
 ∀ (x_2 : List UInt8 × List UInt8),
 x_2 =
 bodyF
 (Dir.mk x.fst.minus x.fst.zero x.fst.plus x.fst.space x.fst.width x.fst.prec
 x.fst.kind)
 (cellInt x.snd.snd (0 : Int) (0 : Nat))
 (cellInt x.snd.snd (0 : Int) (1 : Nat))
 (cellStr x.snd.snd (0 : Int) (2 : Nat)) →
 iteP (headLen (3 : Nat) x.snd.snd)
 (iteP (true && decide ((1 : Int) ≤ (↑(List.length x.snd.snd) : Int)))
 (((-1000 : Int) ≤ x.fst.width ∧
 x.fst.width ≤ (1000 : Int) ∧
 (0 : Int) ≤ x.fst.kind ∧
 x.fst.kind ≤ (255 : Int) ∧
 x_2.fst.length ≤ (1000000 : Nat) ∧
 x_2.snd.length ≤ (1000000 : Nat)) ∧
 ∀ (x_3 : List UInt8),
 x_3 =
 padF
 (Dir.mk x.fst.minus x.fst.zero x.fst.plus x.fst.space x.fst.width
 x.fst.prec x.fst.kind)
 x_2.fst x_2.snd →
 iteP
 ((List.map
 (fun (b : UInt8) =>
 [AV.sc (Value.int IntKind.u8 (↑b.toNat : Int))])
 x_3).all
 fun (e : List AV) => e.all AV.one)
 (iteP
 (List.map
 (fun (b : UInt8) =>
 [AV.sc (Value.int IntKind.u8 (↑b.toNat : Int))])
 x_3).isEmpty
 (NC x_1.snd.fst (AV.sl (List.drop (1 : Nat) x.snd.snd) (0 : Nat))
 b n)
 (iteP
 (allLen (1 : Nat) b &&
 fits
 (List.length b +
 (List.map
 (fun (b : UInt8) =>
 [AV.sc (Value.int IntKind.u8 (↑b.toNat : Int))])
 x_3).length)
 (1 : Nat))
 (iteP (decide (List.length b = n))
 (NC x_1.snd.fst
 (AV.sl (List.drop (1 : Nat) x.snd.snd) (0 : Nat))
 (b ++
 List.map
 (fun (b : UInt8) =>
 [AV.sc (Value.int IntKind.u8 (↑b.toNat : Int))])
 x_3)
 (n +
 (List.map
 (fun (b : UInt8) =>
 [AV.sc (Value.int IntKind.u8 (↑b.toNat : Int))])
 x_3).length))
 False)
 False))
 False)
 False)
 False)
 False)
 (((-1000 : Int) ≤ x.fst.width ∧
 x.fst.width ≤ (1000 : Int) ∧
 (0 : Int) ≤ x.fst.kind ∧
 x.fst.kind ≤ (255 : Int) ∧
 (0 : Nat) ≤ (1000000 : Nat) ∧ (1 : Nat) ≤ (1000000 : Nat)) ∧
 ∀ (x_2 : List UInt8),
 x_2 =
 padF
 (Dir.mk x.fst.minus x.fst.zero x.fst.plus x.fst.space x.fst.width x.fst.prec
 x.fst.kind)
 [] [(37 : UInt8)] →
 iteP
 ((List.map (fun (b : UInt8) => [AV.sc (Value.int IntKind.u8 (↑b.toNat : Int))])
 x_2).all
 fun (e : List AV) => e.all AV.one)
 (iteP
 (List.map (fun (b : UInt8) => [AV.sc (Value.int IntKind.u8 (↑b.toNat : Int))])
 x_2).isEmpty
 (NC x_1.snd.fst (AV.sl x.snd.snd (0 : Nat)) b n)
 (iteP
 (allLen (1 : Nat) b &&
 fits
 (List.length b +
 (List.map
 (fun (b : UInt8) => [AV.sc (Value.int IntKind.u8 (↑b.toNat : Int))])
 x_2).length)
 (1 : Nat))
 (iteP (decide (List.length b = n))
 (NC x_1.snd.fst (AV.sl x.snd.snd (0 : Nat))
 (b ++
 List.map
 (fun (b : UInt8) => [AV.sc (Value.int IntKind.u8 (↑b.toNat : Int))])
 x_2)
 (n +
 (List.map
 (fun (b : UInt8) => [AV.sc (Value.int IntKind.u8 (↑b.toNat : Int))])
 x_2).length))
 False)
 False))
 False)))
 (iteP
 (allLen (1 : Nat) b &&
 fits
 (List.length b +
 (List.map (fun (b : UInt8) => [AV.sc (Value.int IntKind.u8 (↑b.toNat : Int))])
 x.fst).length)
 (1 : Nat))
 (iteP (decide (List.length b = n))
 ((sC (AV.sl l (0 : Nat))
 (b ++
 List.map (fun (b : UInt8) => [AV.sc (Value.int IntKind.u8 (↑b.toNat : Int))]) x.fst)
 (n +
 (List.map (fun (b : UInt8) => [AV.sc (Value.int IntKind.u8 (↑b.toNat : Int))])
 x.fst).length) =
 sC (AV.sl l (0 : Nat))
 (b ++
 List.map (fun (b : UInt8) => [AV.sc (Value.int IntKind.u8 (↑b.toNat : Int))]) x.fst)
 (n +
 (List.map (fun (b : UInt8) => [AV.sc (Value.int IntKind.u8 (↑b.toNat : Int))])
 x.fst).length) ∧
 goodsB l = true) ∧
 ∀ (x_2 : Dir × Int × Cells),
 x_2 =
 resolveF
 (Dir.mk x_1.fst.minus x_1.fst.zero x_1.fst.plus x_1.fst.space x_1.fst.width
 x_1.fst.prec x_1.fst.kind)
 l →
 iteP (x_2.snd.fst != (0 : Int))
 (iteP (x_2.snd.fst != (0 : Int))
 (XC x_2.snd.fst (AV.sl x_2.snd.snd (0 : Nat))
 (b ++
 List.map (fun (b : UInt8) => [AV.sc (Value.int IntKind.u8 (↑b.toNat : Int))])
 x.fst)
 (n +
 (List.map (fun (b : UInt8) => [AV.sc (Value.int IntKind.u8 (↑b.toNat : Int))])
 x.fst).length))
 (NC x_1.snd.fst (AV.sl x_2.snd.snd (0 : Nat))
 (b ++
 List.map (fun (b : UInt8) => [AV.sc (Value.int IntKind.u8 (↑b.toNat : Int))])
 x.fst)
 (n +
 (List.map (fun (b : UInt8) => [AV.sc (Value.int IntKind.u8 (↑b.toNat : Int))])
 x.fst).length)))
 (iteP (x_2.fst.kind != (37 : Int))
 (iteP (inRange (0 : Int) (List.length x_2.snd.snd))
 (getI (0 : Nat) x_2.snd.snd =
 some
 [AV.sc (Value.int IntKind.i64 (cellInt x_2.snd.snd (0 : Int) (0 : Nat))),
 AV.sc (Value.int IntKind.i64 (cellInt x_2.snd.snd (0 : Int) (1 : Nat))),
 AV.sc
 (Value.string
 (ByteArray.mk (Array.mk (cellStr x_2.snd.snd (0 : Int) (2 : Nat)))))] ∧
 (bodyOk
 (Dir.mk x_2.fst.minus x_2.fst.zero x_2.fst.plus x_2.fst.space
 x_2.fst.width x_2.fst.prec x_2.fst.kind)
 (cellInt x_2.snd.snd (0 : Int) (0 : Nat)) =
 true ∧
 (cellStr x_2.snd.snd (0 : Int) (2 : Nat)).length ≤ (1000000 : Nat)) ∧
 ∀ (x_3 : List UInt8 × List UInt8),
 x_3 =
 bodyF
 (Dir.mk x_2.fst.minus x_2.fst.zero x_2.fst.plus x_2.fst.space
 x_2.fst.width x_2.fst.prec x_2.fst.kind)
 (cellInt x_2.snd.snd (0 : Int) (0 : Nat))
 (cellInt x_2.snd.snd (0 : Int) (1 : Nat))
 (cellStr x_2.snd.snd (0 : Int) (2 : Nat)) →
 iteP (headLen (3 : Nat) x_2.snd.snd)
 (iteP (true && decide ((1 : Int) ≤ (↑(List.length x_2.snd.snd) : Int)))
 (((-1000 : Int) ≤ x_2.fst.width ∧
 x_2.fst.width ≤ (1000 : Int) ∧
 (0 : Int) ≤ x_2.fst.kind ∧
 x_2.fst.kind ≤ (255 : Int) ∧
 x_3.fst.length ≤ (1000000 : Nat) ∧
 x_3.snd.length ≤ (1000000 : Nat)) ∧
 ∀ (x_4 : List UInt8),
 x_4 =
 padF
 (Dir.mk x_2.fst.minus x_2.fst.zero x_2.fst.plus x_2.fst.space
 x_2.fst.width x_2.fst.prec x_2.fst.kind)
 x_3.fst x_3.snd →
 iteP
 ((List.map
 (fun (b : UInt8) =>
 [AV.sc (Value.int IntKind.u8 (↑b.toNat : Int))])
 x_4).all
 fun (e : List AV) => e.all AV.one)
 (iteP
 (List.map
 (fun (b : UInt8) =>
 [AV.sc (Value.int IntKind.u8 (↑b.toNat : Int))])
 x_4).isEmpty
 (NC x_1.snd.fst
 (AV.sl (List.drop (1 : Nat) x_2.snd.snd) (0 : Nat))
 (b ++
 List.map
 (fun (b : UInt8) =>
 [AV.sc (Value.int IntKind.u8 (↑b.toNat : Int))])
 x.fst)
 (n +
 (List.map
 (fun (b : UInt8) =>
 [AV.sc (Value.int IntKind.u8 (↑b.toNat : Int))])
 x.fst).length))
 (iteP
 (allLen (1 : Nat)
 (b ++
 List.map
 (fun (b : UInt8) =>
 [AV.sc (Value.int IntKind.u8 (↑b.toNat : Int))])
 x.fst) &&
 fits
 ((b ++
 List.map
 (fun (b : UInt8) =>
 [AV.sc
 (Value.int IntKind.u8 (↑b.toNat : Int))])
 x.fst).length +
 (List.map
 (fun (b : UInt8) =>
 [AV.sc (Value.int IntKind.u8 (↑b.toNat : Int))])
 x_4).length)
 (1 : Nat))
 (iteP
 (decide
 ((b ++
 List.map
 (fun (b : UInt8) =>
 [AV.sc
 (Value.int IntKind.u8 (↑b.toNat : Int))])
 x.fst).length =
 n +
 (List.map
 (fun (b : UInt8) =>
 [AV.sc
 (Value.int IntKind.u8 (↑b.toNat : Int))])
 x.fst).length))
 (NC x_1.snd.fst
 (AV.sl (List.drop (1 : Nat) x_2.snd.snd) (0 : Nat))
 (b ++
 List.map
 (fun (b : UInt8) =>
 [AV.sc (Value.int IntKind.u8 (↑b.toNat : Int))])
 x.fst ++
 List.map
 (fun (b : UInt8) =>
 [AV.sc (Value.int IntKind.u8 (↑b.toNat : Int))])
 x_4)
 (n +
 (List.map
 (fun (b : UInt8) =>
 [AV.sc
 (Value.int IntKind.u8 (↑b.toNat : Int))])
 x.fst).length +
 (List.map
 (fun (b : UInt8) =>
 [AV.sc (Value.int IntKind.u8 (↑b.toNat : Int))])
 x_4).length))
 False)
 False))
 False)
 False)
 False)
 False)
 (((-1000 : Int) ≤ x_2.fst.width ∧
 x_2.fst.width ≤ (1000 : Int) ∧
 (0 : Int) ≤ x_2.fst.kind ∧
 x_2.fst.kind ≤ (255 : Int) ∧
 (0 : Nat) ≤ (1000000 : Nat) ∧ (1 : Nat) ≤ (1000000 : Nat)) ∧
 ∀ (x_3 : List UInt8),
 x_3 =
 padF
 (Dir.mk x_2.fst.minus x_2.fst.zero x_2.fst.plus x_2.fst.space x_2.fst.width
 x_2.fst.prec x_2.fst.kind)
 [] [(37 : UInt8)] →
 iteP
 ((List.map
 (fun (b : UInt8) => [AV.sc (Value.int IntKind.u8 (↑b.toNat : Int))])
 x_3).all
 fun (e : List AV) => e.all AV.one)
 (iteP
 (List.map
 (fun (b : UInt8) => [AV.sc (Value.int IntKind.u8 (↑b.toNat : Int))])
 x_3).isEmpty
 (NC x_1.snd.fst (AV.sl x_2.snd.snd (0 : Nat))
 (b ++
 List.map
 (fun (b : UInt8) => [AV.sc (Value.int IntKind.u8 (↑b.toNat : Int))])
 x.fst)
 (n +
 (List.map
 (fun (b : UInt8) => [AV.sc (Value.int IntKind.u8 (↑b.toNat : Int))])
 x.fst).length))
 (iteP
 (allLen (1 : Nat)
 (b ++
 List.map
 (fun (b : UInt8) =>
 [AV.sc (Value.int IntKind.u8 (↑b.toNat : Int))])
 x.fst) &&
 fits
 ((b ++
 List.map
 (fun (b : UInt8) =>
 [AV.sc (Value.int IntKind.u8 (↑b.toNat : Int))])
 x.fst).length +
 (List.map
 (fun (b : UInt8) =>
 [AV.sc (Value.int IntKind.u8 (↑b.toNat : Int))])
 x_3).length)
 (1 : Nat))
 (iteP
 (decide
 ((b ++
 List.map
 (fun (b : UInt8) =>
 [AV.sc (Value.int IntKind.u8 (↑b.toNat : Int))])
 x.fst).length =
 n +
 (List.map
 (fun (b : UInt8) =>
 [AV.sc (Value.int IntKind.u8 (↑b.toNat : Int))])
 x.fst).length))
 (NC x_1.snd.fst (AV.sl x_2.snd.snd (0 : Nat))
 (b ++
 List.map
 (fun (b : UInt8) =>
 [AV.sc (Value.int IntKind.u8 (↑b.toNat : Int))])
 x.fst ++
 List.map
 (fun (b : UInt8) =>
 [AV.sc (Value.int IntKind.u8 (↑b.toNat : Int))])
 x_3)
 (n +
 (List.map
 (fun (b : UInt8) =>
 [AV.sc (Value.int IntKind.u8 (↑b.toNat : Int))])
 x.fst).length +
 (List.map
 (fun (b : UInt8) =>
 [AV.sc (Value.int IntKind.u8 (↑b.toNat : Int))])
 x_3).length))
 False)
 False))
 False)))
 False)
 False))
 False))
 (iteP
 ((List.map (fun (b : UInt8) => [AV.sc (Value.int IntKind.u8 (↑b.toNat : Int))]) x.fst).all
 fun (e : List AV) => e.all AV.one)
 (iteP (List.map (fun (b : UInt8) => [AV.sc (Value.int IntKind.u8 (↑b.toNat : Int))]) x.fst).isEmpty
 (XC (0 : Int) (AV.sl l (0 : Nat)) b n)
 (iteP
 (allLen (1 : Nat) b &&
 fits
 (List.length b +
 (List.map (fun (b : UInt8) => [AV.sc (Value.int IntKind.u8 (↑b.toNat : Int))]) x.fst).length)
 (1 : Nat))
 (iteP (decide (List.length b = n))
 (XC (0 : Int) (AV.sl l (0 : Nat))
 (b ++ List.map (fun (b : UInt8) => [AV.sc (Value.int IntKind.u8 (↑b.toNat : Int))]) x.fst)
 (n + (List.map (fun (b : UInt8) => [AV.sc (Value.int IntKind.u8 (↑b.toNat : Int))]) x.fst).length))
 False)
 False))
 False)) :
 (fun (s : List UInt8) (l b : Cells) (n : Nat) (NB : List UInt8 → AV → Prop) (NC : List UInt8 → AV → Cells → Nat → Prop) (XA XB : Int → AV → Prop) (XC : Int → AV → Cells → Nat → Prop) => wpRound Y2 Door.cfg Tryd.prog 40 18 2 (IC s (.sl l 0) b n) (qN NB NC) (qX XA XB XC)) s l b n NB NC XA XB XC :=
 Eq.mp (by kernel_rfl) h

theorem gAn (s : List UInt8) (NB : List UInt8 → AV → Prop) (NC : List UInt8 → AV → Cells → Nat → Prop) (XA : Int → AV → Prop) (XB : Int → AV → Prop) (XC : Int → AV → Cells → Nat → Prop) (h :
 (s.length ≤ (1000000 : Nat) ∧ [(37 : UInt8)] = [(37 : UInt8)]) ∧
 ∀ (x : List UInt8 × List UInt8 × Bool),
 x = (before s, after s, hasPct s) →
 iteP x.snd.snd
 (x.snd.fst.length.le (1000000 : Nat) ∧
 ∀ (x_1 : Dir × List UInt8 × Int),
 x_1 = readF x.snd.fst →
 iteP (x_1.snd.snd != (0 : Int)) (XA x_1.snd.snd (AV.sc (Value.slice none (0 : Nat) (0 : Nat))))
 (iteP
 ((List.map (fun (b : UInt8) => [AV.sc (Value.int IntKind.u8 (↑b.toNat : Int))]) x.fst).all
 fun (e : List AV) => e.all AV.one)
 (iteP (List.map (fun (b : UInt8) => [AV.sc (Value.int IntKind.u8 (↑b.toNat : Int))]) x.fst).isEmpty
 (sB (AV.sc (Value.slice none (0 : Nat) (0 : Nat))) =
 sB (AV.sc (Value.slice none (0 : Nat) (0 : Nat))) ∧
 ∀ (x : Dir × Int × Cells),
 x =
 resolveF
 (Dir.mk x_1.fst.minus x_1.fst.zero x_1.fst.plus x_1.fst.space x_1.fst.width x_1.fst.prec
 x_1.fst.kind)
 [] →
 iteP (x.snd.fst != (0 : Int))
 (iteP (x.snd.fst != (0 : Int)) (XB x.snd.fst (AV.sc (Value.slice none (0 : Nat) (0 : Nat))))
 (NB x_1.snd.fst (AV.sc (Value.slice none (0 : Nat) (0 : Nat)))))
 (iteP (x.fst.kind != (37 : Int)) False
 (((-1000 : Int) ≤ x.fst.width ∧
 x.fst.width ≤ (1000 : Int) ∧
 (0 : Int) ≤ x.fst.kind ∧
 x.fst.kind ≤ (255 : Int) ∧
 (0 : Nat) ≤ (1000000 : Nat) ∧ (1 : Nat) ≤ (1000000 : Nat)) ∧
 ∀ (x_2 : List UInt8),
 x_2 =
 padF
 (Dir.mk x.fst.minus x.fst.zero x.fst.plus x.fst.space x.fst.width x.fst.prec
 x.fst.kind)
 [] [(37 : UInt8)] →
 iteP
 ((List.map (fun (b : UInt8) => [AV.sc (Value.int IntKind.u8 (↑b.toNat : Int))])
 x_2).all
 fun (e : List AV) => e.all AV.one)
 (iteP
 (List.map (fun (b : UInt8) => [AV.sc (Value.int IntKind.u8 (↑b.toNat : Int))])
 x_2).isEmpty
 (NB x_1.snd.fst (AV.sc (Value.slice none (0 : Nat) (0 : Nat))))
 (iteP
 (fits
 (List.map
 (fun (b : UInt8) => [AV.sc (Value.int IntKind.u8 (↑b.toNat : Int))])
 x_2).length
 (1 : Nat))
 (NC x_1.snd.fst (AV.sc (Value.slice none (0 : Nat) (0 : Nat)))
 (List.map
 (fun (b : UInt8) => [AV.sc (Value.int IntKind.u8 (↑b.toNat : Int))]) x_2)
 (List.map
 (fun (b : UInt8) => [AV.sc (Value.int IntKind.u8 (↑b.toNat : Int))])
 x_2).length)
 False))
 False)))
 (iteP
 (fits (List.map (fun (b : UInt8) => [AV.sc (Value.int IntKind.u8 (↑b.toNat : Int))]) x.fst).length
 (1 : Nat))
 (sC (AV.sc (Value.slice none (0 : Nat) (0 : Nat)))
 (List.map (fun (b : UInt8) => [AV.sc (Value.int IntKind.u8 (↑b.toNat : Int))]) x.fst)
 (List.map (fun (b : UInt8) => [AV.sc (Value.int IntKind.u8 (↑b.toNat : Int))])
 x.fst).length =
 sC (AV.sc (Value.slice none (0 : Nat) (0 : Nat)))
 (List.map (fun (b : UInt8) => [AV.sc (Value.int IntKind.u8 (↑b.toNat : Int))]) x.fst)
 (List.map (fun (b : UInt8) => [AV.sc (Value.int IntKind.u8 (↑b.toNat : Int))])
 x.fst).length ∧
 ∀ (x_2 : Dir × Int × Cells),
 x_2 =
 resolveF
 (Dir.mk x_1.fst.minus x_1.fst.zero x_1.fst.plus x_1.fst.space x_1.fst.width x_1.fst.prec
 x_1.fst.kind)
 [] →
 iteP (x_2.snd.fst != (0 : Int))
 (iteP (x_2.snd.fst != (0 : Int))
 (XC x_2.snd.fst (AV.sc (Value.slice none (0 : Nat) (0 : Nat)))
 (List.map (fun (b : UInt8) => [AV.sc (Value.int IntKind.u8 (↑b.toNat : Int))]) x.fst)
 (List.map (fun (b : UInt8) => [AV.sc (Value.int IntKind.u8 (↑b.toNat : Int))])
 x.fst).length)
 (NC x_1.snd.fst (AV.sc (Value.slice none (0 : Nat) (0 : Nat)))
 (List.map (fun (b : UInt8) => [AV.sc (Value.int IntKind.u8 (↑b.toNat : Int))]) x.fst)
 (List.map (fun (b : UInt8) => [AV.sc (Value.int IntKind.u8 (↑b.toNat : Int))])
 x.fst).length))
 (iteP (x_2.fst.kind != (37 : Int)) False
 (((-1000 : Int) ≤ x_2.fst.width ∧
 x_2.fst.width ≤ (1000 : Int) ∧
 (0 : Int) ≤ x_2.fst.kind ∧
 x_2.fst.kind ≤ (255 : Int) ∧
 (0 : Nat) ≤ (1000000 : Nat) ∧ (1 : Nat) ≤ (1000000 : Nat)) ∧
 ∀ (x_3 : List UInt8),
 x_3 =
 padF
 (Dir.mk x_2.fst.minus x_2.fst.zero x_2.fst.plus x_2.fst.space x_2.fst.width
 x_2.fst.prec x_2.fst.kind)
 [] [(37 : UInt8)] →
 iteP
 ((List.map (fun (b : UInt8) => [AV.sc (Value.int IntKind.u8 (↑b.toNat : Int))])
 x_3).all
 fun (e : List AV) => e.all AV.one)
 (iteP
 (List.map (fun (b : UInt8) => [AV.sc (Value.int IntKind.u8 (↑b.toNat : Int))])
 x_3).isEmpty
 (NC x_1.snd.fst (AV.sc (Value.slice none (0 : Nat) (0 : Nat)))
 (List.map
 (fun (b : UInt8) => [AV.sc (Value.int IntKind.u8 (↑b.toNat : Int))])
 x.fst)
 (List.map
 (fun (b : UInt8) => [AV.sc (Value.int IntKind.u8 (↑b.toNat : Int))])
 x.fst).length)
 (iteP
 (allLen (1 : Nat)
 (List.map
 (fun (b : UInt8) => [AV.sc (Value.int IntKind.u8 (↑b.toNat : Int))])
 x.fst) &&
 fits
 ((List.map
 (fun (b : UInt8) =>
 [AV.sc (Value.int IntKind.u8 (↑b.toNat : Int))])
 x.fst).length +
 (List.map
 (fun (b : UInt8) =>
 [AV.sc (Value.int IntKind.u8 (↑b.toNat : Int))])
 x_3).length)
 (1 : Nat))
 (iteP
 (decide
 ((List.map
 (fun (b : UInt8) =>
 [AV.sc (Value.int IntKind.u8 (↑b.toNat : Int))])
 x.fst).length =
 (List.map
 (fun (b : UInt8) =>
 [AV.sc (Value.int IntKind.u8 (↑b.toNat : Int))])
 x.fst).length))
 (NC x_1.snd.fst (AV.sc (Value.slice none (0 : Nat) (0 : Nat)))
 (List.map
 (fun (b : UInt8) => [AV.sc (Value.int IntKind.u8 (↑b.toNat : Int))])
 x.fst ++
 List.map
 (fun (b : UInt8) => [AV.sc (Value.int IntKind.u8 (↑b.toNat : Int))])
 x_3)
 ((List.map
 (fun (b : UInt8) =>
 [AV.sc (Value.int IntKind.u8 (↑b.toNat : Int))])
 x.fst).length +
 (List.map
 (fun (b : UInt8) =>
 [AV.sc (Value.int IntKind.u8 (↑b.toNat : Int))])
 x_3).length))
 False)
 False))
 False)))
 False))
 False))
 (iteP
 ((List.map (fun (b : UInt8) => [AV.sc (Value.int IntKind.u8 (↑b.toNat : Int))]) x.fst).all
 fun (e : List AV) => e.all AV.one)
 (iteP (List.map (fun (b : UInt8) => [AV.sc (Value.int IntKind.u8 (↑b.toNat : Int))]) x.fst).isEmpty
 (XB (0 : Int) (AV.sc (Value.slice none (0 : Nat) (0 : Nat))))
 (iteP
 (fits (List.map (fun (b : UInt8) => [AV.sc (Value.int IntKind.u8 (↑b.toNat : Int))]) x.fst).length
 (1 : Nat))
 (XC (0 : Int) (AV.sc (Value.slice none (0 : Nat) (0 : Nat)))
 (List.map (fun (b : UInt8) => [AV.sc (Value.int IntKind.u8 (↑b.toNat : Int))]) x.fst)
 (List.map (fun (b : UInt8) => [AV.sc (Value.int IntKind.u8 (↑b.toNat : Int))]) x.fst).length)
 False))
 False)) :
 (fun (s : List UInt8) (NB : List UInt8 → AV → Prop) (NC : List UInt8 → AV → Cells → Nat → Prop) (XA XB : Int → AV → Prop) (XC : Int → AV → Cells → Nat → Prop) => wpRound Y2 Door.cfg Tryd.prog 40 18 2 (IA s nilA) (qN NB NC) (qX XA XB XC)) s NB NC XA XB XC :=
 Eq.mp (by kernel_rfl) h

theorem gBn (s : List UInt8) (NB : List UInt8 → AV → Prop) (NC : List UInt8 → AV → Cells → Nat → Prop) (XA : Int → AV → Prop) (XB : Int → AV → Prop) (XC : Int → AV → Cells → Nat → Prop) (h :
 (s.length ≤ (1000000 : Nat) ∧ [(37 : UInt8)] = [(37 : UInt8)]) ∧
 ∀ (x : List UInt8 × List UInt8 × Bool),
 x = (before s, after s, hasPct s) →
 iteP x.snd.snd
 (x.snd.fst.length.le (1000000 : Nat) ∧
 ∀ (x_1 : Dir × List UInt8 × Int),
 x_1 = readF x.snd.fst →
 iteP (x_1.snd.snd != (0 : Int)) (XB x_1.snd.snd (AV.sc (Value.slice none (0 : Nat) (0 : Nat))))
 (iteP
 ((List.map (fun (b : UInt8) => [AV.sc (Value.int IntKind.u8 (↑b.toNat : Int))]) x.fst).all
 fun (e : List AV) => e.all AV.one)
 (iteP (List.map (fun (b : UInt8) => [AV.sc (Value.int IntKind.u8 (↑b.toNat : Int))]) x.fst).isEmpty
 (sB (AV.sc (Value.slice none (0 : Nat) (0 : Nat))) =
 sB (AV.sc (Value.slice none (0 : Nat) (0 : Nat))) ∧
 ∀ (x : Dir × Int × Cells),
 x =
 resolveF
 (Dir.mk x_1.fst.minus x_1.fst.zero x_1.fst.plus x_1.fst.space x_1.fst.width x_1.fst.prec
 x_1.fst.kind)
 [] →
 iteP (x.snd.fst != (0 : Int))
 (iteP (x.snd.fst != (0 : Int)) (XB x.snd.fst (AV.sc (Value.slice none (0 : Nat) (0 : Nat))))
 (NB x_1.snd.fst (AV.sc (Value.slice none (0 : Nat) (0 : Nat)))))
 (iteP (x.fst.kind != (37 : Int)) False
 (((-1000 : Int) ≤ x.fst.width ∧
 x.fst.width ≤ (1000 : Int) ∧
 (0 : Int) ≤ x.fst.kind ∧
 x.fst.kind ≤ (255 : Int) ∧
 (0 : Nat) ≤ (1000000 : Nat) ∧ (1 : Nat) ≤ (1000000 : Nat)) ∧
 ∀ (x_2 : List UInt8),
 x_2 =
 padF
 (Dir.mk x.fst.minus x.fst.zero x.fst.plus x.fst.space x.fst.width x.fst.prec
 x.fst.kind)
 [] [(37 : UInt8)] →
 iteP
 ((List.map (fun (b : UInt8) => [AV.sc (Value.int IntKind.u8 (↑b.toNat : Int))])
 x_2).all
 fun (e : List AV) => e.all AV.one)
 (iteP
 (List.map (fun (b : UInt8) => [AV.sc (Value.int IntKind.u8 (↑b.toNat : Int))])
 x_2).isEmpty
 (NB x_1.snd.fst (AV.sc (Value.slice none (0 : Nat) (0 : Nat))))
 (iteP
 (fits
 (List.map
 (fun (b : UInt8) => [AV.sc (Value.int IntKind.u8 (↑b.toNat : Int))])
 x_2).length
 (1 : Nat))
 (NC x_1.snd.fst (AV.sc (Value.slice none (0 : Nat) (0 : Nat)))
 (List.map
 (fun (b : UInt8) => [AV.sc (Value.int IntKind.u8 (↑b.toNat : Int))]) x_2)
 (List.map
 (fun (b : UInt8) => [AV.sc (Value.int IntKind.u8 (↑b.toNat : Int))])
 x_2).length)
 False))
 False)))
 (iteP
 (fits (List.map (fun (b : UInt8) => [AV.sc (Value.int IntKind.u8 (↑b.toNat : Int))]) x.fst).length
 (1 : Nat))
 (sC (AV.sc (Value.slice none (0 : Nat) (0 : Nat)))
 (List.map (fun (b : UInt8) => [AV.sc (Value.int IntKind.u8 (↑b.toNat : Int))]) x.fst)
 (List.map (fun (b : UInt8) => [AV.sc (Value.int IntKind.u8 (↑b.toNat : Int))])
 x.fst).length =
 sC (AV.sc (Value.slice none (0 : Nat) (0 : Nat)))
 (List.map (fun (b : UInt8) => [AV.sc (Value.int IntKind.u8 (↑b.toNat : Int))]) x.fst)
 (List.map (fun (b : UInt8) => [AV.sc (Value.int IntKind.u8 (↑b.toNat : Int))])
 x.fst).length ∧
 ∀ (x_2 : Dir × Int × Cells),
 x_2 =
 resolveF
 (Dir.mk x_1.fst.minus x_1.fst.zero x_1.fst.plus x_1.fst.space x_1.fst.width x_1.fst.prec
 x_1.fst.kind)
 [] →
 iteP (x_2.snd.fst != (0 : Int))
 (iteP (x_2.snd.fst != (0 : Int))
 (XC x_2.snd.fst (AV.sc (Value.slice none (0 : Nat) (0 : Nat)))
 (List.map (fun (b : UInt8) => [AV.sc (Value.int IntKind.u8 (↑b.toNat : Int))]) x.fst)
 (List.map (fun (b : UInt8) => [AV.sc (Value.int IntKind.u8 (↑b.toNat : Int))])
 x.fst).length)
 (NC x_1.snd.fst (AV.sc (Value.slice none (0 : Nat) (0 : Nat)))
 (List.map (fun (b : UInt8) => [AV.sc (Value.int IntKind.u8 (↑b.toNat : Int))]) x.fst)
 (List.map (fun (b : UInt8) => [AV.sc (Value.int IntKind.u8 (↑b.toNat : Int))])
 x.fst).length))
 (iteP (x_2.fst.kind != (37 : Int)) False
 (((-1000 : Int) ≤ x_2.fst.width ∧
 x_2.fst.width ≤ (1000 : Int) ∧
 (0 : Int) ≤ x_2.fst.kind ∧
 x_2.fst.kind ≤ (255 : Int) ∧
 (0 : Nat) ≤ (1000000 : Nat) ∧ (1 : Nat) ≤ (1000000 : Nat)) ∧
 ∀ (x_3 : List UInt8),
 x_3 =
 padF
 (Dir.mk x_2.fst.minus x_2.fst.zero x_2.fst.plus x_2.fst.space x_2.fst.width
 x_2.fst.prec x_2.fst.kind)
 [] [(37 : UInt8)] →
 iteP
 ((List.map (fun (b : UInt8) => [AV.sc (Value.int IntKind.u8 (↑b.toNat : Int))])
 x_3).all
 fun (e : List AV) => e.all AV.one)
 (iteP
 (List.map (fun (b : UInt8) => [AV.sc (Value.int IntKind.u8 (↑b.toNat : Int))])
 x_3).isEmpty
 (NC x_1.snd.fst (AV.sc (Value.slice none (0 : Nat) (0 : Nat)))
 (List.map
 (fun (b : UInt8) => [AV.sc (Value.int IntKind.u8 (↑b.toNat : Int))])
 x.fst)
 (List.map
 (fun (b : UInt8) => [AV.sc (Value.int IntKind.u8 (↑b.toNat : Int))])
 x.fst).length)
 (iteP
 (allLen (1 : Nat)
 (List.map
 (fun (b : UInt8) => [AV.sc (Value.int IntKind.u8 (↑b.toNat : Int))])
 x.fst) &&
 fits
 ((List.map
 (fun (b : UInt8) =>
 [AV.sc (Value.int IntKind.u8 (↑b.toNat : Int))])
 x.fst).length +
 (List.map
 (fun (b : UInt8) =>
 [AV.sc (Value.int IntKind.u8 (↑b.toNat : Int))])
 x_3).length)
 (1 : Nat))
 (iteP
 (decide
 ((List.map
 (fun (b : UInt8) =>
 [AV.sc (Value.int IntKind.u8 (↑b.toNat : Int))])
 x.fst).length =
 (List.map
 (fun (b : UInt8) =>
 [AV.sc (Value.int IntKind.u8 (↑b.toNat : Int))])
 x.fst).length))
 (NC x_1.snd.fst (AV.sc (Value.slice none (0 : Nat) (0 : Nat)))
 (List.map
 (fun (b : UInt8) => [AV.sc (Value.int IntKind.u8 (↑b.toNat : Int))])
 x.fst ++
 List.map
 (fun (b : UInt8) => [AV.sc (Value.int IntKind.u8 (↑b.toNat : Int))])
 x_3)
 ((List.map
 (fun (b : UInt8) =>
 [AV.sc (Value.int IntKind.u8 (↑b.toNat : Int))])
 x.fst).length +
 (List.map
 (fun (b : UInt8) =>
 [AV.sc (Value.int IntKind.u8 (↑b.toNat : Int))])
 x_3).length))
 False)
 False))
 False)))
 False))
 False))
 (iteP
 ((List.map (fun (b : UInt8) => [AV.sc (Value.int IntKind.u8 (↑b.toNat : Int))]) x.fst).all
 fun (e : List AV) => e.all AV.one)
 (iteP (List.map (fun (b : UInt8) => [AV.sc (Value.int IntKind.u8 (↑b.toNat : Int))]) x.fst).isEmpty
 (XB (0 : Int) (AV.sc (Value.slice none (0 : Nat) (0 : Nat))))
 (iteP
 (fits (List.map (fun (b : UInt8) => [AV.sc (Value.int IntKind.u8 (↑b.toNat : Int))]) x.fst).length
 (1 : Nat))
 (XC (0 : Int) (AV.sc (Value.slice none (0 : Nat) (0 : Nat)))
 (List.map (fun (b : UInt8) => [AV.sc (Value.int IntKind.u8 (↑b.toNat : Int))]) x.fst)
 (List.map (fun (b : UInt8) => [AV.sc (Value.int IntKind.u8 (↑b.toNat : Int))]) x.fst).length)
 False))
 False)) :
 (fun (s : List UInt8) (NB : List UInt8 → AV → Prop) (NC : List UInt8 → AV → Cells → Nat → Prop) (XA XB : Int → AV → Prop) (XC : Int → AV → Cells → Nat → Prop) => wpRound Y2 Door.cfg Tryd.prog 40 18 2 (IB s nilA) (qN NB NC) (qX XA XB XC)) s NB NC XA XB XC :=
 Eq.mp (by kernel_rfl) h

theorem gCn (s : List UInt8) (b : Cells) (n : Nat) (NB : List UInt8 → AV → Prop) (NC : List UInt8 → AV → Cells → Nat → Prop) (XA : Int → AV → Prop) (XB : Int → AV → Prop) (XC : Int → AV → Cells → Nat → Prop) (h :
 (s.length ≤ (1000000 : Nat) ∧ [(37 : UInt8)] = [(37 : UInt8)]) ∧
 ∀ (x : List UInt8 × List UInt8 × Bool),
 x = (before s, after s, hasPct s) →
 iteP x.snd.snd
 (x.snd.fst.length.le (1000000 : Nat) ∧
 ∀ (x_1 : Dir × List UInt8 × Int),
 x_1 = readF x.snd.fst →
 iteP (x_1.snd.snd != (0 : Int)) (XC x_1.snd.snd (AV.sc (Value.slice none (0 : Nat) (0 : Nat))) b n)
 (iteP
 ((List.map (fun (b : UInt8) => [AV.sc (Value.int IntKind.u8 (↑b.toNat : Int))]) x.fst).all
 fun (e : List AV) => e.all AV.one)
 (iteP (List.map (fun (b : UInt8) => [AV.sc (Value.int IntKind.u8 (↑b.toNat : Int))]) x.fst).isEmpty
 (sC (AV.sc (Value.slice none (0 : Nat) (0 : Nat))) b n =
 sC (AV.sc (Value.slice none (0 : Nat) (0 : Nat))) b n ∧
 ∀ (x : Dir × Int × Cells),
 x =
 resolveF
 (Dir.mk x_1.fst.minus x_1.fst.zero x_1.fst.plus x_1.fst.space x_1.fst.width x_1.fst.prec
 x_1.fst.kind)
 [] →
 iteP (x.snd.fst != (0 : Int))
 (iteP (x.snd.fst != (0 : Int))
 (XC x.snd.fst (AV.sc (Value.slice none (0 : Nat) (0 : Nat))) b n)
 (NC x_1.snd.fst (AV.sc (Value.slice none (0 : Nat) (0 : Nat))) b n))
 (iteP (x.fst.kind != (37 : Int)) False
 (((-1000 : Int) ≤ x.fst.width ∧
 x.fst.width ≤ (1000 : Int) ∧
 (0 : Int) ≤ x.fst.kind ∧
 x.fst.kind ≤ (255 : Int) ∧
 (0 : Nat) ≤ (1000000 : Nat) ∧ (1 : Nat) ≤ (1000000 : Nat)) ∧
 ∀ (x_2 : List UInt8),
 x_2 =
 padF
 (Dir.mk x.fst.minus x.fst.zero x.fst.plus x.fst.space x.fst.width x.fst.prec
 x.fst.kind)
 [] [(37 : UInt8)] →
 iteP
 ((List.map (fun (b : UInt8) => [AV.sc (Value.int IntKind.u8 (↑b.toNat : Int))])
 x_2).all
 fun (e : List AV) => e.all AV.one)
 (iteP
 (List.map (fun (b : UInt8) => [AV.sc (Value.int IntKind.u8 (↑b.toNat : Int))])
 x_2).isEmpty
 (NC x_1.snd.fst (AV.sc (Value.slice none (0 : Nat) (0 : Nat))) b n)
 (iteP
 (allLen (1 : Nat) b &&
 fits
 (List.length b +
 (List.map
 (fun (b : UInt8) => [AV.sc (Value.int IntKind.u8 (↑b.toNat : Int))])
 x_2).length)
 (1 : Nat))
 (iteP (decide (List.length b = n))
 (NC x_1.snd.fst (AV.sc (Value.slice none (0 : Nat) (0 : Nat)))
 (b ++
 List.map
 (fun (b : UInt8) => [AV.sc (Value.int IntKind.u8 (↑b.toNat : Int))])
 x_2)
 (n +
 (List.map
 (fun (b : UInt8) => [AV.sc (Value.int IntKind.u8 (↑b.toNat : Int))])
 x_2).length))
 False)
 False))
 False)))
 (iteP
 (allLen (1 : Nat) b &&
 fits
 (List.length b +
 (List.map (fun (b : UInt8) => [AV.sc (Value.int IntKind.u8 (↑b.toNat : Int))])
 x.fst).length)
 (1 : Nat))
 (iteP (decide (List.length b = n))
 (sC (AV.sc (Value.slice none (0 : Nat) (0 : Nat)))
 (b ++ List.map (fun (b : UInt8) => [AV.sc (Value.int IntKind.u8 (↑b.toNat : Int))]) x.fst)
 (n +
 (List.map (fun (b : UInt8) => [AV.sc (Value.int IntKind.u8 (↑b.toNat : Int))])
 x.fst).length) =
 sC (AV.sc (Value.slice none (0 : Nat) (0 : Nat)))
 (b ++ List.map (fun (b : UInt8) => [AV.sc (Value.int IntKind.u8 (↑b.toNat : Int))]) x.fst)
 (n +
 (List.map (fun (b : UInt8) => [AV.sc (Value.int IntKind.u8 (↑b.toNat : Int))])
 x.fst).length) ∧
 ∀ (x_2 : Dir × Int × Cells),
 x_2 =
 resolveF
 (Dir.mk x_1.fst.minus x_1.fst.zero x_1.fst.plus x_1.fst.space x_1.fst.width
 x_1.fst.prec x_1.fst.kind)
 [] →
 iteP (x_2.snd.fst != (0 : Int))
 (iteP (x_2.snd.fst != (0 : Int))
 (XC x_2.snd.fst (AV.sc (Value.slice none (0 : Nat) (0 : Nat)))
 (b ++
 List.map (fun (b : UInt8) => [AV.sc (Value.int IntKind.u8 (↑b.toNat : Int))])
 x.fst)
 (n +
 (List.map (fun (b : UInt8) => [AV.sc (Value.int IntKind.u8 (↑b.toNat : Int))])
 x.fst).length))
 (NC x_1.snd.fst (AV.sc (Value.slice none (0 : Nat) (0 : Nat)))
 (b ++
 List.map (fun (b : UInt8) => [AV.sc (Value.int IntKind.u8 (↑b.toNat : Int))])
 x.fst)
 (n +
 (List.map (fun (b : UInt8) => [AV.sc (Value.int IntKind.u8 (↑b.toNat : Int))])
 x.fst).length)))
 (iteP (x_2.fst.kind != (37 : Int)) False
 (((-1000 : Int) ≤ x_2.fst.width ∧
 x_2.fst.width ≤ (1000 : Int) ∧
 (0 : Int) ≤ x_2.fst.kind ∧
 x_2.fst.kind ≤ (255 : Int) ∧
 (0 : Nat) ≤ (1000000 : Nat) ∧ (1 : Nat) ≤ (1000000 : Nat)) ∧
 ∀ (x_3 : List UInt8),
 x_3 =
 padF
 (Dir.mk x_2.fst.minus x_2.fst.zero x_2.fst.plus x_2.fst.space x_2.fst.width
 x_2.fst.prec x_2.fst.kind)
 [] [(37 : UInt8)] →
 iteP
 ((List.map
 (fun (b : UInt8) => [AV.sc (Value.int IntKind.u8 (↑b.toNat : Int))])
 x_3).all
 fun (e : List AV) => e.all AV.one)
 (iteP
 (List.map
 (fun (b : UInt8) => [AV.sc (Value.int IntKind.u8 (↑b.toNat : Int))])
 x_3).isEmpty
 (NC x_1.snd.fst (AV.sc (Value.slice none (0 : Nat) (0 : Nat)))
 (b ++
 List.map
 (fun (b : UInt8) => [AV.sc (Value.int IntKind.u8 (↑b.toNat : Int))])
 x.fst)
 (n +
 (List.map
 (fun (b : UInt8) => [AV.sc (Value.int IntKind.u8 (↑b.toNat : Int))])
 x.fst).length))
 (iteP
 (allLen (1 : Nat)
 (b ++
 List.map
 (fun (b : UInt8) =>
 [AV.sc (Value.int IntKind.u8 (↑b.toNat : Int))])
 x.fst) &&
 fits
 ((b ++
 List.map
 (fun (b : UInt8) =>
 [AV.sc (Value.int IntKind.u8 (↑b.toNat : Int))])
 x.fst).length +
 (List.map
 (fun (b : UInt8) =>
 [AV.sc (Value.int IntKind.u8 (↑b.toNat : Int))])
 x_3).length)
 (1 : Nat))
 (iteP
 (decide
 ((b ++
 List.map
 (fun (b : UInt8) =>
 [AV.sc (Value.int IntKind.u8 (↑b.toNat : Int))])
 x.fst).length =
 n +
 (List.map
 (fun (b : UInt8) =>
 [AV.sc (Value.int IntKind.u8 (↑b.toNat : Int))])
 x.fst).length))
 (NC x_1.snd.fst (AV.sc (Value.slice none (0 : Nat) (0 : Nat)))
 (b ++
 List.map
 (fun (b : UInt8) =>
 [AV.sc (Value.int IntKind.u8 (↑b.toNat : Int))])
 x.fst ++
 List.map
 (fun (b : UInt8) =>
 [AV.sc (Value.int IntKind.u8 (↑b.toNat : Int))])
 x_3)
 (n +
 (List.map
 (fun (b : UInt8) =>
 [AV.sc (Value.int IntKind.u8 (↑b.toNat : Int))])
 x.fst).length +
 (List.map
 (fun (b : UInt8) =>
 [AV.sc (Value.int IntKind.u8 (↑b.toNat : Int))])
 x_3).length))
 False)
 False))
 False)))
 False)
 False))
 False))
 (iteP
 ((List.map (fun (b : UInt8) => [AV.sc (Value.int IntKind.u8 (↑b.toNat : Int))]) x.fst).all
 fun (e : List AV) => e.all AV.one)
 (iteP (List.map (fun (b : UInt8) => [AV.sc (Value.int IntKind.u8 (↑b.toNat : Int))]) x.fst).isEmpty
 (XC (0 : Int) (AV.sc (Value.slice none (0 : Nat) (0 : Nat))) b n)
 (iteP
 (allLen (1 : Nat) b &&
 fits
 (List.length b +
 (List.map (fun (b : UInt8) => [AV.sc (Value.int IntKind.u8 (↑b.toNat : Int))]) x.fst).length)
 (1 : Nat))
 (iteP (decide (List.length b = n))
 (XC (0 : Int) (AV.sc (Value.slice none (0 : Nat) (0 : Nat)))
 (b ++ List.map (fun (b : UInt8) => [AV.sc (Value.int IntKind.u8 (↑b.toNat : Int))]) x.fst)
 (n + (List.map (fun (b : UInt8) => [AV.sc (Value.int IntKind.u8 (↑b.toNat : Int))]) x.fst).length))
 False)
 False))
 False)) :
 (fun (s : List UInt8) (b : Cells) (n : Nat) (NB : List UInt8 → AV → Prop) (NC : List UInt8 → AV → Cells → Nat → Prop) (XA XB : Int → AV → Prop) (XC : Int → AV → Cells → Nat → Prop) => wpRound Y2 Door.cfg Tryd.prog 40 18 2 (IC s nilA b n) (qN NB NC) (qX XA XB XC)) s b n NB NC XA XB XC :=
 Eq.mp (by kernel_rfl) h

end
end Go.Proofs.Pr

/- Printf: the rounds of Sprintf in general. -/
namespace Go.Proofs.Pr
open Go Go.Ef
noncomputable section
set_option maxRecDepth 100000

def dirAt (s : List UInt8) : Dir := (readF (after s)).1
def restAt (s : List UInt8) : List UInt8 := (readF (after s)).2.1
def resAt (s : List UInt8) (l : Cells) : Dir × Int × Cells := resolveF (dirAt s) l
def bodyAt (r : Dir × Int × Cells) : List UInt8 × List UInt8 := bodyF r.1 (headK r.2.2) (headN r.2.2) (headS r.2.2)
structure Step (s : List UInt8) (l : Cells) (o : List UInt8) (P : List UInt8 → Cells → List UInt8 → Prop) (X : Int → Cells → List UInt8 → Prop) : Prop where
  hs : s.length ≤ 1000000
  ho : o.length ≤ 50000000
  hg : goodsB l = true
  fin : hasPct s = false → X 0 l (o ++ s)
  ok : hasPct s = true → (readF (after s)).2.2 = 0
  bad : hasPct s = true → (resAt s l).2.1 ≠ 0 → X (resAt s l).2.1 (resAt s l).2.2 (o ++ before s)
  rng : hasPct s = true → (resAt s l).2.1 = 0 → -1000 ≤ (resAt s l).1.width ∧ (resAt s l).1.width ≤ 1000 ∧ 0 ≤ (resAt s l).1.kind ∧ (resAt s l).1.kind ≤ 255
  pct : hasPct s = true → (resAt s l).2.1 = 0 → (resAt s l).1.kind = 37 → P (restAt s) (resAt s l).2.2 (o ++ before s ++ padF (resAt s l).1 [] [37])
  arg : hasPct s = true → (resAt s l).2.1 = 0 → (resAt s l).1.kind ≠ 37 → 1 ≤ (resAt s l).2.2.length ∧ goodsB (resAt s l).2.2 = true ∧ bodyOk (resAt s l).1 (headK (resAt s l).2.2) = true ∧ (bodyAt (resAt s l)).1.length ≤ 1000000 ∧ (bodyAt (resAt s l)).2.length ≤ 1000000 ∧
    P (restAt s) ((resAt s l).2.2.drop 1) (o ++ before s ++ padF (resAt s l).1 (bodyAt (resAt s l)).1 (bodyAt (resAt s l)).2)

def midK (d : Dir) (l : Cells) (XK : Int → AV → Prop) (NK : AV → Prop) (WK : AV → List UInt8 → Prop) : Prop :=
  ∀ x : Dir × Int × Cells, x = resolveF d l → iteP (x.2.1 != 0) (iteP (x.2.1 != 0) (XK x.2.1 (.sl x.2.2 0)) (NK (.sl x.2.2 0)))
    (iteP (x.1.kind != 37)
      (iteP (inRange 0 (List.length x.2.2))
        (getI 0 x.2.2 = some [AV.sc (.int .i64 (cellInt x.2.2 0 0)), AV.sc (.int .i64 (cellInt x.2.2 0 1)), AV.sc (.string ⟨⟨cellStr x.2.2 0 2⟩⟩)] ∧
          (bodyOk x.1 (cellInt x.2.2 0 0) = true ∧ (cellStr x.2.2 0 2).length ≤ 1000000) ∧
          ∀ y : List UInt8 × List UInt8, y = bodyF x.1 (cellInt x.2.2 0 0) (cellInt x.2.2 0 1) (cellStr x.2.2 0 2) →
            iteP (headLen 3 x.2.2) (iteP (true && decide ((1 : Int) ≤ (List.length x.2.2 : Int)))
              ((-1000 ≤ x.1.width ∧ x.1.width ≤ 1000 ∧ 0 ≤ x.1.kind ∧ x.1.kind ≤ 255 ∧ y.1.length ≤ 1000000 ∧ y.2.length ≤ 1000000) ∧
                ∀ z : List UInt8, z = padF x.1 y.1 y.2 → WK (.sl (List.drop 1 x.2.2) 0) z) False) False) False)
      ((-1000 ≤ x.1.width ∧ x.1.width ≤ 1000 ∧ 0 ≤ x.1.kind ∧ x.1.kind ≤ 255 ∧ 0 ≤ 1000000 ∧ 1 ≤ 1000000) ∧ ∀ z : List UInt8, z = padF x.1 [] [37] → WK (.sl x.2.2 0) z))
def midN (d : Dir) (XK : Int → AV → Prop) (NK : AV → Prop) (WK : AV → List UInt8 → Prop) : Prop :=
  ∀ x : Dir × Int × Cells, x = resolveF d [] → iteP (x.2.1 != 0) (iteP (x.2.1 != 0) (XK x.2.1 nilA) (NK nilA))
    (iteP (x.1.kind != 37) False
      ((-1000 ≤ x.1.width ∧ x.1.width ≤ 1000 ∧ 0 ≤ x.1.kind ∧ x.1.kind ≤ 255 ∧ 0 ≤ 1000000 ∧ 1 ≤ 1000000) ∧ ∀ z : List UInt8, z = padF x.1 [] [37] → WK nilA z))

theorem bne0 {e : Int} : (e != 0) = decide (e ≠ 0) := by by_cases h : e = 0 <;> simp [h]
theorem mid_ok {s : List UInt8} {l : Cells} {o : List UInt8} {P : List UInt8 → Cells → List UInt8 → Prop} {X : Int → Cells → List UInt8 → Prop} (H : Step s l o P X) (hp : hasPct s = true) {XK : Int → AV → Prop} {NK : AV → Prop} {WK : AV → List UInt8 → Prop}
    (hx : ∀ e l', X e l' (o ++ before s) → XK e (.sl l' 0)) (hw : ∀ l' z, z.length ≤ 10000000 → P (restAt s) l' (o ++ before s ++ z) → WK (.sl l' 0) z) : midK (dirAt s) l XK NK WK := by
  intro x hxe
  replace hxe : x = resAt s l := hxe
  subst hxe
  have pad_len : ∀ (d : Dir) (u v : List UInt8), d.width ≤ 1000 → u.length ≤ 1000000 → v.length ≤ 1000000 → (padF d u v).length ≤ 10000000 := by
    intro d u v h1 h2 h3
    unfold padF
    split
    · simp; omega
    · split <;> simp <;> omega
  by_cases h0 : (resAt s l).2.1 = 0
  · rw [show ((resAt s l).2.1 != 0) = false by rw [h0]; rfl, iteP_f]
    obtain ⟨r1, r2, r3, r4⟩ := H.rng hp h0
    by_cases hk : (resAt s l).1.kind = 37
    · rw [show ((resAt s l).1.kind != 37) = false by rw [hk]; rfl, iteP_f]
      refine ⟨⟨r1, r2, r3, r4, by omega, by omega⟩, fun z hz => ?_⟩
      subst hz
      exact hw _ _ (pad_len _ _ _ r2 (by simp) (by simp)) (H.pct hp h0 hk)
    · rw [show ((resAt s l).1.kind != 37) = true by simpa using hk, iteP_t]
      obtain ⟨a1, a2, a3, a4, a5, a6⟩ := H.arg hp h0 hk
      obtain ⟨g1, g2, g3, g4, g5⟩ := head_ok a2 a1
      rw [g1, iteP_t]
      refine ⟨g2, ⟨a3, g5⟩, fun y hy => ?_⟩
      replace hy : y = bodyAt (resAt s l) := hy
      subst hy
      rw [g3, iteP_t, g4, Bool.and_self, iteP_t]
      refine ⟨⟨r1, r2, r3, r4, a4, a5⟩, fun z hz => ?_⟩
      subst hz
      exact hw _ _ (pad_len _ _ _ r2 a4 a5) a6
  · rw [show ((resAt s l).2.1 != 0) = true by simpa using h0, iteP_t, iteP_t]
    exact hx _ _ (H.bad hp h0)
theorem midN_ok {s : List UInt8} {o : List UInt8} {P : List UInt8 → Cells → List UInt8 → Prop} {X : Int → Cells → List UInt8 → Prop} (H : Step s [] o P X) (hp : hasPct s = true) {XK : Int → AV → Prop} {NK : AV → Prop} {WK : AV → List UInt8 → Prop}
    (hx : ∀ e, X e [] (o ++ before s) → XK e nilA) (hw : ∀ z, z.length ≤ 10000000 → P (restAt s) [] (o ++ before s ++ z) → WK nilA z) : midN (dirAt s) XK NK WK := by
  intro x hxe
  replace hxe : x = resAt s [] := hxe
  subst hxe
  have hl : (resAt s []).2.2 = [] := by unfold resAt; rw [res_nil]
  have pad_len : ∀ (d : Dir) (u v : List UInt8), d.width ≤ 1000 → u.length ≤ 1000000 → v.length ≤ 1000000 → (padF d u v).length ≤ 10000000 := by
    intro d u v h1 h2 h3
    unfold padF
    split
    · simp; omega
    · split <;> simp <;> omega
  by_cases h0 : (resAt s []).2.1 = 0
  · rw [show ((resAt s []).2.1 != 0) = false by rw [h0]; rfl, iteP_f]
    obtain ⟨r1, r2, r3, r4⟩ := H.rng hp h0
    by_cases hk : (resAt s []).1.kind = 37
    · rw [show ((resAt s []).1.kind != 37) = false by rw [hk]; rfl, iteP_f]
      refine ⟨⟨r1, r2, r3, r4, by omega, by omega⟩, fun z hz => ?_⟩
      subst hz
      have := H.pct hp h0 hk
      rw [hl] at this
      exact hw _ (pad_len _ _ _ r2 (by simp) (by simp)) this
    · have := (H.arg hp h0 hk).1
      rw [hl] at this
      simp at this
  · rw [show ((resAt s []).2.1 != 0) = true by simpa using h0, iteP_t, iteP_t]
    have := H.bad hp h0
    rw [hl] at this
    exact hx _ this

/- writes -/
abbrev cellsOf' (x : List UInt8) : Cells := x.map fun (b : UInt8) => [AV.sc (Value.int IntKind.u8 (b.toNat : Int))]
theorem wrB {x : List UInt8} (hx : x.length ≤ 100000000) {KB KC : Prop} (h0 : x = [] → KB) (h1 : x.isEmpty = false → KC) :
    iteP ((cellsOf' x).all fun (e : List AV) => e.all AV.one) (iteP (cellsOf' x).isEmpty KB (iteP (fits (cellsOf' x).length 1) KC False)) False := by
  rw [one_cells, iteP_t, fits_cells x hx]
  cases x with
  | nil => exact h0 rfl
  | cons c r => exact h1 rfl
theorem wrC {x u : List UInt8} {b : Cells} {n : Nat} (hb : b = byteCells u) (hn : n = u.length) (hx : x.length + u.length ≤ 100000000) {KB KC : Prop} (h0 : x = [] → KB) (h1 : x.isEmpty = false → KC) :
    iteP ((cellsOf' x).all fun (e : List AV) => e.all AV.one) (iteP (cellsOf' x).isEmpty KB (iteP (allLen 1 b && fits (List.length b + (cellsOf' x).length) 1) (iteP (decide (List.length b = n)) KC False) False)) False := by
  subst hb
  subst hn
  have f1 : fits (List.length (byteCells u) + (cellsOf' x).length) 1 = true := by
    have := fits_cells (u ++ x) (by rw [List.length_append]; omega)
    rw [List.map_append, List.length_append] at this
    exact this
  rw [one_cells, iteP_t, show allLen 1 (byteCells u) = true from allLen_cells u, f1, Bool.and_self, iteP_t, decide_eq_true (cells_len u), iteP_t]
  cases x with
  | nil => exact h0 rfl
  | cons c r => exact h1 rfl

def NBp (mk : Cells → AV) (P : List UInt8 → Cells → List UInt8 → Prop) (s : List UInt8) (a : AV) : Prop := ∃ l, a = mk l ∧ P s l []
def NCp (mk : Cells → AV) (P : List UInt8 → Cells → List UInt8 → Prop) (s : List UInt8) (a : AV) (b : Cells) (n : Nat) : Prop := ∃ l o, a = mk l ∧ o.isEmpty = false ∧ b = byteCells o ∧ n = o.length ∧ P s l o
def XBp (mk : Cells → AV) (X : Int → Cells → List UInt8 → Prop) (v : Int) (a : AV) : Prop := ∃ l, a = mk l ∧ X v l []
def XCp (mk : Cells → AV) (X : Int → Cells → List UInt8 → Prop) (v : Int) (a : AV) (b : Cells) (n : Nat) : Prop := ∃ l o, a = mk l ∧ o.isEmpty = false ∧ b = byteCells o ∧ n = o.length ∧ X v l o
theorem before_len (s : List UInt8) : (before s).length ≤ s.length := (List.takeWhile_sublist _).length_le
theorem after_len (s : List UInt8) : (after s).length ≤ s.length := by
  unfold after
  rw [List.length_drop]
  have := (List.dropWhile_sublist (l := s) (· != 37)).length_le
  omega

def mkS (l : Cells) : AV := .sl l 0
def mkNil (_ : Cells) : AV := nilA
theorem not_empty_append {u x : List UInt8} (h : u.isEmpty = false) : (u ++ x).isEmpty = false := by cases u <;> simp_all
theorem not_empty_append' {u x : List UInt8} (h : x.isEmpty = false) : (u ++ x).isEmpty = false := by cases u <;> simp_all

def WBp (mk : Cells → AV) (P : List UInt8 → Cells → List UInt8 → Prop) (rest : List UInt8) (a : AV) (z : List UInt8) : Prop :=
  iteP ((cellsOf' z).all fun (e : List AV) => e.all AV.one) (iteP (cellsOf' z).isEmpty (NBp mk P rest a) (iteP (fits (cellsOf' z).length 1) (NCp mk P rest a (cellsOf' z) (cellsOf' z).length) False)) False
def WCp (mk : Cells → AV) (P : List UInt8 → Cells → List UInt8 → Prop) (rest : List UInt8) (b : Cells) (n : Nat) (a : AV) (z : List UInt8) : Prop :=
  iteP ((cellsOf' z).all fun (e : List AV) => e.all AV.one) (iteP (cellsOf' z).isEmpty (NCp mk P rest a b n) (iteP (allLen 1 b && fits (List.length b + (cellsOf' z).length) 1) (iteP (decide (List.length b = n)) (NCp mk P rest a (b ++ cellsOf' z) (n + (cellsOf' z).length)) False) False)) False
theorem WB_ok {mk : Cells → AV} {P : List UInt8 → Cells → List UInt8 → Prop} {rest z : List UInt8} {l' : Cells} (hz : z.length ≤ 10000000) (hw : P rest l' z) : WBp mk P rest (mk l') z :=
  wrB (by omega) (fun h' => ⟨l', rfl, by rw [h'] at hw; exact hw⟩) (fun h' => ⟨l', z, rfl, h', rfl, cells_len z, hw⟩)
theorem WC_ok {mk : Cells → AV} {P : List UInt8 → Cells → List UInt8 → Prop} {rest u z : List UInt8} {b : Cells} {n : Nat} {l' : Cells} (hb : b = byteCells u) (hn : n = u.length) (hu : u.isEmpty = false) (hul : u.length ≤ 60000000) (hz : z.length ≤ 10000000) (hw : P rest l' (u ++ z)) : WCp mk P rest b n (mk l') z := by
  refine wrC hb hn (by omega) (fun h' => ⟨l', u, rfl, hu, hb, hn, by rw [h'] at hw; simpa using hw⟩) (fun h' => ⟨l', u ++ z, rfl, not_empty_append hu, ?_, ?_, hw⟩)
  · rw [hb]; exact cells_append _ _
  · rw [hn, List.length_append]; rw [show (cellsOf' z).length = z.length from List.length_map ..]

/- what all first writes leave -/
theorem restB {s : List UInt8} {l : Cells} {P : List UInt8 → Cells → List UInt8 → Prop} {X : Int → Cells → List UInt8 → Prop} (H : Step s l [] P X) (hp : hasPct s = true) (h : before s = []) :
    midK (dirAt s) l (fun e a => XBp mkS X e a) (fun a => NBp mkS P (restAt s) a) (WBp mkS P (restAt s)) := by
  refine mid_ok H hp (fun e l' hx => ⟨l', rfl, ?_⟩) (fun l' z hz hw => WB_ok hz ?_)
  · rw [h] at hx; exact hx
  · rw [h] at hw; exact hw
theorem restC {s : List UInt8} {l : Cells} {o : List UInt8} {b : Cells} {n : Nat} {P : List UInt8 → Cells → List UInt8 → Prop} {X : Int → Cells → List UInt8 → Prop} (H : Step s l o P X) (hp : hasPct s = true) (hb : b = byteCells (o ++ before s)) (hn : n = (o ++ before s).length) (h : (o ++ before s).isEmpty = false) :
    midK (dirAt s) l (fun e a => XCp mkS X e a b n) (fun a => NCp mkS P (restAt s) a b n) (WCp mkS P (restAt s) b n) := by
  have bl := before_len s
  have hs := H.hs
  have ho := H.ho
  exact mid_ok H hp (fun e l' hx => ⟨l', o ++ before s, rfl, h, hb, hn, hx⟩) (fun l' z hz hw => WC_ok hb hn h (by rw [List.length_append]; omega) hz hw)
theorem restBn {s : List UInt8} {P : List UInt8 → Cells → List UInt8 → Prop} {X : Int → Cells → List UInt8 → Prop} (H : Step s [] [] P X) (hp : hasPct s = true) (h : before s = []) :
    midN (dirAt s) (fun e a => XBp mkNil X e a) (fun a => NBp mkNil P (restAt s) a) (WBp mkNil P (restAt s)) := by
  refine midN_ok H hp (fun e hx => ⟨[], rfl, ?_⟩) (fun z hz hw => WB_ok (mk := mkNil) (l' := []) hz ?_)
  · rw [h] at hx; exact hx
  · rw [h] at hw; exact hw
theorem restCn {s : List UInt8} {o : List UInt8} {b : Cells} {n : Nat} {P : List UInt8 → Cells → List UInt8 → Prop} {X : Int → Cells → List UInt8 → Prop} (H : Step s [] o P X) (hp : hasPct s = true) (hb : b = byteCells (o ++ before s)) (hn : n = (o ++ before s).length) (h : (o ++ before s).isEmpty = false) :
    midN (dirAt s) (fun e a => XCp mkNil X e a b n) (fun a => NCp mkNil P (restAt s) a b n) (WCp mkNil P (restAt s) b n) := by
  have bl := before_len s
  have hs := H.hs
  have ho := H.ho
  exact midN_ok H hp (fun e hx => ⟨[], o ++ before s, rfl, h, hb, hn, hx⟩) (fun z hz hw => WC_ok (mk := mkNil) (l' := []) hb hn h (by rw [List.length_append]; omega) hz hw)

theorem goA {s : List UInt8} {l : Cells} {P : List UInt8 → Cells → List UInt8 → Prop} {X : Int → Cells → List UInt8 → Prop} (H : Step s l [] P X) :
    wpRound Y2 Door.cfg Tryd.prog 40 18 2 (IA s (.sl l 0)) (qN (NBp mkS P) (NCp mkS P)) (qX (fun _ _ => False) (XBp mkS X) (XCp mkS X)) := by
  have bl := before_len s
  have hs := H.hs
  refine gA s l _ _ _ _ _ ⟨⟨H.hs, rfl⟩, fun x hx => ?_⟩
  subst hx
  cases hp : hasPct s with
  | false =>
    rw [show (before s, after s, false).2.2 = false from rfl, iteP_f]
    obtain ⟨n1, _⟩ := noPct hp
    have hf := H.fin hp
    refine wrB (x := before s) (by omega) (fun h => ⟨l, rfl, ?_⟩) (fun h => ⟨l, before s, rfl, h, rfl, cells_len _, by rw [n1]; exact hf⟩)
    rw [← n1, h] at hf
    exact hf
  | true =>
    rw [show (before s, after s, true).2.2 = true from rfl, iteP_t]
    refine ⟨show (after s).length ≤ 1000000 from Nat.le_trans (after_len s) H.hs, fun x1 h1 => ?_⟩
    subst h1
    rw [show ((readF (before s, after s, true).2.1).2.2 != 0) = false by rw [show (readF (before s, after s, true).2.1).2.2 = 0 from H.ok hp]; rfl, iteP_f]
    refine wrB (x := before s) (by omega) (fun h => ⟨⟨rfl, H.hg⟩, ?_⟩) (fun h => ⟨⟨rfl, H.hg⟩, ?_⟩)
    · exact restB H hp h
    · exact restC (o := []) (b := byteCells (before s)) (n := (byteCells (before s)).length) H hp rfl (cells_len _) h
theorem goB {s : List UInt8} {l : Cells} {P : List UInt8 → Cells → List UInt8 → Prop} {X : Int → Cells → List UInt8 → Prop} (H : Step s l [] P X) :
    wpRound Y2 Door.cfg Tryd.prog 40 18 2 (IB s (.sl l 0)) (qN (NBp mkS P) (NCp mkS P)) (qX (fun _ _ => False) (XBp mkS X) (XCp mkS X)) := by
  have bl := before_len s
  have hs := H.hs
  refine gB s l _ _ _ _ _ ⟨⟨H.hs, rfl⟩, fun x hx => ?_⟩
  subst hx
  cases hp : hasPct s with
  | false =>
    rw [show (before s, after s, false).2.2 = false from rfl, iteP_f]
    obtain ⟨n1, _⟩ := noPct hp
    have hf := H.fin hp
    refine wrB (x := before s) (by omega) (fun h => ⟨l, rfl, ?_⟩) (fun h => ⟨l, before s, rfl, h, rfl, cells_len _, by rw [n1]; exact hf⟩)
    rw [← n1, h] at hf
    exact hf
  | true =>
    rw [show (before s, after s, true).2.2 = true from rfl, iteP_t]
    refine ⟨show (after s).length ≤ 1000000 from Nat.le_trans (after_len s) H.hs, fun x1 h1 => ?_⟩
    subst h1
    rw [show ((readF (before s, after s, true).2.1).2.2 != 0) = false by rw [show (readF (before s, after s, true).2.1).2.2 = 0 from H.ok hp]; rfl, iteP_f]
    refine wrB (x := before s) (by omega) (fun h => ⟨⟨rfl, H.hg⟩, ?_⟩) (fun h => ⟨⟨rfl, H.hg⟩, ?_⟩)
    · exact restB H hp h
    · exact restC (o := []) (b := byteCells (before s)) (n := (byteCells (before s)).length) H hp rfl (cells_len _) h
theorem goC {s : List UInt8} {l : Cells} {o : List UInt8} {P : List UInt8 → Cells → List UInt8 → Prop} {X : Int → Cells → List UInt8 → Prop} (H : Step s l o P X) (hne : o.isEmpty = false) :
    wpRound Y2 Door.cfg Tryd.prog 40 18 2 (IC s (.sl l 0) (byteCells o) o.length) (qN (NBp mkS P) (NCp mkS P)) (qX (fun _ _ => False) (XBp mkS X) (XCp mkS X)) := by
  have bl := before_len s
  have hs := H.hs
  have ho := H.ho
  refine gC s l (byteCells o) o.length _ _ _ _ _ ⟨⟨H.hs, rfl⟩, fun x hx => ?_⟩
  subst hx
  cases hp : hasPct s with
  | false =>
    rw [show (before s, after s, false).2.2 = false from rfl, iteP_f]
    obtain ⟨n1, _⟩ := noPct hp
    have hf := H.fin hp
    refine wrC (x := before s) (u := o) rfl rfl (by omega) (fun h => ⟨l, o, rfl, hne, rfl, rfl, ?_⟩) (fun h => ⟨l, o ++ before s, rfl, not_empty_append hne, cells_append _ _, by rw [List.length_append, List.length_map], by rw [n1]; exact hf⟩)
    rw [← n1, h, List.append_nil] at hf
    exact hf
  | true =>
    rw [show (before s, after s, true).2.2 = true from rfl, iteP_t]
    refine ⟨show (after s).length ≤ 1000000 from Nat.le_trans (after_len s) H.hs, fun x1 h1 => ?_⟩
    subst h1
    rw [show ((readF (before s, after s, true).2.1).2.2 != 0) = false by rw [show (readF (before s, after s, true).2.1).2.2 = 0 from H.ok hp]; rfl, iteP_f]
    refine wrC (x := before s) (u := o) rfl rfl (by omega) (fun h => ⟨⟨rfl, H.hg⟩, ?_⟩) (fun h => ⟨⟨rfl, H.hg⟩, ?_⟩)
    · exact restC (b := byteCells o) (n := o.length) H hp (by rw [h, List.append_nil]) (by rw [h, List.append_nil]) (by rw [h, List.append_nil]; exact hne)
    · exact restC (b := byteCells o ++ cellsOf' (before s)) (n := o.length + (cellsOf' (before s)).length) H hp (cells_append _ _) (by rw [List.length_append, List.length_map]) (not_empty_append hne)
theorem goAn {s : List UInt8} {P : List UInt8 → Cells → List UInt8 → Prop} {X : Int → Cells → List UInt8 → Prop} (H : Step s [] [] P X) :
    wpRound Y2 Door.cfg Tryd.prog 40 18 2 (IA s nilA) (qN (NBp mkNil P) (NCp mkNil P)) (qX (fun _ _ => False) (XBp mkNil X) (XCp mkNil X)) := by
  have bl := before_len s
  have hs := H.hs
  refine gAn s _ _ _ _ _ ⟨⟨H.hs, rfl⟩, fun x hx => ?_⟩
  subst hx
  cases hp : hasPct s with
  | false =>
    rw [show (before s, after s, false).2.2 = false from rfl, iteP_f]
    obtain ⟨n1, _⟩ := noPct hp
    have hf := H.fin hp
    refine wrB (x := before s) (by omega) (fun h => ⟨[], rfl, ?_⟩) (fun h => ⟨[], before s, rfl, h, rfl, cells_len _, by rw [n1]; exact hf⟩)
    rw [← n1, h] at hf
    exact hf
  | true =>
    rw [show (before s, after s, true).2.2 = true from rfl, iteP_t]
    refine ⟨show (after s).length ≤ 1000000 from Nat.le_trans (after_len s) H.hs, fun x1 h1 => ?_⟩
    subst h1
    rw [show ((readF (before s, after s, true).2.1).2.2 != 0) = false by rw [show (readF (before s, after s, true).2.1).2.2 = 0 from H.ok hp]; rfl, iteP_f]
    refine wrB (x := before s) (by omega) (fun h => ⟨rfl, ?_⟩) (fun h => ⟨rfl, ?_⟩)
    · exact restBn H hp h
    · exact restCn (o := []) (b := byteCells (before s)) (n := (byteCells (before s)).length) H hp rfl (cells_len _) h
theorem goBn {s : List UInt8} {P : List UInt8 → Cells → List UInt8 → Prop} {X : Int → Cells → List UInt8 → Prop} (H : Step s [] [] P X) :
    wpRound Y2 Door.cfg Tryd.prog 40 18 2 (IB s nilA) (qN (NBp mkNil P) (NCp mkNil P)) (qX (fun _ _ => False) (XBp mkNil X) (XCp mkNil X)) := by
  have bl := before_len s
  have hs := H.hs
  refine gBn s _ _ _ _ _ ⟨⟨H.hs, rfl⟩, fun x hx => ?_⟩
  subst hx
  cases hp : hasPct s with
  | false =>
    rw [show (before s, after s, false).2.2 = false from rfl, iteP_f]
    obtain ⟨n1, _⟩ := noPct hp
    have hf := H.fin hp
    refine wrB (x := before s) (by omega) (fun h => ⟨[], rfl, ?_⟩) (fun h => ⟨[], before s, rfl, h, rfl, cells_len _, by rw [n1]; exact hf⟩)
    rw [← n1, h] at hf
    exact hf
  | true =>
    rw [show (before s, after s, true).2.2 = true from rfl, iteP_t]
    refine ⟨show (after s).length ≤ 1000000 from Nat.le_trans (after_len s) H.hs, fun x1 h1 => ?_⟩
    subst h1
    rw [show ((readF (before s, after s, true).2.1).2.2 != 0) = false by rw [show (readF (before s, after s, true).2.1).2.2 = 0 from H.ok hp]; rfl, iteP_f]
    refine wrB (x := before s) (by omega) (fun h => ⟨rfl, ?_⟩) (fun h => ⟨rfl, ?_⟩)
    · exact restBn H hp h
    · exact restCn (o := []) (b := byteCells (before s)) (n := (byteCells (before s)).length) H hp rfl (cells_len _) h
theorem goCn {s : List UInt8} {o : List UInt8} {P : List UInt8 → Cells → List UInt8 → Prop} {X : Int → Cells → List UInt8 → Prop} (H : Step s [] o P X) (hne : o.isEmpty = false) :
    wpRound Y2 Door.cfg Tryd.prog 40 18 2 (IC s nilA (byteCells o) o.length) (qN (NBp mkNil P) (NCp mkNil P)) (qX (fun _ _ => False) (XBp mkNil X) (XCp mkNil X)) := by
  have bl := before_len s
  have hs := H.hs
  have ho := H.ho
  refine gCn s (byteCells o) o.length _ _ _ _ _ ⟨⟨H.hs, rfl⟩, fun x hx => ?_⟩
  subst hx
  cases hp : hasPct s with
  | false =>
    rw [show (before s, after s, false).2.2 = false from rfl, iteP_f]
    obtain ⟨n1, _⟩ := noPct hp
    have hf := H.fin hp
    refine wrC (x := before s) (u := o) rfl rfl (by omega) (fun h => ⟨[], o, rfl, hne, rfl, rfl, ?_⟩) (fun h => ⟨[], o ++ before s, rfl, not_empty_append hne, cells_append _ _, by rw [List.length_append, List.length_map], by rw [n1]; exact hf⟩)
    rw [← n1, h, List.append_nil] at hf
    exact hf
  | true =>
    rw [show (before s, after s, true).2.2 = true from rfl, iteP_t]
    refine ⟨show (after s).length ≤ 1000000 from Nat.le_trans (after_len s) H.hs, fun x1 h1 => ?_⟩
    subst h1
    rw [show ((readF (before s, after s, true).2.1).2.2 != 0) = false by rw [show (readF (before s, after s, true).2.1).2.2 = 0 from H.ok hp]; rfl, iteP_f]
    refine wrC (x := before s) (u := o) rfl rfl (by omega) (fun h => ⟨rfl, ?_⟩) (fun h => ⟨rfl, ?_⟩)
    · exact restCn (b := byteCells o) (n := o.length) H hp (by rw [h, List.append_nil]) (by rw [h, List.append_nil]) (by rw [h, List.append_nil]; exact hne)
    · exact restCn (b := byteCells o ++ cellsOf' (before s)) (n := o.length + (cellsOf' (before s)).length) H hp (cells_append _ _) (by rw [List.length_append, List.length_map]) (not_empty_append hne)
end
end Go.Proofs.Pr

/- Printf: Sprintf's loop in general. -/
namespace Go.Proofs.Pr
open Go Go.Ef
noncomputable section
set_option maxRecDepth 100000

def runF : Nat → List UInt8 → Cells → List UInt8 → Int × Cells × List UInt8
  | 0, _, l, o => (0, l, o)
  | n + 1, s, l, o => if hasPct s then (if (resAt s l).2.1 = 0 then (if (resAt s l).1.kind = 37 then runF n (restAt s) (resAt s l).2.2 (o ++ before s ++ padF (resAt s l).1 [] [37]) else runF n (restAt s) ((resAt s l).2.2.drop 1) (o ++ before s ++ padF (resAt s l).1 (bodyAt (resAt s l)).1 (bodyAt (resAt s l)).2)) else ((resAt s l).2.1, (resAt s l).2.2, o ++ before s)) else (0, l, o ++ s)
def runOk : Nat → List UInt8 → Cells → Prop
  | 0, _, _ => True
  | n + 1, s, l => hasPct s = true → (readF (after s)).2.2 = 0 ∧ ((resAt s l).2.1 = 0 → ((resAt s l).1.kind = 37 → runOk n (restAt s) (resAt s l).2.2) ∧
      ((resAt s l).1.kind ≠ 37 → bodyOk (resAt s l).1 (headK (resAt s l).2.2) = true ∧ (bodyAt (resAt s l)).1.length ≤ 1000 ∧ (bodyAt (resAt s l)).2.length ≤ 1000 ∧ runOk n (restAt s) ((resAt s l).2.2.drop 1)))

/- what the reader's directives are -/
theorem numL_le : ∀ (s : List UInt8) (n : Int), -1 ≤ n → n ≤ 256 → -1 ≤ (numL s n).1 ∧ (numL s n).1 ≤ 256 := by
  intro s
  induction s with
  | nil => intro n h1 h2; exact ⟨h1, h2⟩
  | cons c r ih =>
    intro n h1 h2
    unfold numL
    split
    · exact ih _ (by omega) (by omega)
    · exact ⟨h1, h2⟩
theorem numF_le (s : List UInt8) : -2 ≤ (numF s).1 ∧ (numF s).1 ≤ 256 := by
  cases s with
  | nil => exact ⟨by decide, by decide⟩
  | cons c r =>
    have he : numF (c :: r) = if c = 42 then (-2, r) else numL (c :: r) (-1) := rfl
    rw [he]
    split
    · exact ⟨by show (-2 : Int) ≤ -2; decide, by show (-2 : Int) ≤ 256; decide⟩
    · have := numL_le (c :: r) (-1) (by omega) (by omega)
      omega
theorem precF_le (s : List UInt8) : -2 ≤ (precF s).1 ∧ (precF s).1 ≤ 256 := by
  cases s with
  | nil => exact ⟨by decide, by decide⟩
  | cons c r =>
    have he : precF (c :: r) = if c = 46 then ((if (numF r).1 = -1 then 0 else (numF r).1), (numF r).2) else (-1, c :: r) := rfl
    rw [he]
    split
    · have := numF_le r
      show -2 ≤ (if (numF r).1 = -1 then 0 else (numF r).1) ∧ (if (numF r).1 = -1 then 0 else (numF r).1) ≤ 256
      split <;> omega
    · exact ⟨by show (-2 : Int) ≤ -1; decide, by show (-1 : Int) ≤ 256; decide⟩
theorem readF_le {s : List UInt8} (h : (readF s).2.2 = 0) : -2 ≤ (readF s).1.width ∧ (readF s).1.width ≤ 255 ∧ -2 ≤ (readF s).1.prec ∧ (readF s).1.prec ≤ 255 ∧ 0 ≤ (readF s).1.kind ∧ (readF s).1.kind ≤ 255 := by
  have h1 := numF_le (flagsF s { Dir.none with prec := -1 }).2
  have h2 := precF_le (numF (flagsF s { Dir.none with prec := -1 }).2).2
  unfold readF at h ⊢
  generalize (flagsF s { Dir.none with prec := -1 }).1 = d at h ⊢
  generalize (numF (flagsF s { Dir.none with prec := -1 }).2).1 = w at *
  generalize (precF (numF (flagsF s { Dir.none with prec := -1 }).2).2).1 = p at *
  generalize (precF (numF (flagsF s { Dir.none with prec := -1 }).2).2).2 = t at *
  cases t with
  | nil => cases h
  | cons c r =>
    have he : endF d w p (c :: r) = if kinds.contains c then (if w > 255 ∨ p > 255 then (Dir.none, [], 2) else ({ d with width := w, prec := p, kind := c.toNat }, r, 0)) else (Dir.none, [], 1) := rfl
    rw [he] at h ⊢
    split at h
    · rename_i hc
      rw [if_pos hc]
      split at h
      · cases h
      · rename_i hw
        rw [if_neg hw]
        have := c.toNat_lt
        refine ⟨h1.1, by show w ≤ 255; omega, h2.1, by show p ≤ 255; omega, by show (0 : Int) ≤ c.toNat; omega, by show (c.toNat : Int) ≤ 255; omega⟩
    · cases h

/- what resolve leaves -/
theorem resW_k (d : Dir) (l : Cells) : (resW d l).1.kind = d.kind ∧ (resW d l).1.prec = d.prec ∧ (resW d l).2 = l.drop (if d.width = -2 then 1 else 0) ∧ (d.width ≠ -2 → (resW d l).1.width = d.width) ∧ (d.width = -2 → 0 ≤ (resW d l).1.width) := by
  by_cases h : d.width = -2
  · by_cases h2 : takeF l < 0
    · rw [resW_neg h h2, if_pos h]
      exact ⟨rfl, rfl, rfl, fun h' => absurd h h', fun _ => by show 0 ≤ -takeF l; omega⟩
    · rw [resW_pos h h2, if_pos h]
      exact ⟨rfl, rfl, rfl, fun h' => absurd h h', fun _ => by show 0 ≤ takeF l; omega⟩
  · rw [resW_no h, if_neg h]
    exact ⟨rfl, rfl, rfl, fun _ => rfl, fun h' => absurd h' h⟩
theorem resP_k (x : Dir × Cells) : (resP x).1.kind = x.1.kind ∧ (resP x).1.width = x.1.width ∧ (resP x).2 = x.2.drop (if x.1.prec = -2 then 1 else 0) ∧ (-2 ≤ x.1.prec → -1 ≤ (resP x).1.prec) := by
  by_cases h : x.1.prec = -2
  · rw [resP_yes h, if_pos h]
    exact ⟨rfl, rfl, rfl, fun _ => by show -1 ≤ max (takeF x.2) (-1); omega⟩
  · rw [resP_no h, if_neg h]
    exact ⟨rfl, rfl, rfl, fun _ => by omega⟩
theorem resE_k (x : Dir × Cells) : (resE x).1 = x.1 ∧ (resE x).2.2 = x.2 ∧ ((resE x).2.1 = 0 → x.1.width ≤ 255 ∧ x.1.prec ≤ 255) := by
  by_cases h : x.1.width > 255 ∨ x.1.prec > 255
  · rw [resE_yes h]
    exact ⟨rfl, rfl, fun h' => by cases h'⟩
  · rw [resE_no h]
    exact ⟨rfl, rfl, fun _ => by omega⟩
theorem resolve_k (d : Dir) (l : Cells) (h : (resolveF d l).2.1 = 0) (hw : -2 ≤ d.width) (hpr : -2 ≤ d.prec) :
    (resolveF d l).1.kind = d.kind ∧ -1 ≤ (resolveF d l).1.width ∧ (resolveF d l).1.width ≤ 255 ∧ -1 ≤ (resolveF d l).1.prec ∧ (resolveF d l).1.prec ≤ 255 ∧ (∃ k, (resolveF d l).2.2 = l.drop k) ∧ (d.kind ≠ 37 → 1 ≤ (resolveF d l).2.2.length) := by
  by_cases hn : l.length < needF d
  · rw [res_lt hn] at h; cases h
  · rw [res_ge hn] at h ⊢
    obtain ⟨e1, e2, e3⟩ := resE_k (resP (resW d l))
    obtain ⟨p1, p2, p3, p4⟩ := resP_k (resW d l)
    obtain ⟨w1, w2, w3, w4, w5⟩ := resW_k d l
    obtain ⟨e4, e5⟩ := e3 h
    rw [e1, e2]
    have hl : (resP (resW d l)).2 = l.drop ((if d.width = -2 then 1 else 0) + (if d.prec = -2 then 1 else 0)) := by
      rw [p3, w3, w2, List.drop_drop]
    have hlen : (resP (resW d l)).2.length = l.length - ((if d.width = -2 then 1 else 0) + (if d.prec = -2 then 1 else 0)) := by rw [hl, List.length_drop]
    refine ⟨by rw [p1, w1], ?_, e4, p4 (by rw [w2]; exact hpr), e5, ⟨_, hl⟩, fun hk => ?_⟩
    · rw [p2]
      by_cases hd : d.width = -2
      · have := w5 hd; omega
      · have := w4 hd; omega
    · unfold needF at hn
      rw [if_neg hk] at hn
      omega

/- the loop -/
def endSt (mk : Cells → AV) (R : Int × Cells × List UInt8) (τ : St) : Prop := (R.2.2 = [] ∧ τ = JB R.1 (mk R.2.1)) ∨ (R.2.2.isEmpty = false ∧ τ = JC R.1 (mk R.2.1) (byteCells R.2.2) R.2.2.length)
abbrev RoundW (mk : Cells → AV) (st : St) (P : List UInt8 → Cells → List UInt8 → Prop) (X : Int → Cells → List UInt8 → Prop) : Prop := wpRound Y2 Door.cfg Tryd.prog 40 18 2 st (qN (NBp mk P) (NCp mk P)) (qX (fun _ _ => False) (XBp mk X) (XCp mk X))
structure Rounds (mk : Cells → AV) (ok : Cells → Prop) : Prop where
  A : ∀ s l P X, ok l → Step s l [] P X → RoundW mk (IA s (mk l)) P X
  B : ∀ s l P X, ok l → Step s l [] P X → RoundW mk (IB s (mk l)) P X
  C : ∀ s l o P X, ok l → Step s l o P X → o.isEmpty = false → RoundW mk (IC s (mk l) (byteCells o) o.length) P X
  res : ∀ d l, ok l → ok (resolveF d l).2.2
  drop : ∀ l k, ok l → ok (l.drop k)
theorem roundsS : Rounds mkS (fun _ => True) := ⟨fun _ _ _ _ _ H => goA H, fun _ _ _ _ _ H => goB H, fun _ _ _ _ _ _ H h => goC H h, fun _ _ _ => trivial, fun _ _ _ => trivial⟩
theorem roundsN : Rounds mkNil (fun l => l = []) := ⟨fun s l P X hl H => by subst hl; exact goAn H, fun s l P X hl H => by subst hl; exact goBn H, fun s l o P X hl H h => by subst hl; exact goCn H h, fun d l hl => by subst hl; rw [res_nil], fun l k hl => by subst hl; simp⟩

theorem qN_cases {mk : Cells → AV} {P : List UInt8 → Cells → List UInt8 → Prop} {τ : St} (h : qN (NBp mk P) (NCp mk P) τ) : ∃ s l o, P s l o ∧ ((o = [] ∧ τ = IB s (mk l)) ∨ (o.isEmpty = false ∧ τ = IC s (mk l) (byteCells o) o.length)) := by
  obtain ⟨s, h0, rfl, h1⟩ := wasI_ok h
  clear h
  split at h1
  · obtain ⟨a, rfl, l, rfl, hP⟩ := rdB_ok h1
    exact ⟨s, l, [], hP, .inl ⟨rfl, rfl⟩⟩
  · obtain ⟨a, b, n, rfl, l, o, rfl, ho, rfl, rfl, hP⟩ := rdC_ok h1
    exact ⟨s, l, o, hP, .inr ⟨ho, rfl⟩⟩
  · exact h1.elim
theorem qX_cases {mk : Cells → AV} {X : Int → Cells → List UInt8 → Prop} {e : Ex} {τ : St} (h : qX (fun _ _ => False) (XBp mk X) (XCp mk X) e τ) : e = .ret ∧ ∃ v l o, X v l o ∧ ((o = [] ∧ τ = JB v (mk l)) ∨ (o.isEmpty = false ∧ τ = JC v (mk l) (byteCells o) o.length)) := by
  unfold qX at h
  split at h
  · refine ⟨rfl, ?_⟩
    obtain ⟨v, h0, rfl, h1⟩ := wasJ_ok h
    clear h
    split at h1
    · obtain ⟨a, _, h2⟩ := rdA_ok h1
      exact h2.elim
    · obtain ⟨a, rfl, l, rfl, hP⟩ := rdB_ok h1
      exact ⟨v, l, [], hP, .inl ⟨rfl, rfl⟩⟩
    · obtain ⟨a, b, n, rfl, l, o, rfl, ho, rfl, rfl, hP⟩ := rdC_ok h1
      exact ⟨v, l, o, hP, .inr ⟨ho, rfl⟩⟩
    · exact h1.elim
  · exact h.elim

theorem rest_len {s : List UInt8} (hp : hasPct s = true) (h : (readF (after s)).2.2 = 0) : (restAt s).length + (before s).length + 2 ≤ s.length := by
  have h1 := readF_len (after s) h
  have h2 : (before s).length + 1 + (after s).length = s.length := by
    obtain ⟨r, e⟩ : ∃ r, s.dropWhile (· != 37) = 37 :: r := by
      have hm : (37 : UInt8) ∈ s := by simpa [hasPct] using hp
      cases hr : s.dropWhile (· != 37) with
      | nil =>
        have hall : ∀ x ∈ s, (x != 37) = true := by
          intro x hx
          have := List.takeWhile_append_dropWhile (p := (· != 37)) (l := s)
          rw [hr, List.append_nil] at this
          rw [← this] at hx
          exact List.all_eq_true.1 List.all_takeWhile x hx
        have := hall 37 hm
        simp at this
      | cons c r =>
        have hc : ¬ ((c != 37) = true) := by
          have := List.head?_dropWhile_not (p := (· != 37)) (l := s)
          rw [hr] at this
          simpa using this
        have : c = 37 := by simpa using hc
        exact ⟨r, by rw [this]⟩
    have h3 := List.takeWhile_append_dropWhile (p := (· != 37)) (l := s)
    have h4 := congrArg List.length h3
    rw [List.length_append, e, List.length_cons] at h4
    unfold before after
    rw [e]
    simp only [List.drop_succ_cons, List.drop_zero]
    omega
  show (readF (after s)).2.1.length + _ + 2 ≤ _
  omega

theorem pad_le (d : Dir) (u v : List UInt8) (h1 : d.width ≤ 255) : (padF d u v).length ≤ 255 + u.length + v.length := by
  unfold padF
  split
  · simp; omega
  · split <;> simp <;> omega

/- what a round asks, and where it leads -/
def Pn (ok : Cells → Prop) (R : Int × Cells × List UInt8) (n : Nat) (s : List UInt8) (l : Cells) (o : List UInt8) : Prop :=
  runF n s l o = R ∧ s.length < n ∧ runOk n s l ∧ goodsB l = true ∧ ok l ∧ s.length ≤ 10000 ∧ o.length + s.length * 2300 ≤ 30000000
def Xn (R : Int × Cells × List UInt8) (v : Int) (l : Cells) (o : List UInt8) : Prop := R = (v, l, o)

theorem step_run {mk : Cells → AV} {ok : Cells → Prop} (Q : Rounds mk ok) {R : Int × Cells × List UInt8} {n : Nat} {s : List UInt8} {l : Cells} {o : List UInt8} (H : Pn ok R (n + 1) s l o) : Step s l o (Pn ok R n) (Xn R) := by
  obtain ⟨h1, h2, h3, h4, h5, h6, h7⟩ := H
  have hr : runF (n + 1) s l o = if hasPct s then (if (resAt s l).2.1 = 0 then (if (resAt s l).1.kind = 37 then runF n (restAt s) (resAt s l).2.2 (o ++ before s ++ padF (resAt s l).1 [] [37]) else runF n (restAt s) ((resAt s l).2.2.drop 1) (o ++ before s ++ padF (resAt s l).1 (bodyAt (resAt s l)).1 (bodyAt (resAt s l)).2)) else ((resAt s l).2.1, (resAt s l).2.2, o ++ before s)) else (0, l, o ++ s) := rfl
  rw [hr] at h1
  have bl := before_len s
  have k : hasPct s = true → (resAt s l).2.1 = 0 → (resAt s l).1.kind = (dirAt s).kind ∧ -1 ≤ (resAt s l).1.width ∧ (resAt s l).1.width ≤ 255 ∧ (∃ k, (resAt s l).2.2 = l.drop k) ∧ ((resAt s l).1.kind ≠ 37 → 1 ≤ (resAt s l).2.2.length) ∧ 0 ≤ (resAt s l).1.kind ∧ (resAt s l).1.kind ≤ 255 := by
    intro hp h0
    have hf := readF_le (h3 hp).1
    obtain ⟨e1, e2, e3, _, _, e4, e5⟩ := resolve_k (dirAt s) l h0 hf.1 hf.2.2.1
    refine ⟨e1, e2, e3, e4, fun hk => e5 (by rw [← e1]; exact hk), ?_, ?_⟩
    · rw [show (resAt s l).1.kind = (dirAt s).kind from e1]; exact hf.2.2.2.2.1
    · rw [show (resAt s l).1.kind = (dirAt s).kind from e1]; exact hf.2.2.2.2.2
  refine ⟨by omega, by omega, h4, fun hp => ?_, fun hp => (h3 hp).1, fun hp h0 => ?_, fun hp h0 => ?_, fun hp h0 hk => ?_, fun hp h0 hk => ?_⟩
  · rw [hp] at h1
    exact h1.symm
  · rw [hp, if_pos rfl, if_neg h0] at h1
    exact h1.symm
  · obtain ⟨_, a, b, _, _, c, d⟩ := k hp h0
    exact ⟨by omega, by omega, c, d⟩
  · rw [hp, if_pos rfl, if_pos h0, if_pos hk] at h1
    obtain ⟨_, a, b, ⟨j, hj⟩, _, c, d⟩ := k hp h0
    have rl := rest_len hp (h3 hp).1
    have pl := pad_le (resAt s l).1 [] [37] b
    refine ⟨h1, by omega, ((h3 hp).2 h0).1 hk, by rw [hj]; exact goods_drop h4 j, Q.res _ _ h5, by omega, ?_⟩
    rw [List.length_append, List.length_append]
    simp only [List.length_nil, List.length_cons] at pl
    omega
  · rw [hp, if_pos rfl, if_pos h0, if_neg hk] at h1
    obtain ⟨_, a, b, ⟨j, hj⟩, e5, c, d⟩ := k hp h0
    obtain ⟨b1, b2, b3, b4⟩ := ((h3 hp).2 h0).2 hk
    have rl := rest_len hp (h3 hp).1
    have pl := pad_le (resAt s l).1 (bodyAt (resAt s l)).1 (bodyAt (resAt s l)).2 b
    refine ⟨e5 hk, by rw [hj]; exact goods_drop h4 j, b1, by omega, by omega, h1, by omega, b4, by rw [hj]; exact goods_drop (goods_drop h4 j) 1, Q.drop _ _ (Q.res _ _ h5), by omega, ?_⟩
    rw [List.length_append, List.length_append]
    omega

theorem okY2 (O : ∀ {T : Tab}, TabOk Tryd.prog Door.cfg T → TabOk Tryd.prog Door.cfg (T.addC 24 C24)) : TabOk Tryd.prog Door.cfg Y2 := O (copy_ok (copy_ok okZ2 ok32 (g := 32) (t := C32) rfl) ok23 (g := 23) (t := C23) rfl)

theorem run_loop {mk : Cells → AV} {ok : Cells → Prop} (Q : Rounds mk ok) (O : TabOk Tryd.prog Door.cfg Y2) (R : Int × Cells × List UInt8) : ∀ (n : Nat) (s : List UInt8) (l : Cells) (o : List UInt8), Pn ok R n s l o →
    ((o = [] → Ev Door.cfg Tryd.prog 18 (.loop (loopAt Tryd.prog 18 2)) (IB s (mk l)) fun e τ => e = .ret ∧ endSt mk R τ) ∧
     (o = [] → Ev Door.cfg Tryd.prog 18 (.loop (loopAt Tryd.prog 18 2)) (IA s (mk l)) fun e τ => e = .ret ∧ endSt mk R τ) ∧
     (o.isEmpty = false → Ev Door.cfg Tryd.prog 18 (.loop (loopAt Tryd.prog 18 2)) (IC s (mk l) (byteCells o) o.length) fun e τ => e = .ret ∧ endSt mk R τ)) := by
  intro n
  induction n with
  | zero => intro s l o H; exact absurd H.2.1 (Nat.not_lt_zero _)
  | succ n ih =>
    intro s l o H
    have S := step_run Q H
    have hN : ∀ τ, qN (NBp mk (Pn ok R n)) (NCp mk (Pn ok R n)) τ → Ev Door.cfg Tryd.prog 18 (.loop (loopAt Tryd.prog 18 2)) τ fun e τ => e = .ret ∧ endSt mk R τ := by
      intro τ hτ
      obtain ⟨s', l', o', hP, h⟩ := qN_cases hτ
      rcases h with ⟨rfl, rfl⟩ | ⟨ho, rfl⟩
      · exact (ih s' l' [] hP).1 rfl
      · exact (ih s' l' o' hP).2.2 ho
    have hX : ∀ e τ, qX (fun _ _ => False) (XBp mk (Xn R)) (XCp mk (Xn R)) e τ → e = .ret ∧ endSt mk R τ := by
      intro e τ hτ
      obtain ⟨rfl, v, l', o', hR, h⟩ := qX_cases hτ
      refine ⟨rfl, ?_⟩
      replace hR : R = (v, l', o') := hR
      subst hR
      exact h
    refine ⟨fun ho => ?_, fun ho => ?_, fun ho => ?_⟩
    · subst ho
      exact Ev.round O (t := ⟨[0, 1], [4], 0⟩) first18 rfl (can18 s (hB (mk l))) (Q.B s l _ _ H.2.2.2.2.1 S) hN hX
    · subst ho
      exact Ev.round O (t := ⟨[0, 1], [4], 0⟩) first18 rfl (can18 s (hA (mk l))) (Q.A s l _ _ H.2.2.2.2.1 S) hN hX
    · exact Ev.round O (t := ⟨[0, 1], [4], 0⟩) first18 rfl (can18 s (hC (mk l) (byteCells o) o.length)) (Q.C s l o _ _ H.2.2.2.2.1 S ho) hN hX

theorem run_start {mk : Cells → AV} {ok : Cells → Prop} (Q : Rounds mk ok) (O : TabOk Tryd.prog Door.cfg Y2) (s : List UInt8) (l : Cells) (hs : s.length ≤ 10000) (hg : goodsB l = true) (hk : ok l) (hr : runOk (s.length + 1) s l) :
    Ev Door.cfg Tryd.prog 18 (.loop (loopAt Tryd.prog 18 2)) (IA s (mk l)) fun e τ => e = .ret ∧ endSt mk (runF (s.length + 1) s l []) τ :=
  (run_loop Q O _ (s.length + 1) s l [] ⟨rfl, Nat.lt_succ_self _, hr, hg, hk, hs, by simp; omega⟩).2.1 rfl
end
end Go.Proofs.Pr

