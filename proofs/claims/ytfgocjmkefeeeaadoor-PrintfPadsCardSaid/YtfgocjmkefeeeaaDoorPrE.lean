/- Printf: the rounds of Sprintf. -/
import Derived.Test.YtfgocjmkefeeeaaDoorPrD
import Derived.Test.YtfgocjmkefeeeaaDoorEfW
/- Printf: the heap of Sprintf; the states of its loop. -/
namespace Go.Proofs.Pr
open Go Go.Ef
noncomputable section

abbrev Cells := List (List AV)
/- the arguments (a slice's value), and what the builder holds -/
def nilA : AV := .sc (.slice none 0 0)
def hS (a : AV) (b : List AV) : Heap := { next := 4, objs := ((Tr.leaf.set 1 (.cells [a])).set 2 (.cells [.ptr 1 0])).set 3 (.cells b), ro := 1, ty := ((Tr.leaf.set 1 (51, 1)).set 2 (49, 1)).set 3 (54, 2) }
def byteCells (b : List UInt8) : Cells := b.map fun c => [aK .u8 c.toNat]
def hA (a : AV) : Heap := hS a [.sc (.pointer none), .sc (.slice none 0 0)]
def hB (a : AV) : Heap := hS a [.ptr 3 0, .sc (.slice none 0 0)]
def hC (a : AV) (b : Cells) (n : Nat) : Heap := { next := 5, objs := (((Tr.leaf.set 1 (.cells [a])).set 2 (.cells [.ptr 1 0])).set 3 (.cells [.ptr 3 0, .sl b 5])).set 4 (.own 1 5 n), ro := 1, ty := ((Tr.leaf.set 1 (51, 1)).set 2 (49, 1)).set 3 (54, 2) }
def hArg (h : Heap) : AV :=
  match h.objs.get 1 with
  | some (.cells [a]) => a
  | _ => nilA
def hBytes (h : Heap) : Cells :=
  match h.objs.get 3 with
  | some (.cells [_, .sl l _]) => l
  | _ => []
def hN (h : Heap) : Nat :=
  match h.objs.get 4 with
  | some (.own _ _ n) => n
  | _ => 0
def IS (s : List UInt8) (h : Heap) : St := stOf 41 [(0, sStr s), (1, .v (.fn (.func 21) [] [.ptr 3 0, .ptr 2 0]))] [] h
def sA (a : AV) : St := IS [] (hA a)
def sB (a : AV) : St := IS [] (hB a)
def sC (a : AV) (b : Cells) (n : Nat) : St := IS [] (hC a b n)
theorem IS_heap {s s' : List UInt8} {h h' : Heap} (e : IS s h = IS s' h') : h = h' := congrArg St.h e

/- resolve at a directive without asterisks -/
def argsOf : AV → Cells
  | .sl l 0 => l
  | _ => []
def isArgs (a : AV) : Prop := (∃ l, a = .sl l 0) ∨ a = nilA
def stars (d : Dir) (a : AV) : Prop := isArgs a ∧ -1 ≤ d.width ∧ d.width ≤ 255 ∧ -1 ≤ d.prec ∧ d.prec ≤ 255 ∧ (d.kind = 37 ∨ 1 ≤ (argsOf a).length)
def C23n (args : List AV) (h : Heap) : Option CSpec :=
  match args with
  | [.ptr 1 0, .agg [.sc (.bool a), .sc (.bool b), .sc (.bool c), .sc (.bool e), .sc (.int .i64 w), .sc (.int .i64 p), .sc (.int .u8 k)]] =>
    some (nspec ((bif Nat.beq h.next 4 then IS [] h = sB (hArg h) else IS [] h = sC (hArg h) (hBytes h) (hN h)) ∧ stars ⟨a, b, c, e, w, p, k⟩ (hArg h)) (⟨a, b, c, e, w, p, k⟩ : Dir) (fun x => .tup [.agg x.cells, aK .i64 0]) h)
  | _ => none
/- what is never asked for -/
def C36n (_ : List AV) (_ : Heap) : Option CSpec := some { pre := False, alts := [] }
def Z3n : Tab := Z2.addC 36 C36n

end
end Go.Proofs.Pr

/- Printf: conditions of resolve, printed by a program from the evaluation. -/
namespace Go.Proofs.Pr
open Go Go.Ef
noncomputable section
set_option maxRecDepth 100000

theorem c23b (d : Dir) (l : List (List AV)) (K : AV → Prop) (h :
 iteP (d.width == (-2 : Int))
 (iteP (d.prec == (-2 : Int))
 (iteP (d.kind != (37 : Int))
 (iteP (decide ((↑l.length : Int) < (3 : Int)))
 (sB (AV.sl l (0 : Nat)) = sB (AV.sl l (0 : Nat)) ∧
 K
 (AV.tup
 [AV.agg
 [AV.sc (Value.bool d.minus), AV.sc (Value.bool d.zero), AV.sc (Value.bool d.plus),
 AV.sc (Value.bool d.space), AV.sc (Value.int IntKind.i64 d.width),
 AV.sc (Value.int IntKind.i64 d.prec), AV.sc (Value.int IntKind.u8 d.kind)],
 AV.sc (Value.int IntKind.i64 (18 : Int))]))
 (iteP (d.width == (-2 : Int)) (False ∧ True)
 (iteP (d.prec == (-2 : Int)) (False ∧ True)
 (iteP (decide ((255 : Int) < d.width))
 (sB (AV.sl l (0 : Nat)) = sB (AV.sl l (0 : Nat)) ∧
 K
 (AV.tup
 [AV.agg
 [AV.sc (Value.bool d.minus), AV.sc (Value.bool d.zero), AV.sc (Value.bool d.plus),
 AV.sc (Value.bool d.space), AV.sc (Value.int IntKind.i64 d.width),
 AV.sc (Value.int IntKind.i64 d.prec), AV.sc (Value.int IntKind.u8 d.kind)],
 AV.sc (Value.int IntKind.i64 (2 : Int))]))
 (iteP (decide ((255 : Int) < d.prec))
 (sB (AV.sl l (0 : Nat)) = sB (AV.sl l (0 : Nat)) ∧
 K
 (AV.tup
 [AV.agg
 [AV.sc (Value.bool d.minus), AV.sc (Value.bool d.zero), AV.sc (Value.bool d.plus),
 AV.sc (Value.bool d.space), AV.sc (Value.int IntKind.i64 d.width),
 AV.sc (Value.int IntKind.i64 d.prec), AV.sc (Value.int IntKind.u8 d.kind)],
 AV.sc (Value.int IntKind.i64 (2 : Int))]))
 (sB (AV.sl l (0 : Nat)) = sB (AV.sl l (0 : Nat)) ∧
 K
 (AV.tup
 [AV.agg
 [AV.sc (Value.bool d.minus), AV.sc (Value.bool d.zero), AV.sc (Value.bool d.plus),
 AV.sc (Value.bool d.space), AV.sc (Value.int IntKind.i64 d.width),
 AV.sc (Value.int IntKind.i64 d.prec), AV.sc (Value.int IntKind.u8 d.kind)],
 AV.sc (Value.int IntKind.i64 (0 : Int))])))))))
 (iteP (decide ((↑l.length : Int) < (2 : Int)))
 (sB (AV.sl l (0 : Nat)) = sB (AV.sl l (0 : Nat)) ∧
 K
 (AV.tup
 [AV.agg
 [AV.sc (Value.bool d.minus), AV.sc (Value.bool d.zero), AV.sc (Value.bool d.plus),
 AV.sc (Value.bool d.space), AV.sc (Value.int IntKind.i64 d.width),
 AV.sc (Value.int IntKind.i64 d.prec), AV.sc (Value.int IntKind.u8 d.kind)],
 AV.sc (Value.int IntKind.i64 (18 : Int))]))
 (iteP (d.width == (-2 : Int)) (False ∧ True)
 (iteP (d.prec == (-2 : Int)) (False ∧ True)
 (iteP (decide ((255 : Int) < d.width))
 (sB (AV.sl l (0 : Nat)) = sB (AV.sl l (0 : Nat)) ∧
 K
 (AV.tup
 [AV.agg
 [AV.sc (Value.bool d.minus), AV.sc (Value.bool d.zero), AV.sc (Value.bool d.plus),
 AV.sc (Value.bool d.space), AV.sc (Value.int IntKind.i64 d.width),
 AV.sc (Value.int IntKind.i64 d.prec), AV.sc (Value.int IntKind.u8 d.kind)],
 AV.sc (Value.int IntKind.i64 (2 : Int))]))
 (iteP (decide ((255 : Int) < d.prec))
 (sB (AV.sl l (0 : Nat)) = sB (AV.sl l (0 : Nat)) ∧
 K
 (AV.tup
 [AV.agg
 [AV.sc (Value.bool d.minus), AV.sc (Value.bool d.zero), AV.sc (Value.bool d.plus),
 AV.sc (Value.bool d.space), AV.sc (Value.int IntKind.i64 d.width),
 AV.sc (Value.int IntKind.i64 d.prec), AV.sc (Value.int IntKind.u8 d.kind)],
 AV.sc (Value.int IntKind.i64 (2 : Int))]))
 (sB (AV.sl l (0 : Nat)) = sB (AV.sl l (0 : Nat)) ∧
 K
 (AV.tup
 [AV.agg
 [AV.sc (Value.bool d.minus), AV.sc (Value.bool d.zero), AV.sc (Value.bool d.plus),
 AV.sc (Value.bool d.space), AV.sc (Value.int IntKind.i64 d.width),
 AV.sc (Value.int IntKind.i64 d.prec), AV.sc (Value.int IntKind.u8 d.kind)],
 AV.sc (Value.int IntKind.i64 (0 : Int))]))))))))
 (iteP (d.kind != (37 : Int))
 (iteP (decide ((↑l.length : Int) < (2 : Int)))
 (sB (AV.sl l (0 : Nat)) = sB (AV.sl l (0 : Nat)) ∧
 K
 (AV.tup
 [AV.agg
 [AV.sc (Value.bool d.minus), AV.sc (Value.bool d.zero), AV.sc (Value.bool d.plus),
 AV.sc (Value.bool d.space), AV.sc (Value.int IntKind.i64 d.width),
 AV.sc (Value.int IntKind.i64 d.prec), AV.sc (Value.int IntKind.u8 d.kind)],
 AV.sc (Value.int IntKind.i64 (18 : Int))]))
 (iteP (d.width == (-2 : Int)) (False ∧ True)
 (iteP (d.prec == (-2 : Int)) (False ∧ True)
 (iteP (decide ((255 : Int) < d.width))
 (sB (AV.sl l (0 : Nat)) = sB (AV.sl l (0 : Nat)) ∧
 K
 (AV.tup
 [AV.agg
 [AV.sc (Value.bool d.minus), AV.sc (Value.bool d.zero), AV.sc (Value.bool d.plus),
 AV.sc (Value.bool d.space), AV.sc (Value.int IntKind.i64 d.width),
 AV.sc (Value.int IntKind.i64 d.prec), AV.sc (Value.int IntKind.u8 d.kind)],
 AV.sc (Value.int IntKind.i64 (2 : Int))]))
 (iteP (decide ((255 : Int) < d.prec))
 (sB (AV.sl l (0 : Nat)) = sB (AV.sl l (0 : Nat)) ∧
 K
 (AV.tup
 [AV.agg
 [AV.sc (Value.bool d.minus), AV.sc (Value.bool d.zero), AV.sc (Value.bool d.plus),
 AV.sc (Value.bool d.space), AV.sc (Value.int IntKind.i64 d.width),
 AV.sc (Value.int IntKind.i64 d.prec), AV.sc (Value.int IntKind.u8 d.kind)],
 AV.sc (Value.int IntKind.i64 (2 : Int))]))
 (sB (AV.sl l (0 : Nat)) = sB (AV.sl l (0 : Nat)) ∧
 K
 (AV.tup
 [AV.agg
 [AV.sc (Value.bool d.minus), AV.sc (Value.bool d.zero), AV.sc (Value.bool d.plus),
 AV.sc (Value.bool d.space), AV.sc (Value.int IntKind.i64 d.width),
 AV.sc (Value.int IntKind.i64 d.prec), AV.sc (Value.int IntKind.u8 d.kind)],
 AV.sc (Value.int IntKind.i64 (0 : Int))])))))))
 (iteP (decide ((↑l.length : Int) < (1 : Int)))
 (sB (AV.sl l (0 : Nat)) = sB (AV.sl l (0 : Nat)) ∧
 K
 (AV.tup
 [AV.agg
 [AV.sc (Value.bool d.minus), AV.sc (Value.bool d.zero), AV.sc (Value.bool d.plus),
 AV.sc (Value.bool d.space), AV.sc (Value.int IntKind.i64 d.width),
 AV.sc (Value.int IntKind.i64 d.prec), AV.sc (Value.int IntKind.u8 d.kind)],
 AV.sc (Value.int IntKind.i64 (18 : Int))]))
 (iteP (d.width == (-2 : Int)) (False ∧ True)
 (iteP (d.prec == (-2 : Int)) (False ∧ True)
 (iteP (decide ((255 : Int) < d.width))
 (sB (AV.sl l (0 : Nat)) = sB (AV.sl l (0 : Nat)) ∧
 K
 (AV.tup
 [AV.agg
 [AV.sc (Value.bool d.minus), AV.sc (Value.bool d.zero), AV.sc (Value.bool d.plus),
 AV.sc (Value.bool d.space), AV.sc (Value.int IntKind.i64 d.width),
 AV.sc (Value.int IntKind.i64 d.prec), AV.sc (Value.int IntKind.u8 d.kind)],
 AV.sc (Value.int IntKind.i64 (2 : Int))]))
 (iteP (decide ((255 : Int) < d.prec))
 (sB (AV.sl l (0 : Nat)) = sB (AV.sl l (0 : Nat)) ∧
 K
 (AV.tup
 [AV.agg
 [AV.sc (Value.bool d.minus), AV.sc (Value.bool d.zero), AV.sc (Value.bool d.plus),
 AV.sc (Value.bool d.space), AV.sc (Value.int IntKind.i64 d.width),
 AV.sc (Value.int IntKind.i64 d.prec), AV.sc (Value.int IntKind.u8 d.kind)],
 AV.sc (Value.int IntKind.i64 (2 : Int))]))
 (sB (AV.sl l (0 : Nat)) = sB (AV.sl l (0 : Nat)) ∧
 K
 (AV.tup
 [AV.agg
 [AV.sc (Value.bool d.minus), AV.sc (Value.bool d.zero), AV.sc (Value.bool d.plus),
 AV.sc (Value.bool d.space), AV.sc (Value.int IntKind.i64 d.width),
 AV.sc (Value.int IntKind.i64 d.prec), AV.sc (Value.int IntKind.u8 d.kind)],
 AV.sc (Value.int IntKind.i64 (0 : Int))])))))))))
 (iteP (d.prec == (-2 : Int))
 (iteP (d.kind != (37 : Int))
 (iteP (decide ((↑l.length : Int) < (2 : Int)))
 (sB (AV.sl l (0 : Nat)) = sB (AV.sl l (0 : Nat)) ∧
 K
 (AV.tup
 [AV.agg
 [AV.sc (Value.bool d.minus), AV.sc (Value.bool d.zero), AV.sc (Value.bool d.plus),
 AV.sc (Value.bool d.space), AV.sc (Value.int IntKind.i64 d.width),
 AV.sc (Value.int IntKind.i64 d.prec), AV.sc (Value.int IntKind.u8 d.kind)],
 AV.sc (Value.int IntKind.i64 (18 : Int))]))
 (iteP (d.width == (-2 : Int)) (False ∧ True)
 (iteP (d.prec == (-2 : Int)) (False ∧ True)
 (iteP (decide ((255 : Int) < d.width))
 (sB (AV.sl l (0 : Nat)) = sB (AV.sl l (0 : Nat)) ∧
 K
 (AV.tup
 [AV.agg
 [AV.sc (Value.bool d.minus), AV.sc (Value.bool d.zero), AV.sc (Value.bool d.plus),
 AV.sc (Value.bool d.space), AV.sc (Value.int IntKind.i64 d.width),
 AV.sc (Value.int IntKind.i64 d.prec), AV.sc (Value.int IntKind.u8 d.kind)],
 AV.sc (Value.int IntKind.i64 (2 : Int))]))
 (iteP (decide ((255 : Int) < d.prec))
 (sB (AV.sl l (0 : Nat)) = sB (AV.sl l (0 : Nat)) ∧
 K
 (AV.tup
 [AV.agg
 [AV.sc (Value.bool d.minus), AV.sc (Value.bool d.zero), AV.sc (Value.bool d.plus),
 AV.sc (Value.bool d.space), AV.sc (Value.int IntKind.i64 d.width),
 AV.sc (Value.int IntKind.i64 d.prec), AV.sc (Value.int IntKind.u8 d.kind)],
 AV.sc (Value.int IntKind.i64 (2 : Int))]))
 (sB (AV.sl l (0 : Nat)) = sB (AV.sl l (0 : Nat)) ∧
 K
 (AV.tup
 [AV.agg
 [AV.sc (Value.bool d.minus), AV.sc (Value.bool d.zero), AV.sc (Value.bool d.plus),
 AV.sc (Value.bool d.space), AV.sc (Value.int IntKind.i64 d.width),
 AV.sc (Value.int IntKind.i64 d.prec), AV.sc (Value.int IntKind.u8 d.kind)],
 AV.sc (Value.int IntKind.i64 (0 : Int))])))))))
 (iteP (decide ((↑l.length : Int) < (1 : Int)))
 (sB (AV.sl l (0 : Nat)) = sB (AV.sl l (0 : Nat)) ∧
 K
 (AV.tup
 [AV.agg
 [AV.sc (Value.bool d.minus), AV.sc (Value.bool d.zero), AV.sc (Value.bool d.plus),
 AV.sc (Value.bool d.space), AV.sc (Value.int IntKind.i64 d.width),
 AV.sc (Value.int IntKind.i64 d.prec), AV.sc (Value.int IntKind.u8 d.kind)],
 AV.sc (Value.int IntKind.i64 (18 : Int))]))
 (iteP (d.width == (-2 : Int)) (False ∧ True)
 (iteP (d.prec == (-2 : Int)) (False ∧ True)
 (iteP (decide ((255 : Int) < d.width))
 (sB (AV.sl l (0 : Nat)) = sB (AV.sl l (0 : Nat)) ∧
 K
 (AV.tup
 [AV.agg
 [AV.sc (Value.bool d.minus), AV.sc (Value.bool d.zero), AV.sc (Value.bool d.plus),
 AV.sc (Value.bool d.space), AV.sc (Value.int IntKind.i64 d.width),
 AV.sc (Value.int IntKind.i64 d.prec), AV.sc (Value.int IntKind.u8 d.kind)],
 AV.sc (Value.int IntKind.i64 (2 : Int))]))
 (iteP (decide ((255 : Int) < d.prec))
 (sB (AV.sl l (0 : Nat)) = sB (AV.sl l (0 : Nat)) ∧
 K
 (AV.tup
 [AV.agg
 [AV.sc (Value.bool d.minus), AV.sc (Value.bool d.zero), AV.sc (Value.bool d.plus),
 AV.sc (Value.bool d.space), AV.sc (Value.int IntKind.i64 d.width),
 AV.sc (Value.int IntKind.i64 d.prec), AV.sc (Value.int IntKind.u8 d.kind)],
 AV.sc (Value.int IntKind.i64 (2 : Int))]))
 (sB (AV.sl l (0 : Nat)) = sB (AV.sl l (0 : Nat)) ∧
 K
 (AV.tup
 [AV.agg
 [AV.sc (Value.bool d.minus), AV.sc (Value.bool d.zero), AV.sc (Value.bool d.plus),
 AV.sc (Value.bool d.space), AV.sc (Value.int IntKind.i64 d.width),
 AV.sc (Value.int IntKind.i64 d.prec), AV.sc (Value.int IntKind.u8 d.kind)],
 AV.sc (Value.int IntKind.i64 (0 : Int))]))))))))
 (iteP (d.kind != (37 : Int))
 (iteP (decide ((↑l.length : Int) < (1 : Int)))
 (sB (AV.sl l (0 : Nat)) = sB (AV.sl l (0 : Nat)) ∧
 K
 (AV.tup
 [AV.agg
 [AV.sc (Value.bool d.minus), AV.sc (Value.bool d.zero), AV.sc (Value.bool d.plus),
 AV.sc (Value.bool d.space), AV.sc (Value.int IntKind.i64 d.width),
 AV.sc (Value.int IntKind.i64 d.prec), AV.sc (Value.int IntKind.u8 d.kind)],
 AV.sc (Value.int IntKind.i64 (18 : Int))]))
 (iteP (d.width == (-2 : Int)) (False ∧ True)
 (iteP (d.prec == (-2 : Int)) (False ∧ True)
 (iteP (decide ((255 : Int) < d.width))
 (sB (AV.sl l (0 : Nat)) = sB (AV.sl l (0 : Nat)) ∧
 K
 (AV.tup
 [AV.agg
 [AV.sc (Value.bool d.minus), AV.sc (Value.bool d.zero), AV.sc (Value.bool d.plus),
 AV.sc (Value.bool d.space), AV.sc (Value.int IntKind.i64 d.width),
 AV.sc (Value.int IntKind.i64 d.prec), AV.sc (Value.int IntKind.u8 d.kind)],
 AV.sc (Value.int IntKind.i64 (2 : Int))]))
 (iteP (decide ((255 : Int) < d.prec))
 (sB (AV.sl l (0 : Nat)) = sB (AV.sl l (0 : Nat)) ∧
 K
 (AV.tup
 [AV.agg
 [AV.sc (Value.bool d.minus), AV.sc (Value.bool d.zero), AV.sc (Value.bool d.plus),
 AV.sc (Value.bool d.space), AV.sc (Value.int IntKind.i64 d.width),
 AV.sc (Value.int IntKind.i64 d.prec), AV.sc (Value.int IntKind.u8 d.kind)],
 AV.sc (Value.int IntKind.i64 (2 : Int))]))
 (sB (AV.sl l (0 : Nat)) = sB (AV.sl l (0 : Nat)) ∧
 K
 (AV.tup
 [AV.agg
 [AV.sc (Value.bool d.minus), AV.sc (Value.bool d.zero), AV.sc (Value.bool d.plus),
 AV.sc (Value.bool d.space), AV.sc (Value.int IntKind.i64 d.width),
 AV.sc (Value.int IntKind.i64 d.prec), AV.sc (Value.int IntKind.u8 d.kind)],
 AV.sc (Value.int IntKind.i64 (0 : Int))])))))))
 (iteP (d.width == (-2 : Int)) (False ∧ True)
 (iteP (d.prec == (-2 : Int)) (False ∧ True)
 (iteP (decide ((255 : Int) < d.width))
 (sB (AV.sl l (0 : Nat)) = sB (AV.sl l (0 : Nat)) ∧
 K
 (AV.tup
 [AV.agg
 [AV.sc (Value.bool d.minus), AV.sc (Value.bool d.zero), AV.sc (Value.bool d.plus),
 AV.sc (Value.bool d.space), AV.sc (Value.int IntKind.i64 d.width),
 AV.sc (Value.int IntKind.i64 d.prec), AV.sc (Value.int IntKind.u8 d.kind)],
 AV.sc (Value.int IntKind.i64 (2 : Int))]))
 (iteP (decide ((255 : Int) < d.prec))
 (sB (AV.sl l (0 : Nat)) = sB (AV.sl l (0 : Nat)) ∧
 K
 (AV.tup
 [AV.agg
 [AV.sc (Value.bool d.minus), AV.sc (Value.bool d.zero), AV.sc (Value.bool d.plus),
 AV.sc (Value.bool d.space), AV.sc (Value.int IntKind.i64 d.width),
 AV.sc (Value.int IntKind.i64 d.prec), AV.sc (Value.int IntKind.u8 d.kind)],
 AV.sc (Value.int IntKind.i64 (2 : Int))]))
 (sB (AV.sl l (0 : Nat)) = sB (AV.sl l (0 : Nat)) ∧
 K
 (AV.tup
 [AV.agg
 [AV.sc (Value.bool d.minus), AV.sc (Value.bool d.zero), AV.sc (Value.bool d.plus),
 AV.sc (Value.bool d.space), AV.sc (Value.int IntKind.i64 d.width),
 AV.sc (Value.int IntKind.i64 d.prec), AV.sc (Value.int IntKind.u8 d.kind)],
 AV.sc (Value.int IntKind.i64 (0 : Int))]))))))))) :
 (fun (d : Dir) (l : List (List AV)) (K : AV → Prop) => wpCall Z3n Door.cfg Tryd.prog 40 23 [.ptr 1 0, .agg d.cells] (hB (.sl l 0)) fun r h' => IS [] h' = sB (.sl l 0) ∧ K r) d l K :=
 Eq.mp (by kernel_rfl) h

theorem c23c (d : Dir) (l : List (List AV)) (b : List (List AV)) (n : Nat) (K : AV → Prop) (h :
 iteP (d.width == (-2 : Int))
 (iteP (d.prec == (-2 : Int))
 (iteP (d.kind != (37 : Int))
 (iteP (decide ((↑l.length : Int) < (3 : Int)))
 (sC (AV.sl l (0 : Nat)) b n = sC (AV.sl l (0 : Nat)) b n ∧
 K
 (AV.tup
 [AV.agg
 [AV.sc (Value.bool d.minus), AV.sc (Value.bool d.zero), AV.sc (Value.bool d.plus),
 AV.sc (Value.bool d.space), AV.sc (Value.int IntKind.i64 d.width),
 AV.sc (Value.int IntKind.i64 d.prec), AV.sc (Value.int IntKind.u8 d.kind)],
 AV.sc (Value.int IntKind.i64 (18 : Int))]))
 (iteP (d.width == (-2 : Int)) (False ∧ True)
 (iteP (d.prec == (-2 : Int)) (False ∧ True)
 (iteP (decide ((255 : Int) < d.width))
 (sC (AV.sl l (0 : Nat)) b n = sC (AV.sl l (0 : Nat)) b n ∧
 K
 (AV.tup
 [AV.agg
 [AV.sc (Value.bool d.minus), AV.sc (Value.bool d.zero), AV.sc (Value.bool d.plus),
 AV.sc (Value.bool d.space), AV.sc (Value.int IntKind.i64 d.width),
 AV.sc (Value.int IntKind.i64 d.prec), AV.sc (Value.int IntKind.u8 d.kind)],
 AV.sc (Value.int IntKind.i64 (2 : Int))]))
 (iteP (decide ((255 : Int) < d.prec))
 (sC (AV.sl l (0 : Nat)) b n = sC (AV.sl l (0 : Nat)) b n ∧
 K
 (AV.tup
 [AV.agg
 [AV.sc (Value.bool d.minus), AV.sc (Value.bool d.zero), AV.sc (Value.bool d.plus),
 AV.sc (Value.bool d.space), AV.sc (Value.int IntKind.i64 d.width),
 AV.sc (Value.int IntKind.i64 d.prec), AV.sc (Value.int IntKind.u8 d.kind)],
 AV.sc (Value.int IntKind.i64 (2 : Int))]))
 (sC (AV.sl l (0 : Nat)) b n = sC (AV.sl l (0 : Nat)) b n ∧
 K
 (AV.tup
 [AV.agg
 [AV.sc (Value.bool d.minus), AV.sc (Value.bool d.zero), AV.sc (Value.bool d.plus),
 AV.sc (Value.bool d.space), AV.sc (Value.int IntKind.i64 d.width),
 AV.sc (Value.int IntKind.i64 d.prec), AV.sc (Value.int IntKind.u8 d.kind)],
 AV.sc (Value.int IntKind.i64 (0 : Int))])))))))
 (iteP (decide ((↑l.length : Int) < (2 : Int)))
 (sC (AV.sl l (0 : Nat)) b n = sC (AV.sl l (0 : Nat)) b n ∧
 K
 (AV.tup
 [AV.agg
 [AV.sc (Value.bool d.minus), AV.sc (Value.bool d.zero), AV.sc (Value.bool d.plus),
 AV.sc (Value.bool d.space), AV.sc (Value.int IntKind.i64 d.width),
 AV.sc (Value.int IntKind.i64 d.prec), AV.sc (Value.int IntKind.u8 d.kind)],
 AV.sc (Value.int IntKind.i64 (18 : Int))]))
 (iteP (d.width == (-2 : Int)) (False ∧ True)
 (iteP (d.prec == (-2 : Int)) (False ∧ True)
 (iteP (decide ((255 : Int) < d.width))
 (sC (AV.sl l (0 : Nat)) b n = sC (AV.sl l (0 : Nat)) b n ∧
 K
 (AV.tup
 [AV.agg
 [AV.sc (Value.bool d.minus), AV.sc (Value.bool d.zero), AV.sc (Value.bool d.plus),
 AV.sc (Value.bool d.space), AV.sc (Value.int IntKind.i64 d.width),
 AV.sc (Value.int IntKind.i64 d.prec), AV.sc (Value.int IntKind.u8 d.kind)],
 AV.sc (Value.int IntKind.i64 (2 : Int))]))
 (iteP (decide ((255 : Int) < d.prec))
 (sC (AV.sl l (0 : Nat)) b n = sC (AV.sl l (0 : Nat)) b n ∧
 K
 (AV.tup
 [AV.agg
 [AV.sc (Value.bool d.minus), AV.sc (Value.bool d.zero), AV.sc (Value.bool d.plus),
 AV.sc (Value.bool d.space), AV.sc (Value.int IntKind.i64 d.width),
 AV.sc (Value.int IntKind.i64 d.prec), AV.sc (Value.int IntKind.u8 d.kind)],
 AV.sc (Value.int IntKind.i64 (2 : Int))]))
 (sC (AV.sl l (0 : Nat)) b n = sC (AV.sl l (0 : Nat)) b n ∧
 K
 (AV.tup
 [AV.agg
 [AV.sc (Value.bool d.minus), AV.sc (Value.bool d.zero), AV.sc (Value.bool d.plus),
 AV.sc (Value.bool d.space), AV.sc (Value.int IntKind.i64 d.width),
 AV.sc (Value.int IntKind.i64 d.prec), AV.sc (Value.int IntKind.u8 d.kind)],
 AV.sc (Value.int IntKind.i64 (0 : Int))]))))))))
 (iteP (d.kind != (37 : Int))
 (iteP (decide ((↑l.length : Int) < (2 : Int)))
 (sC (AV.sl l (0 : Nat)) b n = sC (AV.sl l (0 : Nat)) b n ∧
 K
 (AV.tup
 [AV.agg
 [AV.sc (Value.bool d.minus), AV.sc (Value.bool d.zero), AV.sc (Value.bool d.plus),
 AV.sc (Value.bool d.space), AV.sc (Value.int IntKind.i64 d.width),
 AV.sc (Value.int IntKind.i64 d.prec), AV.sc (Value.int IntKind.u8 d.kind)],
 AV.sc (Value.int IntKind.i64 (18 : Int))]))
 (iteP (d.width == (-2 : Int)) (False ∧ True)
 (iteP (d.prec == (-2 : Int)) (False ∧ True)
 (iteP (decide ((255 : Int) < d.width))
 (sC (AV.sl l (0 : Nat)) b n = sC (AV.sl l (0 : Nat)) b n ∧
 K
 (AV.tup
 [AV.agg
 [AV.sc (Value.bool d.minus), AV.sc (Value.bool d.zero), AV.sc (Value.bool d.plus),
 AV.sc (Value.bool d.space), AV.sc (Value.int IntKind.i64 d.width),
 AV.sc (Value.int IntKind.i64 d.prec), AV.sc (Value.int IntKind.u8 d.kind)],
 AV.sc (Value.int IntKind.i64 (2 : Int))]))
 (iteP (decide ((255 : Int) < d.prec))
 (sC (AV.sl l (0 : Nat)) b n = sC (AV.sl l (0 : Nat)) b n ∧
 K
 (AV.tup
 [AV.agg
 [AV.sc (Value.bool d.minus), AV.sc (Value.bool d.zero), AV.sc (Value.bool d.plus),
 AV.sc (Value.bool d.space), AV.sc (Value.int IntKind.i64 d.width),
 AV.sc (Value.int IntKind.i64 d.prec), AV.sc (Value.int IntKind.u8 d.kind)],
 AV.sc (Value.int IntKind.i64 (2 : Int))]))
 (sC (AV.sl l (0 : Nat)) b n = sC (AV.sl l (0 : Nat)) b n ∧
 K
 (AV.tup
 [AV.agg
 [AV.sc (Value.bool d.minus), AV.sc (Value.bool d.zero), AV.sc (Value.bool d.plus),
 AV.sc (Value.bool d.space), AV.sc (Value.int IntKind.i64 d.width),
 AV.sc (Value.int IntKind.i64 d.prec), AV.sc (Value.int IntKind.u8 d.kind)],
 AV.sc (Value.int IntKind.i64 (0 : Int))])))))))
 (iteP (decide ((↑l.length : Int) < (1 : Int)))
 (sC (AV.sl l (0 : Nat)) b n = sC (AV.sl l (0 : Nat)) b n ∧
 K
 (AV.tup
 [AV.agg
 [AV.sc (Value.bool d.minus), AV.sc (Value.bool d.zero), AV.sc (Value.bool d.plus),
 AV.sc (Value.bool d.space), AV.sc (Value.int IntKind.i64 d.width),
 AV.sc (Value.int IntKind.i64 d.prec), AV.sc (Value.int IntKind.u8 d.kind)],
 AV.sc (Value.int IntKind.i64 (18 : Int))]))
 (iteP (d.width == (-2 : Int)) (False ∧ True)
 (iteP (d.prec == (-2 : Int)) (False ∧ True)
 (iteP (decide ((255 : Int) < d.width))
 (sC (AV.sl l (0 : Nat)) b n = sC (AV.sl l (0 : Nat)) b n ∧
 K
 (AV.tup
 [AV.agg
 [AV.sc (Value.bool d.minus), AV.sc (Value.bool d.zero), AV.sc (Value.bool d.plus),
 AV.sc (Value.bool d.space), AV.sc (Value.int IntKind.i64 d.width),
 AV.sc (Value.int IntKind.i64 d.prec), AV.sc (Value.int IntKind.u8 d.kind)],
 AV.sc (Value.int IntKind.i64 (2 : Int))]))
 (iteP (decide ((255 : Int) < d.prec))
 (sC (AV.sl l (0 : Nat)) b n = sC (AV.sl l (0 : Nat)) b n ∧
 K
 (AV.tup
 [AV.agg
 [AV.sc (Value.bool d.minus), AV.sc (Value.bool d.zero), AV.sc (Value.bool d.plus),
 AV.sc (Value.bool d.space), AV.sc (Value.int IntKind.i64 d.width),
 AV.sc (Value.int IntKind.i64 d.prec), AV.sc (Value.int IntKind.u8 d.kind)],
 AV.sc (Value.int IntKind.i64 (2 : Int))]))
 (sC (AV.sl l (0 : Nat)) b n = sC (AV.sl l (0 : Nat)) b n ∧
 K
 (AV.tup
 [AV.agg
 [AV.sc (Value.bool d.minus), AV.sc (Value.bool d.zero), AV.sc (Value.bool d.plus),
 AV.sc (Value.bool d.space), AV.sc (Value.int IntKind.i64 d.width),
 AV.sc (Value.int IntKind.i64 d.prec), AV.sc (Value.int IntKind.u8 d.kind)],
 AV.sc (Value.int IntKind.i64 (0 : Int))])))))))))
 (iteP (d.prec == (-2 : Int))
 (iteP (d.kind != (37 : Int))
 (iteP (decide ((↑l.length : Int) < (2 : Int)))
 (sC (AV.sl l (0 : Nat)) b n = sC (AV.sl l (0 : Nat)) b n ∧
 K
 (AV.tup
 [AV.agg
 [AV.sc (Value.bool d.minus), AV.sc (Value.bool d.zero), AV.sc (Value.bool d.plus),
 AV.sc (Value.bool d.space), AV.sc (Value.int IntKind.i64 d.width),
 AV.sc (Value.int IntKind.i64 d.prec), AV.sc (Value.int IntKind.u8 d.kind)],
 AV.sc (Value.int IntKind.i64 (18 : Int))]))
 (iteP (d.width == (-2 : Int)) (False ∧ True)
 (iteP (d.prec == (-2 : Int)) (False ∧ True)
 (iteP (decide ((255 : Int) < d.width))
 (sC (AV.sl l (0 : Nat)) b n = sC (AV.sl l (0 : Nat)) b n ∧
 K
 (AV.tup
 [AV.agg
 [AV.sc (Value.bool d.minus), AV.sc (Value.bool d.zero), AV.sc (Value.bool d.plus),
 AV.sc (Value.bool d.space), AV.sc (Value.int IntKind.i64 d.width),
 AV.sc (Value.int IntKind.i64 d.prec), AV.sc (Value.int IntKind.u8 d.kind)],
 AV.sc (Value.int IntKind.i64 (2 : Int))]))
 (iteP (decide ((255 : Int) < d.prec))
 (sC (AV.sl l (0 : Nat)) b n = sC (AV.sl l (0 : Nat)) b n ∧
 K
 (AV.tup
 [AV.agg
 [AV.sc (Value.bool d.minus), AV.sc (Value.bool d.zero), AV.sc (Value.bool d.plus),
 AV.sc (Value.bool d.space), AV.sc (Value.int IntKind.i64 d.width),
 AV.sc (Value.int IntKind.i64 d.prec), AV.sc (Value.int IntKind.u8 d.kind)],
 AV.sc (Value.int IntKind.i64 (2 : Int))]))
 (sC (AV.sl l (0 : Nat)) b n = sC (AV.sl l (0 : Nat)) b n ∧
 K
 (AV.tup
 [AV.agg
 [AV.sc (Value.bool d.minus), AV.sc (Value.bool d.zero), AV.sc (Value.bool d.plus),
 AV.sc (Value.bool d.space), AV.sc (Value.int IntKind.i64 d.width),
 AV.sc (Value.int IntKind.i64 d.prec), AV.sc (Value.int IntKind.u8 d.kind)],
 AV.sc (Value.int IntKind.i64 (0 : Int))])))))))
 (iteP (decide ((↑l.length : Int) < (1 : Int)))
 (sC (AV.sl l (0 : Nat)) b n = sC (AV.sl l (0 : Nat)) b n ∧
 K
 (AV.tup
 [AV.agg
 [AV.sc (Value.bool d.minus), AV.sc (Value.bool d.zero), AV.sc (Value.bool d.plus),
 AV.sc (Value.bool d.space), AV.sc (Value.int IntKind.i64 d.width),
 AV.sc (Value.int IntKind.i64 d.prec), AV.sc (Value.int IntKind.u8 d.kind)],
 AV.sc (Value.int IntKind.i64 (18 : Int))]))
 (iteP (d.width == (-2 : Int)) (False ∧ True)
 (iteP (d.prec == (-2 : Int)) (False ∧ True)
 (iteP (decide ((255 : Int) < d.width))
 (sC (AV.sl l (0 : Nat)) b n = sC (AV.sl l (0 : Nat)) b n ∧
 K
 (AV.tup
 [AV.agg
 [AV.sc (Value.bool d.minus), AV.sc (Value.bool d.zero), AV.sc (Value.bool d.plus),
 AV.sc (Value.bool d.space), AV.sc (Value.int IntKind.i64 d.width),
 AV.sc (Value.int IntKind.i64 d.prec), AV.sc (Value.int IntKind.u8 d.kind)],
 AV.sc (Value.int IntKind.i64 (2 : Int))]))
 (iteP (decide ((255 : Int) < d.prec))
 (sC (AV.sl l (0 : Nat)) b n = sC (AV.sl l (0 : Nat)) b n ∧
 K
 (AV.tup
 [AV.agg
 [AV.sc (Value.bool d.minus), AV.sc (Value.bool d.zero), AV.sc (Value.bool d.plus),
 AV.sc (Value.bool d.space), AV.sc (Value.int IntKind.i64 d.width),
 AV.sc (Value.int IntKind.i64 d.prec), AV.sc (Value.int IntKind.u8 d.kind)],
 AV.sc (Value.int IntKind.i64 (2 : Int))]))
 (sC (AV.sl l (0 : Nat)) b n = sC (AV.sl l (0 : Nat)) b n ∧
 K
 (AV.tup
 [AV.agg
 [AV.sc (Value.bool d.minus), AV.sc (Value.bool d.zero), AV.sc (Value.bool d.plus),
 AV.sc (Value.bool d.space), AV.sc (Value.int IntKind.i64 d.width),
 AV.sc (Value.int IntKind.i64 d.prec), AV.sc (Value.int IntKind.u8 d.kind)],
 AV.sc (Value.int IntKind.i64 (0 : Int))]))))))))
 (iteP (d.kind != (37 : Int))
 (iteP (decide ((↑l.length : Int) < (1 : Int)))
 (sC (AV.sl l (0 : Nat)) b n = sC (AV.sl l (0 : Nat)) b n ∧
 K
 (AV.tup
 [AV.agg
 [AV.sc (Value.bool d.minus), AV.sc (Value.bool d.zero), AV.sc (Value.bool d.plus),
 AV.sc (Value.bool d.space), AV.sc (Value.int IntKind.i64 d.width),
 AV.sc (Value.int IntKind.i64 d.prec), AV.sc (Value.int IntKind.u8 d.kind)],
 AV.sc (Value.int IntKind.i64 (18 : Int))]))
 (iteP (d.width == (-2 : Int)) (False ∧ True)
 (iteP (d.prec == (-2 : Int)) (False ∧ True)
 (iteP (decide ((255 : Int) < d.width))
 (sC (AV.sl l (0 : Nat)) b n = sC (AV.sl l (0 : Nat)) b n ∧
 K
 (AV.tup
 [AV.agg
 [AV.sc (Value.bool d.minus), AV.sc (Value.bool d.zero), AV.sc (Value.bool d.plus),
 AV.sc (Value.bool d.space), AV.sc (Value.int IntKind.i64 d.width),
 AV.sc (Value.int IntKind.i64 d.prec), AV.sc (Value.int IntKind.u8 d.kind)],
 AV.sc (Value.int IntKind.i64 (2 : Int))]))
 (iteP (decide ((255 : Int) < d.prec))
 (sC (AV.sl l (0 : Nat)) b n = sC (AV.sl l (0 : Nat)) b n ∧
 K
 (AV.tup
 [AV.agg
 [AV.sc (Value.bool d.minus), AV.sc (Value.bool d.zero), AV.sc (Value.bool d.plus),
 AV.sc (Value.bool d.space), AV.sc (Value.int IntKind.i64 d.width),
 AV.sc (Value.int IntKind.i64 d.prec), AV.sc (Value.int IntKind.u8 d.kind)],
 AV.sc (Value.int IntKind.i64 (2 : Int))]))
 (sC (AV.sl l (0 : Nat)) b n = sC (AV.sl l (0 : Nat)) b n ∧
 K
 (AV.tup
 [AV.agg
 [AV.sc (Value.bool d.minus), AV.sc (Value.bool d.zero), AV.sc (Value.bool d.plus),
 AV.sc (Value.bool d.space), AV.sc (Value.int IntKind.i64 d.width),
 AV.sc (Value.int IntKind.i64 d.prec), AV.sc (Value.int IntKind.u8 d.kind)],
 AV.sc (Value.int IntKind.i64 (0 : Int))])))))))
 (iteP (d.width == (-2 : Int)) (False ∧ True)
 (iteP (d.prec == (-2 : Int)) (False ∧ True)
 (iteP (decide ((255 : Int) < d.width))
 (sC (AV.sl l (0 : Nat)) b n = sC (AV.sl l (0 : Nat)) b n ∧
 K
 (AV.tup
 [AV.agg
 [AV.sc (Value.bool d.minus), AV.sc (Value.bool d.zero), AV.sc (Value.bool d.plus),
 AV.sc (Value.bool d.space), AV.sc (Value.int IntKind.i64 d.width),
 AV.sc (Value.int IntKind.i64 d.prec), AV.sc (Value.int IntKind.u8 d.kind)],
 AV.sc (Value.int IntKind.i64 (2 : Int))]))
 (iteP (decide ((255 : Int) < d.prec))
 (sC (AV.sl l (0 : Nat)) b n = sC (AV.sl l (0 : Nat)) b n ∧
 K
 (AV.tup
 [AV.agg
 [AV.sc (Value.bool d.minus), AV.sc (Value.bool d.zero), AV.sc (Value.bool d.plus),
 AV.sc (Value.bool d.space), AV.sc (Value.int IntKind.i64 d.width),
 AV.sc (Value.int IntKind.i64 d.prec), AV.sc (Value.int IntKind.u8 d.kind)],
 AV.sc (Value.int IntKind.i64 (2 : Int))]))
 (sC (AV.sl l (0 : Nat)) b n = sC (AV.sl l (0 : Nat)) b n ∧
 K
 (AV.tup
 [AV.agg
 [AV.sc (Value.bool d.minus), AV.sc (Value.bool d.zero), AV.sc (Value.bool d.plus),
 AV.sc (Value.bool d.space), AV.sc (Value.int IntKind.i64 d.width),
 AV.sc (Value.int IntKind.i64 d.prec), AV.sc (Value.int IntKind.u8 d.kind)],
 AV.sc (Value.int IntKind.i64 (0 : Int))]))))))))) :
 (fun (d : Dir) (l b : List (List AV)) (n : Nat) (K : AV → Prop) => wpCall Z3n Door.cfg Tryd.prog 40 23 [.ptr 1 0, .agg d.cells] (hC (.sl l 0) b n) fun r h' => IS [] h' = sC (.sl l 0) b n ∧ K r) d l b n K :=
 Eq.mp (by kernel_rfl) h

theorem c23bn (d : Dir) (K : AV → Prop) (h :
 iteP (d.width == (-2 : Int))
 (iteP (d.prec == (-2 : Int))
 (iteP (d.kind != (37 : Int))
 (sB (AV.sc (Value.slice none (0 : Nat) (0 : Nat))) = sB (AV.sc (Value.slice none (0 : Nat) (0 : Nat))) ∧
 K
 (AV.tup
 [AV.agg
 [AV.sc (Value.bool d.minus), AV.sc (Value.bool d.zero), AV.sc (Value.bool d.plus),
 AV.sc (Value.bool d.space), AV.sc (Value.int IntKind.i64 d.width),
 AV.sc (Value.int IntKind.i64 d.prec), AV.sc (Value.int IntKind.u8 d.kind)],
 AV.sc (Value.int IntKind.i64 (18 : Int))]))
 (sB (AV.sc (Value.slice none (0 : Nat) (0 : Nat))) = sB (AV.sc (Value.slice none (0 : Nat) (0 : Nat))) ∧
 K
 (AV.tup
 [AV.agg
 [AV.sc (Value.bool d.minus), AV.sc (Value.bool d.zero), AV.sc (Value.bool d.plus),
 AV.sc (Value.bool d.space), AV.sc (Value.int IntKind.i64 d.width),
 AV.sc (Value.int IntKind.i64 d.prec), AV.sc (Value.int IntKind.u8 d.kind)],
 AV.sc (Value.int IntKind.i64 (18 : Int))])))
 (iteP (d.kind != (37 : Int))
 (sB (AV.sc (Value.slice none (0 : Nat) (0 : Nat))) = sB (AV.sc (Value.slice none (0 : Nat) (0 : Nat))) ∧
 K
 (AV.tup
 [AV.agg
 [AV.sc (Value.bool d.minus), AV.sc (Value.bool d.zero), AV.sc (Value.bool d.plus),
 AV.sc (Value.bool d.space), AV.sc (Value.int IntKind.i64 d.width),
 AV.sc (Value.int IntKind.i64 d.prec), AV.sc (Value.int IntKind.u8 d.kind)],
 AV.sc (Value.int IntKind.i64 (18 : Int))]))
 (sB (AV.sc (Value.slice none (0 : Nat) (0 : Nat))) = sB (AV.sc (Value.slice none (0 : Nat) (0 : Nat))) ∧
 K
 (AV.tup
 [AV.agg
 [AV.sc (Value.bool d.minus), AV.sc (Value.bool d.zero), AV.sc (Value.bool d.plus),
 AV.sc (Value.bool d.space), AV.sc (Value.int IntKind.i64 d.width),
 AV.sc (Value.int IntKind.i64 d.prec), AV.sc (Value.int IntKind.u8 d.kind)],
 AV.sc (Value.int IntKind.i64 (18 : Int))]))))
 (iteP (d.prec == (-2 : Int))
 (iteP (d.kind != (37 : Int))
 (sB (AV.sc (Value.slice none (0 : Nat) (0 : Nat))) = sB (AV.sc (Value.slice none (0 : Nat) (0 : Nat))) ∧
 K
 (AV.tup
 [AV.agg
 [AV.sc (Value.bool d.minus), AV.sc (Value.bool d.zero), AV.sc (Value.bool d.plus),
 AV.sc (Value.bool d.space), AV.sc (Value.int IntKind.i64 d.width),
 AV.sc (Value.int IntKind.i64 d.prec), AV.sc (Value.int IntKind.u8 d.kind)],
 AV.sc (Value.int IntKind.i64 (18 : Int))]))
 (sB (AV.sc (Value.slice none (0 : Nat) (0 : Nat))) = sB (AV.sc (Value.slice none (0 : Nat) (0 : Nat))) ∧
 K
 (AV.tup
 [AV.agg
 [AV.sc (Value.bool d.minus), AV.sc (Value.bool d.zero), AV.sc (Value.bool d.plus),
 AV.sc (Value.bool d.space), AV.sc (Value.int IntKind.i64 d.width),
 AV.sc (Value.int IntKind.i64 d.prec), AV.sc (Value.int IntKind.u8 d.kind)],
 AV.sc (Value.int IntKind.i64 (18 : Int))])))
 (iteP (d.kind != (37 : Int))
 (sB (AV.sc (Value.slice none (0 : Nat) (0 : Nat))) = sB (AV.sc (Value.slice none (0 : Nat) (0 : Nat))) ∧
 K
 (AV.tup
 [AV.agg
 [AV.sc (Value.bool d.minus), AV.sc (Value.bool d.zero), AV.sc (Value.bool d.plus),
 AV.sc (Value.bool d.space), AV.sc (Value.int IntKind.i64 d.width),
 AV.sc (Value.int IntKind.i64 d.prec), AV.sc (Value.int IntKind.u8 d.kind)],
 AV.sc (Value.int IntKind.i64 (18 : Int))]))
 (iteP (d.width == (-2 : Int)) (False ∧ True)
 (iteP (d.prec == (-2 : Int)) (False ∧ True)
 (iteP (decide ((255 : Int) < d.width))
 (sB (AV.sc (Value.slice none (0 : Nat) (0 : Nat))) = sB (AV.sc (Value.slice none (0 : Nat) (0 : Nat))) ∧
 K
 (AV.tup
 [AV.agg
 [AV.sc (Value.bool d.minus), AV.sc (Value.bool d.zero), AV.sc (Value.bool d.plus),
 AV.sc (Value.bool d.space), AV.sc (Value.int IntKind.i64 d.width),
 AV.sc (Value.int IntKind.i64 d.prec), AV.sc (Value.int IntKind.u8 d.kind)],
 AV.sc (Value.int IntKind.i64 (2 : Int))]))
 (iteP (decide ((255 : Int) < d.prec))
 (sB (AV.sc (Value.slice none (0 : Nat) (0 : Nat))) = sB (AV.sc (Value.slice none (0 : Nat) (0 : Nat))) ∧
 K
 (AV.tup
 [AV.agg
 [AV.sc (Value.bool d.minus), AV.sc (Value.bool d.zero), AV.sc (Value.bool d.plus),
 AV.sc (Value.bool d.space), AV.sc (Value.int IntKind.i64 d.width),
 AV.sc (Value.int IntKind.i64 d.prec), AV.sc (Value.int IntKind.u8 d.kind)],
 AV.sc (Value.int IntKind.i64 (2 : Int))]))
 (sB (AV.sc (Value.slice none (0 : Nat) (0 : Nat))) = sB (AV.sc (Value.slice none (0 : Nat) (0 : Nat))) ∧
 K
 (AV.tup
 [AV.agg
 [AV.sc (Value.bool d.minus), AV.sc (Value.bool d.zero), AV.sc (Value.bool d.plus),
 AV.sc (Value.bool d.space), AV.sc (Value.int IntKind.i64 d.width),
 AV.sc (Value.int IntKind.i64 d.prec), AV.sc (Value.int IntKind.u8 d.kind)],
 AV.sc (Value.int IntKind.i64 (0 : Int))]))))))))) :
 (fun (d : Dir) (K : AV → Prop) => wpCall Z3n Door.cfg Tryd.prog 40 23 [.ptr 1 0, .agg d.cells] (hB nilA) fun r h' => IS [] h' = sB nilA ∧ K r) d K :=
 Eq.mp (by kernel_rfl) h

theorem c23cn (d : Dir) (b : List (List AV)) (n : Nat) (K : AV → Prop) (h :
 iteP (d.width == (-2 : Int))
 (iteP (d.prec == (-2 : Int))
 (iteP (d.kind != (37 : Int))
 (sC (AV.sc (Value.slice none (0 : Nat) (0 : Nat))) b n = sC (AV.sc (Value.slice none (0 : Nat) (0 : Nat))) b n ∧
 K
 (AV.tup
 [AV.agg
 [AV.sc (Value.bool d.minus), AV.sc (Value.bool d.zero), AV.sc (Value.bool d.plus),
 AV.sc (Value.bool d.space), AV.sc (Value.int IntKind.i64 d.width),
 AV.sc (Value.int IntKind.i64 d.prec), AV.sc (Value.int IntKind.u8 d.kind)],
 AV.sc (Value.int IntKind.i64 (18 : Int))]))
 (sC (AV.sc (Value.slice none (0 : Nat) (0 : Nat))) b n = sC (AV.sc (Value.slice none (0 : Nat) (0 : Nat))) b n ∧
 K
 (AV.tup
 [AV.agg
 [AV.sc (Value.bool d.minus), AV.sc (Value.bool d.zero), AV.sc (Value.bool d.plus),
 AV.sc (Value.bool d.space), AV.sc (Value.int IntKind.i64 d.width),
 AV.sc (Value.int IntKind.i64 d.prec), AV.sc (Value.int IntKind.u8 d.kind)],
 AV.sc (Value.int IntKind.i64 (18 : Int))])))
 (iteP (d.kind != (37 : Int))
 (sC (AV.sc (Value.slice none (0 : Nat) (0 : Nat))) b n = sC (AV.sc (Value.slice none (0 : Nat) (0 : Nat))) b n ∧
 K
 (AV.tup
 [AV.agg
 [AV.sc (Value.bool d.minus), AV.sc (Value.bool d.zero), AV.sc (Value.bool d.plus),
 AV.sc (Value.bool d.space), AV.sc (Value.int IntKind.i64 d.width),
 AV.sc (Value.int IntKind.i64 d.prec), AV.sc (Value.int IntKind.u8 d.kind)],
 AV.sc (Value.int IntKind.i64 (18 : Int))]))
 (sC (AV.sc (Value.slice none (0 : Nat) (0 : Nat))) b n = sC (AV.sc (Value.slice none (0 : Nat) (0 : Nat))) b n ∧
 K
 (AV.tup
 [AV.agg
 [AV.sc (Value.bool d.minus), AV.sc (Value.bool d.zero), AV.sc (Value.bool d.plus),
 AV.sc (Value.bool d.space), AV.sc (Value.int IntKind.i64 d.width),
 AV.sc (Value.int IntKind.i64 d.prec), AV.sc (Value.int IntKind.u8 d.kind)],
 AV.sc (Value.int IntKind.i64 (18 : Int))]))))
 (iteP (d.prec == (-2 : Int))
 (iteP (d.kind != (37 : Int))
 (sC (AV.sc (Value.slice none (0 : Nat) (0 : Nat))) b n = sC (AV.sc (Value.slice none (0 : Nat) (0 : Nat))) b n ∧
 K
 (AV.tup
 [AV.agg
 [AV.sc (Value.bool d.minus), AV.sc (Value.bool d.zero), AV.sc (Value.bool d.plus),
 AV.sc (Value.bool d.space), AV.sc (Value.int IntKind.i64 d.width),
 AV.sc (Value.int IntKind.i64 d.prec), AV.sc (Value.int IntKind.u8 d.kind)],
 AV.sc (Value.int IntKind.i64 (18 : Int))]))
 (sC (AV.sc (Value.slice none (0 : Nat) (0 : Nat))) b n = sC (AV.sc (Value.slice none (0 : Nat) (0 : Nat))) b n ∧
 K
 (AV.tup
 [AV.agg
 [AV.sc (Value.bool d.minus), AV.sc (Value.bool d.zero), AV.sc (Value.bool d.plus),
 AV.sc (Value.bool d.space), AV.sc (Value.int IntKind.i64 d.width),
 AV.sc (Value.int IntKind.i64 d.prec), AV.sc (Value.int IntKind.u8 d.kind)],
 AV.sc (Value.int IntKind.i64 (18 : Int))])))
 (iteP (d.kind != (37 : Int))
 (sC (AV.sc (Value.slice none (0 : Nat) (0 : Nat))) b n = sC (AV.sc (Value.slice none (0 : Nat) (0 : Nat))) b n ∧
 K
 (AV.tup
 [AV.agg
 [AV.sc (Value.bool d.minus), AV.sc (Value.bool d.zero), AV.sc (Value.bool d.plus),
 AV.sc (Value.bool d.space), AV.sc (Value.int IntKind.i64 d.width),
 AV.sc (Value.int IntKind.i64 d.prec), AV.sc (Value.int IntKind.u8 d.kind)],
 AV.sc (Value.int IntKind.i64 (18 : Int))]))
 (iteP (d.width == (-2 : Int)) (False ∧ True)
 (iteP (d.prec == (-2 : Int)) (False ∧ True)
 (iteP (decide ((255 : Int) < d.width))
 (sC (AV.sc (Value.slice none (0 : Nat) (0 : Nat))) b n =
 sC (AV.sc (Value.slice none (0 : Nat) (0 : Nat))) b n ∧
 K
 (AV.tup
 [AV.agg
 [AV.sc (Value.bool d.minus), AV.sc (Value.bool d.zero), AV.sc (Value.bool d.plus),
 AV.sc (Value.bool d.space), AV.sc (Value.int IntKind.i64 d.width),
 AV.sc (Value.int IntKind.i64 d.prec), AV.sc (Value.int IntKind.u8 d.kind)],
 AV.sc (Value.int IntKind.i64 (2 : Int))]))
 (iteP (decide ((255 : Int) < d.prec))
 (sC (AV.sc (Value.slice none (0 : Nat) (0 : Nat))) b n =
 sC (AV.sc (Value.slice none (0 : Nat) (0 : Nat))) b n ∧
 K
 (AV.tup
 [AV.agg
 [AV.sc (Value.bool d.minus), AV.sc (Value.bool d.zero), AV.sc (Value.bool d.plus),
 AV.sc (Value.bool d.space), AV.sc (Value.int IntKind.i64 d.width),
 AV.sc (Value.int IntKind.i64 d.prec), AV.sc (Value.int IntKind.u8 d.kind)],
 AV.sc (Value.int IntKind.i64 (2 : Int))]))
 (sC (AV.sc (Value.slice none (0 : Nat) (0 : Nat))) b n =
 sC (AV.sc (Value.slice none (0 : Nat) (0 : Nat))) b n ∧
 K
 (AV.tup
 [AV.agg
 [AV.sc (Value.bool d.minus), AV.sc (Value.bool d.zero), AV.sc (Value.bool d.plus),
 AV.sc (Value.bool d.space), AV.sc (Value.int IntKind.i64 d.width),
 AV.sc (Value.int IntKind.i64 d.prec), AV.sc (Value.int IntKind.u8 d.kind)],
 AV.sc (Value.int IntKind.i64 (0 : Int))]))))))))) :
 (fun (d : Dir) (b : List (List AV)) (n : Nat) (K : AV → Prop) => wpCall Z3n Door.cfg Tryd.prog 40 23 [.ptr 1 0, .agg d.cells] (hC nilA b n) fun r h' => IS [] h' = sC nilA b n ∧ K r) d b n K :=
 Eq.mp (by kernel_rfl) h

end
end Go.Proofs.Pr

/- Printf: resolve at a directive without asterisks. -/
namespace Go.Proofs.Pr
open Go Go.Ef
noncomputable section
set_option maxRecDepth 100000

theorem evp_plain {g : FuncId} {args : List AV} {h : Heap} {K : AV → Heap → Prop} (hf : Door.cfg.fresh g = false) (hp : Door.cfg.prim g = none) (H : EvC Door.cfg Tryd.prog g args h K) : EvP Door.cfg Tryd.prog g args h K := by
  obtain ⟨m, r, h', h1, h2⟩ := H
  refine ⟨m, r, h', ?_, h2⟩
  unfold callP
  rw [hp]; simp only []; rw [hf]
  exact h1
theorem okZ3n : TabOk Tryd.prog Door.cfg Z3n := by
  refine addC_ok okZ2 fun args h s hs hp => ?_
  unfold C36n at hs
  cases hs
  exact hp.elim
theorem shut23 {d : AV} {h h0 : Heap} {v : AV} (e : h = h0) (hw : wpCall Z3n Door.cfg Tryd.prog 40 23 [.ptr 1 0, d] h0 fun r h' => IS [] h' = IS [] h0 ∧ r = v) : EvP Door.cfg Tryd.prog 23 [.ptr 1 0, d] h fun r h' => r = v ∧ h' = h := by
  subst e
  refine evp_plain (by kernel_rfl) (by kernel_rfl) ?_
  obtain ⟨m, r, h', h1, h2, h3⟩ := call_okW okZ3n 40 23 _ _ _ hw
  exact ⟨m, r, h', h1, h3, IS_heap h2⟩
theorem ok23n : TabOk Tryd.prog Door.cfg (Z3n.addC 23 C23n) := by
  refine addC_ok okZ3n fun args h s hs hp => ?_
  unfold C23n at hs
  split at hs
  · rename_i a b c e w p k
    refine nspec_ok (Option.some.inj hs) (fun hpre => ?_) hp
    obtain ⟨hh, q0, q1, q2, q3, q4, q5⟩ := hpre
    replace q1 : -1 ≤ w := q1
    replace q2 : w ≤ 255 := q2
    replace q3 : -1 ≤ p := q3
    replace q4 : p ≤ 255 := q4
    replace q5 : k = 37 ∨ 1 ≤ (argsOf (hArg h)).length := q5
    have e1 : (w == -2) = false := by simp; omega
    have e2 : (p == -2) = false := by simp; omega
    have e3 : decide ((255 : Int) < w) = false := by simp; omega
    have e4 : decide ((255 : Int) < p) = false := by simp; omega
    rcases q0 with ⟨l, hl⟩ | hl
    · rw [hl] at hh q5
      replace q5 : k = 37 ∨ 1 ≤ l.length := q5
      have e6 : k ≠ 37 → decide ((l.length : Int) < (1 : Int)) = false := fun hk => by simp; omega
      cases hn : Nat.beq h.next 4 with
      | true =>
        rw [hn] at hh
        refine shut23 (IS_heap (s := []) (s' := []) hh) (c23b ⟨a, b, c, e, w, p, k⟩ l (fun y => y = .tup [.agg (Dir.cells ⟨a, b, c, e, w, p, k⟩), aK .i64 0]) ?_)
        simp only [e1, e2, e3, e4, iteP_f]
        cases hk : (k != 37) with
        | true => rw [e6 (by simpa using hk)]; exact ⟨trivial, rfl⟩
        | false => simp [iteP]; exact ⟨rfl, rfl⟩
      | false =>
        rw [hn] at hh
        refine shut23 (IS_heap (s := []) (s' := []) hh) (c23c ⟨a, b, c, e, w, p, k⟩ l (hBytes h) (hN h) (fun y => y = .tup [.agg (Dir.cells ⟨a, b, c, e, w, p, k⟩), aK .i64 0]) ?_)
        simp only [e1, e2, e3, e4, iteP_f]
        cases hk : (k != 37) with
        | true => rw [e6 (by simpa using hk)]; exact ⟨trivial, rfl⟩
        | false => simp [iteP]; exact ⟨rfl, rfl⟩
    · rw [hl] at hh q5
      have hk : (k != 37) = false := by
        rcases q5 with h' | h'
        · simp [h']
        · exact absurd h' (by show ¬ 1 ≤ 0; decide)
      cases hn : Nat.beq h.next 4 with
      | true =>
        rw [hn] at hh
        refine shut23 (IS_heap (s := []) (s' := []) hh) (c23bn ⟨a, b, c, e, w, p, k⟩ (fun y => y = .tup [.agg (Dir.cells ⟨a, b, c, e, w, p, k⟩), aK .i64 0]) ?_)
        simp only [e1, e2, e3, e4, iteP_f, hk]
        simp; exact ⟨rfl, rfl⟩
      | false =>
        rw [hn] at hh
        refine shut23 (IS_heap (s := []) (s' := []) hh) (c23cn ⟨a, b, c, e, w, p, k⟩ (hBytes h) (hN h) (fun y => y = .tup [.agg (Dir.cells ⟨a, b, c, e, w, p, k⟩), aK .i64 0]) ?_)
        simp only [e1, e2, e3, e4, iteP_f, hk]
        simp; exact ⟨rfl, rfl⟩
  · cases hs

end
end Go.Proofs.Pr

/- Printf: the rounds of Sprintf's loop. -/
namespace Go.Proofs.Pr
open Go Go.Ef
noncomputable section

def IA (s : List UInt8) (a : AV) : St := IS s (hA a)
def IB (s : List UInt8) (a : AV) : St := IS s (hB a)
def IC (s : List UInt8) (a : AV) (b : Cells) (n : Nat) : St := IS s (hC a b n)
def JS (e : Int) (h : Heap) : St := stOf 41 [(4, sInt e)] [] h
def JA (e : Int) (a : AV) : St := JS e (hA a)
def JB (e : Int) (a : AV) : St := JS e (hB a)
def JC (e : Int) (a : AV) (b : Cells) (n : Nat) : St := JS e (hC a b n)
def shp (h : Heap) : Nat :=
  match h.objs.get 3 with
  | some (.cells [.sc _, _]) => 0
  | some (.cells [_, .sl _ _]) => 2
  | _ => 1
def rN (NB : List UInt8 → AV → Prop) (NC : List UInt8 → AV → Cells → Nat → Prop) (τ : St) : Prop :=
  match shp τ.h with
  | 1 => τ = IB (slS τ 0) (hArg τ.h) ∧ NB (slS τ 0) (hArg τ.h)
  | 2 => τ = IC (slS τ 0) (hArg τ.h) (hBytes τ.h) (hN τ.h) ∧ NC (slS τ 0) (hArg τ.h) (hBytes τ.h) (hN τ.h)
  | _ => False
def rX (XA XB : Int → AV → Prop) (XC : Int → AV → Cells → Nat → Prop) (e : Ex) (τ : St) : Prop :=
  match e with
  | .ret => match shp τ.h with
    | 0 => τ = JA (slI τ 4) (hArg τ.h) ∧ XA (slI τ 4) (hArg τ.h)
    | 1 => τ = JB (slI τ 4) (hArg τ.h) ∧ XB (slI τ 4) (hArg τ.h)
    | 2 => τ = JC (slI τ 4) (hArg τ.h) (hBytes τ.h) (hN τ.h) ∧ XC (slI τ 4) (hArg τ.h) (hBytes τ.h) (hN τ.h)
    | _ => False
  | _ => False
/- no argument is read -/
def Y0 : Tab := ((Z3n.addC 23 C23n).addC 32 C32).addC 24 C36n

end
end Go.Proofs.Pr

/- Printf: conditions of the rounds of Sprintf, printed by a program from the evaluation. -/
namespace Go.Proofs.Pr
open Go Go.Ef
noncomputable section
set_option maxRecDepth 100000

theorem vA (s : List UInt8) (l : Cells) (NB : List UInt8 → AV → Prop) (NC : List UInt8 → AV → Cells → Nat → Prop) (XA : Int → AV → Prop) (XB : Int → AV → Prop) (XC : Int → AV → Cells → Nat → Prop) (h :
 (s.length ≤ (1000000 : Nat) ∧ [(37 : UInt8)] = [(37 : UInt8)]) ∧
 ∀ (x : List UInt8 × List UInt8 × Bool),
 x = (before s, after s, hasPct s) →
 iteP x.snd.snd
 (x.snd.fst.length.le (1000000 : Nat) ∧
 ∀ (x_1 : Dir × List UInt8 × Int),
 x_1 = readF x.snd.fst →
 iteP (x_1.snd.snd != (0 : Int))
 (JA x_1.snd.snd (AV.sl l (0 : Nat)) = JA x_1.snd.snd (AV.sl l (0 : Nat)) ∧
 XA x_1.snd.snd (AV.sl l (0 : Nat)))
 (iteP
 ((List.map (fun (b : UInt8) => [AV.sc (Value.int IntKind.u8 (↑b.toNat : Int))]) x.fst).all
 fun (e : List AV) => e.all AV.one)
 (iteP (List.map (fun (b : UInt8) => [AV.sc (Value.int IntKind.u8 (↑b.toNat : Int))]) x.fst).isEmpty
 ((sB (AV.sl l (0 : Nat)) = sB (AV.sl l (0 : Nat)) ∧
 ((∃ (l_1 : List (List AV)), AV.sl l (0 : Nat) = AV.sl l_1 (0 : Nat)) ∨
 AV.sl l (0 : Nat) = AV.sc (Value.slice none (0 : Nat) (0 : Nat))) ∧
 (-1 : Int) ≤
 (Dir.mk x_1.fst.minus x_1.fst.zero x_1.fst.plus x_1.fst.space x_1.fst.width x_1.fst.prec
 x_1.fst.kind).width ∧
 (Dir.mk x_1.fst.minus x_1.fst.zero x_1.fst.plus x_1.fst.space x_1.fst.width x_1.fst.prec
 x_1.fst.kind).width ≤
 (255 : Int) ∧
 (-1 : Int) ≤
 (Dir.mk x_1.fst.minus x_1.fst.zero x_1.fst.plus x_1.fst.space x_1.fst.width
 x_1.fst.prec x_1.fst.kind).prec ∧
 (Dir.mk x_1.fst.minus x_1.fst.zero x_1.fst.plus x_1.fst.space x_1.fst.width x_1.fst.prec
 x_1.fst.kind).prec ≤
 (255 : Int) ∧
 ((Dir.mk x_1.fst.minus x_1.fst.zero x_1.fst.plus x_1.fst.space x_1.fst.width
 x_1.fst.prec x_1.fst.kind).kind =
 (37 : Int) ∨
 (1 : Nat) ≤ List.length l)) ∧
 ∀ (x : Dir),
 x =
 Dir.mk x_1.fst.minus x_1.fst.zero x_1.fst.plus x_1.fst.space x_1.fst.width x_1.fst.prec
 x_1.fst.kind →
 iteP (x.kind != (37 : Int))
 (iteP (inRange (0 : Int) (List.length l))
 (getI (0 : Nat) l =
 some
 [AV.sc (Value.int IntKind.i64 (cellInt l (0 : Int) (0 : Nat))),
 AV.sc (Value.int IntKind.i64 (cellInt l (0 : Int) (1 : Nat))),
 AV.sc (Value.string (ByteArray.mk (Array.mk (cellStr l (0 : Int) (2 : Nat)))))] ∧
 False ∧ True)
 False)
 (((-1000 : Int) ≤ x.width ∧
 x.width ≤ (1000 : Int) ∧
 (0 : Int) ≤ x.kind ∧
 x.kind ≤ (255 : Int) ∧ (0 : Nat) ≤ (1000000 : Nat) ∧ (1 : Nat) ≤ (1000000 : Nat)) ∧
 ∀ (x_2 : List UInt8),
 x_2 =
 padF (Dir.mk x.minus x.zero x.plus x.space x.width x.prec x.kind) []
 [(37 : UInt8)] →
 iteP
 ((List.map (fun (b : UInt8) => [AV.sc (Value.int IntKind.u8 (↑b.toNat : Int))])
 x_2).all
 fun (e : List AV) => e.all AV.one)
 (iteP
 (List.map (fun (b : UInt8) => [AV.sc (Value.int IntKind.u8 (↑b.toNat : Int))])
 x_2).isEmpty
 (IB x_1.snd.fst (AV.sl l (0 : Nat)) = IB x_1.snd.fst (AV.sl l (0 : Nat)) ∧
 NB x_1.snd.fst (AV.sl l (0 : Nat)))
 (iteP
 (fits
 (List.map (fun (b : UInt8) => [AV.sc (Value.int IntKind.u8 (↑b.toNat : Int))])
 x_2).length
 (1 : Nat))
 (IC x_1.snd.fst (AV.sl l (0 : Nat))
 (List.map
 (fun (b : UInt8) => [AV.sc (Value.int IntKind.u8 (↑b.toNat : Int))])
 x_2)
 (List.map
 (fun (b : UInt8) => [AV.sc (Value.int IntKind.u8 (↑b.toNat : Int))])
 x_2).length =
 IC x_1.snd.fst (AV.sl l (0 : Nat))
 (List.map
 (fun (b : UInt8) => [AV.sc (Value.int IntKind.u8 (↑b.toNat : Int))])
 x_2)
 (List.map
 (fun (b : UInt8) => [AV.sc (Value.int IntKind.u8 (↑b.toNat : Int))])
 x_2).length ∧
 NC x_1.snd.fst (AV.sl l (0 : Nat))
 (List.map
 (fun (b : UInt8) => [AV.sc (Value.int IntKind.u8 (↑b.toNat : Int))]) x_2)
 (List.map
 (fun (b : UInt8) => [AV.sc (Value.int IntKind.u8 (↑b.toNat : Int))])
 x_2).length)
 False))
 False))
 (iteP
 (fits (List.map (fun (b : UInt8) => [AV.sc (Value.int IntKind.u8 (↑b.toNat : Int))]) x.fst).length
 (1 : Nat))
 ((sC (AV.sl l (0 : Nat))
 (List.map (fun (b : UInt8) => [AV.sc (Value.int IntKind.u8 (↑b.toNat : Int))]) x.fst)
 (List.map (fun (b : UInt8) => [AV.sc (Value.int IntKind.u8 (↑b.toNat : Int))])
 x.fst).length =
 sC (AV.sl l (0 : Nat))
 (List.map (fun (b : UInt8) => [AV.sc (Value.int IntKind.u8 (↑b.toNat : Int))]) x.fst)
 (List.map (fun (b : UInt8) => [AV.sc (Value.int IntKind.u8 (↑b.toNat : Int))])
 x.fst).length ∧
 ((∃ (l_1 : List (List AV)), AV.sl l (0 : Nat) = AV.sl l_1 (0 : Nat)) ∨
 AV.sl l (0 : Nat) = AV.sc (Value.slice none (0 : Nat) (0 : Nat))) ∧
 (-1 : Int) ≤
 (Dir.mk x_1.fst.minus x_1.fst.zero x_1.fst.plus x_1.fst.space x_1.fst.width x_1.fst.prec
 x_1.fst.kind).width ∧
 (Dir.mk x_1.fst.minus x_1.fst.zero x_1.fst.plus x_1.fst.space x_1.fst.width x_1.fst.prec
 x_1.fst.kind).width ≤
 (255 : Int) ∧
 (-1 : Int) ≤
 (Dir.mk x_1.fst.minus x_1.fst.zero x_1.fst.plus x_1.fst.space x_1.fst.width
 x_1.fst.prec x_1.fst.kind).prec ∧
 (Dir.mk x_1.fst.minus x_1.fst.zero x_1.fst.plus x_1.fst.space x_1.fst.width
 x_1.fst.prec x_1.fst.kind).prec ≤
 (255 : Int) ∧
 ((Dir.mk x_1.fst.minus x_1.fst.zero x_1.fst.plus x_1.fst.space x_1.fst.width
 x_1.fst.prec x_1.fst.kind).kind =
 (37 : Int) ∨
 (1 : Nat) ≤ List.length l)) ∧
 ∀ (x_2 : Dir),
 x_2 =
 Dir.mk x_1.fst.minus x_1.fst.zero x_1.fst.plus x_1.fst.space x_1.fst.width x_1.fst.prec
 x_1.fst.kind →
 iteP (x_2.kind != (37 : Int))
 (iteP (inRange (0 : Int) (List.length l))
 (getI (0 : Nat) l =
 some
 [AV.sc (Value.int IntKind.i64 (cellInt l (0 : Int) (0 : Nat))),
 AV.sc (Value.int IntKind.i64 (cellInt l (0 : Int) (1 : Nat))),
 AV.sc
 (Value.string (ByteArray.mk (Array.mk (cellStr l (0 : Int) (2 : Nat)))))] ∧
 False ∧ True)
 False)
 (((-1000 : Int) ≤ x_2.width ∧
 x_2.width ≤ (1000 : Int) ∧
 (0 : Int) ≤ x_2.kind ∧
 x_2.kind ≤ (255 : Int) ∧
 (0 : Nat) ≤ (1000000 : Nat) ∧ (1 : Nat) ≤ (1000000 : Nat)) ∧
 ∀ (x_3 : List UInt8),
 x_3 =
 padF (Dir.mk x_2.minus x_2.zero x_2.plus x_2.space x_2.width x_2.prec x_2.kind) []
 [(37 : UInt8)] →
 iteP
 ((List.map (fun (b : UInt8) => [AV.sc (Value.int IntKind.u8 (↑b.toNat : Int))])
 x_3).all
 fun (e : List AV) => e.all AV.one)
 (iteP
 (List.map (fun (b : UInt8) => [AV.sc (Value.int IntKind.u8 (↑b.toNat : Int))])
 x_3).isEmpty
 (IC x_1.snd.fst (AV.sl l (0 : Nat))
 (List.map
 (fun (b : UInt8) => [AV.sc (Value.int IntKind.u8 (↑b.toNat : Int))])
 x.fst)
 (List.map
 (fun (b : UInt8) => [AV.sc (Value.int IntKind.u8 (↑b.toNat : Int))])
 x.fst).length =
 IC x_1.snd.fst (AV.sl l (0 : Nat))
 (List.map
 (fun (b : UInt8) => [AV.sc (Value.int IntKind.u8 (↑b.toNat : Int))])
 x.fst)
 (List.map
 (fun (b : UInt8) => [AV.sc (Value.int IntKind.u8 (↑b.toNat : Int))])
 x.fst).length ∧
 NC x_1.snd.fst (AV.sl l (0 : Nat))
 (List.map
 (fun (b : UInt8) => [AV.sc (Value.int IntKind.u8 (↑b.toNat : Int))])
 x.fst)
 (List.map
 (fun (b : UInt8) => [AV.sc (Value.int IntKind.u8 (↑b.toNat : Int))])
 x.fst).length)
 (iteP
 (allLen (1 : Nat)
 (List.map
 (fun (b : UInt8) => [AV.sc (Value.int IntKind.u8 (↑b.toNat : Int))])
 x.fst) &&
 fits
 ((List.map
 (fun (b : UInt8) => [AV.sc (Value.int IntKind.u8 (↑b.toNat : Int))])
 x.fst).length +
 (List.map
 (fun (b : UInt8) => [AV.sc (Value.int IntKind.u8 (↑b.toNat : Int))])
 x_3).length)
 (1 : Nat))
 (iteP
 (decide
 ((List.map
 (fun (b : UInt8) => [AV.sc (Value.int IntKind.u8 (↑b.toNat : Int))])
 x.fst).length =
 (List.map
 (fun (b : UInt8) => [AV.sc (Value.int IntKind.u8 (↑b.toNat : Int))])
 x.fst).length))
 (IC x_1.snd.fst (AV.sl l (0 : Nat))
 (List.map
 (fun (b : UInt8) =>
 [AV.sc (Value.int IntKind.u8 (↑b.toNat : Int))])
 x.fst ++
 List.map
 (fun (b : UInt8) =>
 [AV.sc (Value.int IntKind.u8 (↑b.toNat : Int))])
 x_3)
 ((List.map
 (fun (b : UInt8) =>
 [AV.sc (Value.int IntKind.u8 (↑b.toNat : Int))])
 x.fst).length +
 (List.map
 (fun (b : UInt8) =>
 [AV.sc (Value.int IntKind.u8 (↑b.toNat : Int))])
 x_3).length) =
 IC x_1.snd.fst (AV.sl l (0 : Nat))
 (List.map
 (fun (b : UInt8) =>
 [AV.sc (Value.int IntKind.u8 (↑b.toNat : Int))])
 x.fst ++
 List.map
 (fun (b : UInt8) =>
 [AV.sc (Value.int IntKind.u8 (↑b.toNat : Int))])
 x_3)
 ((List.map
 (fun (b : UInt8) =>
 [AV.sc (Value.int IntKind.u8 (↑b.toNat : Int))])
 x.fst).length +
 (List.map
 (fun (b : UInt8) =>
 [AV.sc (Value.int IntKind.u8 (↑b.toNat : Int))])
 x_3).length) ∧
 NC x_1.snd.fst (AV.sl l (0 : Nat))
 (List.map
 (fun (b : UInt8) => [AV.sc (Value.int IntKind.u8 (↑b.toNat : Int))])
 x.fst ++
 List.map
 (fun (b : UInt8) => [AV.sc (Value.int IntKind.u8 (↑b.toNat : Int))])
 x_3)
 ((List.map
 (fun (b : UInt8) =>
 [AV.sc (Value.int IntKind.u8 (↑b.toNat : Int))])
 x.fst).length +
 (List.map
 (fun (b : UInt8) =>
 [AV.sc (Value.int IntKind.u8 (↑b.toNat : Int))])
 x_3).length))
 False)
 False))
 False))
 False))
 False))
 (iteP
 ((List.map (fun (b : UInt8) => [AV.sc (Value.int IntKind.u8 (↑b.toNat : Int))]) x.fst).all
 fun (e : List AV) => e.all AV.one)
 (iteP (List.map (fun (b : UInt8) => [AV.sc (Value.int IntKind.u8 (↑b.toNat : Int))]) x.fst).isEmpty
 (JB (0 : Int) (AV.sl l (0 : Nat)) = JB (0 : Int) (AV.sl l (0 : Nat)) ∧ XB (0 : Int) (AV.sl l (0 : Nat)))
 (iteP
 (fits (List.map (fun (b : UInt8) => [AV.sc (Value.int IntKind.u8 (↑b.toNat : Int))]) x.fst).length
 (1 : Nat))
 (JC (0 : Int) (AV.sl l (0 : Nat))
 (List.map (fun (b : UInt8) => [AV.sc (Value.int IntKind.u8 (↑b.toNat : Int))]) x.fst)
 (List.map (fun (b : UInt8) => [AV.sc (Value.int IntKind.u8 (↑b.toNat : Int))]) x.fst).length =
 JC (0 : Int) (AV.sl l (0 : Nat))
 (List.map (fun (b : UInt8) => [AV.sc (Value.int IntKind.u8 (↑b.toNat : Int))]) x.fst)
 (List.map (fun (b : UInt8) => [AV.sc (Value.int IntKind.u8 (↑b.toNat : Int))]) x.fst).length ∧
 XC (0 : Int) (AV.sl l (0 : Nat))
 (List.map (fun (b : UInt8) => [AV.sc (Value.int IntKind.u8 (↑b.toNat : Int))]) x.fst)
 (List.map (fun (b : UInt8) => [AV.sc (Value.int IntKind.u8 (↑b.toNat : Int))]) x.fst).length)
 False))
 False)) :
 (fun (s : List UInt8) (l : Cells) (NB : List UInt8 → AV → Prop) (NC : List UInt8 → AV → Cells → Nat → Prop) (XA XB : Int → AV → Prop) (XC : Int → AV → Cells → Nat → Prop) => wpRound Y0 Door.cfg Tryd.prog 40 18 2 (IA s (.sl l 0)) (rN NB NC) (rX XA XB XC)) s l NB NC XA XB XC :=
 Eq.mp (by kernel_rfl) h

theorem vC (s : List UInt8) (l : Cells) (b : Cells) (n : Nat) (NB : List UInt8 → AV → Prop) (NC : List UInt8 → AV → Cells → Nat → Prop) (XA : Int → AV → Prop) (XB : Int → AV → Prop) (XC : Int → AV → Cells → Nat → Prop) (h :
 (s.length ≤ (1000000 : Nat) ∧ [(37 : UInt8)] = [(37 : UInt8)]) ∧
 ∀ (x : List UInt8 × List UInt8 × Bool),
 x = (before s, after s, hasPct s) →
 iteP x.snd.snd
 (x.snd.fst.length.le (1000000 : Nat) ∧
 ∀ (x_1 : Dir × List UInt8 × Int),
 x_1 = readF x.snd.fst →
 iteP (x_1.snd.snd != (0 : Int))
 (JC x_1.snd.snd (AV.sl l (0 : Nat)) b n = JC x_1.snd.snd (AV.sl l (0 : Nat)) b n ∧
 XC x_1.snd.snd (AV.sl l (0 : Nat)) b n)
 (iteP
 ((List.map (fun (b : UInt8) => [AV.sc (Value.int IntKind.u8 (↑b.toNat : Int))]) x.fst).all
 fun (e : List AV) => e.all AV.one)
 (iteP (List.map (fun (b : UInt8) => [AV.sc (Value.int IntKind.u8 (↑b.toNat : Int))]) x.fst).isEmpty
 ((sC (AV.sl l (0 : Nat)) b n = sC (AV.sl l (0 : Nat)) b n ∧
 ((∃ (l_1 : List (List AV)), AV.sl l (0 : Nat) = AV.sl l_1 (0 : Nat)) ∨
 AV.sl l (0 : Nat) = AV.sc (Value.slice none (0 : Nat) (0 : Nat))) ∧
 (-1 : Int) ≤
 (Dir.mk x_1.fst.minus x_1.fst.zero x_1.fst.plus x_1.fst.space x_1.fst.width x_1.fst.prec
 x_1.fst.kind).width ∧
 (Dir.mk x_1.fst.minus x_1.fst.zero x_1.fst.plus x_1.fst.space x_1.fst.width x_1.fst.prec
 x_1.fst.kind).width ≤
 (255 : Int) ∧
 (-1 : Int) ≤
 (Dir.mk x_1.fst.minus x_1.fst.zero x_1.fst.plus x_1.fst.space x_1.fst.width
 x_1.fst.prec x_1.fst.kind).prec ∧
 (Dir.mk x_1.fst.minus x_1.fst.zero x_1.fst.plus x_1.fst.space x_1.fst.width x_1.fst.prec
 x_1.fst.kind).prec ≤
 (255 : Int) ∧
 ((Dir.mk x_1.fst.minus x_1.fst.zero x_1.fst.plus x_1.fst.space x_1.fst.width
 x_1.fst.prec x_1.fst.kind).kind =
 (37 : Int) ∨
 (1 : Nat) ≤ List.length l)) ∧
 ∀ (x : Dir),
 x =
 Dir.mk x_1.fst.minus x_1.fst.zero x_1.fst.plus x_1.fst.space x_1.fst.width x_1.fst.prec
 x_1.fst.kind →
 iteP (x.kind != (37 : Int))
 (iteP (inRange (0 : Int) (List.length l))
 (getI (0 : Nat) l =
 some
 [AV.sc (Value.int IntKind.i64 (cellInt l (0 : Int) (0 : Nat))),
 AV.sc (Value.int IntKind.i64 (cellInt l (0 : Int) (1 : Nat))),
 AV.sc (Value.string (ByteArray.mk (Array.mk (cellStr l (0 : Int) (2 : Nat)))))] ∧
 False ∧ True)
 False)
 (((-1000 : Int) ≤ x.width ∧
 x.width ≤ (1000 : Int) ∧
 (0 : Int) ≤ x.kind ∧
 x.kind ≤ (255 : Int) ∧ (0 : Nat) ≤ (1000000 : Nat) ∧ (1 : Nat) ≤ (1000000 : Nat)) ∧
 ∀ (x_2 : List UInt8),
 x_2 =
 padF (Dir.mk x.minus x.zero x.plus x.space x.width x.prec x.kind) []
 [(37 : UInt8)] →
 iteP
 ((List.map (fun (b : UInt8) => [AV.sc (Value.int IntKind.u8 (↑b.toNat : Int))])
 x_2).all
 fun (e : List AV) => e.all AV.one)
 (iteP
 (List.map (fun (b : UInt8) => [AV.sc (Value.int IntKind.u8 (↑b.toNat : Int))])
 x_2).isEmpty
 (IC x_1.snd.fst (AV.sl l (0 : Nat)) b n = IC x_1.snd.fst (AV.sl l (0 : Nat)) b n ∧
 NC x_1.snd.fst (AV.sl l (0 : Nat)) b n)
 (iteP
 (allLen (1 : Nat) b &&
 fits
 (List.length b +
 (List.map
 (fun (b : UInt8) => [AV.sc (Value.int IntKind.u8 (↑b.toNat : Int))])
 x_2).length)
 (1 : Nat))
 (iteP (decide (List.length b = n))
 (IC x_1.snd.fst (AV.sl l (0 : Nat))
 (b ++
 List.map
 (fun (b : UInt8) => [AV.sc (Value.int IntKind.u8 (↑b.toNat : Int))])
 x_2)
 (n +
 (List.map
 (fun (b : UInt8) =>
 [AV.sc (Value.int IntKind.u8 (↑b.toNat : Int))])
 x_2).length) =
 IC x_1.snd.fst (AV.sl l (0 : Nat))
 (b ++
 List.map
 (fun (b : UInt8) => [AV.sc (Value.int IntKind.u8 (↑b.toNat : Int))])
 x_2)
 (n +
 (List.map
 (fun (b : UInt8) =>
 [AV.sc (Value.int IntKind.u8 (↑b.toNat : Int))])
 x_2).length) ∧
 NC x_1.snd.fst (AV.sl l (0 : Nat))
 (b ++
 List.map
 (fun (b : UInt8) => [AV.sc (Value.int IntKind.u8 (↑b.toNat : Int))])
 x_2)
 (n +
 (List.map
 (fun (b : UInt8) => [AV.sc (Value.int IntKind.u8 (↑b.toNat : Int))])
 x_2).length))
 False)
 False))
 False))
 (iteP
 (allLen (1 : Nat) b &&
 fits
 (List.length b +
 (List.map (fun (b : UInt8) => [AV.sc (Value.int IntKind.u8 (↑b.toNat : Int))])
 x.fst).length)
 (1 : Nat))
 (iteP (decide (List.length b = n))
 ((sC (AV.sl l (0 : Nat))
 (b ++
 List.map (fun (b : UInt8) => [AV.sc (Value.int IntKind.u8 (↑b.toNat : Int))]) x.fst)
 (n +
 (List.map (fun (b : UInt8) => [AV.sc (Value.int IntKind.u8 (↑b.toNat : Int))])
 x.fst).length) =
 sC (AV.sl l (0 : Nat))
 (b ++
 List.map (fun (b : UInt8) => [AV.sc (Value.int IntKind.u8 (↑b.toNat : Int))]) x.fst)
 (n +
 (List.map (fun (b : UInt8) => [AV.sc (Value.int IntKind.u8 (↑b.toNat : Int))])
 x.fst).length) ∧
 ((∃ (l_1 : List (List AV)), AV.sl l (0 : Nat) = AV.sl l_1 (0 : Nat)) ∨
 AV.sl l (0 : Nat) = AV.sc (Value.slice none (0 : Nat) (0 : Nat))) ∧
 (-1 : Int) ≤
 (Dir.mk x_1.fst.minus x_1.fst.zero x_1.fst.plus x_1.fst.space x_1.fst.width
 x_1.fst.prec x_1.fst.kind).width ∧
 (Dir.mk x_1.fst.minus x_1.fst.zero x_1.fst.plus x_1.fst.space x_1.fst.width x_1.fst.prec
 x_1.fst.kind).width ≤
 (255 : Int) ∧
 (-1 : Int) ≤
 (Dir.mk x_1.fst.minus x_1.fst.zero x_1.fst.plus x_1.fst.space x_1.fst.width
 x_1.fst.prec x_1.fst.kind).prec ∧
 (Dir.mk x_1.fst.minus x_1.fst.zero x_1.fst.plus x_1.fst.space x_1.fst.width
 x_1.fst.prec x_1.fst.kind).prec ≤
 (255 : Int) ∧
 ((Dir.mk x_1.fst.minus x_1.fst.zero x_1.fst.plus x_1.fst.space x_1.fst.width
 x_1.fst.prec x_1.fst.kind).kind =
 (37 : Int) ∨
 (1 : Nat) ≤ List.length l)) ∧
 ∀ (x_2 : Dir),
 x_2 =
 Dir.mk x_1.fst.minus x_1.fst.zero x_1.fst.plus x_1.fst.space x_1.fst.width x_1.fst.prec
 x_1.fst.kind →
 iteP (x_2.kind != (37 : Int))
 (iteP (inRange (0 : Int) (List.length l))
 (getI (0 : Nat) l =
 some
 [AV.sc (Value.int IntKind.i64 (cellInt l (0 : Int) (0 : Nat))),
 AV.sc (Value.int IntKind.i64 (cellInt l (0 : Int) (1 : Nat))),
 AV.sc
 (Value.string (ByteArray.mk (Array.mk (cellStr l (0 : Int) (2 : Nat)))))] ∧
 False ∧ True)
 False)
 (((-1000 : Int) ≤ x_2.width ∧
 x_2.width ≤ (1000 : Int) ∧
 (0 : Int) ≤ x_2.kind ∧
 x_2.kind ≤ (255 : Int) ∧
 (0 : Nat) ≤ (1000000 : Nat) ∧ (1 : Nat) ≤ (1000000 : Nat)) ∧
 ∀ (x_3 : List UInt8),
 x_3 =
 padF (Dir.mk x_2.minus x_2.zero x_2.plus x_2.space x_2.width x_2.prec x_2.kind)
 [] [(37 : UInt8)] →
 iteP
 ((List.map (fun (b : UInt8) => [AV.sc (Value.int IntKind.u8 (↑b.toNat : Int))])
 x_3).all
 fun (e : List AV) => e.all AV.one)
 (iteP
 (List.map (fun (b : UInt8) => [AV.sc (Value.int IntKind.u8 (↑b.toNat : Int))])
 x_3).isEmpty
 (IC x_1.snd.fst (AV.sl l (0 : Nat))
 (b ++
 List.map
 (fun (b : UInt8) => [AV.sc (Value.int IntKind.u8 (↑b.toNat : Int))])
 x.fst)
 (n +
 (List.map
 (fun (b : UInt8) =>
 [AV.sc (Value.int IntKind.u8 (↑b.toNat : Int))])
 x.fst).length) =
 IC x_1.snd.fst (AV.sl l (0 : Nat))
 (b ++
 List.map
 (fun (b : UInt8) => [AV.sc (Value.int IntKind.u8 (↑b.toNat : Int))])
 x.fst)
 (n +
 (List.map
 (fun (b : UInt8) =>
 [AV.sc (Value.int IntKind.u8 (↑b.toNat : Int))])
 x.fst).length) ∧
 NC x_1.snd.fst (AV.sl l (0 : Nat))
 (b ++
 List.map
 (fun (b : UInt8) => [AV.sc (Value.int IntKind.u8 (↑b.toNat : Int))])
 x.fst)
 (n +
 (List.map
 (fun (b : UInt8) => [AV.sc (Value.int IntKind.u8 (↑b.toNat : Int))])
 x.fst).length))
 (iteP
 (allLen (1 : Nat)
 (b ++
 List.map
 (fun (b : UInt8) => [AV.sc (Value.int IntKind.u8 (↑b.toNat : Int))])
 x.fst) &&
 fits
 ((b ++
 List.map
 (fun (b : UInt8) =>
 [AV.sc (Value.int IntKind.u8 (↑b.toNat : Int))])
 x.fst).length +
 (List.map
 (fun (b : UInt8) =>
 [AV.sc (Value.int IntKind.u8 (↑b.toNat : Int))])
 x_3).length)
 (1 : Nat))
 (iteP
 (decide
 ((b ++
 List.map
 (fun (b : UInt8) =>
 [AV.sc (Value.int IntKind.u8 (↑b.toNat : Int))])
 x.fst).length =
 n +
 (List.map
 (fun (b : UInt8) =>
 [AV.sc (Value.int IntKind.u8 (↑b.toNat : Int))])
 x.fst).length))
 (IC x_1.snd.fst (AV.sl l (0 : Nat))
 (b ++
 List.map
 (fun (b : UInt8) =>
 [AV.sc (Value.int IntKind.u8 (↑b.toNat : Int))])
 x.fst ++
 List.map
 (fun (b : UInt8) =>
 [AV.sc (Value.int IntKind.u8 (↑b.toNat : Int))])
 x_3)
 (n +
 (List.map
 (fun (b : UInt8) =>
 [AV.sc (Value.int IntKind.u8 (↑b.toNat : Int))])
 x.fst).length +
 (List.map
 (fun (b : UInt8) =>
 [AV.sc (Value.int IntKind.u8 (↑b.toNat : Int))])
 x_3).length) =
 IC x_1.snd.fst (AV.sl l (0 : Nat))
 (b ++
 List.map
 (fun (b : UInt8) =>
 [AV.sc (Value.int IntKind.u8 (↑b.toNat : Int))])
 x.fst ++
 List.map
 (fun (b : UInt8) =>
 [AV.sc (Value.int IntKind.u8 (↑b.toNat : Int))])
 x_3)
 (n +
 (List.map
 (fun (b : UInt8) =>
 [AV.sc (Value.int IntKind.u8 (↑b.toNat : Int))])
 x.fst).length +
 (List.map
 (fun (b : UInt8) =>
 [AV.sc (Value.int IntKind.u8 (↑b.toNat : Int))])
 x_3).length) ∧
 NC x_1.snd.fst (AV.sl l (0 : Nat))
 (b ++
 List.map
 (fun (b : UInt8) =>
 [AV.sc (Value.int IntKind.u8 (↑b.toNat : Int))])
 x.fst ++
 List.map
 (fun (b : UInt8) =>
 [AV.sc (Value.int IntKind.u8 (↑b.toNat : Int))])
 x_3)
 (n +
 (List.map
 (fun (b : UInt8) =>
 [AV.sc (Value.int IntKind.u8 (↑b.toNat : Int))])
 x.fst).length +
 (List.map
 (fun (b : UInt8) =>
 [AV.sc (Value.int IntKind.u8 (↑b.toNat : Int))])
 x_3).length))
 False)
 False))
 False))
 False)
 False))
 False))
 (iteP
 ((List.map (fun (b : UInt8) => [AV.sc (Value.int IntKind.u8 (↑b.toNat : Int))]) x.fst).all
 fun (e : List AV) => e.all AV.one)
 (iteP (List.map (fun (b : UInt8) => [AV.sc (Value.int IntKind.u8 (↑b.toNat : Int))]) x.fst).isEmpty
 (JC (0 : Int) (AV.sl l (0 : Nat)) b n = JC (0 : Int) (AV.sl l (0 : Nat)) b n ∧
 XC (0 : Int) (AV.sl l (0 : Nat)) b n)
 (iteP
 (allLen (1 : Nat) b &&
 fits
 (List.length b +
 (List.map (fun (b : UInt8) => [AV.sc (Value.int IntKind.u8 (↑b.toNat : Int))]) x.fst).length)
 (1 : Nat))
 (iteP (decide (List.length b = n))
 (JC (0 : Int) (AV.sl l (0 : Nat))
 (b ++ List.map (fun (b : UInt8) => [AV.sc (Value.int IntKind.u8 (↑b.toNat : Int))]) x.fst)
 (n +
 (List.map (fun (b : UInt8) => [AV.sc (Value.int IntKind.u8 (↑b.toNat : Int))]) x.fst).length) =
 JC (0 : Int) (AV.sl l (0 : Nat))
 (b ++ List.map (fun (b : UInt8) => [AV.sc (Value.int IntKind.u8 (↑b.toNat : Int))]) x.fst)
 (n +
 (List.map (fun (b : UInt8) => [AV.sc (Value.int IntKind.u8 (↑b.toNat : Int))]) x.fst).length) ∧
 XC (0 : Int) (AV.sl l (0 : Nat))
 (b ++ List.map (fun (b : UInt8) => [AV.sc (Value.int IntKind.u8 (↑b.toNat : Int))]) x.fst)
 (n + (List.map (fun (b : UInt8) => [AV.sc (Value.int IntKind.u8 (↑b.toNat : Int))]) x.fst).length))
 False)
 False))
 False)) :
 (fun (s : List UInt8) (l b : Cells) (n : Nat) (NB : List UInt8 → AV → Prop) (NC : List UInt8 → AV → Cells → Nat → Prop) (XA XB : Int → AV → Prop) (XC : Int → AV → Cells → Nat → Prop) => wpRound Y0 Door.cfg Tryd.prog 40 18 2 (IC s (.sl l 0) b n) (rN NB NC) (rX XA XB XC)) s l b n NB NC XA XB XC :=
 Eq.mp (by kernel_rfl) h

theorem vAn (s : List UInt8) (NB : List UInt8 → AV → Prop) (NC : List UInt8 → AV → Cells → Nat → Prop) (XA : Int → AV → Prop) (XB : Int → AV → Prop) (XC : Int → AV → Cells → Nat → Prop) (h :
 (s.length ≤ (1000000 : Nat) ∧ [(37 : UInt8)] = [(37 : UInt8)]) ∧
 ∀ (x : List UInt8 × List UInt8 × Bool),
 x = (before s, after s, hasPct s) →
 iteP x.snd.snd
 (x.snd.fst.length.le (1000000 : Nat) ∧
 ∀ (x_1 : Dir × List UInt8 × Int),
 x_1 = readF x.snd.fst →
 iteP (x_1.snd.snd != (0 : Int))
 (JA x_1.snd.snd (AV.sc (Value.slice none (0 : Nat) (0 : Nat))) =
 JA x_1.snd.snd (AV.sc (Value.slice none (0 : Nat) (0 : Nat))) ∧
 XA x_1.snd.snd (AV.sc (Value.slice none (0 : Nat) (0 : Nat))))
 (iteP
 ((List.map (fun (b : UInt8) => [AV.sc (Value.int IntKind.u8 (↑b.toNat : Int))]) x.fst).all
 fun (e : List AV) => e.all AV.one)
 (iteP (List.map (fun (b : UInt8) => [AV.sc (Value.int IntKind.u8 (↑b.toNat : Int))]) x.fst).isEmpty
 ((sB (AV.sc (Value.slice none (0 : Nat) (0 : Nat))) =
 sB (AV.sc (Value.slice none (0 : Nat) (0 : Nat))) ∧
 ((∃ (l : List (List AV)), AV.sc (Value.slice none (0 : Nat) (0 : Nat)) = AV.sl l (0 : Nat)) ∨
 AV.sc (Value.slice none (0 : Nat) (0 : Nat)) =
 AV.sc (Value.slice none (0 : Nat) (0 : Nat))) ∧
 (-1 : Int) ≤
 (Dir.mk x_1.fst.minus x_1.fst.zero x_1.fst.plus x_1.fst.space x_1.fst.width x_1.fst.prec
 x_1.fst.kind).width ∧
 (Dir.mk x_1.fst.minus x_1.fst.zero x_1.fst.plus x_1.fst.space x_1.fst.width x_1.fst.prec
 x_1.fst.kind).width ≤
 (255 : Int) ∧
 (-1 : Int) ≤
 (Dir.mk x_1.fst.minus x_1.fst.zero x_1.fst.plus x_1.fst.space x_1.fst.width
 x_1.fst.prec x_1.fst.kind).prec ∧
 (Dir.mk x_1.fst.minus x_1.fst.zero x_1.fst.plus x_1.fst.space x_1.fst.width x_1.fst.prec
 x_1.fst.kind).prec ≤
 (255 : Int) ∧
 ((Dir.mk x_1.fst.minus x_1.fst.zero x_1.fst.plus x_1.fst.space x_1.fst.width
 x_1.fst.prec x_1.fst.kind).kind =
 (37 : Int) ∨
 (1 : Nat) ≤ ([] : List Nat).length)) ∧
 ∀ (x : Dir),
 x =
 Dir.mk x_1.fst.minus x_1.fst.zero x_1.fst.plus x_1.fst.space x_1.fst.width x_1.fst.prec
 x_1.fst.kind →
 iteP (x.kind != (37 : Int)) False
 (((-1000 : Int) ≤ x.width ∧
 x.width ≤ (1000 : Int) ∧
 (0 : Int) ≤ x.kind ∧
 x.kind ≤ (255 : Int) ∧ (0 : Nat) ≤ (1000000 : Nat) ∧ (1 : Nat) ≤ (1000000 : Nat)) ∧
 ∀ (x_2 : List UInt8),
 x_2 =
 padF (Dir.mk x.minus x.zero x.plus x.space x.width x.prec x.kind) []
 [(37 : UInt8)] →
 iteP
 ((List.map (fun (b : UInt8) => [AV.sc (Value.int IntKind.u8 (↑b.toNat : Int))])
 x_2).all
 fun (e : List AV) => e.all AV.one)
 (iteP
 (List.map (fun (b : UInt8) => [AV.sc (Value.int IntKind.u8 (↑b.toNat : Int))])
 x_2).isEmpty
 (IB x_1.snd.fst (AV.sc (Value.slice none (0 : Nat) (0 : Nat))) =
 IB x_1.snd.fst (AV.sc (Value.slice none (0 : Nat) (0 : Nat))) ∧
 NB x_1.snd.fst (AV.sc (Value.slice none (0 : Nat) (0 : Nat))))
 (iteP
 (fits
 (List.map (fun (b : UInt8) => [AV.sc (Value.int IntKind.u8 (↑b.toNat : Int))])
 x_2).length
 (1 : Nat))
 (IC x_1.snd.fst (AV.sc (Value.slice none (0 : Nat) (0 : Nat)))
 (List.map
 (fun (b : UInt8) => [AV.sc (Value.int IntKind.u8 (↑b.toNat : Int))])
 x_2)
 (List.map
 (fun (b : UInt8) => [AV.sc (Value.int IntKind.u8 (↑b.toNat : Int))])
 x_2).length =
 IC x_1.snd.fst (AV.sc (Value.slice none (0 : Nat) (0 : Nat)))
 (List.map
 (fun (b : UInt8) => [AV.sc (Value.int IntKind.u8 (↑b.toNat : Int))])
 x_2)
 (List.map
 (fun (b : UInt8) => [AV.sc (Value.int IntKind.u8 (↑b.toNat : Int))])
 x_2).length ∧
 NC x_1.snd.fst (AV.sc (Value.slice none (0 : Nat) (0 : Nat)))
 (List.map
 (fun (b : UInt8) => [AV.sc (Value.int IntKind.u8 (↑b.toNat : Int))]) x_2)
 (List.map
 (fun (b : UInt8) => [AV.sc (Value.int IntKind.u8 (↑b.toNat : Int))])
 x_2).length)
 False))
 False))
 (iteP
 (fits (List.map (fun (b : UInt8) => [AV.sc (Value.int IntKind.u8 (↑b.toNat : Int))]) x.fst).length
 (1 : Nat))
 ((sC (AV.sc (Value.slice none (0 : Nat) (0 : Nat)))
 (List.map (fun (b : UInt8) => [AV.sc (Value.int IntKind.u8 (↑b.toNat : Int))]) x.fst)
 (List.map (fun (b : UInt8) => [AV.sc (Value.int IntKind.u8 (↑b.toNat : Int))])
 x.fst).length =
 sC (AV.sc (Value.slice none (0 : Nat) (0 : Nat)))
 (List.map (fun (b : UInt8) => [AV.sc (Value.int IntKind.u8 (↑b.toNat : Int))]) x.fst)
 (List.map (fun (b : UInt8) => [AV.sc (Value.int IntKind.u8 (↑b.toNat : Int))])
 x.fst).length ∧
 ((∃ (l : List (List AV)), AV.sc (Value.slice none (0 : Nat) (0 : Nat)) = AV.sl l (0 : Nat)) ∨
 AV.sc (Value.slice none (0 : Nat) (0 : Nat)) =
 AV.sc (Value.slice none (0 : Nat) (0 : Nat))) ∧
 (-1 : Int) ≤
 (Dir.mk x_1.fst.minus x_1.fst.zero x_1.fst.plus x_1.fst.space x_1.fst.width x_1.fst.prec
 x_1.fst.kind).width ∧
 (Dir.mk x_1.fst.minus x_1.fst.zero x_1.fst.plus x_1.fst.space x_1.fst.width x_1.fst.prec
 x_1.fst.kind).width ≤
 (255 : Int) ∧
 (-1 : Int) ≤
 (Dir.mk x_1.fst.minus x_1.fst.zero x_1.fst.plus x_1.fst.space x_1.fst.width
 x_1.fst.prec x_1.fst.kind).prec ∧
 (Dir.mk x_1.fst.minus x_1.fst.zero x_1.fst.plus x_1.fst.space x_1.fst.width
 x_1.fst.prec x_1.fst.kind).prec ≤
 (255 : Int) ∧
 ((Dir.mk x_1.fst.minus x_1.fst.zero x_1.fst.plus x_1.fst.space x_1.fst.width
 x_1.fst.prec x_1.fst.kind).kind =
 (37 : Int) ∨
 (1 : Nat) ≤ ([] : List Nat).length)) ∧
 ∀ (x_2 : Dir),
 x_2 =
 Dir.mk x_1.fst.minus x_1.fst.zero x_1.fst.plus x_1.fst.space x_1.fst.width x_1.fst.prec
 x_1.fst.kind →
 iteP (x_2.kind != (37 : Int)) False
 (((-1000 : Int) ≤ x_2.width ∧
 x_2.width ≤ (1000 : Int) ∧
 (0 : Int) ≤ x_2.kind ∧
 x_2.kind ≤ (255 : Int) ∧
 (0 : Nat) ≤ (1000000 : Nat) ∧ (1 : Nat) ≤ (1000000 : Nat)) ∧
 ∀ (x_3 : List UInt8),
 x_3 =
 padF (Dir.mk x_2.minus x_2.zero x_2.plus x_2.space x_2.width x_2.prec x_2.kind) []
 [(37 : UInt8)] →
 iteP
 ((List.map (fun (b : UInt8) => [AV.sc (Value.int IntKind.u8 (↑b.toNat : Int))])
 x_3).all
 fun (e : List AV) => e.all AV.one)
 (iteP
 (List.map (fun (b : UInt8) => [AV.sc (Value.int IntKind.u8 (↑b.toNat : Int))])
 x_3).isEmpty
 (IC x_1.snd.fst (AV.sc (Value.slice none (0 : Nat) (0 : Nat)))
 (List.map
 (fun (b : UInt8) => [AV.sc (Value.int IntKind.u8 (↑b.toNat : Int))])
 x.fst)
 (List.map
 (fun (b : UInt8) => [AV.sc (Value.int IntKind.u8 (↑b.toNat : Int))])
 x.fst).length =
 IC x_1.snd.fst (AV.sc (Value.slice none (0 : Nat) (0 : Nat)))
 (List.map
 (fun (b : UInt8) => [AV.sc (Value.int IntKind.u8 (↑b.toNat : Int))])
 x.fst)
 (List.map
 (fun (b : UInt8) => [AV.sc (Value.int IntKind.u8 (↑b.toNat : Int))])
 x.fst).length ∧
 NC x_1.snd.fst (AV.sc (Value.slice none (0 : Nat) (0 : Nat)))
 (List.map
 (fun (b : UInt8) => [AV.sc (Value.int IntKind.u8 (↑b.toNat : Int))])
 x.fst)
 (List.map
 (fun (b : UInt8) => [AV.sc (Value.int IntKind.u8 (↑b.toNat : Int))])
 x.fst).length)
 (iteP
 (allLen (1 : Nat)
 (List.map
 (fun (b : UInt8) => [AV.sc (Value.int IntKind.u8 (↑b.toNat : Int))])
 x.fst) &&
 fits
 ((List.map
 (fun (b : UInt8) => [AV.sc (Value.int IntKind.u8 (↑b.toNat : Int))])
 x.fst).length +
 (List.map
 (fun (b : UInt8) => [AV.sc (Value.int IntKind.u8 (↑b.toNat : Int))])
 x_3).length)
 (1 : Nat))
 (iteP
 (decide
 ((List.map
 (fun (b : UInt8) => [AV.sc (Value.int IntKind.u8 (↑b.toNat : Int))])
 x.fst).length =
 (List.map
 (fun (b : UInt8) => [AV.sc (Value.int IntKind.u8 (↑b.toNat : Int))])
 x.fst).length))
 (IC x_1.snd.fst (AV.sc (Value.slice none (0 : Nat) (0 : Nat)))
 (List.map
 (fun (b : UInt8) =>
 [AV.sc (Value.int IntKind.u8 (↑b.toNat : Int))])
 x.fst ++
 List.map
 (fun (b : UInt8) =>
 [AV.sc (Value.int IntKind.u8 (↑b.toNat : Int))])
 x_3)
 ((List.map
 (fun (b : UInt8) =>
 [AV.sc (Value.int IntKind.u8 (↑b.toNat : Int))])
 x.fst).length +
 (List.map
 (fun (b : UInt8) =>
 [AV.sc (Value.int IntKind.u8 (↑b.toNat : Int))])
 x_3).length) =
 IC x_1.snd.fst (AV.sc (Value.slice none (0 : Nat) (0 : Nat)))
 (List.map
 (fun (b : UInt8) =>
 [AV.sc (Value.int IntKind.u8 (↑b.toNat : Int))])
 x.fst ++
 List.map
 (fun (b : UInt8) =>
 [AV.sc (Value.int IntKind.u8 (↑b.toNat : Int))])
 x_3)
 ((List.map
 (fun (b : UInt8) =>
 [AV.sc (Value.int IntKind.u8 (↑b.toNat : Int))])
 x.fst).length +
 (List.map
 (fun (b : UInt8) =>
 [AV.sc (Value.int IntKind.u8 (↑b.toNat : Int))])
 x_3).length) ∧
 NC x_1.snd.fst (AV.sc (Value.slice none (0 : Nat) (0 : Nat)))
 (List.map
 (fun (b : UInt8) => [AV.sc (Value.int IntKind.u8 (↑b.toNat : Int))])
 x.fst ++
 List.map
 (fun (b : UInt8) => [AV.sc (Value.int IntKind.u8 (↑b.toNat : Int))])
 x_3)
 ((List.map
 (fun (b : UInt8) =>
 [AV.sc (Value.int IntKind.u8 (↑b.toNat : Int))])
 x.fst).length +
 (List.map
 (fun (b : UInt8) =>
 [AV.sc (Value.int IntKind.u8 (↑b.toNat : Int))])
 x_3).length))
 False)
 False))
 False))
 False))
 False))
 (iteP
 ((List.map (fun (b : UInt8) => [AV.sc (Value.int IntKind.u8 (↑b.toNat : Int))]) x.fst).all
 fun (e : List AV) => e.all AV.one)
 (iteP (List.map (fun (b : UInt8) => [AV.sc (Value.int IntKind.u8 (↑b.toNat : Int))]) x.fst).isEmpty
 (JB (0 : Int) (AV.sc (Value.slice none (0 : Nat) (0 : Nat))) =
 JB (0 : Int) (AV.sc (Value.slice none (0 : Nat) (0 : Nat))) ∧
 XB (0 : Int) (AV.sc (Value.slice none (0 : Nat) (0 : Nat))))
 (iteP
 (fits (List.map (fun (b : UInt8) => [AV.sc (Value.int IntKind.u8 (↑b.toNat : Int))]) x.fst).length
 (1 : Nat))
 (JC (0 : Int) (AV.sc (Value.slice none (0 : Nat) (0 : Nat)))
 (List.map (fun (b : UInt8) => [AV.sc (Value.int IntKind.u8 (↑b.toNat : Int))]) x.fst)
 (List.map (fun (b : UInt8) => [AV.sc (Value.int IntKind.u8 (↑b.toNat : Int))]) x.fst).length =
 JC (0 : Int) (AV.sc (Value.slice none (0 : Nat) (0 : Nat)))
 (List.map (fun (b : UInt8) => [AV.sc (Value.int IntKind.u8 (↑b.toNat : Int))]) x.fst)
 (List.map (fun (b : UInt8) => [AV.sc (Value.int IntKind.u8 (↑b.toNat : Int))]) x.fst).length ∧
 XC (0 : Int) (AV.sc (Value.slice none (0 : Nat) (0 : Nat)))
 (List.map (fun (b : UInt8) => [AV.sc (Value.int IntKind.u8 (↑b.toNat : Int))]) x.fst)
 (List.map (fun (b : UInt8) => [AV.sc (Value.int IntKind.u8 (↑b.toNat : Int))]) x.fst).length)
 False))
 False)) :
 (fun (s : List UInt8) (NB : List UInt8 → AV → Prop) (NC : List UInt8 → AV → Cells → Nat → Prop) (XA XB : Int → AV → Prop) (XC : Int → AV → Cells → Nat → Prop) => wpRound Y0 Door.cfg Tryd.prog 40 18 2 (IA s nilA) (rN NB NC) (rX XA XB XC)) s NB NC XA XB XC :=
 Eq.mp (by kernel_rfl) h

theorem vCn (s : List UInt8) (b : Cells) (n : Nat) (NB : List UInt8 → AV → Prop) (NC : List UInt8 → AV → Cells → Nat → Prop) (XA : Int → AV → Prop) (XB : Int → AV → Prop) (XC : Int → AV → Cells → Nat → Prop) (h :
 (s.length ≤ (1000000 : Nat) ∧ [(37 : UInt8)] = [(37 : UInt8)]) ∧
 ∀ (x : List UInt8 × List UInt8 × Bool),
 x = (before s, after s, hasPct s) →
 iteP x.snd.snd
 (x.snd.fst.length.le (1000000 : Nat) ∧
 ∀ (x_1 : Dir × List UInt8 × Int),
 x_1 = readF x.snd.fst →
 iteP (x_1.snd.snd != (0 : Int))
 (JC x_1.snd.snd (AV.sc (Value.slice none (0 : Nat) (0 : Nat))) b n =
 JC x_1.snd.snd (AV.sc (Value.slice none (0 : Nat) (0 : Nat))) b n ∧
 XC x_1.snd.snd (AV.sc (Value.slice none (0 : Nat) (0 : Nat))) b n)
 (iteP
 ((List.map (fun (b : UInt8) => [AV.sc (Value.int IntKind.u8 (↑b.toNat : Int))]) x.fst).all
 fun (e : List AV) => e.all AV.one)
 (iteP (List.map (fun (b : UInt8) => [AV.sc (Value.int IntKind.u8 (↑b.toNat : Int))]) x.fst).isEmpty
 ((sC (AV.sc (Value.slice none (0 : Nat) (0 : Nat))) b n =
 sC (AV.sc (Value.slice none (0 : Nat) (0 : Nat))) b n ∧
 ((∃ (l : List (List AV)), AV.sc (Value.slice none (0 : Nat) (0 : Nat)) = AV.sl l (0 : Nat)) ∨
 AV.sc (Value.slice none (0 : Nat) (0 : Nat)) =
 AV.sc (Value.slice none (0 : Nat) (0 : Nat))) ∧
 (-1 : Int) ≤
 (Dir.mk x_1.fst.minus x_1.fst.zero x_1.fst.plus x_1.fst.space x_1.fst.width x_1.fst.prec
 x_1.fst.kind).width ∧
 (Dir.mk x_1.fst.minus x_1.fst.zero x_1.fst.plus x_1.fst.space x_1.fst.width x_1.fst.prec
 x_1.fst.kind).width ≤
 (255 : Int) ∧
 (-1 : Int) ≤
 (Dir.mk x_1.fst.minus x_1.fst.zero x_1.fst.plus x_1.fst.space x_1.fst.width
 x_1.fst.prec x_1.fst.kind).prec ∧
 (Dir.mk x_1.fst.minus x_1.fst.zero x_1.fst.plus x_1.fst.space x_1.fst.width x_1.fst.prec
 x_1.fst.kind).prec ≤
 (255 : Int) ∧
 ((Dir.mk x_1.fst.minus x_1.fst.zero x_1.fst.plus x_1.fst.space x_1.fst.width
 x_1.fst.prec x_1.fst.kind).kind =
 (37 : Int) ∨
 (1 : Nat) ≤ ([] : List Nat).length)) ∧
 ∀ (x : Dir),
 x =
 Dir.mk x_1.fst.minus x_1.fst.zero x_1.fst.plus x_1.fst.space x_1.fst.width x_1.fst.prec
 x_1.fst.kind →
 iteP (x.kind != (37 : Int)) False
 (((-1000 : Int) ≤ x.width ∧
 x.width ≤ (1000 : Int) ∧
 (0 : Int) ≤ x.kind ∧
 x.kind ≤ (255 : Int) ∧ (0 : Nat) ≤ (1000000 : Nat) ∧ (1 : Nat) ≤ (1000000 : Nat)) ∧
 ∀ (x_2 : List UInt8),
 x_2 =
 padF (Dir.mk x.minus x.zero x.plus x.space x.width x.prec x.kind) []
 [(37 : UInt8)] →
 iteP
 ((List.map (fun (b : UInt8) => [AV.sc (Value.int IntKind.u8 (↑b.toNat : Int))])
 x_2).all
 fun (e : List AV) => e.all AV.one)
 (iteP
 (List.map (fun (b : UInt8) => [AV.sc (Value.int IntKind.u8 (↑b.toNat : Int))])
 x_2).isEmpty
 (IC x_1.snd.fst (AV.sc (Value.slice none (0 : Nat) (0 : Nat))) b n =
 IC x_1.snd.fst (AV.sc (Value.slice none (0 : Nat) (0 : Nat))) b n ∧
 NC x_1.snd.fst (AV.sc (Value.slice none (0 : Nat) (0 : Nat))) b n)
 (iteP
 (allLen (1 : Nat) b &&
 fits
 (List.length b +
 (List.map
 (fun (b : UInt8) => [AV.sc (Value.int IntKind.u8 (↑b.toNat : Int))])
 x_2).length)
 (1 : Nat))
 (iteP (decide (List.length b = n))
 (IC x_1.snd.fst (AV.sc (Value.slice none (0 : Nat) (0 : Nat)))
 (b ++
 List.map
 (fun (b : UInt8) => [AV.sc (Value.int IntKind.u8 (↑b.toNat : Int))])
 x_2)
 (n +
 (List.map
 (fun (b : UInt8) =>
 [AV.sc (Value.int IntKind.u8 (↑b.toNat : Int))])
 x_2).length) =
 IC x_1.snd.fst (AV.sc (Value.slice none (0 : Nat) (0 : Nat)))
 (b ++
 List.map
 (fun (b : UInt8) => [AV.sc (Value.int IntKind.u8 (↑b.toNat : Int))])
 x_2)
 (n +
 (List.map
 (fun (b : UInt8) =>
 [AV.sc (Value.int IntKind.u8 (↑b.toNat : Int))])
 x_2).length) ∧
 NC x_1.snd.fst (AV.sc (Value.slice none (0 : Nat) (0 : Nat)))
 (b ++
 List.map
 (fun (b : UInt8) => [AV.sc (Value.int IntKind.u8 (↑b.toNat : Int))])
 x_2)
 (n +
 (List.map
 (fun (b : UInt8) => [AV.sc (Value.int IntKind.u8 (↑b.toNat : Int))])
 x_2).length))
 False)
 False))
 False))
 (iteP
 (allLen (1 : Nat) b &&
 fits
 (List.length b +
 (List.map (fun (b : UInt8) => [AV.sc (Value.int IntKind.u8 (↑b.toNat : Int))])
 x.fst).length)
 (1 : Nat))
 (iteP (decide (List.length b = n))
 ((sC (AV.sc (Value.slice none (0 : Nat) (0 : Nat)))
 (b ++
 List.map (fun (b : UInt8) => [AV.sc (Value.int IntKind.u8 (↑b.toNat : Int))]) x.fst)
 (n +
 (List.map (fun (b : UInt8) => [AV.sc (Value.int IntKind.u8 (↑b.toNat : Int))])
 x.fst).length) =
 sC (AV.sc (Value.slice none (0 : Nat) (0 : Nat)))
 (b ++
 List.map (fun (b : UInt8) => [AV.sc (Value.int IntKind.u8 (↑b.toNat : Int))]) x.fst)
 (n +
 (List.map (fun (b : UInt8) => [AV.sc (Value.int IntKind.u8 (↑b.toNat : Int))])
 x.fst).length) ∧
 ((∃ (l : List (List AV)),
 AV.sc (Value.slice none (0 : Nat) (0 : Nat)) = AV.sl l (0 : Nat)) ∨
 AV.sc (Value.slice none (0 : Nat) (0 : Nat)) =
 AV.sc (Value.slice none (0 : Nat) (0 : Nat))) ∧
 (-1 : Int) ≤
 (Dir.mk x_1.fst.minus x_1.fst.zero x_1.fst.plus x_1.fst.space x_1.fst.width
 x_1.fst.prec x_1.fst.kind).width ∧
 (Dir.mk x_1.fst.minus x_1.fst.zero x_1.fst.plus x_1.fst.space x_1.fst.width x_1.fst.prec
 x_1.fst.kind).width ≤
 (255 : Int) ∧
 (-1 : Int) ≤
 (Dir.mk x_1.fst.minus x_1.fst.zero x_1.fst.plus x_1.fst.space x_1.fst.width
 x_1.fst.prec x_1.fst.kind).prec ∧
 (Dir.mk x_1.fst.minus x_1.fst.zero x_1.fst.plus x_1.fst.space x_1.fst.width
 x_1.fst.prec x_1.fst.kind).prec ≤
 (255 : Int) ∧
 ((Dir.mk x_1.fst.minus x_1.fst.zero x_1.fst.plus x_1.fst.space x_1.fst.width
 x_1.fst.prec x_1.fst.kind).kind =
 (37 : Int) ∨
 (1 : Nat) ≤ ([] : List Nat).length)) ∧
 ∀ (x_2 : Dir),
 x_2 =
 Dir.mk x_1.fst.minus x_1.fst.zero x_1.fst.plus x_1.fst.space x_1.fst.width x_1.fst.prec
 x_1.fst.kind →
 iteP (x_2.kind != (37 : Int)) False
 (((-1000 : Int) ≤ x_2.width ∧
 x_2.width ≤ (1000 : Int) ∧
 (0 : Int) ≤ x_2.kind ∧
 x_2.kind ≤ (255 : Int) ∧
 (0 : Nat) ≤ (1000000 : Nat) ∧ (1 : Nat) ≤ (1000000 : Nat)) ∧
 ∀ (x_3 : List UInt8),
 x_3 =
 padF (Dir.mk x_2.minus x_2.zero x_2.plus x_2.space x_2.width x_2.prec x_2.kind)
 [] [(37 : UInt8)] →
 iteP
 ((List.map (fun (b : UInt8) => [AV.sc (Value.int IntKind.u8 (↑b.toNat : Int))])
 x_3).all
 fun (e : List AV) => e.all AV.one)
 (iteP
 (List.map (fun (b : UInt8) => [AV.sc (Value.int IntKind.u8 (↑b.toNat : Int))])
 x_3).isEmpty
 (IC x_1.snd.fst (AV.sc (Value.slice none (0 : Nat) (0 : Nat)))
 (b ++
 List.map
 (fun (b : UInt8) => [AV.sc (Value.int IntKind.u8 (↑b.toNat : Int))])
 x.fst)
 (n +
 (List.map
 (fun (b : UInt8) =>
 [AV.sc (Value.int IntKind.u8 (↑b.toNat : Int))])
 x.fst).length) =
 IC x_1.snd.fst (AV.sc (Value.slice none (0 : Nat) (0 : Nat)))
 (b ++
 List.map
 (fun (b : UInt8) => [AV.sc (Value.int IntKind.u8 (↑b.toNat : Int))])
 x.fst)
 (n +
 (List.map
 (fun (b : UInt8) =>
 [AV.sc (Value.int IntKind.u8 (↑b.toNat : Int))])
 x.fst).length) ∧
 NC x_1.snd.fst (AV.sc (Value.slice none (0 : Nat) (0 : Nat)))
 (b ++
 List.map
 (fun (b : UInt8) => [AV.sc (Value.int IntKind.u8 (↑b.toNat : Int))])
 x.fst)
 (n +
 (List.map
 (fun (b : UInt8) => [AV.sc (Value.int IntKind.u8 (↑b.toNat : Int))])
 x.fst).length))
 (iteP
 (allLen (1 : Nat)
 (b ++
 List.map
 (fun (b : UInt8) => [AV.sc (Value.int IntKind.u8 (↑b.toNat : Int))])
 x.fst) &&
 fits
 ((b ++
 List.map
 (fun (b : UInt8) =>
 [AV.sc (Value.int IntKind.u8 (↑b.toNat : Int))])
 x.fst).length +
 (List.map
 (fun (b : UInt8) =>
 [AV.sc (Value.int IntKind.u8 (↑b.toNat : Int))])
 x_3).length)
 (1 : Nat))
 (iteP
 (decide
 ((b ++
 List.map
 (fun (b : UInt8) =>
 [AV.sc (Value.int IntKind.u8 (↑b.toNat : Int))])
 x.fst).length =
 n +
 (List.map
 (fun (b : UInt8) =>
 [AV.sc (Value.int IntKind.u8 (↑b.toNat : Int))])
 x.fst).length))
 (IC x_1.snd.fst (AV.sc (Value.slice none (0 : Nat) (0 : Nat)))
 (b ++
 List.map
 (fun (b : UInt8) =>
 [AV.sc (Value.int IntKind.u8 (↑b.toNat : Int))])
 x.fst ++
 List.map
 (fun (b : UInt8) =>
 [AV.sc (Value.int IntKind.u8 (↑b.toNat : Int))])
 x_3)
 (n +
 (List.map
 (fun (b : UInt8) =>
 [AV.sc (Value.int IntKind.u8 (↑b.toNat : Int))])
 x.fst).length +
 (List.map
 (fun (b : UInt8) =>
 [AV.sc (Value.int IntKind.u8 (↑b.toNat : Int))])
 x_3).length) =
 IC x_1.snd.fst (AV.sc (Value.slice none (0 : Nat) (0 : Nat)))
 (b ++
 List.map
 (fun (b : UInt8) =>
 [AV.sc (Value.int IntKind.u8 (↑b.toNat : Int))])
 x.fst ++
 List.map
 (fun (b : UInt8) =>
 [AV.sc (Value.int IntKind.u8 (↑b.toNat : Int))])
 x_3)
 (n +
 (List.map
 (fun (b : UInt8) =>
 [AV.sc (Value.int IntKind.u8 (↑b.toNat : Int))])
 x.fst).length +
 (List.map
 (fun (b : UInt8) =>
 [AV.sc (Value.int IntKind.u8 (↑b.toNat : Int))])
 x_3).length) ∧
 NC x_1.snd.fst (AV.sc (Value.slice none (0 : Nat) (0 : Nat)))
 (b ++
 List.map
 (fun (b : UInt8) =>
 [AV.sc (Value.int IntKind.u8 (↑b.toNat : Int))])
 x.fst ++
 List.map
 (fun (b : UInt8) =>
 [AV.sc (Value.int IntKind.u8 (↑b.toNat : Int))])
 x_3)
 (n +
 (List.map
 (fun (b : UInt8) =>
 [AV.sc (Value.int IntKind.u8 (↑b.toNat : Int))])
 x.fst).length +
 (List.map
 (fun (b : UInt8) =>
 [AV.sc (Value.int IntKind.u8 (↑b.toNat : Int))])
 x_3).length))
 False)
 False))
 False))
 False)
 False))
 False))
 (iteP
 ((List.map (fun (b : UInt8) => [AV.sc (Value.int IntKind.u8 (↑b.toNat : Int))]) x.fst).all
 fun (e : List AV) => e.all AV.one)
 (iteP (List.map (fun (b : UInt8) => [AV.sc (Value.int IntKind.u8 (↑b.toNat : Int))]) x.fst).isEmpty
 (JC (0 : Int) (AV.sc (Value.slice none (0 : Nat) (0 : Nat))) b n =
 JC (0 : Int) (AV.sc (Value.slice none (0 : Nat) (0 : Nat))) b n ∧
 XC (0 : Int) (AV.sc (Value.slice none (0 : Nat) (0 : Nat))) b n)
 (iteP
 (allLen (1 : Nat) b &&
 fits
 (List.length b +
 (List.map (fun (b : UInt8) => [AV.sc (Value.int IntKind.u8 (↑b.toNat : Int))]) x.fst).length)
 (1 : Nat))
 (iteP (decide (List.length b = n))
 (JC (0 : Int) (AV.sc (Value.slice none (0 : Nat) (0 : Nat)))
 (b ++ List.map (fun (b : UInt8) => [AV.sc (Value.int IntKind.u8 (↑b.toNat : Int))]) x.fst)
 (n +
 (List.map (fun (b : UInt8) => [AV.sc (Value.int IntKind.u8 (↑b.toNat : Int))]) x.fst).length) =
 JC (0 : Int) (AV.sc (Value.slice none (0 : Nat) (0 : Nat)))
 (b ++ List.map (fun (b : UInt8) => [AV.sc (Value.int IntKind.u8 (↑b.toNat : Int))]) x.fst)
 (n +
 (List.map (fun (b : UInt8) => [AV.sc (Value.int IntKind.u8 (↑b.toNat : Int))]) x.fst).length) ∧
 XC (0 : Int) (AV.sc (Value.slice none (0 : Nat) (0 : Nat)))
 (b ++ List.map (fun (b : UInt8) => [AV.sc (Value.int IntKind.u8 (↑b.toNat : Int))]) x.fst)
 (n + (List.map (fun (b : UInt8) => [AV.sc (Value.int IntKind.u8 (↑b.toNat : Int))]) x.fst).length))
 False)
 False))
 False)) :
 (fun (s : List UInt8) (b : Cells) (n : Nat) (NB : List UInt8 → AV → Prop) (NC : List UInt8 → AV → Cells → Nat → Prop) (XA XB : Int → AV → Prop) (XC : Int → AV → Cells → Nat → Prop) => wpRound Y0 Door.cfg Tryd.prog 40 18 2 (IC s nilA b n) (rN NB NC) (rX XA XB XC)) s b n NB NC XA XB XC :=
 Eq.mp (by kernel_rfl) h

end
end Go.Proofs.Pr

/- Printf: Sprintf at a format without directives, and at one with a doubled sign. -/
namespace Go.Proofs.Pr
open Go Go.Ef
noncomputable section
set_option maxRecDepth 100000

theorem one_cells (l : List UInt8) : ((l.map fun (b : UInt8) => [AV.sc (Value.int IntKind.u8 (b.toNat : Int))]).all fun (e : List AV) => e.all AV.one) = true := by
  rw [List.all_map]
  exact List.all_eq_true.2 fun _ _ => rfl
theorem fits_cells (l : List UInt8) (h : l.length ≤ 100000000) : fits (l.map fun (b : UInt8) => [AV.sc (Value.int IntKind.u8 (b.toNat : Int))]).length 1 = true := by
  rw [List.length_map]
  have h1 : Nat.ble (l.length * 1) maxRoom = true := Nat.ble_eq_true_of_le (by unfold maxRoom; omega)
  have h2 : Nat.ble l.length maxRoom = true := Nat.ble_eq_true_of_le (by unfold maxRoom; omega)
  show (Nat.ble (l.length * 1) maxRoom && Nat.ble l.length maxRoom) = true
  rw [h1, h2]; rfl
theorem allLen_cells (l : List UInt8) : allLen 1 (l.map fun (b : UInt8) => [AV.sc (Value.int IntKind.u8 (b.toNat : Int))]) = true := by
  unfold allLen
  rw [List.all_map]
  exact List.all_eq_true.2 fun _ _ => rfl

theorem copy_ok {T T' : Tab} (O : TabOk Tryd.prog Door.cfg T) (O' : TabOk Tryd.prog Door.cfg T') {g : Nat} {t : List AV → Heap → Option CSpec} (hc : T'.call g = some t) : TabOk Tryd.prog Door.cfg (T.addC g t) :=
  addC_ok O fun args h s hs hp => O'.call g t args h s hc hs hp
theorem okY0 : TabOk Tryd.prog Door.cfg Y0 := by
  refine addC_ok (copy_ok ok23n ok32 (g := 32) (t := C32) rfl) fun args h s hs hp => ?_
  unfold C36n at hs
  cases hs
  exact hp.elim

theorem roundA (s : List UInt8) (a : AV) (ha : isArgs a) (hs : s.length ≤ 1000000) (hp : hasPct s = false) {NB NC XA XB XC} (h1 : s = [] → XB 0 a) (h2 : s ≠ [] → XC 0 a (byteCells s) (byteCells s).length) :
    wpRound Y0 Door.cfg Tryd.prog 40 18 2 (IA s a) (rN NB NC) (rX XA XB XC) := by
  obtain ⟨n1, n2⟩ := noPct hp
  have key : iteP ((s.map fun (b : UInt8) => [AV.sc (Value.int IntKind.u8 (b.toNat : Int))]).all fun (e : List AV) => e.all AV.one)
      (iteP (s.map fun (b : UInt8) => [AV.sc (Value.int IntKind.u8 (b.toNat : Int))]).isEmpty (True ∧ XB 0 a)
        (iteP (fits (s.map fun (b : UInt8) => [AV.sc (Value.int IntKind.u8 (b.toNat : Int))]).length 1) (True ∧ XC 0 a (byteCells s) (byteCells s).length) False)) False := by
    rw [one_cells, fits_cells s (by omega), iteP_t, iteP_t]
    cases s with
    | nil => exact ⟨trivial, h1 rfl⟩
    | cons c r => exact ⟨trivial, h2 (by simp)⟩
  rcases ha with ⟨l, rfl⟩ | rfl
  · refine vA s l NB NC XA XB XC ⟨⟨hs, rfl⟩, fun x hx => ?_⟩
    subst hx
    show iteP (hasPct s) _ _
    rw [hp, iteP_f]
    simp only [n1]
    exact key
  · refine vAn s NB NC XA XB XC ⟨⟨hs, rfl⟩, fun x hx => ?_⟩
    subst hx
    show iteP (hasPct s) _ _
    rw [hp, iteP_f]
    simp only [n1]
    exact key
theorem cells_append (u s : List UInt8) : byteCells u ++ s.map (fun (b : UInt8) => [AV.sc (Value.int IntKind.u8 (b.toNat : Int))]) = byteCells (u ++ s) := (List.map_append ..).symm
theorem cells_len (u : List UInt8) : (byteCells u).length = u.length := List.length_map ..
theorem roundC (s u : List UInt8) (hu : u.length ≤ 2000000) (hs : s.length ≤ 1000000) (hp : hasPct s = false) {NB NC XA XB XC} (h1 : XC 0 nilA (byteCells (u ++ s)) (u ++ s).length) :
    wpRound Y0 Door.cfg Tryd.prog 40 18 2 (IC s nilA (byteCells u) u.length) (rN NB NC) (rX XA XB XC) := by
  obtain ⟨n1, n2⟩ := noPct hp
  refine vCn s (byteCells u) u.length NB NC XA XB XC ⟨⟨hs, rfl⟩, fun x hx => ?_⟩
  subst hx
  show iteP (hasPct s) _ _
  rw [hp, iteP_f]
  simp only [n1, one_cells, iteP_t]
  cases s with
  | nil =>
    rw [List.append_nil] at h1
    exact ⟨trivial, h1⟩
  | cons c r =>
    have f1 : fits (List.length (byteCells u) + (List.map (fun (b : UInt8) => [AV.sc (Value.int IntKind.u8 (b.toNat : Int))]) (c :: r)).length) 1 = true := by
      have := fits_cells (u ++ c :: r) (by rw [List.length_append]; omega)
      rw [List.map_append, List.length_append] at this
      exact this
    show iteP (allLen 1 (byteCells u) && _) _ _
    rw [show allLen 1 (byteCells u) = true from allLen_cells u, f1, Bool.and_self, iteP_t, show decide (List.length (byteCells u) = u.length) = true from decide_eq_true (cells_len u), iteP_t, cells_append]
    refine ⟨trivial, ?_⟩
    rw [List.length_map, ← List.length_append]
    exact h1

/- a doubled sign behind plain bytes -/
def pct2 (s : List UInt8) : List UInt8 := s ++ [37, 37] ++ s
def dirP : Dir := ⟨false, false, false, false, -1, -1, 37⟩
theorem before_pct {s : List UInt8} (hp : hasPct s = false) : before (pct2 s) = s ∧ after (pct2 s) = 37 :: s ∧ hasPct (pct2 s) = true := by
  have h1 : ∀ x ∈ s, (x != 37) = true := by
    intro x hx
    simp only [bne_iff_ne, ne_eq]
    rintro rfl
    have : hasPct s = true := by simpa [hasPct] using hx
    rw [this] at hp; cases hp
  have e : pct2 s = s ++ (37 :: 37 :: s) := by simp [pct2]
  refine ⟨?_, ?_, ?_⟩
  · rw [e]; unfold before
    rw [List.takeWhile_append_of_pos h1]; simp
  · rw [e]; unfold after
    rw [List.dropWhile_append_of_pos h1]; simp
  · rw [e]; simp [hasPct]
theorem read_pct (s : List UInt8) : readF (37 :: s) = (dirP, s, 0) := rfl
theorem pad_pct : padF dirP [] [37] = [37] := by decide
theorem roundP (s : List UInt8) (hs : s.length ≤ 400000) (hp : hasPct s = false) {NB NC XA XB XC} (h1 : NC s nilA (byteCells (s ++ [37])) (s ++ [37]).length) :
    wpRound Y0 Door.cfg Tryd.prog 40 18 2 (IA (pct2 s) nilA) (rN NB NC) (rX XA XB XC) := by
  obtain ⟨n1, n2, n3⟩ := before_pct hp
  have hlen : (pct2 s).length = s.length + 2 + s.length := by simp [pct2]; omega
  refine vAn (pct2 s) NB NC XA XB XC ⟨⟨by omega, rfl⟩, fun x hx => ?_⟩
  subst hx
  show iteP (hasPct (pct2 s)) _ _
  rw [n3, iteP_t]
  refine ⟨show (after (pct2 s)).length ≤ 1000000 by rw [n2, List.length_cons]; omega, fun x1 e1 => ?_⟩
  replace e1 : x1 = (dirP, s, 0) := by rw [e1]; show readF (after (pct2 s)) = _; rw [n2]; exact read_pct s
  subst e1
  show iteP ((0 : Int) != 0) _ _
  rw [show ((0 : Int) != 0) = false from rfl, iteP_f]
  simp only [n1, one_cells, iteP_t]
  have st : ((∃ l, nilA = AV.sl l 0) ∨ True) ∧ -1 ≤ dirP.width ∧ dirP.width ≤ 255 ∧ -1 ≤ dirP.prec ∧ dirP.prec ≤ 255 ∧ (dirP.kind = 37 ∨ 1 ≤ ([] : List Nat).length) := ⟨.inr trivial, by decide, by decide, by decide, by decide, .inl rfl⟩
  cases s with
  | nil =>
    refine ⟨⟨trivial, st⟩, fun x hx => ?_⟩
    replace hx : x = dirP := hx
    subst hx
    show iteP ((37 : Int) != 37) _ _
    rw [show ((37 : Int) != 37) = false from rfl, iteP_f]
    refine ⟨by decide, fun y hy => ?_⟩
    replace hy : y = [37] := hy.trans pad_pct
    subst hy
    exact ⟨trivial, h1⟩
  | cons c r =>
    rw [fits_cells (c :: r) (by omega)]
    refine ⟨⟨trivial, st⟩, fun x hx => ?_⟩
    replace hx : x = dirP := hx
    subst hx
    show iteP ((37 : Int) != 37) _ _
    rw [show ((37 : Int) != 37) = false from rfl, iteP_f]
    refine ⟨by decide, fun y hy => ?_⟩
    replace hy : y = [37] := hy.trans pad_pct
    subst hy
    have f1 : fits ((List.map (fun (b : UInt8) => [AV.sc (Value.int IntKind.u8 (b.toNat : Int))]) (c :: r)).length + (List.map (fun (b : UInt8) => [AV.sc (Value.int IntKind.u8 (b.toNat : Int))]) [37]).length) 1 = true := by
      have := fits_cells (c :: r ++ [37]) (by rw [List.length_append]; simp only [List.length_cons] at hs ⊢; simp; omega)
      rw [List.map_append, List.length_append] at this
      exact this
    rw [show (List.map (fun (b : UInt8) => [AV.sc (Value.int IntKind.u8 (b.toNat : Int))]) [37]).isEmpty = false from rfl, iteP_f, allLen_cells, f1, Bool.and_self, iteP_t, decide_eq_true trivial, iteP_t]
    refine ⟨trivial, ?_⟩
    rw [List.length_map, List.length_map, ← List.length_append]
    show NC (c :: r) nilA (byteCells (c :: r) ++ _) _
    rw [cells_append]
    exact h1
end
end Go.Proofs.Pr

