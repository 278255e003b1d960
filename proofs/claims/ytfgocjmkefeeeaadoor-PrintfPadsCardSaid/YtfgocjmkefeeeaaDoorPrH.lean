/- Printf: resolve. -/
import Derived.Test.YtfgocjmkefeeeaaDoorPrE
import Derived.Test.YtfgocjmkefeeeaaDoorPrG
/- Printf: a value as the cells of a slice. -/
namespace Go.Proofs.Pr
open Go Go.Ef
noncomputable section
def goodArg (e : List AV) : Prop := ∃ (k n : Int) (s : List UInt8), e = [aK .i64 k, aK .i64 n, aStr s]
end
end Go.Proofs.Pr

/- Printf: what Sprintf computes, in plain form; tables. -/
namespace Go.Proofs.Pr
open Go Go.Ef
noncomputable section

def headK (l : Cells) : Int := cellInt l 0 0
def headN (l : Cells) : Int := cellInt l 0 1
def headS (l : Cells) : List UInt8 := cellStr l 0 2
def takeF (l : Cells) : Int := (nearF (numberF (headK l) (headN l) (headS l))).tdiv 10000
def needF (d : Dir) : Nat := (if d.width = -2 then 1 else 0) + (if d.prec = -2 then 1 else 0) + (if d.kind = 37 then 0 else 1)
def resW (d : Dir) (l : Cells) : Dir × Cells :=
  if d.width = -2 then (if takeF l < 0 then ({ d with minus := true, width := -takeF l }, l.drop 1) else ({ d with width := takeF l }, l.drop 1)) else (d, l)
def resP (x : Dir × Cells) : Dir × Cells :=
  if x.1.prec = -2 then ({ x.1 with prec := max (takeF x.2) (-1) }, x.2.drop 1) else x
def resE (x : Dir × Cells) : Dir × Int × Cells := if x.1.width > 255 ∨ x.1.prec > 255 then (x.1, 2, x.2) else (x.1, 0, x.2)
def resolveF (d : Dir) (l : Cells) : Dir × Int × Cells := if l.length < needF d then (d, 18, l) else resE (resP (resW d l))

/- a heap with other arguments -/
def setArg (h : Heap) (a : AV) : Heap := { h with objs := h.objs.set 1 (.cells [a]) }
def goodC (e : List AV) : Bool :=
  match e with
  | [.sc (.int .i64 _), .sc (.int .i64 _), .sc (.string s)] => decide (s.data.toList.length ≤ 1000000)
  | _ => false
def goodsB (l : Cells) : Bool := l.all goodC
def C36 (args : List AV) (h : Heap) : Option CSpec :=
  match args with
  | [.ptr 1 0] => match hArg h with
    | .sl l 0 => some (nspec ((bif Nat.beq h.next 4 then IS [] h = sB (.sl l 0) else IS [] h = sC (.sl l 0) (hBytes h) (hN h)) ∧ 1 ≤ l.length ∧ goodsB l = true) (takeF l) (fun x => aK .i64 x) (setArg h (.sl (l.drop 1) 0)))
    | _ => some { pre := False, alts := [] }
  | _ => none
def C23 (args : List AV) (h : Heap) : Option CSpec :=
  match args with
  | [.ptr 1 0, .agg [.sc (.bool a), .sc (.bool b), .sc (.bool c), .sc (.bool e), .sc (.int .i64 w), .sc (.int .i64 p), .sc (.int .u8 k)]] => match hArg h with
    | .sl l 0 => some { pre := (bif Nat.beq h.next 4 then IS [] h = sB (.sl l 0) else IS [] h = sC (.sl l 0) (hBytes h) (hN h)) ∧ goodsB l = true, alts := [{ α := Dir × Int × Cells, post := fun x => x = resolveF ⟨a, b, c, e, w, p, k⟩ l, val := fun x => .tup [.agg x.1.cells, aK .i64 x.2.1], heap := fun x => setArg h (.sl x.2.2 0) }] }
    | .sc (.slice none 0 0) => some { pre := (bif Nat.beq h.next 4 then IS [] h = sB nilA else IS [] h = sC nilA (hBytes h) (hN h)), alts := [{ α := Dir × Int × Cells, post := fun x => x = resolveF ⟨a, b, c, e, w, p, k⟩ [], val := fun x => .tup [.agg x.1.cells, aK .i64 x.2.1], heap := fun _ => h }] }
    | _ => none
  | _ => none
/- a heap of one of the shapes, and what it holds -/
def rdB (h : Heap) (K : AV → Prop) : Prop :=
  match h with
  | ⟨4, .node (.node (.node .leaf (some (.cells [.ptr 3 0, .sc (.slice none 0 0)])) .leaf) (some (.cells [a])) .leaf) none (.node .leaf (some (.cells [.ptr 1 0])) .leaf), 1, .node (.node (.node .leaf (some (54, 2)) .leaf) (some (51, 1)) .leaf) none (.node .leaf (some (49, 1)) .leaf)⟩ => K a
  | _ => False
def rdC (h : Heap) (K : AV → Cells → Nat → Prop) : Prop :=
  match h with
  | ⟨5, .node (.node (.node .leaf (some (.cells [.ptr 3 0, .sl b 5])) .leaf) (some (.cells [a])) .leaf) none (.node (.node .leaf (some (.own 1 5 n)) .leaf) (some (.cells [.ptr 1 0])) .leaf), 1, .node (.node (.node .leaf (some (54, 2)) .leaf) (some (51, 1)) .leaf) none (.node .leaf (some (49, 1)) .leaf)⟩ => K a b n
  | _ => False
theorem rdB_ok {h : Heap} {K : AV → Prop} (hk : rdB h K) : ∃ a, h = hB a ∧ K a := by
  unfold rdB at hk
  split at hk
  · exact ⟨_, rfl, hk⟩
  · exact hk.elim
theorem rdC_ok {h : Heap} {K : AV → Cells → Nat → Prop} (hk : rdC h K) : ∃ a b n, h = hC a b n ∧ K a b n := by
  unfold rdC at hk
  split at hk
  · exact ⟨_, _, _, rfl, hk⟩
  · exact hk.elim
def wasDir (r : AV) (K : Dir → Int → Prop) : Prop :=
  match r with
  | .tup [.agg [.sc (.bool a), .sc (.bool b), .sc (.bool c), .sc (.bool e), .sc (.int .i64 w), .sc (.int .i64 p), .sc (.int .u8 k)], .sc (.int .i64 x)] => K ⟨a, b, c, e, w, p, k⟩ x
  | _ => False
def Q1 : Tab := N5
def Q2 : Tab := Q1.addC 36 C36
end
end Go.Proofs.Pr

/- Printf: conditions of resolve with asterisks, printed by a program from the evaluation. -/
namespace Go.Proofs.Pr
open Go Go.Ef
noncomputable section
set_option maxRecDepth 100000

theorem c36b (l : Cells) (K : AV → AV → Prop) (h :
 iteP (inRange (0 : Int) (List.length l))
 (getI (0 : Nat) l =
 some
 [AV.sc (Value.int IntKind.i64 (cellInt l (0 : Int) (0 : Nat))),
 AV.sc (Value.int IntKind.i64 (cellInt l (0 : Int) (1 : Nat))),
 AV.sc (Value.string (ByteArray.mk (Array.mk (cellStr l (0 : Int) (2 : Nat)))))] ∧
 iteP (headLen (3 : Nat) l)
 (iteP (true && decide ((1 : Int) ≤ (↑(List.length l) : Int)))
 ((cellStr l (0 : Int) (2 : Nat)).length.le (1000000 : Nat) ∧
 ∀ (x : Int),
 x =
 numberF (cellInt l (0 : Int) (0 : Nat)) (cellInt l (0 : Int) (1 : Nat))
 (cellStr l (0 : Int) (2 : Nat)) →
 True ∧
 ∀ (x_1 : Int),
 x_1 = (nearF x).tdiv (10000 : Int) →
 K (AV.sc (Value.int IntKind.i64 x_1)) (AV.sl (List.drop (1 : Nat) l) (0 : Nat)))
 False)
 False)
 False) :
 (fun (l : Cells) (K : AV → AV → Prop) => wpCall Q1 Door.cfg Tryd.prog 40 36 [.ptr 1 0] (hB (.sl l 0)) fun r h' => rdB h' fun a => K r a) l K :=
 Eq.mp (by kernel_rfl) h

theorem c36c (l : Cells) (b : Cells) (n : Nat) (K : AV → AV → Cells → Nat → Prop) (h :
 iteP (inRange (0 : Int) (List.length l))
 (getI (0 : Nat) l =
 some
 [AV.sc (Value.int IntKind.i64 (cellInt l (0 : Int) (0 : Nat))),
 AV.sc (Value.int IntKind.i64 (cellInt l (0 : Int) (1 : Nat))),
 AV.sc (Value.string (ByteArray.mk (Array.mk (cellStr l (0 : Int) (2 : Nat)))))] ∧
 iteP (headLen (3 : Nat) l)
 (iteP (true && decide ((1 : Int) ≤ (↑(List.length l) : Int)))
 ((cellStr l (0 : Int) (2 : Nat)).length.le (1000000 : Nat) ∧
 ∀ (x : Int),
 x =
 numberF (cellInt l (0 : Int) (0 : Nat)) (cellInt l (0 : Int) (1 : Nat))
 (cellStr l (0 : Int) (2 : Nat)) →
 True ∧
 ∀ (x_1 : Int),
 x_1 = (nearF x).tdiv (10000 : Int) →
 K (AV.sc (Value.int IntKind.i64 x_1)) (AV.sl (List.drop (1 : Nat) l) (0 : Nat)) b n)
 False)
 False)
 False) :
 (fun (l b : Cells) (n : Nat) (K : AV → AV → Cells → Nat → Prop) => wpCall Q1 Door.cfg Tryd.prog 40 36 [.ptr 1 0] (hC (.sl l 0) b n) fun r h' => rdC h' fun a b n => K r a b n) l b n K :=
 Eq.mp (by kernel_rfl) h

theorem d23b (d : Dir) (l : Cells) (K : Dir → Int → AV → Prop) (h :
 iteP (d.width == (-2 : Int))
 (iteP (d.prec == (-2 : Int))
 (iteP (d.kind != (37 : Int))
 (iteP (decide ((↑(List.length l) : Int) < (3 : Int)))
 (K (Dir.mk d.minus d.zero d.plus d.space d.width d.prec d.kind) (18 : Int) (AV.sl l (0 : Nat)))
 (iteP (d.width == (-2 : Int))
 ((sB (AV.sl l (0 : Nat)) = sB (AV.sl l (0 : Nat)) ∧ (1 : Nat) ≤ List.length l ∧ goodsB l = true) ∧
 ∀ (x : Int),
 x = takeF l →
 iteP (decide (x < (0 : Int)))
 (iteP (d.prec == (-2 : Int))
 ((sB (AV.sl (List.drop (1 : Nat) l) (0 : Nat)) = sB (AV.sl (List.drop (1 : Nat) l) (0 : Nat)) ∧
 (1 : Nat) ≤ (List.drop (1 : Nat) l).length ∧ goodsB (List.drop (1 : Nat) l) = true) ∧
 ∀ (x_1 : Int),
 x_1 = takeF (List.drop (1 : Nat) l) →
 iteP (decide ((255 : Int) < IntKind.i64.wrap ((0 : Int) - x)))
 (K
 (Dir.mk true d.zero d.plus d.space (IntKind.i64.wrap ((0 : Int) - x)) (max x_1 (-1 : Int))
 d.kind)
 (2 : Int) (AV.sl (List.drop (1 : Nat) (List.drop (1 : Nat) l)) (0 : Nat)))
 (iteP (decide ((255 : Int) < max x_1 (-1 : Int)))
 (K
 (Dir.mk true d.zero d.plus d.space (IntKind.i64.wrap ((0 : Int) - x))
 (max x_1 (-1 : Int)) d.kind)
 (2 : Int) (AV.sl (List.drop (1 : Nat) (List.drop (1 : Nat) l)) (0 : Nat)))
 (K
 (Dir.mk true d.zero d.plus d.space (IntKind.i64.wrap ((0 : Int) - x))
 (max x_1 (-1 : Int)) d.kind)
 (0 : Int) (AV.sl (List.drop (1 : Nat) (List.drop (1 : Nat) l)) (0 : Nat)))))
 (iteP (decide ((255 : Int) < IntKind.i64.wrap ((0 : Int) - x)))
 (K (Dir.mk true d.zero d.plus d.space (IntKind.i64.wrap ((0 : Int) - x)) d.prec d.kind) (2 : Int)
 (AV.sl (List.drop (1 : Nat) l) (0 : Nat)))
 (iteP (decide ((255 : Int) < d.prec))
 (K (Dir.mk true d.zero d.plus d.space (IntKind.i64.wrap ((0 : Int) - x)) d.prec d.kind)
 (2 : Int) (AV.sl (List.drop (1 : Nat) l) (0 : Nat)))
 (K (Dir.mk true d.zero d.plus d.space (IntKind.i64.wrap ((0 : Int) - x)) d.prec d.kind)
 (0 : Int) (AV.sl (List.drop (1 : Nat) l) (0 : Nat))))))
 (iteP (d.prec == (-2 : Int))
 ((sB (AV.sl (List.drop (1 : Nat) l) (0 : Nat)) = sB (AV.sl (List.drop (1 : Nat) l) (0 : Nat)) ∧
 (1 : Nat) ≤ (List.drop (1 : Nat) l).length ∧ goodsB (List.drop (1 : Nat) l) = true) ∧
 ∀ (x_1 : Int),
 x_1 = takeF (List.drop (1 : Nat) l) →
 iteP (decide ((255 : Int) < x))
 (K (Dir.mk d.minus d.zero d.plus d.space x (max x_1 (-1 : Int)) d.kind) (2 : Int)
 (AV.sl (List.drop (1 : Nat) (List.drop (1 : Nat) l)) (0 : Nat)))
 (iteP (decide ((255 : Int) < max x_1 (-1 : Int)))
 (K (Dir.mk d.minus d.zero d.plus d.space x (max x_1 (-1 : Int)) d.kind) (2 : Int)
 (AV.sl (List.drop (1 : Nat) (List.drop (1 : Nat) l)) (0 : Nat)))
 (K (Dir.mk d.minus d.zero d.plus d.space x (max x_1 (-1 : Int)) d.kind) (0 : Int)
 (AV.sl (List.drop (1 : Nat) (List.drop (1 : Nat) l)) (0 : Nat)))))
 (iteP (decide ((255 : Int) < x))
 (K (Dir.mk d.minus d.zero d.plus d.space x d.prec d.kind) (2 : Int)
 (AV.sl (List.drop (1 : Nat) l) (0 : Nat)))
 (iteP (decide ((255 : Int) < d.prec))
 (K (Dir.mk d.minus d.zero d.plus d.space x d.prec d.kind) (2 : Int)
 (AV.sl (List.drop (1 : Nat) l) (0 : Nat)))
 (K (Dir.mk d.minus d.zero d.plus d.space x d.prec d.kind) (0 : Int)
 (AV.sl (List.drop (1 : Nat) l) (0 : Nat)))))))
 (iteP (d.prec == (-2 : Int))
 ((sB (AV.sl l (0 : Nat)) = sB (AV.sl l (0 : Nat)) ∧ (1 : Nat) ≤ List.length l ∧ goodsB l = true) ∧
 ∀ (x : Int),
 x = takeF l →
 iteP (decide ((255 : Int) < d.width))
 (K (Dir.mk d.minus d.zero d.plus d.space d.width (max x (-1 : Int)) d.kind) (2 : Int)
 (AV.sl (List.drop (1 : Nat) l) (0 : Nat)))
 (iteP (decide ((255 : Int) < max x (-1 : Int)))
 (K (Dir.mk d.minus d.zero d.plus d.space d.width (max x (-1 : Int)) d.kind) (2 : Int)
 (AV.sl (List.drop (1 : Nat) l) (0 : Nat)))
 (K (Dir.mk d.minus d.zero d.plus d.space d.width (max x (-1 : Int)) d.kind) (0 : Int)
 (AV.sl (List.drop (1 : Nat) l) (0 : Nat)))))
 (iteP (decide ((255 : Int) < d.width))
 (K (Dir.mk d.minus d.zero d.plus d.space d.width d.prec d.kind) (2 : Int) (AV.sl l (0 : Nat)))
 (iteP (decide ((255 : Int) < d.prec))
 (K (Dir.mk d.minus d.zero d.plus d.space d.width d.prec d.kind) (2 : Int) (AV.sl l (0 : Nat)))
 (K (Dir.mk d.minus d.zero d.plus d.space d.width d.prec d.kind) (0 : Int) (AV.sl l (0 : Nat))))))))
 (iteP (decide ((↑(List.length l) : Int) < (2 : Int)))
 (K (Dir.mk d.minus d.zero d.plus d.space d.width d.prec d.kind) (18 : Int) (AV.sl l (0 : Nat)))
 (iteP (d.width == (-2 : Int))
 ((sB (AV.sl l (0 : Nat)) = sB (AV.sl l (0 : Nat)) ∧ (1 : Nat) ≤ List.length l ∧ goodsB l = true) ∧
 ∀ (x : Int),
 x = takeF l →
 iteP (decide (x < (0 : Int)))
 (iteP (d.prec == (-2 : Int))
 ((sB (AV.sl (List.drop (1 : Nat) l) (0 : Nat)) = sB (AV.sl (List.drop (1 : Nat) l) (0 : Nat)) ∧
 (1 : Nat) ≤ (List.drop (1 : Nat) l).length ∧ goodsB (List.drop (1 : Nat) l) = true) ∧
 ∀ (x_1 : Int),
 x_1 = takeF (List.drop (1 : Nat) l) →
 iteP (decide ((255 : Int) < IntKind.i64.wrap ((0 : Int) - x)))
 (K
 (Dir.mk true d.zero d.plus d.space (IntKind.i64.wrap ((0 : Int) - x)) (max x_1 (-1 : Int))
 d.kind)
 (2 : Int) (AV.sl (List.drop (1 : Nat) (List.drop (1 : Nat) l)) (0 : Nat)))
 (iteP (decide ((255 : Int) < max x_1 (-1 : Int)))
 (K
 (Dir.mk true d.zero d.plus d.space (IntKind.i64.wrap ((0 : Int) - x))
 (max x_1 (-1 : Int)) d.kind)
 (2 : Int) (AV.sl (List.drop (1 : Nat) (List.drop (1 : Nat) l)) (0 : Nat)))
 (K
 (Dir.mk true d.zero d.plus d.space (IntKind.i64.wrap ((0 : Int) - x))
 (max x_1 (-1 : Int)) d.kind)
 (0 : Int) (AV.sl (List.drop (1 : Nat) (List.drop (1 : Nat) l)) (0 : Nat)))))
 (iteP (decide ((255 : Int) < IntKind.i64.wrap ((0 : Int) - x)))
 (K (Dir.mk true d.zero d.plus d.space (IntKind.i64.wrap ((0 : Int) - x)) d.prec d.kind) (2 : Int)
 (AV.sl (List.drop (1 : Nat) l) (0 : Nat)))
 (iteP (decide ((255 : Int) < d.prec))
 (K (Dir.mk true d.zero d.plus d.space (IntKind.i64.wrap ((0 : Int) - x)) d.prec d.kind)
 (2 : Int) (AV.sl (List.drop (1 : Nat) l) (0 : Nat)))
 (K (Dir.mk true d.zero d.plus d.space (IntKind.i64.wrap ((0 : Int) - x)) d.prec d.kind)
 (0 : Int) (AV.sl (List.drop (1 : Nat) l) (0 : Nat))))))
 (iteP (d.prec == (-2 : Int))
 ((sB (AV.sl (List.drop (1 : Nat) l) (0 : Nat)) = sB (AV.sl (List.drop (1 : Nat) l) (0 : Nat)) ∧
 (1 : Nat) ≤ (List.drop (1 : Nat) l).length ∧ goodsB (List.drop (1 : Nat) l) = true) ∧
 ∀ (x_1 : Int),
 x_1 = takeF (List.drop (1 : Nat) l) →
 iteP (decide ((255 : Int) < x))
 (K (Dir.mk d.minus d.zero d.plus d.space x (max x_1 (-1 : Int)) d.kind) (2 : Int)
 (AV.sl (List.drop (1 : Nat) (List.drop (1 : Nat) l)) (0 : Nat)))
 (iteP (decide ((255 : Int) < max x_1 (-1 : Int)))
 (K (Dir.mk d.minus d.zero d.plus d.space x (max x_1 (-1 : Int)) d.kind) (2 : Int)
 (AV.sl (List.drop (1 : Nat) (List.drop (1 : Nat) l)) (0 : Nat)))
 (K (Dir.mk d.minus d.zero d.plus d.space x (max x_1 (-1 : Int)) d.kind) (0 : Int)
 (AV.sl (List.drop (1 : Nat) (List.drop (1 : Nat) l)) (0 : Nat)))))
 (iteP (decide ((255 : Int) < x))
 (K (Dir.mk d.minus d.zero d.plus d.space x d.prec d.kind) (2 : Int)
 (AV.sl (List.drop (1 : Nat) l) (0 : Nat)))
 (iteP (decide ((255 : Int) < d.prec))
 (K (Dir.mk d.minus d.zero d.plus d.space x d.prec d.kind) (2 : Int)
 (AV.sl (List.drop (1 : Nat) l) (0 : Nat)))
 (K (Dir.mk d.minus d.zero d.plus d.space x d.prec d.kind) (0 : Int)
 (AV.sl (List.drop (1 : Nat) l) (0 : Nat)))))))
 (iteP (d.prec == (-2 : Int))
 ((sB (AV.sl l (0 : Nat)) = sB (AV.sl l (0 : Nat)) ∧ (1 : Nat) ≤ List.length l ∧ goodsB l = true) ∧
 ∀ (x : Int),
 x = takeF l →
 iteP (decide ((255 : Int) < d.width))
 (K (Dir.mk d.minus d.zero d.plus d.space d.width (max x (-1 : Int)) d.kind) (2 : Int)
 (AV.sl (List.drop (1 : Nat) l) (0 : Nat)))
 (iteP (decide ((255 : Int) < max x (-1 : Int)))
 (K (Dir.mk d.minus d.zero d.plus d.space d.width (max x (-1 : Int)) d.kind) (2 : Int)
 (AV.sl (List.drop (1 : Nat) l) (0 : Nat)))
 (K (Dir.mk d.minus d.zero d.plus d.space d.width (max x (-1 : Int)) d.kind) (0 : Int)
 (AV.sl (List.drop (1 : Nat) l) (0 : Nat)))))
 (iteP (decide ((255 : Int) < d.width))
 (K (Dir.mk d.minus d.zero d.plus d.space d.width d.prec d.kind) (2 : Int) (AV.sl l (0 : Nat)))
 (iteP (decide ((255 : Int) < d.prec))
 (K (Dir.mk d.minus d.zero d.plus d.space d.width d.prec d.kind) (2 : Int) (AV.sl l (0 : Nat)))
 (K (Dir.mk d.minus d.zero d.plus d.space d.width d.prec d.kind) (0 : Int) (AV.sl l (0 : Nat)))))))))
 (iteP (d.kind != (37 : Int))
 (iteP (decide ((↑(List.length l) : Int) < (2 : Int)))
 (K (Dir.mk d.minus d.zero d.plus d.space d.width d.prec d.kind) (18 : Int) (AV.sl l (0 : Nat)))
 (iteP (d.width == (-2 : Int))
 ((sB (AV.sl l (0 : Nat)) = sB (AV.sl l (0 : Nat)) ∧ (1 : Nat) ≤ List.length l ∧ goodsB l = true) ∧
 ∀ (x : Int),
 x = takeF l →
 iteP (decide (x < (0 : Int)))
 (iteP (d.prec == (-2 : Int))
 ((sB (AV.sl (List.drop (1 : Nat) l) (0 : Nat)) = sB (AV.sl (List.drop (1 : Nat) l) (0 : Nat)) ∧
 (1 : Nat) ≤ (List.drop (1 : Nat) l).length ∧ goodsB (List.drop (1 : Nat) l) = true) ∧
 ∀ (x_1 : Int),
 x_1 = takeF (List.drop (1 : Nat) l) →
 iteP (decide ((255 : Int) < IntKind.i64.wrap ((0 : Int) - x)))
 (K
 (Dir.mk true d.zero d.plus d.space (IntKind.i64.wrap ((0 : Int) - x)) (max x_1 (-1 : Int))
 d.kind)
 (2 : Int) (AV.sl (List.drop (1 : Nat) (List.drop (1 : Nat) l)) (0 : Nat)))
 (iteP (decide ((255 : Int) < max x_1 (-1 : Int)))
 (K
 (Dir.mk true d.zero d.plus d.space (IntKind.i64.wrap ((0 : Int) - x))
 (max x_1 (-1 : Int)) d.kind)
 (2 : Int) (AV.sl (List.drop (1 : Nat) (List.drop (1 : Nat) l)) (0 : Nat)))
 (K
 (Dir.mk true d.zero d.plus d.space (IntKind.i64.wrap ((0 : Int) - x))
 (max x_1 (-1 : Int)) d.kind)
 (0 : Int) (AV.sl (List.drop (1 : Nat) (List.drop (1 : Nat) l)) (0 : Nat)))))
 (iteP (decide ((255 : Int) < IntKind.i64.wrap ((0 : Int) - x)))
 (K (Dir.mk true d.zero d.plus d.space (IntKind.i64.wrap ((0 : Int) - x)) d.prec d.kind) (2 : Int)
 (AV.sl (List.drop (1 : Nat) l) (0 : Nat)))
 (iteP (decide ((255 : Int) < d.prec))
 (K (Dir.mk true d.zero d.plus d.space (IntKind.i64.wrap ((0 : Int) - x)) d.prec d.kind)
 (2 : Int) (AV.sl (List.drop (1 : Nat) l) (0 : Nat)))
 (K (Dir.mk true d.zero d.plus d.space (IntKind.i64.wrap ((0 : Int) - x)) d.prec d.kind)
 (0 : Int) (AV.sl (List.drop (1 : Nat) l) (0 : Nat))))))
 (iteP (d.prec == (-2 : Int))
 ((sB (AV.sl (List.drop (1 : Nat) l) (0 : Nat)) = sB (AV.sl (List.drop (1 : Nat) l) (0 : Nat)) ∧
 (1 : Nat) ≤ (List.drop (1 : Nat) l).length ∧ goodsB (List.drop (1 : Nat) l) = true) ∧
 ∀ (x_1 : Int),
 x_1 = takeF (List.drop (1 : Nat) l) →
 iteP (decide ((255 : Int) < x))
 (K (Dir.mk d.minus d.zero d.plus d.space x (max x_1 (-1 : Int)) d.kind) (2 : Int)
 (AV.sl (List.drop (1 : Nat) (List.drop (1 : Nat) l)) (0 : Nat)))
 (iteP (decide ((255 : Int) < max x_1 (-1 : Int)))
 (K (Dir.mk d.minus d.zero d.plus d.space x (max x_1 (-1 : Int)) d.kind) (2 : Int)
 (AV.sl (List.drop (1 : Nat) (List.drop (1 : Nat) l)) (0 : Nat)))
 (K (Dir.mk d.minus d.zero d.plus d.space x (max x_1 (-1 : Int)) d.kind) (0 : Int)
 (AV.sl (List.drop (1 : Nat) (List.drop (1 : Nat) l)) (0 : Nat)))))
 (iteP (decide ((255 : Int) < x))
 (K (Dir.mk d.minus d.zero d.plus d.space x d.prec d.kind) (2 : Int)
 (AV.sl (List.drop (1 : Nat) l) (0 : Nat)))
 (iteP (decide ((255 : Int) < d.prec))
 (K (Dir.mk d.minus d.zero d.plus d.space x d.prec d.kind) (2 : Int)
 (AV.sl (List.drop (1 : Nat) l) (0 : Nat)))
 (K (Dir.mk d.minus d.zero d.plus d.space x d.prec d.kind) (0 : Int)
 (AV.sl (List.drop (1 : Nat) l) (0 : Nat)))))))
 (iteP (d.prec == (-2 : Int))
 ((sB (AV.sl l (0 : Nat)) = sB (AV.sl l (0 : Nat)) ∧ (1 : Nat) ≤ List.length l ∧ goodsB l = true) ∧
 ∀ (x : Int),
 x = takeF l →
 iteP (decide ((255 : Int) < d.width))
 (K (Dir.mk d.minus d.zero d.plus d.space d.width (max x (-1 : Int)) d.kind) (2 : Int)
 (AV.sl (List.drop (1 : Nat) l) (0 : Nat)))
 (iteP (decide ((255 : Int) < max x (-1 : Int)))
 (K (Dir.mk d.minus d.zero d.plus d.space d.width (max x (-1 : Int)) d.kind) (2 : Int)
 (AV.sl (List.drop (1 : Nat) l) (0 : Nat)))
 (K (Dir.mk d.minus d.zero d.plus d.space d.width (max x (-1 : Int)) d.kind) (0 : Int)
 (AV.sl (List.drop (1 : Nat) l) (0 : Nat)))))
 (iteP (decide ((255 : Int) < d.width))
 (K (Dir.mk d.minus d.zero d.plus d.space d.width d.prec d.kind) (2 : Int) (AV.sl l (0 : Nat)))
 (iteP (decide ((255 : Int) < d.prec))
 (K (Dir.mk d.minus d.zero d.plus d.space d.width d.prec d.kind) (2 : Int) (AV.sl l (0 : Nat)))
 (K (Dir.mk d.minus d.zero d.plus d.space d.width d.prec d.kind) (0 : Int) (AV.sl l (0 : Nat))))))))
 (iteP (decide ((↑(List.length l) : Int) < (1 : Int)))
 (K (Dir.mk d.minus d.zero d.plus d.space d.width d.prec d.kind) (18 : Int) (AV.sl l (0 : Nat)))
 (iteP (d.width == (-2 : Int))
 ((sB (AV.sl l (0 : Nat)) = sB (AV.sl l (0 : Nat)) ∧ (1 : Nat) ≤ List.length l ∧ goodsB l = true) ∧
 ∀ (x : Int),
 x = takeF l →
 iteP (decide (x < (0 : Int)))
 (iteP (d.prec == (-2 : Int))
 ((sB (AV.sl (List.drop (1 : Nat) l) (0 : Nat)) = sB (AV.sl (List.drop (1 : Nat) l) (0 : Nat)) ∧
 (1 : Nat) ≤ (List.drop (1 : Nat) l).length ∧ goodsB (List.drop (1 : Nat) l) = true) ∧
 ∀ (x_1 : Int),
 x_1 = takeF (List.drop (1 : Nat) l) →
 iteP (decide ((255 : Int) < IntKind.i64.wrap ((0 : Int) - x)))
 (K
 (Dir.mk true d.zero d.plus d.space (IntKind.i64.wrap ((0 : Int) - x)) (max x_1 (-1 : Int))
 d.kind)
 (2 : Int) (AV.sl (List.drop (1 : Nat) (List.drop (1 : Nat) l)) (0 : Nat)))
 (iteP (decide ((255 : Int) < max x_1 (-1 : Int)))
 (K
 (Dir.mk true d.zero d.plus d.space (IntKind.i64.wrap ((0 : Int) - x))
 (max x_1 (-1 : Int)) d.kind)
 (2 : Int) (AV.sl (List.drop (1 : Nat) (List.drop (1 : Nat) l)) (0 : Nat)))
 (K
 (Dir.mk true d.zero d.plus d.space (IntKind.i64.wrap ((0 : Int) - x))
 (max x_1 (-1 : Int)) d.kind)
 (0 : Int) (AV.sl (List.drop (1 : Nat) (List.drop (1 : Nat) l)) (0 : Nat)))))
 (iteP (decide ((255 : Int) < IntKind.i64.wrap ((0 : Int) - x)))
 (K (Dir.mk true d.zero d.plus d.space (IntKind.i64.wrap ((0 : Int) - x)) d.prec d.kind) (2 : Int)
 (AV.sl (List.drop (1 : Nat) l) (0 : Nat)))
 (iteP (decide ((255 : Int) < d.prec))
 (K (Dir.mk true d.zero d.plus d.space (IntKind.i64.wrap ((0 : Int) - x)) d.prec d.kind)
 (2 : Int) (AV.sl (List.drop (1 : Nat) l) (0 : Nat)))
 (K (Dir.mk true d.zero d.plus d.space (IntKind.i64.wrap ((0 : Int) - x)) d.prec d.kind)
 (0 : Int) (AV.sl (List.drop (1 : Nat) l) (0 : Nat))))))
 (iteP (d.prec == (-2 : Int))
 ((sB (AV.sl (List.drop (1 : Nat) l) (0 : Nat)) = sB (AV.sl (List.drop (1 : Nat) l) (0 : Nat)) ∧
 (1 : Nat) ≤ (List.drop (1 : Nat) l).length ∧ goodsB (List.drop (1 : Nat) l) = true) ∧
 ∀ (x_1 : Int),
 x_1 = takeF (List.drop (1 : Nat) l) →
 iteP (decide ((255 : Int) < x))
 (K (Dir.mk d.minus d.zero d.plus d.space x (max x_1 (-1 : Int)) d.kind) (2 : Int)
 (AV.sl (List.drop (1 : Nat) (List.drop (1 : Nat) l)) (0 : Nat)))
 (iteP (decide ((255 : Int) < max x_1 (-1 : Int)))
 (K (Dir.mk d.minus d.zero d.plus d.space x (max x_1 (-1 : Int)) d.kind) (2 : Int)
 (AV.sl (List.drop (1 : Nat) (List.drop (1 : Nat) l)) (0 : Nat)))
 (K (Dir.mk d.minus d.zero d.plus d.space x (max x_1 (-1 : Int)) d.kind) (0 : Int)
 (AV.sl (List.drop (1 : Nat) (List.drop (1 : Nat) l)) (0 : Nat)))))
 (iteP (decide ((255 : Int) < x))
 (K (Dir.mk d.minus d.zero d.plus d.space x d.prec d.kind) (2 : Int)
 (AV.sl (List.drop (1 : Nat) l) (0 : Nat)))
 (iteP (decide ((255 : Int) < d.prec))
 (K (Dir.mk d.minus d.zero d.plus d.space x d.prec d.kind) (2 : Int)
 (AV.sl (List.drop (1 : Nat) l) (0 : Nat)))
 (K (Dir.mk d.minus d.zero d.plus d.space x d.prec d.kind) (0 : Int)
 (AV.sl (List.drop (1 : Nat) l) (0 : Nat)))))))
 (iteP (d.prec == (-2 : Int))
 ((sB (AV.sl l (0 : Nat)) = sB (AV.sl l (0 : Nat)) ∧ (1 : Nat) ≤ List.length l ∧ goodsB l = true) ∧
 ∀ (x : Int),
 x = takeF l →
 iteP (decide ((255 : Int) < d.width))
 (K (Dir.mk d.minus d.zero d.plus d.space d.width (max x (-1 : Int)) d.kind) (2 : Int)
 (AV.sl (List.drop (1 : Nat) l) (0 : Nat)))
 (iteP (decide ((255 : Int) < max x (-1 : Int)))
 (K (Dir.mk d.minus d.zero d.plus d.space d.width (max x (-1 : Int)) d.kind) (2 : Int)
 (AV.sl (List.drop (1 : Nat) l) (0 : Nat)))
 (K (Dir.mk d.minus d.zero d.plus d.space d.width (max x (-1 : Int)) d.kind) (0 : Int)
 (AV.sl (List.drop (1 : Nat) l) (0 : Nat)))))
 (iteP (decide ((255 : Int) < d.width))
 (K (Dir.mk d.minus d.zero d.plus d.space d.width d.prec d.kind) (2 : Int) (AV.sl l (0 : Nat)))
 (iteP (decide ((255 : Int) < d.prec))
 (K (Dir.mk d.minus d.zero d.plus d.space d.width d.prec d.kind) (2 : Int) (AV.sl l (0 : Nat)))
 (K (Dir.mk d.minus d.zero d.plus d.space d.width d.prec d.kind) (0 : Int) (AV.sl l (0 : Nat))))))))))
 (iteP (d.prec == (-2 : Int))
 (iteP (d.kind != (37 : Int))
 (iteP (decide ((↑(List.length l) : Int) < (2 : Int)))
 (K (Dir.mk d.minus d.zero d.plus d.space d.width d.prec d.kind) (18 : Int) (AV.sl l (0 : Nat)))
 (iteP (d.width == (-2 : Int))
 ((sB (AV.sl l (0 : Nat)) = sB (AV.sl l (0 : Nat)) ∧ (1 : Nat) ≤ List.length l ∧ goodsB l = true) ∧
 ∀ (x : Int),
 x = takeF l →
 iteP (decide (x < (0 : Int)))
 (iteP (d.prec == (-2 : Int))
 ((sB (AV.sl (List.drop (1 : Nat) l) (0 : Nat)) = sB (AV.sl (List.drop (1 : Nat) l) (0 : Nat)) ∧
 (1 : Nat) ≤ (List.drop (1 : Nat) l).length ∧ goodsB (List.drop (1 : Nat) l) = true) ∧
 ∀ (x_1 : Int),
 x_1 = takeF (List.drop (1 : Nat) l) →
 iteP (decide ((255 : Int) < IntKind.i64.wrap ((0 : Int) - x)))
 (K
 (Dir.mk true d.zero d.plus d.space (IntKind.i64.wrap ((0 : Int) - x)) (max x_1 (-1 : Int))
 d.kind)
 (2 : Int) (AV.sl (List.drop (1 : Nat) (List.drop (1 : Nat) l)) (0 : Nat)))
 (iteP (decide ((255 : Int) < max x_1 (-1 : Int)))
 (K
 (Dir.mk true d.zero d.plus d.space (IntKind.i64.wrap ((0 : Int) - x))
 (max x_1 (-1 : Int)) d.kind)
 (2 : Int) (AV.sl (List.drop (1 : Nat) (List.drop (1 : Nat) l)) (0 : Nat)))
 (K
 (Dir.mk true d.zero d.plus d.space (IntKind.i64.wrap ((0 : Int) - x))
 (max x_1 (-1 : Int)) d.kind)
 (0 : Int) (AV.sl (List.drop (1 : Nat) (List.drop (1 : Nat) l)) (0 : Nat)))))
 (iteP (decide ((255 : Int) < IntKind.i64.wrap ((0 : Int) - x)))
 (K (Dir.mk true d.zero d.plus d.space (IntKind.i64.wrap ((0 : Int) - x)) d.prec d.kind) (2 : Int)
 (AV.sl (List.drop (1 : Nat) l) (0 : Nat)))
 (iteP (decide ((255 : Int) < d.prec))
 (K (Dir.mk true d.zero d.plus d.space (IntKind.i64.wrap ((0 : Int) - x)) d.prec d.kind)
 (2 : Int) (AV.sl (List.drop (1 : Nat) l) (0 : Nat)))
 (K (Dir.mk true d.zero d.plus d.space (IntKind.i64.wrap ((0 : Int) - x)) d.prec d.kind)
 (0 : Int) (AV.sl (List.drop (1 : Nat) l) (0 : Nat))))))
 (iteP (d.prec == (-2 : Int))
 ((sB (AV.sl (List.drop (1 : Nat) l) (0 : Nat)) = sB (AV.sl (List.drop (1 : Nat) l) (0 : Nat)) ∧
 (1 : Nat) ≤ (List.drop (1 : Nat) l).length ∧ goodsB (List.drop (1 : Nat) l) = true) ∧
 ∀ (x_1 : Int),
 x_1 = takeF (List.drop (1 : Nat) l) →
 iteP (decide ((255 : Int) < x))
 (K (Dir.mk d.minus d.zero d.plus d.space x (max x_1 (-1 : Int)) d.kind) (2 : Int)
 (AV.sl (List.drop (1 : Nat) (List.drop (1 : Nat) l)) (0 : Nat)))
 (iteP (decide ((255 : Int) < max x_1 (-1 : Int)))
 (K (Dir.mk d.minus d.zero d.plus d.space x (max x_1 (-1 : Int)) d.kind) (2 : Int)
 (AV.sl (List.drop (1 : Nat) (List.drop (1 : Nat) l)) (0 : Nat)))
 (K (Dir.mk d.minus d.zero d.plus d.space x (max x_1 (-1 : Int)) d.kind) (0 : Int)
 (AV.sl (List.drop (1 : Nat) (List.drop (1 : Nat) l)) (0 : Nat)))))
 (iteP (decide ((255 : Int) < x))
 (K (Dir.mk d.minus d.zero d.plus d.space x d.prec d.kind) (2 : Int)
 (AV.sl (List.drop (1 : Nat) l) (0 : Nat)))
 (iteP (decide ((255 : Int) < d.prec))
 (K (Dir.mk d.minus d.zero d.plus d.space x d.prec d.kind) (2 : Int)
 (AV.sl (List.drop (1 : Nat) l) (0 : Nat)))
 (K (Dir.mk d.minus d.zero d.plus d.space x d.prec d.kind) (0 : Int)
 (AV.sl (List.drop (1 : Nat) l) (0 : Nat)))))))
 (iteP (d.prec == (-2 : Int))
 ((sB (AV.sl l (0 : Nat)) = sB (AV.sl l (0 : Nat)) ∧ (1 : Nat) ≤ List.length l ∧ goodsB l = true) ∧
 ∀ (x : Int),
 x = takeF l →
 iteP (decide ((255 : Int) < d.width))
 (K (Dir.mk d.minus d.zero d.plus d.space d.width (max x (-1 : Int)) d.kind) (2 : Int)
 (AV.sl (List.drop (1 : Nat) l) (0 : Nat)))
 (iteP (decide ((255 : Int) < max x (-1 : Int)))
 (K (Dir.mk d.minus d.zero d.plus d.space d.width (max x (-1 : Int)) d.kind) (2 : Int)
 (AV.sl (List.drop (1 : Nat) l) (0 : Nat)))
 (K (Dir.mk d.minus d.zero d.plus d.space d.width (max x (-1 : Int)) d.kind) (0 : Int)
 (AV.sl (List.drop (1 : Nat) l) (0 : Nat)))))
 (iteP (decide ((255 : Int) < d.width))
 (K (Dir.mk d.minus d.zero d.plus d.space d.width d.prec d.kind) (2 : Int) (AV.sl l (0 : Nat)))
 (iteP (decide ((255 : Int) < d.prec))
 (K (Dir.mk d.minus d.zero d.plus d.space d.width d.prec d.kind) (2 : Int) (AV.sl l (0 : Nat)))
 (K (Dir.mk d.minus d.zero d.plus d.space d.width d.prec d.kind) (0 : Int) (AV.sl l (0 : Nat))))))))
 (iteP (decide ((↑(List.length l) : Int) < (1 : Int)))
 (K (Dir.mk d.minus d.zero d.plus d.space d.width d.prec d.kind) (18 : Int) (AV.sl l (0 : Nat)))
 (iteP (d.width == (-2 : Int))
 ((sB (AV.sl l (0 : Nat)) = sB (AV.sl l (0 : Nat)) ∧ (1 : Nat) ≤ List.length l ∧ goodsB l = true) ∧
 ∀ (x : Int),
 x = takeF l →
 iteP (decide (x < (0 : Int)))
 (iteP (d.prec == (-2 : Int))
 ((sB (AV.sl (List.drop (1 : Nat) l) (0 : Nat)) = sB (AV.sl (List.drop (1 : Nat) l) (0 : Nat)) ∧
 (1 : Nat) ≤ (List.drop (1 : Nat) l).length ∧ goodsB (List.drop (1 : Nat) l) = true) ∧
 ∀ (x_1 : Int),
 x_1 = takeF (List.drop (1 : Nat) l) →
 iteP (decide ((255 : Int) < IntKind.i64.wrap ((0 : Int) - x)))
 (K
 (Dir.mk true d.zero d.plus d.space (IntKind.i64.wrap ((0 : Int) - x)) (max x_1 (-1 : Int))
 d.kind)
 (2 : Int) (AV.sl (List.drop (1 : Nat) (List.drop (1 : Nat) l)) (0 : Nat)))
 (iteP (decide ((255 : Int) < max x_1 (-1 : Int)))
 (K
 (Dir.mk true d.zero d.plus d.space (IntKind.i64.wrap ((0 : Int) - x))
 (max x_1 (-1 : Int)) d.kind)
 (2 : Int) (AV.sl (List.drop (1 : Nat) (List.drop (1 : Nat) l)) (0 : Nat)))
 (K
 (Dir.mk true d.zero d.plus d.space (IntKind.i64.wrap ((0 : Int) - x))
 (max x_1 (-1 : Int)) d.kind)
 (0 : Int) (AV.sl (List.drop (1 : Nat) (List.drop (1 : Nat) l)) (0 : Nat)))))
 (iteP (decide ((255 : Int) < IntKind.i64.wrap ((0 : Int) - x)))
 (K (Dir.mk true d.zero d.plus d.space (IntKind.i64.wrap ((0 : Int) - x)) d.prec d.kind) (2 : Int)
 (AV.sl (List.drop (1 : Nat) l) (0 : Nat)))
 (iteP (decide ((255 : Int) < d.prec))
 (K (Dir.mk true d.zero d.plus d.space (IntKind.i64.wrap ((0 : Int) - x)) d.prec d.kind)
 (2 : Int) (AV.sl (List.drop (1 : Nat) l) (0 : Nat)))
 (K (Dir.mk true d.zero d.plus d.space (IntKind.i64.wrap ((0 : Int) - x)) d.prec d.kind)
 (0 : Int) (AV.sl (List.drop (1 : Nat) l) (0 : Nat))))))
 (iteP (d.prec == (-2 : Int))
 ((sB (AV.sl (List.drop (1 : Nat) l) (0 : Nat)) = sB (AV.sl (List.drop (1 : Nat) l) (0 : Nat)) ∧
 (1 : Nat) ≤ (List.drop (1 : Nat) l).length ∧ goodsB (List.drop (1 : Nat) l) = true) ∧
 ∀ (x_1 : Int),
 x_1 = takeF (List.drop (1 : Nat) l) →
 iteP (decide ((255 : Int) < x))
 (K (Dir.mk d.minus d.zero d.plus d.space x (max x_1 (-1 : Int)) d.kind) (2 : Int)
 (AV.sl (List.drop (1 : Nat) (List.drop (1 : Nat) l)) (0 : Nat)))
 (iteP (decide ((255 : Int) < max x_1 (-1 : Int)))
 (K (Dir.mk d.minus d.zero d.plus d.space x (max x_1 (-1 : Int)) d.kind) (2 : Int)
 (AV.sl (List.drop (1 : Nat) (List.drop (1 : Nat) l)) (0 : Nat)))
 (K (Dir.mk d.minus d.zero d.plus d.space x (max x_1 (-1 : Int)) d.kind) (0 : Int)
 (AV.sl (List.drop (1 : Nat) (List.drop (1 : Nat) l)) (0 : Nat)))))
 (iteP (decide ((255 : Int) < x))
 (K (Dir.mk d.minus d.zero d.plus d.space x d.prec d.kind) (2 : Int)
 (AV.sl (List.drop (1 : Nat) l) (0 : Nat)))
 (iteP (decide ((255 : Int) < d.prec))
 (K (Dir.mk d.minus d.zero d.plus d.space x d.prec d.kind) (2 : Int)
 (AV.sl (List.drop (1 : Nat) l) (0 : Nat)))
 (K (Dir.mk d.minus d.zero d.plus d.space x d.prec d.kind) (0 : Int)
 (AV.sl (List.drop (1 : Nat) l) (0 : Nat)))))))
 (iteP (d.prec == (-2 : Int))
 ((sB (AV.sl l (0 : Nat)) = sB (AV.sl l (0 : Nat)) ∧ (1 : Nat) ≤ List.length l ∧ goodsB l = true) ∧
 ∀ (x : Int),
 x = takeF l →
 iteP (decide ((255 : Int) < d.width))
 (K (Dir.mk d.minus d.zero d.plus d.space d.width (max x (-1 : Int)) d.kind) (2 : Int)
 (AV.sl (List.drop (1 : Nat) l) (0 : Nat)))
 (iteP (decide ((255 : Int) < max x (-1 : Int)))
 (K (Dir.mk d.minus d.zero d.plus d.space d.width (max x (-1 : Int)) d.kind) (2 : Int)
 (AV.sl (List.drop (1 : Nat) l) (0 : Nat)))
 (K (Dir.mk d.minus d.zero d.plus d.space d.width (max x (-1 : Int)) d.kind) (0 : Int)
 (AV.sl (List.drop (1 : Nat) l) (0 : Nat)))))
 (iteP (decide ((255 : Int) < d.width))
 (K (Dir.mk d.minus d.zero d.plus d.space d.width d.prec d.kind) (2 : Int) (AV.sl l (0 : Nat)))
 (iteP (decide ((255 : Int) < d.prec))
 (K (Dir.mk d.minus d.zero d.plus d.space d.width d.prec d.kind) (2 : Int) (AV.sl l (0 : Nat)))
 (K (Dir.mk d.minus d.zero d.plus d.space d.width d.prec d.kind) (0 : Int) (AV.sl l (0 : Nat)))))))))
 (iteP (d.kind != (37 : Int))
 (iteP (decide ((↑(List.length l) : Int) < (1 : Int)))
 (K (Dir.mk d.minus d.zero d.plus d.space d.width d.prec d.kind) (18 : Int) (AV.sl l (0 : Nat)))
 (iteP (d.width == (-2 : Int))
 ((sB (AV.sl l (0 : Nat)) = sB (AV.sl l (0 : Nat)) ∧ (1 : Nat) ≤ List.length l ∧ goodsB l = true) ∧
 ∀ (x : Int),
 x = takeF l →
 iteP (decide (x < (0 : Int)))
 (iteP (d.prec == (-2 : Int))
 ((sB (AV.sl (List.drop (1 : Nat) l) (0 : Nat)) = sB (AV.sl (List.drop (1 : Nat) l) (0 : Nat)) ∧
 (1 : Nat) ≤ (List.drop (1 : Nat) l).length ∧ goodsB (List.drop (1 : Nat) l) = true) ∧
 ∀ (x_1 : Int),
 x_1 = takeF (List.drop (1 : Nat) l) →
 iteP (decide ((255 : Int) < IntKind.i64.wrap ((0 : Int) - x)))
 (K
 (Dir.mk true d.zero d.plus d.space (IntKind.i64.wrap ((0 : Int) - x)) (max x_1 (-1 : Int))
 d.kind)
 (2 : Int) (AV.sl (List.drop (1 : Nat) (List.drop (1 : Nat) l)) (0 : Nat)))
 (iteP (decide ((255 : Int) < max x_1 (-1 : Int)))
 (K
 (Dir.mk true d.zero d.plus d.space (IntKind.i64.wrap ((0 : Int) - x))
 (max x_1 (-1 : Int)) d.kind)
 (2 : Int) (AV.sl (List.drop (1 : Nat) (List.drop (1 : Nat) l)) (0 : Nat)))
 (K
 (Dir.mk true d.zero d.plus d.space (IntKind.i64.wrap ((0 : Int) - x))
 (max x_1 (-1 : Int)) d.kind)
 (0 : Int) (AV.sl (List.drop (1 : Nat) (List.drop (1 : Nat) l)) (0 : Nat)))))
 (iteP (decide ((255 : Int) < IntKind.i64.wrap ((0 : Int) - x)))
 (K (Dir.mk true d.zero d.plus d.space (IntKind.i64.wrap ((0 : Int) - x)) d.prec d.kind) (2 : Int)
 (AV.sl (List.drop (1 : Nat) l) (0 : Nat)))
 (iteP (decide ((255 : Int) < d.prec))
 (K (Dir.mk true d.zero d.plus d.space (IntKind.i64.wrap ((0 : Int) - x)) d.prec d.kind)
 (2 : Int) (AV.sl (List.drop (1 : Nat) l) (0 : Nat)))
 (K (Dir.mk true d.zero d.plus d.space (IntKind.i64.wrap ((0 : Int) - x)) d.prec d.kind)
 (0 : Int) (AV.sl (List.drop (1 : Nat) l) (0 : Nat))))))
 (iteP (d.prec == (-2 : Int))
 ((sB (AV.sl (List.drop (1 : Nat) l) (0 : Nat)) = sB (AV.sl (List.drop (1 : Nat) l) (0 : Nat)) ∧
 (1 : Nat) ≤ (List.drop (1 : Nat) l).length ∧ goodsB (List.drop (1 : Nat) l) = true) ∧
 ∀ (x_1 : Int),
 x_1 = takeF (List.drop (1 : Nat) l) →
 iteP (decide ((255 : Int) < x))
 (K (Dir.mk d.minus d.zero d.plus d.space x (max x_1 (-1 : Int)) d.kind) (2 : Int)
 (AV.sl (List.drop (1 : Nat) (List.drop (1 : Nat) l)) (0 : Nat)))
 (iteP (decide ((255 : Int) < max x_1 (-1 : Int)))
 (K (Dir.mk d.minus d.zero d.plus d.space x (max x_1 (-1 : Int)) d.kind) (2 : Int)
 (AV.sl (List.drop (1 : Nat) (List.drop (1 : Nat) l)) (0 : Nat)))
 (K (Dir.mk d.minus d.zero d.plus d.space x (max x_1 (-1 : Int)) d.kind) (0 : Int)
 (AV.sl (List.drop (1 : Nat) (List.drop (1 : Nat) l)) (0 : Nat)))))
 (iteP (decide ((255 : Int) < x))
 (K (Dir.mk d.minus d.zero d.plus d.space x d.prec d.kind) (2 : Int)
 (AV.sl (List.drop (1 : Nat) l) (0 : Nat)))
 (iteP (decide ((255 : Int) < d.prec))
 (K (Dir.mk d.minus d.zero d.plus d.space x d.prec d.kind) (2 : Int)
 (AV.sl (List.drop (1 : Nat) l) (0 : Nat)))
 (K (Dir.mk d.minus d.zero d.plus d.space x d.prec d.kind) (0 : Int)
 (AV.sl (List.drop (1 : Nat) l) (0 : Nat)))))))
 (iteP (d.prec == (-2 : Int))
 ((sB (AV.sl l (0 : Nat)) = sB (AV.sl l (0 : Nat)) ∧ (1 : Nat) ≤ List.length l ∧ goodsB l = true) ∧
 ∀ (x : Int),
 x = takeF l →
 iteP (decide ((255 : Int) < d.width))
 (K (Dir.mk d.minus d.zero d.plus d.space d.width (max x (-1 : Int)) d.kind) (2 : Int)
 (AV.sl (List.drop (1 : Nat) l) (0 : Nat)))
 (iteP (decide ((255 : Int) < max x (-1 : Int)))
 (K (Dir.mk d.minus d.zero d.plus d.space d.width (max x (-1 : Int)) d.kind) (2 : Int)
 (AV.sl (List.drop (1 : Nat) l) (0 : Nat)))
 (K (Dir.mk d.minus d.zero d.plus d.space d.width (max x (-1 : Int)) d.kind) (0 : Int)
 (AV.sl (List.drop (1 : Nat) l) (0 : Nat)))))
 (iteP (decide ((255 : Int) < d.width))
 (K (Dir.mk d.minus d.zero d.plus d.space d.width d.prec d.kind) (2 : Int) (AV.sl l (0 : Nat)))
 (iteP (decide ((255 : Int) < d.prec))
 (K (Dir.mk d.minus d.zero d.plus d.space d.width d.prec d.kind) (2 : Int) (AV.sl l (0 : Nat)))
 (K (Dir.mk d.minus d.zero d.plus d.space d.width d.prec d.kind) (0 : Int) (AV.sl l (0 : Nat))))))))
 (iteP (d.width == (-2 : Int))
 ((sB (AV.sl l (0 : Nat)) = sB (AV.sl l (0 : Nat)) ∧ (1 : Nat) ≤ List.length l ∧ goodsB l = true) ∧
 ∀ (x : Int),
 x = takeF l →
 iteP (decide (x < (0 : Int)))
 (iteP (d.prec == (-2 : Int))
 ((sB (AV.sl (List.drop (1 : Nat) l) (0 : Nat)) = sB (AV.sl (List.drop (1 : Nat) l) (0 : Nat)) ∧
 (1 : Nat) ≤ (List.drop (1 : Nat) l).length ∧ goodsB (List.drop (1 : Nat) l) = true) ∧
 ∀ (x_1 : Int),
 x_1 = takeF (List.drop (1 : Nat) l) →
 iteP (decide ((255 : Int) < IntKind.i64.wrap ((0 : Int) - x)))
 (K
 (Dir.mk true d.zero d.plus d.space (IntKind.i64.wrap ((0 : Int) - x)) (max x_1 (-1 : Int))
 d.kind)
 (2 : Int) (AV.sl (List.drop (1 : Nat) (List.drop (1 : Nat) l)) (0 : Nat)))
 (iteP (decide ((255 : Int) < max x_1 (-1 : Int)))
 (K
 (Dir.mk true d.zero d.plus d.space (IntKind.i64.wrap ((0 : Int) - x)) (max x_1 (-1 : Int))
 d.kind)
 (2 : Int) (AV.sl (List.drop (1 : Nat) (List.drop (1 : Nat) l)) (0 : Nat)))
 (K
 (Dir.mk true d.zero d.plus d.space (IntKind.i64.wrap ((0 : Int) - x)) (max x_1 (-1 : Int))
 d.kind)
 (0 : Int) (AV.sl (List.drop (1 : Nat) (List.drop (1 : Nat) l)) (0 : Nat)))))
 (iteP (decide ((255 : Int) < IntKind.i64.wrap ((0 : Int) - x)))
 (K (Dir.mk true d.zero d.plus d.space (IntKind.i64.wrap ((0 : Int) - x)) d.prec d.kind) (2 : Int)
 (AV.sl (List.drop (1 : Nat) l) (0 : Nat)))
 (iteP (decide ((255 : Int) < d.prec))
 (K (Dir.mk true d.zero d.plus d.space (IntKind.i64.wrap ((0 : Int) - x)) d.prec d.kind) (2 : Int)
 (AV.sl (List.drop (1 : Nat) l) (0 : Nat)))
 (K (Dir.mk true d.zero d.plus d.space (IntKind.i64.wrap ((0 : Int) - x)) d.prec d.kind) (0 : Int)
 (AV.sl (List.drop (1 : Nat) l) (0 : Nat))))))
 (iteP (d.prec == (-2 : Int))
 ((sB (AV.sl (List.drop (1 : Nat) l) (0 : Nat)) = sB (AV.sl (List.drop (1 : Nat) l) (0 : Nat)) ∧
 (1 : Nat) ≤ (List.drop (1 : Nat) l).length ∧ goodsB (List.drop (1 : Nat) l) = true) ∧
 ∀ (x_1 : Int),
 x_1 = takeF (List.drop (1 : Nat) l) →
 iteP (decide ((255 : Int) < x))
 (K (Dir.mk d.minus d.zero d.plus d.space x (max x_1 (-1 : Int)) d.kind) (2 : Int)
 (AV.sl (List.drop (1 : Nat) (List.drop (1 : Nat) l)) (0 : Nat)))
 (iteP (decide ((255 : Int) < max x_1 (-1 : Int)))
 (K (Dir.mk d.minus d.zero d.plus d.space x (max x_1 (-1 : Int)) d.kind) (2 : Int)
 (AV.sl (List.drop (1 : Nat) (List.drop (1 : Nat) l)) (0 : Nat)))
 (K (Dir.mk d.minus d.zero d.plus d.space x (max x_1 (-1 : Int)) d.kind) (0 : Int)
 (AV.sl (List.drop (1 : Nat) (List.drop (1 : Nat) l)) (0 : Nat)))))
 (iteP (decide ((255 : Int) < x))
 (K (Dir.mk d.minus d.zero d.plus d.space x d.prec d.kind) (2 : Int)
 (AV.sl (List.drop (1 : Nat) l) (0 : Nat)))
 (iteP (decide ((255 : Int) < d.prec))
 (K (Dir.mk d.minus d.zero d.plus d.space x d.prec d.kind) (2 : Int)
 (AV.sl (List.drop (1 : Nat) l) (0 : Nat)))
 (K (Dir.mk d.minus d.zero d.plus d.space x d.prec d.kind) (0 : Int)
 (AV.sl (List.drop (1 : Nat) l) (0 : Nat)))))))
 (iteP (d.prec == (-2 : Int))
 ((sB (AV.sl l (0 : Nat)) = sB (AV.sl l (0 : Nat)) ∧ (1 : Nat) ≤ List.length l ∧ goodsB l = true) ∧
 ∀ (x : Int),
 x = takeF l →
 iteP (decide ((255 : Int) < d.width))
 (K (Dir.mk d.minus d.zero d.plus d.space d.width (max x (-1 : Int)) d.kind) (2 : Int)
 (AV.sl (List.drop (1 : Nat) l) (0 : Nat)))
 (iteP (decide ((255 : Int) < max x (-1 : Int)))
 (K (Dir.mk d.minus d.zero d.plus d.space d.width (max x (-1 : Int)) d.kind) (2 : Int)
 (AV.sl (List.drop (1 : Nat) l) (0 : Nat)))
 (K (Dir.mk d.minus d.zero d.plus d.space d.width (max x (-1 : Int)) d.kind) (0 : Int)
 (AV.sl (List.drop (1 : Nat) l) (0 : Nat)))))
 (iteP (decide ((255 : Int) < d.width))
 (K (Dir.mk d.minus d.zero d.plus d.space d.width d.prec d.kind) (2 : Int) (AV.sl l (0 : Nat)))
 (iteP (decide ((255 : Int) < d.prec))
 (K (Dir.mk d.minus d.zero d.plus d.space d.width d.prec d.kind) (2 : Int) (AV.sl l (0 : Nat)))
 (K (Dir.mk d.minus d.zero d.plus d.space d.width d.prec d.kind) (0 : Int) (AV.sl l (0 : Nat)))))))))) :
 (fun (d : Dir) (l : Cells) (K : Dir → Int → AV → Prop) => wpCall Q2 Door.cfg Tryd.prog 40 23 [.ptr 1 0, .agg d.cells] (hB (.sl l 0)) fun r h' => wasDir r fun d' e => rdB h' fun a => K d' e a) d l K :=
 Eq.mp (by kernel_rfl) h

theorem d23c (d : Dir) (l : Cells) (b : Cells) (n : Nat) (K : Dir → Int → AV → Cells → Nat → Prop) (h :
 iteP (d.width == (-2 : Int))
 (iteP (d.prec == (-2 : Int))
 (iteP (d.kind != (37 : Int))
 (iteP (decide ((↑(List.length l) : Int) < (3 : Int)))
 (K (Dir.mk d.minus d.zero d.plus d.space d.width d.prec d.kind) (18 : Int) (AV.sl l (0 : Nat)) b n)
 (iteP (d.width == (-2 : Int))
 ((sC (AV.sl l (0 : Nat))
 (hBytes
 (Heap.mk (5 : Nat)
 (((Tr.leaf.node (some (AObj.cells [AV.ptr (3 : Nat) (0 : Nat), AV.sl b (5 : Nat)])) Tr.leaf).node
 (some (AObj.cells [AV.sl l (0 : Nat)])) Tr.leaf).node
 none
 ((Tr.leaf.node (some (AObj.own (1 : Nat) (5 : Nat) n)) Tr.leaf).node
 (some (AObj.cells [AV.ptr (1 : Nat) (0 : Nat)])) Tr.leaf))
 (1 : Nat)
 (((Tr.leaf.node (some ((54 : Nat), (2 : Nat))) Tr.leaf).node (some ((51 : Nat), (1 : Nat)))
 Tr.leaf).node
 none (Tr.leaf.node (some ((49 : Nat), (1 : Nat))) Tr.leaf))))
 (hN
 (Heap.mk (5 : Nat)
 (((Tr.leaf.node (some (AObj.cells [AV.ptr (3 : Nat) (0 : Nat), AV.sl b (5 : Nat)])) Tr.leaf).node
 (some (AObj.cells [AV.sl l (0 : Nat)])) Tr.leaf).node
 none
 ((Tr.leaf.node (some (AObj.own (1 : Nat) (5 : Nat) n)) Tr.leaf).node
 (some (AObj.cells [AV.ptr (1 : Nat) (0 : Nat)])) Tr.leaf))
 (1 : Nat)
 (((Tr.leaf.node (some ((54 : Nat), (2 : Nat))) Tr.leaf).node (some ((51 : Nat), (1 : Nat)))
 Tr.leaf).node
 none (Tr.leaf.node (some ((49 : Nat), (1 : Nat))) Tr.leaf)))) =
 sC (AV.sl l (0 : Nat))
 (hBytes
 (Heap.mk (5 : Nat)
 (((Tr.leaf.node (some (AObj.cells [AV.ptr (3 : Nat) (0 : Nat), AV.sl b (5 : Nat)])) Tr.leaf).node
 (some (AObj.cells [AV.sl l (0 : Nat)])) Tr.leaf).node
 none
 ((Tr.leaf.node (some (AObj.own (1 : Nat) (5 : Nat) n)) Tr.leaf).node
 (some (AObj.cells [AV.ptr (1 : Nat) (0 : Nat)])) Tr.leaf))
 (1 : Nat)
 (((Tr.leaf.node (some ((54 : Nat), (2 : Nat))) Tr.leaf).node (some ((51 : Nat), (1 : Nat)))
 Tr.leaf).node
 none (Tr.leaf.node (some ((49 : Nat), (1 : Nat))) Tr.leaf))))
 (hN
 (Heap.mk (5 : Nat)
 (((Tr.leaf.node (some (AObj.cells [AV.ptr (3 : Nat) (0 : Nat), AV.sl b (5 : Nat)])) Tr.leaf).node
 (some (AObj.cells [AV.sl l (0 : Nat)])) Tr.leaf).node
 none
 ((Tr.leaf.node (some (AObj.own (1 : Nat) (5 : Nat) n)) Tr.leaf).node
 (some (AObj.cells [AV.ptr (1 : Nat) (0 : Nat)])) Tr.leaf))
 (1 : Nat)
 (((Tr.leaf.node (some ((54 : Nat), (2 : Nat))) Tr.leaf).node (some ((51 : Nat), (1 : Nat)))
 Tr.leaf).node
 none (Tr.leaf.node (some ((49 : Nat), (1 : Nat))) Tr.leaf)))) ∧
 (1 : Nat) ≤ List.length l ∧ goodsB l = true) ∧
 ∀ (x : Int),
 x = takeF l →
 iteP (decide (x < (0 : Int)))
 (iteP (d.prec == (-2 : Int))
 ((sC (AV.sl (List.drop (1 : Nat) l) (0 : Nat))
 (hBytes
 (Heap.mk (OfNat.ofNat (5 : Nat))
 (((Tr.leaf.node (some (AObj.cells [AV.ptr (3 : Nat) (0 : Nat), AV.sl b (5 : Nat)]))
 Tr.leaf).node
 (some (AObj.cells [AV.sl (List.drop (1 : Nat) l) (0 : Nat)])) Tr.leaf).node
 none
 ((Tr.leaf.node (some (AObj.own (1 : Nat) (5 : Nat) n)) Tr.leaf).node
 (some (AObj.cells [AV.ptr (1 : Nat) (0 : Nat)])) Tr.leaf))
 (OfNat.ofNat (1 : Nat))
 (((Tr.leaf.node (some ((54 : Nat), (2 : Nat))) Tr.leaf).node
 (some ((51 : Nat), (1 : Nat))) Tr.leaf).node
 none (Tr.leaf.node (some ((49 : Nat), (1 : Nat))) Tr.leaf))))
 (hN
 (Heap.mk (OfNat.ofNat (5 : Nat))
 (((Tr.leaf.node (some (AObj.cells [AV.ptr (3 : Nat) (0 : Nat), AV.sl b (5 : Nat)]))
 Tr.leaf).node
 (some (AObj.cells [AV.sl (List.drop (1 : Nat) l) (0 : Nat)])) Tr.leaf).node
 none
 ((Tr.leaf.node (some (AObj.own (1 : Nat) (5 : Nat) n)) Tr.leaf).node
 (some (AObj.cells [AV.ptr (1 : Nat) (0 : Nat)])) Tr.leaf))
 (OfNat.ofNat (1 : Nat))
 (((Tr.leaf.node (some ((54 : Nat), (2 : Nat))) Tr.leaf).node
 (some ((51 : Nat), (1 : Nat))) Tr.leaf).node
 none (Tr.leaf.node (some ((49 : Nat), (1 : Nat))) Tr.leaf)))) =
 sC (AV.sl (List.drop (1 : Nat) l) (0 : Nat))
 (hBytes
 (Heap.mk (OfNat.ofNat (5 : Nat))
 (((Tr.leaf.node (some (AObj.cells [AV.ptr (3 : Nat) (0 : Nat), AV.sl b (5 : Nat)]))
 Tr.leaf).node
 (some (AObj.cells [AV.sl (List.drop (1 : Nat) l) (0 : Nat)])) Tr.leaf).node
 none
 ((Tr.leaf.node (some (AObj.own (1 : Nat) (5 : Nat) n)) Tr.leaf).node
 (some (AObj.cells [AV.ptr (1 : Nat) (0 : Nat)])) Tr.leaf))
 (OfNat.ofNat (1 : Nat))
 (((Tr.leaf.node (some ((54 : Nat), (2 : Nat))) Tr.leaf).node
 (some ((51 : Nat), (1 : Nat))) Tr.leaf).node
 none (Tr.leaf.node (some ((49 : Nat), (1 : Nat))) Tr.leaf))))
 (hN
 (Heap.mk (OfNat.ofNat (5 : Nat))
 (((Tr.leaf.node (some (AObj.cells [AV.ptr (3 : Nat) (0 : Nat), AV.sl b (5 : Nat)]))
 Tr.leaf).node
 (some (AObj.cells [AV.sl (List.drop (1 : Nat) l) (0 : Nat)])) Tr.leaf).node
 none
 ((Tr.leaf.node (some (AObj.own (1 : Nat) (5 : Nat) n)) Tr.leaf).node
 (some (AObj.cells [AV.ptr (1 : Nat) (0 : Nat)])) Tr.leaf))
 (OfNat.ofNat (1 : Nat))
 (((Tr.leaf.node (some ((54 : Nat), (2 : Nat))) Tr.leaf).node
 (some ((51 : Nat), (1 : Nat))) Tr.leaf).node
 none (Tr.leaf.node (some ((49 : Nat), (1 : Nat))) Tr.leaf)))) ∧
 (1 : Nat) ≤ (List.drop (1 : Nat) l).length ∧ goodsB (List.drop (1 : Nat) l) = true) ∧
 ∀ (x_1 : Int),
 x_1 = takeF (List.drop (1 : Nat) l) →
 iteP (decide ((255 : Int) < IntKind.i64.wrap ((0 : Int) - x)))
 (K
 (Dir.mk true d.zero d.plus d.space (IntKind.i64.wrap ((0 : Int) - x)) (max x_1 (-1 : Int))
 d.kind)
 (2 : Int) (AV.sl (List.drop (1 : Nat) (List.drop (1 : Nat) l)) (0 : Nat)) b n)
 (iteP (decide ((255 : Int) < max x_1 (-1 : Int)))
 (K
 (Dir.mk true d.zero d.plus d.space (IntKind.i64.wrap ((0 : Int) - x))
 (max x_1 (-1 : Int)) d.kind)
 (2 : Int) (AV.sl (List.drop (1 : Nat) (List.drop (1 : Nat) l)) (0 : Nat)) b n)
 (K
 (Dir.mk true d.zero d.plus d.space (IntKind.i64.wrap ((0 : Int) - x))
 (max x_1 (-1 : Int)) d.kind)
 (0 : Int) (AV.sl (List.drop (1 : Nat) (List.drop (1 : Nat) l)) (0 : Nat)) b n)))
 (iteP (decide ((255 : Int) < IntKind.i64.wrap ((0 : Int) - x)))
 (K (Dir.mk true d.zero d.plus d.space (IntKind.i64.wrap ((0 : Int) - x)) d.prec d.kind) (2 : Int)
 (AV.sl (List.drop (1 : Nat) l) (0 : Nat)) b n)
 (iteP (decide ((255 : Int) < d.prec))
 (K (Dir.mk true d.zero d.plus d.space (IntKind.i64.wrap ((0 : Int) - x)) d.prec d.kind)
 (2 : Int) (AV.sl (List.drop (1 : Nat) l) (0 : Nat)) b n)
 (K (Dir.mk true d.zero d.plus d.space (IntKind.i64.wrap ((0 : Int) - x)) d.prec d.kind)
 (0 : Int) (AV.sl (List.drop (1 : Nat) l) (0 : Nat)) b n))))
 (iteP (d.prec == (-2 : Int))
 ((sC (AV.sl (List.drop (1 : Nat) l) (0 : Nat))
 (hBytes
 (Heap.mk (OfNat.ofNat (5 : Nat))
 (((Tr.leaf.node (some (AObj.cells [AV.ptr (3 : Nat) (0 : Nat), AV.sl b (5 : Nat)]))
 Tr.leaf).node
 (some (AObj.cells [AV.sl (List.drop (1 : Nat) l) (0 : Nat)])) Tr.leaf).node
 none
 ((Tr.leaf.node (some (AObj.own (1 : Nat) (5 : Nat) n)) Tr.leaf).node
 (some (AObj.cells [AV.ptr (1 : Nat) (0 : Nat)])) Tr.leaf))
 (OfNat.ofNat (1 : Nat))
 (((Tr.leaf.node (some ((54 : Nat), (2 : Nat))) Tr.leaf).node
 (some ((51 : Nat), (1 : Nat))) Tr.leaf).node
 none (Tr.leaf.node (some ((49 : Nat), (1 : Nat))) Tr.leaf))))
 (hN
 (Heap.mk (OfNat.ofNat (5 : Nat))
 (((Tr.leaf.node (some (AObj.cells [AV.ptr (3 : Nat) (0 : Nat), AV.sl b (5 : Nat)]))
 Tr.leaf).node
 (some (AObj.cells [AV.sl (List.drop (1 : Nat) l) (0 : Nat)])) Tr.leaf).node
 none
 ((Tr.leaf.node (some (AObj.own (1 : Nat) (5 : Nat) n)) Tr.leaf).node
 (some (AObj.cells [AV.ptr (1 : Nat) (0 : Nat)])) Tr.leaf))
 (OfNat.ofNat (1 : Nat))
 (((Tr.leaf.node (some ((54 : Nat), (2 : Nat))) Tr.leaf).node
 (some ((51 : Nat), (1 : Nat))) Tr.leaf).node
 none (Tr.leaf.node (some ((49 : Nat), (1 : Nat))) Tr.leaf)))) =
 sC (AV.sl (List.drop (1 : Nat) l) (0 : Nat))
 (hBytes
 (Heap.mk (OfNat.ofNat (5 : Nat))
 (((Tr.leaf.node (some (AObj.cells [AV.ptr (3 : Nat) (0 : Nat), AV.sl b (5 : Nat)]))
 Tr.leaf).node
 (some (AObj.cells [AV.sl (List.drop (1 : Nat) l) (0 : Nat)])) Tr.leaf).node
 none
 ((Tr.leaf.node (some (AObj.own (1 : Nat) (5 : Nat) n)) Tr.leaf).node
 (some (AObj.cells [AV.ptr (1 : Nat) (0 : Nat)])) Tr.leaf))
 (OfNat.ofNat (1 : Nat))
 (((Tr.leaf.node (some ((54 : Nat), (2 : Nat))) Tr.leaf).node
 (some ((51 : Nat), (1 : Nat))) Tr.leaf).node
 none (Tr.leaf.node (some ((49 : Nat), (1 : Nat))) Tr.leaf))))
 (hN
 (Heap.mk (OfNat.ofNat (5 : Nat))
 (((Tr.leaf.node (some (AObj.cells [AV.ptr (3 : Nat) (0 : Nat), AV.sl b (5 : Nat)]))
 Tr.leaf).node
 (some (AObj.cells [AV.sl (List.drop (1 : Nat) l) (0 : Nat)])) Tr.leaf).node
 none
 ((Tr.leaf.node (some (AObj.own (1 : Nat) (5 : Nat) n)) Tr.leaf).node
 (some (AObj.cells [AV.ptr (1 : Nat) (0 : Nat)])) Tr.leaf))
 (OfNat.ofNat (1 : Nat))
 (((Tr.leaf.node (some ((54 : Nat), (2 : Nat))) Tr.leaf).node
 (some ((51 : Nat), (1 : Nat))) Tr.leaf).node
 none (Tr.leaf.node (some ((49 : Nat), (1 : Nat))) Tr.leaf)))) ∧
 (1 : Nat) ≤ (List.drop (1 : Nat) l).length ∧ goodsB (List.drop (1 : Nat) l) = true) ∧
 ∀ (x_1 : Int),
 x_1 = takeF (List.drop (1 : Nat) l) →
 iteP (decide ((255 : Int) < x))
 (K (Dir.mk d.minus d.zero d.plus d.space x (max x_1 (-1 : Int)) d.kind) (2 : Int)
 (AV.sl (List.drop (1 : Nat) (List.drop (1 : Nat) l)) (0 : Nat)) b n)
 (iteP (decide ((255 : Int) < max x_1 (-1 : Int)))
 (K (Dir.mk d.minus d.zero d.plus d.space x (max x_1 (-1 : Int)) d.kind) (2 : Int)
 (AV.sl (List.drop (1 : Nat) (List.drop (1 : Nat) l)) (0 : Nat)) b n)
 (K (Dir.mk d.minus d.zero d.plus d.space x (max x_1 (-1 : Int)) d.kind) (0 : Int)
 (AV.sl (List.drop (1 : Nat) (List.drop (1 : Nat) l)) (0 : Nat)) b n)))
 (iteP (decide ((255 : Int) < x))
 (K (Dir.mk d.minus d.zero d.plus d.space x d.prec d.kind) (2 : Int)
 (AV.sl (List.drop (1 : Nat) l) (0 : Nat)) b n)
 (iteP (decide ((255 : Int) < d.prec))
 (K (Dir.mk d.minus d.zero d.plus d.space x d.prec d.kind) (2 : Int)
 (AV.sl (List.drop (1 : Nat) l) (0 : Nat)) b n)
 (K (Dir.mk d.minus d.zero d.plus d.space x d.prec d.kind) (0 : Int)
 (AV.sl (List.drop (1 : Nat) l) (0 : Nat)) b n)))))
 (iteP (d.prec == (-2 : Int))
 ((sC (AV.sl l (0 : Nat))
 (hBytes
 (Heap.mk (5 : Nat)
 (((Tr.leaf.node (some (AObj.cells [AV.ptr (3 : Nat) (0 : Nat), AV.sl b (5 : Nat)]))
 Tr.leaf).node
 (some (AObj.cells [AV.sl l (0 : Nat)])) Tr.leaf).node
 none
 ((Tr.leaf.node (some (AObj.own (1 : Nat) (5 : Nat) n)) Tr.leaf).node
 (some (AObj.cells [AV.ptr (1 : Nat) (0 : Nat)])) Tr.leaf))
 (1 : Nat)
 (((Tr.leaf.node (some ((54 : Nat), (2 : Nat))) Tr.leaf).node (some ((51 : Nat), (1 : Nat)))
 Tr.leaf).node
 none (Tr.leaf.node (some ((49 : Nat), (1 : Nat))) Tr.leaf))))
 (hN
 (Heap.mk (5 : Nat)
 (((Tr.leaf.node (some (AObj.cells [AV.ptr (3 : Nat) (0 : Nat), AV.sl b (5 : Nat)]))
 Tr.leaf).node
 (some (AObj.cells [AV.sl l (0 : Nat)])) Tr.leaf).node
 none
 ((Tr.leaf.node (some (AObj.own (1 : Nat) (5 : Nat) n)) Tr.leaf).node
 (some (AObj.cells [AV.ptr (1 : Nat) (0 : Nat)])) Tr.leaf))
 (1 : Nat)
 (((Tr.leaf.node (some ((54 : Nat), (2 : Nat))) Tr.leaf).node (some ((51 : Nat), (1 : Nat)))
 Tr.leaf).node
 none (Tr.leaf.node (some ((49 : Nat), (1 : Nat))) Tr.leaf)))) =
 sC (AV.sl l (0 : Nat))
 (hBytes
 (Heap.mk (5 : Nat)
 (((Tr.leaf.node (some (AObj.cells [AV.ptr (3 : Nat) (0 : Nat), AV.sl b (5 : Nat)]))
 Tr.leaf).node
 (some (AObj.cells [AV.sl l (0 : Nat)])) Tr.leaf).node
 none
 ((Tr.leaf.node (some (AObj.own (1 : Nat) (5 : Nat) n)) Tr.leaf).node
 (some (AObj.cells [AV.ptr (1 : Nat) (0 : Nat)])) Tr.leaf))
 (1 : Nat)
 (((Tr.leaf.node (some ((54 : Nat), (2 : Nat))) Tr.leaf).node (some ((51 : Nat), (1 : Nat)))
 Tr.leaf).node
 none (Tr.leaf.node (some ((49 : Nat), (1 : Nat))) Tr.leaf))))
 (hN
 (Heap.mk (5 : Nat)
 (((Tr.leaf.node (some (AObj.cells [AV.ptr (3 : Nat) (0 : Nat), AV.sl b (5 : Nat)]))
 Tr.leaf).node
 (some (AObj.cells [AV.sl l (0 : Nat)])) Tr.leaf).node
 none
 ((Tr.leaf.node (some (AObj.own (1 : Nat) (5 : Nat) n)) Tr.leaf).node
 (some (AObj.cells [AV.ptr (1 : Nat) (0 : Nat)])) Tr.leaf))
 (1 : Nat)
 (((Tr.leaf.node (some ((54 : Nat), (2 : Nat))) Tr.leaf).node (some ((51 : Nat), (1 : Nat)))
 Tr.leaf).node
 none (Tr.leaf.node (some ((49 : Nat), (1 : Nat))) Tr.leaf)))) ∧
 (1 : Nat) ≤ List.length l ∧ goodsB l = true) ∧
 ∀ (x : Int),
 x = takeF l →
 iteP (decide ((255 : Int) < d.width))
 (K (Dir.mk d.minus d.zero d.plus d.space d.width (max x (-1 : Int)) d.kind) (2 : Int)
 (AV.sl (List.drop (1 : Nat) l) (0 : Nat)) b n)
 (iteP (decide ((255 : Int) < max x (-1 : Int)))
 (K (Dir.mk d.minus d.zero d.plus d.space d.width (max x (-1 : Int)) d.kind) (2 : Int)
 (AV.sl (List.drop (1 : Nat) l) (0 : Nat)) b n)
 (K (Dir.mk d.minus d.zero d.plus d.space d.width (max x (-1 : Int)) d.kind) (0 : Int)
 (AV.sl (List.drop (1 : Nat) l) (0 : Nat)) b n)))
 (iteP (decide ((255 : Int) < d.width))
 (K (Dir.mk d.minus d.zero d.plus d.space d.width d.prec d.kind) (2 : Int) (AV.sl l (0 : Nat)) b n)
 (iteP (decide ((255 : Int) < d.prec))
 (K (Dir.mk d.minus d.zero d.plus d.space d.width d.prec d.kind) (2 : Int) (AV.sl l (0 : Nat)) b n)
 (K (Dir.mk d.minus d.zero d.plus d.space d.width d.prec d.kind) (0 : Int) (AV.sl l (0 : Nat)) b n))))))
 (iteP (decide ((↑(List.length l) : Int) < (2 : Int)))
 (K (Dir.mk d.minus d.zero d.plus d.space d.width d.prec d.kind) (18 : Int) (AV.sl l (0 : Nat)) b n)
 (iteP (d.width == (-2 : Int))
 ((sC (AV.sl l (0 : Nat))
 (hBytes
 (Heap.mk (5 : Nat)
 (((Tr.leaf.node (some (AObj.cells [AV.ptr (3 : Nat) (0 : Nat), AV.sl b (5 : Nat)])) Tr.leaf).node
 (some (AObj.cells [AV.sl l (0 : Nat)])) Tr.leaf).node
 none
 ((Tr.leaf.node (some (AObj.own (1 : Nat) (5 : Nat) n)) Tr.leaf).node
 (some (AObj.cells [AV.ptr (1 : Nat) (0 : Nat)])) Tr.leaf))
 (1 : Nat)
 (((Tr.leaf.node (some ((54 : Nat), (2 : Nat))) Tr.leaf).node (some ((51 : Nat), (1 : Nat)))
 Tr.leaf).node
 none (Tr.leaf.node (some ((49 : Nat), (1 : Nat))) Tr.leaf))))
 (hN
 (Heap.mk (5 : Nat)
 (((Tr.leaf.node (some (AObj.cells [AV.ptr (3 : Nat) (0 : Nat), AV.sl b (5 : Nat)])) Tr.leaf).node
 (some (AObj.cells [AV.sl l (0 : Nat)])) Tr.leaf).node
 none
 ((Tr.leaf.node (some (AObj.own (1 : Nat) (5 : Nat) n)) Tr.leaf).node
 (some (AObj.cells [AV.ptr (1 : Nat) (0 : Nat)])) Tr.leaf))
 (1 : Nat)
 (((Tr.leaf.node (some ((54 : Nat), (2 : Nat))) Tr.leaf).node (some ((51 : Nat), (1 : Nat)))
 Tr.leaf).node
 none (Tr.leaf.node (some ((49 : Nat), (1 : Nat))) Tr.leaf)))) =
 sC (AV.sl l (0 : Nat))
 (hBytes
 (Heap.mk (5 : Nat)
 (((Tr.leaf.node (some (AObj.cells [AV.ptr (3 : Nat) (0 : Nat), AV.sl b (5 : Nat)])) Tr.leaf).node
 (some (AObj.cells [AV.sl l (0 : Nat)])) Tr.leaf).node
 none
 ((Tr.leaf.node (some (AObj.own (1 : Nat) (5 : Nat) n)) Tr.leaf).node
 (some (AObj.cells [AV.ptr (1 : Nat) (0 : Nat)])) Tr.leaf))
 (1 : Nat)
 (((Tr.leaf.node (some ((54 : Nat), (2 : Nat))) Tr.leaf).node (some ((51 : Nat), (1 : Nat)))
 Tr.leaf).node
 none (Tr.leaf.node (some ((49 : Nat), (1 : Nat))) Tr.leaf))))
 (hN
 (Heap.mk (5 : Nat)
 (((Tr.leaf.node (some (AObj.cells [AV.ptr (3 : Nat) (0 : Nat), AV.sl b (5 : Nat)])) Tr.leaf).node
 (some (AObj.cells [AV.sl l (0 : Nat)])) Tr.leaf).node
 none
 ((Tr.leaf.node (some (AObj.own (1 : Nat) (5 : Nat) n)) Tr.leaf).node
 (some (AObj.cells [AV.ptr (1 : Nat) (0 : Nat)])) Tr.leaf))
 (1 : Nat)
 (((Tr.leaf.node (some ((54 : Nat), (2 : Nat))) Tr.leaf).node (some ((51 : Nat), (1 : Nat)))
 Tr.leaf).node
 none (Tr.leaf.node (some ((49 : Nat), (1 : Nat))) Tr.leaf)))) ∧
 (1 : Nat) ≤ List.length l ∧ goodsB l = true) ∧
 ∀ (x : Int),
 x = takeF l →
 iteP (decide (x < (0 : Int)))
 (iteP (d.prec == (-2 : Int))
 ((sC (AV.sl (List.drop (1 : Nat) l) (0 : Nat))
 (hBytes
 (Heap.mk (OfNat.ofNat (5 : Nat))
 (((Tr.leaf.node (some (AObj.cells [AV.ptr (3 : Nat) (0 : Nat), AV.sl b (5 : Nat)]))
 Tr.leaf).node
 (some (AObj.cells [AV.sl (List.drop (1 : Nat) l) (0 : Nat)])) Tr.leaf).node
 none
 ((Tr.leaf.node (some (AObj.own (1 : Nat) (5 : Nat) n)) Tr.leaf).node
 (some (AObj.cells [AV.ptr (1 : Nat) (0 : Nat)])) Tr.leaf))
 (OfNat.ofNat (1 : Nat))
 (((Tr.leaf.node (some ((54 : Nat), (2 : Nat))) Tr.leaf).node
 (some ((51 : Nat), (1 : Nat))) Tr.leaf).node
 none (Tr.leaf.node (some ((49 : Nat), (1 : Nat))) Tr.leaf))))
 (hN
 (Heap.mk (OfNat.ofNat (5 : Nat))
 (((Tr.leaf.node (some (AObj.cells [AV.ptr (3 : Nat) (0 : Nat), AV.sl b (5 : Nat)]))
 Tr.leaf).node
 (some (AObj.cells [AV.sl (List.drop (1 : Nat) l) (0 : Nat)])) Tr.leaf).node
 none
 ((Tr.leaf.node (some (AObj.own (1 : Nat) (5 : Nat) n)) Tr.leaf).node
 (some (AObj.cells [AV.ptr (1 : Nat) (0 : Nat)])) Tr.leaf))
 (OfNat.ofNat (1 : Nat))
 (((Tr.leaf.node (some ((54 : Nat), (2 : Nat))) Tr.leaf).node
 (some ((51 : Nat), (1 : Nat))) Tr.leaf).node
 none (Tr.leaf.node (some ((49 : Nat), (1 : Nat))) Tr.leaf)))) =
 sC (AV.sl (List.drop (1 : Nat) l) (0 : Nat))
 (hBytes
 (Heap.mk (OfNat.ofNat (5 : Nat))
 (((Tr.leaf.node (some (AObj.cells [AV.ptr (3 : Nat) (0 : Nat), AV.sl b (5 : Nat)]))
 Tr.leaf).node
 (some (AObj.cells [AV.sl (List.drop (1 : Nat) l) (0 : Nat)])) Tr.leaf).node
 none
 ((Tr.leaf.node (some (AObj.own (1 : Nat) (5 : Nat) n)) Tr.leaf).node
 (some (AObj.cells [AV.ptr (1 : Nat) (0 : Nat)])) Tr.leaf))
 (OfNat.ofNat (1 : Nat))
 (((Tr.leaf.node (some ((54 : Nat), (2 : Nat))) Tr.leaf).node
 (some ((51 : Nat), (1 : Nat))) Tr.leaf).node
 none (Tr.leaf.node (some ((49 : Nat), (1 : Nat))) Tr.leaf))))
 (hN
 (Heap.mk (OfNat.ofNat (5 : Nat))
 (((Tr.leaf.node (some (AObj.cells [AV.ptr (3 : Nat) (0 : Nat), AV.sl b (5 : Nat)]))
 Tr.leaf).node
 (some (AObj.cells [AV.sl (List.drop (1 : Nat) l) (0 : Nat)])) Tr.leaf).node
 none
 ((Tr.leaf.node (some (AObj.own (1 : Nat) (5 : Nat) n)) Tr.leaf).node
 (some (AObj.cells [AV.ptr (1 : Nat) (0 : Nat)])) Tr.leaf))
 (OfNat.ofNat (1 : Nat))
 (((Tr.leaf.node (some ((54 : Nat), (2 : Nat))) Tr.leaf).node
 (some ((51 : Nat), (1 : Nat))) Tr.leaf).node
 none (Tr.leaf.node (some ((49 : Nat), (1 : Nat))) Tr.leaf)))) ∧
 (1 : Nat) ≤ (List.drop (1 : Nat) l).length ∧ goodsB (List.drop (1 : Nat) l) = true) ∧
 ∀ (x_1 : Int),
 x_1 = takeF (List.drop (1 : Nat) l) →
 iteP (decide ((255 : Int) < IntKind.i64.wrap ((0 : Int) - x)))
 (K
 (Dir.mk true d.zero d.plus d.space (IntKind.i64.wrap ((0 : Int) - x)) (max x_1 (-1 : Int))
 d.kind)
 (2 : Int) (AV.sl (List.drop (1 : Nat) (List.drop (1 : Nat) l)) (0 : Nat)) b n)
 (iteP (decide ((255 : Int) < max x_1 (-1 : Int)))
 (K
 (Dir.mk true d.zero d.plus d.space (IntKind.i64.wrap ((0 : Int) - x))
 (max x_1 (-1 : Int)) d.kind)
 (2 : Int) (AV.sl (List.drop (1 : Nat) (List.drop (1 : Nat) l)) (0 : Nat)) b n)
 (K
 (Dir.mk true d.zero d.plus d.space (IntKind.i64.wrap ((0 : Int) - x))
 (max x_1 (-1 : Int)) d.kind)
 (0 : Int) (AV.sl (List.drop (1 : Nat) (List.drop (1 : Nat) l)) (0 : Nat)) b n)))
 (iteP (decide ((255 : Int) < IntKind.i64.wrap ((0 : Int) - x)))
 (K (Dir.mk true d.zero d.plus d.space (IntKind.i64.wrap ((0 : Int) - x)) d.prec d.kind) (2 : Int)
 (AV.sl (List.drop (1 : Nat) l) (0 : Nat)) b n)
 (iteP (decide ((255 : Int) < d.prec))
 (K (Dir.mk true d.zero d.plus d.space (IntKind.i64.wrap ((0 : Int) - x)) d.prec d.kind)
 (2 : Int) (AV.sl (List.drop (1 : Nat) l) (0 : Nat)) b n)
 (K (Dir.mk true d.zero d.plus d.space (IntKind.i64.wrap ((0 : Int) - x)) d.prec d.kind)
 (0 : Int) (AV.sl (List.drop (1 : Nat) l) (0 : Nat)) b n))))
 (iteP (d.prec == (-2 : Int))
 ((sC (AV.sl (List.drop (1 : Nat) l) (0 : Nat))
 (hBytes
 (Heap.mk (OfNat.ofNat (5 : Nat))
 (((Tr.leaf.node (some (AObj.cells [AV.ptr (3 : Nat) (0 : Nat), AV.sl b (5 : Nat)]))
 Tr.leaf).node
 (some (AObj.cells [AV.sl (List.drop (1 : Nat) l) (0 : Nat)])) Tr.leaf).node
 none
 ((Tr.leaf.node (some (AObj.own (1 : Nat) (5 : Nat) n)) Tr.leaf).node
 (some (AObj.cells [AV.ptr (1 : Nat) (0 : Nat)])) Tr.leaf))
 (OfNat.ofNat (1 : Nat))
 (((Tr.leaf.node (some ((54 : Nat), (2 : Nat))) Tr.leaf).node
 (some ((51 : Nat), (1 : Nat))) Tr.leaf).node
 none (Tr.leaf.node (some ((49 : Nat), (1 : Nat))) Tr.leaf))))
 (hN
 (Heap.mk (OfNat.ofNat (5 : Nat))
 (((Tr.leaf.node (some (AObj.cells [AV.ptr (3 : Nat) (0 : Nat), AV.sl b (5 : Nat)]))
 Tr.leaf).node
 (some (AObj.cells [AV.sl (List.drop (1 : Nat) l) (0 : Nat)])) Tr.leaf).node
 none
 ((Tr.leaf.node (some (AObj.own (1 : Nat) (5 : Nat) n)) Tr.leaf).node
 (some (AObj.cells [AV.ptr (1 : Nat) (0 : Nat)])) Tr.leaf))
 (OfNat.ofNat (1 : Nat))
 (((Tr.leaf.node (some ((54 : Nat), (2 : Nat))) Tr.leaf).node
 (some ((51 : Nat), (1 : Nat))) Tr.leaf).node
 none (Tr.leaf.node (some ((49 : Nat), (1 : Nat))) Tr.leaf)))) =
 sC (AV.sl (List.drop (1 : Nat) l) (0 : Nat))
 (hBytes
 (Heap.mk (OfNat.ofNat (5 : Nat))
 (((Tr.leaf.node (some (AObj.cells [AV.ptr (3 : Nat) (0 : Nat), AV.sl b (5 : Nat)]))
 Tr.leaf).node
 (some (AObj.cells [AV.sl (List.drop (1 : Nat) l) (0 : Nat)])) Tr.leaf).node
 none
 ((Tr.leaf.node (some (AObj.own (1 : Nat) (5 : Nat) n)) Tr.leaf).node
 (some (AObj.cells [AV.ptr (1 : Nat) (0 : Nat)])) Tr.leaf))
 (OfNat.ofNat (1 : Nat))
 (((Tr.leaf.node (some ((54 : Nat), (2 : Nat))) Tr.leaf).node
 (some ((51 : Nat), (1 : Nat))) Tr.leaf).node
 none (Tr.leaf.node (some ((49 : Nat), (1 : Nat))) Tr.leaf))))
 (hN
 (Heap.mk (OfNat.ofNat (5 : Nat))
 (((Tr.leaf.node (some (AObj.cells [AV.ptr (3 : Nat) (0 : Nat), AV.sl b (5 : Nat)]))
 Tr.leaf).node
 (some (AObj.cells [AV.sl (List.drop (1 : Nat) l) (0 : Nat)])) Tr.leaf).node
 none
 ((Tr.leaf.node (some (AObj.own (1 : Nat) (5 : Nat) n)) Tr.leaf).node
 (some (AObj.cells [AV.ptr (1 : Nat) (0 : Nat)])) Tr.leaf))
 (OfNat.ofNat (1 : Nat))
 (((Tr.leaf.node (some ((54 : Nat), (2 : Nat))) Tr.leaf).node
 (some ((51 : Nat), (1 : Nat))) Tr.leaf).node
 none (Tr.leaf.node (some ((49 : Nat), (1 : Nat))) Tr.leaf)))) ∧
 (1 : Nat) ≤ (List.drop (1 : Nat) l).length ∧ goodsB (List.drop (1 : Nat) l) = true) ∧
 ∀ (x_1 : Int),
 x_1 = takeF (List.drop (1 : Nat) l) →
 iteP (decide ((255 : Int) < x))
 (K (Dir.mk d.minus d.zero d.plus d.space x (max x_1 (-1 : Int)) d.kind) (2 : Int)
 (AV.sl (List.drop (1 : Nat) (List.drop (1 : Nat) l)) (0 : Nat)) b n)
 (iteP (decide ((255 : Int) < max x_1 (-1 : Int)))
 (K (Dir.mk d.minus d.zero d.plus d.space x (max x_1 (-1 : Int)) d.kind) (2 : Int)
 (AV.sl (List.drop (1 : Nat) (List.drop (1 : Nat) l)) (0 : Nat)) b n)
 (K (Dir.mk d.minus d.zero d.plus d.space x (max x_1 (-1 : Int)) d.kind) (0 : Int)
 (AV.sl (List.drop (1 : Nat) (List.drop (1 : Nat) l)) (0 : Nat)) b n)))
 (iteP (decide ((255 : Int) < x))
 (K (Dir.mk d.minus d.zero d.plus d.space x d.prec d.kind) (2 : Int)
 (AV.sl (List.drop (1 : Nat) l) (0 : Nat)) b n)
 (iteP (decide ((255 : Int) < d.prec))
 (K (Dir.mk d.minus d.zero d.plus d.space x d.prec d.kind) (2 : Int)
 (AV.sl (List.drop (1 : Nat) l) (0 : Nat)) b n)
 (K (Dir.mk d.minus d.zero d.plus d.space x d.prec d.kind) (0 : Int)
 (AV.sl (List.drop (1 : Nat) l) (0 : Nat)) b n)))))
 (iteP (d.prec == (-2 : Int))
 ((sC (AV.sl l (0 : Nat))
 (hBytes
 (Heap.mk (5 : Nat)
 (((Tr.leaf.node (some (AObj.cells [AV.ptr (3 : Nat) (0 : Nat), AV.sl b (5 : Nat)]))
 Tr.leaf).node
 (some (AObj.cells [AV.sl l (0 : Nat)])) Tr.leaf).node
 none
 ((Tr.leaf.node (some (AObj.own (1 : Nat) (5 : Nat) n)) Tr.leaf).node
 (some (AObj.cells [AV.ptr (1 : Nat) (0 : Nat)])) Tr.leaf))
 (1 : Nat)
 (((Tr.leaf.node (some ((54 : Nat), (2 : Nat))) Tr.leaf).node (some ((51 : Nat), (1 : Nat)))
 Tr.leaf).node
 none (Tr.leaf.node (some ((49 : Nat), (1 : Nat))) Tr.leaf))))
 (hN
 (Heap.mk (5 : Nat)
 (((Tr.leaf.node (some (AObj.cells [AV.ptr (3 : Nat) (0 : Nat), AV.sl b (5 : Nat)]))
 Tr.leaf).node
 (some (AObj.cells [AV.sl l (0 : Nat)])) Tr.leaf).node
 none
 ((Tr.leaf.node (some (AObj.own (1 : Nat) (5 : Nat) n)) Tr.leaf).node
 (some (AObj.cells [AV.ptr (1 : Nat) (0 : Nat)])) Tr.leaf))
 (1 : Nat)
 (((Tr.leaf.node (some ((54 : Nat), (2 : Nat))) Tr.leaf).node (some ((51 : Nat), (1 : Nat)))
 Tr.leaf).node
 none (Tr.leaf.node (some ((49 : Nat), (1 : Nat))) Tr.leaf)))) =
 sC (AV.sl l (0 : Nat))
 (hBytes
 (Heap.mk (5 : Nat)
 (((Tr.leaf.node (some (AObj.cells [AV.ptr (3 : Nat) (0 : Nat), AV.sl b (5 : Nat)]))
 Tr.leaf).node
 (some (AObj.cells [AV.sl l (0 : Nat)])) Tr.leaf).node
 none
 ((Tr.leaf.node (some (AObj.own (1 : Nat) (5 : Nat) n)) Tr.leaf).node
 (some (AObj.cells [AV.ptr (1 : Nat) (0 : Nat)])) Tr.leaf))
 (1 : Nat)
 (((Tr.leaf.node (some ((54 : Nat), (2 : Nat))) Tr.leaf).node (some ((51 : Nat), (1 : Nat)))
 Tr.leaf).node
 none (Tr.leaf.node (some ((49 : Nat), (1 : Nat))) Tr.leaf))))
 (hN
 (Heap.mk (5 : Nat)
 (((Tr.leaf.node (some (AObj.cells [AV.ptr (3 : Nat) (0 : Nat), AV.sl b (5 : Nat)]))
 Tr.leaf).node
 (some (AObj.cells [AV.sl l (0 : Nat)])) Tr.leaf).node
 none
 ((Tr.leaf.node (some (AObj.own (1 : Nat) (5 : Nat) n)) Tr.leaf).node
 (some (AObj.cells [AV.ptr (1 : Nat) (0 : Nat)])) Tr.leaf))
 (1 : Nat)
 (((Tr.leaf.node (some ((54 : Nat), (2 : Nat))) Tr.leaf).node (some ((51 : Nat), (1 : Nat)))
 Tr.leaf).node
 none (Tr.leaf.node (some ((49 : Nat), (1 : Nat))) Tr.leaf)))) ∧
 (1 : Nat) ≤ List.length l ∧ goodsB l = true) ∧
 ∀ (x : Int),
 x = takeF l →
 iteP (decide ((255 : Int) < d.width))
 (K (Dir.mk d.minus d.zero d.plus d.space d.width (max x (-1 : Int)) d.kind) (2 : Int)
 (AV.sl (List.drop (1 : Nat) l) (0 : Nat)) b n)
 (iteP (decide ((255 : Int) < max x (-1 : Int)))
 (K (Dir.mk d.minus d.zero d.plus d.space d.width (max x (-1 : Int)) d.kind) (2 : Int)
 (AV.sl (List.drop (1 : Nat) l) (0 : Nat)) b n)
 (K (Dir.mk d.minus d.zero d.plus d.space d.width (max x (-1 : Int)) d.kind) (0 : Int)
 (AV.sl (List.drop (1 : Nat) l) (0 : Nat)) b n)))
 (iteP (decide ((255 : Int) < d.width))
 (K (Dir.mk d.minus d.zero d.plus d.space d.width d.prec d.kind) (2 : Int) (AV.sl l (0 : Nat)) b n)
 (iteP (decide ((255 : Int) < d.prec))
 (K (Dir.mk d.minus d.zero d.plus d.space d.width d.prec d.kind) (2 : Int) (AV.sl l (0 : Nat)) b n)
 (K (Dir.mk d.minus d.zero d.plus d.space d.width d.prec d.kind) (0 : Int) (AV.sl l (0 : Nat)) b n)))))))
 (iteP (d.kind != (37 : Int))
 (iteP (decide ((↑(List.length l) : Int) < (2 : Int)))
 (K (Dir.mk d.minus d.zero d.plus d.space d.width d.prec d.kind) (18 : Int) (AV.sl l (0 : Nat)) b n)
 (iteP (d.width == (-2 : Int))
 ((sC (AV.sl l (0 : Nat))
 (hBytes
 (Heap.mk (5 : Nat)
 (((Tr.leaf.node (some (AObj.cells [AV.ptr (3 : Nat) (0 : Nat), AV.sl b (5 : Nat)])) Tr.leaf).node
 (some (AObj.cells [AV.sl l (0 : Nat)])) Tr.leaf).node
 none
 ((Tr.leaf.node (some (AObj.own (1 : Nat) (5 : Nat) n)) Tr.leaf).node
 (some (AObj.cells [AV.ptr (1 : Nat) (0 : Nat)])) Tr.leaf))
 (1 : Nat)
 (((Tr.leaf.node (some ((54 : Nat), (2 : Nat))) Tr.leaf).node (some ((51 : Nat), (1 : Nat)))
 Tr.leaf).node
 none (Tr.leaf.node (some ((49 : Nat), (1 : Nat))) Tr.leaf))))
 (hN
 (Heap.mk (5 : Nat)
 (((Tr.leaf.node (some (AObj.cells [AV.ptr (3 : Nat) (0 : Nat), AV.sl b (5 : Nat)])) Tr.leaf).node
 (some (AObj.cells [AV.sl l (0 : Nat)])) Tr.leaf).node
 none
 ((Tr.leaf.node (some (AObj.own (1 : Nat) (5 : Nat) n)) Tr.leaf).node
 (some (AObj.cells [AV.ptr (1 : Nat) (0 : Nat)])) Tr.leaf))
 (1 : Nat)
 (((Tr.leaf.node (some ((54 : Nat), (2 : Nat))) Tr.leaf).node (some ((51 : Nat), (1 : Nat)))
 Tr.leaf).node
 none (Tr.leaf.node (some ((49 : Nat), (1 : Nat))) Tr.leaf)))) =
 sC (AV.sl l (0 : Nat))
 (hBytes
 (Heap.mk (5 : Nat)
 (((Tr.leaf.node (some (AObj.cells [AV.ptr (3 : Nat) (0 : Nat), AV.sl b (5 : Nat)])) Tr.leaf).node
 (some (AObj.cells [AV.sl l (0 : Nat)])) Tr.leaf).node
 none
 ((Tr.leaf.node (some (AObj.own (1 : Nat) (5 : Nat) n)) Tr.leaf).node
 (some (AObj.cells [AV.ptr (1 : Nat) (0 : Nat)])) Tr.leaf))
 (1 : Nat)
 (((Tr.leaf.node (some ((54 : Nat), (2 : Nat))) Tr.leaf).node (some ((51 : Nat), (1 : Nat)))
 Tr.leaf).node
 none (Tr.leaf.node (some ((49 : Nat), (1 : Nat))) Tr.leaf))))
 (hN
 (Heap.mk (5 : Nat)
 (((Tr.leaf.node (some (AObj.cells [AV.ptr (3 : Nat) (0 : Nat), AV.sl b (5 : Nat)])) Tr.leaf).node
 (some (AObj.cells [AV.sl l (0 : Nat)])) Tr.leaf).node
 none
 ((Tr.leaf.node (some (AObj.own (1 : Nat) (5 : Nat) n)) Tr.leaf).node
 (some (AObj.cells [AV.ptr (1 : Nat) (0 : Nat)])) Tr.leaf))
 (1 : Nat)
 (((Tr.leaf.node (some ((54 : Nat), (2 : Nat))) Tr.leaf).node (some ((51 : Nat), (1 : Nat)))
 Tr.leaf).node
 none (Tr.leaf.node (some ((49 : Nat), (1 : Nat))) Tr.leaf)))) ∧
 (1 : Nat) ≤ List.length l ∧ goodsB l = true) ∧
 ∀ (x : Int),
 x = takeF l →
 iteP (decide (x < (0 : Int)))
 (iteP (d.prec == (-2 : Int))
 ((sC (AV.sl (List.drop (1 : Nat) l) (0 : Nat))
 (hBytes
 (Heap.mk (OfNat.ofNat (5 : Nat))
 (((Tr.leaf.node (some (AObj.cells [AV.ptr (3 : Nat) (0 : Nat), AV.sl b (5 : Nat)]))
 Tr.leaf).node
 (some (AObj.cells [AV.sl (List.drop (1 : Nat) l) (0 : Nat)])) Tr.leaf).node
 none
 ((Tr.leaf.node (some (AObj.own (1 : Nat) (5 : Nat) n)) Tr.leaf).node
 (some (AObj.cells [AV.ptr (1 : Nat) (0 : Nat)])) Tr.leaf))
 (OfNat.ofNat (1 : Nat))
 (((Tr.leaf.node (some ((54 : Nat), (2 : Nat))) Tr.leaf).node
 (some ((51 : Nat), (1 : Nat))) Tr.leaf).node
 none (Tr.leaf.node (some ((49 : Nat), (1 : Nat))) Tr.leaf))))
 (hN
 (Heap.mk (OfNat.ofNat (5 : Nat))
 (((Tr.leaf.node (some (AObj.cells [AV.ptr (3 : Nat) (0 : Nat), AV.sl b (5 : Nat)]))
 Tr.leaf).node
 (some (AObj.cells [AV.sl (List.drop (1 : Nat) l) (0 : Nat)])) Tr.leaf).node
 none
 ((Tr.leaf.node (some (AObj.own (1 : Nat) (5 : Nat) n)) Tr.leaf).node
 (some (AObj.cells [AV.ptr (1 : Nat) (0 : Nat)])) Tr.leaf))
 (OfNat.ofNat (1 : Nat))
 (((Tr.leaf.node (some ((54 : Nat), (2 : Nat))) Tr.leaf).node
 (some ((51 : Nat), (1 : Nat))) Tr.leaf).node
 none (Tr.leaf.node (some ((49 : Nat), (1 : Nat))) Tr.leaf)))) =
 sC (AV.sl (List.drop (1 : Nat) l) (0 : Nat))
 (hBytes
 (Heap.mk (OfNat.ofNat (5 : Nat))
 (((Tr.leaf.node (some (AObj.cells [AV.ptr (3 : Nat) (0 : Nat), AV.sl b (5 : Nat)]))
 Tr.leaf).node
 (some (AObj.cells [AV.sl (List.drop (1 : Nat) l) (0 : Nat)])) Tr.leaf).node
 none
 ((Tr.leaf.node (some (AObj.own (1 : Nat) (5 : Nat) n)) Tr.leaf).node
 (some (AObj.cells [AV.ptr (1 : Nat) (0 : Nat)])) Tr.leaf))
 (OfNat.ofNat (1 : Nat))
 (((Tr.leaf.node (some ((54 : Nat), (2 : Nat))) Tr.leaf).node
 (some ((51 : Nat), (1 : Nat))) Tr.leaf).node
 none (Tr.leaf.node (some ((49 : Nat), (1 : Nat))) Tr.leaf))))
 (hN
 (Heap.mk (OfNat.ofNat (5 : Nat))
 (((Tr.leaf.node (some (AObj.cells [AV.ptr (3 : Nat) (0 : Nat), AV.sl b (5 : Nat)]))
 Tr.leaf).node
 (some (AObj.cells [AV.sl (List.drop (1 : Nat) l) (0 : Nat)])) Tr.leaf).node
 none
 ((Tr.leaf.node (some (AObj.own (1 : Nat) (5 : Nat) n)) Tr.leaf).node
 (some (AObj.cells [AV.ptr (1 : Nat) (0 : Nat)])) Tr.leaf))
 (OfNat.ofNat (1 : Nat))
 (((Tr.leaf.node (some ((54 : Nat), (2 : Nat))) Tr.leaf).node
 (some ((51 : Nat), (1 : Nat))) Tr.leaf).node
 none (Tr.leaf.node (some ((49 : Nat), (1 : Nat))) Tr.leaf)))) ∧
 (1 : Nat) ≤ (List.drop (1 : Nat) l).length ∧ goodsB (List.drop (1 : Nat) l) = true) ∧
 ∀ (x_1 : Int),
 x_1 = takeF (List.drop (1 : Nat) l) →
 iteP (decide ((255 : Int) < IntKind.i64.wrap ((0 : Int) - x)))
 (K
 (Dir.mk true d.zero d.plus d.space (IntKind.i64.wrap ((0 : Int) - x)) (max x_1 (-1 : Int))
 d.kind)
 (2 : Int) (AV.sl (List.drop (1 : Nat) (List.drop (1 : Nat) l)) (0 : Nat)) b n)
 (iteP (decide ((255 : Int) < max x_1 (-1 : Int)))
 (K
 (Dir.mk true d.zero d.plus d.space (IntKind.i64.wrap ((0 : Int) - x))
 (max x_1 (-1 : Int)) d.kind)
 (2 : Int) (AV.sl (List.drop (1 : Nat) (List.drop (1 : Nat) l)) (0 : Nat)) b n)
 (K
 (Dir.mk true d.zero d.plus d.space (IntKind.i64.wrap ((0 : Int) - x))
 (max x_1 (-1 : Int)) d.kind)
 (0 : Int) (AV.sl (List.drop (1 : Nat) (List.drop (1 : Nat) l)) (0 : Nat)) b n)))
 (iteP (decide ((255 : Int) < IntKind.i64.wrap ((0 : Int) - x)))
 (K (Dir.mk true d.zero d.plus d.space (IntKind.i64.wrap ((0 : Int) - x)) d.prec d.kind) (2 : Int)
 (AV.sl (List.drop (1 : Nat) l) (0 : Nat)) b n)
 (iteP (decide ((255 : Int) < d.prec))
 (K (Dir.mk true d.zero d.plus d.space (IntKind.i64.wrap ((0 : Int) - x)) d.prec d.kind)
 (2 : Int) (AV.sl (List.drop (1 : Nat) l) (0 : Nat)) b n)
 (K (Dir.mk true d.zero d.plus d.space (IntKind.i64.wrap ((0 : Int) - x)) d.prec d.kind)
 (0 : Int) (AV.sl (List.drop (1 : Nat) l) (0 : Nat)) b n))))
 (iteP (d.prec == (-2 : Int))
 ((sC (AV.sl (List.drop (1 : Nat) l) (0 : Nat))
 (hBytes
 (Heap.mk (OfNat.ofNat (5 : Nat))
 (((Tr.leaf.node (some (AObj.cells [AV.ptr (3 : Nat) (0 : Nat), AV.sl b (5 : Nat)]))
 Tr.leaf).node
 (some (AObj.cells [AV.sl (List.drop (1 : Nat) l) (0 : Nat)])) Tr.leaf).node
 none
 ((Tr.leaf.node (some (AObj.own (1 : Nat) (5 : Nat) n)) Tr.leaf).node
 (some (AObj.cells [AV.ptr (1 : Nat) (0 : Nat)])) Tr.leaf))
 (OfNat.ofNat (1 : Nat))
 (((Tr.leaf.node (some ((54 : Nat), (2 : Nat))) Tr.leaf).node
 (some ((51 : Nat), (1 : Nat))) Tr.leaf).node
 none (Tr.leaf.node (some ((49 : Nat), (1 : Nat))) Tr.leaf))))
 (hN
 (Heap.mk (OfNat.ofNat (5 : Nat))
 (((Tr.leaf.node (some (AObj.cells [AV.ptr (3 : Nat) (0 : Nat), AV.sl b (5 : Nat)]))
 Tr.leaf).node
 (some (AObj.cells [AV.sl (List.drop (1 : Nat) l) (0 : Nat)])) Tr.leaf).node
 none
 ((Tr.leaf.node (some (AObj.own (1 : Nat) (5 : Nat) n)) Tr.leaf).node
 (some (AObj.cells [AV.ptr (1 : Nat) (0 : Nat)])) Tr.leaf))
 (OfNat.ofNat (1 : Nat))
 (((Tr.leaf.node (some ((54 : Nat), (2 : Nat))) Tr.leaf).node
 (some ((51 : Nat), (1 : Nat))) Tr.leaf).node
 none (Tr.leaf.node (some ((49 : Nat), (1 : Nat))) Tr.leaf)))) =
 sC (AV.sl (List.drop (1 : Nat) l) (0 : Nat))
 (hBytes
 (Heap.mk (OfNat.ofNat (5 : Nat))
 (((Tr.leaf.node (some (AObj.cells [AV.ptr (3 : Nat) (0 : Nat), AV.sl b (5 : Nat)]))
 Tr.leaf).node
 (some (AObj.cells [AV.sl (List.drop (1 : Nat) l) (0 : Nat)])) Tr.leaf).node
 none
 ((Tr.leaf.node (some (AObj.own (1 : Nat) (5 : Nat) n)) Tr.leaf).node
 (some (AObj.cells [AV.ptr (1 : Nat) (0 : Nat)])) Tr.leaf))
 (OfNat.ofNat (1 : Nat))
 (((Tr.leaf.node (some ((54 : Nat), (2 : Nat))) Tr.leaf).node
 (some ((51 : Nat), (1 : Nat))) Tr.leaf).node
 none (Tr.leaf.node (some ((49 : Nat), (1 : Nat))) Tr.leaf))))
 (hN
 (Heap.mk (OfNat.ofNat (5 : Nat))
 (((Tr.leaf.node (some (AObj.cells [AV.ptr (3 : Nat) (0 : Nat), AV.sl b (5 : Nat)]))
 Tr.leaf).node
 (some (AObj.cells [AV.sl (List.drop (1 : Nat) l) (0 : Nat)])) Tr.leaf).node
 none
 ((Tr.leaf.node (some (AObj.own (1 : Nat) (5 : Nat) n)) Tr.leaf).node
 (some (AObj.cells [AV.ptr (1 : Nat) (0 : Nat)])) Tr.leaf))
 (OfNat.ofNat (1 : Nat))
 (((Tr.leaf.node (some ((54 : Nat), (2 : Nat))) Tr.leaf).node
 (some ((51 : Nat), (1 : Nat))) Tr.leaf).node
 none (Tr.leaf.node (some ((49 : Nat), (1 : Nat))) Tr.leaf)))) ∧
 (1 : Nat) ≤ (List.drop (1 : Nat) l).length ∧ goodsB (List.drop (1 : Nat) l) = true) ∧
 ∀ (x_1 : Int),
 x_1 = takeF (List.drop (1 : Nat) l) →
 iteP (decide ((255 : Int) < x))
 (K (Dir.mk d.minus d.zero d.plus d.space x (max x_1 (-1 : Int)) d.kind) (2 : Int)
 (AV.sl (List.drop (1 : Nat) (List.drop (1 : Nat) l)) (0 : Nat)) b n)
 (iteP (decide ((255 : Int) < max x_1 (-1 : Int)))
 (K (Dir.mk d.minus d.zero d.plus d.space x (max x_1 (-1 : Int)) d.kind) (2 : Int)
 (AV.sl (List.drop (1 : Nat) (List.drop (1 : Nat) l)) (0 : Nat)) b n)
 (K (Dir.mk d.minus d.zero d.plus d.space x (max x_1 (-1 : Int)) d.kind) (0 : Int)
 (AV.sl (List.drop (1 : Nat) (List.drop (1 : Nat) l)) (0 : Nat)) b n)))
 (iteP (decide ((255 : Int) < x))
 (K (Dir.mk d.minus d.zero d.plus d.space x d.prec d.kind) (2 : Int)
 (AV.sl (List.drop (1 : Nat) l) (0 : Nat)) b n)
 (iteP (decide ((255 : Int) < d.prec))
 (K (Dir.mk d.minus d.zero d.plus d.space x d.prec d.kind) (2 : Int)
 (AV.sl (List.drop (1 : Nat) l) (0 : Nat)) b n)
 (K (Dir.mk d.minus d.zero d.plus d.space x d.prec d.kind) (0 : Int)
 (AV.sl (List.drop (1 : Nat) l) (0 : Nat)) b n)))))
 (iteP (d.prec == (-2 : Int))
 ((sC (AV.sl l (0 : Nat))
 (hBytes
 (Heap.mk (5 : Nat)
 (((Tr.leaf.node (some (AObj.cells [AV.ptr (3 : Nat) (0 : Nat), AV.sl b (5 : Nat)]))
 Tr.leaf).node
 (some (AObj.cells [AV.sl l (0 : Nat)])) Tr.leaf).node
 none
 ((Tr.leaf.node (some (AObj.own (1 : Nat) (5 : Nat) n)) Tr.leaf).node
 (some (AObj.cells [AV.ptr (1 : Nat) (0 : Nat)])) Tr.leaf))
 (1 : Nat)
 (((Tr.leaf.node (some ((54 : Nat), (2 : Nat))) Tr.leaf).node (some ((51 : Nat), (1 : Nat)))
 Tr.leaf).node
 none (Tr.leaf.node (some ((49 : Nat), (1 : Nat))) Tr.leaf))))
 (hN
 (Heap.mk (5 : Nat)
 (((Tr.leaf.node (some (AObj.cells [AV.ptr (3 : Nat) (0 : Nat), AV.sl b (5 : Nat)]))
 Tr.leaf).node
 (some (AObj.cells [AV.sl l (0 : Nat)])) Tr.leaf).node
 none
 ((Tr.leaf.node (some (AObj.own (1 : Nat) (5 : Nat) n)) Tr.leaf).node
 (some (AObj.cells [AV.ptr (1 : Nat) (0 : Nat)])) Tr.leaf))
 (1 : Nat)
 (((Tr.leaf.node (some ((54 : Nat), (2 : Nat))) Tr.leaf).node (some ((51 : Nat), (1 : Nat)))
 Tr.leaf).node
 none (Tr.leaf.node (some ((49 : Nat), (1 : Nat))) Tr.leaf)))) =
 sC (AV.sl l (0 : Nat))
 (hBytes
 (Heap.mk (5 : Nat)
 (((Tr.leaf.node (some (AObj.cells [AV.ptr (3 : Nat) (0 : Nat), AV.sl b (5 : Nat)]))
 Tr.leaf).node
 (some (AObj.cells [AV.sl l (0 : Nat)])) Tr.leaf).node
 none
 ((Tr.leaf.node (some (AObj.own (1 : Nat) (5 : Nat) n)) Tr.leaf).node
 (some (AObj.cells [AV.ptr (1 : Nat) (0 : Nat)])) Tr.leaf))
 (1 : Nat)
 (((Tr.leaf.node (some ((54 : Nat), (2 : Nat))) Tr.leaf).node (some ((51 : Nat), (1 : Nat)))
 Tr.leaf).node
 none (Tr.leaf.node (some ((49 : Nat), (1 : Nat))) Tr.leaf))))
 (hN
 (Heap.mk (5 : Nat)
 (((Tr.leaf.node (some (AObj.cells [AV.ptr (3 : Nat) (0 : Nat), AV.sl b (5 : Nat)]))
 Tr.leaf).node
 (some (AObj.cells [AV.sl l (0 : Nat)])) Tr.leaf).node
 none
 ((Tr.leaf.node (some (AObj.own (1 : Nat) (5 : Nat) n)) Tr.leaf).node
 (some (AObj.cells [AV.ptr (1 : Nat) (0 : Nat)])) Tr.leaf))
 (1 : Nat)
 (((Tr.leaf.node (some ((54 : Nat), (2 : Nat))) Tr.leaf).node (some ((51 : Nat), (1 : Nat)))
 Tr.leaf).node
 none (Tr.leaf.node (some ((49 : Nat), (1 : Nat))) Tr.leaf)))) ∧
 (1 : Nat) ≤ List.length l ∧ goodsB l = true) ∧
 ∀ (x : Int),
 x = takeF l →
 iteP (decide ((255 : Int) < d.width))
 (K (Dir.mk d.minus d.zero d.plus d.space d.width (max x (-1 : Int)) d.kind) (2 : Int)
 (AV.sl (List.drop (1 : Nat) l) (0 : Nat)) b n)
 (iteP (decide ((255 : Int) < max x (-1 : Int)))
 (K (Dir.mk d.minus d.zero d.plus d.space d.width (max x (-1 : Int)) d.kind) (2 : Int)
 (AV.sl (List.drop (1 : Nat) l) (0 : Nat)) b n)
 (K (Dir.mk d.minus d.zero d.plus d.space d.width (max x (-1 : Int)) d.kind) (0 : Int)
 (AV.sl (List.drop (1 : Nat) l) (0 : Nat)) b n)))
 (iteP (decide ((255 : Int) < d.width))
 (K (Dir.mk d.minus d.zero d.plus d.space d.width d.prec d.kind) (2 : Int) (AV.sl l (0 : Nat)) b n)
 (iteP (decide ((255 : Int) < d.prec))
 (K (Dir.mk d.minus d.zero d.plus d.space d.width d.prec d.kind) (2 : Int) (AV.sl l (0 : Nat)) b n)
 (K (Dir.mk d.minus d.zero d.plus d.space d.width d.prec d.kind) (0 : Int) (AV.sl l (0 : Nat)) b n))))))
 (iteP (decide ((↑(List.length l) : Int) < (1 : Int)))
 (K (Dir.mk d.minus d.zero d.plus d.space d.width d.prec d.kind) (18 : Int) (AV.sl l (0 : Nat)) b n)
 (iteP (d.width == (-2 : Int))
 ((sC (AV.sl l (0 : Nat))
 (hBytes
 (Heap.mk (5 : Nat)
 (((Tr.leaf.node (some (AObj.cells [AV.ptr (3 : Nat) (0 : Nat), AV.sl b (5 : Nat)])) Tr.leaf).node
 (some (AObj.cells [AV.sl l (0 : Nat)])) Tr.leaf).node
 none
 ((Tr.leaf.node (some (AObj.own (1 : Nat) (5 : Nat) n)) Tr.leaf).node
 (some (AObj.cells [AV.ptr (1 : Nat) (0 : Nat)])) Tr.leaf))
 (1 : Nat)
 (((Tr.leaf.node (some ((54 : Nat), (2 : Nat))) Tr.leaf).node (some ((51 : Nat), (1 : Nat)))
 Tr.leaf).node
 none (Tr.leaf.node (some ((49 : Nat), (1 : Nat))) Tr.leaf))))
 (hN
 (Heap.mk (5 : Nat)
 (((Tr.leaf.node (some (AObj.cells [AV.ptr (3 : Nat) (0 : Nat), AV.sl b (5 : Nat)])) Tr.leaf).node
 (some (AObj.cells [AV.sl l (0 : Nat)])) Tr.leaf).node
 none
 ((Tr.leaf.node (some (AObj.own (1 : Nat) (5 : Nat) n)) Tr.leaf).node
 (some (AObj.cells [AV.ptr (1 : Nat) (0 : Nat)])) Tr.leaf))
 (1 : Nat)
 (((Tr.leaf.node (some ((54 : Nat), (2 : Nat))) Tr.leaf).node (some ((51 : Nat), (1 : Nat)))
 Tr.leaf).node
 none (Tr.leaf.node (some ((49 : Nat), (1 : Nat))) Tr.leaf)))) =
 sC (AV.sl l (0 : Nat))
 (hBytes
 (Heap.mk (5 : Nat)
 (((Tr.leaf.node (some (AObj.cells [AV.ptr (3 : Nat) (0 : Nat), AV.sl b (5 : Nat)])) Tr.leaf).node
 (some (AObj.cells [AV.sl l (0 : Nat)])) Tr.leaf).node
 none
 ((Tr.leaf.node (some (AObj.own (1 : Nat) (5 : Nat) n)) Tr.leaf).node
 (some (AObj.cells [AV.ptr (1 : Nat) (0 : Nat)])) Tr.leaf))
 (1 : Nat)
 (((Tr.leaf.node (some ((54 : Nat), (2 : Nat))) Tr.leaf).node (some ((51 : Nat), (1 : Nat)))
 Tr.leaf).node
 none (Tr.leaf.node (some ((49 : Nat), (1 : Nat))) Tr.leaf))))
 (hN
 (Heap.mk (5 : Nat)
 (((Tr.leaf.node (some (AObj.cells [AV.ptr (3 : Nat) (0 : Nat), AV.sl b (5 : Nat)])) Tr.leaf).node
 (some (AObj.cells [AV.sl l (0 : Nat)])) Tr.leaf).node
 none
 ((Tr.leaf.node (some (AObj.own (1 : Nat) (5 : Nat) n)) Tr.leaf).node
 (some (AObj.cells [AV.ptr (1 : Nat) (0 : Nat)])) Tr.leaf))
 (1 : Nat)
 (((Tr.leaf.node (some ((54 : Nat), (2 : Nat))) Tr.leaf).node (some ((51 : Nat), (1 : Nat)))
 Tr.leaf).node
 none (Tr.leaf.node (some ((49 : Nat), (1 : Nat))) Tr.leaf)))) ∧
 (1 : Nat) ≤ List.length l ∧ goodsB l = true) ∧
 ∀ (x : Int),
 x = takeF l →
 iteP (decide (x < (0 : Int)))
 (iteP (d.prec == (-2 : Int))
 ((sC (AV.sl (List.drop (1 : Nat) l) (0 : Nat))
 (hBytes
 (Heap.mk (OfNat.ofNat (5 : Nat))
 (((Tr.leaf.node (some (AObj.cells [AV.ptr (3 : Nat) (0 : Nat), AV.sl b (5 : Nat)]))
 Tr.leaf).node
 (some (AObj.cells [AV.sl (List.drop (1 : Nat) l) (0 : Nat)])) Tr.leaf).node
 none
 ((Tr.leaf.node (some (AObj.own (1 : Nat) (5 : Nat) n)) Tr.leaf).node
 (some (AObj.cells [AV.ptr (1 : Nat) (0 : Nat)])) Tr.leaf))
 (OfNat.ofNat (1 : Nat))
 (((Tr.leaf.node (some ((54 : Nat), (2 : Nat))) Tr.leaf).node
 (some ((51 : Nat), (1 : Nat))) Tr.leaf).node
 none (Tr.leaf.node (some ((49 : Nat), (1 : Nat))) Tr.leaf))))
 (hN
 (Heap.mk (OfNat.ofNat (5 : Nat))
 (((Tr.leaf.node (some (AObj.cells [AV.ptr (3 : Nat) (0 : Nat), AV.sl b (5 : Nat)]))
 Tr.leaf).node
 (some (AObj.cells [AV.sl (List.drop (1 : Nat) l) (0 : Nat)])) Tr.leaf).node
 none
 ((Tr.leaf.node (some (AObj.own (1 : Nat) (5 : Nat) n)) Tr.leaf).node
 (some (AObj.cells [AV.ptr (1 : Nat) (0 : Nat)])) Tr.leaf))
 (OfNat.ofNat (1 : Nat))
 (((Tr.leaf.node (some ((54 : Nat), (2 : Nat))) Tr.leaf).node
 (some ((51 : Nat), (1 : Nat))) Tr.leaf).node
 none (Tr.leaf.node (some ((49 : Nat), (1 : Nat))) Tr.leaf)))) =
 sC (AV.sl (List.drop (1 : Nat) l) (0 : Nat))
 (hBytes
 (Heap.mk (OfNat.ofNat (5 : Nat))
 (((Tr.leaf.node (some (AObj.cells [AV.ptr (3 : Nat) (0 : Nat), AV.sl b (5 : Nat)]))
 Tr.leaf).node
 (some (AObj.cells [AV.sl (List.drop (1 : Nat) l) (0 : Nat)])) Tr.leaf).node
 none
 ((Tr.leaf.node (some (AObj.own (1 : Nat) (5 : Nat) n)) Tr.leaf).node
 (some (AObj.cells [AV.ptr (1 : Nat) (0 : Nat)])) Tr.leaf))
 (OfNat.ofNat (1 : Nat))
 (((Tr.leaf.node (some ((54 : Nat), (2 : Nat))) Tr.leaf).node
 (some ((51 : Nat), (1 : Nat))) Tr.leaf).node
 none (Tr.leaf.node (some ((49 : Nat), (1 : Nat))) Tr.leaf))))
 (hN
 (Heap.mk (OfNat.ofNat (5 : Nat))
 (((Tr.leaf.node (some (AObj.cells [AV.ptr (3 : Nat) (0 : Nat), AV.sl b (5 : Nat)]))
 Tr.leaf).node
 (some (AObj.cells [AV.sl (List.drop (1 : Nat) l) (0 : Nat)])) Tr.leaf).node
 none
 ((Tr.leaf.node (some (AObj.own (1 : Nat) (5 : Nat) n)) Tr.leaf).node
 (some (AObj.cells [AV.ptr (1 : Nat) (0 : Nat)])) Tr.leaf))
 (OfNat.ofNat (1 : Nat))
 (((Tr.leaf.node (some ((54 : Nat), (2 : Nat))) Tr.leaf).node
 (some ((51 : Nat), (1 : Nat))) Tr.leaf).node
 none (Tr.leaf.node (some ((49 : Nat), (1 : Nat))) Tr.leaf)))) ∧
 (1 : Nat) ≤ (List.drop (1 : Nat) l).length ∧ goodsB (List.drop (1 : Nat) l) = true) ∧
 ∀ (x_1 : Int),
 x_1 = takeF (List.drop (1 : Nat) l) →
 iteP (decide ((255 : Int) < IntKind.i64.wrap ((0 : Int) - x)))
 (K
 (Dir.mk true d.zero d.plus d.space (IntKind.i64.wrap ((0 : Int) - x)) (max x_1 (-1 : Int))
 d.kind)
 (2 : Int) (AV.sl (List.drop (1 : Nat) (List.drop (1 : Nat) l)) (0 : Nat)) b n)
 (iteP (decide ((255 : Int) < max x_1 (-1 : Int)))
 (K
 (Dir.mk true d.zero d.plus d.space (IntKind.i64.wrap ((0 : Int) - x))
 (max x_1 (-1 : Int)) d.kind)
 (2 : Int) (AV.sl (List.drop (1 : Nat) (List.drop (1 : Nat) l)) (0 : Nat)) b n)
 (K
 (Dir.mk true d.zero d.plus d.space (IntKind.i64.wrap ((0 : Int) - x))
 (max x_1 (-1 : Int)) d.kind)
 (0 : Int) (AV.sl (List.drop (1 : Nat) (List.drop (1 : Nat) l)) (0 : Nat)) b n)))
 (iteP (decide ((255 : Int) < IntKind.i64.wrap ((0 : Int) - x)))
 (K (Dir.mk true d.zero d.plus d.space (IntKind.i64.wrap ((0 : Int) - x)) d.prec d.kind) (2 : Int)
 (AV.sl (List.drop (1 : Nat) l) (0 : Nat)) b n)
 (iteP (decide ((255 : Int) < d.prec))
 (K (Dir.mk true d.zero d.plus d.space (IntKind.i64.wrap ((0 : Int) - x)) d.prec d.kind)
 (2 : Int) (AV.sl (List.drop (1 : Nat) l) (0 : Nat)) b n)
 (K (Dir.mk true d.zero d.plus d.space (IntKind.i64.wrap ((0 : Int) - x)) d.prec d.kind)
 (0 : Int) (AV.sl (List.drop (1 : Nat) l) (0 : Nat)) b n))))
 (iteP (d.prec == (-2 : Int))
 ((sC (AV.sl (List.drop (1 : Nat) l) (0 : Nat))
 (hBytes
 (Heap.mk (OfNat.ofNat (5 : Nat))
 (((Tr.leaf.node (some (AObj.cells [AV.ptr (3 : Nat) (0 : Nat), AV.sl b (5 : Nat)]))
 Tr.leaf).node
 (some (AObj.cells [AV.sl (List.drop (1 : Nat) l) (0 : Nat)])) Tr.leaf).node
 none
 ((Tr.leaf.node (some (AObj.own (1 : Nat) (5 : Nat) n)) Tr.leaf).node
 (some (AObj.cells [AV.ptr (1 : Nat) (0 : Nat)])) Tr.leaf))
 (OfNat.ofNat (1 : Nat))
 (((Tr.leaf.node (some ((54 : Nat), (2 : Nat))) Tr.leaf).node
 (some ((51 : Nat), (1 : Nat))) Tr.leaf).node
 none (Tr.leaf.node (some ((49 : Nat), (1 : Nat))) Tr.leaf))))
 (hN
 (Heap.mk (OfNat.ofNat (5 : Nat))
 (((Tr.leaf.node (some (AObj.cells [AV.ptr (3 : Nat) (0 : Nat), AV.sl b (5 : Nat)]))
 Tr.leaf).node
 (some (AObj.cells [AV.sl (List.drop (1 : Nat) l) (0 : Nat)])) Tr.leaf).node
 none
 ((Tr.leaf.node (some (AObj.own (1 : Nat) (5 : Nat) n)) Tr.leaf).node
 (some (AObj.cells [AV.ptr (1 : Nat) (0 : Nat)])) Tr.leaf))
 (OfNat.ofNat (1 : Nat))
 (((Tr.leaf.node (some ((54 : Nat), (2 : Nat))) Tr.leaf).node
 (some ((51 : Nat), (1 : Nat))) Tr.leaf).node
 none (Tr.leaf.node (some ((49 : Nat), (1 : Nat))) Tr.leaf)))) =
 sC (AV.sl (List.drop (1 : Nat) l) (0 : Nat))
 (hBytes
 (Heap.mk (OfNat.ofNat (5 : Nat))
 (((Tr.leaf.node (some (AObj.cells [AV.ptr (3 : Nat) (0 : Nat), AV.sl b (5 : Nat)]))
 Tr.leaf).node
 (some (AObj.cells [AV.sl (List.drop (1 : Nat) l) (0 : Nat)])) Tr.leaf).node
 none
 ((Tr.leaf.node (some (AObj.own (1 : Nat) (5 : Nat) n)) Tr.leaf).node
 (some (AObj.cells [AV.ptr (1 : Nat) (0 : Nat)])) Tr.leaf))
 (OfNat.ofNat (1 : Nat))
 (((Tr.leaf.node (some ((54 : Nat), (2 : Nat))) Tr.leaf).node
 (some ((51 : Nat), (1 : Nat))) Tr.leaf).node
 none (Tr.leaf.node (some ((49 : Nat), (1 : Nat))) Tr.leaf))))
 (hN
 (Heap.mk (OfNat.ofNat (5 : Nat))
 (((Tr.leaf.node (some (AObj.cells [AV.ptr (3 : Nat) (0 : Nat), AV.sl b (5 : Nat)]))
 Tr.leaf).node
 (some (AObj.cells [AV.sl (List.drop (1 : Nat) l) (0 : Nat)])) Tr.leaf).node
 none
 ((Tr.leaf.node (some (AObj.own (1 : Nat) (5 : Nat) n)) Tr.leaf).node
 (some (AObj.cells [AV.ptr (1 : Nat) (0 : Nat)])) Tr.leaf))
 (OfNat.ofNat (1 : Nat))
 (((Tr.leaf.node (some ((54 : Nat), (2 : Nat))) Tr.leaf).node
 (some ((51 : Nat), (1 : Nat))) Tr.leaf).node
 none (Tr.leaf.node (some ((49 : Nat), (1 : Nat))) Tr.leaf)))) ∧
 (1 : Nat) ≤ (List.drop (1 : Nat) l).length ∧ goodsB (List.drop (1 : Nat) l) = true) ∧
 ∀ (x_1 : Int),
 x_1 = takeF (List.drop (1 : Nat) l) →
 iteP (decide ((255 : Int) < x))
 (K (Dir.mk d.minus d.zero d.plus d.space x (max x_1 (-1 : Int)) d.kind) (2 : Int)
 (AV.sl (List.drop (1 : Nat) (List.drop (1 : Nat) l)) (0 : Nat)) b n)
 (iteP (decide ((255 : Int) < max x_1 (-1 : Int)))
 (K (Dir.mk d.minus d.zero d.plus d.space x (max x_1 (-1 : Int)) d.kind) (2 : Int)
 (AV.sl (List.drop (1 : Nat) (List.drop (1 : Nat) l)) (0 : Nat)) b n)
 (K (Dir.mk d.minus d.zero d.plus d.space x (max x_1 (-1 : Int)) d.kind) (0 : Int)
 (AV.sl (List.drop (1 : Nat) (List.drop (1 : Nat) l)) (0 : Nat)) b n)))
 (iteP (decide ((255 : Int) < x))
 (K (Dir.mk d.minus d.zero d.plus d.space x d.prec d.kind) (2 : Int)
 (AV.sl (List.drop (1 : Nat) l) (0 : Nat)) b n)
 (iteP (decide ((255 : Int) < d.prec))
 (K (Dir.mk d.minus d.zero d.plus d.space x d.prec d.kind) (2 : Int)
 (AV.sl (List.drop (1 : Nat) l) (0 : Nat)) b n)
 (K (Dir.mk d.minus d.zero d.plus d.space x d.prec d.kind) (0 : Int)
 (AV.sl (List.drop (1 : Nat) l) (0 : Nat)) b n)))))
 (iteP (d.prec == (-2 : Int))
 ((sC (AV.sl l (0 : Nat))
 (hBytes
 (Heap.mk (5 : Nat)
 (((Tr.leaf.node (some (AObj.cells [AV.ptr (3 : Nat) (0 : Nat), AV.sl b (5 : Nat)]))
 Tr.leaf).node
 (some (AObj.cells [AV.sl l (0 : Nat)])) Tr.leaf).node
 none
 ((Tr.leaf.node (some (AObj.own (1 : Nat) (5 : Nat) n)) Tr.leaf).node
 (some (AObj.cells [AV.ptr (1 : Nat) (0 : Nat)])) Tr.leaf))
 (1 : Nat)
 (((Tr.leaf.node (some ((54 : Nat), (2 : Nat))) Tr.leaf).node (some ((51 : Nat), (1 : Nat)))
 Tr.leaf).node
 none (Tr.leaf.node (some ((49 : Nat), (1 : Nat))) Tr.leaf))))
 (hN
 (Heap.mk (5 : Nat)
 (((Tr.leaf.node (some (AObj.cells [AV.ptr (3 : Nat) (0 : Nat), AV.sl b (5 : Nat)]))
 Tr.leaf).node
 (some (AObj.cells [AV.sl l (0 : Nat)])) Tr.leaf).node
 none
 ((Tr.leaf.node (some (AObj.own (1 : Nat) (5 : Nat) n)) Tr.leaf).node
 (some (AObj.cells [AV.ptr (1 : Nat) (0 : Nat)])) Tr.leaf))
 (1 : Nat)
 (((Tr.leaf.node (some ((54 : Nat), (2 : Nat))) Tr.leaf).node (some ((51 : Nat), (1 : Nat)))
 Tr.leaf).node
 none (Tr.leaf.node (some ((49 : Nat), (1 : Nat))) Tr.leaf)))) =
 sC (AV.sl l (0 : Nat))
 (hBytes
 (Heap.mk (5 : Nat)
 (((Tr.leaf.node (some (AObj.cells [AV.ptr (3 : Nat) (0 : Nat), AV.sl b (5 : Nat)]))
 Tr.leaf).node
 (some (AObj.cells [AV.sl l (0 : Nat)])) Tr.leaf).node
 none
 ((Tr.leaf.node (some (AObj.own (1 : Nat) (5 : Nat) n)) Tr.leaf).node
 (some (AObj.cells [AV.ptr (1 : Nat) (0 : Nat)])) Tr.leaf))
 (1 : Nat)
 (((Tr.leaf.node (some ((54 : Nat), (2 : Nat))) Tr.leaf).node (some ((51 : Nat), (1 : Nat)))
 Tr.leaf).node
 none (Tr.leaf.node (some ((49 : Nat), (1 : Nat))) Tr.leaf))))
 (hN
 (Heap.mk (5 : Nat)
 (((Tr.leaf.node (some (AObj.cells [AV.ptr (3 : Nat) (0 : Nat), AV.sl b (5 : Nat)]))
 Tr.leaf).node
 (some (AObj.cells [AV.sl l (0 : Nat)])) Tr.leaf).node
 none
 ((Tr.leaf.node (some (AObj.own (1 : Nat) (5 : Nat) n)) Tr.leaf).node
 (some (AObj.cells [AV.ptr (1 : Nat) (0 : Nat)])) Tr.leaf))
 (1 : Nat)
 (((Tr.leaf.node (some ((54 : Nat), (2 : Nat))) Tr.leaf).node (some ((51 : Nat), (1 : Nat)))
 Tr.leaf).node
 none (Tr.leaf.node (some ((49 : Nat), (1 : Nat))) Tr.leaf)))) ∧
 (1 : Nat) ≤ List.length l ∧ goodsB l = true) ∧
 ∀ (x : Int),
 x = takeF l →
 iteP (decide ((255 : Int) < d.width))
 (K (Dir.mk d.minus d.zero d.plus d.space d.width (max x (-1 : Int)) d.kind) (2 : Int)
 (AV.sl (List.drop (1 : Nat) l) (0 : Nat)) b n)
 (iteP (decide ((255 : Int) < max x (-1 : Int)))
 (K (Dir.mk d.minus d.zero d.plus d.space d.width (max x (-1 : Int)) d.kind) (2 : Int)
 (AV.sl (List.drop (1 : Nat) l) (0 : Nat)) b n)
 (K (Dir.mk d.minus d.zero d.plus d.space d.width (max x (-1 : Int)) d.kind) (0 : Int)
 (AV.sl (List.drop (1 : Nat) l) (0 : Nat)) b n)))
 (iteP (decide ((255 : Int) < d.width))
 (K (Dir.mk d.minus d.zero d.plus d.space d.width d.prec d.kind) (2 : Int) (AV.sl l (0 : Nat)) b n)
 (iteP (decide ((255 : Int) < d.prec))
 (K (Dir.mk d.minus d.zero d.plus d.space d.width d.prec d.kind) (2 : Int) (AV.sl l (0 : Nat)) b n)
 (K (Dir.mk d.minus d.zero d.plus d.space d.width d.prec d.kind) (0 : Int) (AV.sl l (0 : Nat)) b
 n))))))))
 (iteP (d.prec == (-2 : Int))
 (iteP (d.kind != (37 : Int))
 (iteP (decide ((↑(List.length l) : Int) < (2 : Int)))
 (K (Dir.mk d.minus d.zero d.plus d.space d.width d.prec d.kind) (18 : Int) (AV.sl l (0 : Nat)) b n)
 (iteP (d.width == (-2 : Int))
 ((sC (AV.sl l (0 : Nat))
 (hBytes
 (Heap.mk (5 : Nat)
 (((Tr.leaf.node (some (AObj.cells [AV.ptr (3 : Nat) (0 : Nat), AV.sl b (5 : Nat)])) Tr.leaf).node
 (some (AObj.cells [AV.sl l (0 : Nat)])) Tr.leaf).node
 none
 ((Tr.leaf.node (some (AObj.own (1 : Nat) (5 : Nat) n)) Tr.leaf).node
 (some (AObj.cells [AV.ptr (1 : Nat) (0 : Nat)])) Tr.leaf))
 (1 : Nat)
 (((Tr.leaf.node (some ((54 : Nat), (2 : Nat))) Tr.leaf).node (some ((51 : Nat), (1 : Nat)))
 Tr.leaf).node
 none (Tr.leaf.node (some ((49 : Nat), (1 : Nat))) Tr.leaf))))
 (hN
 (Heap.mk (5 : Nat)
 (((Tr.leaf.node (some (AObj.cells [AV.ptr (3 : Nat) (0 : Nat), AV.sl b (5 : Nat)])) Tr.leaf).node
 (some (AObj.cells [AV.sl l (0 : Nat)])) Tr.leaf).node
 none
 ((Tr.leaf.node (some (AObj.own (1 : Nat) (5 : Nat) n)) Tr.leaf).node
 (some (AObj.cells [AV.ptr (1 : Nat) (0 : Nat)])) Tr.leaf))
 (1 : Nat)
 (((Tr.leaf.node (some ((54 : Nat), (2 : Nat))) Tr.leaf).node (some ((51 : Nat), (1 : Nat)))
 Tr.leaf).node
 none (Tr.leaf.node (some ((49 : Nat), (1 : Nat))) Tr.leaf)))) =
 sC (AV.sl l (0 : Nat))
 (hBytes
 (Heap.mk (5 : Nat)
 (((Tr.leaf.node (some (AObj.cells [AV.ptr (3 : Nat) (0 : Nat), AV.sl b (5 : Nat)])) Tr.leaf).node
 (some (AObj.cells [AV.sl l (0 : Nat)])) Tr.leaf).node
 none
 ((Tr.leaf.node (some (AObj.own (1 : Nat) (5 : Nat) n)) Tr.leaf).node
 (some (AObj.cells [AV.ptr (1 : Nat) (0 : Nat)])) Tr.leaf))
 (1 : Nat)
 (((Tr.leaf.node (some ((54 : Nat), (2 : Nat))) Tr.leaf).node (some ((51 : Nat), (1 : Nat)))
 Tr.leaf).node
 none (Tr.leaf.node (some ((49 : Nat), (1 : Nat))) Tr.leaf))))
 (hN
 (Heap.mk (5 : Nat)
 (((Tr.leaf.node (some (AObj.cells [AV.ptr (3 : Nat) (0 : Nat), AV.sl b (5 : Nat)])) Tr.leaf).node
 (some (AObj.cells [AV.sl l (0 : Nat)])) Tr.leaf).node
 none
 ((Tr.leaf.node (some (AObj.own (1 : Nat) (5 : Nat) n)) Tr.leaf).node
 (some (AObj.cells [AV.ptr (1 : Nat) (0 : Nat)])) Tr.leaf))
 (1 : Nat)
 (((Tr.leaf.node (some ((54 : Nat), (2 : Nat))) Tr.leaf).node (some ((51 : Nat), (1 : Nat)))
 Tr.leaf).node
 none (Tr.leaf.node (some ((49 : Nat), (1 : Nat))) Tr.leaf)))) ∧
 (1 : Nat) ≤ List.length l ∧ goodsB l = true) ∧
 ∀ (x : Int),
 x = takeF l →
 iteP (decide (x < (0 : Int)))
 (iteP (d.prec == (-2 : Int))
 ((sC (AV.sl (List.drop (1 : Nat) l) (0 : Nat))
 (hBytes
 (Heap.mk (OfNat.ofNat (5 : Nat))
 (((Tr.leaf.node (some (AObj.cells [AV.ptr (3 : Nat) (0 : Nat), AV.sl b (5 : Nat)]))
 Tr.leaf).node
 (some (AObj.cells [AV.sl (List.drop (1 : Nat) l) (0 : Nat)])) Tr.leaf).node
 none
 ((Tr.leaf.node (some (AObj.own (1 : Nat) (5 : Nat) n)) Tr.leaf).node
 (some (AObj.cells [AV.ptr (1 : Nat) (0 : Nat)])) Tr.leaf))
 (OfNat.ofNat (1 : Nat))
 (((Tr.leaf.node (some ((54 : Nat), (2 : Nat))) Tr.leaf).node
 (some ((51 : Nat), (1 : Nat))) Tr.leaf).node
 none (Tr.leaf.node (some ((49 : Nat), (1 : Nat))) Tr.leaf))))
 (hN
 (Heap.mk (OfNat.ofNat (5 : Nat))
 (((Tr.leaf.node (some (AObj.cells [AV.ptr (3 : Nat) (0 : Nat), AV.sl b (5 : Nat)]))
 Tr.leaf).node
 (some (AObj.cells [AV.sl (List.drop (1 : Nat) l) (0 : Nat)])) Tr.leaf).node
 none
 ((Tr.leaf.node (some (AObj.own (1 : Nat) (5 : Nat) n)) Tr.leaf).node
 (some (AObj.cells [AV.ptr (1 : Nat) (0 : Nat)])) Tr.leaf))
 (OfNat.ofNat (1 : Nat))
 (((Tr.leaf.node (some ((54 : Nat), (2 : Nat))) Tr.leaf).node
 (some ((51 : Nat), (1 : Nat))) Tr.leaf).node
 none (Tr.leaf.node (some ((49 : Nat), (1 : Nat))) Tr.leaf)))) =
 sC (AV.sl (List.drop (1 : Nat) l) (0 : Nat))
 (hBytes
 (Heap.mk (OfNat.ofNat (5 : Nat))
 (((Tr.leaf.node (some (AObj.cells [AV.ptr (3 : Nat) (0 : Nat), AV.sl b (5 : Nat)]))
 Tr.leaf).node
 (some (AObj.cells [AV.sl (List.drop (1 : Nat) l) (0 : Nat)])) Tr.leaf).node
 none
 ((Tr.leaf.node (some (AObj.own (1 : Nat) (5 : Nat) n)) Tr.leaf).node
 (some (AObj.cells [AV.ptr (1 : Nat) (0 : Nat)])) Tr.leaf))
 (OfNat.ofNat (1 : Nat))
 (((Tr.leaf.node (some ((54 : Nat), (2 : Nat))) Tr.leaf).node
 (some ((51 : Nat), (1 : Nat))) Tr.leaf).node
 none (Tr.leaf.node (some ((49 : Nat), (1 : Nat))) Tr.leaf))))
 (hN
 (Heap.mk (OfNat.ofNat (5 : Nat))
 (((Tr.leaf.node (some (AObj.cells [AV.ptr (3 : Nat) (0 : Nat), AV.sl b (5 : Nat)]))
 Tr.leaf).node
 (some (AObj.cells [AV.sl (List.drop (1 : Nat) l) (0 : Nat)])) Tr.leaf).node
 none
 ((Tr.leaf.node (some (AObj.own (1 : Nat) (5 : Nat) n)) Tr.leaf).node
 (some (AObj.cells [AV.ptr (1 : Nat) (0 : Nat)])) Tr.leaf))
 (OfNat.ofNat (1 : Nat))
 (((Tr.leaf.node (some ((54 : Nat), (2 : Nat))) Tr.leaf).node
 (some ((51 : Nat), (1 : Nat))) Tr.leaf).node
 none (Tr.leaf.node (some ((49 : Nat), (1 : Nat))) Tr.leaf)))) ∧
 (1 : Nat) ≤ (List.drop (1 : Nat) l).length ∧ goodsB (List.drop (1 : Nat) l) = true) ∧
 ∀ (x_1 : Int),
 x_1 = takeF (List.drop (1 : Nat) l) →
 iteP (decide ((255 : Int) < IntKind.i64.wrap ((0 : Int) - x)))
 (K
 (Dir.mk true d.zero d.plus d.space (IntKind.i64.wrap ((0 : Int) - x)) (max x_1 (-1 : Int))
 d.kind)
 (2 : Int) (AV.sl (List.drop (1 : Nat) (List.drop (1 : Nat) l)) (0 : Nat)) b n)
 (iteP (decide ((255 : Int) < max x_1 (-1 : Int)))
 (K
 (Dir.mk true d.zero d.plus d.space (IntKind.i64.wrap ((0 : Int) - x))
 (max x_1 (-1 : Int)) d.kind)
 (2 : Int) (AV.sl (List.drop (1 : Nat) (List.drop (1 : Nat) l)) (0 : Nat)) b n)
 (K
 (Dir.mk true d.zero d.plus d.space (IntKind.i64.wrap ((0 : Int) - x))
 (max x_1 (-1 : Int)) d.kind)
 (0 : Int) (AV.sl (List.drop (1 : Nat) (List.drop (1 : Nat) l)) (0 : Nat)) b n)))
 (iteP (decide ((255 : Int) < IntKind.i64.wrap ((0 : Int) - x)))
 (K (Dir.mk true d.zero d.plus d.space (IntKind.i64.wrap ((0 : Int) - x)) d.prec d.kind) (2 : Int)
 (AV.sl (List.drop (1 : Nat) l) (0 : Nat)) b n)
 (iteP (decide ((255 : Int) < d.prec))
 (K (Dir.mk true d.zero d.plus d.space (IntKind.i64.wrap ((0 : Int) - x)) d.prec d.kind)
 (2 : Int) (AV.sl (List.drop (1 : Nat) l) (0 : Nat)) b n)
 (K (Dir.mk true d.zero d.plus d.space (IntKind.i64.wrap ((0 : Int) - x)) d.prec d.kind)
 (0 : Int) (AV.sl (List.drop (1 : Nat) l) (0 : Nat)) b n))))
 (iteP (d.prec == (-2 : Int))
 ((sC (AV.sl (List.drop (1 : Nat) l) (0 : Nat))
 (hBytes
 (Heap.mk (OfNat.ofNat (5 : Nat))
 (((Tr.leaf.node (some (AObj.cells [AV.ptr (3 : Nat) (0 : Nat), AV.sl b (5 : Nat)]))
 Tr.leaf).node
 (some (AObj.cells [AV.sl (List.drop (1 : Nat) l) (0 : Nat)])) Tr.leaf).node
 none
 ((Tr.leaf.node (some (AObj.own (1 : Nat) (5 : Nat) n)) Tr.leaf).node
 (some (AObj.cells [AV.ptr (1 : Nat) (0 : Nat)])) Tr.leaf))
 (OfNat.ofNat (1 : Nat))
 (((Tr.leaf.node (some ((54 : Nat), (2 : Nat))) Tr.leaf).node
 (some ((51 : Nat), (1 : Nat))) Tr.leaf).node
 none (Tr.leaf.node (some ((49 : Nat), (1 : Nat))) Tr.leaf))))
 (hN
 (Heap.mk (OfNat.ofNat (5 : Nat))
 (((Tr.leaf.node (some (AObj.cells [AV.ptr (3 : Nat) (0 : Nat), AV.sl b (5 : Nat)]))
 Tr.leaf).node
 (some (AObj.cells [AV.sl (List.drop (1 : Nat) l) (0 : Nat)])) Tr.leaf).node
 none
 ((Tr.leaf.node (some (AObj.own (1 : Nat) (5 : Nat) n)) Tr.leaf).node
 (some (AObj.cells [AV.ptr (1 : Nat) (0 : Nat)])) Tr.leaf))
 (OfNat.ofNat (1 : Nat))
 (((Tr.leaf.node (some ((54 : Nat), (2 : Nat))) Tr.leaf).node
 (some ((51 : Nat), (1 : Nat))) Tr.leaf).node
 none (Tr.leaf.node (some ((49 : Nat), (1 : Nat))) Tr.leaf)))) =
 sC (AV.sl (List.drop (1 : Nat) l) (0 : Nat))
 (hBytes
 (Heap.mk (OfNat.ofNat (5 : Nat))
 (((Tr.leaf.node (some (AObj.cells [AV.ptr (3 : Nat) (0 : Nat), AV.sl b (5 : Nat)]))
 Tr.leaf).node
 (some (AObj.cells [AV.sl (List.drop (1 : Nat) l) (0 : Nat)])) Tr.leaf).node
 none
 ((Tr.leaf.node (some (AObj.own (1 : Nat) (5 : Nat) n)) Tr.leaf).node
 (some (AObj.cells [AV.ptr (1 : Nat) (0 : Nat)])) Tr.leaf))
 (OfNat.ofNat (1 : Nat))
 (((Tr.leaf.node (some ((54 : Nat), (2 : Nat))) Tr.leaf).node
 (some ((51 : Nat), (1 : Nat))) Tr.leaf).node
 none (Tr.leaf.node (some ((49 : Nat), (1 : Nat))) Tr.leaf))))
 (hN
 (Heap.mk (OfNat.ofNat (5 : Nat))
 (((Tr.leaf.node (some (AObj.cells [AV.ptr (3 : Nat) (0 : Nat), AV.sl b (5 : Nat)]))
 Tr.leaf).node
 (some (AObj.cells [AV.sl (List.drop (1 : Nat) l) (0 : Nat)])) Tr.leaf).node
 none
 ((Tr.leaf.node (some (AObj.own (1 : Nat) (5 : Nat) n)) Tr.leaf).node
 (some (AObj.cells [AV.ptr (1 : Nat) (0 : Nat)])) Tr.leaf))
 (OfNat.ofNat (1 : Nat))
 (((Tr.leaf.node (some ((54 : Nat), (2 : Nat))) Tr.leaf).node
 (some ((51 : Nat), (1 : Nat))) Tr.leaf).node
 none (Tr.leaf.node (some ((49 : Nat), (1 : Nat))) Tr.leaf)))) ∧
 (1 : Nat) ≤ (List.drop (1 : Nat) l).length ∧ goodsB (List.drop (1 : Nat) l) = true) ∧
 ∀ (x_1 : Int),
 x_1 = takeF (List.drop (1 : Nat) l) →
 iteP (decide ((255 : Int) < x))
 (K (Dir.mk d.minus d.zero d.plus d.space x (max x_1 (-1 : Int)) d.kind) (2 : Int)
 (AV.sl (List.drop (1 : Nat) (List.drop (1 : Nat) l)) (0 : Nat)) b n)
 (iteP (decide ((255 : Int) < max x_1 (-1 : Int)))
 (K (Dir.mk d.minus d.zero d.plus d.space x (max x_1 (-1 : Int)) d.kind) (2 : Int)
 (AV.sl (List.drop (1 : Nat) (List.drop (1 : Nat) l)) (0 : Nat)) b n)
 (K (Dir.mk d.minus d.zero d.plus d.space x (max x_1 (-1 : Int)) d.kind) (0 : Int)
 (AV.sl (List.drop (1 : Nat) (List.drop (1 : Nat) l)) (0 : Nat)) b n)))
 (iteP (decide ((255 : Int) < x))
 (K (Dir.mk d.minus d.zero d.plus d.space x d.prec d.kind) (2 : Int)
 (AV.sl (List.drop (1 : Nat) l) (0 : Nat)) b n)
 (iteP (decide ((255 : Int) < d.prec))
 (K (Dir.mk d.minus d.zero d.plus d.space x d.prec d.kind) (2 : Int)
 (AV.sl (List.drop (1 : Nat) l) (0 : Nat)) b n)
 (K (Dir.mk d.minus d.zero d.plus d.space x d.prec d.kind) (0 : Int)
 (AV.sl (List.drop (1 : Nat) l) (0 : Nat)) b n)))))
 (iteP (d.prec == (-2 : Int))
 ((sC (AV.sl l (0 : Nat))
 (hBytes
 (Heap.mk (5 : Nat)
 (((Tr.leaf.node (some (AObj.cells [AV.ptr (3 : Nat) (0 : Nat), AV.sl b (5 : Nat)]))
 Tr.leaf).node
 (some (AObj.cells [AV.sl l (0 : Nat)])) Tr.leaf).node
 none
 ((Tr.leaf.node (some (AObj.own (1 : Nat) (5 : Nat) n)) Tr.leaf).node
 (some (AObj.cells [AV.ptr (1 : Nat) (0 : Nat)])) Tr.leaf))
 (1 : Nat)
 (((Tr.leaf.node (some ((54 : Nat), (2 : Nat))) Tr.leaf).node (some ((51 : Nat), (1 : Nat)))
 Tr.leaf).node
 none (Tr.leaf.node (some ((49 : Nat), (1 : Nat))) Tr.leaf))))
 (hN
 (Heap.mk (5 : Nat)
 (((Tr.leaf.node (some (AObj.cells [AV.ptr (3 : Nat) (0 : Nat), AV.sl b (5 : Nat)]))
 Tr.leaf).node
 (some (AObj.cells [AV.sl l (0 : Nat)])) Tr.leaf).node
 none
 ((Tr.leaf.node (some (AObj.own (1 : Nat) (5 : Nat) n)) Tr.leaf).node
 (some (AObj.cells [AV.ptr (1 : Nat) (0 : Nat)])) Tr.leaf))
 (1 : Nat)
 (((Tr.leaf.node (some ((54 : Nat), (2 : Nat))) Tr.leaf).node (some ((51 : Nat), (1 : Nat)))
 Tr.leaf).node
 none (Tr.leaf.node (some ((49 : Nat), (1 : Nat))) Tr.leaf)))) =
 sC (AV.sl l (0 : Nat))
 (hBytes
 (Heap.mk (5 : Nat)
 (((Tr.leaf.node (some (AObj.cells [AV.ptr (3 : Nat) (0 : Nat), AV.sl b (5 : Nat)]))
 Tr.leaf).node
 (some (AObj.cells [AV.sl l (0 : Nat)])) Tr.leaf).node
 none
 ((Tr.leaf.node (some (AObj.own (1 : Nat) (5 : Nat) n)) Tr.leaf).node
 (some (AObj.cells [AV.ptr (1 : Nat) (0 : Nat)])) Tr.leaf))
 (1 : Nat)
 (((Tr.leaf.node (some ((54 : Nat), (2 : Nat))) Tr.leaf).node (some ((51 : Nat), (1 : Nat)))
 Tr.leaf).node
 none (Tr.leaf.node (some ((49 : Nat), (1 : Nat))) Tr.leaf))))
 (hN
 (Heap.mk (5 : Nat)
 (((Tr.leaf.node (some (AObj.cells [AV.ptr (3 : Nat) (0 : Nat), AV.sl b (5 : Nat)]))
 Tr.leaf).node
 (some (AObj.cells [AV.sl l (0 : Nat)])) Tr.leaf).node
 none
 ((Tr.leaf.node (some (AObj.own (1 : Nat) (5 : Nat) n)) Tr.leaf).node
 (some (AObj.cells [AV.ptr (1 : Nat) (0 : Nat)])) Tr.leaf))
 (1 : Nat)
 (((Tr.leaf.node (some ((54 : Nat), (2 : Nat))) Tr.leaf).node (some ((51 : Nat), (1 : Nat)))
 Tr.leaf).node
 none (Tr.leaf.node (some ((49 : Nat), (1 : Nat))) Tr.leaf)))) ∧
 (1 : Nat) ≤ List.length l ∧ goodsB l = true) ∧
 ∀ (x : Int),
 x = takeF l →
 iteP (decide ((255 : Int) < d.width))
 (K (Dir.mk d.minus d.zero d.plus d.space d.width (max x (-1 : Int)) d.kind) (2 : Int)
 (AV.sl (List.drop (1 : Nat) l) (0 : Nat)) b n)
 (iteP (decide ((255 : Int) < max x (-1 : Int)))
 (K (Dir.mk d.minus d.zero d.plus d.space d.width (max x (-1 : Int)) d.kind) (2 : Int)
 (AV.sl (List.drop (1 : Nat) l) (0 : Nat)) b n)
 (K (Dir.mk d.minus d.zero d.plus d.space d.width (max x (-1 : Int)) d.kind) (0 : Int)
 (AV.sl (List.drop (1 : Nat) l) (0 : Nat)) b n)))
 (iteP (decide ((255 : Int) < d.width))
 (K (Dir.mk d.minus d.zero d.plus d.space d.width d.prec d.kind) (2 : Int) (AV.sl l (0 : Nat)) b n)
 (iteP (decide ((255 : Int) < d.prec))
 (K (Dir.mk d.minus d.zero d.plus d.space d.width d.prec d.kind) (2 : Int) (AV.sl l (0 : Nat)) b n)
 (K (Dir.mk d.minus d.zero d.plus d.space d.width d.prec d.kind) (0 : Int) (AV.sl l (0 : Nat)) b n))))))
 (iteP (decide ((↑(List.length l) : Int) < (1 : Int)))
 (K (Dir.mk d.minus d.zero d.plus d.space d.width d.prec d.kind) (18 : Int) (AV.sl l (0 : Nat)) b n)
 (iteP (d.width == (-2 : Int))
 ((sC (AV.sl l (0 : Nat))
 (hBytes
 (Heap.mk (5 : Nat)
 (((Tr.leaf.node (some (AObj.cells [AV.ptr (3 : Nat) (0 : Nat), AV.sl b (5 : Nat)])) Tr.leaf).node
 (some (AObj.cells [AV.sl l (0 : Nat)])) Tr.leaf).node
 none
 ((Tr.leaf.node (some (AObj.own (1 : Nat) (5 : Nat) n)) Tr.leaf).node
 (some (AObj.cells [AV.ptr (1 : Nat) (0 : Nat)])) Tr.leaf))
 (1 : Nat)
 (((Tr.leaf.node (some ((54 : Nat), (2 : Nat))) Tr.leaf).node (some ((51 : Nat), (1 : Nat)))
 Tr.leaf).node
 none (Tr.leaf.node (some ((49 : Nat), (1 : Nat))) Tr.leaf))))
 (hN
 (Heap.mk (5 : Nat)
 (((Tr.leaf.node (some (AObj.cells [AV.ptr (3 : Nat) (0 : Nat), AV.sl b (5 : Nat)])) Tr.leaf).node
 (some (AObj.cells [AV.sl l (0 : Nat)])) Tr.leaf).node
 none
 ((Tr.leaf.node (some (AObj.own (1 : Nat) (5 : Nat) n)) Tr.leaf).node
 (some (AObj.cells [AV.ptr (1 : Nat) (0 : Nat)])) Tr.leaf))
 (1 : Nat)
 (((Tr.leaf.node (some ((54 : Nat), (2 : Nat))) Tr.leaf).node (some ((51 : Nat), (1 : Nat)))
 Tr.leaf).node
 none (Tr.leaf.node (some ((49 : Nat), (1 : Nat))) Tr.leaf)))) =
 sC (AV.sl l (0 : Nat))
 (hBytes
 (Heap.mk (5 : Nat)
 (((Tr.leaf.node (some (AObj.cells [AV.ptr (3 : Nat) (0 : Nat), AV.sl b (5 : Nat)])) Tr.leaf).node
 (some (AObj.cells [AV.sl l (0 : Nat)])) Tr.leaf).node
 none
 ((Tr.leaf.node (some (AObj.own (1 : Nat) (5 : Nat) n)) Tr.leaf).node
 (some (AObj.cells [AV.ptr (1 : Nat) (0 : Nat)])) Tr.leaf))
 (1 : Nat)
 (((Tr.leaf.node (some ((54 : Nat), (2 : Nat))) Tr.leaf).node (some ((51 : Nat), (1 : Nat)))
 Tr.leaf).node
 none (Tr.leaf.node (some ((49 : Nat), (1 : Nat))) Tr.leaf))))
 (hN
 (Heap.mk (5 : Nat)
 (((Tr.leaf.node (some (AObj.cells [AV.ptr (3 : Nat) (0 : Nat), AV.sl b (5 : Nat)])) Tr.leaf).node
 (some (AObj.cells [AV.sl l (0 : Nat)])) Tr.leaf).node
 none
 ((Tr.leaf.node (some (AObj.own (1 : Nat) (5 : Nat) n)) Tr.leaf).node
 (some (AObj.cells [AV.ptr (1 : Nat) (0 : Nat)])) Tr.leaf))
 (1 : Nat)
 (((Tr.leaf.node (some ((54 : Nat), (2 : Nat))) Tr.leaf).node (some ((51 : Nat), (1 : Nat)))
 Tr.leaf).node
 none (Tr.leaf.node (some ((49 : Nat), (1 : Nat))) Tr.leaf)))) ∧
 (1 : Nat) ≤ List.length l ∧ goodsB l = true) ∧
 ∀ (x : Int),
 x = takeF l →
 iteP (decide (x < (0 : Int)))
 (iteP (d.prec == (-2 : Int))
 ((sC (AV.sl (List.drop (1 : Nat) l) (0 : Nat))
 (hBytes
 (Heap.mk (OfNat.ofNat (5 : Nat))
 (((Tr.leaf.node (some (AObj.cells [AV.ptr (3 : Nat) (0 : Nat), AV.sl b (5 : Nat)]))
 Tr.leaf).node
 (some (AObj.cells [AV.sl (List.drop (1 : Nat) l) (0 : Nat)])) Tr.leaf).node
 none
 ((Tr.leaf.node (some (AObj.own (1 : Nat) (5 : Nat) n)) Tr.leaf).node
 (some (AObj.cells [AV.ptr (1 : Nat) (0 : Nat)])) Tr.leaf))
 (OfNat.ofNat (1 : Nat))
 (((Tr.leaf.node (some ((54 : Nat), (2 : Nat))) Tr.leaf).node
 (some ((51 : Nat), (1 : Nat))) Tr.leaf).node
 none (Tr.leaf.node (some ((49 : Nat), (1 : Nat))) Tr.leaf))))
 (hN
 (Heap.mk (OfNat.ofNat (5 : Nat))
 (((Tr.leaf.node (some (AObj.cells [AV.ptr (3 : Nat) (0 : Nat), AV.sl b (5 : Nat)]))
 Tr.leaf).node
 (some (AObj.cells [AV.sl (List.drop (1 : Nat) l) (0 : Nat)])) Tr.leaf).node
 none
 ((Tr.leaf.node (some (AObj.own (1 : Nat) (5 : Nat) n)) Tr.leaf).node
 (some (AObj.cells [AV.ptr (1 : Nat) (0 : Nat)])) Tr.leaf))
 (OfNat.ofNat (1 : Nat))
 (((Tr.leaf.node (some ((54 : Nat), (2 : Nat))) Tr.leaf).node
 (some ((51 : Nat), (1 : Nat))) Tr.leaf).node
 none (Tr.leaf.node (some ((49 : Nat), (1 : Nat))) Tr.leaf)))) =
 sC (AV.sl (List.drop (1 : Nat) l) (0 : Nat))
 (hBytes
 (Heap.mk (OfNat.ofNat (5 : Nat))
 (((Tr.leaf.node (some (AObj.cells [AV.ptr (3 : Nat) (0 : Nat), AV.sl b (5 : Nat)]))
 Tr.leaf).node
 (some (AObj.cells [AV.sl (List.drop (1 : Nat) l) (0 : Nat)])) Tr.leaf).node
 none
 ((Tr.leaf.node (some (AObj.own (1 : Nat) (5 : Nat) n)) Tr.leaf).node
 (some (AObj.cells [AV.ptr (1 : Nat) (0 : Nat)])) Tr.leaf))
 (OfNat.ofNat (1 : Nat))
 (((Tr.leaf.node (some ((54 : Nat), (2 : Nat))) Tr.leaf).node
 (some ((51 : Nat), (1 : Nat))) Tr.leaf).node
 none (Tr.leaf.node (some ((49 : Nat), (1 : Nat))) Tr.leaf))))
 (hN
 (Heap.mk (OfNat.ofNat (5 : Nat))
 (((Tr.leaf.node (some (AObj.cells [AV.ptr (3 : Nat) (0 : Nat), AV.sl b (5 : Nat)]))
 Tr.leaf).node
 (some (AObj.cells [AV.sl (List.drop (1 : Nat) l) (0 : Nat)])) Tr.leaf).node
 none
 ((Tr.leaf.node (some (AObj.own (1 : Nat) (5 : Nat) n)) Tr.leaf).node
 (some (AObj.cells [AV.ptr (1 : Nat) (0 : Nat)])) Tr.leaf))
 (OfNat.ofNat (1 : Nat))
 (((Tr.leaf.node (some ((54 : Nat), (2 : Nat))) Tr.leaf).node
 (some ((51 : Nat), (1 : Nat))) Tr.leaf).node
 none (Tr.leaf.node (some ((49 : Nat), (1 : Nat))) Tr.leaf)))) ∧
 (1 : Nat) ≤ (List.drop (1 : Nat) l).length ∧ goodsB (List.drop (1 : Nat) l) = true) ∧
 ∀ (x_1 : Int),
 x_1 = takeF (List.drop (1 : Nat) l) →
 iteP (decide ((255 : Int) < IntKind.i64.wrap ((0 : Int) - x)))
 (K
 (Dir.mk true d.zero d.plus d.space (IntKind.i64.wrap ((0 : Int) - x)) (max x_1 (-1 : Int))
 d.kind)
 (2 : Int) (AV.sl (List.drop (1 : Nat) (List.drop (1 : Nat) l)) (0 : Nat)) b n)
 (iteP (decide ((255 : Int) < max x_1 (-1 : Int)))
 (K
 (Dir.mk true d.zero d.plus d.space (IntKind.i64.wrap ((0 : Int) - x))
 (max x_1 (-1 : Int)) d.kind)
 (2 : Int) (AV.sl (List.drop (1 : Nat) (List.drop (1 : Nat) l)) (0 : Nat)) b n)
 (K
 (Dir.mk true d.zero d.plus d.space (IntKind.i64.wrap ((0 : Int) - x))
 (max x_1 (-1 : Int)) d.kind)
 (0 : Int) (AV.sl (List.drop (1 : Nat) (List.drop (1 : Nat) l)) (0 : Nat)) b n)))
 (iteP (decide ((255 : Int) < IntKind.i64.wrap ((0 : Int) - x)))
 (K (Dir.mk true d.zero d.plus d.space (IntKind.i64.wrap ((0 : Int) - x)) d.prec d.kind) (2 : Int)
 (AV.sl (List.drop (1 : Nat) l) (0 : Nat)) b n)
 (iteP (decide ((255 : Int) < d.prec))
 (K (Dir.mk true d.zero d.plus d.space (IntKind.i64.wrap ((0 : Int) - x)) d.prec d.kind)
 (2 : Int) (AV.sl (List.drop (1 : Nat) l) (0 : Nat)) b n)
 (K (Dir.mk true d.zero d.plus d.space (IntKind.i64.wrap ((0 : Int) - x)) d.prec d.kind)
 (0 : Int) (AV.sl (List.drop (1 : Nat) l) (0 : Nat)) b n))))
 (iteP (d.prec == (-2 : Int))
 ((sC (AV.sl (List.drop (1 : Nat) l) (0 : Nat))
 (hBytes
 (Heap.mk (OfNat.ofNat (5 : Nat))
 (((Tr.leaf.node (some (AObj.cells [AV.ptr (3 : Nat) (0 : Nat), AV.sl b (5 : Nat)]))
 Tr.leaf).node
 (some (AObj.cells [AV.sl (List.drop (1 : Nat) l) (0 : Nat)])) Tr.leaf).node
 none
 ((Tr.leaf.node (some (AObj.own (1 : Nat) (5 : Nat) n)) Tr.leaf).node
 (some (AObj.cells [AV.ptr (1 : Nat) (0 : Nat)])) Tr.leaf))
 (OfNat.ofNat (1 : Nat))
 (((Tr.leaf.node (some ((54 : Nat), (2 : Nat))) Tr.leaf).node
 (some ((51 : Nat), (1 : Nat))) Tr.leaf).node
 none (Tr.leaf.node (some ((49 : Nat), (1 : Nat))) Tr.leaf))))
 (hN
 (Heap.mk (OfNat.ofNat (5 : Nat))
 (((Tr.leaf.node (some (AObj.cells [AV.ptr (3 : Nat) (0 : Nat), AV.sl b (5 : Nat)]))
 Tr.leaf).node
 (some (AObj.cells [AV.sl (List.drop (1 : Nat) l) (0 : Nat)])) Tr.leaf).node
 none
 ((Tr.leaf.node (some (AObj.own (1 : Nat) (5 : Nat) n)) Tr.leaf).node
 (some (AObj.cells [AV.ptr (1 : Nat) (0 : Nat)])) Tr.leaf))
 (OfNat.ofNat (1 : Nat))
 (((Tr.leaf.node (some ((54 : Nat), (2 : Nat))) Tr.leaf).node
 (some ((51 : Nat), (1 : Nat))) Tr.leaf).node
 none (Tr.leaf.node (some ((49 : Nat), (1 : Nat))) Tr.leaf)))) =
 sC (AV.sl (List.drop (1 : Nat) l) (0 : Nat))
 (hBytes
 (Heap.mk (OfNat.ofNat (5 : Nat))
 (((Tr.leaf.node (some (AObj.cells [AV.ptr (3 : Nat) (0 : Nat), AV.sl b (5 : Nat)]))
 Tr.leaf).node
 (some (AObj.cells [AV.sl (List.drop (1 : Nat) l) (0 : Nat)])) Tr.leaf).node
 none
 ((Tr.leaf.node (some (AObj.own (1 : Nat) (5 : Nat) n)) Tr.leaf).node
 (some (AObj.cells [AV.ptr (1 : Nat) (0 : Nat)])) Tr.leaf))
 (OfNat.ofNat (1 : Nat))
 (((Tr.leaf.node (some ((54 : Nat), (2 : Nat))) Tr.leaf).node
 (some ((51 : Nat), (1 : Nat))) Tr.leaf).node
 none (Tr.leaf.node (some ((49 : Nat), (1 : Nat))) Tr.leaf))))
 (hN
 (Heap.mk (OfNat.ofNat (5 : Nat))
 (((Tr.leaf.node (some (AObj.cells [AV.ptr (3 : Nat) (0 : Nat), AV.sl b (5 : Nat)]))
 Tr.leaf).node
 (some (AObj.cells [AV.sl (List.drop (1 : Nat) l) (0 : Nat)])) Tr.leaf).node
 none
 ((Tr.leaf.node (some (AObj.own (1 : Nat) (5 : Nat) n)) Tr.leaf).node
 (some (AObj.cells [AV.ptr (1 : Nat) (0 : Nat)])) Tr.leaf))
 (OfNat.ofNat (1 : Nat))
 (((Tr.leaf.node (some ((54 : Nat), (2 : Nat))) Tr.leaf).node
 (some ((51 : Nat), (1 : Nat))) Tr.leaf).node
 none (Tr.leaf.node (some ((49 : Nat), (1 : Nat))) Tr.leaf)))) ∧
 (1 : Nat) ≤ (List.drop (1 : Nat) l).length ∧ goodsB (List.drop (1 : Nat) l) = true) ∧
 ∀ (x_1 : Int),
 x_1 = takeF (List.drop (1 : Nat) l) →
 iteP (decide ((255 : Int) < x))
 (K (Dir.mk d.minus d.zero d.plus d.space x (max x_1 (-1 : Int)) d.kind) (2 : Int)
 (AV.sl (List.drop (1 : Nat) (List.drop (1 : Nat) l)) (0 : Nat)) b n)
 (iteP (decide ((255 : Int) < max x_1 (-1 : Int)))
 (K (Dir.mk d.minus d.zero d.plus d.space x (max x_1 (-1 : Int)) d.kind) (2 : Int)
 (AV.sl (List.drop (1 : Nat) (List.drop (1 : Nat) l)) (0 : Nat)) b n)
 (K (Dir.mk d.minus d.zero d.plus d.space x (max x_1 (-1 : Int)) d.kind) (0 : Int)
 (AV.sl (List.drop (1 : Nat) (List.drop (1 : Nat) l)) (0 : Nat)) b n)))
 (iteP (decide ((255 : Int) < x))
 (K (Dir.mk d.minus d.zero d.plus d.space x d.prec d.kind) (2 : Int)
 (AV.sl (List.drop (1 : Nat) l) (0 : Nat)) b n)
 (iteP (decide ((255 : Int) < d.prec))
 (K (Dir.mk d.minus d.zero d.plus d.space x d.prec d.kind) (2 : Int)
 (AV.sl (List.drop (1 : Nat) l) (0 : Nat)) b n)
 (K (Dir.mk d.minus d.zero d.plus d.space x d.prec d.kind) (0 : Int)
 (AV.sl (List.drop (1 : Nat) l) (0 : Nat)) b n)))))
 (iteP (d.prec == (-2 : Int))
 ((sC (AV.sl l (0 : Nat))
 (hBytes
 (Heap.mk (5 : Nat)
 (((Tr.leaf.node (some (AObj.cells [AV.ptr (3 : Nat) (0 : Nat), AV.sl b (5 : Nat)]))
 Tr.leaf).node
 (some (AObj.cells [AV.sl l (0 : Nat)])) Tr.leaf).node
 none
 ((Tr.leaf.node (some (AObj.own (1 : Nat) (5 : Nat) n)) Tr.leaf).node
 (some (AObj.cells [AV.ptr (1 : Nat) (0 : Nat)])) Tr.leaf))
 (1 : Nat)
 (((Tr.leaf.node (some ((54 : Nat), (2 : Nat))) Tr.leaf).node (some ((51 : Nat), (1 : Nat)))
 Tr.leaf).node
 none (Tr.leaf.node (some ((49 : Nat), (1 : Nat))) Tr.leaf))))
 (hN
 (Heap.mk (5 : Nat)
 (((Tr.leaf.node (some (AObj.cells [AV.ptr (3 : Nat) (0 : Nat), AV.sl b (5 : Nat)]))
 Tr.leaf).node
 (some (AObj.cells [AV.sl l (0 : Nat)])) Tr.leaf).node
 none
 ((Tr.leaf.node (some (AObj.own (1 : Nat) (5 : Nat) n)) Tr.leaf).node
 (some (AObj.cells [AV.ptr (1 : Nat) (0 : Nat)])) Tr.leaf))
 (1 : Nat)
 (((Tr.leaf.node (some ((54 : Nat), (2 : Nat))) Tr.leaf).node (some ((51 : Nat), (1 : Nat)))
 Tr.leaf).node
 none (Tr.leaf.node (some ((49 : Nat), (1 : Nat))) Tr.leaf)))) =
 sC (AV.sl l (0 : Nat))
 (hBytes
 (Heap.mk (5 : Nat)
 (((Tr.leaf.node (some (AObj.cells [AV.ptr (3 : Nat) (0 : Nat), AV.sl b (5 : Nat)]))
 Tr.leaf).node
 (some (AObj.cells [AV.sl l (0 : Nat)])) Tr.leaf).node
 none
 ((Tr.leaf.node (some (AObj.own (1 : Nat) (5 : Nat) n)) Tr.leaf).node
 (some (AObj.cells [AV.ptr (1 : Nat) (0 : Nat)])) Tr.leaf))
 (1 : Nat)
 (((Tr.leaf.node (some ((54 : Nat), (2 : Nat))) Tr.leaf).node (some ((51 : Nat), (1 : Nat)))
 Tr.leaf).node
 none (Tr.leaf.node (some ((49 : Nat), (1 : Nat))) Tr.leaf))))
 (hN
 (Heap.mk (5 : Nat)
 (((Tr.leaf.node (some (AObj.cells [AV.ptr (3 : Nat) (0 : Nat), AV.sl b (5 : Nat)]))
 Tr.leaf).node
 (some (AObj.cells [AV.sl l (0 : Nat)])) Tr.leaf).node
 none
 ((Tr.leaf.node (some (AObj.own (1 : Nat) (5 : Nat) n)) Tr.leaf).node
 (some (AObj.cells [AV.ptr (1 : Nat) (0 : Nat)])) Tr.leaf))
 (1 : Nat)
 (((Tr.leaf.node (some ((54 : Nat), (2 : Nat))) Tr.leaf).node (some ((51 : Nat), (1 : Nat)))
 Tr.leaf).node
 none (Tr.leaf.node (some ((49 : Nat), (1 : Nat))) Tr.leaf)))) ∧
 (1 : Nat) ≤ List.length l ∧ goodsB l = true) ∧
 ∀ (x : Int),
 x = takeF l →
 iteP (decide ((255 : Int) < d.width))
 (K (Dir.mk d.minus d.zero d.plus d.space d.width (max x (-1 : Int)) d.kind) (2 : Int)
 (AV.sl (List.drop (1 : Nat) l) (0 : Nat)) b n)
 (iteP (decide ((255 : Int) < max x (-1 : Int)))
 (K (Dir.mk d.minus d.zero d.plus d.space d.width (max x (-1 : Int)) d.kind) (2 : Int)
 (AV.sl (List.drop (1 : Nat) l) (0 : Nat)) b n)
 (K (Dir.mk d.minus d.zero d.plus d.space d.width (max x (-1 : Int)) d.kind) (0 : Int)
 (AV.sl (List.drop (1 : Nat) l) (0 : Nat)) b n)))
 (iteP (decide ((255 : Int) < d.width))
 (K (Dir.mk d.minus d.zero d.plus d.space d.width d.prec d.kind) (2 : Int) (AV.sl l (0 : Nat)) b n)
 (iteP (decide ((255 : Int) < d.prec))
 (K (Dir.mk d.minus d.zero d.plus d.space d.width d.prec d.kind) (2 : Int) (AV.sl l (0 : Nat)) b n)
 (K (Dir.mk d.minus d.zero d.plus d.space d.width d.prec d.kind) (0 : Int) (AV.sl l (0 : Nat)) b n)))))))
 (iteP (d.kind != (37 : Int))
 (iteP (decide ((↑(List.length l) : Int) < (1 : Int)))
 (K (Dir.mk d.minus d.zero d.plus d.space d.width d.prec d.kind) (18 : Int) (AV.sl l (0 : Nat)) b n)
 (iteP (d.width == (-2 : Int))
 ((sC (AV.sl l (0 : Nat))
 (hBytes
 (Heap.mk (5 : Nat)
 (((Tr.leaf.node (some (AObj.cells [AV.ptr (3 : Nat) (0 : Nat), AV.sl b (5 : Nat)])) Tr.leaf).node
 (some (AObj.cells [AV.sl l (0 : Nat)])) Tr.leaf).node
 none
 ((Tr.leaf.node (some (AObj.own (1 : Nat) (5 : Nat) n)) Tr.leaf).node
 (some (AObj.cells [AV.ptr (1 : Nat) (0 : Nat)])) Tr.leaf))
 (1 : Nat)
 (((Tr.leaf.node (some ((54 : Nat), (2 : Nat))) Tr.leaf).node (some ((51 : Nat), (1 : Nat)))
 Tr.leaf).node
 none (Tr.leaf.node (some ((49 : Nat), (1 : Nat))) Tr.leaf))))
 (hN
 (Heap.mk (5 : Nat)
 (((Tr.leaf.node (some (AObj.cells [AV.ptr (3 : Nat) (0 : Nat), AV.sl b (5 : Nat)])) Tr.leaf).node
 (some (AObj.cells [AV.sl l (0 : Nat)])) Tr.leaf).node
 none
 ((Tr.leaf.node (some (AObj.own (1 : Nat) (5 : Nat) n)) Tr.leaf).node
 (some (AObj.cells [AV.ptr (1 : Nat) (0 : Nat)])) Tr.leaf))
 (1 : Nat)
 (((Tr.leaf.node (some ((54 : Nat), (2 : Nat))) Tr.leaf).node (some ((51 : Nat), (1 : Nat)))
 Tr.leaf).node
 none (Tr.leaf.node (some ((49 : Nat), (1 : Nat))) Tr.leaf)))) =
 sC (AV.sl l (0 : Nat))
 (hBytes
 (Heap.mk (5 : Nat)
 (((Tr.leaf.node (some (AObj.cells [AV.ptr (3 : Nat) (0 : Nat), AV.sl b (5 : Nat)])) Tr.leaf).node
 (some (AObj.cells [AV.sl l (0 : Nat)])) Tr.leaf).node
 none
 ((Tr.leaf.node (some (AObj.own (1 : Nat) (5 : Nat) n)) Tr.leaf).node
 (some (AObj.cells [AV.ptr (1 : Nat) (0 : Nat)])) Tr.leaf))
 (1 : Nat)
 (((Tr.leaf.node (some ((54 : Nat), (2 : Nat))) Tr.leaf).node (some ((51 : Nat), (1 : Nat)))
 Tr.leaf).node
 none (Tr.leaf.node (some ((49 : Nat), (1 : Nat))) Tr.leaf))))
 (hN
 (Heap.mk (5 : Nat)
 (((Tr.leaf.node (some (AObj.cells [AV.ptr (3 : Nat) (0 : Nat), AV.sl b (5 : Nat)])) Tr.leaf).node
 (some (AObj.cells [AV.sl l (0 : Nat)])) Tr.leaf).node
 none
 ((Tr.leaf.node (some (AObj.own (1 : Nat) (5 : Nat) n)) Tr.leaf).node
 (some (AObj.cells [AV.ptr (1 : Nat) (0 : Nat)])) Tr.leaf))
 (1 : Nat)
 (((Tr.leaf.node (some ((54 : Nat), (2 : Nat))) Tr.leaf).node (some ((51 : Nat), (1 : Nat)))
 Tr.leaf).node
 none (Tr.leaf.node (some ((49 : Nat), (1 : Nat))) Tr.leaf)))) ∧
 (1 : Nat) ≤ List.length l ∧ goodsB l = true) ∧
 ∀ (x : Int),
 x = takeF l →
 iteP (decide (x < (0 : Int)))
 (iteP (d.prec == (-2 : Int))
 ((sC (AV.sl (List.drop (1 : Nat) l) (0 : Nat))
 (hBytes
 (Heap.mk (OfNat.ofNat (5 : Nat))
 (((Tr.leaf.node (some (AObj.cells [AV.ptr (3 : Nat) (0 : Nat), AV.sl b (5 : Nat)]))
 Tr.leaf).node
 (some (AObj.cells [AV.sl (List.drop (1 : Nat) l) (0 : Nat)])) Tr.leaf).node
 none
 ((Tr.leaf.node (some (AObj.own (1 : Nat) (5 : Nat) n)) Tr.leaf).node
 (some (AObj.cells [AV.ptr (1 : Nat) (0 : Nat)])) Tr.leaf))
 (OfNat.ofNat (1 : Nat))
 (((Tr.leaf.node (some ((54 : Nat), (2 : Nat))) Tr.leaf).node
 (some ((51 : Nat), (1 : Nat))) Tr.leaf).node
 none (Tr.leaf.node (some ((49 : Nat), (1 : Nat))) Tr.leaf))))
 (hN
 (Heap.mk (OfNat.ofNat (5 : Nat))
 (((Tr.leaf.node (some (AObj.cells [AV.ptr (3 : Nat) (0 : Nat), AV.sl b (5 : Nat)]))
 Tr.leaf).node
 (some (AObj.cells [AV.sl (List.drop (1 : Nat) l) (0 : Nat)])) Tr.leaf).node
 none
 ((Tr.leaf.node (some (AObj.own (1 : Nat) (5 : Nat) n)) Tr.leaf).node
 (some (AObj.cells [AV.ptr (1 : Nat) (0 : Nat)])) Tr.leaf))
 (OfNat.ofNat (1 : Nat))
 (((Tr.leaf.node (some ((54 : Nat), (2 : Nat))) Tr.leaf).node
 (some ((51 : Nat), (1 : Nat))) Tr.leaf).node
 none (Tr.leaf.node (some ((49 : Nat), (1 : Nat))) Tr.leaf)))) =
 sC (AV.sl (List.drop (1 : Nat) l) (0 : Nat))
 (hBytes
 (Heap.mk (OfNat.ofNat (5 : Nat))
 (((Tr.leaf.node (some (AObj.cells [AV.ptr (3 : Nat) (0 : Nat), AV.sl b (5 : Nat)]))
 Tr.leaf).node
 (some (AObj.cells [AV.sl (List.drop (1 : Nat) l) (0 : Nat)])) Tr.leaf).node
 none
 ((Tr.leaf.node (some (AObj.own (1 : Nat) (5 : Nat) n)) Tr.leaf).node
 (some (AObj.cells [AV.ptr (1 : Nat) (0 : Nat)])) Tr.leaf))
 (OfNat.ofNat (1 : Nat))
 (((Tr.leaf.node (some ((54 : Nat), (2 : Nat))) Tr.leaf).node
 (some ((51 : Nat), (1 : Nat))) Tr.leaf).node
 none (Tr.leaf.node (some ((49 : Nat), (1 : Nat))) Tr.leaf))))
 (hN
 (Heap.mk (OfNat.ofNat (5 : Nat))
 (((Tr.leaf.node (some (AObj.cells [AV.ptr (3 : Nat) (0 : Nat), AV.sl b (5 : Nat)]))
 Tr.leaf).node
 (some (AObj.cells [AV.sl (List.drop (1 : Nat) l) (0 : Nat)])) Tr.leaf).node
 none
 ((Tr.leaf.node (some (AObj.own (1 : Nat) (5 : Nat) n)) Tr.leaf).node
 (some (AObj.cells [AV.ptr (1 : Nat) (0 : Nat)])) Tr.leaf))
 (OfNat.ofNat (1 : Nat))
 (((Tr.leaf.node (some ((54 : Nat), (2 : Nat))) Tr.leaf).node
 (some ((51 : Nat), (1 : Nat))) Tr.leaf).node
 none (Tr.leaf.node (some ((49 : Nat), (1 : Nat))) Tr.leaf)))) ∧
 (1 : Nat) ≤ (List.drop (1 : Nat) l).length ∧ goodsB (List.drop (1 : Nat) l) = true) ∧
 ∀ (x_1 : Int),
 x_1 = takeF (List.drop (1 : Nat) l) →
 iteP (decide ((255 : Int) < IntKind.i64.wrap ((0 : Int) - x)))
 (K
 (Dir.mk true d.zero d.plus d.space (IntKind.i64.wrap ((0 : Int) - x)) (max x_1 (-1 : Int))
 d.kind)
 (2 : Int) (AV.sl (List.drop (1 : Nat) (List.drop (1 : Nat) l)) (0 : Nat)) b n)
 (iteP (decide ((255 : Int) < max x_1 (-1 : Int)))
 (K
 (Dir.mk true d.zero d.plus d.space (IntKind.i64.wrap ((0 : Int) - x))
 (max x_1 (-1 : Int)) d.kind)
 (2 : Int) (AV.sl (List.drop (1 : Nat) (List.drop (1 : Nat) l)) (0 : Nat)) b n)
 (K
 (Dir.mk true d.zero d.plus d.space (IntKind.i64.wrap ((0 : Int) - x))
 (max x_1 (-1 : Int)) d.kind)
 (0 : Int) (AV.sl (List.drop (1 : Nat) (List.drop (1 : Nat) l)) (0 : Nat)) b n)))
 (iteP (decide ((255 : Int) < IntKind.i64.wrap ((0 : Int) - x)))
 (K (Dir.mk true d.zero d.plus d.space (IntKind.i64.wrap ((0 : Int) - x)) d.prec d.kind) (2 : Int)
 (AV.sl (List.drop (1 : Nat) l) (0 : Nat)) b n)
 (iteP (decide ((255 : Int) < d.prec))
 (K (Dir.mk true d.zero d.plus d.space (IntKind.i64.wrap ((0 : Int) - x)) d.prec d.kind)
 (2 : Int) (AV.sl (List.drop (1 : Nat) l) (0 : Nat)) b n)
 (K (Dir.mk true d.zero d.plus d.space (IntKind.i64.wrap ((0 : Int) - x)) d.prec d.kind)
 (0 : Int) (AV.sl (List.drop (1 : Nat) l) (0 : Nat)) b n))))
 (iteP (d.prec == (-2 : Int))
 ((sC (AV.sl (List.drop (1 : Nat) l) (0 : Nat))
 (hBytes
 (Heap.mk (OfNat.ofNat (5 : Nat))
 (((Tr.leaf.node (some (AObj.cells [AV.ptr (3 : Nat) (0 : Nat), AV.sl b (5 : Nat)]))
 Tr.leaf).node
 (some (AObj.cells [AV.sl (List.drop (1 : Nat) l) (0 : Nat)])) Tr.leaf).node
 none
 ((Tr.leaf.node (some (AObj.own (1 : Nat) (5 : Nat) n)) Tr.leaf).node
 (some (AObj.cells [AV.ptr (1 : Nat) (0 : Nat)])) Tr.leaf))
 (OfNat.ofNat (1 : Nat))
 (((Tr.leaf.node (some ((54 : Nat), (2 : Nat))) Tr.leaf).node
 (some ((51 : Nat), (1 : Nat))) Tr.leaf).node
 none (Tr.leaf.node (some ((49 : Nat), (1 : Nat))) Tr.leaf))))
 (hN
 (Heap.mk (OfNat.ofNat (5 : Nat))
 (((Tr.leaf.node (some (AObj.cells [AV.ptr (3 : Nat) (0 : Nat), AV.sl b (5 : Nat)]))
 Tr.leaf).node
 (some (AObj.cells [AV.sl (List.drop (1 : Nat) l) (0 : Nat)])) Tr.leaf).node
 none
 ((Tr.leaf.node (some (AObj.own (1 : Nat) (5 : Nat) n)) Tr.leaf).node
 (some (AObj.cells [AV.ptr (1 : Nat) (0 : Nat)])) Tr.leaf))
 (OfNat.ofNat (1 : Nat))
 (((Tr.leaf.node (some ((54 : Nat), (2 : Nat))) Tr.leaf).node
 (some ((51 : Nat), (1 : Nat))) Tr.leaf).node
 none (Tr.leaf.node (some ((49 : Nat), (1 : Nat))) Tr.leaf)))) =
 sC (AV.sl (List.drop (1 : Nat) l) (0 : Nat))
 (hBytes
 (Heap.mk (OfNat.ofNat (5 : Nat))
 (((Tr.leaf.node (some (AObj.cells [AV.ptr (3 : Nat) (0 : Nat), AV.sl b (5 : Nat)]))
 Tr.leaf).node
 (some (AObj.cells [AV.sl (List.drop (1 : Nat) l) (0 : Nat)])) Tr.leaf).node
 none
 ((Tr.leaf.node (some (AObj.own (1 : Nat) (5 : Nat) n)) Tr.leaf).node
 (some (AObj.cells [AV.ptr (1 : Nat) (0 : Nat)])) Tr.leaf))
 (OfNat.ofNat (1 : Nat))
 (((Tr.leaf.node (some ((54 : Nat), (2 : Nat))) Tr.leaf).node
 (some ((51 : Nat), (1 : Nat))) Tr.leaf).node
 none (Tr.leaf.node (some ((49 : Nat), (1 : Nat))) Tr.leaf))))
 (hN
 (Heap.mk (OfNat.ofNat (5 : Nat))
 (((Tr.leaf.node (some (AObj.cells [AV.ptr (3 : Nat) (0 : Nat), AV.sl b (5 : Nat)]))
 Tr.leaf).node
 (some (AObj.cells [AV.sl (List.drop (1 : Nat) l) (0 : Nat)])) Tr.leaf).node
 none
 ((Tr.leaf.node (some (AObj.own (1 : Nat) (5 : Nat) n)) Tr.leaf).node
 (some (AObj.cells [AV.ptr (1 : Nat) (0 : Nat)])) Tr.leaf))
 (OfNat.ofNat (1 : Nat))
 (((Tr.leaf.node (some ((54 : Nat), (2 : Nat))) Tr.leaf).node
 (some ((51 : Nat), (1 : Nat))) Tr.leaf).node
 none (Tr.leaf.node (some ((49 : Nat), (1 : Nat))) Tr.leaf)))) ∧
 (1 : Nat) ≤ (List.drop (1 : Nat) l).length ∧ goodsB (List.drop (1 : Nat) l) = true) ∧
 ∀ (x_1 : Int),
 x_1 = takeF (List.drop (1 : Nat) l) →
 iteP (decide ((255 : Int) < x))
 (K (Dir.mk d.minus d.zero d.plus d.space x (max x_1 (-1 : Int)) d.kind) (2 : Int)
 (AV.sl (List.drop (1 : Nat) (List.drop (1 : Nat) l)) (0 : Nat)) b n)
 (iteP (decide ((255 : Int) < max x_1 (-1 : Int)))
 (K (Dir.mk d.minus d.zero d.plus d.space x (max x_1 (-1 : Int)) d.kind) (2 : Int)
 (AV.sl (List.drop (1 : Nat) (List.drop (1 : Nat) l)) (0 : Nat)) b n)
 (K (Dir.mk d.minus d.zero d.plus d.space x (max x_1 (-1 : Int)) d.kind) (0 : Int)
 (AV.sl (List.drop (1 : Nat) (List.drop (1 : Nat) l)) (0 : Nat)) b n)))
 (iteP (decide ((255 : Int) < x))
 (K (Dir.mk d.minus d.zero d.plus d.space x d.prec d.kind) (2 : Int)
 (AV.sl (List.drop (1 : Nat) l) (0 : Nat)) b n)
 (iteP (decide ((255 : Int) < d.prec))
 (K (Dir.mk d.minus d.zero d.plus d.space x d.prec d.kind) (2 : Int)
 (AV.sl (List.drop (1 : Nat) l) (0 : Nat)) b n)
 (K (Dir.mk d.minus d.zero d.plus d.space x d.prec d.kind) (0 : Int)
 (AV.sl (List.drop (1 : Nat) l) (0 : Nat)) b n)))))
 (iteP (d.prec == (-2 : Int))
 ((sC (AV.sl l (0 : Nat))
 (hBytes
 (Heap.mk (5 : Nat)
 (((Tr.leaf.node (some (AObj.cells [AV.ptr (3 : Nat) (0 : Nat), AV.sl b (5 : Nat)]))
 Tr.leaf).node
 (some (AObj.cells [AV.sl l (0 : Nat)])) Tr.leaf).node
 none
 ((Tr.leaf.node (some (AObj.own (1 : Nat) (5 : Nat) n)) Tr.leaf).node
 (some (AObj.cells [AV.ptr (1 : Nat) (0 : Nat)])) Tr.leaf))
 (1 : Nat)
 (((Tr.leaf.node (some ((54 : Nat), (2 : Nat))) Tr.leaf).node (some ((51 : Nat), (1 : Nat)))
 Tr.leaf).node
 none (Tr.leaf.node (some ((49 : Nat), (1 : Nat))) Tr.leaf))))
 (hN
 (Heap.mk (5 : Nat)
 (((Tr.leaf.node (some (AObj.cells [AV.ptr (3 : Nat) (0 : Nat), AV.sl b (5 : Nat)]))
 Tr.leaf).node
 (some (AObj.cells [AV.sl l (0 : Nat)])) Tr.leaf).node
 none
 ((Tr.leaf.node (some (AObj.own (1 : Nat) (5 : Nat) n)) Tr.leaf).node
 (some (AObj.cells [AV.ptr (1 : Nat) (0 : Nat)])) Tr.leaf))
 (1 : Nat)
 (((Tr.leaf.node (some ((54 : Nat), (2 : Nat))) Tr.leaf).node (some ((51 : Nat), (1 : Nat)))
 Tr.leaf).node
 none (Tr.leaf.node (some ((49 : Nat), (1 : Nat))) Tr.leaf)))) =
 sC (AV.sl l (0 : Nat))
 (hBytes
 (Heap.mk (5 : Nat)
 (((Tr.leaf.node (some (AObj.cells [AV.ptr (3 : Nat) (0 : Nat), AV.sl b (5 : Nat)]))
 Tr.leaf).node
 (some (AObj.cells [AV.sl l (0 : Nat)])) Tr.leaf).node
 none
 ((Tr.leaf.node (some (AObj.own (1 : Nat) (5 : Nat) n)) Tr.leaf).node
 (some (AObj.cells [AV.ptr (1 : Nat) (0 : Nat)])) Tr.leaf))
 (1 : Nat)
 (((Tr.leaf.node (some ((54 : Nat), (2 : Nat))) Tr.leaf).node (some ((51 : Nat), (1 : Nat)))
 Tr.leaf).node
 none (Tr.leaf.node (some ((49 : Nat), (1 : Nat))) Tr.leaf))))
 (hN
 (Heap.mk (5 : Nat)
 (((Tr.leaf.node (some (AObj.cells [AV.ptr (3 : Nat) (0 : Nat), AV.sl b (5 : Nat)]))
 Tr.leaf).node
 (some (AObj.cells [AV.sl l (0 : Nat)])) Tr.leaf).node
 none
 ((Tr.leaf.node (some (AObj.own (1 : Nat) (5 : Nat) n)) Tr.leaf).node
 (some (AObj.cells [AV.ptr (1 : Nat) (0 : Nat)])) Tr.leaf))
 (1 : Nat)
 (((Tr.leaf.node (some ((54 : Nat), (2 : Nat))) Tr.leaf).node (some ((51 : Nat), (1 : Nat)))
 Tr.leaf).node
 none (Tr.leaf.node (some ((49 : Nat), (1 : Nat))) Tr.leaf)))) ∧
 (1 : Nat) ≤ List.length l ∧ goodsB l = true) ∧
 ∀ (x : Int),
 x = takeF l →
 iteP (decide ((255 : Int) < d.width))
 (K (Dir.mk d.minus d.zero d.plus d.space d.width (max x (-1 : Int)) d.kind) (2 : Int)
 (AV.sl (List.drop (1 : Nat) l) (0 : Nat)) b n)
 (iteP (decide ((255 : Int) < max x (-1 : Int)))
 (K (Dir.mk d.minus d.zero d.plus d.space d.width (max x (-1 : Int)) d.kind) (2 : Int)
 (AV.sl (List.drop (1 : Nat) l) (0 : Nat)) b n)
 (K (Dir.mk d.minus d.zero d.plus d.space d.width (max x (-1 : Int)) d.kind) (0 : Int)
 (AV.sl (List.drop (1 : Nat) l) (0 : Nat)) b n)))
 (iteP (decide ((255 : Int) < d.width))
 (K (Dir.mk d.minus d.zero d.plus d.space d.width d.prec d.kind) (2 : Int) (AV.sl l (0 : Nat)) b n)
 (iteP (decide ((255 : Int) < d.prec))
 (K (Dir.mk d.minus d.zero d.plus d.space d.width d.prec d.kind) (2 : Int) (AV.sl l (0 : Nat)) b n)
 (K (Dir.mk d.minus d.zero d.plus d.space d.width d.prec d.kind) (0 : Int) (AV.sl l (0 : Nat)) b n))))))
 (iteP (d.width == (-2 : Int))
 ((sC (AV.sl l (0 : Nat))
 (hBytes
 (Heap.mk (5 : Nat)
 (((Tr.leaf.node (some (AObj.cells [AV.ptr (3 : Nat) (0 : Nat), AV.sl b (5 : Nat)])) Tr.leaf).node
 (some (AObj.cells [AV.sl l (0 : Nat)])) Tr.leaf).node
 none
 ((Tr.leaf.node (some (AObj.own (1 : Nat) (5 : Nat) n)) Tr.leaf).node
 (some (AObj.cells [AV.ptr (1 : Nat) (0 : Nat)])) Tr.leaf))
 (1 : Nat)
 (((Tr.leaf.node (some ((54 : Nat), (2 : Nat))) Tr.leaf).node (some ((51 : Nat), (1 : Nat)))
 Tr.leaf).node
 none (Tr.leaf.node (some ((49 : Nat), (1 : Nat))) Tr.leaf))))
 (hN
 (Heap.mk (5 : Nat)
 (((Tr.leaf.node (some (AObj.cells [AV.ptr (3 : Nat) (0 : Nat), AV.sl b (5 : Nat)])) Tr.leaf).node
 (some (AObj.cells [AV.sl l (0 : Nat)])) Tr.leaf).node
 none
 ((Tr.leaf.node (some (AObj.own (1 : Nat) (5 : Nat) n)) Tr.leaf).node
 (some (AObj.cells [AV.ptr (1 : Nat) (0 : Nat)])) Tr.leaf))
 (1 : Nat)
 (((Tr.leaf.node (some ((54 : Nat), (2 : Nat))) Tr.leaf).node (some ((51 : Nat), (1 : Nat)))
 Tr.leaf).node
 none (Tr.leaf.node (some ((49 : Nat), (1 : Nat))) Tr.leaf)))) =
 sC (AV.sl l (0 : Nat))
 (hBytes
 (Heap.mk (5 : Nat)
 (((Tr.leaf.node (some (AObj.cells [AV.ptr (3 : Nat) (0 : Nat), AV.sl b (5 : Nat)])) Tr.leaf).node
 (some (AObj.cells [AV.sl l (0 : Nat)])) Tr.leaf).node
 none
 ((Tr.leaf.node (some (AObj.own (1 : Nat) (5 : Nat) n)) Tr.leaf).node
 (some (AObj.cells [AV.ptr (1 : Nat) (0 : Nat)])) Tr.leaf))
 (1 : Nat)
 (((Tr.leaf.node (some ((54 : Nat), (2 : Nat))) Tr.leaf).node (some ((51 : Nat), (1 : Nat)))
 Tr.leaf).node
 none (Tr.leaf.node (some ((49 : Nat), (1 : Nat))) Tr.leaf))))
 (hN
 (Heap.mk (5 : Nat)
 (((Tr.leaf.node (some (AObj.cells [AV.ptr (3 : Nat) (0 : Nat), AV.sl b (5 : Nat)])) Tr.leaf).node
 (some (AObj.cells [AV.sl l (0 : Nat)])) Tr.leaf).node
 none
 ((Tr.leaf.node (some (AObj.own (1 : Nat) (5 : Nat) n)) Tr.leaf).node
 (some (AObj.cells [AV.ptr (1 : Nat) (0 : Nat)])) Tr.leaf))
 (1 : Nat)
 (((Tr.leaf.node (some ((54 : Nat), (2 : Nat))) Tr.leaf).node (some ((51 : Nat), (1 : Nat)))
 Tr.leaf).node
 none (Tr.leaf.node (some ((49 : Nat), (1 : Nat))) Tr.leaf)))) ∧
 (1 : Nat) ≤ List.length l ∧ goodsB l = true) ∧
 ∀ (x : Int),
 x = takeF l →
 iteP (decide (x < (0 : Int)))
 (iteP (d.prec == (-2 : Int))
 ((sC (AV.sl (List.drop (1 : Nat) l) (0 : Nat))
 (hBytes
 (Heap.mk (OfNat.ofNat (5 : Nat))
 (((Tr.leaf.node (some (AObj.cells [AV.ptr (3 : Nat) (0 : Nat), AV.sl b (5 : Nat)]))
 Tr.leaf).node
 (some (AObj.cells [AV.sl (List.drop (1 : Nat) l) (0 : Nat)])) Tr.leaf).node
 none
 ((Tr.leaf.node (some (AObj.own (1 : Nat) (5 : Nat) n)) Tr.leaf).node
 (some (AObj.cells [AV.ptr (1 : Nat) (0 : Nat)])) Tr.leaf))
 (OfNat.ofNat (1 : Nat))
 (((Tr.leaf.node (some ((54 : Nat), (2 : Nat))) Tr.leaf).node
 (some ((51 : Nat), (1 : Nat))) Tr.leaf).node
 none (Tr.leaf.node (some ((49 : Nat), (1 : Nat))) Tr.leaf))))
 (hN
 (Heap.mk (OfNat.ofNat (5 : Nat))
 (((Tr.leaf.node (some (AObj.cells [AV.ptr (3 : Nat) (0 : Nat), AV.sl b (5 : Nat)]))
 Tr.leaf).node
 (some (AObj.cells [AV.sl (List.drop (1 : Nat) l) (0 : Nat)])) Tr.leaf).node
 none
 ((Tr.leaf.node (some (AObj.own (1 : Nat) (5 : Nat) n)) Tr.leaf).node
 (some (AObj.cells [AV.ptr (1 : Nat) (0 : Nat)])) Tr.leaf))
 (OfNat.ofNat (1 : Nat))
 (((Tr.leaf.node (some ((54 : Nat), (2 : Nat))) Tr.leaf).node
 (some ((51 : Nat), (1 : Nat))) Tr.leaf).node
 none (Tr.leaf.node (some ((49 : Nat), (1 : Nat))) Tr.leaf)))) =
 sC (AV.sl (List.drop (1 : Nat) l) (0 : Nat))
 (hBytes
 (Heap.mk (OfNat.ofNat (5 : Nat))
 (((Tr.leaf.node (some (AObj.cells [AV.ptr (3 : Nat) (0 : Nat), AV.sl b (5 : Nat)]))
 Tr.leaf).node
 (some (AObj.cells [AV.sl (List.drop (1 : Nat) l) (0 : Nat)])) Tr.leaf).node
 none
 ((Tr.leaf.node (some (AObj.own (1 : Nat) (5 : Nat) n)) Tr.leaf).node
 (some (AObj.cells [AV.ptr (1 : Nat) (0 : Nat)])) Tr.leaf))
 (OfNat.ofNat (1 : Nat))
 (((Tr.leaf.node (some ((54 : Nat), (2 : Nat))) Tr.leaf).node
 (some ((51 : Nat), (1 : Nat))) Tr.leaf).node
 none (Tr.leaf.node (some ((49 : Nat), (1 : Nat))) Tr.leaf))))
 (hN
 (Heap.mk (OfNat.ofNat (5 : Nat))
 (((Tr.leaf.node (some (AObj.cells [AV.ptr (3 : Nat) (0 : Nat), AV.sl b (5 : Nat)]))
 Tr.leaf).node
 (some (AObj.cells [AV.sl (List.drop (1 : Nat) l) (0 : Nat)])) Tr.leaf).node
 none
 ((Tr.leaf.node (some (AObj.own (1 : Nat) (5 : Nat) n)) Tr.leaf).node
 (some (AObj.cells [AV.ptr (1 : Nat) (0 : Nat)])) Tr.leaf))
 (OfNat.ofNat (1 : Nat))
 (((Tr.leaf.node (some ((54 : Nat), (2 : Nat))) Tr.leaf).node
 (some ((51 : Nat), (1 : Nat))) Tr.leaf).node
 none (Tr.leaf.node (some ((49 : Nat), (1 : Nat))) Tr.leaf)))) ∧
 (1 : Nat) ≤ (List.drop (1 : Nat) l).length ∧ goodsB (List.drop (1 : Nat) l) = true) ∧
 ∀ (x_1 : Int),
 x_1 = takeF (List.drop (1 : Nat) l) →
 iteP (decide ((255 : Int) < IntKind.i64.wrap ((0 : Int) - x)))
 (K
 (Dir.mk true d.zero d.plus d.space (IntKind.i64.wrap ((0 : Int) - x)) (max x_1 (-1 : Int))
 d.kind)
 (2 : Int) (AV.sl (List.drop (1 : Nat) (List.drop (1 : Nat) l)) (0 : Nat)) b n)
 (iteP (decide ((255 : Int) < max x_1 (-1 : Int)))
 (K
 (Dir.mk true d.zero d.plus d.space (IntKind.i64.wrap ((0 : Int) - x)) (max x_1 (-1 : Int))
 d.kind)
 (2 : Int) (AV.sl (List.drop (1 : Nat) (List.drop (1 : Nat) l)) (0 : Nat)) b n)
 (K
 (Dir.mk true d.zero d.plus d.space (IntKind.i64.wrap ((0 : Int) - x)) (max x_1 (-1 : Int))
 d.kind)
 (0 : Int) (AV.sl (List.drop (1 : Nat) (List.drop (1 : Nat) l)) (0 : Nat)) b n)))
 (iteP (decide ((255 : Int) < IntKind.i64.wrap ((0 : Int) - x)))
 (K (Dir.mk true d.zero d.plus d.space (IntKind.i64.wrap ((0 : Int) - x)) d.prec d.kind) (2 : Int)
 (AV.sl (List.drop (1 : Nat) l) (0 : Nat)) b n)
 (iteP (decide ((255 : Int) < d.prec))
 (K (Dir.mk true d.zero d.plus d.space (IntKind.i64.wrap ((0 : Int) - x)) d.prec d.kind) (2 : Int)
 (AV.sl (List.drop (1 : Nat) l) (0 : Nat)) b n)
 (K (Dir.mk true d.zero d.plus d.space (IntKind.i64.wrap ((0 : Int) - x)) d.prec d.kind) (0 : Int)
 (AV.sl (List.drop (1 : Nat) l) (0 : Nat)) b n))))
 (iteP (d.prec == (-2 : Int))
 ((sC (AV.sl (List.drop (1 : Nat) l) (0 : Nat))
 (hBytes
 (Heap.mk (OfNat.ofNat (5 : Nat))
 (((Tr.leaf.node (some (AObj.cells [AV.ptr (3 : Nat) (0 : Nat), AV.sl b (5 : Nat)]))
 Tr.leaf).node
 (some (AObj.cells [AV.sl (List.drop (1 : Nat) l) (0 : Nat)])) Tr.leaf).node
 none
 ((Tr.leaf.node (some (AObj.own (1 : Nat) (5 : Nat) n)) Tr.leaf).node
 (some (AObj.cells [AV.ptr (1 : Nat) (0 : Nat)])) Tr.leaf))
 (OfNat.ofNat (1 : Nat))
 (((Tr.leaf.node (some ((54 : Nat), (2 : Nat))) Tr.leaf).node
 (some ((51 : Nat), (1 : Nat))) Tr.leaf).node
 none (Tr.leaf.node (some ((49 : Nat), (1 : Nat))) Tr.leaf))))
 (hN
 (Heap.mk (OfNat.ofNat (5 : Nat))
 (((Tr.leaf.node (some (AObj.cells [AV.ptr (3 : Nat) (0 : Nat), AV.sl b (5 : Nat)]))
 Tr.leaf).node
 (some (AObj.cells [AV.sl (List.drop (1 : Nat) l) (0 : Nat)])) Tr.leaf).node
 none
 ((Tr.leaf.node (some (AObj.own (1 : Nat) (5 : Nat) n)) Tr.leaf).node
 (some (AObj.cells [AV.ptr (1 : Nat) (0 : Nat)])) Tr.leaf))
 (OfNat.ofNat (1 : Nat))
 (((Tr.leaf.node (some ((54 : Nat), (2 : Nat))) Tr.leaf).node
 (some ((51 : Nat), (1 : Nat))) Tr.leaf).node
 none (Tr.leaf.node (some ((49 : Nat), (1 : Nat))) Tr.leaf)))) =
 sC (AV.sl (List.drop (1 : Nat) l) (0 : Nat))
 (hBytes
 (Heap.mk (OfNat.ofNat (5 : Nat))
 (((Tr.leaf.node (some (AObj.cells [AV.ptr (3 : Nat) (0 : Nat), AV.sl b (5 : Nat)]))
 Tr.leaf).node
 (some (AObj.cells [AV.sl (List.drop (1 : Nat) l) (0 : Nat)])) Tr.leaf).node
 none
 ((Tr.leaf.node (some (AObj.own (1 : Nat) (5 : Nat) n)) Tr.leaf).node
 (some (AObj.cells [AV.ptr (1 : Nat) (0 : Nat)])) Tr.leaf))
 (OfNat.ofNat (1 : Nat))
 (((Tr.leaf.node (some ((54 : Nat), (2 : Nat))) Tr.leaf).node
 (some ((51 : Nat), (1 : Nat))) Tr.leaf).node
 none (Tr.leaf.node (some ((49 : Nat), (1 : Nat))) Tr.leaf))))
 (hN
 (Heap.mk (OfNat.ofNat (5 : Nat))
 (((Tr.leaf.node (some (AObj.cells [AV.ptr (3 : Nat) (0 : Nat), AV.sl b (5 : Nat)]))
 Tr.leaf).node
 (some (AObj.cells [AV.sl (List.drop (1 : Nat) l) (0 : Nat)])) Tr.leaf).node
 none
 ((Tr.leaf.node (some (AObj.own (1 : Nat) (5 : Nat) n)) Tr.leaf).node
 (some (AObj.cells [AV.ptr (1 : Nat) (0 : Nat)])) Tr.leaf))
 (OfNat.ofNat (1 : Nat))
 (((Tr.leaf.node (some ((54 : Nat), (2 : Nat))) Tr.leaf).node
 (some ((51 : Nat), (1 : Nat))) Tr.leaf).node
 none (Tr.leaf.node (some ((49 : Nat), (1 : Nat))) Tr.leaf)))) ∧
 (1 : Nat) ≤ (List.drop (1 : Nat) l).length ∧ goodsB (List.drop (1 : Nat) l) = true) ∧
 ∀ (x_1 : Int),
 x_1 = takeF (List.drop (1 : Nat) l) →
 iteP (decide ((255 : Int) < x))
 (K (Dir.mk d.minus d.zero d.plus d.space x (max x_1 (-1 : Int)) d.kind) (2 : Int)
 (AV.sl (List.drop (1 : Nat) (List.drop (1 : Nat) l)) (0 : Nat)) b n)
 (iteP (decide ((255 : Int) < max x_1 (-1 : Int)))
 (K (Dir.mk d.minus d.zero d.plus d.space x (max x_1 (-1 : Int)) d.kind) (2 : Int)
 (AV.sl (List.drop (1 : Nat) (List.drop (1 : Nat) l)) (0 : Nat)) b n)
 (K (Dir.mk d.minus d.zero d.plus d.space x (max x_1 (-1 : Int)) d.kind) (0 : Int)
 (AV.sl (List.drop (1 : Nat) (List.drop (1 : Nat) l)) (0 : Nat)) b n)))
 (iteP (decide ((255 : Int) < x))
 (K (Dir.mk d.minus d.zero d.plus d.space x d.prec d.kind) (2 : Int)
 (AV.sl (List.drop (1 : Nat) l) (0 : Nat)) b n)
 (iteP (decide ((255 : Int) < d.prec))
 (K (Dir.mk d.minus d.zero d.plus d.space x d.prec d.kind) (2 : Int)
 (AV.sl (List.drop (1 : Nat) l) (0 : Nat)) b n)
 (K (Dir.mk d.minus d.zero d.plus d.space x d.prec d.kind) (0 : Int)
 (AV.sl (List.drop (1 : Nat) l) (0 : Nat)) b n)))))
 (iteP (d.prec == (-2 : Int))
 ((sC (AV.sl l (0 : Nat))
 (hBytes
 (Heap.mk (5 : Nat)
 (((Tr.leaf.node (some (AObj.cells [AV.ptr (3 : Nat) (0 : Nat), AV.sl b (5 : Nat)])) Tr.leaf).node
 (some (AObj.cells [AV.sl l (0 : Nat)])) Tr.leaf).node
 none
 ((Tr.leaf.node (some (AObj.own (1 : Nat) (5 : Nat) n)) Tr.leaf).node
 (some (AObj.cells [AV.ptr (1 : Nat) (0 : Nat)])) Tr.leaf))
 (1 : Nat)
 (((Tr.leaf.node (some ((54 : Nat), (2 : Nat))) Tr.leaf).node (some ((51 : Nat), (1 : Nat)))
 Tr.leaf).node
 none (Tr.leaf.node (some ((49 : Nat), (1 : Nat))) Tr.leaf))))
 (hN
 (Heap.mk (5 : Nat)
 (((Tr.leaf.node (some (AObj.cells [AV.ptr (3 : Nat) (0 : Nat), AV.sl b (5 : Nat)])) Tr.leaf).node
 (some (AObj.cells [AV.sl l (0 : Nat)])) Tr.leaf).node
 none
 ((Tr.leaf.node (some (AObj.own (1 : Nat) (5 : Nat) n)) Tr.leaf).node
 (some (AObj.cells [AV.ptr (1 : Nat) (0 : Nat)])) Tr.leaf))
 (1 : Nat)
 (((Tr.leaf.node (some ((54 : Nat), (2 : Nat))) Tr.leaf).node (some ((51 : Nat), (1 : Nat)))
 Tr.leaf).node
 none (Tr.leaf.node (some ((49 : Nat), (1 : Nat))) Tr.leaf)))) =
 sC (AV.sl l (0 : Nat))
 (hBytes
 (Heap.mk (5 : Nat)
 (((Tr.leaf.node (some (AObj.cells [AV.ptr (3 : Nat) (0 : Nat), AV.sl b (5 : Nat)])) Tr.leaf).node
 (some (AObj.cells [AV.sl l (0 : Nat)])) Tr.leaf).node
 none
 ((Tr.leaf.node (some (AObj.own (1 : Nat) (5 : Nat) n)) Tr.leaf).node
 (some (AObj.cells [AV.ptr (1 : Nat) (0 : Nat)])) Tr.leaf))
 (1 : Nat)
 (((Tr.leaf.node (some ((54 : Nat), (2 : Nat))) Tr.leaf).node (some ((51 : Nat), (1 : Nat)))
 Tr.leaf).node
 none (Tr.leaf.node (some ((49 : Nat), (1 : Nat))) Tr.leaf))))
 (hN
 (Heap.mk (5 : Nat)
 (((Tr.leaf.node (some (AObj.cells [AV.ptr (3 : Nat) (0 : Nat), AV.sl b (5 : Nat)])) Tr.leaf).node
 (some (AObj.cells [AV.sl l (0 : Nat)])) Tr.leaf).node
 none
 ((Tr.leaf.node (some (AObj.own (1 : Nat) (5 : Nat) n)) Tr.leaf).node
 (some (AObj.cells [AV.ptr (1 : Nat) (0 : Nat)])) Tr.leaf))
 (1 : Nat)
 (((Tr.leaf.node (some ((54 : Nat), (2 : Nat))) Tr.leaf).node (some ((51 : Nat), (1 : Nat)))
 Tr.leaf).node
 none (Tr.leaf.node (some ((49 : Nat), (1 : Nat))) Tr.leaf)))) ∧
 (1 : Nat) ≤ List.length l ∧ goodsB l = true) ∧
 ∀ (x : Int),
 x = takeF l →
 iteP (decide ((255 : Int) < d.width))
 (K (Dir.mk d.minus d.zero d.plus d.space d.width (max x (-1 : Int)) d.kind) (2 : Int)
 (AV.sl (List.drop (1 : Nat) l) (0 : Nat)) b n)
 (iteP (decide ((255 : Int) < max x (-1 : Int)))
 (K (Dir.mk d.minus d.zero d.plus d.space d.width (max x (-1 : Int)) d.kind) (2 : Int)
 (AV.sl (List.drop (1 : Nat) l) (0 : Nat)) b n)
 (K (Dir.mk d.minus d.zero d.plus d.space d.width (max x (-1 : Int)) d.kind) (0 : Int)
 (AV.sl (List.drop (1 : Nat) l) (0 : Nat)) b n)))
 (iteP (decide ((255 : Int) < d.width))
 (K (Dir.mk d.minus d.zero d.plus d.space d.width d.prec d.kind) (2 : Int) (AV.sl l (0 : Nat)) b n)
 (iteP (decide ((255 : Int) < d.prec))
 (K (Dir.mk d.minus d.zero d.plus d.space d.width d.prec d.kind) (2 : Int) (AV.sl l (0 : Nat)) b n)
 (K (Dir.mk d.minus d.zero d.plus d.space d.width d.prec d.kind) (0 : Int) (AV.sl l (0 : Nat)) b n)))))))) :
 (fun (d : Dir) (l b : Cells) (n : Nat) (K : Dir → Int → AV → Cells → Nat → Prop) => wpCall Q2 Door.cfg Tryd.prog 40 23 [.ptr 1 0, .agg d.cells] (hC (.sl l 0) b n) fun r h' => wasDir r fun d' e => rdC h' fun a b n => K d' e a b n) d l b n K :=
 Eq.mp (by kernel_rfl) h

theorem d23bn (d : Dir) (K : Dir → Int → AV → Prop) (h :
 iteP (d.width == (-2 : Int))
 (iteP (d.prec == (-2 : Int))
 (iteP (d.kind != (37 : Int))
 (K (Dir.mk d.minus d.zero d.plus d.space d.width d.prec d.kind) (18 : Int)
 (AV.sc (Value.slice none (0 : Nat) (0 : Nat))))
 (K (Dir.mk d.minus d.zero d.plus d.space d.width d.prec d.kind) (18 : Int)
 (AV.sc (Value.slice none (0 : Nat) (0 : Nat)))))
 (iteP (d.kind != (37 : Int))
 (K (Dir.mk d.minus d.zero d.plus d.space d.width d.prec d.kind) (18 : Int)
 (AV.sc (Value.slice none (0 : Nat) (0 : Nat))))
 (K (Dir.mk d.minus d.zero d.plus d.space d.width d.prec d.kind) (18 : Int)
 (AV.sc (Value.slice none (0 : Nat) (0 : Nat))))))
 (iteP (d.prec == (-2 : Int))
 (iteP (d.kind != (37 : Int))
 (K (Dir.mk d.minus d.zero d.plus d.space d.width d.prec d.kind) (18 : Int)
 (AV.sc (Value.slice none (0 : Nat) (0 : Nat))))
 (K (Dir.mk d.minus d.zero d.plus d.space d.width d.prec d.kind) (18 : Int)
 (AV.sc (Value.slice none (0 : Nat) (0 : Nat)))))
 (iteP (d.kind != (37 : Int))
 (K (Dir.mk d.minus d.zero d.plus d.space d.width d.prec d.kind) (18 : Int)
 (AV.sc (Value.slice none (0 : Nat) (0 : Nat))))
 (iteP (d.width == (-2 : Int)) (False ∧ True)
 (iteP (d.prec == (-2 : Int)) (False ∧ True)
 (iteP (decide ((255 : Int) < d.width))
 (K (Dir.mk d.minus d.zero d.plus d.space d.width d.prec d.kind) (2 : Int)
 (AV.sc (Value.slice none (0 : Nat) (0 : Nat))))
 (iteP (decide ((255 : Int) < d.prec))
 (K (Dir.mk d.minus d.zero d.plus d.space d.width d.prec d.kind) (2 : Int)
 (AV.sc (Value.slice none (0 : Nat) (0 : Nat))))
 (K (Dir.mk d.minus d.zero d.plus d.space d.width d.prec d.kind) (0 : Int)
 (AV.sc (Value.slice none (0 : Nat) (0 : Nat))))))))))) :
 (fun (d : Dir) (K : Dir → Int → AV → Prop) => wpCall Q2 Door.cfg Tryd.prog 40 23 [.ptr 1 0, .agg d.cells] (hB nilA) fun r h' => wasDir r fun d' e => rdB h' fun a => K d' e a) d K :=
 Eq.mp (by kernel_rfl) h

theorem d23cn (d : Dir) (b : Cells) (n : Nat) (K : Dir → Int → AV → Cells → Nat → Prop) (h :
 iteP (d.width == (-2 : Int))
 (iteP (d.prec == (-2 : Int))
 (iteP (d.kind != (37 : Int))
 (K (Dir.mk d.minus d.zero d.plus d.space d.width d.prec d.kind) (18 : Int)
 (AV.sc (Value.slice none (0 : Nat) (0 : Nat))) b n)
 (K (Dir.mk d.minus d.zero d.plus d.space d.width d.prec d.kind) (18 : Int)
 (AV.sc (Value.slice none (0 : Nat) (0 : Nat))) b n))
 (iteP (d.kind != (37 : Int))
 (K (Dir.mk d.minus d.zero d.plus d.space d.width d.prec d.kind) (18 : Int)
 (AV.sc (Value.slice none (0 : Nat) (0 : Nat))) b n)
 (K (Dir.mk d.minus d.zero d.plus d.space d.width d.prec d.kind) (18 : Int)
 (AV.sc (Value.slice none (0 : Nat) (0 : Nat))) b n)))
 (iteP (d.prec == (-2 : Int))
 (iteP (d.kind != (37 : Int))
 (K (Dir.mk d.minus d.zero d.plus d.space d.width d.prec d.kind) (18 : Int)
 (AV.sc (Value.slice none (0 : Nat) (0 : Nat))) b n)
 (K (Dir.mk d.minus d.zero d.plus d.space d.width d.prec d.kind) (18 : Int)
 (AV.sc (Value.slice none (0 : Nat) (0 : Nat))) b n))
 (iteP (d.kind != (37 : Int))
 (K (Dir.mk d.minus d.zero d.plus d.space d.width d.prec d.kind) (18 : Int)
 (AV.sc (Value.slice none (0 : Nat) (0 : Nat))) b n)
 (iteP (d.width == (-2 : Int)) (False ∧ True)
 (iteP (d.prec == (-2 : Int)) (False ∧ True)
 (iteP (decide ((255 : Int) < d.width))
 (K (Dir.mk d.minus d.zero d.plus d.space d.width d.prec d.kind) (2 : Int)
 (AV.sc (Value.slice none (0 : Nat) (0 : Nat))) b n)
 (iteP (decide ((255 : Int) < d.prec))
 (K (Dir.mk d.minus d.zero d.plus d.space d.width d.prec d.kind) (2 : Int)
 (AV.sc (Value.slice none (0 : Nat) (0 : Nat))) b n)
 (K (Dir.mk d.minus d.zero d.plus d.space d.width d.prec d.kind) (0 : Int)
 (AV.sc (Value.slice none (0 : Nat) (0 : Nat))) b n)))))))) :
 (fun (d : Dir) (b : Cells) (n : Nat) (K : Dir → Int → AV → Cells → Nat → Prop) => wpCall Q2 Door.cfg Tryd.prog 40 23 [.ptr 1 0, .agg d.cells] (hC nilA b n) fun r h' => wasDir r fun d' e => rdC h' fun a b n => K d' e a b n) d b n K :=
 Eq.mp (by kernel_rfl) h

end
end Go.Proofs.Pr

/- Printf: resolve. -/
namespace Go.Proofs.Pr
open Go Go.Ef
noncomputable section
set_option maxRecDepth 100000

theorem goodC_inv {e : List AV} (h : goodC e = true) : ∃ (k n : Int) (s : List UInt8), e = [aK .i64 k, aK .i64 n, aStr s] ∧ s.length ≤ 1000000 := by
  unfold goodC at h
  split at h
  · rename_i k n s
    obtain ⟨⟨s⟩⟩ := s
    exact ⟨k, n, s, rfl, by simpa using h⟩
  · cases h
theorem goods_head {l : Cells} (h : goodsB l = true) (hl : 1 ≤ l.length) : ∃ (k n : Int) (s : List UInt8) (r : Cells), l = [aK .i64 k, aK .i64 n, aStr s] :: r ∧ s.length ≤ 1000000 ∧ goodsB r = true := by
  cases l with
  | nil => simp at hl
  | cons e r =>
    unfold goodsB at h
    rw [List.all_cons, Bool.and_eq_true] at h
    obtain ⟨k, n, s, rfl, hs⟩ := goodC_inv h.1
    exact ⟨k, n, s, r, rfl, hs, h.2⟩
theorem goods_drop {l : Cells} (h : goodsB l = true) (k : Nat) : goodsB (l.drop k) = true :=
  List.all_eq_true.2 fun x hx => List.all_eq_true.1 h x (List.mem_of_mem_drop hx)

/- what every such head asks -/
theorem head_ok {l : Cells} (hg : goodsB l = true) (hl : 1 ≤ l.length) : inRange 0 (List.length l) = true ∧ getI 0 l = some [aK .i64 (cellInt l 0 0), aK .i64 (cellInt l 0 1), aStr (cellStr l 0 2)] ∧ headLen 3 l = true ∧ decide ((1 : Int) ≤ (List.length l : Int)) = true ∧ (headS l).length ≤ 1000000 := by
  obtain ⟨k, n, s, r, rfl, hs, hr⟩ := goods_head hg hl
  refine ⟨by rw [inRange_iff]; simp, rfl, rfl, by simp; omega, hs⟩

theorem okQ1 : TabOk Tryd.prog Door.cfg Q1 := ok38 (ok37 (ok50 okN3))

theorem ok36 : TabOk Tryd.prog Door.cfg Q2 := by
  refine addC_ok okQ1 fun args h s hs hp => ?_
  unfold C36 at hs
  split at hs
  · split at hs
    · rename_i l _
      refine nspec_ok2 (Option.some.inj hs) (fun hpre => ?_) hp
      obtain ⟨hh, hl, hg⟩ := hpre
      obtain ⟨g1, g2, g3, g4, g5⟩ := head_ok hg hl
      cases hn : Nat.beq h.next 4 with
      | true =>
        rw [hn] at hh
        replace hh : h = hB (.sl l 0) := IS_heap (s := []) (s' := []) hh
        subst hh
        refine evp_plain (by kernel_rfl) (by kernel_rfl) ?_
        have hw := c36b l (fun r a => r = aK .i64 (takeF l) ∧ a = .sl (l.drop 1) 0) (by
          rw [g1, iteP_t]
          refine ⟨g2, ?_⟩
          rw [g3, iteP_t, g4, Bool.and_self, iteP_t]
          exact ⟨g5, fun x hx => ⟨trivial, fun y hy => ⟨by rw [hy, hx]; rfl, rfl⟩⟩⟩)
        obtain ⟨m, r, h', h1, h2⟩ := call_okW okQ1 40 36 _ _ _ hw
        obtain ⟨a, rfl, rfl, rfl⟩ := rdB_ok h2
        exact ⟨m, _, _, h1, rfl, rfl⟩
      | false =>
        rw [hn] at hh
        replace hh : h = hC (.sl l 0) (hBytes h) (hN h) := IS_heap (s := []) (s' := []) hh
        generalize hBytes h = b at hh
        generalize hN h = n at hh
        subst hh
        refine evp_plain (by kernel_rfl) (by kernel_rfl) ?_
        have hw := c36c l b n (fun r a b' n' => r = aK .i64 (takeF l) ∧ a = .sl (l.drop 1) 0 ∧ b' = b ∧ n' = n) (by
          rw [g1, iteP_t]
          refine ⟨g2, ?_⟩
          rw [g3, iteP_t, g4, Bool.and_self, iteP_t]
          exact ⟨g5, fun x hx => ⟨trivial, fun y hy => ⟨by rw [hy, hx]; rfl, rfl, rfl, rfl⟩⟩⟩)
        obtain ⟨m, r, h', h1, h2⟩ := call_okW okQ1 40 36 _ _ _ hw
        obtain ⟨a, b', n', rfl, rfl, rfl, rfl, rfl⟩ := rdC_ok h2
        exact ⟨m, _, _, h1, rfl, rfl⟩
    · cases Option.some.inj hs
      exact hp.elim
  · cases hs

theorem take_le (l : Cells) : -1000000000 ≤ takeF l ∧ takeF l ≤ 1000000000 := by
  have h1 := near_le (numberF (headK l) (headN l) (headS l))
  exact tdiv_le h1.1 h1.2

theorem use3 {K : Dir → Int → AV → Prop} {d : Dir} {l : Cells} (hk : K (resolveF d l).1 (resolveF d l).2.1 (.sl (resolveF d l).2.2 0)) {d' : Dir} {e : Int} {l' : Cells} (h : resolveF d l = (d', e, l')) : K d' e (.sl l' 0) := by
  rw [h] at hk; exact hk
theorem res_lt {d : Dir} {l : Cells} (h : l.length < needF d) : resolveF d l = (d, 18, l) := if_pos h
theorem res_ge {d : Dir} {l : Cells} (h : ¬ l.length < needF d) : resolveF d l = resE (resP (resW d l)) := if_neg h
theorem resW_neg {d : Dir} {l : Cells} (h : d.width = -2) (h2 : takeF l < 0) : resW d l = ({ d with minus := true, width := -takeF l }, l.drop 1) := by unfold resW; rw [if_pos h, if_pos h2]
theorem resW_pos {d : Dir} {l : Cells} (h : d.width = -2) (h2 : ¬ takeF l < 0) : resW d l = ({ d with width := takeF l }, l.drop 1) := by unfold resW; rw [if_pos h, if_neg h2]
theorem resW_no {d : Dir} {l : Cells} (h : ¬ d.width = -2) : resW d l = (d, l) := if_neg h
theorem resP_yes {x : Dir × Cells} (h : x.1.prec = -2) : resP x = ({ x.1 with prec := max (takeF x.2) (-1) }, x.2.drop 1) := if_pos h
theorem resP_no {x : Dir × Cells} (h : ¬ x.1.prec = -2) : resP x = x := if_neg h
theorem resE_yes {x : Dir × Cells} (h : x.1.width > 255 ∨ x.1.prec > 255) : resE x = (x.1, 2, x.2) := if_pos h
theorem resE_no {x : Dir × Cells} (h : ¬ (x.1.width > 255 ∨ x.1.prec > 255)) : resE x = (x.1, 0, x.2) := if_neg h

theorem res_b (d : Dir) (l : Cells) (hg : goodsB l = true) (K : Dir → Int → AV → Prop) (hk : K (resolveF d l).1 (resolveF d l).2.1 (.sl (resolveF d l).2.2 0)) :
    wpCall Q2 Door.cfg Tryd.prog 40 23 [.ptr 1 0, .agg d.cells] (hB (.sl l 0)) fun r h' => wasDir r fun d' e => rdB h' fun a => K d' e a := by
  refine d23b d l K ?_
  have hg1 : goodsB (List.drop 1 l) = true := goods_drop hg 1
  have t1 := take_le l
  have w1 : IntKind.i64.wrap (0 - takeF l) = -takeF l := by rw [wrap_in (by omega) (by omega)]; omega
  have hl1 : (List.drop 1 l).length = l.length - 1 := List.length_drop
  obtain ⟨mi, ze, pl, sp, wi, pr, ki⟩ := d
  have I : ∀ {q : Bool} {A B : Prop}, (q = true → A) → (q = false → B) → iteP q A B := fun h1 h2 => iteP_iff ▸ ⟨h1, h2⟩
  obtain ⟨bw, hbw⟩ : ∃ b, (wi == -2) = b := ⟨_, rfl⟩
  obtain ⟨bp, hbp⟩ : ∃ b, (pr == -2) = b := ⟨_, rfl⟩
  obtain ⟨bk, hbk⟩ : ∃ b, (ki != 37) = b := ⟨_, rfl⟩
  have nw : (if wi = -2 then 1 else 0) = (if bw then 1 else 0) := by rw [← hbw]; simp
  have np : (if pr = -2 then 1 else 0) = (if bp then 1 else 0) := by rw [← hbp]; simp
  have nk : (if ki = 37 then 0 else 1) = (if bk then 1 else 0) := by rw [← hbk]; by_cases h : ki = 37 <;> simp [h]
  have need : needF ⟨mi, ze, pl, sp, wi, pr, ki⟩ = (if bw then 1 else 0) + (if bp then 1 else 0) + (if bk then 1 else 0) := by
    show (if wi = -2 then 1 else 0) + (if pr = -2 then 1 else 0) + (if ki = 37 then 0 else 1) = _
    rw [nw, np, nk]
  have cw : bw = true → wi = -2 := fun h => by rw [h] at hbw; simpa using hbw
  have cw' : bw = false → ¬ wi = -2 := fun h => by rw [h] at hbw; simpa using hbw
  have cp : bp = true → pr = -2 := fun h => by rw [h] at hbp; simpa using hbp
  have cp' : bp = false → ¬ pr = -2 := fun h => by rw [h] at hbp; simpa using hbp
  clear nw np nk
  have fin : ∀ (x : Dir × Cells), ¬ (l.length < needF ⟨mi, ze, pl, sp, wi, pr, ki⟩) → resP (resW ⟨mi, ze, pl, sp, wi, pr, ki⟩ l) = x →
      iteP (decide ((255 : Int) < x.1.width)) (K x.1 2 (.sl x.2 0)) (iteP (decide ((255 : Int) < x.1.prec)) (K x.1 2 (.sl x.2 0)) (K x.1 0 (.sl x.2 0))) := by
    intro x hn he
    have hr : resolveF ⟨mi, ze, pl, sp, wi, pr, ki⟩ l = resE x := by rw [res_ge hn, he]
    refine I (fun h => ?_) (fun h => I (fun h' => ?_) (fun h' => ?_))
    · exact use3 hk (hr.trans (resE_yes (.inl (by simpa using h))))
    · exact use3 hk (hr.trans (resE_yes (.inr (by simpa using h'))))
    · exact use3 hk (hr.trans (resE_no (by rw [decide_eq_false_iff_not] at h h'; omega)))
  have few : l.length < needF ⟨mi, ze, pl, sp, wi, pr, ki⟩ → K ⟨mi, ze, pl, sp, wi, pr, ki⟩ 18 (.sl l 0) := fun h => use3 hk (res_lt h)
  simp only [hbw, hbp, hbk]
  cases bw with
  | true =>
    have ww := cw rfl
    cases bp with
    | true =>
      have pp := cp rfl
      cases bk with
      | true =>
        simp only [iteP_t]
        refine I (fun h => few (by rw [need]; simp only [decide_eq_true_eq] at h; show List.length l < 3; omega)) (fun h => ?_)
        simp only [decide_eq_false_iff_not] at h
        have hn : ¬ l.length < needF ⟨mi, ze, pl, sp, wi, pr, ki⟩ := by rw [need]; show ¬ List.length l < 3; omega
        refine ⟨⟨trivial, by omega, hg⟩, fun x hx => ?_⟩
        subst hx
        refine I (fun h2 => ?_) (fun h2 => ?_)
        · simp only [decide_eq_true_eq] at h2
          refine ⟨⟨trivial, by omega, hg1⟩, fun y hy => ?_⟩
          subst hy
          rw [w1]
          exact fin (⟨true, ze, pl, sp, -takeF l, max (takeF (List.drop 1 l)) (-1), ki⟩, List.drop 1 (List.drop 1 l)) hn (by rw [resW_neg ww h2]; exact resP_yes pp)
        · simp only [decide_eq_false_iff_not] at h2
          refine ⟨⟨trivial, by omega, hg1⟩, fun y hy => ?_⟩
          subst hy
          exact fin (⟨mi, ze, pl, sp, takeF l, max (takeF (List.drop 1 l)) (-1), ki⟩, List.drop 1 (List.drop 1 l)) hn (by rw [resW_pos ww h2]; exact resP_yes pp)
      | false =>
        simp only [iteP_t, iteP_f]
        refine I (fun h => few (by rw [need]; simp only [decide_eq_true_eq] at h; show List.length l < 2; omega)) (fun h => ?_)
        simp only [decide_eq_false_iff_not] at h
        have hn : ¬ l.length < needF ⟨mi, ze, pl, sp, wi, pr, ki⟩ := by rw [need]; show ¬ List.length l < 2; omega
        refine ⟨⟨trivial, by omega, hg⟩, fun x hx => ?_⟩
        subst hx
        refine I (fun h2 => ?_) (fun h2 => ?_)
        · simp only [decide_eq_true_eq] at h2
          refine ⟨⟨trivial, by omega, hg1⟩, fun y hy => ?_⟩
          subst hy
          rw [w1]
          exact fin (⟨true, ze, pl, sp, -takeF l, max (takeF (List.drop 1 l)) (-1), ki⟩, List.drop 1 (List.drop 1 l)) hn (by rw [resW_neg ww h2]; exact resP_yes pp)
        · simp only [decide_eq_false_iff_not] at h2
          refine ⟨⟨trivial, by omega, hg1⟩, fun y hy => ?_⟩
          subst hy
          exact fin (⟨mi, ze, pl, sp, takeF l, max (takeF (List.drop 1 l)) (-1), ki⟩, List.drop 1 (List.drop 1 l)) hn (by rw [resW_pos ww h2]; exact resP_yes pp)
    | false =>
      have pp := cp' rfl
      cases bk with
      | true =>
        simp only [iteP_t, iteP_f]
        refine I (fun h => few (by rw [need]; simp only [decide_eq_true_eq] at h; show List.length l < 2; omega)) (fun h => ?_)
        simp only [decide_eq_false_iff_not] at h
        have hn : ¬ l.length < needF ⟨mi, ze, pl, sp, wi, pr, ki⟩ := by rw [need]; show ¬ List.length l < 2; omega
        refine ⟨⟨trivial, by omega, hg⟩, fun x hx => ?_⟩
        subst hx
        refine I (fun h2 => ?_) (fun h2 => ?_)
        · simp only [decide_eq_true_eq] at h2
          rw [w1]
          exact fin (⟨true, ze, pl, sp, -takeF l, pr, ki⟩, (List.drop 1 l)) hn (by rw [resW_neg ww h2]; exact resP_no pp)
        · simp only [decide_eq_false_iff_not] at h2
          exact fin (⟨mi, ze, pl, sp, takeF l, pr, ki⟩, (List.drop 1 l)) hn (by rw [resW_pos ww h2]; exact resP_no pp)
      | false =>
        simp only [iteP_t, iteP_f]
        refine I (fun h => few (by rw [need]; simp only [decide_eq_true_eq] at h; show List.length l < 1; omega)) (fun h => ?_)
        simp only [decide_eq_false_iff_not] at h
        have hn : ¬ l.length < needF ⟨mi, ze, pl, sp, wi, pr, ki⟩ := by rw [need]; show ¬ List.length l < 1; omega
        refine ⟨⟨trivial, by omega, hg⟩, fun x hx => ?_⟩
        subst hx
        refine I (fun h2 => ?_) (fun h2 => ?_)
        · simp only [decide_eq_true_eq] at h2
          rw [w1]
          exact fin (⟨true, ze, pl, sp, -takeF l, pr, ki⟩, (List.drop 1 l)) hn (by rw [resW_neg ww h2]; exact resP_no pp)
        · simp only [decide_eq_false_iff_not] at h2
          exact fin (⟨mi, ze, pl, sp, takeF l, pr, ki⟩, (List.drop 1 l)) hn (by rw [resW_pos ww h2]; exact resP_no pp)
  | false =>
    have ww := cw' rfl
    cases bp with
    | true =>
      have pp := cp rfl
      cases bk with
      | true =>
        simp only [iteP_t, iteP_f]
        refine I (fun h => few (by rw [need]; simp only [decide_eq_true_eq] at h; show List.length l < 2; omega)) (fun h => ?_)
        simp only [decide_eq_false_iff_not] at h
        have hn : ¬ l.length < needF ⟨mi, ze, pl, sp, wi, pr, ki⟩ := by rw [need]; show ¬ List.length l < 2; omega
        refine ⟨⟨trivial, by omega, hg⟩, fun y hy => ?_⟩
        subst hy
        exact fin (⟨mi, ze, pl, sp, wi, max (takeF l) (-1), ki⟩, List.drop 1 l) hn (by rw [resW_no ww]; exact resP_yes pp)
      | false =>
        simp only [iteP_t, iteP_f]
        refine I (fun h => few (by rw [need]; simp only [decide_eq_true_eq] at h; show List.length l < 1; omega)) (fun h => ?_)
        simp only [decide_eq_false_iff_not] at h
        have hn : ¬ l.length < needF ⟨mi, ze, pl, sp, wi, pr, ki⟩ := by rw [need]; show ¬ List.length l < 1; omega
        refine ⟨⟨trivial, by omega, hg⟩, fun y hy => ?_⟩
        subst hy
        exact fin (⟨mi, ze, pl, sp, wi, max (takeF l) (-1), ki⟩, List.drop 1 l) hn (by rw [resW_no ww]; exact resP_yes pp)
    | false =>
      have pp := cp' rfl
      cases bk with
      | true =>
        simp only [iteP_t, iteP_f]
        refine I (fun h => few (by rw [need]; simp only [decide_eq_true_eq] at h; show List.length l < 1; omega)) (fun h => ?_)
        simp only [decide_eq_false_iff_not] at h
        have hn : ¬ l.length < needF ⟨mi, ze, pl, sp, wi, pr, ki⟩ := by rw [need]; show ¬ List.length l < 1; omega
        exact fin (⟨mi, ze, pl, sp, wi, pr, ki⟩, l) hn (by rw [resW_no ww]; exact resP_no pp)
      | false =>
        simp only [iteP_f]
        have hn : ¬ l.length < needF ⟨mi, ze, pl, sp, wi, pr, ki⟩ := by rw [need]; exact Nat.not_lt_zero _
        exact fin (⟨mi, ze, pl, sp, wi, pr, ki⟩, l) hn (by rw [resW_no ww]; exact resP_no pp)
theorem res_c (d : Dir) (l b : Cells) (n : Nat) (hg : goodsB l = true) (K : Dir → Int → AV → Cells → Nat → Prop) (hk : K (resolveF d l).1 (resolveF d l).2.1 (.sl (resolveF d l).2.2 0) b n) :
    wpCall Q2 Door.cfg Tryd.prog 40 23 [.ptr 1 0, .agg d.cells] (hC (.sl l 0) b n) fun r h' => wasDir r fun d' e => rdC h' fun a b n => K d' e a b n := by
  refine d23c d l b n K ?_
  have hg1 : goodsB (List.drop 1 l) = true := goods_drop hg 1
  have t1 := take_le l
  have w1 : IntKind.i64.wrap (0 - takeF l) = -takeF l := by rw [wrap_in (by omega) (by omega)]; omega
  have hl1 : (List.drop 1 l).length = l.length - 1 := List.length_drop
  obtain ⟨mi, ze, pl, sp, wi, pr, ki⟩ := d
  have I : ∀ {q : Bool} {A B : Prop}, (q = true → A) → (q = false → B) → iteP q A B := fun h1 h2 => iteP_iff ▸ ⟨h1, h2⟩
  obtain ⟨bw, hbw⟩ : ∃ b, (wi == -2) = b := ⟨_, rfl⟩
  obtain ⟨bp, hbp⟩ : ∃ b, (pr == -2) = b := ⟨_, rfl⟩
  obtain ⟨bk, hbk⟩ : ∃ b, (ki != 37) = b := ⟨_, rfl⟩
  have nw : (if wi = -2 then 1 else 0) = (if bw then 1 else 0) := by rw [← hbw]; simp
  have np : (if pr = -2 then 1 else 0) = (if bp then 1 else 0) := by rw [← hbp]; simp
  have nk : (if ki = 37 then 0 else 1) = (if bk then 1 else 0) := by rw [← hbk]; by_cases h : ki = 37 <;> simp [h]
  have need : needF ⟨mi, ze, pl, sp, wi, pr, ki⟩ = (if bw then 1 else 0) + (if bp then 1 else 0) + (if bk then 1 else 0) := by
    show (if wi = -2 then 1 else 0) + (if pr = -2 then 1 else 0) + (if ki = 37 then 0 else 1) = _
    rw [nw, np, nk]
  have cw : bw = true → wi = -2 := fun h => by rw [h] at hbw; simpa using hbw
  have cw' : bw = false → ¬ wi = -2 := fun h => by rw [h] at hbw; simpa using hbw
  have cp : bp = true → pr = -2 := fun h => by rw [h] at hbp; simpa using hbp
  have cp' : bp = false → ¬ pr = -2 := fun h => by rw [h] at hbp; simpa using hbp
  clear nw np nk
  have fin : ∀ (x : Dir × Cells), ¬ (l.length < needF ⟨mi, ze, pl, sp, wi, pr, ki⟩) → resP (resW ⟨mi, ze, pl, sp, wi, pr, ki⟩ l) = x →
      iteP (decide ((255 : Int) < x.1.width)) (K x.1 2 (.sl x.2 0) b n) (iteP (decide ((255 : Int) < x.1.prec)) (K x.1 2 (.sl x.2 0) b n) (K x.1 0 (.sl x.2 0) b n)) := by
    intro x hn he
    have hr : resolveF ⟨mi, ze, pl, sp, wi, pr, ki⟩ l = resE x := by rw [res_ge hn, he]
    refine I (fun h => ?_) (fun h => I (fun h' => ?_) (fun h' => ?_))
    · exact use3 (K := fun d e a => K d e a b n) hk (hr.trans (resE_yes (.inl (by simpa using h))))
    · exact use3 (K := fun d e a => K d e a b n) hk (hr.trans (resE_yes (.inr (by simpa using h'))))
    · exact use3 (K := fun d e a => K d e a b n) hk (hr.trans (resE_no (by rw [decide_eq_false_iff_not] at h h'; omega)))
  have few : l.length < needF ⟨mi, ze, pl, sp, wi, pr, ki⟩ → K ⟨mi, ze, pl, sp, wi, pr, ki⟩ 18 (.sl l 0) b n := fun h => use3 (K := fun d e a => K d e a b n) hk (res_lt h)
  simp only [hbw, hbp, hbk]
  cases bw with
  | true =>
    have ww := cw rfl
    cases bp with
    | true =>
      have pp := cp rfl
      cases bk with
      | true =>
        simp only [iteP_t]
        refine I (fun h => few (by rw [need]; simp only [decide_eq_true_eq] at h; show List.length l < 3; omega)) (fun h => ?_)
        simp only [decide_eq_false_iff_not] at h
        have hn : ¬ l.length < needF ⟨mi, ze, pl, sp, wi, pr, ki⟩ := by rw [need]; show ¬ List.length l < 3; omega
        refine ⟨⟨trivial, by omega, hg⟩, fun x hx => ?_⟩
        subst hx
        refine I (fun h2 => ?_) (fun h2 => ?_)
        · simp only [decide_eq_true_eq] at h2
          refine ⟨⟨trivial, by omega, hg1⟩, fun y hy => ?_⟩
          subst hy
          rw [w1]
          exact fin (⟨true, ze, pl, sp, -takeF l, max (takeF (List.drop 1 l)) (-1), ki⟩, List.drop 1 (List.drop 1 l)) hn (by rw [resW_neg ww h2]; exact resP_yes pp)
        · simp only [decide_eq_false_iff_not] at h2
          refine ⟨⟨trivial, by omega, hg1⟩, fun y hy => ?_⟩
          subst hy
          exact fin (⟨mi, ze, pl, sp, takeF l, max (takeF (List.drop 1 l)) (-1), ki⟩, List.drop 1 (List.drop 1 l)) hn (by rw [resW_pos ww h2]; exact resP_yes pp)
      | false =>
        simp only [iteP_t, iteP_f]
        refine I (fun h => few (by rw [need]; simp only [decide_eq_true_eq] at h; show List.length l < 2; omega)) (fun h => ?_)
        simp only [decide_eq_false_iff_not] at h
        have hn : ¬ l.length < needF ⟨mi, ze, pl, sp, wi, pr, ki⟩ := by rw [need]; show ¬ List.length l < 2; omega
        refine ⟨⟨trivial, by omega, hg⟩, fun x hx => ?_⟩
        subst hx
        refine I (fun h2 => ?_) (fun h2 => ?_)
        · simp only [decide_eq_true_eq] at h2
          refine ⟨⟨trivial, by omega, hg1⟩, fun y hy => ?_⟩
          subst hy
          rw [w1]
          exact fin (⟨true, ze, pl, sp, -takeF l, max (takeF (List.drop 1 l)) (-1), ki⟩, List.drop 1 (List.drop 1 l)) hn (by rw [resW_neg ww h2]; exact resP_yes pp)
        · simp only [decide_eq_false_iff_not] at h2
          refine ⟨⟨trivial, by omega, hg1⟩, fun y hy => ?_⟩
          subst hy
          exact fin (⟨mi, ze, pl, sp, takeF l, max (takeF (List.drop 1 l)) (-1), ki⟩, List.drop 1 (List.drop 1 l)) hn (by rw [resW_pos ww h2]; exact resP_yes pp)
    | false =>
      have pp := cp' rfl
      cases bk with
      | true =>
        simp only [iteP_t, iteP_f]
        refine I (fun h => few (by rw [need]; simp only [decide_eq_true_eq] at h; show List.length l < 2; omega)) (fun h => ?_)
        simp only [decide_eq_false_iff_not] at h
        have hn : ¬ l.length < needF ⟨mi, ze, pl, sp, wi, pr, ki⟩ := by rw [need]; show ¬ List.length l < 2; omega
        refine ⟨⟨trivial, by omega, hg⟩, fun x hx => ?_⟩
        subst hx
        refine I (fun h2 => ?_) (fun h2 => ?_)
        · simp only [decide_eq_true_eq] at h2
          rw [w1]
          exact fin (⟨true, ze, pl, sp, -takeF l, pr, ki⟩, (List.drop 1 l)) hn (by rw [resW_neg ww h2]; exact resP_no pp)
        · simp only [decide_eq_false_iff_not] at h2
          exact fin (⟨mi, ze, pl, sp, takeF l, pr, ki⟩, (List.drop 1 l)) hn (by rw [resW_pos ww h2]; exact resP_no pp)
      | false =>
        simp only [iteP_t, iteP_f]
        refine I (fun h => few (by rw [need]; simp only [decide_eq_true_eq] at h; show List.length l < 1; omega)) (fun h => ?_)
        simp only [decide_eq_false_iff_not] at h
        have hn : ¬ l.length < needF ⟨mi, ze, pl, sp, wi, pr, ki⟩ := by rw [need]; show ¬ List.length l < 1; omega
        refine ⟨⟨trivial, by omega, hg⟩, fun x hx => ?_⟩
        subst hx
        refine I (fun h2 => ?_) (fun h2 => ?_)
        · simp only [decide_eq_true_eq] at h2
          rw [w1]
          exact fin (⟨true, ze, pl, sp, -takeF l, pr, ki⟩, (List.drop 1 l)) hn (by rw [resW_neg ww h2]; exact resP_no pp)
        · simp only [decide_eq_false_iff_not] at h2
          exact fin (⟨mi, ze, pl, sp, takeF l, pr, ki⟩, (List.drop 1 l)) hn (by rw [resW_pos ww h2]; exact resP_no pp)
  | false =>
    have ww := cw' rfl
    cases bp with
    | true =>
      have pp := cp rfl
      cases bk with
      | true =>
        simp only [iteP_t, iteP_f]
        refine I (fun h => few (by rw [need]; simp only [decide_eq_true_eq] at h; show List.length l < 2; omega)) (fun h => ?_)
        simp only [decide_eq_false_iff_not] at h
        have hn : ¬ l.length < needF ⟨mi, ze, pl, sp, wi, pr, ki⟩ := by rw [need]; show ¬ List.length l < 2; omega
        refine ⟨⟨trivial, by omega, hg⟩, fun y hy => ?_⟩
        subst hy
        exact fin (⟨mi, ze, pl, sp, wi, max (takeF l) (-1), ki⟩, List.drop 1 l) hn (by rw [resW_no ww]; exact resP_yes pp)
      | false =>
        simp only [iteP_t, iteP_f]
        refine I (fun h => few (by rw [need]; simp only [decide_eq_true_eq] at h; show List.length l < 1; omega)) (fun h => ?_)
        simp only [decide_eq_false_iff_not] at h
        have hn : ¬ l.length < needF ⟨mi, ze, pl, sp, wi, pr, ki⟩ := by rw [need]; show ¬ List.length l < 1; omega
        refine ⟨⟨trivial, by omega, hg⟩, fun y hy => ?_⟩
        subst hy
        exact fin (⟨mi, ze, pl, sp, wi, max (takeF l) (-1), ki⟩, List.drop 1 l) hn (by rw [resW_no ww]; exact resP_yes pp)
    | false =>
      have pp := cp' rfl
      cases bk with
      | true =>
        simp only [iteP_t, iteP_f]
        refine I (fun h => few (by rw [need]; simp only [decide_eq_true_eq] at h; show List.length l < 1; omega)) (fun h => ?_)
        simp only [decide_eq_false_iff_not] at h
        have hn : ¬ l.length < needF ⟨mi, ze, pl, sp, wi, pr, ki⟩ := by rw [need]; show ¬ List.length l < 1; omega
        exact fin (⟨mi, ze, pl, sp, wi, pr, ki⟩, l) hn (by rw [resW_no ww]; exact resP_no pp)
      | false =>
        simp only [iteP_f]
        have hn : ¬ l.length < needF ⟨mi, ze, pl, sp, wi, pr, ki⟩ := by rw [need]; exact Nat.not_lt_zero _
        exact fin (⟨mi, ze, pl, sp, wi, pr, ki⟩, l) hn (by rw [resW_no ww]; exact resP_no pp)

theorem res_nil (d : Dir) : resolveF d [] = (d, (if needF d = 0 then (if d.width > 255 ∨ d.prec > 255 then 2 else 0) else 18), []) := by
  unfold resolveF
  by_cases h : needF d = 0
  · rw [if_neg (by rw [h]; decide), if_pos h]
    have h1 : ¬ d.width = -2 := fun e => by unfold needF at h; rw [if_pos e] at h; omega
    have h2 : ¬ d.prec = -2 := fun e => by unfold needF at h; rw [if_pos e] at h; omega
    rw [resW_no h1]
    rw [resP_no (x := (d, [])) h2]
    by_cases h3 : d.width > 255 ∨ d.prec > 255
    · rw [resE_yes (x := (d, [])) h3, if_pos h3]
    · rw [resE_no (x := (d, [])) h3, if_neg h3]
  · rw [if_pos (by show 0 < needF d; omega), if_neg h]
theorem res_bn (d : Dir) (K : Dir → Int → AV → Prop) (hk : K (resolveF d []).1 (resolveF d []).2.1 nilA) :
    wpCall Q2 Door.cfg Tryd.prog 40 23 [.ptr 1 0, .agg d.cells] (hB nilA) fun r h' => wasDir r fun d' e => rdB h' fun a => K d' e a := by
  refine d23bn d K ?_
  rw [res_nil] at hk
  obtain ⟨mi, ze, pl, sp, wi, pr, ki⟩ := d
  have nd : needF ⟨mi, ze, pl, sp, wi, pr, ki⟩ = (if wi = -2 then 1 else 0) + (if pr = -2 then 1 else 0) + (if ki = 37 then 0 else 1) := rfl
  by_cases hw : wi = -2
  · rw [if_neg (by rw [nd, if_pos hw]; omega)] at hk
    simp only [show (wi == -2) = true by simpa using hw, iteP_t]
    cases (pr == -2) <;> cases (ki != 37) <;> exact hk
  · simp only [show (wi == -2) = false by simpa using hw, iteP_f]
    by_cases hp : pr = -2
    · rw [if_neg (by rw [nd, if_pos hp]; omega)] at hk
      simp only [show (pr == -2) = true by simpa using hp, iteP_t]
      cases (ki != 37) <;> exact hk
    · simp only [show (pr == -2) = false by simpa using hp, iteP_f]
      by_cases hkk : ki = 37
      · rw [if_pos (by rw [nd, if_neg hw, if_neg hp, if_pos hkk])] at hk
        simp only [show (ki != 37) = false by simpa using hkk, iteP_f]
        by_cases h1 : (255 : Int) < wi
        · rw [if_pos (.inl h1)] at hk
          rw [decide_eq_true h1]; exact hk
        · rw [decide_eq_false h1, iteP_f]
          by_cases h2 : (255 : Int) < pr
          · rw [if_pos (.inr h2)] at hk
            rw [decide_eq_true h2]; exact hk
          · rw [if_neg (by rintro (h | h); exact h1 h; exact h2 h)] at hk
            rw [decide_eq_false h2]; exact hk
      · rw [if_neg (by rw [nd, if_neg hkk]; omega)] at hk
        simp only [show (ki != 37) = true by simpa using hkk, iteP_t]
        exact hk
theorem res_cn (d : Dir) (b : Cells) (n : Nat) (K : Dir → Int → AV → Cells → Nat → Prop) (hk : K (resolveF d []).1 (resolveF d []).2.1 nilA b n) :
    wpCall Q2 Door.cfg Tryd.prog 40 23 [.ptr 1 0, .agg d.cells] (hC nilA b n) fun r h' => wasDir r fun d' e => rdC h' fun a b n => K d' e a b n := by
  refine d23cn d b n K ?_
  rw [res_nil] at hk
  obtain ⟨mi, ze, pl, sp, wi, pr, ki⟩ := d
  have nd : needF ⟨mi, ze, pl, sp, wi, pr, ki⟩ = (if wi = -2 then 1 else 0) + (if pr = -2 then 1 else 0) + (if ki = 37 then 0 else 1) := rfl
  by_cases hw : wi = -2
  · rw [if_neg (by rw [nd, if_pos hw]; omega)] at hk
    simp only [show (wi == -2) = true by simpa using hw, iteP_t]
    cases (pr == -2) <;> cases (ki != 37) <;> exact hk
  · simp only [show (wi == -2) = false by simpa using hw, iteP_f]
    by_cases hp : pr = -2
    · rw [if_neg (by rw [nd, if_pos hp]; omega)] at hk
      simp only [show (pr == -2) = true by simpa using hp, iteP_t]
      cases (ki != 37) <;> exact hk
    · simp only [show (pr == -2) = false by simpa using hp, iteP_f]
      by_cases hkk : ki = 37
      · rw [if_pos (by rw [nd, if_neg hw, if_neg hp, if_pos hkk])] at hk
        simp only [show (ki != 37) = false by simpa using hkk, iteP_f]
        by_cases h1 : (255 : Int) < wi
        · rw [if_pos (.inl h1)] at hk
          rw [decide_eq_true h1]; exact hk
        · rw [decide_eq_false h1, iteP_f]
          by_cases h2 : (255 : Int) < pr
          · rw [if_pos (.inr h2)] at hk
            rw [decide_eq_true h2]; exact hk
          · rw [if_neg (by rintro (h | h); exact h1 h; exact h2 h)] at hk
            rw [decide_eq_false h2]; exact hk
      · rw [if_neg (by rw [nd, if_neg hkk]; omega)] at hk
        simp only [show (ki != 37) = true by simpa using hkk, iteP_t]
        exact hk

theorem wasDir_ok {r : AV} {K : Dir → Int → Prop} (h : wasDir r K) : ∃ d x, r = .tup [.agg (Dir.cells d), aK .i64 x] ∧ K d x := by
  unfold wasDir at h
  split at h
  · rename_i a b c e w p k x
    exact ⟨⟨a, b, c, e, w, p, k⟩, x, rfl, h⟩
  · exact h.elim
theorem plain_call {g : FuncId} {args : List AV} {h h' : Heap} {m : Nat} {v : AV} (hf : Door.cfg.fresh g = false) (hp : Door.cfg.prim g = none) (H : evCall Door.cfg Tryd.prog m g args h = some (v, h')) : callP Door.cfg (evCall Door.cfg Tryd.prog m) g args h = some (v, h') := by
  unfold callP
  rw [hp]; simp only []; rw [hf]
  exact H
theorem ok23 : TabOk Tryd.prog Door.cfg (Q2.addC 23 C23) := by
  refine addC_ok ok36 fun args h s hs hp => ?_
  unfold C23 at hs
  split at hs
  · rename_i a b c e w p k
    split at hs
    · rename_i l _
      cases Option.some.inj hs
      obtain ⟨hh, hg⟩ := hp
      cases hn : Nat.beq h.next 4 with
      | true =>
        rw [hn] at hh
        replace hh : h = hB (.sl l 0) := IS_heap (s := []) (s' := []) hh
        subst hh
        obtain ⟨m, r, h', h1, h2⟩ := call_okW ok36 40 23 _ _ _ (res_b ⟨a, b, c, e, w, p, k⟩ l hg (fun d' e' a' => d' = (resolveF ⟨a, b, c, e, w, p, k⟩ l).1 ∧ e' = (resolveF ⟨a, b, c, e, w, p, k⟩ l).2.1 ∧ a' = .sl (resolveF ⟨a, b, c, e, w, p, k⟩ l).2.2 0) ⟨rfl, rfl, rfl⟩)
        obtain ⟨d', e', rfl, h3⟩ := wasDir_ok h2
        obtain ⟨a', rfl, rfl, rfl, rfl⟩ := rdB_ok h3
        exact ⟨_, .head _, _, m, rfl, plain_call (by kernel_rfl) (by kernel_rfl) h1⟩
      | false =>
        rw [hn] at hh
        replace hh : h = hC (.sl l 0) (hBytes h) (hN h) := IS_heap (s := []) (s' := []) hh
        generalize hBytes h = b' at hh
        generalize hN h = n' at hh
        subst hh
        obtain ⟨m, r, h', h1, h2⟩ := call_okW ok36 40 23 _ _ _ (res_c ⟨a, b, c, e, w, p, k⟩ l b' n' hg (fun d' e' a' b1 n1 => d' = (resolveF ⟨a, b, c, e, w, p, k⟩ l).1 ∧ e' = (resolveF ⟨a, b, c, e, w, p, k⟩ l).2.1 ∧ a' = .sl (resolveF ⟨a, b, c, e, w, p, k⟩ l).2.2 0 ∧ b1 = b' ∧ n1 = n') ⟨rfl, rfl, rfl, rfl, rfl⟩)
        obtain ⟨d', e', rfl, h3⟩ := wasDir_ok h2
        obtain ⟨a', b1, n1, rfl, rfl, rfl, rfl, rfl, rfl⟩ := rdC_ok h3
        exact ⟨_, .head _, _, m, rfl, plain_call (by kernel_rfl) (by kernel_rfl) h1⟩
    · cases Option.some.inj hs
      replace hp : (bif Nat.beq h.next 4 then IS [] h = sB nilA else IS [] h = sC nilA (hBytes h) (hN h)) := hp
      cases hn : Nat.beq h.next 4 with
      | true =>
        rw [hn] at hp
        replace hp : h = hB nilA := IS_heap (s := []) (s' := []) hp
        subst hp
        obtain ⟨m, r, h', h1, h2⟩ := call_okW ok36 40 23 _ _ _ (res_bn ⟨a, b, c, e, w, p, k⟩ (fun d' e' a' => d' = (resolveF ⟨a, b, c, e, w, p, k⟩ []).1 ∧ e' = (resolveF ⟨a, b, c, e, w, p, k⟩ []).2.1 ∧ a' = nilA) ⟨rfl, rfl, rfl⟩)
        obtain ⟨d', e', rfl, h3⟩ := wasDir_ok h2
        obtain ⟨a', rfl, rfl, rfl, rfl⟩ := rdB_ok h3
        exact ⟨_, .head _, _, m, rfl, plain_call (by kernel_rfl) (by kernel_rfl) h1⟩
      | false =>
        rw [hn] at hp
        replace hp : h = hC nilA (hBytes h) (hN h) := IS_heap (s := []) (s' := []) hp
        generalize hBytes h = b' at hp
        generalize hN h = n' at hp
        subst hp
        obtain ⟨m, r, h', h1, h2⟩ := call_okW ok36 40 23 _ _ _ (res_cn ⟨a, b, c, e, w, p, k⟩ b' n' (fun d' e' a' b1 n1 => d' = (resolveF ⟨a, b, c, e, w, p, k⟩ []).1 ∧ e' = (resolveF ⟨a, b, c, e, w, p, k⟩ []).2.1 ∧ a' = nilA ∧ b1 = b' ∧ n1 = n') ⟨rfl, rfl, rfl, rfl, rfl⟩)
        obtain ⟨d', e', rfl, h3⟩ := wasDir_ok h2
        obtain ⟨a', b1, n1, rfl, rfl, rfl, rfl, rfl, rfl⟩ := rdC_ok h3
        exact ⟨_, .head _, _, m, rfl, plain_call (by kernel_rfl) (by kernel_rfl) h1⟩
    · cases hs
  · cases hs
end
end Go.Proofs.Pr

