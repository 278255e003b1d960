/- A part of the proof: definitions and lemmas. -/
import Derived.Test.YtdnekbapjlbeaaaGreatDoorParagsC
import Derived.Test.YtdnekbapjlbeaaaGreatDoorCards
import Derived.Test.YtdnekbapjlbeaaaGreatDoorTie
import Derived.WalkKit
import Derived.ProofKit
import Derived.Handy
import Derived.Lay
import Derived.Shelf.Vars
import Derived.Deep.DeepHandedRow
import Derived.SevenTiedAt
namespace Go.Ef
open Go
noncomputable section
def tab0 : Tab := { call := fun _ => none, loop := fun _ _ => none, exact := fun _ _ => false, named := fun _ _ => false }
def Tab.addC (T : Tab) (g : FuncId) (t : List AV → Heap → Option CSpec) : Tab := { T with call := fun x => bif Nat.beq x g then some t else T.call x }
def Tab.addL (T : Tab) (f i : Nat) (t : St → Option LSpec) : Tab := { T with loop := fun x y => bif Nat.beq x f && Nat.beq y i then some t else T.loop x y }
def Tab.name (T : Tab) (f t : Nat) : Tab := { T with named := fun x y => bif Nat.beq x f && Nat.beq y t then true else T.named x y }
def fspec (pre : Prop) (v : AV) (h : Heap) : CSpec := { pre := pre, alts := [{ α := Unit, post := fun _ => True, val := fun _ => v, heap := fun _ => h }] }
section
variable {P : Program} {C : Cfg} {T : Tab}
theorem tab0_ok : TabOk P C tab0 := ⟨fun _ _ _ _ _ ht => (by cases ht), fun _ _ _ _ _ ht => (by cases ht)⟩
theorem addC_ok (O : TabOk P C T) {g : FuncId} {t : List AV → Heap → Option CSpec} (H : ∀ args h s, t args h = some s → s.pre → ∃ a ∈ s.alts, ∃ x m, a.post x ∧ callP C (evCall C P m) g args h = some (a.val x, a.heap x)) : TabOk P C (T.addC g t) := by
 refine ⟨fun x t' args h s ht hs hp => ?_, fun f i t' σ s ht => O.loop f i t' σ s ht⟩
 replace ht : (bif Nat.beq x g then some t else T.call x) = some t' := ht
 cases hq : Nat.beq x g with
 | true =>
  rw [hq] at ht
  cases ht
  rw [Nat.eq_of_beq_eq_true hq]
  exact H args h s hs hp
 | false =>
  rw [hq] at ht
  exact O.call x t' args h s ht hs hp
theorem addL_ok (O : TabOk P C T) {f i : Nat} {t : St → Option LSpec} (H : ∀ σ s, t σ = some s → s.pre → ∃ a ∈ s.alts, ∃ x, a.post x ∧ ∃ m, evCode C P m f (.loop (loopAt P f i)) σ = some (a.ex, a.st x)) : TabOk P C (T.addL f i t) := by
 refine ⟨fun g t' args h s ht => O.call g t' args h s ht, fun x y t' σ s ht hs hp => ?_⟩
 replace ht : (bif Nat.beq x f && Nat.beq y i then some t else T.loop x y) = some t' := ht
 cases hq : Nat.beq x f && Nat.beq y i with
 | true =>
  rw [hq] at ht
  simp only [Bool.and_eq_true] at hq
  cases ht
  rw [Nat.eq_of_beq_eq_true hq.1, Nat.eq_of_beq_eq_true hq.2]
  obtain ⟨a, ha, x, h1, m, h2⟩ := H σ s hs hp
  exact ⟨a, ha, x, m, h1, h2⟩
 | false =>
  rw [hq] at ht
  exact O.loop x y t' σ s ht hs hp
theorem wpStrip_mono : ∀ n v {k k' : AV → Prop}, wpStrip n v k → (∀ y, k y → k' y) → wpStrip n v k' := by
 intro n
 induction n with
 | zero =>
  intro v k k' h hk
  cases v with
  | sc v => exact hk _ h
  | sl els tok =>
   cases tok with
   | zero => exact hk _ h
   | succ t => exact h.elim
  | _ => exact h.elim
 | succ n ih =>
  have lists : ∀ (cs : List AV) {k k' : List AV → Prop}, List.rec (motive := fun _ => (List AV → Prop) → Prop) (fun k => k []) (fun x _ ihl k => wpStrip n x fun y => ihl fun l => k (y :: l)) cs k → (∀ y, k y → k' y) →
    List.rec (motive := fun _ => (List AV → Prop) → Prop) (fun k => k []) (fun x _ ihl k => wpStrip n x fun y => ihl fun l => k (y :: l)) cs k' := by
   intro cs
   induction cs with
   | nil => intro k k' h hk; exact hk _ h
   | cons x cs ihc => intro k k' h hk; exact ih x h fun y hy => ihc hy fun l hl => hk _ hl
  intro v k k' h hk
  cases v with
  | sc v => exact hk _ h
  | sl els tok =>
   cases tok with
   | zero => exact hk _ h
   | succ t =>
    obtain ⟨h1, h2⟩ := iteP_false (show iteP (plainEls els) (k (.sl els 0)) False from h)
    show iteP (plainEls els) (k' (.sl els 0)) False
    rw [h1]; exact hk _ h2
  | agg cs => exact lists cs h fun l hl => hk _ hl
  | tup cs => exact lists cs h fun l hl => hk _ hl
  | ifc t u => exact ih u h fun y hy => hk _ hy
  | fn f a b => exact lists a h fun l hl => lists b hl fun m hm => hk _ hm
  | _ => exact h.elim
theorem wpBack_mono {h : Heap} {r : AV} {k k' : AV → Prop} (H : wpBack h r k) (hk : ∀ y, k y → k' y) : wpBack h r k' := by
 cases r with
 | rsl id off len m =>
  replace H : (match strip 8 h (.rsl id off len m) with | some y => k y | none => False) := H
  show (match strip 8 h (.rsl id off len m) with | some y => k' y | none => False)
  split at H
  ·exact hk _ H
  ·exact H.elim
 | sl els tok => exact wpStrip_mono 8 (.sl els tok) H hk
 | sc v => exact wpStrip_mono 8 (.sc v) H hk
 | agg v => exact wpStrip_mono 8 (.agg v) H hk
 | tup v => exact wpStrip_mono 8 (.tup v) H hk
 | fn f a b => exact wpStrip_mono 8 (.fn f a b) H hk
 | ifc t v => exact wpStrip_mono 8 (.ifc t v) H hk
 | cp v => exact wpStrip_mono 8 (.cp v) H hk
 | gp g o => exact wpStrip_mono 8 (.gp g o) H hk
 | ptr g o => exact wpStrip_mono 8 (.ptr g o) H hk
 | mp g => exact wpStrip_mono 8 (.mp g) H hk
theorem EvP.fresh {g : FuncId} {args args' : List AV} {h : Heap} {K : AV → Heap → Prop} (hf : C.fresh g = true) (hp : C.prim g = none) (ha : mapO (stripA 8) args = some args')
  (H : EvC C P g args' heapF fun r h' => wpBack h' r fun y => K y h) : EvP C P g args h K := by
 obtain ⟨m, r, h', h1, h2⟩ := H
 obtain ⟨y, h3, h4⟩ := wpBack_ok h2
 refine ⟨m, y, h, ?_, h4⟩
 unfold callP
 rw [hp]; simp only []; rw [hf]; simp only [cond_true]; rw [ha]; simp only []; rw [h1]; simp only []; rw [h3]
theorem EvP.freshV (O : TabOk P C T) {n g : Nat} {args args' : List AV} {h : Heap} {v : AV} (hf : C.fresh g = true) (hp : C.prim g = none) (ha : mapO (stripA 8) args = some args')
  (H : wpCall T C P n g args' heapF fun r h' => wpBack h' r fun y => y = v) : EvP C P g args h fun y h' => y = v ∧ h' = h := by
 refine EvP.fresh hf hp ha ?_
 obtain ⟨m, r, h', h1, h2⟩ := call_okW O n g args' heapF _ H
 obtain ⟨y, h3, h4⟩ := wpBack_ok h2
 subst h4
 refine ⟨m, r, h', h1, ?_⟩
 have key : ∀ {k : AV → Prop}, wpBack h' r (fun y' => y' = y) → k y → wpBack h' r k := by
  intro k hb hk
  exact wpBack_mono hb fun z hz => hz ▸ hk
 exact key h2 ⟨rfl, rfl⟩
end
end
end Go.Ef
namespace Go.Ef
open Go
noncomputable section
section
variable {P : Program} {C : Cfg} {T : Tab}
theorem EvP.freshK (O : TabOk P C T) {n g : Nat} {args args' : List AV} {h : Heap} {Q : AV → Prop} (hf : C.fresh g = true) (hp : C.prim g = none) (ha : mapO (stripA 8) args = some args')
  (H : wpCall T C P n g args' heapF fun r h' => wpBack h' r Q) : EvP C P g args h fun y h' => Q y ∧ h' = h := by
 refine EvP.fresh hf hp ha ?_
 obtain ⟨m, r, h', h1, h2⟩ := call_okW O n g args' heapF _ H
 exact ⟨m, r, h', h1, wpBack_mono h2 fun y hy => ⟨hy, rfl⟩⟩
end
end
end Go.Ef
namespace Go.Ef
open Go
noncomputable section
section
variable {P : Program} {C : Cfg} {T : Tab}
theorem Ev.round (O : TabOk P C T) {n f i : Nat} {t : Tidy} {σ : St} {N : St → Prop} {X : Ex → St → Prop} {K : KR} (hi : firstId 8 (loopAt P f i) = i) (ht : C.tidy f i = some t) (hcan : σ.tidy t.head t.nloc = σ)
  (hs : wpRound T C P n f i σ N X) (hN : ∀ τ, N τ → Ev C P f (.loop (loopAt P f i)) τ K) (hX : ∀ e τ, X e τ → K e τ) : Ev C P f (.loop (loopAt P f i)) σ K := by
 unfold wpRound at hs
 rw [ht] at hs
 refine Ev.loopT (t := t) (by rw [hi]; exact ht) ?_
 rw [hcan]
 refine (code_okW O n f _ _ _ hs).mono fun e τ h => ?_
 cases e with
 | normal => exact Ev.tidied (t := t) (τ := τ.tidy t.head t.nloc) (by rw [hi]; exact ht) (tidy_tidy _ _ _).symm (hN _ h)
 | exit j => exact hX _ _ h
 | ret => exact hX _ _ h
end
end
end Go.Ef
namespace Go.Proofs.Rc
open Go Go.Ef
noncomputable section
abbrev cf (m : Int) : Cfg := Rec.cfg m
def nilA : AV := .sc (.slice none 0 0)
def sNil : Slot := .v nilA
def sSl (els : List (List AV)) (tok : Nat) : Slot := .v (.sl els tok)
def hO (e n : Nat) : Heap := (heapF.new (.own 1 e n)).2
def ownN (h : Heap) : Nat :=
 match h.get 1 with
 | some (.own _ _ n) => n
 | _ => 0
def stepP (c : UInt8) (a : List (List UInt8) × List UInt8) (b : UInt8) : List (List UInt8) × List UInt8 := if b = c then (a.1 ++ [a.2], []) else (a.1, a.2 ++ [b])
def scanP (c : UInt8) (l : List UInt8) : List (List UInt8) × List UInt8 := l.foldl (stepP c) ([], [])
def I19 (a b : List (List AV)) (i : Int) : St := stOf 26 [(0, sSl a 0), (1, sSl b 0), (5, sInt i)] [] heapF
def E19 : St := stOf 26 [(4, .unk)] [] heapF
def qE19 (X : Prop) (e : Ex) (τ : St) : Prop :=
 match e with
 | .exit _ => e = .exit 0 ∧ τ = E19 ∧ X
 | _ => False
def C42 (args : List AV) (h : Heap) : Option CSpec :=
 match args with
 | [.sc (.string s), .sc (.string t)] => match t.data.toList with
  | [c] => some { pre := s.data.toList.length ≤ 4294967280, alts := [{ α := List (List UInt8), post := fun p => p = partsOf c s.data.toList, val := fun p => .sl (p.map strEl) (h.next + 1), heap := fun p => (h.new (.own 1 9 p.length)).2 }] }
  | _ => none
 | _ => none
end
end Go.Proofs.Rc
namespace Go.Proofs.Rc
open Go Go.Ef
noncomputable section
set_option maxRecDepth 100000
theorem v19 (m : Int) (a : List (List AV)) (b : List (List AV)) (i : Int) (N : Int → Prop) (X : Prop) (h :
 iteP (decide (i < (↑a.length : Int)))
 (iteP (inRange i a.length)
 (getI i.toNat a = some [AV.sc (Value.string (ByteArray.mk (Array.mk (cellStr a i (0 : Nat)))))] ∧
 iteP (inRange i b.length)
 (getI i.toNat b = some [AV.sc (Value.string (ByteArray.mk (Array.mk (cellStr b i (0 : Nat)))))] ∧
 iteP (decide (cellStr a i (0 : Nat) ≠ cellStr b i (0 : Nat))) False
 (I19 a b (IntKind.i64.wrap (i + (1 : Int))) = I19 a b (IntKind.i64.wrap (i + (1 : Int))) ∧
 N (IntKind.i64.wrap (i + (1 : Int)))))
 False)
 False)
 (Ex.exit (0 : Nat) = Ex.exit (0 : Nat) ∧ E19 = E19 ∧ X)) :
 (fun (m : Int) (a b : List (List AV)) (i : Int) (N : Int → Prop) (X : Prop) => wpRound tab0 (cf m) Tryz.prog 40 19 5 (I19 a b i) (fun τ => τ = I19 a b (slI τ 5) ∧ N (slI τ 5)) (fun e τ => qE19 X e τ)) m a b i N X :=
 Eq.mp (by kernel_rfl) h
end
end Go.Proofs.Rc
namespace Go.Proofs.Rc
open Go Go.Ef
noncomputable section
set_option maxRecDepth 100000
theorem cells_len (l : List (List UInt8)) : (l.map strEl).length = l.length := List.length_map ..
theorem cells_snoc (l : List (List UInt8)) (x : List UInt8) : l.map strEl ++ [[AV.sc (Value.string (ByteArray.mk (Array.mk x)))]] = (l ++ [x]).map strEl := by rw [List.map_append]; rfl
theorem cells_all (l : List (List UInt8)) : allLen 1 (l.map strEl) = true := by
 unfold allLen
 rw [List.all_map]
 exact List.all_eq_true.2 fun _ _ => rfl
theorem fits_str {n : Nat} (h : n ≤ 4294967281) : fits n 16 = true := by
 have hm : maxRoom = 140737488355328 := by decide
 unfold fits
 rw [Nat.ble_eq_true_of_le (show n * 16 ≤ maxRoom by omega), Nat.ble_eq_true_of_le (show n ≤ maxRoom by omega)]; rfl
theorem byteAt_nat {s : List UInt8} {i : Nat} (h : i < s.length) : byteAt s (i : Int) = (s[i].toNat : Int) := by
 unfold byteAt
 rw [Int.toNat_natCast, List.getElem?_eq_getElem h]; rfl
theorem beq_byte (a b : UInt8) : ((a.toNat : Int) == (b.toNat : Int)) = decide (a = b) := by
 by_cases h : a = b
 ·subst h; simp
 ·have : ¬ ((a.toNat : Int) = b.toNat) := fun e => h (UInt8.toNat_inj.1 (by omega))
  simp [h, this]
end
end Go.Proofs.Rc
namespace Go.Proofs.Rc
open Go Go.Ef
noncomputable section
inductive Lst : AV → List (List UInt8) → Prop where
 | sl (p : List (List UInt8)) : Lst (.sl (p.map strEl) 0) p
 | nil : Lst nilA []
structure SameLists (x y : AV) : Prop where
 both : ∃ p, Lst x p ∧ Lst y p ∧ p.length ≤ 4294967281
def u8 (n : Int) : UInt8 := UInt8.ofNat n.toNat
structure IsByte (n : Int) : Prop where
 is : ∃ c : UInt8, n = c.toNat
structure ScanNil (s : List UInt8) (c : UInt8) (k : Nat) : Prop where
 le : k ≤ s.length
 fst : (scanP c s).1 = []
 snd : (scanP c s).2 = s.drop k
structure ScanOwn (s : List UInt8) (c : UInt8) (l : List (List UInt8)) (k : Nat) : Prop where
 le : k ≤ s.length
 fst : (scanP c s).1 = l
 ne : l ≠ []
 snd : (scanP c s).2 = s.drop k
structure Same (a b : List (List AV)) : Prop where
 eq : ∃ p : List (List UInt8), a = p.map strEl ∧ b = p.map strEl ∧ p.length ≤ 4294967281
def L19 (σ : St) : Option LSpec := some { pre := σ.tidy [0, 1, 5] 0 = I19 (slEls σ 0) (slEls σ 1) 0 ∧ Same (slEls σ 0) (slEls σ 1), alts := [{ α := Unit, post := fun _ => True, ex := .exit 0, st := fun _ => E19 }] }
def T19 : Tab := tab0.addL 19 5 L19
def recF (c : UInt8) (s : List UInt8) : List (List UInt8) × Bool := if (partsOf c s).getLast? = some [] then ((partsOf c s).dropLast, true) else (partsOf c s, false)
structure IsParts (p : List (List UInt8)) (c : UInt8) (s : List UInt8) : Prop where
 eq : p = partsOf c s
 ne : s ≠ []
structure NoParts (s : List UInt8) : Prop where
 eq : s = []
structure IsRec (q : List (List UInt8) × Bool) (c : UInt8) (s : List UInt8) : Prop where
 eq : q = recF c s
def C17 (args : List AV) (h : Heap) : Option CSpec :=
 match args with
 | [.sc (.string s), .sc (.string t)] => match t.data.toList with
  | c :: _ => some { pre := s.data.toList.length ≤ 4294967280, alts := [{ α := List (List UInt8) × Bool, post := fun q => IsRec q c s.data.toList, val := fun q => .tup [.sl (q.1.map strEl) 0, aBool q.2], heap := fun _ => h }] }
  | [] => none
 | _ => none
def C19 (args : List AV) (h : Heap) : Option CSpec :=
 match args with
 | [x, y] => some (fspec (SameLists x y) (aBool true) h)
 | _ => none
def C20 (args : List AV) (h : Heap) : Option CSpec :=
 match args with
 | [] => some (fspec True (aBool true) h)
 | _ => none
end
end Go.Proofs.Rc
namespace Go.Proofs.Rc
open Go Go.Ef
noncomputable section
set_option maxRecDepth 100000
theorem c17 (m : Int) (s : List UInt8) (t : List UInt8) (c : UInt8) (K : AV → Prop) (h :
 iteP (true && decide ((1 : Int) ≤ (↑(c :: t).length : Int)))
 (s.length.le (4294967280 : Nat) ∧
 ∀ (x : List (List UInt8)),
 x = partsOf c s →
 iteP (inRange (IntKind.i64.wrap ((↑(List.map strEl x).length : Int) - (1 : Int))) (List.map strEl x).length)
 (getI (IntKind.i64.wrap ((↑(List.map strEl x).length : Int) - (1 : Int))).toNat (List.map strEl x) =
 some
 [AV.sc
 (Value.string
 (ByteArray.mk
 (Array.mk
 (cellStr (List.map strEl x)
 (IntKind.i64.wrap ((↑(List.map strEl x).length : Int) - (1 : Int))) (0 : Nat)))))] ∧
 iteP
 (decide
 (cellStr (List.map strEl x) (IntKind.i64.wrap ((↑(List.map strEl x).length : Int) - (1 : Int)))
 (0 : Nat) =
 []))
 (iteP (headLen (1 : Nat) (List.map strEl x))
 (iteP
 (true &&
 (decide ((0 : Int) ≤ IntKind.i64.wrap ((↑(List.map strEl x).length : Int) - (1 : Int))) &&
 (decide
 (IntKind.i64.wrap ((↑(List.map strEl x).length : Int) - (1 : Int)) ≤
 IntKind.i64.wrap ((↑(List.map strEl x).length : Int) - (1 : Int))) &&
 decide
 (IntKind.i64.wrap ((↑(List.map strEl x).length : Int) - (1 : Int)) ≤
 (↑(List.map strEl x).length : Int)))))
 (iteP
 (plainEls
 (cutL (List.map strEl x) (0 : Int)
 (IntKind.i64.wrap ((↑(List.map strEl x).length : Int) - (1 : Int)))))
 (K
 (AV.tup
 [AV.sl
 (cutL (List.map strEl x) (0 : Int)
 (IntKind.i64.wrap ((↑(List.map strEl x).length : Int) - (1 : Int))))
 (0 : Nat),
 AV.sc (Value.bool true)]))
 False)
 False)
 False)
 (iteP (plainEls (List.map strEl x))
 (K (AV.tup [AV.sl (List.map strEl x) (0 : Nat), AV.sc (Value.bool false)])) False))
 False)
 False) :
 (fun (m : Int) (s t : List UInt8) (c : UInt8) (K : AV → Prop) => wpCall (tab0.addC 42 C42) (cf m) Tryz.prog 40 17 [aStr s, aStr (c :: t)] heapF fun r h' => wpBack h' r K) m s t c K :=
 Eq.mp (by kernel_rfl) h
theorem c19 (m : Int) (a : List (List AV)) (b : List (List AV)) (K : AV → Prop) (h :
 iteP ((↑a.length : Int) != (↑b.length : Int)) (K (AV.sc (Value.bool false)))
 (loopAt Tryz.prog (19 : Nat) (5 : Nat) = loopAt Tryz.prog (19 : Nat) (5 : Nat) ∧
 (I19 a b (0 : Int) = I19 a b (0 : Int) ∧ Same a b) ∧ ∀ (_ : Unit), True → K (AV.sc (Value.bool true)))) :
 (fun (m : Int) (a b : List (List AV)) (K : AV → Prop) => wpCall T19 (cf m) Tryz.prog 40 19 [.sl a 0, .sl b 0] heapF fun r h' => wpBack h' r K) m a b K :=
 Eq.mp (by kernel_rfl) h
end
end Go.Proofs.Rc
namespace Go.Proofs.Rc
open Go Go.Ef
noncomputable section
set_option maxRecDepth 100000
theorem cell_get (l : List (List UInt8)) (i : Nat) : getI i (l.map strEl) = (l[i]?).map strEl := by rw [getI_eq, List.getElem?_map]
theorem cell_str {l : List (List UInt8)} {i : Nat} {x : List UInt8} (h : l[i]? = some x) : cellStr (l.map strEl) (i : Int) 0 = x := by
 unfold cellStr cellAt
 rw [Int.toNat_natCast, cell_get, h]; rfl
theorem cell_some {l : List (List UInt8)} {i : Nat} {x : List UInt8} (h : l[i]? = some x) : getI (i : Int).toNat (l.map strEl) = some [AV.sc (Value.string (ByteArray.mk (Array.mk (cellStr (l.map strEl) (i : Int) 0))))] := by
 rw [cell_str h, Int.toNat_natCast, cell_get, h]; rfl
theorem cells_plain (l : List (List UInt8)) : plainEls (l.map strEl) = true := by
 unfold plainEls
 rw [List.all_map]
 exact List.all_eq_true.2 fun _ _ => rfl
theorem cells_head (l : List (List UInt8)) : headLen 1 (l.map strEl) = true := by cases l <;> rfl
theorem cells_cut (l : List (List UInt8)) (a b : Nat) : cutL (l.map strEl) (a : Int) (b : Int) = ((l.take b).drop a).map strEl := by
 unfold cutL
 rw [Int.toNat_natCast, Int.toNat_natCast, List.map_drop, List.map_take]
theorem parts_ne (c : UInt8) (s : List UInt8) : partsOf c s ≠ [] := by
 intro h
 have := partsOf_length c s
 rw [h] at this; cases this
theorem parts_len (c : UInt8) (s : List UInt8) : (partsOf c s).length ≤ s.length + 1 := by
 rw [partsOf_length]
 have : s.count c ≤ s.length := List.count_le_length
 omega
variable {m : Int} {T : Tab}
abbrev Ok (m : Int) (T : Tab) : Prop := TabOk Tryz.prog (cf m) T
theorem ok42 (O : Ok m T) : Ok m (T.addC 42 C42) := by
 refine addC_ok O fun args h s hs hp => ?_
 unfold C42 at hs
 split at hs
 ·rename_i s0 t0
  split at hs
  ·rename_i c ht
   cases hs
   refine ⟨_, List.mem_singleton.2 rfl, partsOf c s0.data.toList, 0, rfl, ?_⟩
   show splitP 9 [.sc (.string s0), .sc (.string t0)] h = _
   unfold splitP
   simp only [ht]
   rw [Nat.ble_eq_true_of_le hp]; rfl
  ·cases hs
 ·cases hs
theorem last_spec {p : List (List UInt8)} (h : p ≠ []) : ∃ x, p[p.length - 1]? = some x ∧ p.getLast? = some x ∧ 1 ≤ p.length := by
 have hl : 1 ≤ p.length := List.length_pos_iff.2 h
 refine ⟨p[p.length - 1]'(by omega), List.getElem?_eq_getElem _, ?_, hl⟩
 rw [List.getLast?_eq_getElem?]
 exact List.getElem?_eq_getElem _
theorem ok17 (O : Ok m T) : Ok m (T.addC 17 C17) := by
 refine addC_ok O fun args h s hs hp => ?_
 unfold C17 at hs
 split at hs
 ·rename_i s0 t0
  split at hs
  ·rename_i c r ht
   cases hs
   obtain ⟨⟨s0⟩⟩ := s0
   obtain ⟨⟨t0⟩⟩ := t0
   have ht : t0 = c :: r := ht
   subst ht
   have key : EvP (cf m) Tryz.prog 17 [aStr s0, aStr (c :: r)] h fun y h' => y = .tup [.sl ((recF c s0).1.map strEl) 0, aBool (recF c s0).2] ∧ h' = h := by
    refine EvP.freshK (ok42 tab0_ok) (n := 40) (by kernel_rfl) (by kernel_rfl) (args' := [aStr s0, aStr (c :: r)]) rfl (c17 m s0 r c _ ?_)
    rw [decide_eq_true (by simp; omega), Bool.and_self, iteP_t]
    refine ⟨hp, fun p hq => ?_⟩
    subst hq
    obtain ⟨x, hx, hlast, hl⟩ := last_spec (parts_ne c s0)
    have hb := parts_len c s0
    have hp' : s0.length ≤ 4294967280 := hp
    have hw : IntKind.i64.wrap (((partsOf c s0).length : Int) - 1) = (((partsOf c s0).length - 1 : Nat) : Int) := by rw [wrap_in (by omega) (by omega)]; omega
    rw [cells_len, hw, show inRange (((partsOf c s0).length - 1 : Nat) : Int) (partsOf c s0).length = true by rw [inRange_iff]; omega, iteP_t]
    refine ⟨cell_some hx, ?_⟩
    rw [cell_str hx]
    by_cases h0 : x = []
    ·rw [decide_eq_true h0, iteP_t, cells_head, iteP_t, decide_eq_true (by omega), decide_eq_true (by omega), decide_eq_true (by omega), Bool.and_self, Bool.and_self, Bool.and_self, iteP_t,
      show cutL ((partsOf c s0).map strEl) 0 (((partsOf c s0).length - 1 : Nat) : Int) = (partsOf c s0).dropLast.map strEl by rw [show (0 : Int) = ((0 : Nat) : Int) from rfl, cells_cut, List.drop_zero, List.dropLast_eq_take],
      cells_plain, iteP_t]
     unfold recF
     rw [hlast, h0, if_pos rfl]; rfl
    ·rw [decide_eq_false h0, iteP_f, cells_plain, iteP_t]
     unfold recF
     rw [hlast, if_neg (by simpa using h0)]; rfl
   obtain ⟨n, y, h', h2, rfl, rfl⟩ := key
   exact ⟨_, List.mem_singleton.2 rfl, recF c s0, n, ⟨rfl⟩, h2⟩
  ·cases hs
 ·cases hs
theorem loop19 (p : List (List UInt8)) (hp : p.length ≤ 4294967281) : ∀ (f i : Nat), p.length - i = f → i ≤ p.length →
  Ev (cf m) Tryz.prog 19 (.loop (loopAt Tryz.prog 19 5)) (I19 (p.map strEl) (p.map strEl) i) fun e τ => e = .exit 0 ∧ τ = E19 := by
 have can : ∀ i : Nat, (I19 (p.map strEl) (p.map strEl) i).tidy [0, 1, 5] 0 = I19 (p.map strEl) (p.map strEl) i := fun i => by kernel_rfl
 intro f
 induction f with
 | zero =>
  intro i hf hi
  refine Ev.round (t := ⟨[0, 1, 5], [4], 0⟩) tab0_ok (by kernel_rfl) rfl (can i) (v19 m _ _ i (fun _ => False) True ?_) (fun τ h => h.2.elim) (fun e τ h => ?_)
  ·rw [cells_len, decide_eq_false (by omega), iteP_f]
   exact ⟨rfl, rfl, trivial⟩
  ·unfold qE19 at h
   split at h
   ·exact ⟨h.1, h.2.1⟩
   ·exact h.elim
 | succ f ih =>
  intro i hf hi
  have hw : IntKind.i64.wrap ((i : Int) + 1) = ((i + 1 : Nat) : Int) := by rw [wrap_in (by omega) (by omega)]; rfl
  refine Ev.round (t := ⟨[0, 1, 5], [4], 0⟩) tab0_ok (by kernel_rfl) rfl (can i) (v19 m _ _ i (fun j => j = ((i + 1 : Nat) : Int)) False ?_) (fun τ h => ?_) (fun e τ h => ?_)
  ·have hx : p[i]? = some (p[i]'(by omega)) := List.getElem?_eq_getElem _
   rw [cells_len, decide_eq_true (by omega), iteP_t, show inRange (i : Int) p.length = true by rw [inRange_iff]; omega, iteP_t, hw]
   refine ⟨cell_some hx, ?_⟩
   rw [iteP_t]
   refine ⟨cell_some hx, ?_⟩
   rw [decide_eq_false (by simp), iteP_f]
   exact ⟨rfl, rfl⟩
  ·obtain ⟨h1, h2⟩ := h
   rw [h2] at h1
   rw [h1]
   exact ih (i + 1) (by omega) (by omega)
  ·unfold qE19 at h
   split at h
   ·exact h.2.2.elim
   ·exact h.elim
theorem ok19L : Ok m T19 := by
 refine addL_ok tab0_ok fun σ s hs hp => ?_
 cases hs
 obtain ⟨e, p, h1, h2, h3⟩ := hp
 have he : Ev (cf m) Tryz.prog 19 (.loop (loopAt Tryz.prog 19 5)) σ fun e τ => e = .exit 0 ∧ τ = E19 := by
  refine Ev.tidied (t := ⟨[0, 1, 5], [4], 0⟩) (τ := I19 (p.map strEl) (p.map strEl) (0 : Nat)) (by kernel_rfl) (by rw [e, h1, h2]; kernel_rfl) ?_
  exact loop19 p h3 _ 0 rfl (Nat.zero_le _)
 obtain ⟨n, ex, τ, h4, rfl, rfl⟩ := he
 exact ⟨_, List.mem_singleton.2 rfl, (), trivial, n, h4⟩
theorem ok19 (O : Ok m T) : Ok m (T.addC 19 C19) := by
 refine addC_ok O fun args h s hs hp => ?_
 unfold C19 at hs
 split at hs
 ·rename_i x y
  cases hs
  obtain ⟨p, hx, hy, hl⟩ := hp
  have fin : (∃ n, callP (cf m) (evCall (cf m) Tryz.prog n) 19 [x, y] h = some (aBool true, h)) → ∃ a ∈ (fspec (SameLists x y) (aBool true) h).alts, ∃ x_1 n, a.post x_1 ∧ callP (cf m) (evCall (cf m) Tryz.prog n) 19 [x, y] h = some (a.val x_1, a.heap x_1) :=
   fun ⟨n, hn⟩ => ⟨_, List.mem_singleton.2 rfl, (), n, trivial, hn⟩
  apply fin
  cases hx with
  | nil =>
   cases hy with
   | nil => exact ⟨100, by kernel_rfl⟩
   | sl _ => exact ⟨100, by kernel_rfl⟩
  | sl _ =>
   cases hy with
   | nil => exact ⟨100, by kernel_rfl⟩
   | sl _ =>
    have key : EvP (cf m) Tryz.prog 19 [.sl (p.map strEl) 0, .sl (p.map strEl) 0] h fun y h' => y = aBool true ∧ h' = h := by
     refine EvP.freshV ok19L (n := 40) (by kernel_rfl) (by kernel_rfl) (args' := [.sl (p.map strEl) 0, .sl (p.map strEl) 0]) rfl (c19 m _ _ _ ?_)
     rw [show (((p.map strEl).length : Int) != ((p.map strEl).length : Int)) = false by simp, iteP_f]
     exact ⟨rfl, ⟨rfl, p, rfl, rfl, hl⟩, fun _ _ => rfl⟩
    obtain ⟨n, v, h', h1, rfl, rfl⟩ := key
    exact ⟨n, h1⟩
 ·cases hs
theorem ok20 (O : Ok m T) : Ok m (T.addC 20 C20) := by
 refine addC_ok O fun args h s hs _ => ?_
 unfold C20 at hs
 split at hs
 ·cases hs
  obtain ⟨h', he⟩ := Rec.yes_spec (Rec.awake_ev m)
  refine ⟨_, List.mem_singleton.2 rfl, (), 1000, trivial, ?_⟩
  show callP (cf m) (evCall (cf m) Tryz.prog 1000) 20 [] h = some (aBool true, h)
  have hf : (cf m).fresh 20 = true := by kernel_rfl
  unfold callP
  rw [show (cf m).prim 20 = none from rfl]
  simp only []
  rw [hf]
  simp only [cond_true]
  show (match evCall (cf m) Tryz.prog 1000 20 [] heapF with | some (r, h') => _ | none => _) = _
  rw [he]; rfl
 ·cases hs
end
end Go.Proofs.Rc
namespace Go.Proofs.Rc
open Go Go.Ef
noncomputable section
structure NoByte (els : List (List AV)) (i c : Int) : Prop where
 is : ∃ (j : Nat) (x : List UInt8) (d : UInt8), i = j ∧ c = d.toNat ∧ els[j]? = some (strEl x) ∧ d ∉ x ∧ x.length ≤ 4294967280
def joinE (c : UInt8) (p : List (List UInt8)) : List UInt8 := (p.map (· ++ [c])).flatten
structure Free (els : List (List AV)) (c : Int) (p : List (List UInt8)) : Prop where
 is : ∃ d : UInt8, c = d.toNat ∧ els = p.map strEl ∧ (∀ x ∈ p, d ∉ x) ∧ (joinE d p).length ≤ 4294967280
structure Joined (t : List UInt8) (els : List (List AV)) (c : Int) : Prop where
 is : ∀ p d, els = p.map strEl → c = ((d : UInt8).toNat : Int) → t = joinE d p
structure HasFree (els : List (List AV)) (c : Int) : Prop where
 is : ∃ p, Free els c p
end
end Go.Proofs.Rc
namespace Go.Proofs.Rc
open Go Go.Ef
noncomputable section
set_option maxRecDepth 100000
variable {m : Int} {T : Tab}
theorem joinE_nil (c : UInt8) : joinE c [] = [] := rfl
theorem joinE_cons (c : UInt8) (x : List UInt8) (p : List (List UInt8)) : joinE c (x :: p) = x ++ [c] ++ joinE c p := by unfold joinE; simp
theorem joinE_app (c : UInt8) (p q : List (List UInt8)) : joinE c (p ++ q) = joinE c p ++ joinE c q := by unfold joinE; simp
theorem joinE_parts (c : UInt8) (s : List UInt8) : joinE c (partsOf c s) = s ++ [c] := by
 induction s with
 | nil => rfl
 | cons b s ih =>
  rw [partsOf_cons]
  by_cases h : b = c
  ·subst h; rw [if_pos rfl, joinE_cons, ih]; rfl
  ·rw [if_neg h]
   cases hq : partsOf c s with
   | nil => exact absurd hq (parts_ne c s)
   | cons p r =>
    rw [hq, joinE_cons] at ih
    show joinE c ((b :: p) :: r) = _
    rw [joinE_cons]
    simp only [List.cons_append]
    rw [← ih]
theorem parts_free (c : UInt8) (s : List UInt8) : ∀ x ∈ partsOf c s, c ∉ x := by
 induction s with
 | nil => intro x hx; simp [partsOf] at hx; subst hx; simp
 | cons b s ih =>
  rw [partsOf_cons]
  by_cases h : b = c
  ·subst h
   rw [if_pos rfl]
   intro x hx
   rcases List.mem_cons.1 hx with rfl | hx
   ·simp
   ·exact ih x hx
  ·rw [if_neg h]
   cases hq : partsOf c s with
   | nil => exact absurd hq (parts_ne c s)
   | cons p r =>
    rw [hq] at ih
    intro x hx
    rcases List.mem_cons.1 hx with rfl | hx
    ·intro hc
     rcases List.mem_cons.1 hc with e | hc
     ·exact h e.symm
     ·exact ih p (by simp) hc
    ·exact ih x (by simp [hx])
theorem joinE_take_le (c : UInt8) (p : List (List UInt8)) (i : Nat) : (joinE c (p.take i)).length ≤ (joinE c p).length := by
 have := congrArg List.length (joinE_app c (p.take i) (p.drop i))
 rw [List.take_append_drop, List.length_append] at this
 omega
theorem joinE_count (c : UInt8) (p : List (List UInt8)) : p.length ≤ (joinE c p).length := by
 induction p with
 | nil => simp
 | cons x p ih => rw [joinE_cons]; simp; omega
theorem fits_any {a b : List UInt8} (h : a.length + b.length ≤ 9223372036854775807) : strFits a b = true := by
 rw [strFits_iff]; omega
theorem rec_join (c : UInt8) (s : List UInt8) : joinE c (recF c s).1 = if (recF c s).2 = true then s else s ++ [c] := by
 unfold recF
 split
 ·rename_i h
  have hp := joinE_parts c s
  have hd : partsOf c s = (partsOf c s).dropLast ++ [[]] := by
   obtain ⟨x, h1, h2, h3⟩ := last_spec (parts_ne c s)
   rw [h] at h2
   cases h2
   have := List.take_append_drop ((partsOf c s).length - 1) (partsOf c s)
   rw [← List.dropLast_eq_take, List.drop_eq_getElem_cons (by omega)] at this
   rw [List.getElem?_eq_getElem (by omega)] at h1
   rw [Option.some.inj h1, List.drop_eq_nil_of_le (by omega)] at this
   exact this.symm
  rw [hd, joinE_app] at hp
  show joinE c (partsOf c s).dropLast = s
  have e : joinE c [[]] = [c] := rfl
  rw [e] at hp
  exact List.append_cancel_right hp
 ·exact joinE_parts c s
theorem cells_inj {p q : List (List UInt8)} (h : p.map strEl = q.map strEl) : p = q := by
 refine List.map_inj_right (f := strEl) (fun x y e => ?_) |>.1 h
 unfold strEl at e
 simpa using e
end
end Go.Proofs.Rc
namespace Go.Proofs.Rc
open Go Go.Ef
noncomputable section
def joinN (p : List (List UInt8)) : List UInt8 := Lib.join p [10]
def flushG (a : List (List UInt8) × List (List UInt8)) : List (List UInt8) := if a.2 = [] then a.1 else a.1 ++ [joinN a.2]
def stepG (a : List (List UInt8) × List (List UInt8)) (x : List UInt8) : List (List UInt8) × List (List UInt8) := if x = [] then (flushG a, []) else (a.1, a.2 ++ [x])
def groupF (p : List (List UInt8)) : List (List UInt8) := flushG (p.foldl stepG ([], []))
def endsTwo (s : List UInt8) : Bool := decide (2 ≤ s.length ∧ s.drop (s.length - 2) = [10, 10])
def paraF (s : List UInt8) : List (List UInt8) × Bool := (groupF (recF 10 s).1, (groupF (recF 10 s).1).isEmpty || endsTwo s)
def stepR (n : Nat) (a : List (List UInt8) × List UInt8) (x : List UInt8 × Nat) : List (List UInt8) × List UInt8 :=
 if x.1 = [] then (if a.2 ≠ [] ∧ x.2 + 1 < n then (a.1 ++ [a.2], []) else a) else if a.2 ≠ [] then (a.1, a.2 ++ [10] ++ x.1) else (a.1, x.1)
def scanR (p : List (List UInt8)) (i : Nat) : List (List UInt8) × List UInt8 := ((p.zipIdx).take i).foldl (stepR p.length) ([], [])
def paraR (s : List UInt8) : List (List UInt8) × Bool := if (scanR (partsOf 10 s) (partsOf 10 s).length).2 = [] then ((scanR (partsOf 10 s) (partsOf 10 s).length).1, true) else ((scanR (partsOf 10 s) (partsOf 10 s).length).1 ++ [(scanR (partsOf 10 s) (partsOf 10 s).length).2], false)
def I41n (s : List UInt8) (els : List (List AV)) (k i : Int) : St := stOf 55 [(0, sStr s), (4, sSl els 0), (6, sNil), (7, sInt k), (8, sInt i)] [] heapF
def I41o (s : List UInt8) (els out : List (List AV)) (n : Nat) (k i : Int) : St := stOf 55 [(0, sStr s), (4, sSl els 0), (6, sSl out 2), (7, sInt k), (8, sInt i)] [] (hO 9 n)
def E41n (s : List UInt8) : St := stOf 55 [(0, sStr s), (6, sNil)] [] heapF
def E41o (s : List UInt8) (out : List (List AV)) (n : Nat) : St := stOf 55 [(0, sStr s), (6, sSl out 2)] [] (hO 9 n)
def q41 (s : List UInt8) (els : List (List AV)) (N : Int → Int → Prop) (O : List (List AV) → Nat → Int → Int → Prop) (τ : St) : Prop :=
 match τ.at 6 with
 | .v (.sl out _) => τ = I41o s els out (ownN τ.h) (slI τ 7) (slI τ 8) ∧ O out (ownN τ.h) (slI τ 7) (slI τ 8)
 | _ => τ = I41n s els (slI τ 7) (slI τ 8) ∧ N (slI τ 7) (slI τ 8)
structure JoinOk (els : List (List AV)) : Prop where
 is : ∃ p : List (List UInt8), els = p.map strEl ∧ p.length ≤ 4294967281 ∧ (joinN p).length ≤ 8589934592
structure IsJoin (x : List UInt8) (els : List (List AV)) : Prop where
 is : ∀ p : List (List UInt8), els = p.map strEl → x = joinN p
def C73 (args : List AV) (h : Heap) : Option CSpec :=
 match args with
 | [.sl els _, .sc (.string t)] => match t.data.toList with
  | [10] => some { pre := JoinOk els, alts := [{ α := List UInt8, post := fun x => IsJoin x els, val := fun x => aStr x, heap := fun _ => h }] }
  | _ => none
 | _ => none
def C72 (args : List AV) (h : Heap) : Option CSpec :=
 match args with
 | [.sc (.string s)] => some { pre := s.data.toList.length ≤ 4294967280, alts := [{ α := Unit, post := fun _ => NoParts s.data.toList, val := fun _ => .tup [nilA, aBool true], heap := fun _ => h }, { α := List (List UInt8) × Bool, post := fun q => IsRec q 10 s.data.toList, val := fun q => .tup [.sl (q.1.map strEl) 0, aBool q.2], heap := fun _ => h }] }
 | _ => none
def T41 : Tab := tab0.addC 73 C73
end
end Go.Proofs.Rc
namespace Go.Proofs.Rc
open Go Go.Ef
noncomputable section
set_option maxRecDepth 100000
theorem c72 (m : Int) (s : List UInt8) (K : AV → Prop) (h :
 iteP (decide (s = [])) (K (AV.tup [AV.sc (Value.slice none (0 : Nat) (0 : Nat)), AV.sc (Value.bool true)]))
 (s.length.le (4294967280 : Nat) ∧
 ∀ (x : List (List UInt8)),
 x = partsOf (10 : UInt8) s →
 iteP (inRange (IntKind.i64.wrap ((↑(List.map strEl x).length : Int) - (1 : Int))) (List.map strEl x).length)
 (getI (IntKind.i64.wrap ((↑(List.map strEl x).length : Int) - (1 : Int))).toNat (List.map strEl x) =
 some
 [AV.sc
 (Value.string
 (ByteArray.mk
 (Array.mk
 (cellStr (List.map strEl x)
 (IntKind.i64.wrap ((↑(List.map strEl x).length : Int) - (1 : Int))) (0 : Nat)))))] ∧
 iteP
 (decide
 (cellStr (List.map strEl x) (IntKind.i64.wrap ((↑(List.map strEl x).length : Int) - (1 : Int)))
 (0 : Nat) =
 []))
 (iteP (headLen (1 : Nat) (List.map strEl x))
 (iteP
 (true &&
 (decide ((0 : Int) ≤ IntKind.i64.wrap ((↑(List.map strEl x).length : Int) - (1 : Int))) &&
 (decide
 (IntKind.i64.wrap ((↑(List.map strEl x).length : Int) - (1 : Int)) ≤
 IntKind.i64.wrap ((↑(List.map strEl x).length : Int) - (1 : Int))) &&
 decide
 (IntKind.i64.wrap ((↑(List.map strEl x).length : Int) - (1 : Int)) ≤
 (↑(List.map strEl x).length : Int)))))
 (iteP
 (plainEls
 (cutL (List.map strEl x) (0 : Int)
 (IntKind.i64.wrap ((↑(List.map strEl x).length : Int) - (1 : Int)))))
 (K
 (AV.tup
 [AV.sl
 (cutL (List.map strEl x) (0 : Int)
 (IntKind.i64.wrap ((↑(List.map strEl x).length : Int) - (1 : Int))))
 (0 : Nat),
 AV.sc (Value.bool true)]))
 False)
 False)
 False)
 (iteP (plainEls (List.map strEl x))
 (K (AV.tup [AV.sl (List.map strEl x) (0 : Nat), AV.sc (Value.bool false)])) False))
 False)) :
 (fun (m : Int) (s : List UInt8) (K : AV → Prop) => wpCall (tab0.addC 42 C42) (cf m) Tryz.prog 40 72 [aStr s] heapF fun r h' => wpBack h' r K) m s K :=
 Eq.mp (by kernel_rfl) h
theorem a41 (m : Int) (s : List UInt8) (els : List (List AV)) (k : Int) (i : Int) (N : Int → Int → Prop) (O : List (List AV) → Nat → Int → Int → Prop) (X : Ex → Prop) (h :
 iteP (decide (i ≤ (↑els.length : Int)))
 (iteP (decide (i < (↑els.length : Int)))
 (iteP (inRange i els.length)
 (getI i.toNat els = some [AV.sc (Value.string (ByteArray.mk (Array.mk (cellStr els i (0 : Nat)))))] ∧
 iteP (decide (cellStr els i (0 : Nat) ≠ []))
 (I41n s els k (IntKind.i64.wrap (i + (1 : Int))) = I41n s els k (IntKind.i64.wrap (i + (1 : Int))) ∧
 N k (IntKind.i64.wrap (i + (1 : Int))))
 (iteP (headLen (1 : Nat) els)
 (iteP
 (decide ((0 : Int) ≤ (some k).getD (0 : Int)) &&
 (decide ((some k).getD (0 : Int) ≤ i) && (decide (i ≤ i) && decide (i ≤ (↑els.length : Int)))))
 (iteP (decide ((0 : Int) < (↑(cutL els ((some k).getD (0 : Int)) i).length : Int)))
 (JoinOk (cutL els ((some k).getD (0 : Int)) i) ∧
 ∀ (x : List UInt8),
 IsJoin x (cutL els ((some k).getD (0 : Int)) i) →
 I41o s els [[AV.sc (Value.string (ByteArray.mk (Array.mk x)))]]
 [[AV.sc (Value.string (ByteArray.mk (Array.mk x)))]].length
 (IntKind.i64.wrap (i + (1 : Int))) (IntKind.i64.wrap (i + (1 : Int))) =
 I41o s els [[AV.sc (Value.string (ByteArray.mk (Array.mk x)))]]
 [[AV.sc (Value.string (ByteArray.mk (Array.mk x)))]].length
 (IntKind.i64.wrap (i + (1 : Int))) (IntKind.i64.wrap (i + (1 : Int))) ∧
 O [[AV.sc (Value.string (ByteArray.mk (Array.mk x)))]]
 [[AV.sc (Value.string (ByteArray.mk (Array.mk x)))]].length (IntKind.i64.wrap (i + (1 : Int)))
 (IntKind.i64.wrap (i + (1 : Int))))
 (I41n s els (IntKind.i64.wrap (i + (1 : Int))) (IntKind.i64.wrap (i + (1 : Int))) =
 I41n s els (IntKind.i64.wrap (i + (1 : Int))) (IntKind.i64.wrap (i + (1 : Int))) ∧
 N (IntKind.i64.wrap (i + (1 : Int))) (IntKind.i64.wrap (i + (1 : Int)))))
 False)
 False))
 False)
 (iteP (headLen (1 : Nat) els)
 (iteP
 (decide ((0 : Int) ≤ (some k).getD (0 : Int)) &&
 (decide ((some k).getD (0 : Int) ≤ i) && (decide (i ≤ i) && decide (i ≤ (↑els.length : Int)))))
 (iteP (decide ((0 : Int) < (↑(cutL els ((some k).getD (0 : Int)) i).length : Int)))
 (JoinOk (cutL els ((some k).getD (0 : Int)) i) ∧
 ∀ (x : List UInt8),
 IsJoin x (cutL els ((some k).getD (0 : Int)) i) →
 I41o s els [[AV.sc (Value.string (ByteArray.mk (Array.mk x)))]]
 [[AV.sc (Value.string (ByteArray.mk (Array.mk x)))]].length (IntKind.i64.wrap (i + (1 : Int)))
 (IntKind.i64.wrap (i + (1 : Int))) =
 I41o s els [[AV.sc (Value.string (ByteArray.mk (Array.mk x)))]]
 [[AV.sc (Value.string (ByteArray.mk (Array.mk x)))]].length (IntKind.i64.wrap (i + (1 : Int)))
 (IntKind.i64.wrap (i + (1 : Int))) ∧
 O [[AV.sc (Value.string (ByteArray.mk (Array.mk x)))]]
 [[AV.sc (Value.string (ByteArray.mk (Array.mk x)))]].length (IntKind.i64.wrap (i + (1 : Int)))
 (IntKind.i64.wrap (i + (1 : Int))))
 (I41n s els (IntKind.i64.wrap (i + (1 : Int))) (IntKind.i64.wrap (i + (1 : Int))) =
 I41n s els (IntKind.i64.wrap (i + (1 : Int))) (IntKind.i64.wrap (i + (1 : Int))) ∧
 N (IntKind.i64.wrap (i + (1 : Int))) (IntKind.i64.wrap (i + (1 : Int)))))
 False)
 False))
 (E41n s = E41n s ∧ X (Ex.exit (0 : Nat)))) :
 (fun (m : Int) (s : List UInt8) (els : List (List AV)) (k i : Int) (N : Int → Int → Prop) (O : List (List AV) → Nat → Int → Int → Prop) (X : Ex → Prop) => wpRound T41 (cf m) Tryz.prog 40 41 6 (I41n s els k i) (fun τ => q41 s els N O τ) (fun e τ => τ = E41n s ∧ X e)) m s els k i N O X :=
 Eq.mp (by kernel_rfl) h
theorem b41 (m : Int) (s : List UInt8) (els : List (List AV)) (out : List (List AV)) (n : Nat) (k : Int) (i : Int) (O : List (List AV) → Nat → Int → Int → Prop) (X : Ex → List (List AV) → Nat → Prop) (h :
 iteP (decide (i ≤ (↑els.length : Int)))
 (iteP (decide (i < (↑els.length : Int)))
 (iteP (inRange i els.length)
 (getI i.toNat els = some [AV.sc (Value.string (ByteArray.mk (Array.mk (cellStr els i (0 : Nat)))))] ∧
 iteP (decide (cellStr els i (0 : Nat) ≠ []))
 (I41o s els out n k (IntKind.i64.wrap (i + (1 : Int))) =
 I41o s els out n k (IntKind.i64.wrap (i + (1 : Int))) ∧
 O out n k (IntKind.i64.wrap (i + (1 : Int))))
 (iteP (headLen (1 : Nat) els)
 (iteP
 (decide ((0 : Int) ≤ (some k).getD (0 : Int)) &&
 (decide ((some k).getD (0 : Int) ≤ i) && (decide (i ≤ i) && decide (i ≤ (↑els.length : Int)))))
 (iteP (decide ((0 : Int) < (↑(cutL els ((some k).getD (0 : Int)) i).length : Int)))
 (JoinOk (cutL els ((some k).getD (0 : Int)) i) ∧
 ∀ (x : List UInt8),
 IsJoin x (cutL els ((some k).getD (0 : Int)) i) →
 iteP
 (allLen (1 : Nat) out &&
 fits (out.length + [[AV.sc (Value.string (ByteArray.mk (Array.mk x)))]].length) (16 : Nat))
 (iteP (decide (out.length = n))
 (I41o s els (out ++ [[AV.sc (Value.string (ByteArray.mk (Array.mk x)))]])
 (n + [[AV.sc (Value.string (ByteArray.mk (Array.mk x)))]].length)
 (IntKind.i64.wrap (i + (1 : Int))) (IntKind.i64.wrap (i + (1 : Int))) =
 I41o s els (out ++ [[AV.sc (Value.string (ByteArray.mk (Array.mk x)))]])
 (n + [[AV.sc (Value.string (ByteArray.mk (Array.mk x)))]].length)
 (IntKind.i64.wrap (i + (1 : Int))) (IntKind.i64.wrap (i + (1 : Int))) ∧
 O (out ++ [[AV.sc (Value.string (ByteArray.mk (Array.mk x)))]])
 (n + [[AV.sc (Value.string (ByteArray.mk (Array.mk x)))]].length)
 (IntKind.i64.wrap (i + (1 : Int))) (IntKind.i64.wrap (i + (1 : Int))))
 False)
 False)
 (I41o s els out n (IntKind.i64.wrap (i + (1 : Int))) (IntKind.i64.wrap (i + (1 : Int))) =
 I41o s els out n (IntKind.i64.wrap (i + (1 : Int))) (IntKind.i64.wrap (i + (1 : Int))) ∧
 O out n (IntKind.i64.wrap (i + (1 : Int))) (IntKind.i64.wrap (i + (1 : Int)))))
 False)
 False))
 False)
 (iteP (headLen (1 : Nat) els)
 (iteP
 (decide ((0 : Int) ≤ (some k).getD (0 : Int)) &&
 (decide ((some k).getD (0 : Int) ≤ i) && (decide (i ≤ i) && decide (i ≤ (↑els.length : Int)))))
 (iteP (decide ((0 : Int) < (↑(cutL els ((some k).getD (0 : Int)) i).length : Int)))
 (JoinOk (cutL els ((some k).getD (0 : Int)) i) ∧
 ∀ (x : List UInt8),
 IsJoin x (cutL els ((some k).getD (0 : Int)) i) →
 iteP
 (allLen (1 : Nat) out &&
 fits (out.length + [[AV.sc (Value.string (ByteArray.mk (Array.mk x)))]].length) (16 : Nat))
 (iteP (decide (out.length = n))
 (I41o s els (out ++ [[AV.sc (Value.string (ByteArray.mk (Array.mk x)))]])
 (n + [[AV.sc (Value.string (ByteArray.mk (Array.mk x)))]].length)
 (IntKind.i64.wrap (i + (1 : Int))) (IntKind.i64.wrap (i + (1 : Int))) =
 I41o s els (out ++ [[AV.sc (Value.string (ByteArray.mk (Array.mk x)))]])
 (n + [[AV.sc (Value.string (ByteArray.mk (Array.mk x)))]].length)
 (IntKind.i64.wrap (i + (1 : Int))) (IntKind.i64.wrap (i + (1 : Int))) ∧
 O (out ++ [[AV.sc (Value.string (ByteArray.mk (Array.mk x)))]])
 (n + [[AV.sc (Value.string (ByteArray.mk (Array.mk x)))]].length)
 (IntKind.i64.wrap (i + (1 : Int))) (IntKind.i64.wrap (i + (1 : Int))))
 False)
 False)
 (I41o s els out n (IntKind.i64.wrap (i + (1 : Int))) (IntKind.i64.wrap (i + (1 : Int))) =
 I41o s els out n (IntKind.i64.wrap (i + (1 : Int))) (IntKind.i64.wrap (i + (1 : Int))) ∧
 O out n (IntKind.i64.wrap (i + (1 : Int))) (IntKind.i64.wrap (i + (1 : Int)))))
 False)
 False))
 (E41o s out n = E41o s out n ∧ X (Ex.exit (0 : Nat)) out n)) :
 (fun (m : Int) (s : List UInt8) (els out : List (List AV)) (n : Nat) (k i : Int) (O : List (List AV) → Nat → Int → Int → Prop) (X : Ex → List (List AV) → Nat → Prop) => wpRound T41 (cf m) Tryz.prog 40 41 6 (I41o s els out n k i) (fun τ => τ = I41o s els (slEls τ 6) (ownN τ.h) (slI τ 7) (slI τ 8) ∧ O (slEls τ 6) (ownN τ.h) (slI τ 7) (slI τ 8)) (fun e τ => τ = E41o s (slEls τ 6) (ownN τ.h) ∧ X e (slEls τ 6) (ownN τ.h))) m s els out n k i O X :=
 Eq.mp (by kernel_rfl) h
end
end Go.Proofs.Rc
namespace Go.Proofs.Rc
open Go Go.Ef
noncomputable section
set_option maxRecDepth 100000
variable {m : Int} {T : Tab}
theorem joinN_nil : joinN [] = [] := rfl
theorem joinN_one (x : List UInt8) : joinN [x] = x := Lib.join_one x _
theorem joinN_cons (x y : List UInt8) (r : List (List UInt8)) : joinN (x :: y :: r) = x ++ [10] ++ joinN (y :: r) := by
 unfold joinN
 rw [Lib.join_cons, Lib.join_cons]
 unfold Lib.joinTail
 simp
theorem joinN_snoc (q : List (List UInt8)) (x : List UInt8) (h : q ≠ []) : joinN (q ++ [x]) = joinN q ++ [10] ++ x := by
 induction q with
 | nil => exact absurd rfl h
 | cons a r ih =>
  cases r with
  | nil =>
   show joinN [a, x] = joinN [a] ++ [10] ++ x
   rw [joinN_cons, joinN_one, joinN_one]
  | cons b r =>
   have := ih (by simp)
   show joinN (a :: b :: (r ++ [x])) = joinN (a :: b :: r) ++ [10] ++ x
   rw [joinN_cons, joinN_cons]
   have e : joinN (b :: (r ++ [x])) = joinN (b :: r) ++ [10] ++ x := this
   rw [e]; simp
theorem joinN_le (q : List (List UInt8)) : (joinN q).length ≤ (joinE 10 q).length := by
 induction q with
 | nil => simp [joinN_nil]
 | cons a r ih =>
  cases r with
  | nil => rw [joinN_one, joinE_cons, joinE_nil]; simp
  | cons b r => rw [joinN_cons, joinE_cons]; simp; omega
theorem joinE_mid (c : UInt8) (p : List (List UInt8)) (k i : Nat) : (joinE c ((p.take i).drop k)).length ≤ (joinE c p).length := by
 have h1 := joinE_take_le c p i
 have h2 := congrArg List.length (joinE_app c ((p.take i).take k) ((p.take i).drop k))
 rw [List.take_append_drop, List.length_append] at h2
 omega
theorem ok73 (O : Ok m T) : Ok m (T.addC 73 C73) := by
 refine addC_ok O fun args h s hs hp => ?_
 unfold C73 at hs
 split at hs
 ·rename_i els tok t0
  split at hs
  ·rename_i ht
   cases hs
   obtain ⟨p, rfl, h1, h2⟩ := hp
   refine ⟨_, List.mem_singleton.2 rfl, joinN p, 0, ⟨fun q hq => by rw [cells_inj hq]⟩, ?_⟩
   show joinP [.sl (p.map strEl) tok, .sc (.string t0)] h = some (aStr (joinN p), h)
   have hm : maxRoom = 140737488355328 := by decide
   have e1 : ∀ p : List (List UInt8), mapO strS (p.map strEl) = some (p.map fun l => (⟨⟨l⟩⟩ : ByteArray)) := by
    intro p
    induction p with
    | nil => rfl
    | cons a r ih => rw [List.map_cons, mapO_cons, ih]; rfl
   have e2 : (p.map fun l => (⟨⟨l⟩⟩ : ByteArray)).map (·.data.toList) = p := by
    rw [List.map_map]
    exact List.map_id'' (fun _ => rfl) p
   unfold joinP
   simp only [e1, e2, ht]
   rw [List.length_map, Nat.ble_eq_true_of_le (show p.length ≤ maxRoom by omega), Nat.ble_eq_true_of_le (show (Lib.join p [10]).length ≤ maxRoom by unfold joinN at h2; omega)]
   rfl
  ·cases hs
 ·cases hs
theorem recF_nil (c : UInt8) : recF c [] = ([], true) := by
 unfold recF
 rw [if_pos (by rfl)]; rfl
theorem ok72 (O : Ok m T) : Ok m (T.addC 72 C72) := by
 refine addC_ok O fun args h s hs hp => ?_
 unfold C72 at hs
 split at hs
 ·rename_i s0
  cases hs
  obtain ⟨⟨s0⟩⟩ := s0
  have hp' : s0.length ≤ 4294967280 := hp
  have key : EvP (cf m) Tryz.prog 72 [aStr s0] h fun y h' => ((s0 = [] ∧ y = .tup [nilA, aBool true]) ∨ (s0 ≠ [] ∧ y = .tup [.sl ((recF 10 s0).1.map strEl) 0, aBool (recF 10 s0).2])) ∧ h' = h := by
   refine EvP.freshK (ok42 tab0_ok) (n := 40) (by kernel_rfl) (by kernel_rfl) (args' := [aStr s0]) rfl (c72 m s0 _ ?_)
   by_cases hn : s0 = []
   ·rw [decide_eq_true hn, iteP_t]
    exact .inl ⟨hn, rfl⟩
   ·rw [decide_eq_false hn, iteP_f]
    refine ⟨hp', fun p hq => ?_⟩
    subst hq
    obtain ⟨x, hx, hlast, hl⟩ := last_spec (parts_ne 10 s0)
    have hb := parts_len 10 s0
    have hw : IntKind.i64.wrap (((partsOf 10 s0).length : Int) - 1) = (((partsOf 10 s0).length - 1 : Nat) : Int) := by rw [wrap_in (by omega) (by omega)]; omega
    rw [cells_len, hw, show inRange (((partsOf 10 s0).length - 1 : Nat) : Int) (partsOf 10 s0).length = true by rw [inRange_iff]; omega, iteP_t]
    refine ⟨cell_some hx, ?_⟩
    rw [cell_str hx]
    by_cases h0 : x = []
    ·rw [decide_eq_true h0, iteP_t, cells_head, iteP_t, decide_eq_true (by omega), decide_eq_true (by omega), decide_eq_true (by omega), Bool.and_self, Bool.and_self, Bool.and_self, iteP_t,
      show cutL ((partsOf 10 s0).map strEl) 0 (((partsOf 10 s0).length - 1 : Nat) : Int) = (partsOf 10 s0).dropLast.map strEl by rw [show (0 : Int) = ((0 : Nat) : Int) from rfl, cells_cut, List.drop_zero, List.dropLast_eq_take],
      cells_plain, iteP_t]
     unfold recF
     rw [hlast, h0, if_pos rfl]
     exact .inr ⟨hn, rfl⟩
    ·rw [decide_eq_false h0, iteP_f, cells_plain, iteP_t]
     unfold recF
     rw [hlast, if_neg (by simpa using h0)]
     exact .inr ⟨hn, rfl⟩
  obtain ⟨n, y, h', h2, h3 | h3, rfl⟩ := key
  ·obtain ⟨h3, rfl⟩ := h3
   exact ⟨_, List.mem_cons_self .., (), n, ⟨h3⟩, h2⟩
  ·obtain ⟨h3, rfl⟩ := h3
   exact ⟨_, List.mem_cons_of_mem _ (List.mem_cons_self ..), recF 10 s0, n, ⟨rfl⟩, h2⟩
 ·cases hs
def St41 (s : List UInt8) (p out : List (List UInt8)) (k i : Nat) : St :=
 match out with
 | [] => I41n s (p.map strEl) k i
 | out => I41o s (p.map strEl) (out.map strEl) out.length k i
def Et41 (s : List UInt8) (out : List (List UInt8)) : St :=
 match out with
 | [] => E41n s
 | out => E41o s (out.map strEl) out.length
abbrev Loop41 (m : Int) (σ : St) (K : KR) : Prop := Ev (cf m) Tryz.prog 41 (.loop (loopAt Tryz.prog 41 6)) σ K
theorem first41 : firstId 8 (loopAt Tryz.prog 41 6) = 6 := by kernel_rfl
theorem can41n (s : List UInt8) (els : List (List AV)) (k i : Int) : (I41n s els k i).tidy [0, 4, 6, 7, 8] 0 = I41n s els k i := by kernel_rfl
theorem can41o (s : List UInt8) (els out : List (List AV)) (n : Nat) (k i : Int) : (I41o s els out n k i).tidy [0, 4, 6, 7, 8] 0 = I41o s els out n k i := by kernel_rfl
def addG (p out : List (List UInt8)) (k i : Nat) : List (List UInt8) := if (p.take i).drop k = [] then out else out ++ [joinN ((p.take i).drop k)]
theorem round41 (m : Int) (s : List UInt8) (p out : List (List UInt8)) (k i : Nat) (hk : k ≤ i) (hp : (joinE 10 p).length ≤ 4294967270) (hi : i ≤ p.length + 1) (hki : i ≤ p.length → k ≤ p.length) (ho : out.length ≤ i) {K : KR}
  (hN : ∀ x, p[i]? = some x → x ≠ [] → Loop41 m (St41 s p out k (i + 1)) K)
  (hC : i ≤ p.length → (∀ x, p[i]? = some x → x = []) → Loop41 m (St41 s p (addG p out k i) (i + 1) (i + 1)) K)
  (hX : i = p.length + 1 → K (.exit 0) (Et41 s out)) : Loop41 m (St41 s p out k i) K := by
 have hcnt := joinE_count 10 p
 have hw : IntKind.i64.wrap ((i : Int) + 1) = ((i + 1 : Nat) : Int) := by rw [wrap_in (by omega) (by omega)]; rfl
 have hjo : JoinOk (((p.take i).drop k).map strEl) := ⟨_, rfl, by simp; omega, by
  have h1 := joinN_le ((p.take i).drop k)
  have h2 := joinE_mid 10 p k i
  omega⟩
 have hpos : ((0 : Int) < ((((p.take i).drop k).map strEl).length : Int)) = ((p.take i).drop k ≠ []) := by
  apply propext
  rw [cells_len]
  cases (p.take i).drop k <;> simp <;> omega
 cases out with
 | nil =>
  refine Ev.round (t := ⟨[0, 4, 6, 7, 8], [0, 6], 0⟩) (ok73 tab0_ok) first41 rfl (can41n s (p.map strEl) k i)
   (a41 m s (p.map strEl) k i (fun k' i' => (∃ x, p[i]? = some x ∧ x ≠ [] ∧ k' = k ∧ i' = ((i + 1 : Nat) : Int)) ∨ (i ≤ p.length ∧ (∀ x, p[i]? = some x → x = []) ∧ (p.take i).drop k = [] ∧ k' = ((i + 1 : Nat) : Int) ∧ i' = ((i + 1 : Nat) : Int)))
    (fun o n k' i' => i ≤ p.length ∧ (∀ x, p[i]? = some x → x = []) ∧ (p.take i).drop k ≠ [] ∧ o = ([joinN ((p.take i).drop k)] : List (List UInt8)).map strEl ∧ n = 1 ∧ k' = ((i + 1 : Nat) : Int) ∧ i' = ((i + 1 : Nat) : Int)) (fun e => i = p.length + 1 ∧ e = .exit 0) ?_) (fun τ h => ?_) (fun e τ h => ?_)
  ·rw [hw, cells_len]
   by_cases h1 : i ≤ p.length
   ·have hk' := hki h1
    rw [decide_eq_true (show (i : Int) ≤ (p.length : Int) by omega), iteP_t]
    have c0 : (0 : Int) ≤ (some (k : Int)).getD 0 := by simp
    have c1 : (some (k : Int)).getD 0 ≤ (i : Int) := by simp; omega
    have hcc : (decide ((0 : Int) ≤ (some (k : Int)).getD 0) && (decide ((some (k : Int)).getD 0 ≤ (i : Int)) && (decide ((i : Int) ≤ (i : Int)) && true))) = true := by
     rw [decide_eq_true c0, decide_eq_true c1, decide_eq_true (Int.le_refl _)]; rfl
    have hcut : cutL (p.map strEl) ((some (k : Int)).getD 0) (i : Int) = ((p.take i).drop k).map strEl := cells_cut p k i
    by_cases h2 : i < p.length
    ·have hx : p[i]? = some p[i] := List.getElem?_eq_getElem _
     rw [decide_eq_true (show (i : Int) < (p.length : Int) by omega), iteP_t, show inRange (i : Int) p.length = true by rw [inRange_iff]; omega, iteP_t]
     refine ⟨cell_some hx, ?_⟩
     rw [cell_str hx]
     by_cases h3 : p[i] = []
     ·rw [decide_eq_false (by simpa using h3), iteP_f, cells_head, iteP_t, hcc, iteP_t, hcut]
      have hall : ∀ x, p[i]? = some x → x = [] := fun x hx' => by rw [hx] at hx'; cases hx'; exact h3
      by_cases h4 : (p.take i).drop k = []
      ·rw [decide_eq_false (by rw [hpos]; simpa using h4), iteP_f]
       exact ⟨rfl, .inr ⟨h1, hall, h4, rfl, rfl⟩⟩
      ·rw [decide_eq_true (by rw [hpos]; exact h4), iteP_t]
       refine ⟨hjo, fun x hj => ⟨rfl, h1, hall, h4, ?_, rfl, rfl, rfl⟩⟩
       rw [hj.is _ rfl]; rfl
     ·rw [decide_eq_true h3, iteP_t]
      exact ⟨rfl, .inl ⟨_, hx, h3, rfl, rfl⟩⟩
    ·have hall : ∀ x, p[i]? = some x → x = [] := fun x hx' => by rw [List.getElem?_eq_none (by omega)] at hx'; cases hx'
     rw [decide_eq_false (show ¬ (i : Int) < (p.length : Int) by omega), iteP_f, cells_head, iteP_t, hcc, iteP_t, hcut]
     by_cases h4 : (p.take i).drop k = []
     ·rw [decide_eq_false (by rw [hpos]; simpa using h4), iteP_f]
      exact ⟨rfl, .inr ⟨h1, hall, h4, rfl, rfl⟩⟩
     ·rw [decide_eq_true (by rw [hpos]; exact h4), iteP_t]
      refine ⟨hjo, fun x hj => ⟨rfl, h1, hall, h4, ?_, rfl, rfl, rfl⟩⟩
      rw [hj.is _ rfl]; rfl
   ·rw [decide_eq_false (show ¬ (i : Int) ≤ (p.length : Int) by omega), iteP_f]
    exact ⟨rfl, by omega, rfl⟩
  ·unfold q41 at h
   split at h
   ·obtain ⟨h1, h2, h3, h4, h5, h6, h7, h8⟩ := h
    rw [h5, h6, h7, h8] at h1
    rw [h1]
    have := hC h2 h3
    unfold addG at this
    rw [if_neg h4] at this
    exact this
   ·obtain ⟨h1, ⟨x, h2, h3, h4, h5⟩ | ⟨h2, h3, h4, h5, h6⟩⟩ := h
    ·rw [h4, h5] at h1
     rw [h1]
     exact hN x h2 h3
    ·rw [h5, h6] at h1
     rw [h1]
     have := hC h2 h3
     unfold addG at this
     rw [if_pos h4] at this
     exact this
  ·obtain ⟨h1, h2, h3⟩ := h
   rw [h1, h3]
   exact hX h2
 | cons a r =>
  refine Ev.round (t := ⟨[0, 4, 6, 7, 8], [0, 6], 0⟩) (ok73 tab0_ok) first41 rfl (can41o s (p.map strEl) ((a :: r).map strEl) (a :: r).length k i)
   (b41 m s (p.map strEl) ((a :: r).map strEl) (a :: r).length k i (fun o n k' i' => (∃ x, p[i]? = some x ∧ x ≠ [] ∧ o = (a :: r).map strEl ∧ n = (a :: r).length ∧ k' = k ∧ i' = ((i + 1 : Nat) : Int)) ∨
    (i ≤ p.length ∧ (∀ x, p[i]? = some x → x = []) ∧ o = (addG p (a :: r) k i).map strEl ∧ n = (addG p (a :: r) k i).length ∧ k' = ((i + 1 : Nat) : Int) ∧ i' = ((i + 1 : Nat) : Int))) (fun e o n => i = p.length + 1 ∧ e = .exit 0 ∧ o = (a :: r).map strEl ∧ n = (a :: r).length) ?_) (fun τ h => ?_) (fun e τ h => ?_)
  ·rw [hw, cells_len]
   by_cases h1 : i ≤ p.length
   ·have hk' := hki h1
    rw [decide_eq_true (show (i : Int) ≤ (p.length : Int) by omega), iteP_t]
    have c0 : (0 : Int) ≤ (some (k : Int)).getD 0 := by simp
    have c1 : (some (k : Int)).getD 0 ≤ (i : Int) := by simp; omega
    have hcc : (decide ((0 : Int) ≤ (some (k : Int)).getD 0) && (decide ((some (k : Int)).getD 0 ≤ (i : Int)) && (decide ((i : Int) ≤ (i : Int)) && true))) = true := by
     rw [decide_eq_true c0, decide_eq_true c1, decide_eq_true (Int.le_refl _)]; rfl
    have hcut : cutL (p.map strEl) ((some (k : Int)).getD 0) (i : Int) = ((p.take i).drop k).map strEl := cells_cut p k i
    have hfit : fits (((a :: r).map strEl).length + 1) 16 = true := by rw [cells_len]; exact fits_str (by simp at ho ⊢; omega)
    by_cases h2 : i < p.length
    ·have hx : p[i]? = some p[i] := List.getElem?_eq_getElem _
     rw [decide_eq_true (show (i : Int) < (p.length : Int) by omega), iteP_t, show inRange (i : Int) p.length = true by rw [inRange_iff]; omega, iteP_t]
     refine ⟨cell_some hx, ?_⟩
     rw [cell_str hx]
     by_cases h3 : p[i] = []
     ·rw [decide_eq_false (by simpa using h3), iteP_f, cells_head, iteP_t, hcc, iteP_t, hcut]
      have hall : ∀ x, p[i]? = some x → x = [] := fun x hx' => by rw [hx] at hx'; cases hx'; exact h3
      by_cases h4 : (p.take i).drop k = []
      ·rw [decide_eq_false (by rw [hpos]; simpa using h4), iteP_f]
       exact ⟨rfl, .inr ⟨h1, hall, by unfold addG; rw [if_pos h4], by unfold addG; rw [if_pos h4], rfl, rfl⟩⟩
      ·rw [decide_eq_true (by rw [hpos]; exact h4), iteP_t]
       refine ⟨hjo, fun x hj => ?_⟩
       rw [cells_all, show fits (((a :: r).map strEl).length + [[AV.sc (Value.string (ByteArray.mk (Array.mk x)))]].length) 16 = true from hfit, Bool.and_self, iteP_t, decide_eq_true (cells_len _), iteP_t]
       refine ⟨rfl, .inr ⟨h1, hall, ?_, ?_, rfl, rfl⟩⟩
       ·unfold addG; rw [if_neg h4, cells_snoc, hj.is _ rfl]
       ·unfold addG; rw [if_neg h4]; simp
     ·rw [decide_eq_true h3, iteP_t]
      exact ⟨rfl, .inl ⟨_, hx, h3, rfl, rfl, rfl, rfl⟩⟩
    ·have hall : ∀ x, p[i]? = some x → x = [] := fun x hx' => by rw [List.getElem?_eq_none (by omega)] at hx'; cases hx'
     rw [decide_eq_false (show ¬ (i : Int) < (p.length : Int) by omega), iteP_f, cells_head, iteP_t, hcc, iteP_t, hcut]
     by_cases h4 : (p.take i).drop k = []
     ·rw [decide_eq_false (by rw [hpos]; simpa using h4), iteP_f]
      exact ⟨rfl, .inr ⟨h1, hall, by unfold addG; rw [if_pos h4], by unfold addG; rw [if_pos h4], rfl, rfl⟩⟩
     ·rw [decide_eq_true (by rw [hpos]; exact h4), iteP_t]
      refine ⟨hjo, fun x hj => ?_⟩
      rw [cells_all, show fits (((a :: r).map strEl).length + [[AV.sc (Value.string (ByteArray.mk (Array.mk x)))]].length) 16 = true from hfit, Bool.and_self, iteP_t, decide_eq_true (cells_len _), iteP_t]
      refine ⟨rfl, .inr ⟨h1, hall, ?_, ?_, rfl, rfl⟩⟩
      ·unfold addG; rw [if_neg h4, cells_snoc, hj.is _ rfl]
      ·unfold addG; rw [if_neg h4]; simp
   ·rw [decide_eq_false (show ¬ (i : Int) ≤ (p.length : Int) by omega), iteP_f]
    exact ⟨rfl, by omega, rfl, rfl, rfl⟩
  ·obtain ⟨h1, ⟨x, h2, h3, h4, h5, h6, h7⟩ | ⟨h2, h3, h4, h5, h6, h7⟩⟩ := h
   ·rw [h4, h5, h6, h7] at h1
    rw [h1]
    exact hN x h2 h3
   ·rw [h4, h5, h6, h7] at h1
    rw [h1]
    have := hC h2 h3
    have hne : ∃ b q, addG p (a :: r) k i = b :: q := by
     unfold addG
     split
     ·exact ⟨_, _, rfl⟩
     ·exact ⟨_, _, rfl⟩
    obtain ⟨b, q, hbq⟩ := hne
    rw [hbq] at this ⊢
    exact this
  ·obtain ⟨h1, h2, h3, h4, h5⟩ := h
   rw [h4, h5] at h1
   rw [h1, h3]
   exact hX h2
end
end Go.Proofs.Rc
namespace Go.Proofs.Rc
open Go Go.Ef
noncomputable section
set_option maxRecDepth 100000
variable {m : Int} {T : Tab}
theorem addG_eq (p out : List (List UInt8)) (k i : Nat) : addG p out k i = flushG (out, (p.take i).drop k) := rfl
theorem addG_len (p out : List (List UInt8)) (k i : Nat) : (addG p out k i).length ≤ out.length + 1 := by
 unfold addG; split <;> simp
theorem fold_snoc (p : List (List UInt8)) {i : Nat} (h : i < p.length) : (p.take (i + 1)).foldl stepG ([], []) = stepG ((p.take i).foldl stepG ([], [])) p[i] := by
 rw [List.take_succ_eq_append_getElem h, List.foldl_append]; rfl
theorem loop41 (s : List UInt8) (p : List (List UInt8)) (hp : (joinE 10 p).length ≤ 4294967270) : ∀ (f i k : Nat) (out : List (List UInt8)), p.length - i = f → i ≤ p.length → k ≤ i → out.length ≤ i → (p.take i).foldl stepG ([], []) = (out, (p.take i).drop k) →
  Loop41 m (St41 s p out k i) fun e τ => e = .exit 0 ∧ τ = Et41 s (groupF p) := by
 have last : ∀ (k : Nat) (out : List (List UInt8)), k ≤ p.length → out.length ≤ p.length → p.foldl stepG ([], []) = (out, p.drop k) → Loop41 m (St41 s p out k p.length) fun e τ => e = .exit 0 ∧ τ = Et41 s (groupF p) := by
  intro k out hk ho hinv
  refine round41 m s p out k p.length hk hp (by omega) (fun _ => hk) ho (fun x hx => by rw [List.getElem?_eq_none (Nat.le_refl _)] at hx; cases hx) (fun _ _ => ?_) (fun h => by omega)
  have hg : addG p out k p.length = groupF p := by
   rw [addG_eq, List.take_length]; unfold groupF; rw [hinv]
  have hl := addG_len p out k p.length
  rw [hg] at hl
  rw [hg]
  refine round41 m s p (groupF p) (p.length + 1) (p.length + 1) (Nat.le_refl _) hp (Nat.le_refl _) (fun h => by omega) (by omega) (fun x hx => by rw [List.getElem?_eq_none (by omega)] at hx; cases hx) (fun h => by omega) (fun _ => ⟨rfl, rfl⟩)
 intro f
 induction f with
 | zero =>
  intro i k out hf hi hk ho hinv
  have hi : i = p.length := by omega
  subst hi
  rw [List.take_length] at hinv
  exact last k out hk ho hinv
 | succ f ih =>
  intro i k out hf hi hk ho hinv
  have hlt : i < p.length := by omega
  have hx : p[i]? = some p[i] := List.getElem?_eq_getElem _
  refine round41 m s p out k i hk hp (by omega) (fun _ => by omega) ho (fun x hx' hne => ?_) (fun _ hall => ?_) (fun h => by omega)
  ·rw [hx] at hx'
   cases hx'
   refine ih (i + 1) k out (by omega) (by omega) (by omega) (by omega) ?_
   rw [fold_snoc p hlt, hinv]
   unfold stepG
   rw [if_neg hne, List.take_succ_eq_append_getElem hlt, List.drop_append_of_le_length (by simp; omega)]
  ·have h0 := hall _ hx
   have hl := addG_len p out k i
   refine ih (i + 1) (i + 1) (addG p out k i) (by omega) (by omega) (Nat.le_refl _) (by omega) ?_
   have e : (p.take (i + 1)).drop (i + 1) = [] := List.drop_eq_nil_of_le (by simp; omega)
   rw [fold_snoc p hlt, hinv, e]
   unfold stepG
   rw [if_pos h0, addG_eq]
structure IsGroup (els : List (List AV)) (p : List (List UInt8)) : Prop where
 lines : els = p.map strEl
 room : (joinE 10 p).length ≤ 4294967270
structure HasGroup (els : List (List AV)) : Prop where
 is : ∃ p, IsGroup els p
structure GroupNil (els : List (List AV)) : Prop where
 is : ∀ p, els = p.map strEl → groupF p = []
structure GroupOwn (els : List (List AV)) (g : List (List UInt8)) : Prop where
 is : ∀ p, els = p.map strEl → groupF p = g
 ne : g ≠ []
def L41 (σ : St) : Option LSpec := some { pre := σ.tidy [0, 4, 6, 7, 8] 0 = I41n (slS σ 0) (slEls σ 4) 0 0 ∧ HasGroup (slEls σ 4), alts := [{ α := Unit, post := fun _ => GroupNil (slEls σ 4), ex := .exit 0, st := fun _ => E41n (slS σ 0) }, { α := List (List UInt8), post := fun g => GroupOwn (slEls σ 4) g, ex := .exit 0, st := fun g => E41o (slS σ 0) (g.map strEl) g.length }] }
structure SomeText (s : List UInt8) : Prop where
 ne : s ≠ []
def C72b (args : List AV) (h : Heap) : Option CSpec :=
 match args with
 | [.sc (.string s)] => some { pre := s.data.toList.length ≤ 4294967280 ∧ SomeText s.data.toList, alts := [{ α := List (List UInt8) × Bool, post := fun q => IsRec q 10 s.data.toList, val := fun q => .tup [.sl (q.1.map strEl) 0, aBool q.2], heap := fun _ => h }] }
 | _ => none
theorem ok72b (O : Ok m T) : Ok m (T.addC 72 C72b) := by
 refine addC_ok O fun args h s hs hp => ?_
 unfold C72b at hs
 split at hs
 ·rename_i s0
  cases hs
  obtain ⟨h1, h2⟩ := hp
  obtain ⟨a, ha, x, n, h3, h4⟩ := (ok72 (m := m) tab0_ok).call 72 C72 [.sc (.string s0)] h _ rfl rfl h1
  rcases List.mem_cons.1 ha with rfl | ha
  ·exact absurd h3.eq h2.ne
  ·obtain rfl := List.mem_singleton.1 ha
   exact ⟨_, List.mem_singleton.2 rfl, x, n, h3, h4⟩
 ·cases hs
def T41c : Tab := (tab0.addC 72 C72b).addL 41 6 L41
structure NoPara (s : List UInt8) : Prop where
 eq : paraF s = ([], true)
structure IsPara (q : List (List UInt8) × Bool) (s : List UInt8) : Prop where
 eq : q = paraF s
def C41 (args : List AV) (h : Heap) : Option CSpec :=
 match args with
 | [.sc (.string s)] => some { pre := s.data.toList.length ≤ 4294967260, alts := [{ α := Unit, post := fun _ => NoPara s.data.toList, val := fun _ => .tup [nilA, aBool true], heap := fun _ => h }, { α := List (List UInt8) × Bool, post := fun q => IsPara q s.data.toList, val := fun q => .tup [.sl (q.1.map strEl) 0, aBool q.2], heap := fun _ => h }] }
 | _ => none
theorem ok41L (O : Ok m T) : Ok m (T.addL 41 6 L41) := by
 refine addL_ok O fun σ s hs hp => ?_
 cases hs
 obtain ⟨e, p, h1, h2⟩ := hp
 have he : Loop41 m σ fun e τ => e = .exit 0 ∧ τ = Et41 (slS σ 0) (groupF p) := by
  refine Ev.tidied (t := ⟨[0, 4, 6, 7, 8], [0, 6], 0⟩) (τ := I41n (slS σ 0) (slEls σ 4) 0 0) (by kernel_rfl) (by rw [e]; kernel_rfl) ?_
  rw [h1]
  exact loop41 (slS σ 0) p h2 _ 0 0 [] rfl (Nat.zero_le _) (Nat.le_refl _) (Nat.le_refl _) rfl
 obtain ⟨n, ex, τ, h3, rfl, rfl⟩ := he
 cases hg : groupF p with
 | nil =>
  rw [hg] at h3
  exact ⟨_, List.mem_cons_self .., (), ⟨fun q hq => by rw [h1] at hq; rw [← cells_inj hq]; exact hg⟩, n, h3⟩
 | cons a r =>
  rw [hg] at h3
  exact ⟨_, List.mem_cons_of_mem _ (List.mem_cons_self ..), a :: r, ⟨fun q hq => by rw [h1] at hq; rw [← cells_inj hq]; exact hg, by simp⟩, n, h3⟩
theorem ok41T : Ok m T41c := ok41L (ok72b tab0_ok)
end
end Go.Proofs.Rc
namespace Go.Proofs.Rc
open Go Go.Ef
noncomputable section
set_option maxRecDepth 100000
theorem c41 (m : Int) (s : List UInt8) (K : AV → Prop) (h :
 (s.length ≤ (4294967280 : Nat) ∧ SomeText s) ∧
 ∀ (x : List (List UInt8) × Bool),
 IsRec x (10 : UInt8) s →
 iteP x.snd
 (loopAt Tryz.prog (41 : Nat) (6 : Nat) = loopAt Tryz.prog (41 : Nat) (6 : Nat) ∧
 (I41n s (List.map strEl x.fst) (0 : Int) (0 : Int) = I41n s (List.map strEl x.fst) (0 : Int) (0 : Int) ∧
 HasGroup (List.map strEl x.fst)) ∧
 (∀ (_ : Unit),
 GroupNil (List.map strEl x.fst) →
 K (AV.tup [AV.sc (Value.slice none (0 : Nat) (0 : Nat)), AV.sc (Value.bool true)])) ∧
 ∀ (x_1 : List (List UInt8)),
 GroupOwn (List.map strEl x.fst) x_1 →
 iteP ((↑(List.map strEl x_1).length : Int) == (0 : Int))
 (iteP (plainEls (List.map strEl x_1))
 (K (AV.tup [AV.sl (List.map strEl x_1) (0 : Nat), AV.sc (Value.bool true)])) False)
 (iteP (decide ((2 : Int) ≤ (↑s.length : Int)))
 (iteP
 (decide ((0 : Int) ≤ IntKind.i64.wrap ((↑s.length : Int) - (2 : Int))) &&
 decide (IntKind.i64.wrap ((↑s.length : Int) - (2 : Int)) ≤ (↑s.length : Int)))
 (iteP
 (decide
 (List.drop (IntKind.i64.wrap ((↑s.length : Int) - (2 : Int))).toNat s =
 [(10 : UInt8), (10 : UInt8)]))
 (iteP (plainEls (List.map strEl x_1))
 (K (AV.tup [AV.sl (List.map strEl x_1) (0 : Nat), AV.sc (Value.bool true)])) False)
 (iteP (plainEls (List.map strEl x_1))
 (K (AV.tup [AV.sl (List.map strEl x_1) (0 : Nat), AV.sc (Value.bool false)])) False))
 False)
 (iteP (plainEls (List.map strEl x_1))
 (K (AV.tup [AV.sl (List.map strEl x_1) (0 : Nat), AV.sc (Value.bool false)])) False)))
 (loopAt Tryz.prog (41 : Nat) (6 : Nat) = loopAt Tryz.prog (41 : Nat) (6 : Nat) ∧
 (I41n s (List.map strEl x.fst) (0 : Int) (0 : Int) = I41n s (List.map strEl x.fst) (0 : Int) (0 : Int) ∧
 HasGroup (List.map strEl x.fst)) ∧
 (∀ (_ : Unit),
 GroupNil (List.map strEl x.fst) →
 K (AV.tup [AV.sc (Value.slice none (0 : Nat) (0 : Nat)), AV.sc (Value.bool true)])) ∧
 ∀ (x_1 : List (List UInt8)),
 GroupOwn (List.map strEl x.fst) x_1 →
 iteP ((↑(List.map strEl x_1).length : Int) == (0 : Int))
 (iteP (plainEls (List.map strEl x_1))
 (K (AV.tup [AV.sl (List.map strEl x_1) (0 : Nat), AV.sc (Value.bool true)])) False)
 (iteP (decide ((2 : Int) ≤ (↑s.length : Int)))
 (iteP
 (decide ((0 : Int) ≤ IntKind.i64.wrap ((↑s.length : Int) - (2 : Int))) &&
 decide (IntKind.i64.wrap ((↑s.length : Int) - (2 : Int)) ≤ (↑s.length : Int)))
 (iteP
 (decide
 (List.drop (IntKind.i64.wrap ((↑s.length : Int) - (2 : Int))).toNat s =
 [(10 : UInt8), (10 : UInt8)]))
 (iteP (plainEls (List.map strEl x_1))
 (K (AV.tup [AV.sl (List.map strEl x_1) (0 : Nat), AV.sc (Value.bool true)])) False)
 (iteP (plainEls (List.map strEl x_1))
 (K (AV.tup [AV.sl (List.map strEl x_1) (0 : Nat), AV.sc (Value.bool false)])) False))
 False)
 (iteP (plainEls (List.map strEl x_1))
 (K (AV.tup [AV.sl (List.map strEl x_1) (0 : Nat), AV.sc (Value.bool false)])) False)))) :
 (fun (m : Int) (s : List UInt8) (K : AV → Prop) => wpCall T41c (cf m) Tryz.prog 40 41 [aStr s] heapF fun r h' => wpBack h' r K) m s K :=
 Eq.mp (by kernel_rfl) h
end
end Go.Proofs.Rc
namespace Go.Proofs.Rc
open Go Go.Ef
noncomputable section
set_option maxRecDepth 100000
variable {m : Int} {T : Tab}
theorem paraF_nil : paraF [] = ([], true) := by unfold paraF; rw [recF_nil]; rfl
theorem para_room (s : List UInt8) : (joinE 10 (recF 10 s).1).length ≤ s.length + 1 := by
 rw [rec_join]; split <;> simp
theorem len2 {s : List UInt8} (h : s.length ≤ 4294967280) : ∀ {A B : Prop}, iteP (decide ((2 : Int) ≤ (s.length : Int))) (iteP (decide ((0 : Int) ≤ IntKind.i64.wrap ((s.length : Int) - 2)) && decide (IntKind.i64.wrap ((s.length : Int) - 2) ≤ (s.length : Int))) (iteP (decide (s.drop (IntKind.i64.wrap ((s.length : Int) - 2)).toNat = [10, 10])) A B) False) B = iteP (endsTwo s) A B := by
 intro A B
 by_cases h2 : 2 ≤ s.length
 ·have hw : IntKind.i64.wrap ((s.length : Int) - 2) = ((s.length - 2 : Nat) : Int) := by rw [wrap_in (by omega) (by omega)]; omega
  rw [decide_eq_true (by omega), iteP_t, hw, decide_eq_true (by omega), decide_eq_true (by omega), Bool.and_self, iteP_t, Int.toNat_natCast]
  unfold endsTwo
  by_cases h3 : s.drop (s.length - 2) = [10, 10]
  ·rw [decide_eq_true h3, decide_eq_true ⟨h2, h3⟩]
  ·rw [decide_eq_false h3, decide_eq_false (fun e => h3 e.2)]
 ·rw [decide_eq_false (by omega), iteP_f]
  unfold endsTwo
  rw [decide_eq_false (fun e => h2 e.1), iteP_f]
theorem ok41 (O : Ok m T) : Ok m (T.addC 41 C41) := by
 refine addC_ok O fun args h s hs hp => ?_
 unfold C41 at hs
 split at hs
 ·rename_i s0
  cases hs
  obtain ⟨⟨s0⟩⟩ := s0
  have hp' : s0.length ≤ 4294967260 := hp
  have key : EvP (cf m) Tryz.prog 41 [aStr s0] h fun y h' => ((paraF s0 = ([], true) ∧ y = .tup [nilA, aBool true]) ∨ y = .tup [.sl ((paraF s0).1.map strEl) 0, aBool (paraF s0).2]) ∧ h' = h := by
   by_cases hn : s0 = []
   ·subst hn
    refine ⟨100, .tup [nilA, aBool true], h, by kernel_rfl, .inl ⟨paraF_nil, rfl⟩, rfl⟩
   ·refine EvP.freshK ok41T (n := 40) (by kernel_rfl) (by kernel_rfl) (args' := [aStr s0]) rfl (c41 m s0 _ ⟨⟨by omega, ⟨hn⟩⟩, fun q hq => ?_⟩)
    obtain rfl := hq.eq
    have hroom := para_room s0
    have hhas : HasGroup ((recF 10 s0).1.map strEl) := ⟨_, rfl, by omega⟩
    have tail : ∀ g : List (List UInt8), GroupOwn ((recF 10 s0).1.map strEl) g → ∀ {K : AV → Prop}, K (.tup [.sl ((paraF s0).1.map strEl) 0, aBool (paraF s0).2]) →
      iteP (((g.map strEl).length : Int) == 0) (iteP (plainEls (g.map strEl)) (K (AV.tup [AV.sl (g.map strEl) 0, AV.sc (Value.bool true)])) False)
       (iteP (decide ((2 : Int) ≤ (s0.length : Int))) (iteP (decide ((0 : Int) ≤ IntKind.i64.wrap ((s0.length : Int) - 2)) && decide (IntKind.i64.wrap ((s0.length : Int) - 2) ≤ (s0.length : Int))) (iteP (decide (s0.drop (IntKind.i64.wrap ((s0.length : Int) - 2)).toNat = [10, 10])) (iteP (plainEls (g.map strEl)) (K (AV.tup [AV.sl (g.map strEl) 0, AV.sc (Value.bool true)])) False) (iteP (plainEls (g.map strEl)) (K (AV.tup [AV.sl (g.map strEl) 0, AV.sc (Value.bool false)])) False)) False)
        (iteP (plainEls (g.map strEl)) (K (AV.tup [AV.sl (g.map strEl) 0, AV.sc (Value.bool false)])) False)) := by
     intro g hg K hK
     have e1 := hg.is _ rfl
     have e2 := hg.ne
     have hne : (((g.map strEl).length : Int) == 0) = false := by rw [cells_len]; simp [e2]
     rw [hne, iteP_f, len2 (by omega), cells_plain, iteP_t, iteP_t]
     unfold paraF at hK
     rw [e1] at hK
     have he : g.isEmpty = false := by cases g with
      | nil => exact absurd rfl e2
      | cons _ _ => rfl
     rw [he, Bool.false_or] at hK
     cases ht : endsTwo s0 with
     | true => rw [iteP_t]; rw [ht] at hK; exact hK
     | false => rw [iteP_f]; rw [ht] at hK; exact hK
    have nil : GroupNil ((recF 10 s0).1.map strEl) → paraF s0 = ([], true) := by
     intro hg
     have e := hg.is _ rfl
     unfold paraF
     rw [e]; rfl
    cases (recF 10 s0).2 with
    | true =>
     rw [iteP_t]
     exact ⟨rfl, ⟨rfl, hhas⟩, fun _ hg => .inl ⟨nil hg, rfl⟩, fun g hg => tail g hg (K := fun y => (paraF s0 = ([], true) ∧ y = .tup [nilA, aBool true]) ∨ y = .tup [.sl ((paraF s0).1.map strEl) 0, aBool (paraF s0).2]) (.inr rfl)⟩
    | false =>
     rw [iteP_f]
     exact ⟨rfl, ⟨rfl, hhas⟩, fun _ hg => .inl ⟨nil hg, rfl⟩, fun g hg => tail g hg (K := fun y => (paraF s0 = ([], true) ∧ y = .tup [nilA, aBool true]) ∨ y = .tup [.sl ((paraF s0).1.map strEl) 0, aBool (paraF s0).2]) (.inr rfl)⟩
  obtain ⟨n, y, h', h2, h3 | h3, rfl⟩ := key
  ·obtain ⟨h3, rfl⟩ := h3
   exact ⟨_, List.mem_cons_self .., (), n, ⟨h3⟩, h2⟩
  ·subst h3
   exact ⟨_, List.mem_cons_of_mem _ (List.mem_cons_self ..), paraF s0, n, ⟨rfl⟩, h2⟩
 ·cases hs
end
end Go.Proofs.Rc
namespace Go.Proofs.Rc
open Go Go.Ef
noncomputable section
set_option maxRecDepth 100000
variable {m : Int} {T : Tab}
structure HasRead (els : List (List AV)) : Prop where
 is : ∃ p : List (List UInt8), els = p.map strEl ∧ (joinE 10 p).length ≤ 4294967270
structure ReadIs (els : List (List AV)) (q : List (List UInt8) × List UInt8) : Prop where
 is : ∀ p : List (List UInt8), els = p.map strEl → scanR p p.length = q
structure ReadOwn (els : List (List AV)) (q : List (List UInt8) × List UInt8) : Prop where
 is : ReadIs els q
 ne : q.1 ≠ []
structure NoRead (s : List UInt8) : Prop where
 eq : paraR s = ([], true)
structure IsRead (q : List (List UInt8) × Bool) (s : List UInt8) : Prop where
 eq : q = paraR s
end
end Go.Proofs.Rc
namespace Go.Proofs.Rc
open Go Go.Ef
noncomputable section
set_option maxRecDepth 100000
variable {m : Int} {T : Tab}
structure Alike (a : List (List UInt8) × List (List UInt8)) (b : List (List UInt8) × List UInt8) : Prop where
 fst : b.1 = a.1
 snd : b.2 = joinN a.2
 ne : ∀ x ∈ a.2, x ≠ []
theorem Alike.nil {a b} (h : Alike a b) : b.2 = [] ↔ a.2 = [] := by
 rw [h.snd]
 constructor
 ·intro e
  cases ha : a.2 with
  | nil => rfl
  | cons x r =>
   rw [ha] at e
   cases r with
   | nil =>
    rw [joinN_one] at e
    exact absurd e (h.ne x (by rw [ha]; simp))
   | cons y r => rw [joinN_cons] at e; simp at e
 ·intro e; rw [e]; rfl
theorem Alike.step {a b} (h : Alike a b) {n : Nat} (x : List UInt8) (i : Nat) (hi : i + 1 < n) : Alike (stepG a x) (stepR n b (x, i)) := by
 unfold stepG stepR
 have hn := h.nil
 by_cases hx : x = []
 ·rw [if_pos hx, if_pos hx]
  by_cases hb : b.2 = []
  ·rw [if_neg (fun e => e.1 hb)]
   refine ⟨?_, hb, fun _ hy => by cases hy⟩
   unfold flushG
   rw [if_pos (hn.1 hb)]
   exact h.fst
  ·rw [if_pos ⟨hb, hi⟩]
   refine ⟨?_, rfl, fun _ hy => by cases hy⟩
   unfold flushG
   rw [if_neg (fun e => hb (hn.2 e)), h.fst, h.snd]
 ·rw [if_neg hx, if_neg hx]
  have hne : ∀ y ∈ a.2 ++ [x], y ≠ [] := fun y hy => by
   rcases List.mem_append.1 hy with hy | hy
   ·exact h.ne y hy
   ·obtain rfl := List.mem_singleton.1 hy; exact hx
  by_cases hb : b.2 = []
  ·rw [if_neg (fun e => e hb)]
   refine ⟨h.fst, ?_, hne⟩
   rw [hn.1 hb]
   exact (joinN_one x).symm
  ·rw [if_pos hb]
   refine ⟨h.fst, ?_, hne⟩
   show b.2 ++ [10] ++ x = joinN (a.2 ++ [x])
   rw [joinN_snoc _ _ (fun e => hb (hn.2 e)), h.snd]
end
end Go.Proofs.Rc
namespace Go.Proofs.Rc
open Go Go.Ef
noncomputable section
set_option maxRecDepth 100000
def pg : List (List UInt8) → List (List UInt8) → List (List UInt8)
 | cur, [] => flushG ([], cur)
 | cur, x :: r => if x = [] then flushG ([], cur) ++ pg [] r else pg (cur ++ [x]) r
theorem flush_app (g cur : List (List UInt8)) : flushG (g, cur) = g ++ flushG ([], cur) := by
 unfold flushG
 by_cases h : cur = []
 ·rw [if_pos h, if_pos h, List.append_nil]
 ·rw [if_neg h, if_neg h]; rfl
theorem pg_fold (p : List (List UInt8)) : ∀ g cur, flushG (p.foldl stepG (g, cur)) = g ++ pg cur p := by
 induction p with
 | nil => intro g cur; exact flush_app g cur
 | cons x r ih =>
  intro g cur
  have e : stepG (g, cur) x = if x = [] then (flushG (g, cur), []) else (g, cur ++ [x]) := rfl
  rw [List.foldl_cons, e]
  unfold pg
  by_cases h : x = []
  ·rw [if_pos h, if_pos h, ih, flush_app g cur, List.append_assoc]
  ·rw [if_neg h, if_neg h, ih]
theorem group_pg (p : List (List UInt8)) : groupF p = pg [] p := by
 have := pg_fold p [] []
 rw [List.nil_append] at this
 exact this
theorem pg_last (p : List (List UInt8)) : ∀ cur, pg cur (p ++ [[]]) = pg cur p := by
 induction p with
 | nil =>
  intro cur
  show pg cur [[]] = pg cur []
  unfold pg
  rw [if_pos rfl]
  show flushG ([], cur) ++ flushG ([], []) = _
  exact List.append_nil _
 | cons x r ih =>
  intro cur
  show pg cur (x :: (r ++ [[]])) = pg cur (x :: r)
  unfold pg
  by_cases h : x = []
  ·rw [if_pos h, if_pos h, ih]
  ·rw [if_neg h, if_neg h, ih]
theorem para_pg (s : List UInt8) : (paraF s).1 = pg [] (partsOf 10 s) := by
 unfold paraF
 show groupF (recF 10 s).1 = _
 rw [group_pg]
 unfold recF
 by_cases h : (partsOf 10 s).getLast? = some []
 ·rw [if_pos h]
  have e : partsOf 10 s = (partsOf 10 s).dropLast ++ [[]] := by
   have := List.dropLast_concat_getLast (parts_ne 10 s)
   rw [List.getLast?_eq_some_getLast (parts_ne 10 s)] at h
   rw [Option.some.inj h] at this
   exact this.symm
  show pg [] (partsOf 10 s).dropLast = _
  rw [e, pg_last, ← e]
 ·rw [if_neg h]
def nt : Bool → List UInt8 → Prop
 | _, [] => True
 | p, a :: r => (p = true → a ≠ 10) ∧ nt (decide (a = 10)) r
structure Good (P : List UInt8) : Prop where
 ne : P ≠ []
 two : nt true P
 last : P.getLast? ≠ some 10
theorem nt_free {x t : List UInt8} (h : (10 : UInt8) ∉ x) (ht : nt false t) : nt false (x ++ t) := by
 induction x with
 | nil => exact ht
 | cons a r ih =>
  have ha : a ≠ 10 := fun e => h (by rw [e]; simp)
  refine ⟨fun e => (by cases e), ?_⟩
  rw [decide_eq_false ha]
  exact ih (fun e => h (List.mem_cons_of_mem _ e))
theorem nt_free' {x t : List UInt8} (h : (10 : UInt8) ∉ x) (hx : x ≠ []) (ht : nt false t) : nt true (x ++ t) := by
 cases x with
 | nil => exact absurd rfl hx
 | cons a r =>
  have ha : a ≠ 10 := fun e => h (by rw [e]; simp)
  refine ⟨fun _ => ha, ?_⟩
  rw [decide_eq_false ha]
  exact nt_free (fun e => h (List.mem_cons_of_mem _ e)) ht
theorem nt_at {P : List UInt8} : ∀ {p : Bool} {k : Nat}, nt p P → P[k]? = some 10 → P[k + 1]? ≠ some 10 := by
 induction P with
 | nil => intro p k _ h; cases h
 | cons a r ih =>
  intro p k h1 h2
  cases k with
  | zero =>
   have : a = 10 := Option.some.inj h2
   have h3 := h1.2
   rw [decide_eq_true this] at h3
   intro h4
   cases r with
   | nil => cases h4
   | cons b r => exact h3.1 rfl (Option.some.inj h4)
  | succ k => exact ih h1.2 h2
structure Lines (cur : List (List UInt8)) : Prop where
 all : ∀ x ∈ cur, x ≠ [] ∧ (10 : UInt8) ∉ x
theorem Lines.good {cur : List (List UInt8)} (h : Lines cur) (hne : cur ≠ []) : Good (joinN cur) := by
 induction cur with
 | nil => exact absurd rfl hne
 | cons x r ih =>
  obtain ⟨h1, h2⟩ := h.all x (by simp)
  cases r with
  | nil =>
   rw [joinN_one]
   refine ⟨h1, ?_, fun e => h2 (List.mem_of_getLast? e)⟩
   have := nt_free' (t := []) h2 h1 trivial
   rwa [List.append_nil] at this
  | cons y r =>
   have g := ih ⟨fun z hz => h.all z (List.mem_cons_of_mem _ hz)⟩ (by simp)
   rw [joinN_cons]
   refine ⟨by simp, ?_, ?_⟩
   ·rw [List.append_assoc]
    exact nt_free' h2 h1 ⟨fun e => (by cases e), g.two⟩
   ·have := g.last
    rw [List.getLast?_eq_some_getLast g.ne] at this
    rw [List.getLast?_append, List.getLast?_eq_some_getLast g.ne]
    exact this
inductive Lay : List (List UInt8) → List UInt8 → Prop
 | nil (n : Nat) : Lay [] (List.replicate n 10)
 | cons (n : Nat) (P t : List UInt8) (L : List (List UInt8)) : Good P → (t = [] ∧ L = [] ∨ ∃ t', t = 10 :: t' ∧ (L ≠ [] → ∃ t'', t' = 10 :: t'')) → Lay L t → Lay (P :: L) (List.replicate n 10 ++ P ++ t)
theorem Lay.lf {L : List (List UInt8)} {s : List UInt8} (h : Lay L s) : Lay L (10 :: s) := by
 cases h with
 | nil n => exact .nil (n + 1)
 | cons n P t L h1 h2 h3 => exact .cons (n + 1) P t L h1 h2 h3
theorem Lay.good {L : List (List UInt8)} {s : List UInt8} (h : Lay L s) : ∀ P ∈ L, Good P := by
 induction h with
 | nil n => exact fun _ h => by cases h
 | cons n P t L h1 h2 h3 ih =>
  intro Q hQ
  rcases List.mem_cons.1 hQ with rfl | hQ
  ·exact h1
  ·exact ih Q hQ
theorem flush_ne {cur : List (List UInt8)} (h : cur ≠ []) : flushG ([], cur) = [joinN cur] := by
 unfold flushG; rw [if_neg h]; rfl
theorem lay_pg (p : List (List UInt8)) : p ≠ [] → (∀ x ∈ p, (10 : UInt8) ∉ x) → Lay (pg [] p) (joinN p) ∧ ∀ cur, cur ≠ [] → Lines cur → Lay (pg cur p) (joinN cur ++ 10 :: joinN p) := by
 induction p with
 | nil => exact fun h => absurd rfl h
 | cons x r ih =>
  intro _ hf
  have hx := hf x (by simp)
  have lines : ∀ cur, Lines cur → x ≠ [] → Lines (cur ++ [x]) := fun cur hc hx0 => ⟨fun y hy => by
   rcases List.mem_append.1 hy with hy | hy
   ·exact hc.all y hy
   ·obtain rfl := List.mem_singleton.1 hy
    exact ⟨hx0, hx⟩⟩
  have none : Lines [] := ⟨fun _ h => by cases h⟩
  cases r with
  | nil =>
   rw [joinN_one]
   unfold pg pg
   constructor
   ·by_cases h : x = []
    ·rw [if_pos h, h]; exact .nil 0
    ·rw [if_neg h, List.nil_append, flush_ne (by simp), joinN_one]
     have g := (lines [] none h).good (by simp)
     rw [List.nil_append, joinN_one] at g
     have := Lay.cons 0 x [] [] g (.inl ⟨rfl, rfl⟩) (.nil 0)
     rwa [List.append_nil] at this
   ·intro cur hc hl
    by_cases h : x = []
    ·rw [if_pos h, flush_ne hc, h]
     have := Lay.cons 0 (joinN cur) [10] [] (hl.good hc) (.inr ⟨[], rfl, fun e => absurd rfl e⟩) (.nil 1)
     exact this
    ·rw [if_neg h, flush_ne (by simp)]
     have := Lay.cons 0 (joinN (cur ++ [x])) [] [] ((lines cur hl h).good (by simp)) (.inl ⟨rfl, rfl⟩) (.nil 0)
     rw [List.append_nil] at this
     have e : joinN cur ++ 10 :: x = joinN (cur ++ [x]) := by rw [joinN_snoc _ _ hc]; simp
     rw [e]
     exact this
  | cons y r =>
   obtain ⟨i1, i2⟩ := ih (by simp) (fun z hz => hf z (List.mem_cons_of_mem _ hz))
   rw [joinN_cons]
   have step : ∀ cur, pg cur (x :: y :: r) = if x = [] then flushG ([], cur) ++ pg [] (y :: r) else pg (cur ++ [x]) (y :: r) := fun cur => by rw [pg]
   constructor
   ·rw [step]
    by_cases h : x = []
    ·rw [if_pos h, h]
     exact i1.lf
    ·rw [if_neg h, List.nil_append]
     have := i2 [x] (by simp) (by have := lines [] none h; rwa [List.nil_append] at this)
     rw [joinN_one] at this
     rw [List.append_assoc]
     exact this
   ·intro cur hc hl
    rw [step]
    by_cases h : x = []
    ·rw [if_pos h, flush_ne hc, h]
     have := Lay.cons 0 (joinN cur) (10 :: 10 :: joinN (y :: r)) _ (hl.good hc) (.inr ⟨_, rfl, fun _ => ⟨_, rfl⟩⟩) i1.lf.lf
     exact this
    ·rw [if_neg h]
     have := i2 (cur ++ [x]) (by simp) (lines cur hl h)
     rw [joinN_snoc _ _ hc] at this
     simpa using this
theorem joinN_parts (s : List UInt8) : joinN (partsOf 10 s) = s := by
 have h := joinE_parts 10 s
 have e : ∀ p : List (List UInt8), p ≠ [] → joinE 10 p = joinN p ++ [10] := by
  intro p
  induction p with
  | nil => exact fun h => absurd rfl h
  | cons a r ih =>
   intro _
   cases r with
   | nil => rw [joinN_one, joinE_cons, joinE_nil, List.append_nil]
   | cons b r => rw [joinN_cons, joinE_cons, ih (by simp)]; simp
 rw [e _ (parts_ne 10 s)] at h
 exact (List.append_inj' h rfl).1
theorem lay_para (s : List UInt8) : Lay (paraF s).1 s := by
 have := (lay_pg (partsOf 10 s) (parts_ne 10 s) (parts_free 10 s)).1
 rwa [joinN_parts, ← para_pg] at this
end
end Go.Proofs.Rc
namespace Go.Proofs.Rc
open Go Go.Ef
noncomputable section
set_option maxRecDepth 100000
theorem pg_cons (cur : List (List UInt8)) (x : List UInt8) (r : List (List UInt8)) : pg cur (x :: r) = if x = [] then flushG ([], cur) ++ pg [] r else pg (cur ++ [x]) r := by rw [pg]
theorem parts_lf (s : List UInt8) : partsOf 10 (10 :: s) = [] :: partsOf 10 s := by rw [partsOf_cons, if_pos rfl]
theorem pg_lf (s : List UInt8) : pg [] (partsOf 10 (10 :: s)) = pg [] (partsOf 10 s) := by
 rw [parts_lf, pg_cons, if_pos rfl]; rfl
theorem pg_lfs (n : Nat) (s : List UInt8) : pg [] (partsOf 10 (List.replicate n 10 ++ s)) = pg [] (partsOf 10 s) := by
 induction n with
 | zero => rfl
 | succ n ih =>
  show pg [] (partsOf 10 (10 :: (List.replicate n 10 ++ s))) = _
  rw [pg_lf, ih]
theorem parts_app (s t : List UInt8) : partsOf 10 (s ++ 10 :: t) = partsOf 10 s ++ partsOf 10 t := by
 induction s with
 | nil => exact parts_lf t
 | cons b s ih =>
  show partsOf 10 (b :: (s ++ 10 :: t)) = _
  rw [partsOf_cons, partsOf_cons, ih]
  by_cases h : b = 10
  ·rw [if_pos h, if_pos h]; rfl
  ·rw [if_neg h, if_neg h]
   cases hq : partsOf 10 s with
   | nil => exact absurd hq (parts_ne 10 s)
   | cons p r => rfl
theorem good_parts (P : List UInt8) : ∀ p, nt p P → P.getLast? ≠ some 10 → (p = true → P ≠ []) → (p = true → ∀ x ∈ partsOf 10 P, x ≠ []) ∧ ∀ x ∈ (partsOf 10 P).tail, x ≠ [] := by
 induction P with
 | nil =>
  intro p _ _ h3
  refine ⟨fun hp => absurd rfl (h3 hp), fun x hx => ?_⟩
  have e : (partsOf 10 ([] : List UInt8)).tail = [] := rfl
  rw [e] at hx
  cases hx
 | cons b l ih =>
  intro p h1 h2 _
  rw [partsOf_cons]
  by_cases hb : b = 10
  ·rw [if_pos hb]
   have h4 := h1.2
   rw [decide_eq_true hb] at h4
   have hl : l ≠ [] := by
    intro e
    rw [e, hb] at h2
    exact h2 rfl
   have h5 : l.getLast? ≠ some 10 := by
    intro e
    refine h2 ?_
    rw [List.getLast?_cons, e]; rfl
   obtain ⟨i1, i2⟩ := ih true h4 h5 (fun _ => hl)
   exact ⟨fun hp => absurd hb (h1.1 hp), fun x hx => i1 rfl x hx⟩
  ·rw [if_neg hb]
   have h4 := h1.2
   rw [decide_eq_false hb] at h4
   have h5 : l.getLast? ≠ some 10 := by
    intro e
    refine h2 ?_
    rw [List.getLast?_cons, e]; rfl
   obtain ⟨i1, i2⟩ := ih false h4 h5 (fun e => by cases e)
   cases hq : partsOf 10 l with
   | nil => exact absurd hq (parts_ne 10 l)
   | cons q r =>
    rw [hq] at i2
    have tl : ∀ x ∈ r, x ≠ [] := i2
    refine ⟨fun _ x hx => ?_, tl⟩
    rcases List.mem_cons.1 hx with rfl | hx
    ·simp
    ·exact tl x hx
theorem pg_lines (q : List (List UInt8)) (h : ∀ x ∈ q, x ≠ []) (r : List (List UInt8)) : ∀ cur, pg cur (q ++ r) = pg (cur ++ q) r := by
 induction q with
 | nil => intro cur; rw [List.append_nil]; rfl
 | cons x q ih =>
  intro cur
  show pg cur (x :: (q ++ r)) = _
  rw [pg_cons, if_neg (h x (by simp)), ih (fun y hy => h y (List.mem_cons_of_mem _ hy)), List.append_assoc]; rfl
theorem lay_only {L : List (List UInt8)} {s : List UInt8} (h : Lay L s) : pg [] (partsOf 10 s) = L := by
 induction h with
 | nil n =>
  have := pg_lfs n []
  rw [List.append_nil] at this
  rw [this]; rfl
 | cons n P t L hP ht hL ih =>
  rw [List.append_assoc, pg_lfs]
  have hparts := (good_parts P true hP.two hP.last (fun _ => hP.ne)).1 rfl
  have hne := parts_ne 10 P
  have hf : flushG ([], partsOf 10 P) = [P] := by rw [flush_ne hne, joinN_parts]
  rcases ht with ⟨rfl, rfl⟩ | ⟨t', rfl, h2⟩
  ·rw [List.append_nil]
   have := pg_lines (partsOf 10 P) hparts [] []
   rw [List.append_nil, List.nil_append] at this
   rw [this]
   exact hf
  ·rw [parts_app, pg_lines _ hparts, List.nil_append]
   rw [pg_lf] at ih
   by_cases hl : L = []
   ·have e : ∃ k, t' = List.replicate k 10 := by
     subst hl
     generalize hx : (10 : UInt8) :: t' = x at hL
     cases hL with
     | nil k =>
      cases k with
      | zero => cases hx
      | succ k => exact ⟨k, (List.cons.inj hx).2⟩
    obtain ⟨k, rfl⟩ := e
    have hk : ∃ q, partsOf 10 (List.replicate k 10) = [] :: q ∧ pg [] q = [] := by
     cases k with
     | zero => exact ⟨[], rfl, rfl⟩
     | succ k =>
      refine ⟨partsOf 10 (List.replicate k 10), parts_lf _, ?_⟩
      have := pg_lfs k []
      rw [List.append_nil] at this
      rw [this]; rfl
    obtain ⟨q, e1, e2⟩ := hk
    rw [e1, pg_cons, if_pos rfl, hf, e2, hl]; rfl
   ·obtain ⟨t'', rfl⟩ := h2 hl
    rw [parts_lf, pg_cons, if_pos rfl, hf]
    rw [pg_lf] at ih
    rw [ih]; rfl
def join2 (L : List (List UInt8)) : List UInt8 := Lib.join L [10, 10]
theorem join2_cons (x y : List UInt8) (r : List (List UInt8)) : join2 (x :: y :: r) = x ++ [10, 10] ++ join2 (y :: r) := by
 unfold join2
 rw [Lib.join_cons, Lib.join_cons]
 unfold Lib.joinTail
 simp
theorem lay_join2 (L : List (List UInt8)) : (∀ P ∈ L, Good P) → Lay L (join2 L) := by
 induction L with
 | nil => exact fun _ => .nil 0
 | cons P r ih =>
  intro h
  have i := ih fun Q hQ => h Q (List.mem_cons_of_mem _ hQ)
  cases r with
  | nil =>
   have := Lay.cons 0 P [] [] (h P (by simp)) (.inl ⟨rfl, rfl⟩) (.nil 0)
   rw [List.append_nil] at this
   show Lay [P] (Lib.join [P] [10, 10])
   rw [Lib.join_one]
   exact this
  | cons Q r =>
   rw [join2_cons, List.append_assoc]
   exact Lay.cons 0 P (10 :: 10 :: join2 (Q :: r)) _ (h P (by simp)) (.inr ⟨_, rfl, fun _ => ⟨_, rfl⟩⟩) i.lf.lf
theorem para_again (s : List UInt8) : (paraF (join2 (paraF s).1)).1 = (paraF s).1 := by
 rw [para_pg (join2 _)]
 exact lay_only (lay_join2 _ (lay_para s).good)
end
end Go.Proofs.Rc
namespace Go.Proofs.Rc
open Go Go.Ef
noncomputable section
set_option maxRecDepth 100000
theorem c17e (m : Int) (s : List UInt8) (K : AV → Prop) (h :
 s.length.le (4294967260 : Nat) ∧
 (∀ (_ : Unit), NoPara s → K (AV.tup [AV.sc (Value.slice none (0 : Nat) (0 : Nat)), AV.sc (Value.bool true)])) ∧
 ∀ (x : List (List UInt8) × Bool),
 IsPara x s →
 iteP x.snd (K (AV.tup [AV.sl (List.map strEl x.fst) (0 : Nat), AV.sc (Value.bool true)]))
 (K (AV.tup [AV.sl (List.map strEl x.fst) (0 : Nat), AV.sc (Value.bool false)]))) :
 (fun (m : Int) (s : List UInt8) (K : AV → Prop) => wpCall (tab0.addC 41 C41) (cf m) Tryz.prog 40 17 [aStr s, aStr []] heapF fun r h' => wpBack h' r K) m s K :=
 Eq.mp (by kernel_rfl) h
end
end Go.Proofs.Rc
namespace Go.Proofs.Rc
open Go Go.Ef
noncomputable section
set_option maxRecDepth 100000
variable {m : Int} {T : Tab}
def recG (t s : List UInt8) : List (List UInt8) × Bool :=
 match t with
 | [] => paraF s
 | c :: _ => recF c s
structure NoneG (t s : List UInt8) : Prop where
 eq : recG t s = ([], true)
structure IsG (q : List (List UInt8) × Bool) (t s : List UInt8) : Prop where
 eq : q = recG t s
def Cg (args : List AV) (h : Heap) : Option CSpec :=
 match args with
 | [.sc (.string s), .sc (.string t)] => some { pre := s.data.toList.length ≤ 4294967260, alts := [{ α := Unit, post := fun _ => NoneG t.data.toList s.data.toList, val := fun _ => .tup [nilA, aBool true], heap := fun _ => h }, { α := List (List UInt8) × Bool, post := fun q => IsG q t.data.toList s.data.toList, val := fun q => .tup [.sl (q.1.map strEl) 0, aBool q.2], heap := fun _ => h }] }
 | _ => none
theorem iteP_cases {b : Bool} {A B : Prop} (h1 : b = true → A) (h2 : b = false → B) : iteP b A B := by
 cases b with
 | true => rw [iteP_t]; exact h1 rfl
 | false => rw [iteP_f]; exact h2 rfl
theorem ofG {f : FuncId} {s t : List UInt8} {h : Heap} (key : EvP (cf m) Tryz.prog f [aStr s, aStr t] h fun y h' => ((recG t s = ([], true) ∧ y = .tup [nilA, aBool true]) ∨ y = .tup [.sl ((recG t s).1.map strEl) 0, aBool (recG t s).2]) ∧ h' = h) :
  ∃ a ∈ ([{ α := Unit, post := fun _ => NoneG t s, val := fun _ => .tup [nilA, aBool true], heap := fun _ => h }, { α := List (List UInt8) × Bool, post := fun q => IsG q t s, val := fun q => .tup [.sl (q.1.map strEl) 0, aBool q.2], heap := fun _ => h }] : List CAlt), ∃ x n, a.post x ∧ callP (cf m) (evCall (cf m) Tryz.prog n) f [aStr s, aStr t] h = some (a.val x, a.heap x) := by
 obtain ⟨n, y, h', h2, h3 | h3, rfl⟩ := key
 ·obtain ⟨h3, rfl⟩ := h3
  exact ⟨_, List.mem_cons_self .., (), n, ⟨h3⟩, h2⟩
 ·subst h3
  exact ⟨_, List.mem_cons_of_mem _ (List.mem_cons_self ..), recG t s, n, ⟨rfl⟩, h2⟩
theorem ok17g (O : Ok m T) : Ok m (T.addC 17 Cg) := by
 refine addC_ok O fun args h s hs hp => ?_
 unfold Cg at hs
 split at hs
 ·rename_i s0 t0
  cases hs
  obtain ⟨⟨s0⟩⟩ := s0
  obtain ⟨⟨t0⟩⟩ := t0
  have hp' : s0.length ≤ 4294967260 := hp
  refine ofG ?_
  cases t0 with
  | nil =>
   refine EvP.freshK (ok41 tab0_ok) (n := 40) (by kernel_rfl) (by kernel_rfl) (args' := [aStr s0, aStr []]) rfl (c17e m s0 _ ⟨hp', fun _ hn => .inl ⟨hn.eq, rfl⟩, fun q hq => ?_⟩)
   obtain rfl : q = recG [] s0 := hq.eq
   exact iteP_cases (fun hb => .inr (by rw [hb]; rfl)) (fun hb => .inr (by rw [hb]; rfl))
  | cons c r =>
   obtain ⟨a, ha, x, n, h3, h4⟩ := (ok17 (m := m) tab0_ok).call 17 C17 [aStr s0, aStr (c :: r)] h _ rfl rfl (show s0.length ≤ 4294967280 by omega)
   obtain rfl := List.mem_singleton.1 ha
   refine ⟨n, _, _, h4, .inr ?_, rfl⟩
   have h3 : x = recF c s0 := h3.eq
   rw [h3]; rfl
 ·cases hs
end
end Go.Proofs.Rc
namespace Go.Proofs.Rc
open Go Go.Ef
noncomputable section
def I10 (s : List UInt8) (els : List (List AV)) (a i : Int) : St := stOf 166 [(0, sStr s), (3, sSl els 0), (5, sInt a), (6, sInt i)] [] heap0
def E10 (s : List UInt8) (els : List (List AV)) (a : Int) : St := stOf 166 [(0, sStr s), (2, .unk), (3, sSl els 0), (5, sInt a)] [] heap0
def I10n (s : List UInt8) : St := stOf 166 [(0, sStr s), (3, sNil), (5, sInt 0), (6, sInt 0)] [] heap0
def E10n (s : List UInt8) : St := stOf 166 [(0, sStr s), (2, .unk), (3, sNil), (5, sInt 0)] [] heap0
def I11 (s : List UInt8) (els : List (List AV)) (a i n k : Int) : St := stOf 166 [(0, sStr s), (3, sSl els 0), (5, sInt a), (6, sInt i), (7, sInt n), (8, sInt k)] [] heap0
def E11 (s : List UInt8) (els : List (List AV)) (a i n : Int) : St := stOf 166 [(0, sStr s), (2, .unk), (3, sSl els 0), (5, sInt a), (6, sInt i), (7, sInt n)] [] heap0
def I15 (s : List UInt8) (els : List (List AV)) (a i n : Int) : St := stOf 166 [(0, sStr s), (3, sSl els 0), (5, sInt a), (6, sInt i), (7, sInt n)] [] heap0
def I20 (s : List UInt8) (els : List (List AV)) (a : Int) : St := stOf 166 [(0, sStr s), (3, sSl els 0), (5, sInt a)] [] heap0
def E20 (els : List (List AV)) : St := stOf 166 [(2, .unk), (3, sSl els 0)] [] heap0
def I20n (s : List UInt8) (a : Int) : St := stOf 166 [(0, sStr s), (3, sNil), (5, sInt a)] [] heap0
def E20n : St := stOf 166 [(2, .unk), (3, sNil)] [] heap0
def I31 (els : List (List AV)) (t out : List UInt8) (i : Int) : St := stOf 25 [(0, sSl els 0), (1, sStr t), (5, sStr out), (6, sInt i)] [] heapF
def E31 (out : List UInt8) : St := stOf 25 [(5, sStr out)] [] heapF
def qEx (X : Nat → Prop) (e : Ex) : Prop :=
 match e with
 | .exit k => X k
 | _ => False
structure NoTwo (els : List (List AV)) (i n : Int) : Prop where
 is : ∃ (j : Nat) (P : List UInt8), i = j ∧ els[j]? = some (strEl P) ∧ n = P.length ∧ nt true P ∧ P.length ≤ 4294967280
structure SkipOk (s : List UInt8) (a : Int) : Prop where
 is : ∃ (b n : Nat) (r : List UInt8), a = b ∧ b ≤ s.length ∧ s.length ≤ 4294967280 ∧ s.drop b = List.replicate n 10 ++ r ∧ r.head? ≠ some 10
structure IsSkip (s : List UInt8) (a a' : Int) : Prop where
 is : ∀ (b n : Nat) (r : List UInt8), a = b → s.drop b = List.replicate n 10 ++ r → r.head? ≠ some 10 → a' = ((b + n : Nat) : Int)
structure HasLay (s : List UInt8) (els : List (List AV)) : Prop where
 is : ∃ L : List (List UInt8), els = L.map strEl ∧ Lay L s ∧ s.length ≤ 4294967270
structure Rest (s : List UInt8) (a : Int) : Prop where
 is : ∃ b n : Nat, a = b ∧ b ≤ s.length ∧ s.length ≤ 4294967280 ∧ s.drop b = List.replicate n 10
structure Join2Ok (els : List (List AV)) : Prop where
 is : ∃ L : List (List UInt8), els = L.map strEl ∧ (join2 L).length ≤ 4294967280 ∧ L.length ≤ 4294967280
structure IsJoin2 (x : List UInt8) (els : List (List AV)) : Prop where
 is : ∀ L : List (List UInt8), els = L.map strEl → x = join2 L
def C17p (args : List AV) (h : Heap) : Option CSpec :=
 match args with
 | [.sc (.string s), .sc (.string t)] => match t.data.toList with
  | [] => some { pre := s.data.toList.length ≤ 4294967260, alts := [{ α := Unit, post := fun _ => NoPara s.data.toList, val := fun _ => .tup [nilA, aBool true], heap := fun _ => h }, { α := List (List UInt8) × Bool, post := fun q => IsPara q s.data.toList, val := fun q => .tup [.sl (q.1.map strEl) 0, aBool q.2], heap := fun _ => h }] }
  | _ => none
 | _ => none
def C31 (args : List AV) (h : Heap) : Option CSpec :=
 match args with
 | [.sl els 0, .sc (.string t)] => match t.data.toList with
  | [10, 10] => some { pre := Join2Ok els, alts := [{ α := List UInt8, post := fun x => IsJoin2 x els, val := fun x => aStr x, heap := fun _ => h }] }
  | _ => none
 | [.sc (.slice none 0 0), .sc (.string t)] => match t.data.toList with
  | [10, 10] => some (fspec True (aStr []) h)
  | _ => none
 | _ => none
end
end Go.Proofs.Rc
namespace Go.Proofs.Rc
open Go Go.Ef
noncomputable section
set_option maxRecDepth 100000
theorem r31 (m : Int) (els : List (List AV)) (t : List UInt8) (out : List UInt8) (i : Int) (N : List UInt8 → Int → Prop) (X : Nat → List UInt8 → Prop) (h :
 iteP (decide (i < (↑els.length : Int)))
 (iteP (decide ((0 : Int) < i))
 (iteP (strFits out t)
 (iteP (inRange i els.length)
 (getI i.toNat els = some [AV.sc (Value.string (ByteArray.mk (Array.mk (cellStr els i (0 : Nat)))))] ∧
 iteP (strFits (out ++ t) (cellStr els i (0 : Nat)))
 (I31 els t (out ++ t ++ cellStr els i (0 : Nat)) (IntKind.i64.wrap (i + (1 : Int))) =
 I31 els t (out ++ t ++ cellStr els i (0 : Nat)) (IntKind.i64.wrap (i + (1 : Int))) ∧
 N (out ++ t ++ cellStr els i (0 : Nat)) (IntKind.i64.wrap (i + (1 : Int))))
 False)
 False)
 False)
 (iteP (inRange i els.length)
 (getI i.toNat els = some [AV.sc (Value.string (ByteArray.mk (Array.mk (cellStr els i (0 : Nat)))))] ∧
 iteP (strFits out (cellStr els i (0 : Nat)))
 (I31 els t (out ++ cellStr els i (0 : Nat)) (IntKind.i64.wrap (i + (1 : Int))) =
 I31 els t (out ++ cellStr els i (0 : Nat)) (IntKind.i64.wrap (i + (1 : Int))) ∧
 N (out ++ cellStr els i (0 : Nat)) (IntKind.i64.wrap (i + (1 : Int))))
 False)
 False))
 (E31 out = E31 out ∧ X (0 : Nat) out)) :
 (fun (m : Int) (els : List (List AV)) (t out : List UInt8) (i : Int) (N : List UInt8 → Int → Prop) (X : Nat → List UInt8 → Prop) => wpRound tab0 (cf m) Tryz.prog 40 31 4 (I31 els t out i) (fun τ => τ = I31 els t (slS τ 5) (slI τ 6) ∧ N (slS τ 5) (slI τ 6)) (fun e τ => qEx (fun k => τ = E31 (slS τ 5) ∧ X k (slS τ 5)) e)) m els t out i N X :=
 Eq.mp (by kernel_rfl) h
theorem r11 (m : Int) (s : List UInt8) (els : List (List AV)) (a : Int) (i : Int) (n : Int) (k : Int) (N : Int → Prop) (X : Nat → Prop) (h :
 iteP (decide (k < n))
 (iteP (inRange i els.length)
 (getI i.toNat els = some [AV.sc (Value.string (ByteArray.mk (Array.mk (cellStr els i (0 : Nat)))))] ∧
 iteP (inRange (IntKind.i64.wrap (k - (1 : Int))) (cellStr els i (0 : Nat)).length)
 (iteP (byteAt (cellStr els i (0 : Nat)) (IntKind.i64.wrap (k - (1 : Int))) == (10 : Int))
 (iteP (inRange i els.length)
 (getI i.toNat els = some [AV.sc (Value.string (ByteArray.mk (Array.mk (cellStr els i (0 : Nat)))))] ∧
 iteP (inRange k (cellStr els i (0 : Nat)).length)
 (iteP (byteAt (cellStr els i (0 : Nat)) k == (10 : Int)) False
 (I11 s els a i n (IntKind.i64.wrap (k + (1 : Int))) =
 I11 s els a i n (IntKind.i64.wrap (k + (1 : Int))) ∧
 N (IntKind.i64.wrap (k + (1 : Int)))))
 False)
 False)
 (I11 s els a i n (IntKind.i64.wrap (k + (1 : Int))) = I11 s els a i n (IntKind.i64.wrap (k + (1 : Int))) ∧
 N (IntKind.i64.wrap (k + (1 : Int)))))
 False)
 False)
 (E11 s els a i n = E11 s els a i n ∧ X (2 : Nat))) :
 (fun (m : Int) (s : List UInt8) (els : List (List AV)) (a i n k : Int) (N : Int → Prop) (X : Nat → Prop) => wpRound tab0 (cf m) Tryz.prog 40 10 11 (I11 s els a i n k) (fun τ => τ = I11 s els a i n (slI τ 8) ∧ N (slI τ 8)) (fun e τ => qEx (fun k => τ = E11 s els a i n ∧ X k) e)) m s els a i n k N X :=
 Eq.mp (by kernel_rfl) h
theorem r15 (m : Int) (s : List UInt8) (els : List (List AV)) (a : Int) (i : Int) (n : Int) (N : Int → Prop) (X : Nat → Prop) (h :
 iteP (decide (a < (↑s.length : Int)))
 (iteP (inRange a s.length)
 (iteP (byteAt s a == (10 : Int))
 (I15 s els (IntKind.i64.wrap (a + (1 : Int))) i n = I15 s els (IntKind.i64.wrap (a + (1 : Int))) i n ∧
 N (IntKind.i64.wrap (a + (1 : Int))))
 (I15 s els a i n = I15 s els a i n ∧ X (4 : Nat)))
 False)
 (I15 s els a i n = I15 s els a i n ∧ X (4 : Nat))) :
 (fun (m : Int) (s : List UInt8) (els : List (List AV)) (a i n : Int) (N : Int → Prop) (X : Nat → Prop) => wpRound tab0 (cf m) Tryz.prog 40 10 15 (I15 s els a i n) (fun τ => τ = I15 s els (slI τ 5) i n ∧ N (slI τ 5)) (fun e τ => qEx (fun k => τ = I15 s els a i n ∧ X k) e)) m s els a i n N X :=
 Eq.mp (by kernel_rfl) h
theorem r20 (m : Int) (s : List UInt8) (els : List (List AV)) (a : Int) (N : Int → Prop) (X : Nat → Prop) (h :
 iteP (decide (a < (↑s.length : Int)))
 (iteP (inRange a s.length)
 (iteP (byteAt s a != (10 : Int)) False
 (I20 s els (IntKind.i64.wrap (a + (1 : Int))) = I20 s els (IntKind.i64.wrap (a + (1 : Int))) ∧
 N (IntKind.i64.wrap (a + (1 : Int)))))
 False)
 (E20 els = E20 els ∧ X (6 : Nat))) :
 (fun (m : Int) (s : List UInt8) (els : List (List AV)) (a : Int) (N : Int → Prop) (X : Nat → Prop) => wpRound tab0 (cf m) Tryz.prog 40 10 20 (I20 s els a) (fun τ => τ = I20 s els (slI τ 5) ∧ N (slI τ 5)) (fun e τ => qEx (fun k => τ = E20 els ∧ X k) e)) m s els a N X :=
 Eq.mp (by kernel_rfl) h
theorem r20n (m : Int) (s : List UInt8) (a : Int) (N : Int → Prop) (X : Nat → Prop) (h :
 iteP (decide (a < (↑s.length : Int)))
 (iteP (inRange a s.length)
 (iteP (byteAt s a != (10 : Int)) False
 (I20n s (IntKind.i64.wrap (a + (1 : Int))) = I20n s (IntKind.i64.wrap (a + (1 : Int))) ∧
 N (IntKind.i64.wrap (a + (1 : Int)))))
 False)
 (E20n = E20n ∧ X (6 : Nat))) :
 (fun (m : Int) (s : List UInt8) (a : Int) (N : Int → Prop) (X : Nat → Prop) => wpRound tab0 (cf m) Tryz.prog 40 10 20 (I20n s a) (fun τ => τ = I20n s (slI τ 5) ∧ N (slI τ 5)) (fun e τ => qEx (fun k => τ = E20n ∧ X k) e)) m s a N X :=
 Eq.mp (by kernel_rfl) h
end
end Go.Proofs.Rc
namespace Go.Proofs.Rc
open Go Go.Ef
noncomputable section
set_option maxRecDepth 100000
variable {m : Int} {T : Tab}
theorem qEx_inv {X : Nat → Prop} {e : Ex} (h : qEx X e) : ∃ k, e = .exit k ∧ X k := by
 unfold qEx at h
 split at h
 ·exact ⟨_, rfl, h⟩
 ·exact h.elim
theorem join2_snoc (q : List (List UInt8)) (x : List UInt8) : join2 (q ++ [x]) = if q = [] then x else join2 q ++ [10, 10] ++ x := by
 induction q with
 | nil =>
  rw [if_pos rfl]
  show Lib.join [x] [10, 10] = x
  rw [Lib.join_one]
 | cons a r ih =>
  rw [if_neg (by simp)]
  cases r with
  | nil =>
   show join2 [a, x] = Lib.join [a] [10, 10] ++ [10, 10] ++ x
   rw [join2_cons, Lib.join_one]
   show a ++ [10, 10] ++ Lib.join [x] [10, 10] = _
   rw [Lib.join_one]
  | cons b r =>
   rw [if_neg (by simp)] at ih
   show join2 (a :: b :: (r ++ [x])) = _
   have e : join2 (b :: (r ++ [x])) = join2 (b :: r) ++ [10, 10] ++ x := ih
   rw [join2_cons, join2_cons, e]; simp
theorem join2_mono (r : List (List UInt8)) : ∀ q, (join2 q).length ≤ (join2 (q ++ r)).length := by
 induction r with
 | nil => intro q; rw [List.append_nil]; exact Nat.le_refl _
 | cons x r ih =>
  intro q
  have h1 := ih (q ++ [x])
  rw [List.append_assoc] at h1
  refine Nat.le_trans ?_ h1
  rw [join2_snoc]
  by_cases h : q = []
  ·rw [if_pos h, h]; exact Nat.zero_le _
  ·rw [if_neg h]; simp
theorem join2_take {L : List (List UInt8)} {i : Nat} (h : i < L.length) : join2 (L.take (i + 1)) = if i = 0 then L[i] else join2 (L.take i) ++ [10, 10] ++ L[i] := by
 rw [List.take_succ_eq_append_getElem h, join2_snoc]
 by_cases h0 : i = 0
 ·rw [if_pos h0, if_pos (by rw [h0, List.take_zero])]
 ·rw [if_neg h0, if_neg (fun e => by
   have := congrArg List.length e
   simp only [List.length_take, List.length_nil] at this
   omega)]
theorem loop31 (m : Int) (L : List (List UInt8)) (hL : (join2 L).length ≤ 4294967280) (hl : L.length ≤ 4294967280) : ∀ (f i : Nat), L.length - i = f → i ≤ L.length →
  Ev (cf m) Tryz.prog 31 (.loop (loopAt Tryz.prog 31 4)) (I31 (L.map strEl) [10, 10] (join2 (L.take i)) i) fun e τ => e = .exit 0 ∧ τ = E31 (join2 L) := by
 have can : ∀ (out : List UInt8) (i : Nat), (I31 (L.map strEl) [10, 10] out i).tidy [0, 1, 5, 6] 0 = I31 (L.map strEl) [10, 10] out i := fun out i => by kernel_rfl
 intro f
 induction f with
 | zero =>
  intro i hf hi
  refine Ev.round (t := ⟨[0, 1, 5, 6], [5], 0⟩) tab0_ok (by kernel_rfl) rfl (can _ i) (r31 m _ _ _ i (fun _ _ => False) (fun k out => k = 0 ∧ out = join2 L) ?_) (fun τ h => h.2.elim) (fun e τ h => ?_)
  ·rw [cells_len, decide_eq_false (show ¬ (i : Int) < (L.length : Int) by omega), iteP_f]
   exact ⟨rfl, rfl, by rw [List.take_of_length_le (by omega)]⟩
  ·obtain ⟨k, rfl, h1, rfl, h2⟩ := qEx_inv h
   rw [h2] at h1
   exact ⟨rfl, h1⟩
 | succ f ih =>
  intro i hf hi
  have hlt : i < L.length := by omega
  have hx : L[i]? = some L[i] := List.getElem?_eq_getElem _
  have hw : IntKind.i64.wrap ((i : Int) + 1) = ((i + 1 : Nat) : Int) := by rw [wrap_in (by omega) (by omega)]; rfl
  have ht := join2_take hlt
  have hle : (join2 (L.take (i + 1))).length ≤ (join2 L).length := by
   have := join2_mono (L.drop (i + 1)) (L.take (i + 1))
   rwa [List.take_append_drop] at this
  refine Ev.round (t := ⟨[0, 1, 5, 6], [5], 0⟩) tab0_ok (by kernel_rfl) rfl (can _ i) (r31 m _ _ _ i (fun out i' => out = join2 (L.take (i + 1)) ∧ i' = ((i + 1 : Nat) : Int)) (fun _ _ => False) ?_) (fun τ h => ?_) (fun e τ h => ?_)
  ·rw [cells_len, decide_eq_true (show (i : Int) < (L.length : Int) by omega), iteP_t, hw, show inRange (i : Int) L.length = true by rw [inRange_iff]; omega, cell_str hx, iteP_t, iteP_t]
   by_cases h0 : i = 0
   ·rw [if_pos h0] at ht
    rw [decide_eq_false (show ¬ (0 : Int) < (i : Int) by omega), iteP_f]
    refine ⟨by have := cell_some hx; rwa [cell_str hx] at this, ?_⟩
    have e : join2 (L.take i) = [] := by rw [h0]; rfl
    rw [e, fits_any (by simp; rw [← ht]; omega), iteP_t, List.nil_append, ← ht]
    exact ⟨rfl, rfl, rfl⟩
   ·rw [if_neg h0] at ht
    have hlen := congrArg List.length ht
    simp at hlen
    rw [decide_eq_true (show (0 : Int) < (i : Int) by omega), iteP_t, fits_any (by simp; omega), iteP_t]
    refine ⟨by have := cell_some hx; rwa [cell_str hx] at this, ?_⟩
    rw [fits_any (by simp; omega), iteP_t, ← ht]
    exact ⟨rfl, rfl, rfl⟩
  ·obtain ⟨h1, h2, h3⟩ := h
   rw [h2, h3] at h1
   rw [h1]
   exact ih (i + 1) (by omega) (by omega)
  ·obtain ⟨k, rfl, h1, h2⟩ := qEx_inv h
   exact h2.elim
theorem loop11 (m : Int) (s : List UInt8) (els : List (List AV)) (a : Int) (j : Nat) (P : List UInt8) (hj : els[j]? = some (strEl P)) (hP : nt true P) (hl : P.length ≤ 4294967280) : ∀ (f k : Nat), P.length - k = f → 1 ≤ k →
  Ev (cf m) Tryz.prog 10 (.loop (loopAt Tryz.prog 10 11)) (I11 s els a j P.length k) fun e τ => e = .exit 2 ∧ τ = E11 s els a j P.length := by
 have can : ∀ k : Nat, (I11 s els a j P.length k).tidy [0, 3, 5, 6, 7, 8] 0 = I11 s els a j P.length k := fun k => by kernel_rfl
 have hjl : j < els.length := (List.getElem?_eq_some_iff.1 hj).1
 intro f
 induction f with
 | zero =>
  intro k hf hk
  refine Ev.round (t := ⟨[0, 3, 5, 6, 7, 8], [0, 2, 3, 5, 6, 7], 0⟩) tab0_ok (by kernel_rfl) rfl (can k) (r11 m s els a j P.length k (fun _ => False) (fun k => k = 2) ?_) (fun τ h => h.2.elim) (fun e τ h => ?_)
  ·rw [decide_eq_false (by omega), iteP_f]
   exact ⟨rfl, rfl⟩
  ·obtain ⟨k, rfl, h1, rfl⟩ := qEx_inv h
   exact ⟨rfl, h1⟩
 | succ f ih =>
  intro k hf hk
  have hlt : k < P.length := by omega
  have hw : IntKind.i64.wrap ((k : Int) + 1) = ((k + 1 : Nat) : Int) := by rw [wrap_in (by omega) (by omega)]; rfl
  have hw' : IntKind.i64.wrap ((k : Int) - 1) = ((k - 1 : Nat) : Int) := by rw [wrap_in (by omega) (by omega)]; omega
  have hc : cellStr els (j : Int) 0 = P := by unfold cellStr cellAt; rw [Int.toNat_natCast, getI_eq, hj]; rfl
  have hg : getI (j : Int).toNat els = some [AV.sc (Value.string (ByteArray.mk (Array.mk P)))] := by rw [Int.toNat_natCast, getI_eq]; exact hj
  refine Ev.round (t := ⟨[0, 3, 5, 6, 7, 8], [0, 2, 3, 5, 6, 7], 0⟩) tab0_ok (by kernel_rfl) rfl (can k) (r11 m s els a j P.length k (fun k' => k' = ((k + 1 : Nat) : Int)) (fun _ => False) ?_) (fun τ h => ?_) (fun e τ h => ?_)
  ·rw [decide_eq_true (by omega), iteP_t, hc, hw, hw', show inRange (j : Int) els.length = true by rw [inRange_iff]; omega, iteP_t]
   refine ⟨hg, ?_⟩
   rw [show inRange ((k - 1 : Nat) : Int) P.length = true by rw [inRange_iff]; omega, iteP_t, byteAt_nat (show k - 1 < P.length by omega), show (10 : Int) = ((10 : UInt8).toNat : Int) from rfl, beq_byte]
   by_cases h0 : P[k - 1] = 10
   ·rw [decide_eq_true h0, iteP_t, iteP_t]
    refine ⟨hg, ?_⟩
    have hn := nt_at hP (k := k - 1) (by rw [List.getElem?_eq_getElem (show k - 1 < P.length by omega), h0])
    rw [Nat.sub_add_cancel hk, List.getElem?_eq_getElem hlt] at hn
    rw [show inRange (k : Int) P.length = true by rw [inRange_iff]; omega, iteP_t, byteAt_nat hlt, beq_byte, decide_eq_false (fun e => hn (by rw [e])), iteP_f]
    exact ⟨rfl, rfl⟩
   ·rw [decide_eq_false h0, iteP_f]
    exact ⟨rfl, rfl⟩
  ·obtain ⟨h1, h2⟩ := h
   rw [h2] at h1
   rw [h1]
   exact ih (k + 1) (by omega) (by omega)
  ·obtain ⟨k, rfl, h1, h2⟩ := qEx_inv h
   exact h2.elim
theorem loop15 (m : Int) (s : List UInt8) (els : List (List AV)) (i n : Int) (r : List UInt8) (hr : r.head? ≠ some 10) (hs : s.length ≤ 4294967280) : ∀ (k b : Nat), s.drop b = List.replicate k 10 ++ r → b ≤ s.length →
  Ev (cf m) Tryz.prog 10 (.loop (loopAt Tryz.prog 10 15)) (I15 s els b i n) fun e τ => e = .exit 4 ∧ τ = I15 s els ((b + k : Nat) : Int) i n := by
 have can : ∀ b : Nat, (I15 s els b i n).tidy [0, 3, 5, 6, 7] 0 = I15 s els b i n := fun b => by kernel_rfl
 intro k
 induction k with
 | zero =>
  intro b h hb
  refine Ev.round (t := ⟨[0, 3, 5, 6, 7], [0, 3, 5, 6, 7], 0⟩) tab0_ok (by kernel_rfl) rfl (can b) (r15 m s els b i n (fun _ => False) (fun k => k = 4) ?_) (fun τ h => h.2.elim) (fun e τ h => ?_)
  ·cases r with
   | nil =>
    have hlen := congrArg List.length h
    simp at hlen
    rw [decide_eq_false (by omega), iteP_f]
    exact ⟨rfl, rfl⟩
   | cons c r =>
    have h : s.drop (b : Int).toNat = c :: r := h
    obtain ⟨h1, h2, _⟩ := byteAt_drop h
    rw [Int.toNat_natCast] at h2
    rw [decide_eq_true (by omega), iteP_t, show inRange (b : Int) s.length = true by rw [inRange_iff]; omega, iteP_t, h1, show (10 : Int) = ((10 : UInt8).toNat : Int) from rfl, beq_byte, decide_eq_false (fun e => hr (by rw [e]; rfl)), iteP_f]
    exact ⟨rfl, rfl⟩
  ·obtain ⟨k, rfl, h1, rfl⟩ := qEx_inv h
   exact ⟨rfl, h1⟩
 | succ k ih =>
  intro b h hb
  have h : s.drop (b : Int).toNat = 10 :: (List.replicate k 10 ++ r) := h
  obtain ⟨h1, h2, h3⟩ := byteAt_drop h
  rw [Int.toNat_natCast] at h2 h3
  have hw : IntKind.i64.wrap ((b : Int) + 1) = ((b + 1 : Nat) : Int) := by rw [wrap_in (by omega) (by omega)]; rfl
  refine Ev.round (t := ⟨[0, 3, 5, 6, 7], [0, 3, 5, 6, 7], 0⟩) tab0_ok (by kernel_rfl) rfl (can b) (r15 m s els b i n (fun b' => b' = ((b + 1 : Nat) : Int)) (fun _ => False) ?_) (fun τ h => ?_) (fun e τ h => ?_)
  ·rw [decide_eq_true (by omega), iteP_t, show inRange (b : Int) s.length = true by rw [inRange_iff]; omega, iteP_t, h1, show ((((10 : UInt8).toNat : Int)) == (10 : Int)) = true from rfl, iteP_t, hw]
   exact ⟨rfl, rfl⟩
  ·obtain ⟨h4, h5⟩ := h
   rw [h5] at h4
   rw [h4]
   have := ih (b + 1) h3 (by omega)
   rwa [show b + 1 + k = b + (k + 1) by omega] at this
  ·obtain ⟨k, rfl, h1, h2⟩ := qEx_inv h
   exact h2.elim
theorem loop20 (m : Int) (s : List UInt8) (els : List (List AV)) (hs : s.length ≤ 4294967280) : ∀ (k b : Nat), s.drop b = List.replicate k 10 → b ≤ s.length →
  Ev (cf m) Tryz.prog 10 (.loop (loopAt Tryz.prog 10 20)) (I20 s els b) fun e τ => e = .exit 6 ∧ τ = E20 els := by
 have can : ∀ b : Nat, (I20 s els b).tidy [0, 3, 5] 0 = I20 s els b := fun b => by kernel_rfl
 intro k
 induction k with
 | zero =>
  intro b h hb
  refine Ev.round (t := ⟨[0, 3, 5], [2, 3], 0⟩) tab0_ok (by kernel_rfl) rfl (can b) (r20 m s els b (fun _ => False) (fun k => k = 6) ?_) (fun τ h => h.2.elim) (fun e τ h => ?_)
  ·have hlen := congrArg List.length h
   simp at hlen
   rw [decide_eq_false (by omega), iteP_f]
   exact ⟨rfl, rfl⟩
  ·obtain ⟨k, rfl, h1, rfl⟩ := qEx_inv h
   exact ⟨rfl, h1⟩
 | succ k ih =>
  intro b h hb
  have h : s.drop (b : Int).toNat = 10 :: List.replicate k 10 := h
  obtain ⟨h1, h2, h3⟩ := byteAt_drop h
  rw [Int.toNat_natCast] at h2 h3
  have hw : IntKind.i64.wrap ((b : Int) + 1) = ((b + 1 : Nat) : Int) := by rw [wrap_in (by omega) (by omega)]; rfl
  refine Ev.round (t := ⟨[0, 3, 5], [2, 3], 0⟩) tab0_ok (by kernel_rfl) rfl (can b) (r20 m s els b (fun b' => b' = ((b + 1 : Nat) : Int)) (fun _ => False) ?_) (fun τ h => ?_) (fun e τ h => ?_)
  ·rw [decide_eq_true (by omega), iteP_t, show inRange (b : Int) s.length = true by rw [inRange_iff]; omega, iteP_t, h1, show ((((10 : UInt8).toNat : Int)) != (10 : Int)) = false from rfl, iteP_f, hw]
   exact ⟨rfl, rfl⟩
  ·obtain ⟨h4, h5⟩ := h
   rw [h5] at h4
   rw [h4]
   exact ih (b + 1) h3 (by omega)
  ·obtain ⟨k, rfl, h1, h2⟩ := qEx_inv h
   exact h2.elim
theorem loop20n (m : Int) (s : List UInt8) (hs : s.length ≤ 4294967280) : ∀ (k b : Nat), s.drop b = List.replicate k 10 → b ≤ s.length →
  Ev (cf m) Tryz.prog 10 (.loop (loopAt Tryz.prog 10 20)) (I20n s b) fun e τ => e = .exit 6 ∧ τ = E20n := by
 have can : ∀ b : Nat, (I20n s b).tidy [0, 3, 5] 0 = I20n s b := fun b => by kernel_rfl
 intro k
 induction k with
 | zero =>
  intro b h hb
  refine Ev.round (t := ⟨[0, 3, 5], [2, 3], 0⟩) tab0_ok (by kernel_rfl) rfl (can b) (r20n m s b (fun _ => False) (fun k => k = 6) ?_) (fun τ h => h.2.elim) (fun e τ h => ?_)
  ·have hlen := congrArg List.length h
   simp at hlen
   rw [decide_eq_false (by omega), iteP_f]
   exact ⟨rfl, rfl⟩
  ·obtain ⟨k, rfl, h1, rfl⟩ := qEx_inv h
   exact ⟨rfl, h1⟩
 | succ k ih =>
  intro b h hb
  have h : s.drop (b : Int).toNat = 10 :: List.replicate k 10 := h
  obtain ⟨h1, h2, h3⟩ := byteAt_drop h
  rw [Int.toNat_natCast] at h2 h3
  have hw : IntKind.i64.wrap ((b : Int) + 1) = ((b + 1 : Nat) : Int) := by rw [wrap_in (by omega) (by omega)]; rfl
  refine Ev.round (t := ⟨[0, 3, 5], [2, 3], 0⟩) tab0_ok (by kernel_rfl) rfl (can b) (r20n m s b (fun b' => b' = ((b + 1 : Nat) : Int)) (fun _ => False) ?_) (fun τ h => ?_) (fun e τ h => ?_)
  ·rw [decide_eq_true (by omega), iteP_t, show inRange (b : Int) s.length = true by rw [inRange_iff]; omega, iteP_t, h1, show ((((10 : UInt8).toNat : Int)) != (10 : Int)) = false from rfl, iteP_f, hw]
   exact ⟨rfl, rfl⟩
  ·obtain ⟨h4, h5⟩ := h
   rw [h5] at h4
   rw [h4]
   exact ih (b + 1) h3 (by omega)
  ·obtain ⟨k, rfl, h1, h2⟩ := qEx_inv h
   exact h2.elim
end
end Go.Proofs.Rc
namespace Go.Proofs.Rc
open Go Go.Ef
noncomputable section
set_option maxRecDepth 100000
variable {m : Int} {T : Tab}
def L11 (σ : St) : Option LSpec := some { pre := σ.tidy [0, 3, 5, 6, 7, 8] 0 = I11 (slS σ 0) (slEls σ 3) (slI σ 5) (slI σ 6) (slI σ 7) 1 ∧ NoTwo (slEls σ 3) (slI σ 6) (slI σ 7), alts := [{ α := Unit, post := fun _ => True, ex := .exit 2, st := fun _ => E11 (slS σ 0) (slEls σ 3) (slI σ 5) (slI σ 6) (slI σ 7) }] }
def L15 (σ : St) : Option LSpec := some { pre := σ.tidy [0, 3, 5, 6, 7] 0 = I15 (slS σ 0) (slEls σ 3) (slI σ 5) (slI σ 6) (slI σ 7) ∧ SkipOk (slS σ 0) (slI σ 5), alts := [{ α := Int, post := fun a => IsSkip (slS σ 0) (slI σ 5) a, ex := .exit 4, st := fun a => I15 (slS σ 0) (slEls σ 3) a (slI σ 6) (slI σ 7) }] }
def L31 (σ : St) : Option LSpec := some { pre := σ.tidy [0, 1, 5, 6] 0 = I31 (slEls σ 0) [10, 10] [] 0 ∧ Join2Ok (slEls σ 0), alts := [{ α := List UInt8, post := fun x => IsJoin2 x (slEls σ 0), ex := .exit 0, st := fun x => E31 x }] }
theorem ok11L (O : Ok m T) : Ok m (T.addL 10 11 L11) := by
 refine addL_ok O fun σ s hs hp => ?_
 cases hs
 obtain ⟨e, j, P, h1, h2, h3, h4, h5⟩ := hp
 have he : Ev (cf m) Tryz.prog 10 (.loop (loopAt Tryz.prog 10 11)) σ fun e τ => e = .exit 2 ∧ τ = E11 (slS σ 0) (slEls σ 3) (slI σ 5) (slI σ 6) (slI σ 7) := by
  refine Ev.tidied (t := ⟨[0, 3, 5, 6, 7, 8], [0, 2, 3, 5, 6, 7], 0⟩) (τ := I11 (slS σ 0) (slEls σ 3) (slI σ 5) (slI σ 6) (slI σ 7) 1) (by kernel_rfl) (by rw [e]; kernel_rfl) ?_
  rw [h1, h3]
  exact loop11 m (slS σ 0) (slEls σ 3) (slI σ 5) j P h2 h4 h5 _ 1 rfl (Nat.le_refl _)
 obtain ⟨n, ex, τ, h6, rfl, rfl⟩ := he
 exact ⟨_, List.mem_singleton.2 rfl, (), trivial, n, h6⟩
theorem ok15L (O : Ok m T) : Ok m (T.addL 10 15 L15) := by
 refine addL_ok O fun σ s hs hp => ?_
 cases hs
 obtain ⟨e, b, k, r, h1, h2, h3, h4, h5⟩ := hp
 have he : Ev (cf m) Tryz.prog 10 (.loop (loopAt Tryz.prog 10 15)) σ fun e τ => e = .exit 4 ∧ τ = I15 (slS σ 0) (slEls σ 3) ((b + k : Nat) : Int) (slI σ 6) (slI σ 7) := by
  refine Ev.tidied (t := ⟨[0, 3, 5, 6, 7], [0, 3, 5, 6, 7], 0⟩) (τ := I15 (slS σ 0) (slEls σ 3) (slI σ 5) (slI σ 6) (slI σ 7)) (by kernel_rfl) (by rw [e]; kernel_rfl) ?_
  rw [h1]
  exact loop15 m (slS σ 0) (slEls σ 3) (slI σ 6) (slI σ 7) r h5 h3 k b h4 h2
 obtain ⟨n, ex, τ, h6, rfl, rfl⟩ := he
 refine ⟨_, List.mem_singleton.2 rfl, ((b + k : Nat) : Int), ⟨fun b' k' r' e1 e2 e3 => ?_⟩, n, h6⟩
 have hb : b' = b := by omega
 subst hb
 have key : ∀ (k k' : Nat) (r r' : List UInt8), List.replicate k 10 ++ r = List.replicate k' 10 ++ r' → r.head? ≠ some 10 → r'.head? ≠ some 10 → k = k' := by
  intro k
  induction k with
  | zero =>
   intro k' r r' he hr hr'
   cases k' with
   | zero => rfl
   | succ k' => exact absurd (by rw [show r = List.replicate (k' + 1) 10 ++ r' from he]; rfl) hr
  | succ k ih =>
   intro k' r r' he hr hr'
   cases k' with
   | zero => exact absurd (by rw [show r' = List.replicate (k + 1) 10 ++ r from he.symm]; rfl) hr'
   | succ k' => rw [ih k' r r' (List.cons.inj he).2 hr hr']
 rw [key k k' r r' (h4.symm.trans e2) h5 e3]
theorem ok31L (O : Ok m T) : Ok m (T.addL 31 4 L31) := by
 refine addL_ok O fun σ s hs hp => ?_
 cases hs
 obtain ⟨e, L, h1, h2, h3⟩ := hp
 have he : Ev (cf m) Tryz.prog 31 (.loop (loopAt Tryz.prog 31 4)) σ fun e τ => e = .exit 0 ∧ τ = E31 (join2 L) := by
  refine Ev.tidied (t := ⟨[0, 1, 5, 6], [5], 0⟩) (τ := I31 (slEls σ 0) [10, 10] [] 0) (by kernel_rfl) (by rw [e]; kernel_rfl) ?_
  rw [h1]
  exact loop31 m L h2 h3 _ 0 rfl (Nat.zero_le _)
 obtain ⟨n, ex, τ, h6, rfl, rfl⟩ := he
 exact ⟨_, List.mem_singleton.2 rfl, join2 L, ⟨fun q hq => by rw [h1] at hq; rw [cells_inj hq]⟩, n, h6⟩
def T5 : Tab := (tab0.addL 10 11 L11).addL 10 15 L15
theorem ok5T : Ok m T5 := ok15L (ok11L tab0_ok)
def T31 : Tab := tab0.addL 31 4 L31
theorem ok31T : Ok m T31 := ok31L tab0_ok
end
end Go.Proofs.Rc
namespace Go.Proofs.Rc
open Go Go.Ef
noncomputable section
set_option maxRecDepth 100000
theorem v10 (m : Int) (s : List UInt8) (els : List (List AV)) (a : Int) (i : Int) (N : Int → Int → Prop) (X : Nat → Int → Prop) (h :
 iteP (decide (i < (↑els.length : Int)))
 (iteP (inRange i els.length)
 (getI i.toNat els = some [AV.sc (Value.string (ByteArray.mk (Array.mk (cellStr els i (0 : Nat)))))] ∧
 iteP ((↑(cellStr els i (0 : Nat)).length : Int) == (0 : Int)) False
 (iteP (inRange i els.length)
 (getI i.toNat els = some [AV.sc (Value.string (ByteArray.mk (Array.mk (cellStr els i (0 : Nat)))))] ∧
 iteP (inRange (0 : Int) (cellStr els i (0 : Nat)).length)
 (iteP (byteAt (cellStr els i (0 : Nat)) (0 : Int) == (10 : Int)) False
 (iteP (inRange i els.length)
 (getI i.toNat els = some [AV.sc (Value.string (ByteArray.mk (Array.mk (cellStr els i (0 : Nat)))))] ∧
 iteP
 (inRange (IntKind.i64.wrap ((↑(cellStr els i (0 : Nat)).length : Int) - (1 : Int)))
 (cellStr els i (0 : Nat)).length)
 (iteP
 (byteAt (cellStr els i (0 : Nat))
 (IntKind.i64.wrap ((↑(cellStr els i (0 : Nat)).length : Int) - (1 : Int))) ==
 (10 : Int))
 False
 (loopAt Tryz.prog (10 : Nat) (11 : Nat) = loopAt Tryz.prog (10 : Nat) (11 : Nat) ∧
 (I11 s els a i (↑(cellStr els i (0 : Nat)).length : Int) (1 : Int) =
 I11 s els a i (↑(cellStr els i (0 : Nat)).length : Int) (1 : Int) ∧
 NoTwo els i (↑(cellStr els i (0 : Nat)).length : Int)) ∧
 ∀ (_ : Unit),
 True →
 loopAt Tryz.prog (10 : Nat) (15 : Nat) = loopAt Tryz.prog (10 : Nat) (15 : Nat) ∧
 (I15 s els a i (↑(cellStr els i (0 : Nat)).length : Int) =
 I15 s els a i (↑(cellStr els i (0 : Nat)).length : Int) ∧
 SkipOk s a) ∧
 ∀ (x : Int),
 IsSkip s a x →
 iteP
 (decide
 (IntKind.i64.wrap ((↑s.length : Int) - x) <
 (↑(cellStr els i (0 : Nat)).length : Int)))
 False
 (iteP
 (decide ((0 : Int) ≤ x) &&
 (decide
 (x ≤
 IntKind.i64.wrap (x + (↑(cellStr els i (0 : Nat)).length : Int))) &&
 decide
 (IntKind.i64.wrap (x + (↑(cellStr els i (0 : Nat)).length : Int)) ≤
 (↑s.length : Int))))
 (iteP (inRange i els.length)
 (getI i.toNat els =
 some
 [AV.sc
 (Value.string
 (ByteArray.mk (Array.mk (cellStr els i (0 : Nat)))))] ∧
 iteP
 (decide
 (cutL s x
 (IntKind.i64.wrap
 (x + (↑(cellStr els i (0 : Nat)).length : Int))) ≠
 cellStr els i (0 : Nat)))
 False
 (iteP
 (decide
 (IntKind.i64.wrap
 (x + (↑(cellStr els i (0 : Nat)).length : Int)) <
 (↑s.length : Int)))
 (iteP
 (inRange
 (IntKind.i64.wrap
 (x + (↑(cellStr els i (0 : Nat)).length : Int)))
 s.length)
 (iteP
 (byteAt s
 (IntKind.i64.wrap
 (x + (↑(cellStr els i (0 : Nat)).length : Int))) !=
 (10 : Int))
 False
 (iteP
 (decide
 (IntKind.i64.wrap (i + (1 : Int)) < (↑els.length : Int)))
 (iteP
 (decide
 ((↑s.length : Int) ≤
 IntKind.i64.wrap
 (IntKind.i64.wrap
 (x + (↑(cellStr els i (0 : Nat)).length : Int)) +
 (1 : Int))))
 False
 (iteP
 (inRange
 (IntKind.i64.wrap
 (IntKind.i64.wrap
 (x + (↑(cellStr els i (0 : Nat)).length : Int)) +
 (1 : Int)))
 s.length)
 (iteP
 (byteAt s
 (IntKind.i64.wrap
 (IntKind.i64.wrap
 (x +
 (↑(cellStr els i (0 : Nat)).length : Int)) +
 (1 : Int))) !=
 (10 : Int))
 False
 (I10 s els
 (IntKind.i64.wrap
 (x + (↑(cellStr els i (0 : Nat)).length : Int)))
 (IntKind.i64.wrap (i + (1 : Int))) =
 I10 s els
 (IntKind.i64.wrap
 (x + (↑(cellStr els i (0 : Nat)).length : Int)))
 (IntKind.i64.wrap (i + (1 : Int))) ∧
 N
 (IntKind.i64.wrap
 (x + (↑(cellStr els i (0 : Nat)).length : Int)))
 (IntKind.i64.wrap (i + (1 : Int)))))
 False))
 (I10 s els
 (IntKind.i64.wrap
 (x + (↑(cellStr els i (0 : Nat)).length : Int)))
 (IntKind.i64.wrap (i + (1 : Int))) =
 I10 s els
 (IntKind.i64.wrap
 (x + (↑(cellStr els i (0 : Nat)).length : Int)))
 (IntKind.i64.wrap (i + (1 : Int))) ∧
 N
 (IntKind.i64.wrap
 (x + (↑(cellStr els i (0 : Nat)).length : Int)))
 (IntKind.i64.wrap (i + (1 : Int))))))
 False)
 (iteP
 (decide (IntKind.i64.wrap (i + (1 : Int)) < (↑els.length : Int)))
 (iteP
 (decide
 ((↑s.length : Int) ≤
 IntKind.i64.wrap
 (IntKind.i64.wrap
 (x + (↑(cellStr els i (0 : Nat)).length : Int)) +
 (1 : Int))))
 False
 (iteP
 (inRange
 (IntKind.i64.wrap
 (IntKind.i64.wrap
 (x + (↑(cellStr els i (0 : Nat)).length : Int)) +
 (1 : Int)))
 s.length)
 (iteP
 (byteAt s
 (IntKind.i64.wrap
 (IntKind.i64.wrap
 (x + (↑(cellStr els i (0 : Nat)).length : Int)) +
 (1 : Int))) !=
 (10 : Int))
 False
 (I10 s els
 (IntKind.i64.wrap
 (x + (↑(cellStr els i (0 : Nat)).length : Int)))
 (IntKind.i64.wrap (i + (1 : Int))) =
 I10 s els
 (IntKind.i64.wrap
 (x + (↑(cellStr els i (0 : Nat)).length : Int)))
 (IntKind.i64.wrap (i + (1 : Int))) ∧
 N
 (IntKind.i64.wrap
 (x + (↑(cellStr els i (0 : Nat)).length : Int)))
 (IntKind.i64.wrap (i + (1 : Int)))))
 False))
 (I10 s els
 (IntKind.i64.wrap
 (x + (↑(cellStr els i (0 : Nat)).length : Int)))
 (IntKind.i64.wrap (i + (1 : Int))) =
 I10 s els
 (IntKind.i64.wrap
 (x + (↑(cellStr els i (0 : Nat)).length : Int)))
 (IntKind.i64.wrap (i + (1 : Int))) ∧
 N
 (IntKind.i64.wrap
 (x + (↑(cellStr els i (0 : Nat)).length : Int)))
 (IntKind.i64.wrap (i + (1 : Int)))))))
 False)
 False)))
 False)
 False))
 False)
 False))
 False)
 (E10 s els a = E10 s els a ∧ X (0 : Nat) a)) :
 (fun (m : Int) (s : List UInt8) (els : List (List AV)) (a i : Int) (N : Int → Int → Prop) (X : Nat → Int → Prop) => wpRound T5 (cf m) Tryz.prog 40 10 5 (I10 s els a i) (fun τ => τ = I10 s els (slI τ 5) (slI τ 6) ∧ N (slI τ 5) (slI τ 6)) (fun e τ => qEx (fun k => τ = E10 s els (slI τ 5) ∧ X k (slI τ 5)) e)) m s els a i N X :=
 Eq.mp (by kernel_rfl) h
theorem v10n (m : Int) (s : List UInt8) (X : Nat → Prop) (h :
 E10n s = E10n s ∧ X (0 : Nat)) :
 (fun (m : Int) (s : List UInt8) (X : Nat → Prop) => wpRound T5 (cf m) Tryz.prog 40 10 5 (I10n s) (fun _ => False) (fun e τ => qEx (fun k => τ = E10n s ∧ X k) e)) m s X :=
 Eq.mp (by kernel_rfl) h
theorem c31 (m : Int) (els : List (List AV)) (K : AV → Prop) (h :
 loopAt Tryz.prog (31 : Nat) (4 : Nat) = loopAt Tryz.prog (31 : Nat) (4 : Nat) ∧
 (I31 els [(10 : UInt8), (10 : UInt8)] [] (0 : Int) = I31 els [(10 : UInt8), (10 : UInt8)] [] (0 : Int) ∧
 Join2Ok els) ∧
 ∀ (x : List UInt8), IsJoin2 x els → K (AV.sc (Value.string (ByteArray.mk (Array.mk x))))) :
 (fun (m : Int) (els : List (List AV)) (K : AV → Prop) => wpCall T31 (cf m) Tryz.prog 40 31 [.sl els 0, aStr [10, 10]] heapF fun r h' => wpBack h' r K) m els K :=
 Eq.mp (by kernel_rfl) h
end
end Go.Proofs.Rc
namespace Go.Proofs.Rc
open Go Go.Ef
noncomputable section
set_option maxRecDepth 100000
variable {m : Int} {T : Tab}
theorem Good.head {P : List UInt8} (h : Good P) : P.head? ≠ some 10 := by
 intro e
 cases P with
 | nil => cases e
 | cons a r => exact h.two.1 rfl (Option.some.inj e)
theorem first10 : firstId 8 (loopAt Tryz.prog 10 5) = 5 := by kernel_rfl
theorem can10 (s : List UInt8) (els : List (List AV)) (a i : Int) : (I10 s els a i).tidy [0, 3, 5, 6] 0 = I10 s els a i := by kernel_rfl
theorem loop10 (m : Int) (s : List UInt8) (L : List (List UInt8)) (hs : s.length ≤ 4294967270) (hlen : L.length ≤ 4294967280) : ∀ (f i b : Nat), L.length - i = f → i ≤ L.length → b ≤ s.length → Lay (L.drop i) (s.drop b) →
  Ev (cf m) Tryz.prog 10 (.loop (loopAt Tryz.prog 10 5)) (I10 s (L.map strEl) b i) fun e τ => e = .exit 0 ∧ ∃ b' n : Nat, τ = E10 s (L.map strEl) b' ∧ b' ≤ s.length ∧ s.drop b' = List.replicate n 10 := by
 intro f
 induction f with
 | zero =>
  intro i b hf hi hb hl
  refine Ev.round (t := ⟨[0, 3, 5, 6], [0, 2, 3, 5], 0⟩) ok5T first10 rfl (can10 s _ b i) (v10 m s _ b i (fun _ _ => False) (fun k a => k = 0 ∧ a = b) ?_) (fun τ h => h.2.elim) (fun e τ h => ?_)
  ·rw [cells_len, decide_eq_false (show ¬ (i : Int) < (L.length : Int) by omega), iteP_f]
   exact ⟨rfl, rfl, rfl⟩
  ·obtain ⟨k, rfl, h1, rfl, h2⟩ := qEx_inv h
   rw [h2] at h1
   rw [List.drop_eq_nil_of_le (by omega)] at hl
   generalize hx : s.drop b = x at hl
   cases hl with
   | nil n => exact ⟨rfl, b, n, h1, hb, hx⟩
 | succ f ih =>
  intro i b hf hi hb hl
  have hlt : i < L.length := by omega
  rw [List.drop_eq_getElem_cons hlt] at hl
  have hx : L[i]? = some L[i] := List.getElem?_eq_getElem _
  generalize L[i] = P at hl hx
  generalize hL' : L.drop (i + 1) = L' at hl
  generalize hd : s.drop b = x at hl
  cases hl with
  | cons n P t L' hP ht hLt =>
   have hlenx := congrArg List.length hd
   simp only [List.length_drop, List.length_append, List.length_replicate] at hlenx
   have hpos : 1 ≤ P.length := List.length_pos_iff.2 hP.ne
   have hL'len := congrArg List.length hL'
   simp only [List.length_drop] at hL'len
   have hdc : s.drop (b + n) = P ++ t := by
    rw [← List.drop_drop, hd, List.append_assoc]
    simp
   have hdt : s.drop (b + n + P.length) = t := by
    rw [← List.drop_drop, hdc]
    simp
   have hcut : cutL s ((b + n : Nat) : Int) ((b + n + P.length : Nat) : Int) = P := by
    unfold cutL
    rw [Int.toNat_natCast, Int.toNat_natCast, List.drop_take, hdc, show b + n + P.length - (b + n) = P.length by omega]
    simp
   have hg := cell_some hx
   have hc := cell_str hx
   rw [hc] at hg
   have w1 : IntKind.i64.wrap ((P.length : Int) - 1) = ((P.length - 1 : Nat) : Int) := by rw [wrap_in (by omega) (by omega)]; omega
   have w2 : IntKind.i64.wrap ((s.length : Int) - ((b + n : Nat) : Int)) = ((s.length - (b + n) : Nat) : Int) := by rw [wrap_in (by omega) (by omega)]; omega
   have w3 : IntKind.i64.wrap (((b + n : Nat) : Int) + (P.length : Int)) = ((b + n + P.length : Nat) : Int) := by rw [wrap_in (by omega) (by omega)]; rfl
   have w4 : IntKind.i64.wrap (((b + n + P.length : Nat) : Int) + 1) = ((b + n + P.length + 1 : Nat) : Int) := by rw [wrap_in (by omega) (by omega)]; rfl
   have w5 : IntKind.i64.wrap ((i : Int) + 1) = ((i + 1 : Nat) : Int) := by rw [wrap_in (by omega) (by omega)]; rfl
   have hr : inRange (i : Int) L.length = true := by rw [inRange_iff]; omega
   refine Ev.round (t := ⟨[0, 3, 5, 6], [0, 2, 3, 5], 0⟩) ok5T first10 rfl (can10 s _ b i) (v10 m s _ b i (fun a i' => a = ((b + n + P.length : Nat) : Int) ∧ i' = ((i + 1 : Nat) : Int)) (fun _ _ => False) ?_) (fun τ h => ?_) (fun e τ h => ?_)
   ·rw [cells_len, decide_eq_true (show (i : Int) < (L.length : Int) by omega), iteP_t, hr, iteP_t, hc]
    refine ⟨hg, ?_⟩
    rw [show ((P.length : Int) == 0) = false by simp; exact hP.ne, iteP_f, iteP_t]
    refine ⟨hg, ?_⟩
    have b0 : (byteAt P 0 == (10 : Int)) = false := by
     rw [show byteAt P 0 = byteAt P ((0 : Nat) : Int) from rfl, byteAt_nat (by omega), show (10 : Int) = ((10 : UInt8).toNat : Int) from rfl, beq_byte, decide_eq_false]
     intro e
     refine hP.head ?_
     rw [List.head?_eq_getElem?, List.getElem?_eq_getElem (by omega), e]
    have b1 : (byteAt P ((P.length - 1 : Nat) : Int) == (10 : Int)) = false := by
     rw [byteAt_nat (by omega), show (10 : Int) = ((10 : UInt8).toNat : Int) from rfl, beq_byte, decide_eq_false]
     intro e
     refine hP.last ?_
     rw [List.getLast?_eq_getElem?, List.getElem?_eq_getElem (by omega), e]
    rw [show inRange 0 P.length = true by rw [inRange_iff]; omega, iteP_t, b0, iteP_f, iteP_t]
    refine ⟨hg, ?_⟩
    rw [w1, show inRange ((P.length - 1 : Nat) : Int) P.length = true by rw [inRange_iff]; omega, iteP_t, b1, iteP_f]
    have hj : (L.map strEl)[i]? = some (strEl P) := by rw [List.getElem?_map, hx]; rfl
    have hhead : (P ++ t).head? ≠ some 10 := by
     have h0 := hP.head
     cases P with
     | nil => exact absurd rfl hP.ne
     | cons a r => exact h0
    refine ⟨rfl, ⟨rfl, ⟨i, P, rfl, hj, rfl, hP.two, by omega⟩⟩, fun _ _ => ⟨rfl, ⟨rfl, ⟨b, n, P ++ t, rfl, hb, by omega, by rw [hd, List.append_assoc], hhead⟩⟩, fun y hy => ?_⟩⟩
    obtain rfl := hy.is b n (P ++ t) rfl (by rw [hd, List.append_assoc]) hhead
    rw [w2, w3, w5, decide_eq_false (show ¬ ((s.length - (b + n) : Nat) : Int) < (P.length : Int) by omega), iteP_f, decide_eq_true (show (0 : Int) ≤ ((b + n : Nat) : Int) by omega), decide_eq_true (show ((b + n : Nat) : Int) ≤ ((b + n + P.length : Nat) : Int) by omega),
     decide_eq_true (show ((b + n + P.length : Nat) : Int) ≤ (s.length : Int) by omega), Bool.and_self, Bool.and_self, iteP_t, iteP_t]
    refine ⟨hg, ?_⟩
    rw [hcut, decide_eq_false (show ¬ P ≠ P from fun e => e rfl), iteP_f, w4]
    rcases ht with ⟨rfl, rfl⟩ | ⟨t', rfl, h2⟩
    ·simp only [List.length_nil] at hlenx hL'len
     rw [decide_eq_false (show ¬ ((b + n + P.length : Nat) : Int) < (s.length : Int) by omega), iteP_f, decide_eq_false (show ¬ ((i + 1 : Nat) : Int) < (L.length : Int) by omega), iteP_f]
     exact ⟨rfl, rfl, rfl⟩
    ·simp only [List.length_cons] at hlenx
     obtain ⟨q1, q2, q3⟩ := byteAt_drop (k := ((b + n + P.length : Nat) : Int)) (by rw [Int.toNat_natCast]; exact hdt)
     rw [Int.toNat_natCast] at q3
     rw [decide_eq_true (show ((b + n + P.length : Nat) : Int) < (s.length : Int) by omega), iteP_t, show inRange ((b + n + P.length : Nat) : Int) s.length = true by rw [inRange_iff]; omega, iteP_t, q1, show ((((10 : UInt8).toNat : Int)) != (10 : Int)) = false from rfl, iteP_f]
     by_cases h0 : L' = []
     ·rw [h0] at hL'len
      simp only [List.length_nil] at hL'len
      rw [decide_eq_false (show ¬ ((i + 1 : Nat) : Int) < (L.length : Int) by omega), iteP_f]
      exact ⟨rfl, rfl, rfl⟩
     ·have hpos' := List.length_pos_iff.2 h0
      obtain ⟨t'', rfl⟩ := h2 h0
      simp only [List.length_cons] at hlenx
      obtain ⟨q4, q5, q6⟩ := byteAt_drop (k := ((b + n + P.length + 1 : Nat) : Int)) (by rw [Int.toNat_natCast]; exact q3)
      rw [decide_eq_true (show ((i + 1 : Nat) : Int) < (L.length : Int) by omega), iteP_t, decide_eq_false (show ¬ (s.length : Int) ≤ ((b + n + P.length + 1 : Nat) : Int) by omega), iteP_f,
       show inRange ((b + n + P.length + 1 : Nat) : Int) s.length = true by rw [inRange_iff]; omega, iteP_t, q4, show ((((10 : UInt8).toNat : Int)) != (10 : Int)) = false from rfl, iteP_f]
      exact ⟨rfl, rfl, rfl⟩
   ·obtain ⟨h1, h2, h3⟩ := h
    rw [h2, h3] at h1
    rw [h1]
    refine ih (i + 1) (b + n + P.length) (by omega) (by omega) (by omega) ?_
    rw [hL', hdt]
    exact hLt
   ·obtain ⟨k, rfl, h1, h2⟩ := qEx_inv h
    exact h2.elim
end
end Go.Proofs.Rc
namespace Go.Proofs.Rc
open Go Go.Ef
noncomputable section
set_option maxRecDepth 100000
variable {m : Int} {T : Tab}
theorem lay_room {L : List (List UInt8)} {s : List UInt8} (h : Lay L s) : L.length ≤ s.length ∧ (join2 L).length ≤ 3 * s.length := by
 induction h with
 | nil n => exact ⟨Nat.zero_le _, Nat.zero_le _⟩
 | cons n P t L hP ht hL ih =>
  have hpos := List.length_pos_iff.2 hP.ne
  have h1 : (join2 (P :: L)).length ≤ P.length + 2 + (join2 L).length := by
   cases L with
   | nil =>
    show (Lib.join [P] [10, 10]).length ≤ _
    rw [Lib.join_one]; omega
   | cons Q r => rw [join2_cons]; simp; omega
  simp only [List.length_cons, List.length_append, List.length_replicate]
  omega
def L10 (σ : St) : Option LSpec :=
 match σ.at 3 with
 | .v (.sl els _) => some { pre := σ.tidy [0, 3, 5, 6] 0 = I10 (slS σ 0) els 0 0 ∧ HasLay (slS σ 0) els, alts := [{ α := Int, post := fun a => Rest (slS σ 0) a, ex := .exit 0, st := fun a => E10 (slS σ 0) els a }] }
 | _ => some { pre := σ.tidy [0, 3, 5, 6] 0 = I10n (slS σ 0), alts := [{ α := Unit, post := fun _ => True, ex := .exit 0, st := fun _ => E10n (slS σ 0) }] }
def L20 (σ : St) : Option LSpec :=
 match σ.at 3 with
 | .v (.sl els _) => some { pre := σ.tidy [0, 3, 5] 0 = I20 (slS σ 0) els (slI σ 5) ∧ Rest (slS σ 0) (slI σ 5), alts := [{ α := Unit, post := fun _ => True, ex := .exit 6, st := fun _ => E20 els }] }
 | _ => some { pre := σ.tidy [0, 3, 5] 0 = I20n (slS σ 0) (slI σ 5) ∧ Rest (slS σ 0) (slI σ 5), alts := [{ α := Unit, post := fun _ => True, ex := .exit 6, st := fun _ => E20n }] }
theorem ok10L (O : Ok m T) : Ok m (T.addL 10 5 L10) := by
 refine addL_ok O fun σ s hs hp => ?_
 unfold L10 at hs
 split at hs
 ·rename_i els tok _
  cases hs
  obtain ⟨e, L, h1, h2, h3⟩ := hp
  have hr := lay_room h2
  have he : Ev (cf m) Tryz.prog 10 (.loop (loopAt Tryz.prog 10 5)) σ fun e τ => e = .exit 0 ∧ ∃ b' n : Nat, τ = E10 (slS σ 0) els b' ∧ b' ≤ (slS σ 0).length ∧ (slS σ 0).drop b' = List.replicate n 10 := by
   refine Ev.tidied (t := ⟨[0, 3, 5, 6], [0, 2, 3, 5], 0⟩) (τ := I10 (slS σ 0) els 0 0) (by kernel_rfl) (by rw [e]; kernel_rfl) ?_
   rw [h1]
   exact loop10 m (slS σ 0) L h3 (by omega) _ 0 0 rfl (Nat.zero_le _) (Nat.zero_le _) h2
  obtain ⟨n, ex, τ, h6, rfl, b', k, rfl, h7, h8⟩ := he
  exact ⟨_, List.mem_singleton.2 rfl, (b' : Int), ⟨b', k, rfl, h7, by omega, h8⟩, n, h6⟩
 ·cases hs
  have e : σ.tidy [0, 3, 5, 6] 0 = I10n (slS σ 0) := hp
  have he : Ev (cf m) Tryz.prog 10 (.loop (loopAt Tryz.prog 10 5)) σ fun e τ => e = .exit 0 ∧ τ = E10n (slS σ 0) := by
   refine Ev.tidied (t := ⟨[0, 3, 5, 6], [0, 2, 3, 5], 0⟩) (τ := I10n (slS σ 0)) (by kernel_rfl) (by rw [e]; kernel_rfl) ?_
   refine Ev.round (t := ⟨[0, 3, 5, 6], [0, 2, 3, 5], 0⟩) ok5T first10 rfl (by kernel_rfl) (v10n m _ (fun k => k = 0) ⟨rfl, rfl⟩) (fun τ h => h.elim) (fun e τ h => ?_)
   obtain ⟨k, rfl, h1, rfl⟩ := qEx_inv h
   exact ⟨rfl, h1⟩
  obtain ⟨n, ex, τ, h6, rfl, rfl⟩ := he
  exact ⟨_, List.mem_singleton.2 rfl, (), trivial, n, h6⟩
theorem ok20L (O : Ok m T) : Ok m (T.addL 10 20 L20) := by
 refine addL_ok O fun σ s hs hp => ?_
 unfold L20 at hs
 split at hs
 ·rename_i els tok _
  cases hs
  obtain ⟨e, b, k, h1, h2, h3, h4⟩ := hp
  have he : Ev (cf m) Tryz.prog 10 (.loop (loopAt Tryz.prog 10 20)) σ fun e τ => e = .exit 6 ∧ τ = E20 els := by
   refine Ev.tidied (t := ⟨[0, 3, 5], [2, 3], 0⟩) (τ := I20 (slS σ 0) els (slI σ 5)) (by kernel_rfl) (by rw [e]; kernel_rfl) ?_
   rw [h1]
   exact loop20 m (slS σ 0) els h3 k b h4 h2
  obtain ⟨n, ex, τ, h6, rfl, rfl⟩ := he
  exact ⟨_, List.mem_singleton.2 rfl, (), trivial, n, h6⟩
 ·cases hs
  obtain ⟨e, b, k, h1, h2, h3, h4⟩ := hp
  have he : Ev (cf m) Tryz.prog 10 (.loop (loopAt Tryz.prog 10 20)) σ fun e τ => e = .exit 6 ∧ τ = E20n := by
   refine Ev.tidied (t := ⟨[0, 3, 5], [2, 3], 0⟩) (τ := I20n (slS σ 0) (slI σ 5)) (by kernel_rfl) (by rw [e]; kernel_rfl) ?_
   rw [h1]
   exact loop20n m (slS σ 0) h3 k b h4 h2
  obtain ⟨n, ex, τ, h6, rfl, rfl⟩ := he
  exact ⟨_, List.mem_singleton.2 rfl, (), trivial, n, h6⟩
theorem ok17p (O : Ok m T) : Ok m (T.addC 17 C17p) := by
 refine addC_ok O fun args h s hs hp => ?_
 unfold C17p at hs
 split at hs
 ·rename_i s0 t0
  split at hs
  ·rename_i ht
   cases hs
   obtain ⟨⟨t0⟩⟩ := t0
   have ht : t0 = [] := ht
   subst ht
   obtain ⟨⟨s0⟩⟩ := s0
   obtain ⟨a, ha, x, n, h3, h4⟩ := (ok17g (m := m) tab0_ok).call 17 Cg [aStr s0, aStr []] h _ rfl rfl hp
   rcases List.mem_cons.1 ha with rfl | ha
   ·exact ⟨_, List.mem_cons_self .., (), n, ⟨h3.eq⟩, h4⟩
   ·obtain rfl := List.mem_singleton.1 ha
    exact ⟨_, List.mem_cons_of_mem _ (List.mem_cons_self ..), x, n, ⟨h3.eq⟩, h4⟩
  ·cases hs
 ·cases hs
theorem ok31 (O : Ok m T) : Ok m (T.addC 31 C31) := by
 refine addC_ok O fun args h s hs hp => ?_
 unfold C31 at hs
 split at hs
 ·rename_i els t0
  split at hs
  ·rename_i ht
   cases hs
   obtain ⟨⟨t0⟩⟩ := t0
   have ht : t0 = [10, 10] := ht
   subst ht
   have key : EvP (cf m) Tryz.prog 31 [.sl els 0, aStr [10, 10]] h fun y h' => (∃ x, IsJoin2 x els ∧ y = aStr x) ∧ h' = h :=
    EvP.freshK ok31T (n := 40) (by kernel_rfl) (by kernel_rfl) (args' := [.sl els 0, aStr [10, 10]]) rfl (c31 m els _ ⟨rfl, ⟨rfl, hp⟩, fun x hx => ⟨x, hx, rfl⟩⟩)
   obtain ⟨n, y, h', h2, ⟨x, h3, rfl⟩, rfl⟩ := key
   exact ⟨_, List.mem_singleton.2 rfl, x, n, h3, h2⟩
  ·cases hs
 ·rename_i t0
  split at hs
  ·rename_i ht
   cases hs
   obtain ⟨⟨t0⟩⟩ := t0
   have ht : t0 = [10, 10] := ht
   subst ht
   exact ⟨_, List.mem_singleton.2 rfl, (), 100, trivial, by kernel_rfl⟩
  ·cases hs
 ·cases hs
def T10 : Tab := (((((tab0.addC 17 C17p).addC 31 C31).addC 19 C19).addC 20 C20).addL 10 5 L10).addL 10 20 L20
theorem ok10T : Ok m T10 := ok20L (ok10L (ok20 (ok19 (ok31 (ok17p tab0_ok)))))
end
end Go.Proofs.Rc
namespace Go.Proofs.Rc
open Go Go.Ef
noncomputable section
set_option maxRecDepth 100000
theorem c10 (m : Int) (s : List UInt8) (K : AV → Prop) (h :
 s.length.le (4294967260 : Nat) ∧
 (∀ (_ : Unit),
 NoPara s →
 loopAt Tryz.prog (10 : Nat) (5 : Nat) = loopAt Tryz.prog (10 : Nat) (5 : Nat) ∧
 I10n s = I10n s ∧
 ∀ (_ : Unit),
 True →
 loopAt Tryz.prog (10 : Nat) (20 : Nat) = loopAt Tryz.prog (10 : Nat) (20 : Nat) ∧
 (I20n s (0 : Int) = I20n s (0 : Int) ∧ Rest s (0 : Int)) ∧
 ∀ (_ : Unit),
 True →
 True ∧
 ∀ (_ : Unit),
 True →
 Nat.le (0 : Nat) (4294967260 : Nat) ∧
 (∀ (_ : Unit),
 NoPara [] →
 SameLists (AV.sc (Value.slice none (0 : Nat) (0 : Nat)))
 (AV.sc (Value.slice none (0 : Nat) (0 : Nat))) ∧
 ∀ (_ : Unit),
 True → True ∧ ∀ (_ : Unit), True → K (AV.sc (Value.bool true))) ∧
 ∀ (x : List (List UInt8) × Bool),
 IsPara x [] →
 iteP x.snd
 (SameLists (AV.sl (List.map strEl x.fst) (0 : Nat))
 (AV.sc (Value.slice none (0 : Nat) (0 : Nat))) ∧
 ∀ (_ : Unit),
 True → True ∧ ∀ (_ : Unit), True → K (AV.sc (Value.bool true)))
 (SameLists (AV.sl (List.map strEl x.fst) (0 : Nat))
 (AV.sc (Value.slice none (0 : Nat) (0 : Nat))) ∧
 ∀ (_ : Unit),
 True → True ∧ ∀ (_ : Unit), True → K (AV.sc (Value.bool true)))) ∧
 ∀ (x : List (List UInt8) × Bool),
 IsPara x s →
 iteP x.snd
 (loopAt Tryz.prog (10 : Nat) (5 : Nat) = loopAt Tryz.prog (10 : Nat) (5 : Nat) ∧
 (I10 s (List.map strEl x.fst) (0 : Int) (0 : Int) = I10 s (List.map strEl x.fst) (0 : Int) (0 : Int) ∧
 HasLay s (List.map strEl x.fst)) ∧
 ∀ (x_1 : Int),
 Rest s x_1 →
 loopAt Tryz.prog (10 : Nat) (20 : Nat) = loopAt Tryz.prog (10 : Nat) (20 : Nat) ∧
 (I20 s (List.map strEl x.fst) x_1 = I20 s (List.map strEl x.fst) x_1 ∧ Rest s x_1) ∧
 ∀ (_ : Unit),
 True →
 Join2Ok (List.map strEl x.fst) ∧
 ∀ (x_3 : List UInt8),
 IsJoin2 x_3 (List.map strEl x.fst) →
 x_3.length.le (4294967260 : Nat) ∧
 (∀ (_ : Unit),
 NoPara x_3 →
 SameLists (AV.sc (Value.slice none (0 : Nat) (0 : Nat)))
 (AV.sl (List.map strEl x.fst) (0 : Nat)) ∧
 ∀ (_ : Unit),
 True → True ∧ ∀ (_ : Unit), True → K (AV.sc (Value.bool true))) ∧
 ∀ (x_4 : List (List UInt8) × Bool),
 IsPara x_4 x_3 →
 iteP x_4.snd
 (SameLists (AV.sl (List.map strEl x_4.fst) (0 : Nat))
 (AV.sl (List.map strEl x.fst) (0 : Nat)) ∧
 ∀ (_ : Unit),
 True → True ∧ ∀ (_ : Unit), True → K (AV.sc (Value.bool true)))
 (SameLists (AV.sl (List.map strEl x_4.fst) (0 : Nat))
 (AV.sl (List.map strEl x.fst) (0 : Nat)) ∧
 ∀ (_ : Unit),
 True → True ∧ ∀ (_ : Unit), True → K (AV.sc (Value.bool true))))
 (loopAt Tryz.prog (10 : Nat) (5 : Nat) = loopAt Tryz.prog (10 : Nat) (5 : Nat) ∧
 (I10 s (List.map strEl x.fst) (0 : Int) (0 : Int) = I10 s (List.map strEl x.fst) (0 : Int) (0 : Int) ∧
 HasLay s (List.map strEl x.fst)) ∧
 ∀ (x_1 : Int),
 Rest s x_1 →
 loopAt Tryz.prog (10 : Nat) (20 : Nat) = loopAt Tryz.prog (10 : Nat) (20 : Nat) ∧
 (I20 s (List.map strEl x.fst) x_1 = I20 s (List.map strEl x.fst) x_1 ∧ Rest s x_1) ∧
 ∀ (_ : Unit),
 True →
 Join2Ok (List.map strEl x.fst) ∧
 ∀ (x_3 : List UInt8),
 IsJoin2 x_3 (List.map strEl x.fst) →
 x_3.length.le (4294967260 : Nat) ∧
 (∀ (_ : Unit),
 NoPara x_3 →
 SameLists (AV.sc (Value.slice none (0 : Nat) (0 : Nat)))
 (AV.sl (List.map strEl x.fst) (0 : Nat)) ∧
 ∀ (_ : Unit),
 True → True ∧ ∀ (_ : Unit), True → K (AV.sc (Value.bool true))) ∧
 ∀ (x_4 : List (List UInt8) × Bool),
 IsPara x_4 x_3 →
 iteP x_4.snd
 (SameLists (AV.sl (List.map strEl x_4.fst) (0 : Nat))
 (AV.sl (List.map strEl x.fst) (0 : Nat)) ∧
 ∀ (_ : Unit),
 True → True ∧ ∀ (_ : Unit), True → K (AV.sc (Value.bool true)))
 (SameLists (AV.sl (List.map strEl x_4.fst) (0 : Nat))
 (AV.sl (List.map strEl x.fst) (0 : Nat)) ∧
 ∀ (_ : Unit),
 True → True ∧ ∀ (_ : Unit), True → K (AV.sc (Value.bool true))))) :
 (fun (m : Int) (s : List UInt8) (K : AV → Prop) => wpCall T10 (cf m) Tryz.prog 40 10 [aStr s] heap0 fun r _ => K r) m s K :=
 Eq.mp (by kernel_rfl) h
end
end Go.Proofs.Rc
namespace Go.Proofs.Rc
open Go Go.Ef
noncomputable section
set_option maxRecDepth 100000
theorem law10 (m : Int) (s : List UInt8) (hs : s.length ≤ 1048576) : ∃ n h, evCall (cf m) Tryz.prog n 10 [aStr s] heap0 = some (aBool true, h) := by
 have key := call_okW (ok10T (m := m)) 40 10 [aStr s] heap0 (fun r _ => r = aBool true) (c10 m s _ ?_)
 ·obtain ⟨n, r, h', h1, rfl⟩ := key
  exact ⟨n, h', h1⟩
 ·have hlay := lay_para s
  have hroom := lay_room hlay
  have fin : ∀ _ : Unit, True → True ∧ ∀ _ : Unit, True → AV.sc (Value.bool true) = aBool true := fun _ _ => ⟨trivial, fun _ _ => rfl⟩
  refine ⟨show s.length ≤ 4294967260 by omega, fun _ hn => ?_, fun x hx => ?_⟩
  ·have h0 := hlay
   rw [hn.eq] at h0
   have hrest : Rest s 0 := by
    cases h0 with
    | nil n => exact ⟨0, n, rfl, Nat.zero_le _, by omega, rfl⟩
   refine ⟨rfl, rfl, fun _ _ => ⟨rfl, ⟨rfl, hrest⟩, fun _ _ => ⟨trivial, fun _ _ => ⟨Nat.zero_le _, fun _ _ => ⟨⟨[], .nil, .nil, Nat.zero_le _⟩, fin⟩, fun y hy => ?_⟩⟩⟩⟩
   obtain rfl := hy.eq
   have e : SameLists (.sl ((paraF []).1.map strEl) 0) nilA := by
    rw [paraF_nil]
    exact ⟨[], .sl [], .nil, Nat.zero_le _⟩
   exact iteP_cases (fun _ => ⟨e, fin⟩) (fun _ => ⟨e, fin⟩)
  ·obtain rfl := hx.eq
   have hj : Join2Ok ((paraF s).1.map strEl) := ⟨_, rfl, by omega, by omega⟩
   have hl : HasLay s ((paraF s).1.map strEl) := ⟨_, rfl, hlay, by omega⟩
   have ss : SameLists (.sl ((paraF s).1.map strEl) 0) (.sl ((paraF s).1.map strEl) 0) := ⟨_, .sl _, .sl _, by omega⟩
   have ha := para_again s
   refine iteP_cases (fun _ => ?_) (fun _ => ?_)
   ·refine ⟨rfl, ⟨rfl, hl⟩, fun a hr => ⟨rfl, ⟨rfl, hr⟩, fun _ _ => ⟨hj, fun t ht => ?_⟩⟩⟩
    obtain rfl := ht.is _ rfl
    refine ⟨show (join2 (paraF s).1).length ≤ 4294967260 by omega, fun _ hn => ?_, fun y hy => ?_⟩
    ·rw [hn.eq] at ha
     rw [← ha]
     exact ⟨⟨[], .nil, .sl [], Nat.zero_le _⟩, fin⟩
    ·obtain rfl := hy.eq
     rw [ha]
     exact iteP_cases (fun _ => ⟨ss, fin⟩) (fun _ => ⟨ss, fin⟩)
   ·refine ⟨rfl, ⟨rfl, hl⟩, fun a hr => ⟨rfl, ⟨rfl, hr⟩, fun _ _ => ⟨hj, fun t ht => ?_⟩⟩⟩
    obtain rfl := ht.is _ rfl
    refine ⟨show (join2 (paraF s).1).length ≤ 4294967260 by omega, fun _ hn => ?_, fun y hy => ?_⟩
    ·rw [hn.eq] at ha
     rw [← ha]
     exact ⟨⟨[], .nil, .sl [], Nat.zero_le _⟩, fin⟩
    ·obtain rfl := hy.eq
     rw [ha]
     exact iteP_cases (fun _ => ⟨ss, fin⟩) (fun _ => ⟨ss, fin⟩)
end
end Go.Proofs.Rc
namespace Go.Proofs.YtdnekbapjlbeaaaGreatDoor
open Go Go.Ef Go.ChangeShapes Go.WideShapes Go.ChangeAt Go.RowKit
open Go.ChangeMaps (open_string shut_string)
theorem room_any {W : World} (h : W.ShapedOpen Tryz.prog) : ∃ m, GlobOk (Rec.cfg m) W := by
 obtain ⟨m, hm⟩ := cell_of_shapedOpen_int (g := 1) (zero := #[.int .i64 0]) (t := 3) h (of_decide_eq_true (by kernel_rfl)) (by kernel_rfl) rfl (by kernel_rfl) (by kernel_rfl) Tryz.underlying3
 refine ⟨m, fun g cs hg i x hx => ?_⟩
 replace hg : Rec.globs m g = some cs := hg
 unfold Rec.globs at hg
 split at hg
 ·cases hg
  match i with
  | 0 => simp at hx; subst hx; exact ⟨_, hm, .sc rfl⟩
  | i + 1 => simp at hx
 ·cases hg
theorem own : ownKnob Tryz.prog.godebug = none := by kernel_rfl
theorem row_witness {H : Type} {enc : TypeId × Value → H} {C : Checked} {os : Os} {f : FuncId} {fn : Func} {s : OpenSpec} {conds : List PathCond} {apart : Bool} {laid : List (String × DataW Unit)} (w0 : World) (args : Array Value) (hos : w0.os = os)
  (hsh : (w0.forCall (fun _ _ => 0) ⟨#[], args, []⟩).Shaped C.prog) (hok : Input.okWideB C.prog (w0.forCall (fun _ _ => 0) ⟨#[], args, []⟩) f ⟨#[], args, []⟩ = true)
  (hrow : s.preRow enc C.prog fn conds apart laid (w0.forCall (fun _ _ => 0) ⟨#[], args, []⟩).memory args) :
  ∃ (w : World) (tape : Tape) (i : Input), w.os = os ∧ (w.forCall tape i).Shaped C.prog ∧ i.vars = [] ∧ Input.okWide C.prog (w.forCall tape i) .any w.heap.size f i ∧
   s.preRow enc C.prog fn conds apart laid (w.forCall tape i).memory i.args ∧ ({} : Assume).holds C.prog (lone (Frame.enter C.prog f i.args .normal) [] (w.forCall tape i)) :=
 ⟨w0, fun _ _ => 0, ⟨#[], args, []⟩, hos, hsh, (Input.okWide_of_okWideB (base := 0) hok).1, (Input.okWide_of_okWideB hok).2, hrow, by
  simp only [Assume.holds]
  exact ⟨by simp, by simp, fun _ => Modest.zero, by simp, by simp⟩⟩
end Go.Proofs.YtdnekbapjlbeaaaGreatDoor
