/- A part of the proof: definitions and lemmas. -/
import Derived.Test.YtdnekbapjlbeaaaGreatDoorDividesC
import Derived.Test.YtdnekbapjlbeaaaGreatDoorCards
import Derived.Test.YtdnekbapjlbeaaaGreatDoorTie
import Derived.WalkKit
import Derived.ProofKit
import Derived.Handy
import Derived.Lay
import Derived.Shelf.Vars
import Derived.Deep.DeepHandedRow
import Derived.SevenTiedAt
namespace Go.Ef
open Go
noncomputable section
def tab0 : Tab := { call := fun _ => none, loop := fun _ _ => none, exact := fun _ _ => false, named := fun _ _ => false }
def Tab.addC (T : Tab) (g : FuncId) (t : List AV → Heap → Option CSpec) : Tab := { T with call := fun x => bif Nat.beq x g then some t else T.call x }
def Tab.addL (T : Tab) (f i : Nat) (t : St → Option LSpec) : Tab := { T with loop := fun x y => bif Nat.beq x f && Nat.beq y i then some t else T.loop x y }
def Tab.name (T : Tab) (f t : Nat) : Tab := { T with named := fun x y => bif Nat.beq x f && Nat.beq y t then true else T.named x y }
def fspec (pre : Prop) (v : AV) (h : Heap) : CSpec := { pre := pre, alts := [{ α := Unit, post := fun _ => True, val := fun _ => v, heap := fun _ => h }] }
section
variable {P : Program} {C : Cfg} {T : Tab}
theorem tab0_ok : TabOk P C tab0 := ⟨fun _ _ _ _ _ ht => (by cases ht), fun _ _ _ _ _ ht => (by cases ht)⟩
theorem addC_ok (O : TabOk P C T) {g : FuncId} {t : List AV → Heap → Option CSpec} (H : ∀ args h s, t args h = some s → s.pre → ∃ a ∈ s.alts, ∃ x m, a.post x ∧ callP C (evCall C P m) g args h = some (a.val x, a.heap x)) : TabOk P C (T.addC g t) := by
 refine ⟨fun x t' args h s ht hs hp => ?_, fun f i t' σ s ht => O.loop f i t' σ s ht⟩
 replace ht : (bif Nat.beq x g then some t else T.call x) = some t' := ht
 cases hq : Nat.beq x g with
 | true =>
  rw [hq] at ht
  cases ht
  rw [Nat.eq_of_beq_eq_true hq]
  exact H args h s hs hp
 | false =>
  rw [hq] at ht
  exact O.call x t' args h s ht hs hp
theorem addL_ok (O : TabOk P C T) {f i : Nat} {t : St → Option LSpec} (H : ∀ σ s, t σ = some s → s.pre → ∃ a ∈ s.alts, ∃ x, a.post x ∧ ∃ m, evCode C P m f (.loop (loopAt P f i)) σ = some (a.ex, a.st x)) : TabOk P C (T.addL f i t) := by
 refine ⟨fun g t' args h s ht => O.call g t' args h s ht, fun x y t' σ s ht hs hp => ?_⟩
 replace ht : (bif Nat.beq x f && Nat.beq y i then some t else T.loop x y) = some t' := ht
 cases hq : Nat.beq x f && Nat.beq y i with
 | true =>
  rw [hq] at ht
  simp only [Bool.and_eq_true] at hq
  cases ht
  rw [Nat.eq_of_beq_eq_true hq.1, Nat.eq_of_beq_eq_true hq.2]
  obtain ⟨a, ha, x, h1, m, h2⟩ := H σ s hs hp
  exact ⟨a, ha, x, m, h1, h2⟩
 | false =>
  rw [hq] at ht
  exact O.loop x y t' σ s ht hs hp
theorem wpStrip_mono : ∀ n v {k k' : AV → Prop}, wpStrip n v k → (∀ y, k y → k' y) → wpStrip n v k' := by
 intro n
 induction n with
 | zero =>
  intro v k k' h hk
  cases v with
  | sc v => exact hk _ h
  | sl els tok =>
   cases tok with
   | zero => exact hk _ h
   | succ t => exact h.elim
  | _ => exact h.elim
 | succ n ih =>
  have lists : ∀ (cs : List AV) {k k' : List AV → Prop}, List.rec (motive := fun _ => (List AV → Prop) → Prop) (fun k => k []) (fun x _ ihl k => wpStrip n x fun y => ihl fun l => k (y :: l)) cs k → (∀ y, k y → k' y) →
    List.rec (motive := fun _ => (List AV → Prop) → Prop) (fun k => k []) (fun x _ ihl k => wpStrip n x fun y => ihl fun l => k (y :: l)) cs k' := by
   intro cs
   induction cs with
   | nil => intro k k' h hk; exact hk _ h
   | cons x cs ihc => intro k k' h hk; exact ih x h fun y hy => ihc hy fun l hl => hk _ hl
  intro v k k' h hk
  cases v with
  | sc v => exact hk _ h
  | sl els tok =>
   cases tok with
   | zero => exact hk _ h
   | succ t =>
    obtain ⟨h1, h2⟩ := iteP_false (show iteP (plainEls els) (k (.sl els 0)) False from h)
    show iteP (plainEls els) (k' (.sl els 0)) False
    rw [h1]; exact hk _ h2
  | agg cs => exact lists cs h fun l hl => hk _ hl
  | tup cs => exact lists cs h fun l hl => hk _ hl
  | ifc t u => exact ih u h fun y hy => hk _ hy
  | fn f a b => exact lists a h fun l hl => lists b hl fun m hm => hk _ hm
  | _ => exact h.elim
theorem wpBack_mono {h : Heap} {r : AV} {k k' : AV → Prop} (H : wpBack h r k) (hk : ∀ y, k y → k' y) : wpBack h r k' := by
 cases r with
 | rsl id off len m =>
  replace H : (match strip 8 h (.rsl id off len m) with | some y => k y | none => False) := H
  show (match strip 8 h (.rsl id off len m) with | some y => k' y | none => False)
  split at H
  ·exact hk _ H
  ·exact H.elim
 | sl els tok => exact wpStrip_mono 8 (.sl els tok) H hk
 | sc v => exact wpStrip_mono 8 (.sc v) H hk
 | agg v => exact wpStrip_mono 8 (.agg v) H hk
 | tup v => exact wpStrip_mono 8 (.tup v) H hk
 | fn f a b => exact wpStrip_mono 8 (.fn f a b) H hk
 | ifc t v => exact wpStrip_mono 8 (.ifc t v) H hk
 | cp v => exact wpStrip_mono 8 (.cp v) H hk
 | gp g o => exact wpStrip_mono 8 (.gp g o) H hk
 | ptr g o => exact wpStrip_mono 8 (.ptr g o) H hk
 | mp g => exact wpStrip_mono 8 (.mp g) H hk
theorem EvP.fresh {g : FuncId} {args args' : List AV} {h : Heap} {K : AV → Heap → Prop} (hf : C.fresh g = true) (hp : C.prim g = none) (ha : mapO (stripA 8) args = some args')
  (H : EvC C P g args' heapF fun r h' => wpBack h' r fun y => K y h) : EvP C P g args h K := by
 obtain ⟨m, r, h', h1, h2⟩ := H
 obtain ⟨y, h3, h4⟩ := wpBack_ok h2
 refine ⟨m, y, h, ?_, h4⟩
 unfold callP
 rw [hp]; simp only []; rw [hf]; simp only [cond_true]; rw [ha]; simp only []; rw [h1]; simp only []; rw [h3]
theorem EvP.freshV (O : TabOk P C T) {n g : Nat} {args args' : List AV} {h : Heap} {v : AV} (hf : C.fresh g = true) (hp : C.prim g = none) (ha : mapO (stripA 8) args = some args')
  (H : wpCall T C P n g args' heapF fun r h' => wpBack h' r fun y => y = v) : EvP C P g args h fun y h' => y = v ∧ h' = h := by
 refine EvP.fresh hf hp ha ?_
 obtain ⟨m, r, h', h1, h2⟩ := call_okW O n g args' heapF _ H
 obtain ⟨y, h3, h4⟩ := wpBack_ok h2
 subst h4
 refine ⟨m, r, h', h1, ?_⟩
 have key : ∀ {k : AV → Prop}, wpBack h' r (fun y' => y' = y) → k y → wpBack h' r k := by
  intro k hb hk
  exact wpBack_mono hb fun z hz => hz ▸ hk
 exact key h2 ⟨rfl, rfl⟩
end
end
end Go.Ef
namespace Go.Ef
open Go
noncomputable section
section
variable {P : Program} {C : Cfg} {T : Tab}
theorem EvP.freshK (O : TabOk P C T) {n g : Nat} {args args' : List AV} {h : Heap} {Q : AV → Prop} (hf : C.fresh g = true) (hp : C.prim g = none) (ha : mapO (stripA 8) args = some args')
  (H : wpCall T C P n g args' heapF fun r h' => wpBack h' r Q) : EvP C P g args h fun y h' => Q y ∧ h' = h := by
 refine EvP.fresh hf hp ha ?_
 obtain ⟨m, r, h', h1, h2⟩ := call_okW O n g args' heapF _ H
 exact ⟨m, r, h', h1, wpBack_mono h2 fun y hy => ⟨hy, rfl⟩⟩
end
end
end Go.Ef
namespace Go.Ef
open Go
noncomputable section
section
variable {P : Program} {C : Cfg} {T : Tab}
theorem Ev.round (O : TabOk P C T) {n f i : Nat} {t : Tidy} {σ : St} {N : St → Prop} {X : Ex → St → Prop} {K : KR} (hi : firstId 8 (loopAt P f i) = i) (ht : C.tidy f i = some t) (hcan : σ.tidy t.head t.nloc = σ)
  (hs : wpRound T C P n f i σ N X) (hN : ∀ τ, N τ → Ev C P f (.loop (loopAt P f i)) τ K) (hX : ∀ e τ, X e τ → K e τ) : Ev C P f (.loop (loopAt P f i)) σ K := by
 unfold wpRound at hs
 rw [ht] at hs
 refine Ev.loopT (t := t) (by rw [hi]; exact ht) ?_
 rw [hcan]
 refine (code_okW O n f _ _ _ hs).mono fun e τ h => ?_
 cases e with
 | normal => exact Ev.tidied (t := t) (τ := τ.tidy t.head t.nloc) (by rw [hi]; exact ht) (tidy_tidy _ _ _).symm (hN _ h)
 | exit j => exact hX _ _ h
 | ret => exact hX _ _ h
end
end
end Go.Ef
namespace Go.Proofs.Rc
open Go Go.Ef
noncomputable section
abbrev cf (m : Int) : Cfg := Rec.cfg m
def nilA : AV := .sc (.slice none 0 0)
def sNil : Slot := .v nilA
def sSl (els : List (List AV)) (tok : Nat) : Slot := .v (.sl els tok)
def hO (e n : Nat) : Heap := (heapF.new (.own 1 e n)).2
def ownN (h : Heap) : Nat :=
 match h.get 1 with
 | some (.own _ _ n) => n
 | _ => 0
def stepP (c : UInt8) (a : List (List UInt8) × List UInt8) (b : UInt8) : List (List UInt8) × List UInt8 := if b = c then (a.1 ++ [a.2], []) else (a.1, a.2 ++ [b])
def scanP (c : UInt8) (l : List UInt8) : List (List UInt8) × List UInt8 := l.foldl (stepP c) ([], [])
theorem scan_parts (c : UInt8) (l : List UInt8) : ∀ a : List (List UInt8) × List UInt8, (l.foldl (stepP c) a).1 ++ [(l.foldl (stepP c) a).2] = a.1 ++ (match partsOf c l with | [] => [a.2] | p :: r => (a.2 ++ p) :: r) := by
 induction l with
 | nil => intro a; simp [partsOf]
 | cons b l ih =>
  intro a
  rw [List.foldl_cons, ih, partsOf_cons]
  unfold stepP
  by_cases h : b = c
  ·rw [if_pos h, if_pos h]
   cases hq : partsOf c l with
   | nil => have := partsOf_length c l; rw [hq] at this; cases this
   | cons p r => simp
  ·rw [if_neg h, if_neg h]
   cases hq : partsOf c l with
   | nil => have := partsOf_length c l; rw [hq] at this; cases this
   | cons p r => simp [consPart]
theorem scanP_eq (c : UInt8) (l : List UInt8) : (scanP c l).1 ++ [(scanP c l).2] = partsOf c l := by
 have := scan_parts c l ([], [])
 unfold scanP
 rw [this]
 cases hq : partsOf c l with
 | nil => have := partsOf_length c l; rw [hq] at this; cases this
 | cons p r => simp
theorem scanP_snoc (c : UInt8) (l : List UInt8) (b : UInt8) : scanP c (l ++ [b]) = stepP c (scanP c l) b := by unfold scanP; rw [List.foldl_append]; rfl
def I44n (s : List UInt8) (c : Int) (k i : Int) : St := stOf 37 [(0, sStr s), (1, sK .u8 c), (5, sNil), (6, sInt k), (7, sInt i)] [] heapF
def I44o (s : List UInt8) (c : Int) (els : List (List AV)) (n : Nat) (k i : Int) : St := stOf 37 [(0, sStr s), (1, sK .u8 c), (5, sSl els 2), (6, sInt k), (7, sInt i)] [] (hO 9 n)
def E44n (s : List UInt8) (k : Int) : St := stOf 37 [(0, sStr s), (5, sNil), (6, sInt k)] [] heapF
def E44o (s : List UInt8) (els : List (List AV)) (n : Nat) (k : Int) : St := stOf 37 [(0, sStr s), (5, sSl els 2), (6, sInt k)] [] (hO 9 n)
def q44 (s : List UInt8) (c : Int) (N : Int → Int → Prop) (O : List (List AV) → Nat → Int → Int → Prop) (τ : St) : Prop :=
 match τ.at 5 with
 | .v (.sl els _) => τ = I44o s c els (ownN τ.h) (slI τ 6) (slI τ 7) ∧ O els (ownN τ.h) (slI τ 6) (slI τ 7)
 | _ => τ = I44n s c (slI τ 6) (slI τ 7) ∧ N (slI τ 6) (slI τ 7)
def I19 (a b : List (List AV)) (i : Int) : St := stOf 26 [(0, sSl a 0), (1, sSl b 0), (5, sInt i)] [] heapF
def E19 : St := stOf 26 [(4, .unk)] [] heapF
def qE19 (X : Prop) (e : Ex) (τ : St) : Prop :=
 match e with
 | .exit _ => e = .exit 0 ∧ τ = E19 ∧ X
 | _ => False
def C42 (args : List AV) (h : Heap) : Option CSpec :=
 match args with
 | [.sc (.string s), .sc (.string t)] => match t.data.toList with
  | [c] => some { pre := s.data.toList.length ≤ 4294967280, alts := [{ α := List (List UInt8), post := fun p => p = partsOf c s.data.toList, val := fun p => .sl (p.map strEl) (h.next + 1), heap := fun p => (h.new (.own 1 9 p.length)).2 }] }
  | _ => none
 | _ => none
end
end Go.Proofs.Rc
namespace Go.Proofs.Rc
open Go Go.Ef
noncomputable section
set_option maxRecDepth 100000
theorem a44 (m : Int) (s : List UInt8) (c : Int) (k : Int) (i : Int) (N : Int → Int → Prop) (O : List (List AV) → Nat → Int → Int → Prop) (X : Ex → Int → Prop) (h :
 iteP (decide (i < (↑s.length : Int)))
 (iteP (inRange i s.length)
 (iteP (byteAt s i == c)
 (iteP (decide ((0 : Int) ≤ k) && (decide (k ≤ i) && decide (i ≤ (↑s.length : Int))))
 (I44o s c [[AV.sc (Value.string (ByteArray.mk (Array.mk (cutL s k i))))]]
 [[AV.sc (Value.string (ByteArray.mk (Array.mk (cutL s k i))))]].length (IntKind.i64.wrap (i + (1 : Int)))
 (IntKind.i64.wrap (i + (1 : Int))) =
 I44o s c [[AV.sc (Value.string (ByteArray.mk (Array.mk (cutL s k i))))]]
 [[AV.sc (Value.string (ByteArray.mk (Array.mk (cutL s k i))))]].length (IntKind.i64.wrap (i + (1 : Int)))
 (IntKind.i64.wrap (i + (1 : Int))) ∧
 O [[AV.sc (Value.string (ByteArray.mk (Array.mk (cutL s k i))))]]
 [[AV.sc (Value.string (ByteArray.mk (Array.mk (cutL s k i))))]].length (IntKind.i64.wrap (i + (1 : Int)))
 (IntKind.i64.wrap (i + (1 : Int))))
 False)
 (I44n s c k (IntKind.i64.wrap (i + (1 : Int))) = I44n s c k (IntKind.i64.wrap (i + (1 : Int))) ∧
 N k (IntKind.i64.wrap (i + (1 : Int)))))
 False)
 (E44n s k = E44n s k ∧ X (Ex.exit (0 : Nat)) k)) :
 (fun (m : Int) (s : List UInt8) (c k i : Int) (N : Int → Int → Prop) (O : List (List AV) → Nat → Int → Int → Prop) (X : Ex → Int → Prop) => wpRound tab0 (cf m) Tryz.prog 40 44 5 (I44n s c k i) (fun τ => q44 s c N O τ) (fun e τ => τ = E44n s (slI τ 6) ∧ X e (slI τ 6))) m s c k i N O X :=
 Eq.mp (by kernel_rfl) h
theorem b44 (m : Int) (s : List UInt8) (c : Int) (els : List (List AV)) (n : Nat) (k : Int) (i : Int) (O : List (List AV) → Nat → Int → Int → Prop) (X : Ex → List (List AV) → Nat → Int → Prop) (h :
 iteP (decide (i < (↑s.length : Int)))
 (iteP (inRange i s.length)
 (iteP (byteAt s i == c)
 (iteP (decide ((0 : Int) ≤ k) && (decide (k ≤ i) && decide (i ≤ (↑s.length : Int))))
 (iteP
 (allLen (1 : Nat) els &&
 fits (els.length + [[AV.sc (Value.string (ByteArray.mk (Array.mk (cutL s k i))))]].length) (16 : Nat))
 (iteP (decide (els.length = n))
 (I44o s c (els ++ [[AV.sc (Value.string (ByteArray.mk (Array.mk (cutL s k i))))]])
 (n + [[AV.sc (Value.string (ByteArray.mk (Array.mk (cutL s k i))))]].length)
 (IntKind.i64.wrap (i + (1 : Int))) (IntKind.i64.wrap (i + (1 : Int))) =
 I44o s c (els ++ [[AV.sc (Value.string (ByteArray.mk (Array.mk (cutL s k i))))]])
 (n + [[AV.sc (Value.string (ByteArray.mk (Array.mk (cutL s k i))))]].length)
 (IntKind.i64.wrap (i + (1 : Int))) (IntKind.i64.wrap (i + (1 : Int))) ∧
 O (els ++ [[AV.sc (Value.string (ByteArray.mk (Array.mk (cutL s k i))))]])
 (n + [[AV.sc (Value.string (ByteArray.mk (Array.mk (cutL s k i))))]].length)
 (IntKind.i64.wrap (i + (1 : Int))) (IntKind.i64.wrap (i + (1 : Int))))
 False)
 False)
 False)
 (I44o s c els n k (IntKind.i64.wrap (i + (1 : Int))) = I44o s c els n k (IntKind.i64.wrap (i + (1 : Int))) ∧
 O els n k (IntKind.i64.wrap (i + (1 : Int)))))
 False)
 (E44o s els n k = E44o s els n k ∧ X (Ex.exit (0 : Nat)) els n k)) :
 (fun (m : Int) (s : List UInt8) (c : Int) (els : List (List AV)) (n : Nat) (k i : Int) (O : List (List AV) → Nat → Int → Int → Prop) (X : Ex → List (List AV) → Nat → Int → Prop) => wpRound tab0 (cf m) Tryz.prog 40 44 5 (I44o s c els n k i) (fun τ => τ = I44o s c (slEls τ 5) (ownN τ.h) (slI τ 6) (slI τ 7) ∧ O (slEls τ 5) (ownN τ.h) (slI τ 6) (slI τ 7)) (fun e τ => τ = E44o s (slEls τ 5) (ownN τ.h) (slI τ 6) ∧ X e (slEls τ 5) (ownN τ.h) (slI τ 6))) m s c els n k i O X :=
 Eq.mp (by kernel_rfl) h
theorem v19 (m : Int) (a : List (List AV)) (b : List (List AV)) (i : Int) (N : Int → Prop) (X : Prop) (h :
 iteP (decide (i < (↑a.length : Int)))
 (iteP (inRange i a.length)
 (getI i.toNat a = some [AV.sc (Value.string (ByteArray.mk (Array.mk (cellStr a i (0 : Nat)))))] ∧
 iteP (inRange i b.length)
 (getI i.toNat b = some [AV.sc (Value.string (ByteArray.mk (Array.mk (cellStr b i (0 : Nat)))))] ∧
 iteP (decide (cellStr a i (0 : Nat) ≠ cellStr b i (0 : Nat))) False
 (I19 a b (IntKind.i64.wrap (i + (1 : Int))) = I19 a b (IntKind.i64.wrap (i + (1 : Int))) ∧
 N (IntKind.i64.wrap (i + (1 : Int)))))
 False)
 False)
 (Ex.exit (0 : Nat) = Ex.exit (0 : Nat) ∧ E19 = E19 ∧ X)) :
 (fun (m : Int) (a b : List (List AV)) (i : Int) (N : Int → Prop) (X : Prop) => wpRound tab0 (cf m) Tryz.prog 40 19 5 (I19 a b i) (fun τ => τ = I19 a b (slI τ 5) ∧ N (slI τ 5)) (fun e τ => qE19 X e τ)) m a b i N X :=
 Eq.mp (by kernel_rfl) h
end
end Go.Proofs.Rc
namespace Go.Proofs.Rc
open Go Go.Ef
noncomputable section
set_option maxRecDepth 100000
theorem cells_len (l : List (List UInt8)) : (l.map strEl).length = l.length := List.length_map ..
theorem cells_snoc (l : List (List UInt8)) (x : List UInt8) : l.map strEl ++ [[AV.sc (Value.string (ByteArray.mk (Array.mk x)))]] = (l ++ [x]).map strEl := by rw [List.map_append]; rfl
theorem cells_all (l : List (List UInt8)) : allLen 1 (l.map strEl) = true := by
 unfold allLen
 rw [List.all_map]
 exact List.all_eq_true.2 fun _ _ => rfl
theorem fits_str {n : Nat} (h : n ≤ 4294967281) : fits n 16 = true := by
 have hm : maxRoom = 140737488355328 := by decide
 unfold fits
 rw [Nat.ble_eq_true_of_le (show n * 16 ≤ maxRoom by omega), Nat.ble_eq_true_of_le (show n ≤ maxRoom by omega)]; rfl
theorem byteAt_nat {s : List UInt8} {i : Nat} (h : i < s.length) : byteAt s (i : Int) = (s[i].toNat : Int) := by
 unfold byteAt
 rw [Int.toNat_natCast, List.getElem?_eq_getElem h]; rfl
theorem beq_byte (a b : UInt8) : ((a.toNat : Int) == (b.toNat : Int)) = decide (a = b) := by
 by_cases h : a = b
 ·subst h; simp
 ·have : ¬ ((a.toNat : Int) = b.toNat) := fun e => h (UInt8.toNat_inj.1 (by omega))
  simp [h, this]
theorem take_snoc {s : List UInt8} {i : Nat} (h : i < s.length) : s.take (i + 1) = s.take i ++ [s[i]] := List.take_succ_eq_append_getElem h
theorem cut_nat (s : List UInt8) (k i : Nat) : cutL s (k : Int) (i : Int) = (s.take i).drop k := by unfold cutL; simp
def St44 (s : List UInt8) (c : UInt8) (l : List (List UInt8)) (k i : Nat) : St :=
 match l with
 | [] => I44n s c.toNat k i
 | l => I44o s c.toNat (l.map strEl) l.length k i
def Et44 (s : List UInt8) (l : List (List UInt8)) (k : Nat) : St :=
 match l with
 | [] => E44n s k
 | l => E44o s (l.map strEl) l.length k
abbrev Loop44 (m : Int) (σ : St) (K : KR) : Prop := Ev (cf m) Tryz.prog 44 (.loop (loopAt Tryz.prog 44 5)) σ K
theorem first44 : firstId 8 (loopAt Tryz.prog 44 5) = 5 := by kernel_rfl
theorem can44n (s : List UInt8) (c k i : Int) : (I44n s c k i).tidy [0, 1, 5, 6, 7] 0 = I44n s c k i := by kernel_rfl
theorem can44o (s : List UInt8) (c : Int) (els : List (List AV)) (n : Nat) (k i : Int) : (I44o s c els n k i).tidy [0, 1, 5, 6, 7] 0 = I44o s c els n k i := by kernel_rfl
theorem round44 (m : Int) (s : List UInt8) (c : UInt8) (hs : s.length ≤ 4294967280) (l : List (List UInt8)) (k i : Nat) (hk : k ≤ i) (hi : i ≤ s.length) (hl : l.length ≤ i) {K : KR}
  (hN : i < s.length → s[i]? ≠ some c → Loop44 m (St44 s c l k (i + 1)) K)
  (hC : i < s.length → s[i]? = some c → Loop44 m (St44 s c (l ++ [(s.take i).drop k]) (i + 1) (i + 1)) K)
  (hX : i = s.length → K (.exit 0) (Et44 s l k)) : Loop44 m (St44 s c l k i) K := by
 have hw : IntKind.i64.wrap ((i : Int) + 1) = ((i + 1 : Nat) : Int) := by rw [wrap_in (by omega) (by omega)]; rfl
 have hcond : i < s.length → (0 ≤ (k : Int) ∧ (k : Int) ≤ (i : Int) ∧ (i : Int) ≤ (s.length : Int)) := fun h => by omega
 cases l with
 | nil =>
  refine Ev.round (t := ⟨[0, 1, 5, 6, 7], [0, 5, 6], 0⟩) tab0_ok first44 rfl (can44n s c.toNat k i)
   (a44 m s c.toNat k i (fun k' i' => i < s.length ∧ s[i]? ≠ some c ∧ k' = k ∧ i' = ((i + 1 : Nat) : Int)) (fun els n k' i' => i < s.length ∧ s[i]? = some c ∧ els = ([(s.take i).drop k] : List (List UInt8)).map strEl ∧ n = 1 ∧ k' = ((i + 1 : Nat) : Int) ∧ i' = ((i + 1 : Nat) : Int)) (fun e k' => i = s.length ∧ e = .exit 0 ∧ k' = k) ?_) (fun τ h => ?_) (fun e τ h => ?_)
  ·rw [hw]
   by_cases h : i < s.length
   ·rw [decide_eq_true (show (i : Int) < s.length by omega), iteP_t, show inRange (i : Int) s.length = true by rw [inRange_iff]; omega, iteP_t, byteAt_nat h, beq_byte]
    by_cases hc : s[i] = c
    ·rw [decide_eq_true hc, iteP_t]
     obtain ⟨q1, q2, q3⟩ := hcond h
     rw [decide_eq_true q1, decide_eq_true q2, decide_eq_true q3, Bool.and_self, Bool.and_self, iteP_t]
     refine ⟨rfl, h, by rw [List.getElem?_eq_getElem h, hc], ?_, rfl, rfl, rfl⟩
     rw [cut_nat]; rfl
    ·rw [decide_eq_false hc, iteP_f]
     exact ⟨rfl, h, by rw [List.getElem?_eq_getElem h]; simpa using hc, rfl, rfl⟩
   ·rw [decide_eq_false (show ¬ (i : Int) < s.length by omega), iteP_f]
    exact ⟨rfl, by omega, rfl, rfl⟩
  ·unfold q44 at h
   split at h
   ·obtain ⟨h1, h2, h3, h4, h5, h6, h7⟩ := h
    rw [h4, h5, h6, h7] at h1
    rw [h1]
    exact hC h2 h3
   ·obtain ⟨h1, h2, h3, h4, h5⟩ := h
    rw [h4, h5] at h1
    rw [h1]
    exact hN h2 h3
  ·obtain ⟨h1, h2, h3, h4⟩ := h
   rw [h4] at h1
   rw [h1, h3]
   exact hX h2
 | cons p r =>
  refine Ev.round (t := ⟨[0, 1, 5, 6, 7], [0, 5, 6], 0⟩) tab0_ok first44 rfl (can44o s c.toNat ((p :: r).map strEl) (p :: r).length k i)
   (b44 m s c.toNat ((p :: r).map strEl) (p :: r).length k i (fun els n k' i' => i < s.length ∧ ((s[i]? ≠ some c ∧ els = (p :: r).map strEl ∧ n = (p :: r).length ∧ k' = k ∧ i' = ((i + 1 : Nat) : Int)) ∨ (s[i]? = some c ∧ els = ((p :: r) ++ [(s.take i).drop k] : List (List UInt8)).map strEl ∧ n = (p :: r).length + 1 ∧ k' = ((i + 1 : Nat) : Int) ∧ i' = ((i + 1 : Nat) : Int)))) (fun e els n k' => i = s.length ∧ e = .exit 0 ∧ els = (p :: r).map strEl ∧ n = (p :: r).length ∧ k' = k) ?_) (fun τ h => ?_) (fun e τ h => ?_)
  ·rw [hw]
   by_cases h : i < s.length
   ·rw [decide_eq_true (show (i : Int) < s.length by omega), iteP_t, show inRange (i : Int) s.length = true by rw [inRange_iff]; omega, iteP_t, byteAt_nat h, beq_byte]
    by_cases hc : s[i] = c
    ·rw [decide_eq_true hc, iteP_t]
     obtain ⟨q1, q2, q3⟩ := hcond h
     rw [decide_eq_true q1, decide_eq_true q2, decide_eq_true q3, Bool.and_self, Bool.and_self, iteP_t, cells_all, cells_len, fits_str (by simp at hl ⊢; omega), Bool.and_self, iteP_t, decide_eq_true rfl, iteP_t]
     refine ⟨rfl, h, .inr ⟨by rw [List.getElem?_eq_getElem h, hc], ?_, rfl, rfl, rfl⟩⟩
     rw [cut_nat, cells_snoc]
    ·rw [decide_eq_false hc, iteP_f]
     exact ⟨rfl, h, .inl ⟨by rw [List.getElem?_eq_getElem h]; simpa using hc, rfl, rfl, rfl, rfl⟩⟩
   ·rw [decide_eq_false (show ¬ (i : Int) < s.length by omega), iteP_f]
    exact ⟨rfl, by omega, rfl, rfl, rfl, rfl⟩
  ·obtain ⟨h1, h2, ⟨h3, h4, h5, h6, h7⟩ | ⟨h3, h4, h5, h6, h7⟩⟩ := h
   ·rw [h4, h5, h6, h7] at h1
    rw [h1]
    exact hN h2 h3
   ·rw [h4, h5, h6, h7] at h1
    rw [h1]
    have := hC h2 h3
    simp only [List.cons_append] at this ⊢
    unfold St44 at this
    simp only [List.length_append, List.length_cons, List.length_nil] at this ⊢
    exact this
  ·obtain ⟨h1, h2, h3, h4, h5, h6⟩ := h
   rw [h4, h5, h6] at h1
   rw [h1, h3]
   exact hX h2
theorem scan_len (c : UInt8) (l : List UInt8) : (scanP c l).1.length ≤ l.length := by
 have := congrArg List.length (scanP_eq c l)
 rw [List.length_append, partsOf_length] at this
 have h2 : l.count c ≤ l.length := List.count_le_length
 simp at this
 omega
theorem loop44 (m : Int) (s : List UInt8) (c : UInt8) (hs : s.length ≤ 4294967280) : ∀ (f k i : Nat), s.length - i = f → i ≤ s.length → k ≤ i → (scanP c (s.take i)).2 = (s.take i).drop k →
  Loop44 m (St44 s c (scanP c (s.take i)).1 k i) fun e τ => e = .exit 0 ∧ ∃ k', τ = Et44 s (scanP c s).1 k' ∧ k' ≤ s.length ∧ (scanP c s).2 = s.drop k' := by
 intro f
 induction f with
 | zero =>
  intro k i hf hi hk hp
  have hi : i = s.length := by omega
  refine round44 m s c hs _ k i hk (by omega) (Nat.le_trans (scan_len c _) (by simp; omega)) (fun h => by omega) (fun h => by omega) (fun _ => ⟨rfl, k, ?_, by omega, ?_⟩)
  ·rw [hi, List.take_length]
  ·rw [hi, List.take_length] at hp; exact hp
 | succ f ih =>
  intro k i hf hi hk hp
  have hlt : i < s.length := by omega
  have hsn : scanP c (s.take (i + 1)) = stepP c (scanP c (s.take i)) s[i] := by rw [take_snoc hlt, scanP_snoc]
  refine round44 m s c hs _ k i hk hi (Nat.le_trans (scan_len c _) (by simp; omega)) (fun h hc => ?_) (fun h hc => ?_) (fun h => by omega)
  ·rw [List.getElem?_eq_getElem hlt] at hc
   have hc : ¬ s[i] = c := fun e => hc (by rw [e])
   have e : scanP c (s.take (i + 1)) = ((scanP c (s.take i)).1, (scanP c (s.take i)).2 ++ [s[i]]) := by rw [hsn]; unfold stepP; rw [if_neg hc]
   have := ih k (i + 1) (by omega) (by omega) (by omega) (by rw [e, hp, take_snoc hlt, List.drop_append_of_le_length (by simp; omega)])
   rw [e] at this
   exact this
  ·rw [List.getElem?_eq_getElem hlt] at hc
   have hc : s[i] = c := by simpa using hc
   have e : scanP c (s.take (i + 1)) = ((scanP c (s.take i)).1 ++ [(scanP c (s.take i)).2], []) := by rw [hsn]; unfold stepP; rw [if_pos hc]
   have := ih (i + 1) (i + 1) (by omega) (by omega) (by omega) (by rw [e]; simp)
   rw [e, hp] at this
   exact this
end
end Go.Proofs.Rc
namespace Go.Proofs.Rc
open Go Go.Ef
noncomputable section
inductive Lst : AV → List (List UInt8) → Prop where
 | sl (p : List (List UInt8)) : Lst (.sl (p.map strEl) 0) p
 | nil : Lst nilA []
structure SameLists (x y : AV) : Prop where
 both : ∃ p, Lst x p ∧ Lst y p ∧ p.length ≤ 4294967281
def u8 (n : Int) : UInt8 := UInt8.ofNat n.toNat
structure IsByte (n : Int) : Prop where
 is : ∃ c : UInt8, n = c.toNat
structure ScanNil (s : List UInt8) (c : UInt8) (k : Nat) : Prop where
 le : k ≤ s.length
 fst : (scanP c s).1 = []
 snd : (scanP c s).2 = s.drop k
structure ScanOwn (s : List UInt8) (c : UInt8) (l : List (List UInt8)) (k : Nat) : Prop where
 le : k ≤ s.length
 fst : (scanP c s).1 = l
 ne : l ≠ []
 snd : (scanP c s).2 = s.drop k
def L44 (σ : St) : Option LSpec := some { pre := σ.tidy [0, 1, 5, 6, 7] 0 = I44n (slS σ 0) (slI σ 1) 0 0 ∧ IsByte (slI σ 1) ∧ (slS σ 0).length ≤ 4294967280, alts := [{ α := Nat, post := fun k => ScanNil (slS σ 0) (u8 (slI σ 1)) k, ex := .exit 0, st := fun k => E44n (slS σ 0) k }, { α := List (List UInt8) × Nat, post := fun x => ScanOwn (slS σ 0) (u8 (slI σ 1)) x.1 x.2, ex := .exit 0, st := fun x => E44o (slS σ 0) (x.1.map strEl) x.1.length x.2 }] }
def T44 : Tab := tab0.addL 44 5 L44
structure Same (a b : List (List AV)) : Prop where
 eq : ∃ p : List (List UInt8), a = p.map strEl ∧ b = p.map strEl ∧ p.length ≤ 4294967281
def L19 (σ : St) : Option LSpec := some { pre := σ.tidy [0, 1, 5] 0 = I19 (slEls σ 0) (slEls σ 1) 0 ∧ Same (slEls σ 0) (slEls σ 1), alts := [{ α := Unit, post := fun _ => True, ex := .exit 0, st := fun _ => E19 }] }
def T19 : Tab := tab0.addL 19 5 L19
def recF (c : UInt8) (s : List UInt8) : List (List UInt8) × Bool := if (partsOf c s).getLast? = some [] then ((partsOf c s).dropLast, true) else (partsOf c s, false)
structure IsParts (p : List (List UInt8)) (c : UInt8) (s : List UInt8) : Prop where
 eq : p = partsOf c s
 ne : s ≠ []
structure NoParts (s : List UInt8) : Prop where
 eq : s = []
structure IsRec (q : List (List UInt8) × Bool) (c : UInt8) (s : List UInt8) : Prop where
 eq : q = recF c s
def C44 (args : List AV) (h : Heap) : Option CSpec :=
 match args with
 | [.sc (.string s), .sc (.int .u8 n)] => some { pre := IsByte n ∧ s.data.toList.length ≤ 4294967280, alts := [{ α := Unit, post := fun _ => NoParts s.data.toList, val := fun _ => nilA, heap := fun _ => h }, { α := List (List UInt8), post := fun p => IsParts p (u8 n) s.data.toList, val := fun p => .sl (p.map strEl) 0, heap := fun _ => h }] }
 | _ => none
def C17 (args : List AV) (h : Heap) : Option CSpec :=
 match args with
 | [.sc (.string s), .sc (.string t)] => match t.data.toList with
  | c :: _ => some { pre := s.data.toList.length ≤ 4294967280, alts := [{ α := List (List UInt8) × Bool, post := fun q => IsRec q c s.data.toList, val := fun q => .tup [.sl (q.1.map strEl) 0, aBool q.2], heap := fun _ => h }] }
  | [] => none
 | _ => none
def C18 (args : List AV) (h : Heap) : Option CSpec :=
 match args with
 | [.sc (.string s), .sc (.string t)] => match t.data.toList with
  | c :: _ => some { pre := s.data.toList.length ≤ 4294967280, alts := [{ α := AV × Bool, post := fun q => Lst q.1 (recF c s.data.toList).1 ∧ q.2 = (recF c s.data.toList).2, val := fun q => .tup [q.1, aBool q.2], heap := fun _ => h }] }
  | [] => none
 | _ => none
def C19 (args : List AV) (h : Heap) : Option CSpec :=
 match args with
 | [x, y] => some (fspec (SameLists x y) (aBool true) h)
 | _ => none
def C20 (args : List AV) (h : Heap) : Option CSpec :=
 match args with
 | [] => some (fspec True (aBool true) h)
 | _ => none
end
end Go.Proofs.Rc
namespace Go.Proofs.Rc
open Go Go.Ef
noncomputable section
set_option maxRecDepth 100000
theorem c44 (m : Int) (s : List UInt8) (c : Int) (K : AV → Prop) (h :
 loopAt Tryz.prog (44 : Nat) (5 : Nat) = loopAt Tryz.prog (44 : Nat) (5 : Nat) ∧
 (I44n s c (0 : Int) (0 : Int) = I44n s c (0 : Int) (0 : Int) ∧ IsByte c ∧ s.length ≤ (4294967280 : Nat)) ∧
 (∀ (x : Nat),
 ScanNil s (u8 c) x →
 iteP (decide (s ≠ []))
 (iteP (decide ((0 : Int) ≤ (↑x : Int)) && decide ((↑x : Int) ≤ (↑s.length : Int)))
 (K (AV.sl [[AV.sc (Value.string (ByteArray.mk (Array.mk (List.drop (↑x : Int).toNat s))))]] (0 : Nat)))
 False)
 (K (AV.sc (Value.slice none (0 : Nat) (0 : Nat))))) ∧
 ∀ (x : List (List UInt8) × Nat),
 ScanOwn s (u8 c) x.fst x.snd →
 iteP (decide (s ≠ []))
 (iteP (decide ((0 : Int) ≤ (↑x.snd : Int)) && decide ((↑x.snd : Int) ≤ (↑s.length : Int)))
 (iteP
 (allLen (1 : Nat) (List.map strEl x.fst) &&
 fits
 ((List.map strEl x.fst).length +
 [[AV.sc (Value.string (ByteArray.mk (Array.mk (List.drop (↑x.snd : Int).toNat s))))]].length)
 (16 : Nat))
 (iteP (decide ((List.map strEl x.fst).length = x.fst.length))
 (iteP
 (plainEls
 (List.map strEl x.fst ++
 [[AV.sc (Value.string (ByteArray.mk (Array.mk (List.drop (↑x.snd : Int).toNat s))))]]))
 (K
 (AV.sl
 (List.map strEl x.fst ++
 [[AV.sc (Value.string (ByteArray.mk (Array.mk (List.drop (↑x.snd : Int).toNat s))))]])
 (0 : Nat)))
 False)
 False)
 False)
 False)
 (iteP (plainEls (List.map strEl x.fst)) (K (AV.sl (List.map strEl x.fst) (0 : Nat))) False)) :
 (fun (m : Int) (s : List UInt8) (c : Int) (K : AV → Prop) => wpCall T44 (cf m) Tryz.prog 40 44 [aStr s, aK .u8 c] heapF fun r h' => wpBack h' r K) m s c K :=
 Eq.mp (by kernel_rfl) h
theorem c17 (m : Int) (s : List UInt8) (t : List UInt8) (c : UInt8) (K : AV → Prop) (h :
 iteP (true && decide ((1 : Int) ≤ (↑(c :: t).length : Int)))
 (s.length.le (4294967280 : Nat) ∧
 ∀ (x : List (List UInt8)),
 x = partsOf c s →
 iteP (inRange (IntKind.i64.wrap ((↑(List.map strEl x).length : Int) - (1 : Int))) (List.map strEl x).length)
 (getI (IntKind.i64.wrap ((↑(List.map strEl x).length : Int) - (1 : Int))).toNat (List.map strEl x) =
 some
 [AV.sc
 (Value.string
 (ByteArray.mk
 (Array.mk
 (cellStr (List.map strEl x)
 (IntKind.i64.wrap ((↑(List.map strEl x).length : Int) - (1 : Int))) (0 : Nat)))))] ∧
 iteP
 (decide
 (cellStr (List.map strEl x) (IntKind.i64.wrap ((↑(List.map strEl x).length : Int) - (1 : Int)))
 (0 : Nat) =
 []))
 (iteP (headLen (1 : Nat) (List.map strEl x))
 (iteP
 (true &&
 (decide ((0 : Int) ≤ IntKind.i64.wrap ((↑(List.map strEl x).length : Int) - (1 : Int))) &&
 (decide
 (IntKind.i64.wrap ((↑(List.map strEl x).length : Int) - (1 : Int)) ≤
 IntKind.i64.wrap ((↑(List.map strEl x).length : Int) - (1 : Int))) &&
 decide
 (IntKind.i64.wrap ((↑(List.map strEl x).length : Int) - (1 : Int)) ≤
 (↑(List.map strEl x).length : Int)))))
 (iteP
 (plainEls
 (cutL (List.map strEl x) (0 : Int)
 (IntKind.i64.wrap ((↑(List.map strEl x).length : Int) - (1 : Int)))))
 (K
 (AV.tup
 [AV.sl
 (cutL (List.map strEl x) (0 : Int)
 (IntKind.i64.wrap ((↑(List.map strEl x).length : Int) - (1 : Int))))
 (0 : Nat),
 AV.sc (Value.bool true)]))
 False)
 False)
 False)
 (iteP (plainEls (List.map strEl x))
 (K (AV.tup [AV.sl (List.map strEl x) (0 : Nat), AV.sc (Value.bool false)])) False))
 False)
 False) :
 (fun (m : Int) (s t : List UInt8) (c : UInt8) (K : AV → Prop) => wpCall (tab0.addC 42 C42) (cf m) Tryz.prog 40 17 [aStr s, aStr (c :: t)] heapF fun r h' => wpBack h' r K) m s t c K :=
 Eq.mp (by kernel_rfl) h
theorem c18 (m : Int) (s : List UInt8) (t : List UInt8) (c : UInt8) (K : AV → Prop) (h :
 iteP (inRange (0 : Int) (c :: t).length)
 ((IsByte (byteAt (c :: t) (0 : Int)) ∧ s.length ≤ (4294967280 : Nat)) ∧
 (∀ (_ : Unit), NoParts s → K (AV.tup [AV.sc (Value.slice none (0 : Nat) (0 : Nat)), AV.sc (Value.bool true)])) ∧
 ∀ (x : List (List UInt8)),
 IsParts x (u8 (byteAt (c :: t) (0 : Int))) s →
 iteP ((↑(List.map strEl x).length : Int) == (0 : Int))
 (K (AV.tup [AV.sc (Value.slice none (0 : Nat) (0 : Nat)), AV.sc (Value.bool true)]))
 (iteP
 (inRange (IntKind.i64.wrap ((↑(List.map strEl x).length : Int) - (1 : Int))) (List.map strEl x).length)
 (getI (IntKind.i64.wrap ((↑(List.map strEl x).length : Int) - (1 : Int))).toNat (List.map strEl x) =
 some
 [AV.sc
 (Value.string
 (ByteArray.mk
 (Array.mk
 (cellStr (List.map strEl x)
 (IntKind.i64.wrap ((↑(List.map strEl x).length : Int) - (1 : Int))) (0 : Nat)))))] ∧
 iteP
 (decide
 (cellStr (List.map strEl x) (IntKind.i64.wrap ((↑(List.map strEl x).length : Int) - (1 : Int)))
 (0 : Nat) =
 []))
 (iteP (headLen (1 : Nat) (List.map strEl x))
 (iteP
 (decide ((0 : Int) ≤ IntKind.i64.wrap ((↑(List.map strEl x).length : Int) - (1 : Int))) &&
 decide
 (IntKind.i64.wrap ((↑(List.map strEl x).length : Int) - (1 : Int)) ≤
 (↑(List.map strEl x).length : Int)))
 (K
 (AV.tup
 [AV.sl
 (List.take (IntKind.i64.wrap ((↑(List.map strEl x).length : Int) - (1 : Int))).toNat
 (List.map strEl x))
 (0 : Nat),
 AV.sc (Value.bool true)]))
 False)
 False)
 (K (AV.tup [AV.sl (List.map strEl x) (0 : Nat), AV.sc (Value.bool false)])))
 False))
 False) :
 (fun (m : Int) (s t : List UInt8) (c : UInt8) (K : AV → Prop) => wpCall (tab0.addC 44 C44) (cf m) Tryz.prog 40 18 [aStr s, aStr (c :: t)] heapF fun r h' => wpBack h' r K) m s t c K :=
 Eq.mp (by kernel_rfl) h
theorem c19 (m : Int) (a : List (List AV)) (b : List (List AV)) (K : AV → Prop) (h :
 iteP ((↑a.length : Int) != (↑b.length : Int)) (K (AV.sc (Value.bool false)))
 (loopAt Tryz.prog (19 : Nat) (5 : Nat) = loopAt Tryz.prog (19 : Nat) (5 : Nat) ∧
 (I19 a b (0 : Int) = I19 a b (0 : Int) ∧ Same a b) ∧ ∀ (_ : Unit), True → K (AV.sc (Value.bool true)))) :
 (fun (m : Int) (a b : List (List AV)) (K : AV → Prop) => wpCall T19 (cf m) Tryz.prog 40 19 [.sl a 0, .sl b 0] heapF fun r h' => wpBack h' r K) m a b K :=
 Eq.mp (by kernel_rfl) h
end
end Go.Proofs.Rc
namespace Go.Proofs.Rc
open Go Go.Ef
noncomputable section
set_option maxRecDepth 100000
theorem cell_get (l : List (List UInt8)) (i : Nat) : getI i (l.map strEl) = (l[i]?).map strEl := by rw [getI_eq, List.getElem?_map]
theorem cell_str {l : List (List UInt8)} {i : Nat} {x : List UInt8} (h : l[i]? = some x) : cellStr (l.map strEl) (i : Int) 0 = x := by
 unfold cellStr cellAt
 rw [Int.toNat_natCast, cell_get, h]; rfl
theorem cell_some {l : List (List UInt8)} {i : Nat} {x : List UInt8} (h : l[i]? = some x) : getI (i : Int).toNat (l.map strEl) = some [AV.sc (Value.string (ByteArray.mk (Array.mk (cellStr (l.map strEl) (i : Int) 0))))] := by
 rw [cell_str h, Int.toNat_natCast, cell_get, h]; rfl
theorem cells_plain (l : List (List UInt8)) : plainEls (l.map strEl) = true := by
 unfold plainEls
 rw [List.all_map]
 exact List.all_eq_true.2 fun _ _ => rfl
theorem cells_head (l : List (List UInt8)) : headLen 1 (l.map strEl) = true := by cases l <;> rfl
theorem cells_take (l : List (List UInt8)) (n : Nat) : (l.map strEl).take n = (l.take n).map strEl := by rw [List.map_take]
theorem cells_cut (l : List (List UInt8)) (a b : Nat) : cutL (l.map strEl) (a : Int) (b : Int) = ((l.take b).drop a).map strEl := by
 unfold cutL
 rw [Int.toNat_natCast, Int.toNat_natCast, List.map_drop, List.map_take]
theorem u8_nat (c : UInt8) : u8 (c.toNat : Int) = c := by unfold u8; rw [Int.toNat_natCast]; exact UInt8.ofNat_toNat
theorem parts_ne (c : UInt8) (s : List UInt8) : partsOf c s ≠ [] := by
 intro h
 have := partsOf_length c s
 rw [h] at this; cases this
theorem parts_len (c : UInt8) (s : List UInt8) : (partsOf c s).length ≤ s.length + 1 := by
 rw [partsOf_length]
 have : s.count c ≤ s.length := List.count_le_length
 omega
variable {m : Int} {T : Tab}
abbrev Ok (m : Int) (T : Tab) : Prop := TabOk Tryz.prog (cf m) T
theorem ok42 (O : Ok m T) : Ok m (T.addC 42 C42) := by
 refine addC_ok O fun args h s hs hp => ?_
 unfold C42 at hs
 split at hs
 ·rename_i s0 t0
  split at hs
  ·rename_i c ht
   cases hs
   refine ⟨_, List.mem_singleton.2 rfl, partsOf c s0.data.toList, 0, rfl, ?_⟩
   show splitP 9 [.sc (.string s0), .sc (.string t0)] h = _
   unfold splitP
   simp only [ht]
   rw [Nat.ble_eq_true_of_le hp]; rfl
  ·cases hs
 ·cases hs
theorem ok44L : Ok m T44 := by
 refine addL_ok tab0_ok fun σ s hs hp => ?_
 cases hs
 obtain ⟨e, ⟨c, hc⟩, h1⟩ := hp
 have he : Loop44 m σ fun e τ => e = .exit 0 ∧ ∃ k', τ = Et44 (slS σ 0) (scanP c (slS σ 0)).1 k' ∧ k' ≤ (slS σ 0).length ∧ (scanP c (slS σ 0)).2 = (slS σ 0).drop k' := by
  refine Ev.tidied (t := ⟨[0, 1, 5, 6, 7], [0, 5, 6], 0⟩) (τ := I44n (slS σ 0) (slI σ 1) 0 0) (by kernel_rfl) (by rw [e]; kernel_rfl) ?_
  have := loop44 m (slS σ 0) c h1 _ 0 0 rfl (Nat.zero_le _) (Nat.le_refl _) rfl
  rw [hc]
  exact this
 obtain ⟨n, ex, τ, h2, rfl, k, rfl, h4, h5⟩ := he
 have hu : u8 (slI σ 1) = c := by rw [hc, u8_nat]
 cases hl : (scanP c (slS σ 0)).1 with
 | nil =>
  rw [hl] at h2
  exact ⟨_, List.mem_cons_self .., k, ⟨h4, by rw [hu]; exact hl, by rw [hu]; exact h5⟩, n, h2⟩
 | cons p r =>
  rw [hl] at h2
  exact ⟨_, List.mem_cons_of_mem _ (List.mem_cons_self ..), (p :: r, k), ⟨h4, by rw [hu]; exact hl, by simp, by rw [hu]; exact h5⟩, n, h2⟩
theorem ok44 (O : Ok m T) : Ok m (T.addC 44 C44) := by
 refine addC_ok O fun args h s hs hp => ?_
 unfold C44 at hs
 split at hs
 ·rename_i s0 n0
  cases hs
  obtain ⟨⟨c, hc⟩, h1⟩ := hp
  subst hc
  obtain ⟨⟨s0⟩⟩ := s0
  have key : EvP (cf m) Tryz.prog 44 [aStr s0, aK .u8 c.toNat] h fun y h' => ((s0 = [] ∧ y = nilA) ∨ (s0 ≠ [] ∧ y = .sl ((partsOf c s0).map strEl) 0)) ∧ h' = h := by
   refine EvP.freshK ok44L (n := 40) (by kernel_rfl) (by kernel_rfl) (args' := [aStr s0, aK .u8 c.toNat]) rfl (c44 m s0 c.toNat _ ⟨rfl, ⟨rfl, ⟨c, rfl⟩, h1⟩, fun k hk => ?_, fun x hx => ?_⟩)
   ·obtain ⟨k1, k2, k3⟩ := hk
    rw [u8_nat] at k2 k3
    by_cases h0 : s0 = []
    ·rw [decide_eq_false (by simpa using h0), iteP_f]
     exact .inl ⟨h0, rfl⟩
    ·rw [decide_eq_true h0, iteP_t, decide_eq_true (by omega), decide_eq_true (by omega), Bool.and_self, iteP_t]
     refine .inr ⟨h0, ?_⟩
     rw [← scanP_eq, k2, k3, Int.toNat_natCast]; rfl
   ·obtain ⟨k1, k2, k3, k4⟩ := hx
    rw [u8_nat] at k2 k4
    have hne : s0 ≠ [] := by rintro rfl; exact k3 (by rw [← k2]; rfl)
    have hlen : x.1.length ≤ s0.length := by rw [← k2]; exact scan_len c s0
    have e : x.1.map strEl ++ [[AV.sc (Value.string (ByteArray.mk (Array.mk (List.drop (x.2 : Int).toNat s0))))]] = (partsOf c s0).map strEl := by
     rw [cells_snoc, Int.toNat_natCast, ← k4, ← k2, scanP_eq]
    rw [decide_eq_true hne, iteP_t, decide_eq_true (by omega), decide_eq_true (by omega), Bool.and_self, iteP_t, e, cells_all, cells_len, fits_str (by simp at h1 ⊢; omega), Bool.and_self, iteP_t, decide_eq_true rfl, iteP_t, cells_plain, iteP_t]
    exact .inr ⟨hne, rfl⟩
  obtain ⟨n, y, h', h2, h3 | h3, rfl⟩ := key
  ·obtain ⟨h3, rfl⟩ := h3
   exact ⟨_, List.mem_cons_self .., (), n, ⟨h3⟩, h2⟩
  ·obtain ⟨h3, rfl⟩ := h3
   exact ⟨_, List.mem_cons_of_mem _ (List.mem_cons_self ..), partsOf c s0, n, ⟨by rw [u8_nat], h3⟩, h2⟩
 ·cases hs
theorem last_spec {p : List (List UInt8)} (h : p ≠ []) : ∃ x, p[p.length - 1]? = some x ∧ p.getLast? = some x ∧ 1 ≤ p.length := by
 have hl : 1 ≤ p.length := List.length_pos_iff.2 h
 refine ⟨p[p.length - 1]'(by omega), List.getElem?_eq_getElem _, ?_, hl⟩
 rw [List.getLast?_eq_getElem?]
 exact List.getElem?_eq_getElem _
theorem ok17 (O : Ok m T) : Ok m (T.addC 17 C17) := by
 refine addC_ok O fun args h s hs hp => ?_
 unfold C17 at hs
 split at hs
 ·rename_i s0 t0
  split at hs
  ·rename_i c r ht
   cases hs
   obtain ⟨⟨s0⟩⟩ := s0
   obtain ⟨⟨t0⟩⟩ := t0
   have ht : t0 = c :: r := ht
   subst ht
   have key : EvP (cf m) Tryz.prog 17 [aStr s0, aStr (c :: r)] h fun y h' => y = .tup [.sl ((recF c s0).1.map strEl) 0, aBool (recF c s0).2] ∧ h' = h := by
    refine EvP.freshK (ok42 tab0_ok) (n := 40) (by kernel_rfl) (by kernel_rfl) (args' := [aStr s0, aStr (c :: r)]) rfl (c17 m s0 r c _ ?_)
    rw [decide_eq_true (by simp; omega), Bool.and_self, iteP_t]
    refine ⟨hp, fun p hq => ?_⟩
    subst hq
    obtain ⟨x, hx, hlast, hl⟩ := last_spec (parts_ne c s0)
    have hb := parts_len c s0
    have hp' : s0.length ≤ 4294967280 := hp
    have hw : IntKind.i64.wrap (((partsOf c s0).length : Int) - 1) = (((partsOf c s0).length - 1 : Nat) : Int) := by rw [wrap_in (by omega) (by omega)]; omega
    rw [cells_len, hw, show inRange (((partsOf c s0).length - 1 : Nat) : Int) (partsOf c s0).length = true by rw [inRange_iff]; omega, iteP_t]
    refine ⟨cell_some hx, ?_⟩
    rw [cell_str hx]
    by_cases h0 : x = []
    ·rw [decide_eq_true h0, iteP_t, cells_head, iteP_t, decide_eq_true (by omega), decide_eq_true (by omega), decide_eq_true (by omega), Bool.and_self, Bool.and_self, Bool.and_self, iteP_t,
      show cutL ((partsOf c s0).map strEl) 0 (((partsOf c s0).length - 1 : Nat) : Int) = (partsOf c s0).dropLast.map strEl by rw [show (0 : Int) = ((0 : Nat) : Int) from rfl, cells_cut, List.drop_zero, List.dropLast_eq_take],
      cells_plain, iteP_t]
     unfold recF
     rw [hlast, h0, if_pos rfl]; rfl
    ·rw [decide_eq_false h0, iteP_f, cells_plain, iteP_t]
     unfold recF
     rw [hlast, if_neg (by simpa using h0)]; rfl
   obtain ⟨n, y, h', h2, rfl, rfl⟩ := key
   exact ⟨_, List.mem_singleton.2 rfl, recF c s0, n, ⟨rfl⟩, h2⟩
  ·cases hs
 ·cases hs
theorem ok18 (O : Ok m T) : Ok m (T.addC 18 C18) := by
 refine addC_ok O fun args h s hs hp => ?_
 unfold C18 at hs
 split at hs
 ·rename_i s0 t0
  split at hs
  ·rename_i c r ht
   cases hs
   obtain ⟨⟨s0⟩⟩ := s0
   obtain ⟨⟨t0⟩⟩ := t0
   have ht : t0 = c :: r := ht
   subst ht
   have hp' : s0.length ≤ 4294967280 := hp
   have hb0 : byteAt (c :: r) 0 = c.toNat := rfl
   have key : EvP (cf m) Tryz.prog 18 [aStr s0, aStr (c :: r)] h fun y h' => (∃ q : AV × Bool, (Lst q.1 (recF c s0).1 ∧ q.2 = (recF c s0).2) ∧ y = .tup [q.1, aBool q.2]) ∧ h' = h := by
    refine EvP.freshK (ok44 tab0_ok) (n := 40) (by kernel_rfl) (by kernel_rfl) (args' := [aStr s0, aStr (c :: r)]) rfl (c18 m s0 r c _ ?_)
    rw [show inRange 0 (c :: r).length = true by rw [inRange_iff]; simp, iteP_t, hb0]
    refine ⟨⟨⟨c, rfl⟩, hp'⟩, fun _ h0 => ?_, fun p hq => ?_⟩
    ·obtain ⟨rfl⟩ := h0
     exact ⟨(nilA, true), ⟨.nil, rfl⟩, rfl⟩
    ·obtain ⟨rfl, hne⟩ := hq
     rw [u8_nat]
     obtain ⟨x, hx, hlast, hl⟩ := last_spec (parts_ne c s0)
     have hb := parts_len c s0
     have hw : IntKind.i64.wrap (((partsOf c s0).length : Int) - 1) = (((partsOf c s0).length - 1 : Nat) : Int) := by rw [wrap_in (by omega) (by omega)]; omega
     rw [cells_len, show (((partsOf c s0).length : Int) == 0) = false by simp [parts_ne], iteP_f, hw, show inRange (((partsOf c s0).length - 1 : Nat) : Int) (partsOf c s0).length = true by rw [inRange_iff]; omega, iteP_t]
     refine ⟨cell_some hx, ?_⟩
     rw [cell_str hx]
     by_cases h0 : x = []
     ·rw [decide_eq_true h0, iteP_t, cells_head, iteP_t, decide_eq_true (by omega), decide_eq_true (by omega), Bool.and_self, iteP_t, Int.toNat_natCast, cells_take, ← List.dropLast_eq_take]
      refine ⟨(.sl ((partsOf c s0).dropLast.map strEl) 0, true), ?_, rfl⟩
      unfold recF
      rw [hlast, h0, if_pos rfl]
      exact ⟨.sl _, rfl⟩
     ·rw [decide_eq_false h0, iteP_f]
      refine ⟨(.sl ((partsOf c s0).map strEl) 0, false), ?_, rfl⟩
      unfold recF
      rw [hlast, if_neg (by simpa using h0)]
      exact ⟨.sl _, rfl⟩
   obtain ⟨n, y, h', h2, ⟨q, hq, rfl⟩, rfl⟩ := key
   exact ⟨_, List.mem_singleton.2 rfl, q, n, hq, h2⟩
  ·cases hs
 ·cases hs
theorem loop19 (p : List (List UInt8)) (hp : p.length ≤ 4294967281) : ∀ (f i : Nat), p.length - i = f → i ≤ p.length →
  Ev (cf m) Tryz.prog 19 (.loop (loopAt Tryz.prog 19 5)) (I19 (p.map strEl) (p.map strEl) i) fun e τ => e = .exit 0 ∧ τ = E19 := by
 have can : ∀ i : Nat, (I19 (p.map strEl) (p.map strEl) i).tidy [0, 1, 5] 0 = I19 (p.map strEl) (p.map strEl) i := fun i => by kernel_rfl
 intro f
 induction f with
 | zero =>
  intro i hf hi
  refine Ev.round (t := ⟨[0, 1, 5], [4], 0⟩) tab0_ok (by kernel_rfl) rfl (can i) (v19 m _ _ i (fun _ => False) True ?_) (fun τ h => h.2.elim) (fun e τ h => ?_)
  ·rw [cells_len, decide_eq_false (by omega), iteP_f]
   exact ⟨rfl, rfl, trivial⟩
  ·unfold qE19 at h
   split at h
   ·exact ⟨h.1, h.2.1⟩
   ·exact h.elim
 | succ f ih =>
  intro i hf hi
  have hw : IntKind.i64.wrap ((i : Int) + 1) = ((i + 1 : Nat) : Int) := by rw [wrap_in (by omega) (by omega)]; rfl
  refine Ev.round (t := ⟨[0, 1, 5], [4], 0⟩) tab0_ok (by kernel_rfl) rfl (can i) (v19 m _ _ i (fun j => j = ((i + 1 : Nat) : Int)) False ?_) (fun τ h => ?_) (fun e τ h => ?_)
  ·have hx : p[i]? = some (p[i]'(by omega)) := List.getElem?_eq_getElem _
   rw [cells_len, decide_eq_true (by omega), iteP_t, show inRange (i : Int) p.length = true by rw [inRange_iff]; omega, iteP_t, hw]
   refine ⟨cell_some hx, ?_⟩
   rw [iteP_t]
   refine ⟨cell_some hx, ?_⟩
   rw [decide_eq_false (by simp), iteP_f]
   exact ⟨rfl, rfl⟩
  ·obtain ⟨h1, h2⟩ := h
   rw [h2] at h1
   rw [h1]
   exact ih (i + 1) (by omega) (by omega)
  ·unfold qE19 at h
   split at h
   ·exact h.2.2.elim
   ·exact h.elim
theorem ok19L : Ok m T19 := by
 refine addL_ok tab0_ok fun σ s hs hp => ?_
 cases hs
 obtain ⟨e, p, h1, h2, h3⟩ := hp
 have he : Ev (cf m) Tryz.prog 19 (.loop (loopAt Tryz.prog 19 5)) σ fun e τ => e = .exit 0 ∧ τ = E19 := by
  refine Ev.tidied (t := ⟨[0, 1, 5], [4], 0⟩) (τ := I19 (p.map strEl) (p.map strEl) (0 : Nat)) (by kernel_rfl) (by rw [e, h1, h2]; kernel_rfl) ?_
  exact loop19 p h3 _ 0 rfl (Nat.zero_le _)
 obtain ⟨n, ex, τ, h4, rfl, rfl⟩ := he
 exact ⟨_, List.mem_singleton.2 rfl, (), trivial, n, h4⟩
theorem ok19 (O : Ok m T) : Ok m (T.addC 19 C19) := by
 refine addC_ok O fun args h s hs hp => ?_
 unfold C19 at hs
 split at hs
 ·rename_i x y
  cases hs
  obtain ⟨p, hx, hy, hl⟩ := hp
  have fin : (∃ n, callP (cf m) (evCall (cf m) Tryz.prog n) 19 [x, y] h = some (aBool true, h)) → ∃ a ∈ (fspec (SameLists x y) (aBool true) h).alts, ∃ x_1 n, a.post x_1 ∧ callP (cf m) (evCall (cf m) Tryz.prog n) 19 [x, y] h = some (a.val x_1, a.heap x_1) :=
   fun ⟨n, hn⟩ => ⟨_, List.mem_singleton.2 rfl, (), n, trivial, hn⟩
  apply fin
  cases hx with
  | nil =>
   cases hy with
   | nil => exact ⟨100, by kernel_rfl⟩
   | sl _ => exact ⟨100, by kernel_rfl⟩
  | sl _ =>
   cases hy with
   | nil => exact ⟨100, by kernel_rfl⟩
   | sl _ =>
    have key : EvP (cf m) Tryz.prog 19 [.sl (p.map strEl) 0, .sl (p.map strEl) 0] h fun y h' => y = aBool true ∧ h' = h := by
     refine EvP.freshV ok19L (n := 40) (by kernel_rfl) (by kernel_rfl) (args' := [.sl (p.map strEl) 0, .sl (p.map strEl) 0]) rfl (c19 m _ _ _ ?_)
     rw [show (((p.map strEl).length : Int) != ((p.map strEl).length : Int)) = false by simp, iteP_f]
     exact ⟨rfl, ⟨rfl, p, rfl, rfl, hl⟩, fun _ _ => rfl⟩
    obtain ⟨n, v, h', h1, rfl, rfl⟩ := key
    exact ⟨n, h1⟩
 ·cases hs
theorem ok20 (O : Ok m T) : Ok m (T.addC 20 C20) := by
 refine addC_ok O fun args h s hs _ => ?_
 unfold C20 at hs
 split at hs
 ·cases hs
  obtain ⟨h', he⟩ := Rec.yes_spec (Rec.awake_ev m)
  refine ⟨_, List.mem_singleton.2 rfl, (), 1000, trivial, ?_⟩
  show callP (cf m) (evCall (cf m) Tryz.prog 1000) 20 [] h = some (aBool true, h)
  have hf : (cf m).fresh 20 = true := by kernel_rfl
  unfold callP
  rw [show (cf m).prim 20 = none from rfl]
  simp only []
  rw [hf]
  simp only [cond_true]
  show (match evCall (cf m) Tryz.prog 1000 20 [] heapF with | some (r, h') => _ | none => _) = _
  rw [he]; rfl
 ·cases hs
end
end Go.Proofs.Rc
namespace Go.Proofs.Rc
open Go Go.Ef
noncomputable section
structure NoByte (els : List (List AV)) (i c : Int) : Prop where
 is : ∃ (j : Nat) (x : List UInt8) (d : UInt8), i = j ∧ c = d.toNat ∧ els[j]? = some (strEl x) ∧ d ∉ x ∧ x.length ≤ 4294967280
def joinE (c : UInt8) (p : List (List UInt8)) : List UInt8 := (p.map (· ++ [c])).flatten
structure Free (els : List (List AV)) (c : Int) (p : List (List UInt8)) : Prop where
 is : ∃ d : UInt8, c = d.toNat ∧ els = p.map strEl ∧ (∀ x ∈ p, d ∉ x) ∧ (joinE d p).length ≤ 4294967280
structure Joined (t : List UInt8) (els : List (List AV)) (c : Int) : Prop where
 is : ∀ p d, els = p.map strEl → c = ((d : UInt8).toNat : Int) → t = joinE d p
structure HasFree (els : List (List AV)) (c : Int) : Prop where
 is : ∃ p, Free els c p
end
end Go.Proofs.Rc
namespace Go.Proofs.Rc
open Go Go.Ef
noncomputable section
set_option maxRecDepth 100000
variable {m : Int} {T : Tab}
theorem joinE_nil (c : UInt8) : joinE c [] = [] := rfl
theorem joinE_cons (c : UInt8) (x : List UInt8) (p : List (List UInt8)) : joinE c (x :: p) = x ++ [c] ++ joinE c p := by unfold joinE; simp
theorem joinE_app (c : UInt8) (p q : List (List UInt8)) : joinE c (p ++ q) = joinE c p ++ joinE c q := by unfold joinE; simp
theorem joinE_parts (c : UInt8) (s : List UInt8) : joinE c (partsOf c s) = s ++ [c] := by
 induction s with
 | nil => rfl
 | cons b s ih =>
  rw [partsOf_cons]
  by_cases h : b = c
  ·subst h; rw [if_pos rfl, joinE_cons, ih]; rfl
  ·rw [if_neg h]
   cases hq : partsOf c s with
   | nil => exact absurd hq (parts_ne c s)
   | cons p r =>
    rw [hq, joinE_cons] at ih
    show joinE c ((b :: p) :: r) = _
    rw [joinE_cons]
    simp only [List.cons_append]
    rw [← ih]
theorem parts_free (c : UInt8) (s : List UInt8) : ∀ x ∈ partsOf c s, c ∉ x := by
 induction s with
 | nil => intro x hx; simp [partsOf] at hx; subst hx; simp
 | cons b s ih =>
  rw [partsOf_cons]
  by_cases h : b = c
  ·subst h
   rw [if_pos rfl]
   intro x hx
   rcases List.mem_cons.1 hx with rfl | hx
   ·simp
   ·exact ih x hx
  ·rw [if_neg h]
   cases hq : partsOf c s with
   | nil => exact absurd hq (parts_ne c s)
   | cons p r =>
    rw [hq] at ih
    intro x hx
    rcases List.mem_cons.1 hx with rfl | hx
    ·intro hc
     rcases List.mem_cons.1 hc with e | hc
     ·exact h e.symm
     ·exact ih p (by simp) hc
    ·exact ih x (by simp [hx])
theorem joinE_take_le (c : UInt8) (p : List (List UInt8)) (i : Nat) : (joinE c (p.take i)).length ≤ (joinE c p).length := by
 have := congrArg List.length (joinE_app c (p.take i) (p.drop i))
 rw [List.take_append_drop, List.length_append] at this
 omega
theorem joinE_count (c : UInt8) (p : List (List UInt8)) : p.length ≤ (joinE c p).length := by
 induction p with
 | nil => simp
 | cons x p ih => rw [joinE_cons]; simp; omega
theorem fits_any {a b : List UInt8} (h : a.length + b.length ≤ 9223372036854775807) : strFits a b = true := by
 rw [strFits_iff]; omega
theorem rec_join (c : UInt8) (s : List UInt8) : joinE c (recF c s).1 = if (recF c s).2 = true then s else s ++ [c] := by
 unfold recF
 split
 ·rename_i h
  have hp := joinE_parts c s
  have hd : partsOf c s = (partsOf c s).dropLast ++ [[]] := by
   obtain ⟨x, h1, h2, h3⟩ := last_spec (parts_ne c s)
   rw [h] at h2
   cases h2
   have := List.take_append_drop ((partsOf c s).length - 1) (partsOf c s)
   rw [← List.dropLast_eq_take, List.drop_eq_getElem_cons (by omega)] at this
   rw [List.getElem?_eq_getElem (by omega)] at h1
   rw [Option.some.inj h1, List.drop_eq_nil_of_le (by omega)] at this
   exact this.symm
  rw [hd, joinE_app] at hp
  show joinE c (partsOf c s).dropLast = s
  have e : joinE c [[]] = [c] := rfl
  rw [e] at hp
  exact List.append_cancel_right hp
 ·exact joinE_parts c s
theorem cells_inj {p q : List (List UInt8)} (h : p.map strEl = q.map strEl) : p = q := by
 refine List.map_inj_right (f := strEl) (fun x y e => ?_) |>.1 h
 unfold strEl at e
 simpa using e
end
end Go.Proofs.Rc
namespace Go.Proofs.Rc
open Go Go.Ef
noncomputable section
def joinN (p : List (List UInt8)) : List UInt8 := Lib.join p [10]
def flushG (a : List (List UInt8) × List (List UInt8)) : List (List UInt8) := if a.2 = [] then a.1 else a.1 ++ [joinN a.2]
def stepG (a : List (List UInt8) × List (List UInt8)) (x : List UInt8) : List (List UInt8) × List (List UInt8) := if x = [] then (flushG a, []) else (a.1, a.2 ++ [x])
def groupF (p : List (List UInt8)) : List (List UInt8) := flushG (p.foldl stepG ([], []))
def endsTwo (s : List UInt8) : Bool := decide (2 ≤ s.length ∧ s.drop (s.length - 2) = [10, 10])
def paraF (s : List UInt8) : List (List UInt8) × Bool := (groupF (recF 10 s).1, (groupF (recF 10 s).1).isEmpty || endsTwo s)
def stepR (n : Nat) (a : List (List UInt8) × List UInt8) (x : List UInt8 × Nat) : List (List UInt8) × List UInt8 :=
 if x.1 = [] then (if a.2 ≠ [] ∧ x.2 + 1 < n then (a.1 ++ [a.2], []) else a) else if a.2 ≠ [] then (a.1, a.2 ++ [10] ++ x.1) else (a.1, x.1)
def scanR (p : List (List UInt8)) (i : Nat) : List (List UInt8) × List UInt8 := ((p.zipIdx).take i).foldl (stepR p.length) ([], [])
def paraR (s : List UInt8) : List (List UInt8) × Bool := if (scanR (partsOf 10 s) (partsOf 10 s).length).2 = [] then ((scanR (partsOf 10 s) (partsOf 10 s).length).1, true) else ((scanR (partsOf 10 s) (partsOf 10 s).length).1 ++ [(scanR (partsOf 10 s) (partsOf 10 s).length).2], false)
def I41n (s : List UInt8) (els : List (List AV)) (k i : Int) : St := stOf 55 [(0, sStr s), (4, sSl els 0), (6, sNil), (7, sInt k), (8, sInt i)] [] heapF
def I41o (s : List UInt8) (els out : List (List AV)) (n : Nat) (k i : Int) : St := stOf 55 [(0, sStr s), (4, sSl els 0), (6, sSl out 2), (7, sInt k), (8, sInt i)] [] (hO 9 n)
def E41n (s : List UInt8) : St := stOf 55 [(0, sStr s), (6, sNil)] [] heapF
def E41o (s : List UInt8) (out : List (List AV)) (n : Nat) : St := stOf 55 [(0, sStr s), (6, sSl out 2)] [] (hO 9 n)
def q41 (s : List UInt8) (els : List (List AV)) (N : Int → Int → Prop) (O : List (List AV) → Nat → Int → Int → Prop) (τ : St) : Prop :=
 match τ.at 6 with
 | .v (.sl out _) => τ = I41o s els out (ownN τ.h) (slI τ 7) (slI τ 8) ∧ O out (ownN τ.h) (slI τ 7) (slI τ 8)
 | _ => τ = I41n s els (slI τ 7) (slI τ 8) ∧ N (slI τ 7) (slI τ 8)
def I43n (last : List UInt8) (els : List (List AV)) (i : Int) : St := stOf 68 [(4, sNil), (5, sStr last), (6, sSl els 0), (7, sInt i)] [] heapF
def I43o (out : List (List AV)) (n : Nat) (last : List UInt8) (els : List (List AV)) (i : Int) : St := stOf 68 [(4, sSl out 2), (5, sStr last), (6, sSl els 0), (7, sInt i)] [] (hO 9 n)
def E43n (last : List UInt8) : St := stOf 68 [(4, sNil), (5, sStr last)] [] heapF
def E43o (out : List (List AV)) (n : Nat) (last : List UInt8) : St := stOf 68 [(4, sSl out 2), (5, sStr last)] [] (hO 9 n)
def q43 (els : List (List AV)) (N : List UInt8 → Int → Prop) (O : List (List AV) → Nat → List UInt8 → Int → Prop) (τ : St) : Prop :=
 match τ.at 4 with
 | .v (.sl out _) => τ = I43o out (ownN τ.h) (slS τ 5) els (slI τ 7) ∧ O out (ownN τ.h) (slS τ 5) (slI τ 7)
 | _ => τ = I43n (slS τ 5) els (slI τ 7) ∧ N (slS τ 5) (slI τ 7)
structure JoinOk (els : List (List AV)) : Prop where
 is : ∃ p : List (List UInt8), els = p.map strEl ∧ p.length ≤ 4294967281 ∧ (joinN p).length ≤ 8589934592
structure IsJoin (x : List UInt8) (els : List (List AV)) : Prop where
 is : ∀ p : List (List UInt8), els = p.map strEl → x = joinN p
def C73 (args : List AV) (h : Heap) : Option CSpec :=
 match args with
 | [.sl els _, .sc (.string t)] => match t.data.toList with
  | [10] => some { pre := JoinOk els, alts := [{ α := List UInt8, post := fun x => IsJoin x els, val := fun x => aStr x, heap := fun _ => h }] }
  | _ => none
 | _ => none
def C72 (args : List AV) (h : Heap) : Option CSpec :=
 match args with
 | [.sc (.string s)] => some { pre := s.data.toList.length ≤ 4294967280, alts := [{ α := Unit, post := fun _ => NoParts s.data.toList, val := fun _ => .tup [nilA, aBool true], heap := fun _ => h }, { α := List (List UInt8) × Bool, post := fun q => IsRec q 10 s.data.toList, val := fun q => .tup [.sl (q.1.map strEl) 0, aBool q.2], heap := fun _ => h }] }
 | _ => none
def T41 : Tab := tab0.addC 73 C73
end
end Go.Proofs.Rc
namespace Go.Proofs.Rc
open Go Go.Ef
noncomputable section
set_option maxRecDepth 100000
theorem c72 (m : Int) (s : List UInt8) (K : AV → Prop) (h :
 iteP (decide (s = [])) (K (AV.tup [AV.sc (Value.slice none (0 : Nat) (0 : Nat)), AV.sc (Value.bool true)]))
 (s.length.le (4294967280 : Nat) ∧
 ∀ (x : List (List UInt8)),
 x = partsOf (10 : UInt8) s →
 iteP (inRange (IntKind.i64.wrap ((↑(List.map strEl x).length : Int) - (1 : Int))) (List.map strEl x).length)
 (getI (IntKind.i64.wrap ((↑(List.map strEl x).length : Int) - (1 : Int))).toNat (List.map strEl x) =
 some
 [AV.sc
 (Value.string
 (ByteArray.mk
 (Array.mk
 (cellStr (List.map strEl x)
 (IntKind.i64.wrap ((↑(List.map strEl x).length : Int) - (1 : Int))) (0 : Nat)))))] ∧
 iteP
 (decide
 (cellStr (List.map strEl x) (IntKind.i64.wrap ((↑(List.map strEl x).length : Int) - (1 : Int)))
 (0 : Nat) =
 []))
 (iteP (headLen (1 : Nat) (List.map strEl x))
 (iteP
 (true &&
 (decide ((0 : Int) ≤ IntKind.i64.wrap ((↑(List.map strEl x).length : Int) - (1 : Int))) &&
 (decide
 (IntKind.i64.wrap ((↑(List.map strEl x).length : Int) - (1 : Int)) ≤
 IntKind.i64.wrap ((↑(List.map strEl x).length : Int) - (1 : Int))) &&
 decide
 (IntKind.i64.wrap ((↑(List.map strEl x).length : Int) - (1 : Int)) ≤
 (↑(List.map strEl x).length : Int)))))
 (iteP
 (plainEls
 (cutL (List.map strEl x) (0 : Int)
 (IntKind.i64.wrap ((↑(List.map strEl x).length : Int) - (1 : Int)))))
 (K
 (AV.tup
 [AV.sl
 (cutL (List.map strEl x) (0 : Int)
 (IntKind.i64.wrap ((↑(List.map strEl x).length : Int) - (1 : Int))))
 (0 : Nat),
 AV.sc (Value.bool true)]))
 False)
 False)
 False)
 (iteP (plainEls (List.map strEl x))
 (K (AV.tup [AV.sl (List.map strEl x) (0 : Nat), AV.sc (Value.bool false)])) False))
 False)) :
 (fun (m : Int) (s : List UInt8) (K : AV → Prop) => wpCall (tab0.addC 42 C42) (cf m) Tryz.prog 40 72 [aStr s] heapF fun r h' => wpBack h' r K) m s K :=
 Eq.mp (by kernel_rfl) h
theorem a41 (m : Int) (s : List UInt8) (els : List (List AV)) (k : Int) (i : Int) (N : Int → Int → Prop) (O : List (List AV) → Nat → Int → Int → Prop) (X : Ex → Prop) (h :
 iteP (decide (i ≤ (↑els.length : Int)))
 (iteP (decide (i < (↑els.length : Int)))
 (iteP (inRange i els.length)
 (getI i.toNat els = some [AV.sc (Value.string (ByteArray.mk (Array.mk (cellStr els i (0 : Nat)))))] ∧
 iteP (decide (cellStr els i (0 : Nat) ≠ []))
 (I41n s els k (IntKind.i64.wrap (i + (1 : Int))) = I41n s els k (IntKind.i64.wrap (i + (1 : Int))) ∧
 N k (IntKind.i64.wrap (i + (1 : Int))))
 (iteP (headLen (1 : Nat) els)
 (iteP
 (decide ((0 : Int) ≤ (some k).getD (0 : Int)) &&
 (decide ((some k).getD (0 : Int) ≤ i) && (decide (i ≤ i) && decide (i ≤ (↑els.length : Int)))))
 (iteP (decide ((0 : Int) < (↑(cutL els ((some k).getD (0 : Int)) i).length : Int)))
 (JoinOk (cutL els ((some k).getD (0 : Int)) i) ∧
 ∀ (x : List UInt8),
 IsJoin x (cutL els ((some k).getD (0 : Int)) i) →
 I41o s els [[AV.sc (Value.string (ByteArray.mk (Array.mk x)))]]
 [[AV.sc (Value.string (ByteArray.mk (Array.mk x)))]].length
 (IntKind.i64.wrap (i + (1 : Int))) (IntKind.i64.wrap (i + (1 : Int))) =
 I41o s els [[AV.sc (Value.string (ByteArray.mk (Array.mk x)))]]
 [[AV.sc (Value.string (ByteArray.mk (Array.mk x)))]].length
 (IntKind.i64.wrap (i + (1 : Int))) (IntKind.i64.wrap (i + (1 : Int))) ∧
 O [[AV.sc (Value.string (ByteArray.mk (Array.mk x)))]]
 [[AV.sc (Value.string (ByteArray.mk (Array.mk x)))]].length (IntKind.i64.wrap (i + (1 : Int)))
 (IntKind.i64.wrap (i + (1 : Int))))
 (I41n s els (IntKind.i64.wrap (i + (1 : Int))) (IntKind.i64.wrap (i + (1 : Int))) =
 I41n s els (IntKind.i64.wrap (i + (1 : Int))) (IntKind.i64.wrap (i + (1 : Int))) ∧
 N (IntKind.i64.wrap (i + (1 : Int))) (IntKind.i64.wrap (i + (1 : Int)))))
 False)
 False))
 False)
 (iteP (headLen (1 : Nat) els)
 (iteP
 (decide ((0 : Int) ≤ (some k).getD (0 : Int)) &&
 (decide ((some k).getD (0 : Int) ≤ i) && (decide (i ≤ i) && decide (i ≤ (↑els.length : Int)))))
 (iteP (decide ((0 : Int) < (↑(cutL els ((some k).getD (0 : Int)) i).length : Int)))
 (JoinOk (cutL els ((some k).getD (0 : Int)) i) ∧
 ∀ (x : List UInt8),
 IsJoin x (cutL els ((some k).getD (0 : Int)) i) →
 I41o s els [[AV.sc (Value.string (ByteArray.mk (Array.mk x)))]]
 [[AV.sc (Value.string (ByteArray.mk (Array.mk x)))]].length (IntKind.i64.wrap (i + (1 : Int)))
 (IntKind.i64.wrap (i + (1 : Int))) =
 I41o s els [[AV.sc (Value.string (ByteArray.mk (Array.mk x)))]]
 [[AV.sc (Value.string (ByteArray.mk (Array.mk x)))]].length (IntKind.i64.wrap (i + (1 : Int)))
 (IntKind.i64.wrap (i + (1 : Int))) ∧
 O [[AV.sc (Value.string (ByteArray.mk (Array.mk x)))]]
 [[AV.sc (Value.string (ByteArray.mk (Array.mk x)))]].length (IntKind.i64.wrap (i + (1 : Int)))
 (IntKind.i64.wrap (i + (1 : Int))))
 (I41n s els (IntKind.i64.wrap (i + (1 : Int))) (IntKind.i64.wrap (i + (1 : Int))) =
 I41n s els (IntKind.i64.wrap (i + (1 : Int))) (IntKind.i64.wrap (i + (1 : Int))) ∧
 N (IntKind.i64.wrap (i + (1 : Int))) (IntKind.i64.wrap (i + (1 : Int)))))
 False)
 False))
 (E41n s = E41n s ∧ X (Ex.exit (0 : Nat)))) :
 (fun (m : Int) (s : List UInt8) (els : List (List AV)) (k i : Int) (N : Int → Int → Prop) (O : List (List AV) → Nat → Int → Int → Prop) (X : Ex → Prop) => wpRound T41 (cf m) Tryz.prog 40 41 6 (I41n s els k i) (fun τ => q41 s els N O τ) (fun e τ => τ = E41n s ∧ X e)) m s els k i N O X :=
 Eq.mp (by kernel_rfl) h
theorem b41 (m : Int) (s : List UInt8) (els : List (List AV)) (out : List (List AV)) (n : Nat) (k : Int) (i : Int) (O : List (List AV) → Nat → Int → Int → Prop) (X : Ex → List (List AV) → Nat → Prop) (h :
 iteP (decide (i ≤ (↑els.length : Int)))
 (iteP (decide (i < (↑els.length : Int)))
 (iteP (inRange i els.length)
 (getI i.toNat els = some [AV.sc (Value.string (ByteArray.mk (Array.mk (cellStr els i (0 : Nat)))))] ∧
 iteP (decide (cellStr els i (0 : Nat) ≠ []))
 (I41o s els out n k (IntKind.i64.wrap (i + (1 : Int))) =
 I41o s els out n k (IntKind.i64.wrap (i + (1 : Int))) ∧
 O out n k (IntKind.i64.wrap (i + (1 : Int))))
 (iteP (headLen (1 : Nat) els)
 (iteP
 (decide ((0 : Int) ≤ (some k).getD (0 : Int)) &&
 (decide ((some k).getD (0 : Int) ≤ i) && (decide (i ≤ i) && decide (i ≤ (↑els.length : Int)))))
 (iteP (decide ((0 : Int) < (↑(cutL els ((some k).getD (0 : Int)) i).length : Int)))
 (JoinOk (cutL els ((some k).getD (0 : Int)) i) ∧
 ∀ (x : List UInt8),
 IsJoin x (cutL els ((some k).getD (0 : Int)) i) →
 iteP
 (allLen (1 : Nat) out &&
 fits (out.length + [[AV.sc (Value.string (ByteArray.mk (Array.mk x)))]].length) (16 : Nat))
 (iteP (decide (out.length = n))
 (I41o s els (out ++ [[AV.sc (Value.string (ByteArray.mk (Array.mk x)))]])
 (n + [[AV.sc (Value.string (ByteArray.mk (Array.mk x)))]].length)
 (IntKind.i64.wrap (i + (1 : Int))) (IntKind.i64.wrap (i + (1 : Int))) =
 I41o s els (out ++ [[AV.sc (Value.string (ByteArray.mk (Array.mk x)))]])
 (n + [[AV.sc (Value.string (ByteArray.mk (Array.mk x)))]].length)
 (IntKind.i64.wrap (i + (1 : Int))) (IntKind.i64.wrap (i + (1 : Int))) ∧
 O (out ++ [[AV.sc (Value.string (ByteArray.mk (Array.mk x)))]])
 (n + [[AV.sc (Value.string (ByteArray.mk (Array.mk x)))]].length)
 (IntKind.i64.wrap (i + (1 : Int))) (IntKind.i64.wrap (i + (1 : Int))))
 False)
 False)
 (I41o s els out n (IntKind.i64.wrap (i + (1 : Int))) (IntKind.i64.wrap (i + (1 : Int))) =
 I41o s els out n (IntKind.i64.wrap (i + (1 : Int))) (IntKind.i64.wrap (i + (1 : Int))) ∧
 O out n (IntKind.i64.wrap (i + (1 : Int))) (IntKind.i64.wrap (i + (1 : Int)))))
 False)
 False))
 False)
 (iteP (headLen (1 : Nat) els)
 (iteP
 (decide ((0 : Int) ≤ (some k).getD (0 : Int)) &&
 (decide ((some k).getD (0 : Int) ≤ i) && (decide (i ≤ i) && decide (i ≤ (↑els.length : Int)))))
 (iteP (decide ((0 : Int) < (↑(cutL els ((some k).getD (0 : Int)) i).length : Int)))
 (JoinOk (cutL els ((some k).getD (0 : Int)) i) ∧
 ∀ (x : List UInt8),
 IsJoin x (cutL els ((some k).getD (0 : Int)) i) →
 iteP
 (allLen (1 : Nat) out &&
 fits (out.length + [[AV.sc (Value.string (ByteArray.mk (Array.mk x)))]].length) (16 : Nat))
 (iteP (decide (out.length = n))
 (I41o s els (out ++ [[AV.sc (Value.string (ByteArray.mk (Array.mk x)))]])
 (n + [[AV.sc (Value.string (ByteArray.mk (Array.mk x)))]].length)
 (IntKind.i64.wrap (i + (1 : Int))) (IntKind.i64.wrap (i + (1 : Int))) =
 I41o s els (out ++ [[AV.sc (Value.string (ByteArray.mk (Array.mk x)))]])
 (n + [[AV.sc (Value.string (ByteArray.mk (Array.mk x)))]].length)
 (IntKind.i64.wrap (i + (1 : Int))) (IntKind.i64.wrap (i + (1 : Int))) ∧
 O (out ++ [[AV.sc (Value.string (ByteArray.mk (Array.mk x)))]])
 (n + [[AV.sc (Value.string (ByteArray.mk (Array.mk x)))]].length)
 (IntKind.i64.wrap (i + (1 : Int))) (IntKind.i64.wrap (i + (1 : Int))))
 False)
 False)
 (I41o s els out n (IntKind.i64.wrap (i + (1 : Int))) (IntKind.i64.wrap (i + (1 : Int))) =
 I41o s els out n (IntKind.i64.wrap (i + (1 : Int))) (IntKind.i64.wrap (i + (1 : Int))) ∧
 O out n (IntKind.i64.wrap (i + (1 : Int))) (IntKind.i64.wrap (i + (1 : Int)))))
 False)
 False))
 (E41o s out n = E41o s out n ∧ X (Ex.exit (0 : Nat)) out n)) :
 (fun (m : Int) (s : List UInt8) (els out : List (List AV)) (n : Nat) (k i : Int) (O : List (List AV) → Nat → Int → Int → Prop) (X : Ex → List (List AV) → Nat → Prop) => wpRound T41 (cf m) Tryz.prog 40 41 6 (I41o s els out n k i) (fun τ => τ = I41o s els (slEls τ 6) (ownN τ.h) (slI τ 7) (slI τ 8) ∧ O (slEls τ 6) (ownN τ.h) (slI τ 7) (slI τ 8)) (fun e τ => τ = E41o s (slEls τ 6) (ownN τ.h) ∧ X e (slEls τ 6) (ownN τ.h))) m s els out n k i O X :=
 Eq.mp (by kernel_rfl) h
theorem a43 (m : Int) (last : List UInt8) (els : List (List AV)) (i : Int) (N : List UInt8 → Int → Prop) (O : List (List AV) → Nat → List UInt8 → Int → Prop) (X : Ex → List UInt8 → Prop) (h :
 iteP (decide (i < (↑els.length : Int)))
 (iteP (inRange i els.length)
 (getI i.toNat els = some [AV.sc (Value.string (ByteArray.mk (Array.mk (cellStr els i (0 : Nat)))))] ∧
 iteP (decide (cellStr els i (0 : Nat) = []))
 (iteP (decide (last ≠ []))
 (iteP (decide (IntKind.i64.wrap (i + (1 : Int)) < (↑els.length : Int)))
 (I43o [[AV.sc (Value.string (ByteArray.mk (Array.mk last)))]]
 [[AV.sc (Value.string (ByteArray.mk (Array.mk last)))]].length [] els
 (IntKind.i64.wrap (i + (1 : Int))) =
 I43o [[AV.sc (Value.string (ByteArray.mk (Array.mk last)))]]
 [[AV.sc (Value.string (ByteArray.mk (Array.mk last)))]].length [] els
 (IntKind.i64.wrap (i + (1 : Int))) ∧
 O [[AV.sc (Value.string (ByteArray.mk (Array.mk last)))]]
 [[AV.sc (Value.string (ByteArray.mk (Array.mk last)))]].length [] (IntKind.i64.wrap (i + (1 : Int))))
 (iteP (inRange i els.length)
 (getI i.toNat els = some [AV.sc (Value.string (ByteArray.mk (Array.mk (cellStr els i (0 : Nat)))))] ∧
 iteP (decide (cellStr els i (0 : Nat) ≠ []))
 (iteP (decide (last ≠ []))
 (iteP (strFits last [(10 : UInt8)])
 (iteP (inRange i els.length)
 (getI i.toNat els =
 some [AV.sc (Value.string (ByteArray.mk (Array.mk (cellStr els i (0 : Nat)))))] ∧
 iteP (strFits (last ++ [(10 : UInt8)]) (cellStr els i (0 : Nat)))
 (I43n (last ++ [(10 : UInt8)] ++ cellStr els i (0 : Nat)) els
 (IntKind.i64.wrap (i + (1 : Int))) =
 I43n (last ++ [(10 : UInt8)] ++ cellStr els i (0 : Nat)) els
 (IntKind.i64.wrap (i + (1 : Int))) ∧
 N (last ++ [(10 : UInt8)] ++ cellStr els i (0 : Nat)) (IntKind.i64.wrap (i + (1 : Int))))
 False)
 False)
 False)
 (iteP (inRange i els.length)
 (getI i.toNat els =
 some [AV.sc (Value.string (ByteArray.mk (Array.mk (cellStr els i (0 : Nat)))))] ∧
 iteP (decide (cellStr els i (0 : Nat) ≠ []))
 (iteP (inRange i els.length)
 (getI i.toNat els =
 some [AV.sc (Value.string (ByteArray.mk (Array.mk (cellStr els i (0 : Nat)))))] ∧
 I43n (cellStr els i (0 : Nat)) els (IntKind.i64.wrap (i + (1 : Int))) =
 I43n (cellStr els i (0 : Nat)) els (IntKind.i64.wrap (i + (1 : Int))) ∧
 N (cellStr els i (0 : Nat)) (IntKind.i64.wrap (i + (1 : Int))))
 False)
 (I43n last els (IntKind.i64.wrap (i + (1 : Int))) =
 I43n last els (IntKind.i64.wrap (i + (1 : Int))) ∧
 N last (IntKind.i64.wrap (i + (1 : Int)))))
 False))
 (iteP (inRange i els.length)
 (getI i.toNat els =
 some [AV.sc (Value.string (ByteArray.mk (Array.mk (cellStr els i (0 : Nat)))))] ∧
 iteP (decide (cellStr els i (0 : Nat) ≠ []))
 (iteP (inRange i els.length)
 (getI i.toNat els =
 some [AV.sc (Value.string (ByteArray.mk (Array.mk (cellStr els i (0 : Nat)))))] ∧
 I43n (cellStr els i (0 : Nat)) els (IntKind.i64.wrap (i + (1 : Int))) =
 I43n (cellStr els i (0 : Nat)) els (IntKind.i64.wrap (i + (1 : Int))) ∧
 N (cellStr els i (0 : Nat)) (IntKind.i64.wrap (i + (1 : Int))))
 False)
 (I43n last els (IntKind.i64.wrap (i + (1 : Int))) =
 I43n last els (IntKind.i64.wrap (i + (1 : Int))) ∧
 N last (IntKind.i64.wrap (i + (1 : Int)))))
 False))
 False))
 (iteP (inRange i els.length)
 (getI i.toNat els = some [AV.sc (Value.string (ByteArray.mk (Array.mk (cellStr els i (0 : Nat)))))] ∧
 iteP (decide (cellStr els i (0 : Nat) ≠ []))
 (iteP (decide (last ≠ []))
 (iteP (strFits last [(10 : UInt8)])
 (iteP (inRange i els.length)
 (getI i.toNat els =
 some [AV.sc (Value.string (ByteArray.mk (Array.mk (cellStr els i (0 : Nat)))))] ∧
 iteP (strFits (last ++ [(10 : UInt8)]) (cellStr els i (0 : Nat)))
 (I43n (last ++ [(10 : UInt8)] ++ cellStr els i (0 : Nat)) els
 (IntKind.i64.wrap (i + (1 : Int))) =
 I43n (last ++ [(10 : UInt8)] ++ cellStr els i (0 : Nat)) els
 (IntKind.i64.wrap (i + (1 : Int))) ∧
 N (last ++ [(10 : UInt8)] ++ cellStr els i (0 : Nat)) (IntKind.i64.wrap (i + (1 : Int))))
 False)
 False)
 False)
 (iteP (inRange i els.length)
 (getI i.toNat els =
 some [AV.sc (Value.string (ByteArray.mk (Array.mk (cellStr els i (0 : Nat)))))] ∧
 iteP (decide (cellStr els i (0 : Nat) ≠ []))
 (iteP (inRange i els.length)
 (getI i.toNat els =
 some [AV.sc (Value.string (ByteArray.mk (Array.mk (cellStr els i (0 : Nat)))))] ∧
 I43n (cellStr els i (0 : Nat)) els (IntKind.i64.wrap (i + (1 : Int))) =
 I43n (cellStr els i (0 : Nat)) els (IntKind.i64.wrap (i + (1 : Int))) ∧
 N (cellStr els i (0 : Nat)) (IntKind.i64.wrap (i + (1 : Int))))
 False)
 (I43n last els (IntKind.i64.wrap (i + (1 : Int))) =
 I43n last els (IntKind.i64.wrap (i + (1 : Int))) ∧
 N last (IntKind.i64.wrap (i + (1 : Int)))))
 False))
 (iteP (inRange i els.length)
 (getI i.toNat els = some [AV.sc (Value.string (ByteArray.mk (Array.mk (cellStr els i (0 : Nat)))))] ∧
 iteP (decide (cellStr els i (0 : Nat) ≠ []))
 (iteP (inRange i els.length)
 (getI i.toNat els =
 some [AV.sc (Value.string (ByteArray.mk (Array.mk (cellStr els i (0 : Nat)))))] ∧
 I43n (cellStr els i (0 : Nat)) els (IntKind.i64.wrap (i + (1 : Int))) =
 I43n (cellStr els i (0 : Nat)) els (IntKind.i64.wrap (i + (1 : Int))) ∧
 N (cellStr els i (0 : Nat)) (IntKind.i64.wrap (i + (1 : Int))))
 False)
 (I43n last els (IntKind.i64.wrap (i + (1 : Int))) =
 I43n last els (IntKind.i64.wrap (i + (1 : Int))) ∧
 N last (IntKind.i64.wrap (i + (1 : Int)))))
 False))
 False))
 (iteP (inRange i els.length)
 (getI i.toNat els = some [AV.sc (Value.string (ByteArray.mk (Array.mk (cellStr els i (0 : Nat)))))] ∧
 iteP (decide (cellStr els i (0 : Nat) ≠ []))
 (iteP (decide (last ≠ []))
 (iteP (strFits last [(10 : UInt8)])
 (iteP (inRange i els.length)
 (getI i.toNat els =
 some [AV.sc (Value.string (ByteArray.mk (Array.mk (cellStr els i (0 : Nat)))))] ∧
 iteP (strFits (last ++ [(10 : UInt8)]) (cellStr els i (0 : Nat)))
 (I43n (last ++ [(10 : UInt8)] ++ cellStr els i (0 : Nat)) els
 (IntKind.i64.wrap (i + (1 : Int))) =
 I43n (last ++ [(10 : UInt8)] ++ cellStr els i (0 : Nat)) els
 (IntKind.i64.wrap (i + (1 : Int))) ∧
 N (last ++ [(10 : UInt8)] ++ cellStr els i (0 : Nat)) (IntKind.i64.wrap (i + (1 : Int))))
 False)
 False)
 False)
 (iteP (inRange i els.length)
 (getI i.toNat els = some [AV.sc (Value.string (ByteArray.mk (Array.mk (cellStr els i (0 : Nat)))))] ∧
 iteP (decide (cellStr els i (0 : Nat) ≠ []))
 (iteP (inRange i els.length)
 (getI i.toNat els =
 some [AV.sc (Value.string (ByteArray.mk (Array.mk (cellStr els i (0 : Nat)))))] ∧
 I43n (cellStr els i (0 : Nat)) els (IntKind.i64.wrap (i + (1 : Int))) =
 I43n (cellStr els i (0 : Nat)) els (IntKind.i64.wrap (i + (1 : Int))) ∧
 N (cellStr els i (0 : Nat)) (IntKind.i64.wrap (i + (1 : Int))))
 False)
 (I43n last els (IntKind.i64.wrap (i + (1 : Int))) =
 I43n last els (IntKind.i64.wrap (i + (1 : Int))) ∧
 N last (IntKind.i64.wrap (i + (1 : Int)))))
 False))
 (iteP (inRange i els.length)
 (getI i.toNat els = some [AV.sc (Value.string (ByteArray.mk (Array.mk (cellStr els i (0 : Nat)))))] ∧
 iteP (decide (cellStr els i (0 : Nat) ≠ []))
 (iteP (inRange i els.length)
 (getI i.toNat els =
 some [AV.sc (Value.string (ByteArray.mk (Array.mk (cellStr els i (0 : Nat)))))] ∧
 I43n (cellStr els i (0 : Nat)) els (IntKind.i64.wrap (i + (1 : Int))) =
 I43n (cellStr els i (0 : Nat)) els (IntKind.i64.wrap (i + (1 : Int))) ∧
 N (cellStr els i (0 : Nat)) (IntKind.i64.wrap (i + (1 : Int))))
 False)
 (I43n last els (IntKind.i64.wrap (i + (1 : Int))) =
 I43n last els (IntKind.i64.wrap (i + (1 : Int))) ∧
 N last (IntKind.i64.wrap (i + (1 : Int)))))
 False))
 False))
 False)
 (E43n last = E43n last ∧ X (Ex.exit (0 : Nat)) last)) :
 (fun (m : Int) (last : List UInt8) (els : List (List AV)) (i : Int) (N : List UInt8 → Int → Prop) (O : List (List AV) → Nat → List UInt8 → Int → Prop) (X : Ex → List UInt8 → Prop) => wpRound tab0 (cf m) Tryz.prog 40 43 6 (I43n last els i) (fun τ => q43 els N O τ) (fun e τ => τ = E43n (slS τ 5) ∧ X e (slS τ 5))) m last els i N O X :=
 Eq.mp (by kernel_rfl) h
theorem b43 (m : Int) (out : List (List AV)) (n : Nat) (last : List UInt8) (els : List (List AV)) (i : Int) (O : List (List AV) → Nat → List UInt8 → Int → Prop) (X : Ex → List (List AV) → Nat → List UInt8 → Prop) (h :
 iteP (decide (i < (↑els.length : Int)))
 (iteP (inRange i els.length)
 (getI i.toNat els = some [AV.sc (Value.string (ByteArray.mk (Array.mk (cellStr els i (0 : Nat)))))] ∧
 iteP (decide (cellStr els i (0 : Nat) = []))
 (iteP (decide (last ≠ []))
 (iteP (decide (IntKind.i64.wrap (i + (1 : Int)) < (↑els.length : Int)))
 (iteP
 (allLen (1 : Nat) out &&
 fits (out.length + [[AV.sc (Value.string (ByteArray.mk (Array.mk last)))]].length) (16 : Nat))
 (iteP (decide (out.length = n))
 (I43o (out ++ [[AV.sc (Value.string (ByteArray.mk (Array.mk last)))]])
 (n + [[AV.sc (Value.string (ByteArray.mk (Array.mk last)))]].length) [] els
 (IntKind.i64.wrap (i + (1 : Int))) =
 I43o (out ++ [[AV.sc (Value.string (ByteArray.mk (Array.mk last)))]])
 (n + [[AV.sc (Value.string (ByteArray.mk (Array.mk last)))]].length) [] els
 (IntKind.i64.wrap (i + (1 : Int))) ∧
 O (out ++ [[AV.sc (Value.string (ByteArray.mk (Array.mk last)))]])
 (n + [[AV.sc (Value.string (ByteArray.mk (Array.mk last)))]].length) []
 (IntKind.i64.wrap (i + (1 : Int))))
 False)
 False)
 (iteP (inRange i els.length)
 (getI i.toNat els = some [AV.sc (Value.string (ByteArray.mk (Array.mk (cellStr els i (0 : Nat)))))] ∧
 iteP (decide (cellStr els i (0 : Nat) ≠ []))
 (iteP (decide (last ≠ []))
 (iteP (strFits last [(10 : UInt8)])
 (iteP (inRange i els.length)
 (getI i.toNat els =
 some [AV.sc (Value.string (ByteArray.mk (Array.mk (cellStr els i (0 : Nat)))))] ∧
 iteP (strFits (last ++ [(10 : UInt8)]) (cellStr els i (0 : Nat)))
 (I43o out n (last ++ [(10 : UInt8)] ++ cellStr els i (0 : Nat)) els
 (IntKind.i64.wrap (i + (1 : Int))) =
 I43o out n (last ++ [(10 : UInt8)] ++ cellStr els i (0 : Nat)) els
 (IntKind.i64.wrap (i + (1 : Int))) ∧
 O out n (last ++ [(10 : UInt8)] ++ cellStr els i (0 : Nat))
 (IntKind.i64.wrap (i + (1 : Int))))
 False)
 False)
 False)
 (iteP (inRange i els.length)
 (getI i.toNat els =
 some [AV.sc (Value.string (ByteArray.mk (Array.mk (cellStr els i (0 : Nat)))))] ∧
 iteP (decide (cellStr els i (0 : Nat) ≠ []))
 (iteP (inRange i els.length)
 (getI i.toNat els =
 some [AV.sc (Value.string (ByteArray.mk (Array.mk (cellStr els i (0 : Nat)))))] ∧
 I43o out n (cellStr els i (0 : Nat)) els (IntKind.i64.wrap (i + (1 : Int))) =
 I43o out n (cellStr els i (0 : Nat)) els (IntKind.i64.wrap (i + (1 : Int))) ∧
 O out n (cellStr els i (0 : Nat)) (IntKind.i64.wrap (i + (1 : Int))))
 False)
 (I43o out n last els (IntKind.i64.wrap (i + (1 : Int))) =
 I43o out n last els (IntKind.i64.wrap (i + (1 : Int))) ∧
 O out n last (IntKind.i64.wrap (i + (1 : Int)))))
 False))
 (iteP (inRange i els.length)
 (getI i.toNat els =
 some [AV.sc (Value.string (ByteArray.mk (Array.mk (cellStr els i (0 : Nat)))))] ∧
 iteP (decide (cellStr els i (0 : Nat) ≠ []))
 (iteP (inRange i els.length)
 (getI i.toNat els =
 some [AV.sc (Value.string (ByteArray.mk (Array.mk (cellStr els i (0 : Nat)))))] ∧
 I43o out n (cellStr els i (0 : Nat)) els (IntKind.i64.wrap (i + (1 : Int))) =
 I43o out n (cellStr els i (0 : Nat)) els (IntKind.i64.wrap (i + (1 : Int))) ∧
 O out n (cellStr els i (0 : Nat)) (IntKind.i64.wrap (i + (1 : Int))))
 False)
 (I43o out n last els (IntKind.i64.wrap (i + (1 : Int))) =
 I43o out n last els (IntKind.i64.wrap (i + (1 : Int))) ∧
 O out n last (IntKind.i64.wrap (i + (1 : Int)))))
 False))
 False))
 (iteP (inRange i els.length)
 (getI i.toNat els = some [AV.sc (Value.string (ByteArray.mk (Array.mk (cellStr els i (0 : Nat)))))] ∧
 iteP (decide (cellStr els i (0 : Nat) ≠ []))
 (iteP (decide (last ≠ []))
 (iteP (strFits last [(10 : UInt8)])
 (iteP (inRange i els.length)
 (getI i.toNat els =
 some [AV.sc (Value.string (ByteArray.mk (Array.mk (cellStr els i (0 : Nat)))))] ∧
 iteP (strFits (last ++ [(10 : UInt8)]) (cellStr els i (0 : Nat)))
 (I43o out n (last ++ [(10 : UInt8)] ++ cellStr els i (0 : Nat)) els
 (IntKind.i64.wrap (i + (1 : Int))) =
 I43o out n (last ++ [(10 : UInt8)] ++ cellStr els i (0 : Nat)) els
 (IntKind.i64.wrap (i + (1 : Int))) ∧
 O out n (last ++ [(10 : UInt8)] ++ cellStr els i (0 : Nat))
 (IntKind.i64.wrap (i + (1 : Int))))
 False)
 False)
 False)
 (iteP (inRange i els.length)
 (getI i.toNat els =
 some [AV.sc (Value.string (ByteArray.mk (Array.mk (cellStr els i (0 : Nat)))))] ∧
 iteP (decide (cellStr els i (0 : Nat) ≠ []))
 (iteP (inRange i els.length)
 (getI i.toNat els =
 some [AV.sc (Value.string (ByteArray.mk (Array.mk (cellStr els i (0 : Nat)))))] ∧
 I43o out n (cellStr els i (0 : Nat)) els (IntKind.i64.wrap (i + (1 : Int))) =
 I43o out n (cellStr els i (0 : Nat)) els (IntKind.i64.wrap (i + (1 : Int))) ∧
 O out n (cellStr els i (0 : Nat)) (IntKind.i64.wrap (i + (1 : Int))))
 False)
 (I43o out n last els (IntKind.i64.wrap (i + (1 : Int))) =
 I43o out n last els (IntKind.i64.wrap (i + (1 : Int))) ∧
 O out n last (IntKind.i64.wrap (i + (1 : Int)))))
 False))
 (iteP (inRange i els.length)
 (getI i.toNat els = some [AV.sc (Value.string (ByteArray.mk (Array.mk (cellStr els i (0 : Nat)))))] ∧
 iteP (decide (cellStr els i (0 : Nat) ≠ []))
 (iteP (inRange i els.length)
 (getI i.toNat els =
 some [AV.sc (Value.string (ByteArray.mk (Array.mk (cellStr els i (0 : Nat)))))] ∧
 I43o out n (cellStr els i (0 : Nat)) els (IntKind.i64.wrap (i + (1 : Int))) =
 I43o out n (cellStr els i (0 : Nat)) els (IntKind.i64.wrap (i + (1 : Int))) ∧
 O out n (cellStr els i (0 : Nat)) (IntKind.i64.wrap (i + (1 : Int))))
 False)
 (I43o out n last els (IntKind.i64.wrap (i + (1 : Int))) =
 I43o out n last els (IntKind.i64.wrap (i + (1 : Int))) ∧
 O out n last (IntKind.i64.wrap (i + (1 : Int)))))
 False))
 False))
 (iteP (inRange i els.length)
 (getI i.toNat els = some [AV.sc (Value.string (ByteArray.mk (Array.mk (cellStr els i (0 : Nat)))))] ∧
 iteP (decide (cellStr els i (0 : Nat) ≠ []))
 (iteP (decide (last ≠ []))
 (iteP (strFits last [(10 : UInt8)])
 (iteP (inRange i els.length)
 (getI i.toNat els =
 some [AV.sc (Value.string (ByteArray.mk (Array.mk (cellStr els i (0 : Nat)))))] ∧
 iteP (strFits (last ++ [(10 : UInt8)]) (cellStr els i (0 : Nat)))
 (I43o out n (last ++ [(10 : UInt8)] ++ cellStr els i (0 : Nat)) els
 (IntKind.i64.wrap (i + (1 : Int))) =
 I43o out n (last ++ [(10 : UInt8)] ++ cellStr els i (0 : Nat)) els
 (IntKind.i64.wrap (i + (1 : Int))) ∧
 O out n (last ++ [(10 : UInt8)] ++ cellStr els i (0 : Nat))
 (IntKind.i64.wrap (i + (1 : Int))))
 False)
 False)
 False)
 (iteP (inRange i els.length)
 (getI i.toNat els = some [AV.sc (Value.string (ByteArray.mk (Array.mk (cellStr els i (0 : Nat)))))] ∧
 iteP (decide (cellStr els i (0 : Nat) ≠ []))
 (iteP (inRange i els.length)
 (getI i.toNat els =
 some [AV.sc (Value.string (ByteArray.mk (Array.mk (cellStr els i (0 : Nat)))))] ∧
 I43o out n (cellStr els i (0 : Nat)) els (IntKind.i64.wrap (i + (1 : Int))) =
 I43o out n (cellStr els i (0 : Nat)) els (IntKind.i64.wrap (i + (1 : Int))) ∧
 O out n (cellStr els i (0 : Nat)) (IntKind.i64.wrap (i + (1 : Int))))
 False)
 (I43o out n last els (IntKind.i64.wrap (i + (1 : Int))) =
 I43o out n last els (IntKind.i64.wrap (i + (1 : Int))) ∧
 O out n last (IntKind.i64.wrap (i + (1 : Int)))))
 False))
 (iteP (inRange i els.length)
 (getI i.toNat els = some [AV.sc (Value.string (ByteArray.mk (Array.mk (cellStr els i (0 : Nat)))))] ∧
 iteP (decide (cellStr els i (0 : Nat) ≠ []))
 (iteP (inRange i els.length)
 (getI i.toNat els =
 some [AV.sc (Value.string (ByteArray.mk (Array.mk (cellStr els i (0 : Nat)))))] ∧
 I43o out n (cellStr els i (0 : Nat)) els (IntKind.i64.wrap (i + (1 : Int))) =
 I43o out n (cellStr els i (0 : Nat)) els (IntKind.i64.wrap (i + (1 : Int))) ∧
 O out n (cellStr els i (0 : Nat)) (IntKind.i64.wrap (i + (1 : Int))))
 False)
 (I43o out n last els (IntKind.i64.wrap (i + (1 : Int))) =
 I43o out n last els (IntKind.i64.wrap (i + (1 : Int))) ∧
 O out n last (IntKind.i64.wrap (i + (1 : Int)))))
 False))
 False))
 False)
 (E43o out n last = E43o out n last ∧ X (Ex.exit (0 : Nat)) out n last)) :
 (fun (m : Int) (out : List (List AV)) (n : Nat) (last : List UInt8) (els : List (List AV)) (i : Int) (O : List (List AV) → Nat → List UInt8 → Int → Prop) (X : Ex → List (List AV) → Nat → List UInt8 → Prop) => wpRound tab0 (cf m) Tryz.prog 40 43 6 (I43o out n last els i) (fun τ => τ = I43o (slEls τ 4) (ownN τ.h) (slS τ 5) els (slI τ 7) ∧ O (slEls τ 4) (ownN τ.h) (slS τ 5) (slI τ 7)) (fun e τ => τ = E43o (slEls τ 4) (ownN τ.h) (slS τ 5) ∧ X e (slEls τ 4) (ownN τ.h) (slS τ 5))) m out n last els i O X :=
 Eq.mp (by kernel_rfl) h
end
end Go.Proofs.Rc
namespace Go.Proofs.Rc
open Go Go.Ef
noncomputable section
set_option maxRecDepth 100000
variable {m : Int} {T : Tab}
theorem joinN_nil : joinN [] = [] := rfl
theorem joinN_one (x : List UInt8) : joinN [x] = x := Lib.join_one x _
theorem joinN_cons (x y : List UInt8) (r : List (List UInt8)) : joinN (x :: y :: r) = x ++ [10] ++ joinN (y :: r) := by
 unfold joinN
 rw [Lib.join_cons, Lib.join_cons]
 unfold Lib.joinTail
 simp
theorem joinN_snoc (q : List (List UInt8)) (x : List UInt8) (h : q ≠ []) : joinN (q ++ [x]) = joinN q ++ [10] ++ x := by
 induction q with
 | nil => exact absurd rfl h
 | cons a r ih =>
  cases r with
  | nil =>
   show joinN [a, x] = joinN [a] ++ [10] ++ x
   rw [joinN_cons, joinN_one, joinN_one]
  | cons b r =>
   have := ih (by simp)
   show joinN (a :: b :: (r ++ [x])) = joinN (a :: b :: r) ++ [10] ++ x
   rw [joinN_cons, joinN_cons]
   have e : joinN (b :: (r ++ [x])) = joinN (b :: r) ++ [10] ++ x := this
   rw [e]; simp
theorem joinN_le (q : List (List UInt8)) : (joinN q).length ≤ (joinE 10 q).length := by
 induction q with
 | nil => simp [joinN_nil]
 | cons a r ih =>
  cases r with
  | nil => rw [joinN_one, joinE_cons, joinE_nil]; simp
  | cons b r => rw [joinN_cons, joinE_cons]; simp; omega
theorem joinE_mid (c : UInt8) (p : List (List UInt8)) (k i : Nat) : (joinE c ((p.take i).drop k)).length ≤ (joinE c p).length := by
 have h1 := joinE_take_le c p i
 have h2 := congrArg List.length (joinE_app c ((p.take i).take k) ((p.take i).drop k))
 rw [List.take_append_drop, List.length_append] at h2
 omega
theorem ok73 (O : Ok m T) : Ok m (T.addC 73 C73) := by
 refine addC_ok O fun args h s hs hp => ?_
 unfold C73 at hs
 split at hs
 ·rename_i els tok t0
  split at hs
  ·rename_i ht
   cases hs
   obtain ⟨p, rfl, h1, h2⟩ := hp
   refine ⟨_, List.mem_singleton.2 rfl, joinN p, 0, ⟨fun q hq => by rw [cells_inj hq]⟩, ?_⟩
   show joinP [.sl (p.map strEl) tok, .sc (.string t0)] h = some (aStr (joinN p), h)
   have hm : maxRoom = 140737488355328 := by decide
   have e1 : ∀ p : List (List UInt8), mapO strS (p.map strEl) = some (p.map fun l => (⟨⟨l⟩⟩ : ByteArray)) := by
    intro p
    induction p with
    | nil => rfl
    | cons a r ih => rw [List.map_cons, mapO_cons, ih]; rfl
   have e2 : (p.map fun l => (⟨⟨l⟩⟩ : ByteArray)).map (·.data.toList) = p := by
    rw [List.map_map]
    exact List.map_id'' (fun _ => rfl) p
   unfold joinP
   simp only [e1, e2, ht]
   rw [List.length_map, Nat.ble_eq_true_of_le (show p.length ≤ maxRoom by omega), Nat.ble_eq_true_of_le (show (Lib.join p [10]).length ≤ maxRoom by unfold joinN at h2; omega)]
   rfl
  ·cases hs
 ·cases hs
theorem recF_nil (c : UInt8) : recF c [] = ([], true) := by
 unfold recF
 rw [if_pos (by rfl)]; rfl
theorem ok72 (O : Ok m T) : Ok m (T.addC 72 C72) := by
 refine addC_ok O fun args h s hs hp => ?_
 unfold C72 at hs
 split at hs
 ·rename_i s0
  cases hs
  obtain ⟨⟨s0⟩⟩ := s0
  have hp' : s0.length ≤ 4294967280 := hp
  have key : EvP (cf m) Tryz.prog 72 [aStr s0] h fun y h' => ((s0 = [] ∧ y = .tup [nilA, aBool true]) ∨ (s0 ≠ [] ∧ y = .tup [.sl ((recF 10 s0).1.map strEl) 0, aBool (recF 10 s0).2])) ∧ h' = h := by
   refine EvP.freshK (ok42 tab0_ok) (n := 40) (by kernel_rfl) (by kernel_rfl) (args' := [aStr s0]) rfl (c72 m s0 _ ?_)
   by_cases hn : s0 = []
   ·rw [decide_eq_true hn, iteP_t]
    exact .inl ⟨hn, rfl⟩
   ·rw [decide_eq_false hn, iteP_f]
    refine ⟨hp', fun p hq => ?_⟩
    subst hq
    obtain ⟨x, hx, hlast, hl⟩ := last_spec (parts_ne 10 s0)
    have hb := parts_len 10 s0
    have hw : IntKind.i64.wrap (((partsOf 10 s0).length : Int) - 1) = (((partsOf 10 s0).length - 1 : Nat) : Int) := by rw [wrap_in (by omega) (by omega)]; omega
    rw [cells_len, hw, show inRange (((partsOf 10 s0).length - 1 : Nat) : Int) (partsOf 10 s0).length = true by rw [inRange_iff]; omega, iteP_t]
    refine ⟨cell_some hx, ?_⟩
    rw [cell_str hx]
    by_cases h0 : x = []
    ·rw [decide_eq_true h0, iteP_t, cells_head, iteP_t, decide_eq_true (by omega), decide_eq_true (by omega), decide_eq_true (by omega), Bool.and_self, Bool.and_self, Bool.and_self, iteP_t,
      show cutL ((partsOf 10 s0).map strEl) 0 (((partsOf 10 s0).length - 1 : Nat) : Int) = (partsOf 10 s0).dropLast.map strEl by rw [show (0 : Int) = ((0 : Nat) : Int) from rfl, cells_cut, List.drop_zero, List.dropLast_eq_take],
      cells_plain, iteP_t]
     unfold recF
     rw [hlast, h0, if_pos rfl]
     exact .inr ⟨hn, rfl⟩
    ·rw [decide_eq_false h0, iteP_f, cells_plain, iteP_t]
     unfold recF
     rw [hlast, if_neg (by simpa using h0)]
     exact .inr ⟨hn, rfl⟩
  obtain ⟨n, y, h', h2, h3 | h3, rfl⟩ := key
  ·obtain ⟨h3, rfl⟩ := h3
   exact ⟨_, List.mem_cons_self .., (), n, ⟨h3⟩, h2⟩
  ·obtain ⟨h3, rfl⟩ := h3
   exact ⟨_, List.mem_cons_of_mem _ (List.mem_cons_self ..), recF 10 s0, n, ⟨rfl⟩, h2⟩
 ·cases hs
def St41 (s : List UInt8) (p out : List (List UInt8)) (k i : Nat) : St :=
 match out with
 | [] => I41n s (p.map strEl) k i
 | out => I41o s (p.map strEl) (out.map strEl) out.length k i
def Et41 (s : List UInt8) (out : List (List UInt8)) : St :=
 match out with
 | [] => E41n s
 | out => E41o s (out.map strEl) out.length
abbrev Loop41 (m : Int) (σ : St) (K : KR) : Prop := Ev (cf m) Tryz.prog 41 (.loop (loopAt Tryz.prog 41 6)) σ K
theorem first41 : firstId 8 (loopAt Tryz.prog 41 6) = 6 := by kernel_rfl
theorem can41n (s : List UInt8) (els : List (List AV)) (k i : Int) : (I41n s els k i).tidy [0, 4, 6, 7, 8] 0 = I41n s els k i := by kernel_rfl
theorem can41o (s : List UInt8) (els out : List (List AV)) (n : Nat) (k i : Int) : (I41o s els out n k i).tidy [0, 4, 6, 7, 8] 0 = I41o s els out n k i := by kernel_rfl
def addG (p out : List (List UInt8)) (k i : Nat) : List (List UInt8) := if (p.take i).drop k = [] then out else out ++ [joinN ((p.take i).drop k)]
theorem round41 (m : Int) (s : List UInt8) (p out : List (List UInt8)) (k i : Nat) (hk : k ≤ i) (hp : (joinE 10 p).length ≤ 4294967270) (hi : i ≤ p.length + 1) (hki : i ≤ p.length → k ≤ p.length) (ho : out.length ≤ i) {K : KR}
  (hN : ∀ x, p[i]? = some x → x ≠ [] → Loop41 m (St41 s p out k (i + 1)) K)
  (hC : i ≤ p.length → (∀ x, p[i]? = some x → x = []) → Loop41 m (St41 s p (addG p out k i) (i + 1) (i + 1)) K)
  (hX : i = p.length + 1 → K (.exit 0) (Et41 s out)) : Loop41 m (St41 s p out k i) K := by
 have hcnt := joinE_count 10 p
 have hw : IntKind.i64.wrap ((i : Int) + 1) = ((i + 1 : Nat) : Int) := by rw [wrap_in (by omega) (by omega)]; rfl
 have hjo : JoinOk (((p.take i).drop k).map strEl) := ⟨_, rfl, by simp; omega, by
  have h1 := joinN_le ((p.take i).drop k)
  have h2 := joinE_mid 10 p k i
  omega⟩
 have hpos : ((0 : Int) < ((((p.take i).drop k).map strEl).length : Int)) = ((p.take i).drop k ≠ []) := by
  apply propext
  rw [cells_len]
  cases (p.take i).drop k <;> simp <;> omega
 cases out with
 | nil =>
  refine Ev.round (t := ⟨[0, 4, 6, 7, 8], [0, 6], 0⟩) (ok73 tab0_ok) first41 rfl (can41n s (p.map strEl) k i)
   (a41 m s (p.map strEl) k i (fun k' i' => (∃ x, p[i]? = some x ∧ x ≠ [] ∧ k' = k ∧ i' = ((i + 1 : Nat) : Int)) ∨ (i ≤ p.length ∧ (∀ x, p[i]? = some x → x = []) ∧ (p.take i).drop k = [] ∧ k' = ((i + 1 : Nat) : Int) ∧ i' = ((i + 1 : Nat) : Int)))
    (fun o n k' i' => i ≤ p.length ∧ (∀ x, p[i]? = some x → x = []) ∧ (p.take i).drop k ≠ [] ∧ o = ([joinN ((p.take i).drop k)] : List (List UInt8)).map strEl ∧ n = 1 ∧ k' = ((i + 1 : Nat) : Int) ∧ i' = ((i + 1 : Nat) : Int)) (fun e => i = p.length + 1 ∧ e = .exit 0) ?_) (fun τ h => ?_) (fun e τ h => ?_)
  ·rw [hw, cells_len]
   by_cases h1 : i ≤ p.length
   ·have hk' := hki h1
    rw [decide_eq_true (show (i : Int) ≤ (p.length : Int) by omega), iteP_t]
    have c0 : (0 : Int) ≤ (some (k : Int)).getD 0 := by simp
    have c1 : (some (k : Int)).getD 0 ≤ (i : Int) := by simp; omega
    have hcc : (decide ((0 : Int) ≤ (some (k : Int)).getD 0) && (decide ((some (k : Int)).getD 0 ≤ (i : Int)) && (decide ((i : Int) ≤ (i : Int)) && true))) = true := by
     rw [decide_eq_true c0, decide_eq_true c1, decide_eq_true (Int.le_refl _)]; rfl
    have hcut : cutL (p.map strEl) ((some (k : Int)).getD 0) (i : Int) = ((p.take i).drop k).map strEl := cells_cut p k i
    by_cases h2 : i < p.length
    ·have hx : p[i]? = some p[i] := List.getElem?_eq_getElem _
     rw [decide_eq_true (show (i : Int) < (p.length : Int) by omega), iteP_t, show inRange (i : Int) p.length = true by rw [inRange_iff]; omega, iteP_t]
     refine ⟨cell_some hx, ?_⟩
     rw [cell_str hx]
     by_cases h3 : p[i] = []
     ·rw [decide_eq_false (by simpa using h3), iteP_f, cells_head, iteP_t, hcc, iteP_t, hcut]
      have hall : ∀ x, p[i]? = some x → x = [] := fun x hx' => by rw [hx] at hx'; cases hx'; exact h3
      by_cases h4 : (p.take i).drop k = []
      ·rw [decide_eq_false (by rw [hpos]; simpa using h4), iteP_f]
       exact ⟨rfl, .inr ⟨h1, hall, h4, rfl, rfl⟩⟩
      ·rw [decide_eq_true (by rw [hpos]; exact h4), iteP_t]
       refine ⟨hjo, fun x hj => ⟨rfl, h1, hall, h4, ?_, rfl, rfl, rfl⟩⟩
       rw [hj.is _ rfl]; rfl
     ·rw [decide_eq_true h3, iteP_t]
      exact ⟨rfl, .inl ⟨_, hx, h3, rfl, rfl⟩⟩
    ·have hall : ∀ x, p[i]? = some x → x = [] := fun x hx' => by rw [List.getElem?_eq_none (by omega)] at hx'; cases hx'
     rw [decide_eq_false (show ¬ (i : Int) < (p.length : Int) by omega), iteP_f, cells_head, iteP_t, hcc, iteP_t, hcut]
     by_cases h4 : (p.take i).drop k = []
     ·rw [decide_eq_false (by rw [hpos]; simpa using h4), iteP_f]
      exact ⟨rfl, .inr ⟨h1, hall, h4, rfl, rfl⟩⟩
     ·rw [decide_eq_true (by rw [hpos]; exact h4), iteP_t]
      refine ⟨hjo, fun x hj => ⟨rfl, h1, hall, h4, ?_, rfl, rfl, rfl⟩⟩
      rw [hj.is _ rfl]; rfl
   ·rw [decide_eq_false (show ¬ (i : Int) ≤ (p.length : Int) by omega), iteP_f]
    exact ⟨rfl, by omega, rfl⟩
  ·unfold q41 at h
   split at h
   ·obtain ⟨h1, h2, h3, h4, h5, h6, h7, h8⟩ := h
    rw [h5, h6, h7, h8] at h1
    rw [h1]
    have := hC h2 h3
    unfold addG at this
    rw [if_neg h4] at this
    exact this
   ·obtain ⟨h1, ⟨x, h2, h3, h4, h5⟩ | ⟨h2, h3, h4, h5, h6⟩⟩ := h
    ·rw [h4, h5] at h1
     rw [h1]
     exact hN x h2 h3
    ·rw [h5, h6] at h1
     rw [h1]
     have := hC h2 h3
     unfold addG at this
     rw [if_pos h4] at this
     exact this
  ·obtain ⟨h1, h2, h3⟩ := h
   rw [h1, h3]
   exact hX h2
 | cons a r =>
  refine Ev.round (t := ⟨[0, 4, 6, 7, 8], [0, 6], 0⟩) (ok73 tab0_ok) first41 rfl (can41o s (p.map strEl) ((a :: r).map strEl) (a :: r).length k i)
   (b41 m s (p.map strEl) ((a :: r).map strEl) (a :: r).length k i (fun o n k' i' => (∃ x, p[i]? = some x ∧ x ≠ [] ∧ o = (a :: r).map strEl ∧ n = (a :: r).length ∧ k' = k ∧ i' = ((i + 1 : Nat) : Int)) ∨
    (i ≤ p.length ∧ (∀ x, p[i]? = some x → x = []) ∧ o = (addG p (a :: r) k i).map strEl ∧ n = (addG p (a :: r) k i).length ∧ k' = ((i + 1 : Nat) : Int) ∧ i' = ((i + 1 : Nat) : Int))) (fun e o n => i = p.length + 1 ∧ e = .exit 0 ∧ o = (a :: r).map strEl ∧ n = (a :: r).length) ?_) (fun τ h => ?_) (fun e τ h => ?_)
  ·rw [hw, cells_len]
   by_cases h1 : i ≤ p.length
   ·have hk' := hki h1
    rw [decide_eq_true (show (i : Int) ≤ (p.length : Int) by omega), iteP_t]
    have c0 : (0 : Int) ≤ (some (k : Int)).getD 0 := by simp
    have c1 : (some (k : Int)).getD 0 ≤ (i : Int) := by simp; omega
    have hcc : (decide ((0 : Int) ≤ (some (k : Int)).getD 0) && (decide ((some (k : Int)).getD 0 ≤ (i : Int)) && (decide ((i : Int) ≤ (i : Int)) && true))) = true := by
     rw [decide_eq_true c0, decide_eq_true c1, decide_eq_true (Int.le_refl _)]; rfl
    have hcut : cutL (p.map strEl) ((some (k : Int)).getD 0) (i : Int) = ((p.take i).drop k).map strEl := cells_cut p k i
    have hfit : fits (((a :: r).map strEl).length + 1) 16 = true := by rw [cells_len]; exact fits_str (by simp at ho ⊢; omega)
    by_cases h2 : i < p.length
    ·have hx : p[i]? = some p[i] := List.getElem?_eq_getElem _
     rw [decide_eq_true (show (i : Int) < (p.length : Int) by omega), iteP_t, show inRange (i : Int) p.length = true by rw [inRange_iff]; omega, iteP_t]
     refine ⟨cell_some hx, ?_⟩
     rw [cell_str hx]
     by_cases h3 : p[i] = []
     ·rw [decide_eq_false (by simpa using h3), iteP_f, cells_head, iteP_t, hcc, iteP_t, hcut]
      have hall : ∀ x, p[i]? = some x → x = [] := fun x hx' => by rw [hx] at hx'; cases hx'; exact h3
      by_cases h4 : (p.take i).drop k = []
      ·rw [decide_eq_false (by rw [hpos]; simpa using h4), iteP_f]
       exact ⟨rfl, .inr ⟨h1, hall, by unfold addG; rw [if_pos h4], by unfold addG; rw [if_pos h4], rfl, rfl⟩⟩
      ·rw [decide_eq_true (by rw [hpos]; exact h4), iteP_t]
       refine ⟨hjo, fun x hj => ?_⟩
       rw [cells_all, show fits (((a :: r).map strEl).length + [[AV.sc (Value.string (ByteArray.mk (Array.mk x)))]].length) 16 = true from hfit, Bool.and_self, iteP_t, decide_eq_true (cells_len _), iteP_t]
       refine ⟨rfl, .inr ⟨h1, hall, ?_, ?_, rfl, rfl⟩⟩
       ·unfold addG; rw [if_neg h4, cells_snoc, hj.is _ rfl]
       ·unfold addG; rw [if_neg h4]; simp
     ·rw [decide_eq_true h3, iteP_t]
      exact ⟨rfl, .inl ⟨_, hx, h3, rfl, rfl, rfl, rfl⟩⟩
    ·have hall : ∀ x, p[i]? = some x → x = [] := fun x hx' => by rw [List.getElem?_eq_none (by omega)] at hx'; cases hx'
     rw [decide_eq_false (show ¬ (i : Int) < (p.length : Int) by omega), iteP_f, cells_head, iteP_t, hcc, iteP_t, hcut]
     by_cases h4 : (p.take i).drop k = []
     ·rw [decide_eq_false (by rw [hpos]; simpa using h4), iteP_f]
      exact ⟨rfl, .inr ⟨h1, hall, by unfold addG; rw [if_pos h4], by unfold addG; rw [if_pos h4], rfl, rfl⟩⟩
     ·rw [decide_eq_true (by rw [hpos]; exact h4), iteP_t]
      refine ⟨hjo, fun x hj => ?_⟩
      rw [cells_all, show fits (((a :: r).map strEl).length + [[AV.sc (Value.string (ByteArray.mk (Array.mk x)))]].length) 16 = true from hfit, Bool.and_self, iteP_t, decide_eq_true (cells_len _), iteP_t]
      refine ⟨rfl, .inr ⟨h1, hall, ?_, ?_, rfl, rfl⟩⟩
      ·unfold addG; rw [if_neg h4, cells_snoc, hj.is _ rfl]
      ·unfold addG; rw [if_neg h4]; simp
   ·rw [decide_eq_false (show ¬ (i : Int) ≤ (p.length : Int) by omega), iteP_f]
    exact ⟨rfl, by omega, rfl, rfl, rfl⟩
  ·obtain ⟨h1, ⟨x, h2, h3, h4, h5, h6, h7⟩ | ⟨h2, h3, h4, h5, h6, h7⟩⟩ := h
   ·rw [h4, h5, h6, h7] at h1
    rw [h1]
    exact hN x h2 h3
   ·rw [h4, h5, h6, h7] at h1
    rw [h1]
    have := hC h2 h3
    have hne : ∃ b q, addG p (a :: r) k i = b :: q := by
     unfold addG
     split
     ·exact ⟨_, _, rfl⟩
     ·exact ⟨_, _, rfl⟩
    obtain ⟨b, q, hbq⟩ := hne
    rw [hbq] at this ⊢
    exact this
  ·obtain ⟨h1, h2, h3, h4, h5⟩ := h
   rw [h4, h5] at h1
   rw [h1, h3]
   exact hX h2
end
end Go.Proofs.Rc
namespace Go.Proofs.Rc
open Go Go.Ef
noncomputable section
set_option maxRecDepth 100000
variable {m : Int} {T : Tab}
theorem addG_eq (p out : List (List UInt8)) (k i : Nat) : addG p out k i = flushG (out, (p.take i).drop k) := rfl
theorem addG_len (p out : List (List UInt8)) (k i : Nat) : (addG p out k i).length ≤ out.length + 1 := by
 unfold addG; split <;> simp
theorem fold_snoc (p : List (List UInt8)) {i : Nat} (h : i < p.length) : (p.take (i + 1)).foldl stepG ([], []) = stepG ((p.take i).foldl stepG ([], [])) p[i] := by
 rw [List.take_succ_eq_append_getElem h, List.foldl_append]; rfl
theorem loop41 (s : List UInt8) (p : List (List UInt8)) (hp : (joinE 10 p).length ≤ 4294967270) : ∀ (f i k : Nat) (out : List (List UInt8)), p.length - i = f → i ≤ p.length → k ≤ i → out.length ≤ i → (p.take i).foldl stepG ([], []) = (out, (p.take i).drop k) →
  Loop41 m (St41 s p out k i) fun e τ => e = .exit 0 ∧ τ = Et41 s (groupF p) := by
 have last : ∀ (k : Nat) (out : List (List UInt8)), k ≤ p.length → out.length ≤ p.length → p.foldl stepG ([], []) = (out, p.drop k) → Loop41 m (St41 s p out k p.length) fun e τ => e = .exit 0 ∧ τ = Et41 s (groupF p) := by
  intro k out hk ho hinv
  refine round41 m s p out k p.length hk hp (by omega) (fun _ => hk) ho (fun x hx => by rw [List.getElem?_eq_none (Nat.le_refl _)] at hx; cases hx) (fun _ _ => ?_) (fun h => by omega)
  have hg : addG p out k p.length = groupF p := by
   rw [addG_eq, List.take_length]; unfold groupF; rw [hinv]
  have hl := addG_len p out k p.length
  rw [hg] at hl
  rw [hg]
  refine round41 m s p (groupF p) (p.length + 1) (p.length + 1) (Nat.le_refl _) hp (Nat.le_refl _) (fun h => by omega) (by omega) (fun x hx => by rw [List.getElem?_eq_none (by omega)] at hx; cases hx) (fun h => by omega) (fun _ => ⟨rfl, rfl⟩)
 intro f
 induction f with
 | zero =>
  intro i k out hf hi hk ho hinv
  have hi : i = p.length := by omega
  subst hi
  rw [List.take_length] at hinv
  exact last k out hk ho hinv
 | succ f ih =>
  intro i k out hf hi hk ho hinv
  have hlt : i < p.length := by omega
  have hx : p[i]? = some p[i] := List.getElem?_eq_getElem _
  refine round41 m s p out k i hk hp (by omega) (fun _ => by omega) ho (fun x hx' hne => ?_) (fun _ hall => ?_) (fun h => by omega)
  ·rw [hx] at hx'
   cases hx'
   refine ih (i + 1) k out (by omega) (by omega) (by omega) (by omega) ?_
   rw [fold_snoc p hlt, hinv]
   unfold stepG
   rw [if_neg hne, List.take_succ_eq_append_getElem hlt, List.drop_append_of_le_length (by simp; omega)]
  ·have h0 := hall _ hx
   have hl := addG_len p out k i
   refine ih (i + 1) (i + 1) (addG p out k i) (by omega) (by omega) (Nat.le_refl _) (by omega) ?_
   have e : (p.take (i + 1)).drop (i + 1) = [] := List.drop_eq_nil_of_le (by simp; omega)
   rw [fold_snoc p hlt, hinv, e]
   unfold stepG
   rw [if_pos h0, addG_eq]
structure IsGroup (els : List (List AV)) (p : List (List UInt8)) : Prop where
 lines : els = p.map strEl
 room : (joinE 10 p).length ≤ 4294967270
structure HasGroup (els : List (List AV)) : Prop where
 is : ∃ p, IsGroup els p
structure GroupNil (els : List (List AV)) : Prop where
 is : ∀ p, els = p.map strEl → groupF p = []
structure GroupOwn (els : List (List AV)) (g : List (List UInt8)) : Prop where
 is : ∀ p, els = p.map strEl → groupF p = g
 ne : g ≠ []
def L41 (σ : St) : Option LSpec := some { pre := σ.tidy [0, 4, 6, 7, 8] 0 = I41n (slS σ 0) (slEls σ 4) 0 0 ∧ HasGroup (slEls σ 4), alts := [{ α := Unit, post := fun _ => GroupNil (slEls σ 4), ex := .exit 0, st := fun _ => E41n (slS σ 0) }, { α := List (List UInt8), post := fun g => GroupOwn (slEls σ 4) g, ex := .exit 0, st := fun g => E41o (slS σ 0) (g.map strEl) g.length }] }
structure SomeText (s : List UInt8) : Prop where
 ne : s ≠ []
def C72b (args : List AV) (h : Heap) : Option CSpec :=
 match args with
 | [.sc (.string s)] => some { pre := s.data.toList.length ≤ 4294967280 ∧ SomeText s.data.toList, alts := [{ α := List (List UInt8) × Bool, post := fun q => IsRec q 10 s.data.toList, val := fun q => .tup [.sl (q.1.map strEl) 0, aBool q.2], heap := fun _ => h }] }
 | _ => none
theorem ok72b (O : Ok m T) : Ok m (T.addC 72 C72b) := by
 refine addC_ok O fun args h s hs hp => ?_
 unfold C72b at hs
 split at hs
 ·rename_i s0
  cases hs
  obtain ⟨h1, h2⟩ := hp
  obtain ⟨a, ha, x, n, h3, h4⟩ := (ok72 (m := m) tab0_ok).call 72 C72 [.sc (.string s0)] h _ rfl rfl h1
  rcases List.mem_cons.1 ha with rfl | ha
  ·exact absurd h3.eq h2.ne
  ·obtain rfl := List.mem_singleton.1 ha
   exact ⟨_, List.mem_singleton.2 rfl, x, n, h3, h4⟩
 ·cases hs
def T41c : Tab := (tab0.addC 72 C72b).addL 41 6 L41
structure NoPara (s : List UInt8) : Prop where
 eq : paraF s = ([], true)
structure IsPara (q : List (List UInt8) × Bool) (s : List UInt8) : Prop where
 eq : q = paraF s
def C41 (args : List AV) (h : Heap) : Option CSpec :=
 match args with
 | [.sc (.string s)] => some { pre := s.data.toList.length ≤ 4294967260, alts := [{ α := Unit, post := fun _ => NoPara s.data.toList, val := fun _ => .tup [nilA, aBool true], heap := fun _ => h }, { α := List (List UInt8) × Bool, post := fun q => IsPara q s.data.toList, val := fun q => .tup [.sl (q.1.map strEl) 0, aBool q.2], heap := fun _ => h }] }
 | _ => none
theorem ok41L (O : Ok m T) : Ok m (T.addL 41 6 L41) := by
 refine addL_ok O fun σ s hs hp => ?_
 cases hs
 obtain ⟨e, p, h1, h2⟩ := hp
 have he : Loop41 m σ fun e τ => e = .exit 0 ∧ τ = Et41 (slS σ 0) (groupF p) := by
  refine Ev.tidied (t := ⟨[0, 4, 6, 7, 8], [0, 6], 0⟩) (τ := I41n (slS σ 0) (slEls σ 4) 0 0) (by kernel_rfl) (by rw [e]; kernel_rfl) ?_
  rw [h1]
  exact loop41 (slS σ 0) p h2 _ 0 0 [] rfl (Nat.zero_le _) (Nat.le_refl _) (Nat.le_refl _) rfl
 obtain ⟨n, ex, τ, h3, rfl, rfl⟩ := he
 cases hg : groupF p with
 | nil =>
  rw [hg] at h3
  exact ⟨_, List.mem_cons_self .., (), ⟨fun q hq => by rw [h1] at hq; rw [← cells_inj hq]; exact hg⟩, n, h3⟩
 | cons a r =>
  rw [hg] at h3
  exact ⟨_, List.mem_cons_of_mem _ (List.mem_cons_self ..), a :: r, ⟨fun q hq => by rw [h1] at hq; rw [← cells_inj hq]; exact hg, by simp⟩, n, h3⟩
theorem ok41T : Ok m T41c := ok41L (ok72b tab0_ok)
end
end Go.Proofs.Rc
namespace Go.Proofs.Rc
open Go Go.Ef
noncomputable section
set_option maxRecDepth 100000
theorem c41 (m : Int) (s : List UInt8) (K : AV → Prop) (h :
 (s.length ≤ (4294967280 : Nat) ∧ SomeText s) ∧
 ∀ (x : List (List UInt8) × Bool),
 IsRec x (10 : UInt8) s →
 iteP x.snd
 (loopAt Tryz.prog (41 : Nat) (6 : Nat) = loopAt Tryz.prog (41 : Nat) (6 : Nat) ∧
 (I41n s (List.map strEl x.fst) (0 : Int) (0 : Int) = I41n s (List.map strEl x.fst) (0 : Int) (0 : Int) ∧
 HasGroup (List.map strEl x.fst)) ∧
 (∀ (_ : Unit),
 GroupNil (List.map strEl x.fst) →
 K (AV.tup [AV.sc (Value.slice none (0 : Nat) (0 : Nat)), AV.sc (Value.bool true)])) ∧
 ∀ (x_1 : List (List UInt8)),
 GroupOwn (List.map strEl x.fst) x_1 →
 iteP ((↑(List.map strEl x_1).length : Int) == (0 : Int))
 (iteP (plainEls (List.map strEl x_1))
 (K (AV.tup [AV.sl (List.map strEl x_1) (0 : Nat), AV.sc (Value.bool true)])) False)
 (iteP (decide ((2 : Int) ≤ (↑s.length : Int)))
 (iteP
 (decide ((0 : Int) ≤ IntKind.i64.wrap ((↑s.length : Int) - (2 : Int))) &&
 decide (IntKind.i64.wrap ((↑s.length : Int) - (2 : Int)) ≤ (↑s.length : Int)))
 (iteP
 (decide
 (List.drop (IntKind.i64.wrap ((↑s.length : Int) - (2 : Int))).toNat s =
 [(10 : UInt8), (10 : UInt8)]))
 (iteP (plainEls (List.map strEl x_1))
 (K (AV.tup [AV.sl (List.map strEl x_1) (0 : Nat), AV.sc (Value.bool true)])) False)
 (iteP (plainEls (List.map strEl x_1))
 (K (AV.tup [AV.sl (List.map strEl x_1) (0 : Nat), AV.sc (Value.bool false)])) False))
 False)
 (iteP (plainEls (List.map strEl x_1))
 (K (AV.tup [AV.sl (List.map strEl x_1) (0 : Nat), AV.sc (Value.bool false)])) False)))
 (loopAt Tryz.prog (41 : Nat) (6 : Nat) = loopAt Tryz.prog (41 : Nat) (6 : Nat) ∧
 (I41n s (List.map strEl x.fst) (0 : Int) (0 : Int) = I41n s (List.map strEl x.fst) (0 : Int) (0 : Int) ∧
 HasGroup (List.map strEl x.fst)) ∧
 (∀ (_ : Unit),
 GroupNil (List.map strEl x.fst) →
 K (AV.tup [AV.sc (Value.slice none (0 : Nat) (0 : Nat)), AV.sc (Value.bool true)])) ∧
 ∀ (x_1 : List (List UInt8)),
 GroupOwn (List.map strEl x.fst) x_1 →
 iteP ((↑(List.map strEl x_1).length : Int) == (0 : Int))
 (iteP (plainEls (List.map strEl x_1))
 (K (AV.tup [AV.sl (List.map strEl x_1) (0 : Nat), AV.sc (Value.bool true)])) False)
 (iteP (decide ((2 : Int) ≤ (↑s.length : Int)))
 (iteP
 (decide ((0 : Int) ≤ IntKind.i64.wrap ((↑s.length : Int) - (2 : Int))) &&
 decide (IntKind.i64.wrap ((↑s.length : Int) - (2 : Int)) ≤ (↑s.length : Int)))
 (iteP
 (decide
 (List.drop (IntKind.i64.wrap ((↑s.length : Int) - (2 : Int))).toNat s =
 [(10 : UInt8), (10 : UInt8)]))
 (iteP (plainEls (List.map strEl x_1))
 (K (AV.tup [AV.sl (List.map strEl x_1) (0 : Nat), AV.sc (Value.bool true)])) False)
 (iteP (plainEls (List.map strEl x_1))
 (K (AV.tup [AV.sl (List.map strEl x_1) (0 : Nat), AV.sc (Value.bool false)])) False))
 False)
 (iteP (plainEls (List.map strEl x_1))
 (K (AV.tup [AV.sl (List.map strEl x_1) (0 : Nat), AV.sc (Value.bool false)])) False)))) :
 (fun (m : Int) (s : List UInt8) (K : AV → Prop) => wpCall T41c (cf m) Tryz.prog 40 41 [aStr s] heapF fun r h' => wpBack h' r K) m s K :=
 Eq.mp (by kernel_rfl) h
end
end Go.Proofs.Rc
namespace Go.Proofs.Rc
open Go Go.Ef
noncomputable section
set_option maxRecDepth 100000
variable {m : Int} {T : Tab}
theorem paraF_nil : paraF [] = ([], true) := by unfold paraF; rw [recF_nil]; rfl
theorem para_room (s : List UInt8) : (joinE 10 (recF 10 s).1).length ≤ s.length + 1 := by
 rw [rec_join]; split <;> simp
theorem len2 {s : List UInt8} (h : s.length ≤ 4294967280) : ∀ {A B : Prop}, iteP (decide ((2 : Int) ≤ (s.length : Int))) (iteP (decide ((0 : Int) ≤ IntKind.i64.wrap ((s.length : Int) - 2)) && decide (IntKind.i64.wrap ((s.length : Int) - 2) ≤ (s.length : Int))) (iteP (decide (s.drop (IntKind.i64.wrap ((s.length : Int) - 2)).toNat = [10, 10])) A B) False) B = iteP (endsTwo s) A B := by
 intro A B
 by_cases h2 : 2 ≤ s.length
 ·have hw : IntKind.i64.wrap ((s.length : Int) - 2) = ((s.length - 2 : Nat) : Int) := by rw [wrap_in (by omega) (by omega)]; omega
  rw [decide_eq_true (by omega), iteP_t, hw, decide_eq_true (by omega), decide_eq_true (by omega), Bool.and_self, iteP_t, Int.toNat_natCast]
  unfold endsTwo
  by_cases h3 : s.drop (s.length - 2) = [10, 10]
  ·rw [decide_eq_true h3, decide_eq_true ⟨h2, h3⟩]
  ·rw [decide_eq_false h3, decide_eq_false (fun e => h3 e.2)]
 ·rw [decide_eq_false (by omega), iteP_f]
  unfold endsTwo
  rw [decide_eq_false (fun e => h2 e.1), iteP_f]
theorem ok41 (O : Ok m T) : Ok m (T.addC 41 C41) := by
 refine addC_ok O fun args h s hs hp => ?_
 unfold C41 at hs
 split at hs
 ·rename_i s0
  cases hs
  obtain ⟨⟨s0⟩⟩ := s0
  have hp' : s0.length ≤ 4294967260 := hp
  have key : EvP (cf m) Tryz.prog 41 [aStr s0] h fun y h' => ((paraF s0 = ([], true) ∧ y = .tup [nilA, aBool true]) ∨ y = .tup [.sl ((paraF s0).1.map strEl) 0, aBool (paraF s0).2]) ∧ h' = h := by
   by_cases hn : s0 = []
   ·subst hn
    refine ⟨100, .tup [nilA, aBool true], h, by kernel_rfl, .inl ⟨paraF_nil, rfl⟩, rfl⟩
   ·refine EvP.freshK ok41T (n := 40) (by kernel_rfl) (by kernel_rfl) (args' := [aStr s0]) rfl (c41 m s0 _ ⟨⟨by omega, ⟨hn⟩⟩, fun q hq => ?_⟩)
    obtain rfl := hq.eq
    have hroom := para_room s0
    have hhas : HasGroup ((recF 10 s0).1.map strEl) := ⟨_, rfl, by omega⟩
    have tail : ∀ g : List (List UInt8), GroupOwn ((recF 10 s0).1.map strEl) g → ∀ {K : AV → Prop}, K (.tup [.sl ((paraF s0).1.map strEl) 0, aBool (paraF s0).2]) →
      iteP (((g.map strEl).length : Int) == 0) (iteP (plainEls (g.map strEl)) (K (AV.tup [AV.sl (g.map strEl) 0, AV.sc (Value.bool true)])) False)
       (iteP (decide ((2 : Int) ≤ (s0.length : Int))) (iteP (decide ((0 : Int) ≤ IntKind.i64.wrap ((s0.length : Int) - 2)) && decide (IntKind.i64.wrap ((s0.length : Int) - 2) ≤ (s0.length : Int))) (iteP (decide (s0.drop (IntKind.i64.wrap ((s0.length : Int) - 2)).toNat = [10, 10])) (iteP (plainEls (g.map strEl)) (K (AV.tup [AV.sl (g.map strEl) 0, AV.sc (Value.bool true)])) False) (iteP (plainEls (g.map strEl)) (K (AV.tup [AV.sl (g.map strEl) 0, AV.sc (Value.bool false)])) False)) False)
        (iteP (plainEls (g.map strEl)) (K (AV.tup [AV.sl (g.map strEl) 0, AV.sc (Value.bool false)])) False)) := by
     intro g hg K hK
     have e1 := hg.is _ rfl
     have e2 := hg.ne
     have hne : (((g.map strEl).length : Int) == 0) = false := by rw [cells_len]; simp [e2]
     rw [hne, iteP_f, len2 (by omega), cells_plain, iteP_t, iteP_t]
     unfold paraF at hK
     rw [e1] at hK
     have he : g.isEmpty = false := by cases g with
      | nil => exact absurd rfl e2
      | cons _ _ => rfl
     rw [he, Bool.false_or] at hK
     cases ht : endsTwo s0 with
     | true => rw [iteP_t]; rw [ht] at hK; exact hK
     | false => rw [iteP_f]; rw [ht] at hK; exact hK
    have nil : GroupNil ((recF 10 s0).1.map strEl) → paraF s0 = ([], true) := by
     intro hg
     have e := hg.is _ rfl
     unfold paraF
     rw [e]; rfl
    cases (recF 10 s0).2 with
    | true =>
     rw [iteP_t]
     exact ⟨rfl, ⟨rfl, hhas⟩, fun _ hg => .inl ⟨nil hg, rfl⟩, fun g hg => tail g hg (K := fun y => (paraF s0 = ([], true) ∧ y = .tup [nilA, aBool true]) ∨ y = .tup [.sl ((paraF s0).1.map strEl) 0, aBool (paraF s0).2]) (.inr rfl)⟩
    | false =>
     rw [iteP_f]
     exact ⟨rfl, ⟨rfl, hhas⟩, fun _ hg => .inl ⟨nil hg, rfl⟩, fun g hg => tail g hg (K := fun y => (paraF s0 = ([], true) ∧ y = .tup [nilA, aBool true]) ∨ y = .tup [.sl ((paraF s0).1.map strEl) 0, aBool (paraF s0).2]) (.inr rfl)⟩
  obtain ⟨n, y, h', h2, h3 | h3, rfl⟩ := key
  ·obtain ⟨h3, rfl⟩ := h3
   exact ⟨_, List.mem_cons_self .., (), n, ⟨h3⟩, h2⟩
  ·subst h3
   exact ⟨_, List.mem_cons_of_mem _ (List.mem_cons_self ..), paraF s0, n, ⟨rfl⟩, h2⟩
 ·cases hs
def St43 (p out : List (List UInt8)) (last : List UInt8) (i : Nat) : St :=
 match out with
 | [] => I43n last (p.map strEl) i
 | out => I43o (out.map strEl) out.length last (p.map strEl) i
def Et43 (out : List (List UInt8)) (last : List UInt8) : St :=
 match out with
 | [] => E43n last
 | out => E43o (out.map strEl) out.length last
abbrev Loop43 (m : Int) (σ : St) (K : KR) : Prop := Ev (cf m) Tryz.prog 43 (.loop (loopAt Tryz.prog 43 6)) σ K
theorem first43 : firstId 8 (loopAt Tryz.prog 43 6) = 6 := by kernel_rfl
theorem can43n (last : List UInt8) (els : List (List AV)) (i : Int) : (I43n last els i).tidy [4, 5, 6, 7] 0 = I43n last els i := by kernel_rfl
theorem can43o (out : List (List AV)) (n : Nat) (last : List UInt8) (els : List (List AV)) (i : Int) : (I43o out n last els i).tidy [4, 5, 6, 7] 0 = I43o out n last els i := by kernel_rfl
theorem round43 (m : Int) (p out : List (List UInt8)) (last : List UInt8) (i : Nat) (hp : p.length ≤ 4294967270) (hi : i ≤ p.length) (ho : out.length ≤ i) (hroom : ∀ x, p[i]? = some x → last.length + x.length ≤ 9000000000000000000) {K : KR}
  (hN : ∀ x, p[i]? = some x → Loop43 m (St43 p (stepR p.length (out, last) (x, i)).1 (stepR p.length (out, last) (x, i)).2 (i + 1)) K)
  (hX : i = p.length → K (.exit 0) (Et43 out last)) : Loop43 m (St43 p out last i) K := by
 have hw : IntKind.i64.wrap ((i : Int) + 1) = ((i + 1 : Nat) : Int) := by rw [wrap_in (by omega) (by omega)]; rfl
 cases out with
 | nil =>
  refine Ev.round (t := ⟨[4, 5, 6, 7], [4, 5], 0⟩) tab0_ok first43 rfl (can43n last (p.map strEl) i)
   (a43 m last (p.map strEl) i (fun l i' => ∃ x, p[i]? = some x ∧ stepR p.length ([], last) (x, i) = ([], l) ∧ i' = ((i + 1 : Nat) : Int)) (fun o n l i' => ∃ x, p[i]? = some x ∧ stepR p.length ([], last) (x, i) = ([last], l) ∧ o = ([last] : List (List UInt8)).map strEl ∧ n = 1 ∧ i' = ((i + 1 : Nat) : Int)) (fun e l => i = p.length ∧ e = .exit 0 ∧ l = last) ?_) (fun τ h => ?_) (fun e τ h => ?_)
  ·rw [hw, cells_len]
   by_cases h1 : i < p.length
   ·obtain ⟨x, hx⟩ : ∃ x, p[i]? = some x := ⟨_, List.getElem?_eq_getElem h1⟩
    have hr : inRange (i : Int) p.length = true := by rw [inRange_iff]; omega
    have hrm := hroom _ hx
    have f1 : strFits last [(10 : UInt8)] = true := fits_any (by simp; omega)
    have f2 : strFits (last ++ [(10 : UInt8)]) x = true := fits_any (by simp; omega)
    have hc := cell_str hx
    have hg : getI (i : Int).toNat (p.map strEl) = some [AV.sc (Value.string (ByteArray.mk (Array.mk x)))] := by have := cell_some hx; rwa [hc] at this
    rw [decide_eq_true (show (i : Int) < (p.length : Int) by omega)]
    by_cases h2 : x = []
    ·subst h2
     by_cases h3 : last = []
     ·simp only [iteP_t, iteP_f, hr, hc, hg, true_and, h3, decide_true, ne_eq, not_true_eq_false, decide_false]
      exact ⟨_, hx, by unfold stepR; rw [if_pos rfl, if_neg (fun e => e.1 rfl)], by (repeat' apply And.intro) <;> first | trivial | rfl | exact cells_snoc _ _ | simp⟩
     ·by_cases h4 : i + 1 < p.length
      ·have e4 : decide (((i + 1 : Nat) : Int) < (p.length : Int)) = true := decide_eq_true (by omega)
       simp only [iteP_t, hr, hc, hg, true_and, h3, decide_true, ne_eq, not_false_eq_true, e4]
       exact ⟨_, hx, by unfold stepR; rw [if_pos rfl, if_pos ⟨h3, h4⟩]; rfl, by (repeat' apply And.intro) <;> first | trivial | rfl | exact cells_snoc _ _ | simp⟩
      ·have e4 : decide (((i + 1 : Nat) : Int) < (p.length : Int)) = false := decide_eq_false (by omega)
       simp only [iteP_t, iteP_f, hr, hc, hg, true_and, h3, decide_true, ne_eq, not_true_eq_false, decide_false, not_false_eq_true, e4]
       exact ⟨_, hx, by unfold stepR; rw [if_pos rfl, if_neg (fun e => h4 e.2)], by (repeat' apply And.intro) <;> first | trivial | rfl | exact cells_snoc _ _ | simp⟩
    ·by_cases h3 : last = []
     ·simp only [iteP_t, iteP_f, hr, hc, hg, true_and, h2, h3, decide_true, ne_eq, not_true_eq_false, decide_false, not_false_eq_true]
      exact ⟨_, hx, by unfold stepR; rw [if_neg h2, if_neg (fun e => e rfl)], by (repeat' apply And.intro) <;> first | trivial | rfl | exact cells_snoc _ _ | simp⟩
     ·simp only [iteP_t, iteP_f, hr, hc, hg, true_and, h2, h3, decide_true, ne_eq, not_false_eq_true, decide_false, f1, f2]
      exact ⟨_, hx, by unfold stepR; rw [if_neg h2, if_pos h3], by (repeat' apply And.intro) <;> first | trivial | rfl | exact cells_snoc _ _ | simp⟩
   ·rw [decide_eq_false (show ¬ (i : Int) < (p.length : Int) by omega), iteP_f]
    exact ⟨rfl, by omega, rfl, rfl⟩
  ·unfold q43 at h
   split at h
   ·obtain ⟨h1, x, h2, h3, h4, h5, h6⟩ := h
    rw [h4, h5, h6] at h1
    rw [h1]
    have := hN x h2
    rw [h3] at this
    exact this
   ·obtain ⟨h1, x, h2, h3, h4⟩ := h
    rw [h4] at h1
    rw [h1]
    have := hN x h2
    rw [h3] at this
    exact this
  ·obtain ⟨h1, h2, h3, h4⟩ := h
   rw [h4] at h1
   rw [h1, h3]
   exact hX h2
 | cons a r =>
  refine Ev.round (t := ⟨[4, 5, 6, 7], [4, 5], 0⟩) tab0_ok first43 rfl (can43o ((a :: r).map strEl) (a :: r).length last (p.map strEl) i)
   (b43 m ((a :: r).map strEl) (a :: r).length last (p.map strEl) i (fun o n l i' => ∃ x q, p[i]? = some x ∧ stepR p.length (a :: r, last) (x, i) = (q, l) ∧ q ≠ [] ∧ o = q.map strEl ∧ n = q.length ∧ i' = ((i + 1 : Nat) : Int)) (fun e o n l => i = p.length ∧ e = .exit 0 ∧ o = (a :: r).map strEl ∧ n = (a :: r).length ∧ l = last) ?_) (fun τ h => ?_) (fun e τ h => ?_)
  ·rw [hw, cells_len]
   by_cases h1 : i < p.length
   ·obtain ⟨x, hx⟩ : ∃ x, p[i]? = some x := ⟨_, List.getElem?_eq_getElem h1⟩
    have hr : inRange (i : Int) p.length = true := by rw [inRange_iff]; omega
    have hrm := hroom _ hx
    have f1 : strFits last [(10 : UInt8)] = true := fits_any (by simp; omega)
    have f2 : strFits (last ++ [(10 : UInt8)]) x = true := fits_any (by simp; omega)
    have f3 : (allLen 1 ((a :: r).map strEl) && fits (((a :: r).map strEl).length + [[AV.sc (Value.string (ByteArray.mk (Array.mk last)))]].length) 16) = true := by
     rw [cells_all, cells_len]
     exact fits_str (by simp at ho ⊢; omega)
    have f4 : decide (((a :: r).map strEl).length = (a :: r).length) = true := decide_eq_true (cells_len _)
    have hc := cell_str hx
    have hg : getI (i : Int).toNat (p.map strEl) = some [AV.sc (Value.string (ByteArray.mk (Array.mk x)))] := by have := cell_some hx; rwa [hc] at this
    rw [decide_eq_true (show (i : Int) < (p.length : Int) by omega)]
    by_cases h2 : x = []
    ·subst h2
     by_cases h3 : last = []
     ·simp only [iteP_t, iteP_f, hr, hc, hg, true_and, h3, decide_true, ne_eq, not_true_eq_false, decide_false]
      exact ⟨_, _, hx, by unfold stepR; rw [if_pos rfl, if_neg (fun e => e.1 rfl)], by (repeat' apply And.intro) <;> first | trivial | rfl | exact cells_snoc _ _ | simp⟩
     ·by_cases h4 : i + 1 < p.length
      ·have e4 : decide (((i + 1 : Nat) : Int) < (p.length : Int)) = true := decide_eq_true (by omega)
       simp only [iteP_t, hr, hc, hg, true_and, h3, decide_true, ne_eq, not_false_eq_true, e4, f3, f4]
       exact ⟨_, (a :: r) ++ [last], hx, by unfold stepR; rw [if_pos rfl, if_pos ⟨h3, h4⟩], by (repeat' apply And.intro) <;> first | trivial | rfl | exact cells_snoc _ _ | simp⟩
      ·have e4 : decide (((i + 1 : Nat) : Int) < (p.length : Int)) = false := decide_eq_false (by omega)
       simp only [iteP_t, iteP_f, hr, hc, hg, true_and, h3, decide_true, ne_eq, not_true_eq_false, decide_false, not_false_eq_true, e4]
       exact ⟨_, _, hx, by unfold stepR; rw [if_pos rfl, if_neg (fun e => h4 e.2)], by (repeat' apply And.intro) <;> first | trivial | rfl | exact cells_snoc _ _ | simp⟩
    ·by_cases h3 : last = []
     ·simp only [iteP_t, iteP_f, hr, hc, hg, true_and, h2, h3, decide_true, ne_eq, not_true_eq_false, decide_false, not_false_eq_true]
      exact ⟨_, _, hx, by unfold stepR; rw [if_neg h2, if_neg (fun e => e rfl)], by (repeat' apply And.intro) <;> first | trivial | rfl | exact cells_snoc _ _ | simp⟩
     ·simp only [iteP_t, iteP_f, hr, hc, hg, true_and, h2, h3, decide_true, ne_eq, not_false_eq_true, decide_false, f1, f2]
      exact ⟨_, _, hx, by unfold stepR; rw [if_neg h2, if_pos h3], by (repeat' apply And.intro) <;> first | trivial | rfl | exact cells_snoc _ _ | simp⟩
   ·rw [decide_eq_false (show ¬ (i : Int) < (p.length : Int) by omega), iteP_f]
    exact ⟨rfl, by omega, rfl, rfl, rfl, rfl⟩
  ·obtain ⟨h1, x, q, h2, h3, h4, h5, h6, h7⟩ := h
   rw [h5, h6, h7] at h1
   rw [h1]
   have := hN x h2
   rw [h3] at this
   cases q with
   | nil => exact absurd rfl h4
   | cons b t => exact this
  ·obtain ⟨h1, h2, h3, h4, h5, h6⟩ := h
   rw [h4, h5, h6] at h1
   rw [h1, h3]
   exact hX h2
end
end Go.Proofs.Rc
namespace Go.Proofs.Rc
open Go Go.Ef
noncomputable section
set_option maxRecDepth 100000
variable {m : Int} {T : Tab}
theorem scanR_snoc (p : List (List UInt8)) {i : Nat} {x : List UInt8} (h : p[i]? = some x) : scanR p (i + 1) = stepR p.length (scanR p i) (x, i) := by
 have hi : i < p.zipIdx.length := by rw [List.length_zipIdx]; exact (List.getElem?_eq_some_iff.1 h).1
 have hz : p.zipIdx[i] = (x, i) := by
  obtain ⟨h1, h2⟩ := List.getElem?_eq_some_iff.1 h
  rw [List.getElem_zipIdx, h2, Nat.zero_add]
 unfold scanR
 rw [List.take_succ_eq_append_getElem hi, List.foldl_append, hz]; rfl
theorem stepR_len (n : Nat) (a : List (List UInt8) × List UInt8) (x : List UInt8 × Nat) : (stepR n a x).1.length ≤ a.1.length + 1 := by
 unfold stepR
 split
 ·split <;> simp
 ·split <;> simp
theorem stepR_last (n : Nat) (a : List (List UInt8) × List UInt8) (x : List UInt8 × Nat) : (stepR n a x).2.length ≤ a.2.length + (x.1.length + 1) := by
 unfold stepR
 split
 ·split <;> simp <;> omega
 ·split <;> simp <;> omega
theorem scanR_len (p : List (List UInt8)) (i : Nat) (h : i ≤ p.length) : (scanR p i).1.length ≤ i := by
 induction i with
 | zero => exact Nat.le_refl _
 | succ i ih =>
  rw [scanR_snoc p (List.getElem?_eq_getElem (show i < p.length by omega))]
  have := stepR_len p.length (scanR p i) (p[i], i)
  have := ih (by omega)
  omega
theorem scanR_last (p : List (List UInt8)) (i : Nat) (h : i ≤ p.length) : (scanR p i).2.length ≤ (joinE 10 (p.take i)).length := by
 induction i with
 | zero => exact Nat.zero_le _
 | succ i ih =>
  have hi : i < p.length := by omega
  rw [scanR_snoc p (List.getElem?_eq_getElem hi), List.take_succ_eq_append_getElem hi, joinE_app, joinE_cons, joinE_nil]
  have h1 := stepR_last p.length (scanR p i) (p[i], i)
  have := ih (by omega)
  simp at h1 ⊢
  omega
theorem loop43 (p : List (List UInt8)) (hp : (joinE 10 p).length ≤ 4294967270) : ∀ (f i : Nat), p.length - i = f → i ≤ p.length →
  Loop43 m (St43 p (scanR p i).1 (scanR p i).2 i) fun e τ => e = .exit 0 ∧ τ = Et43 (scanR p p.length).1 (scanR p p.length).2 := by
 have hcnt := joinE_count 10 p
 have room : ∀ i, i ≤ p.length → ∀ x, p[i]? = some x → (scanR p i).2.length + x.length ≤ 9000000000000000000 := by
  intro i hi x hx
  obtain ⟨h1, rfl⟩ := List.getElem?_eq_some_iff.1 hx
  have h2 := scanR_last p i hi
  have h3 := joinE_take_le 10 p (i + 1)
  rw [List.take_succ_eq_append_getElem h1, joinE_app, joinE_cons, joinE_nil] at h3
  simp at h3
  omega
 intro f
 induction f with
 | zero =>
  intro i hf hi
  have hi : i = p.length := by omega
  subst hi
  exact round43 m p _ _ p.length (by omega) (Nat.le_refl _) (scanR_len p _ (Nat.le_refl _)) (room _ (Nat.le_refl _)) (fun x hx => by rw [List.getElem?_eq_none (Nat.le_refl _)] at hx; cases hx) (fun _ => ⟨rfl, rfl⟩)
 | succ f ih =>
  intro i hf hi
  refine round43 m p _ _ i (by omega) hi (scanR_len p _ hi) (room _ hi) (fun x hx => ?_) (fun h => by omega)
  have := ih (i + 1) (by omega) (by omega)
  rw [scanR_snoc p hx] at this
  exact this
structure HasRead (els : List (List AV)) : Prop where
 is : ∃ p : List (List UInt8), els = p.map strEl ∧ (joinE 10 p).length ≤ 4294967270
structure ReadIs (els : List (List AV)) (q : List (List UInt8) × List UInt8) : Prop where
 is : ∀ p : List (List UInt8), els = p.map strEl → scanR p p.length = q
structure ReadOwn (els : List (List AV)) (q : List (List UInt8) × List UInt8) : Prop where
 is : ReadIs els q
 ne : q.1 ≠ []
def L43 (σ : St) : Option LSpec := some { pre := σ.tidy [4, 5, 6, 7] 0 = I43n [] (slEls σ 6) 0 ∧ HasRead (slEls σ 6), alts := [{ α := List UInt8, post := fun l => ReadIs (slEls σ 6) ([], l), ex := .exit 0, st := fun l => E43n l }, { α := List (List UInt8) × List UInt8, post := fun q => ReadOwn (slEls σ 6) q, ex := .exit 0, st := fun q => E43o (q.1.map strEl) q.1.length q.2 }] }
def C44b (args : List AV) (h : Heap) : Option CSpec :=
 match args with
 | [.sc (.string s), .sc (.int .u8 n)] => some { pre := SomeText s.data.toList ∧ IsByte n ∧ s.data.toList.length ≤ 4294967280, alts := [{ α := List (List UInt8), post := fun p => IsParts p (u8 n) s.data.toList, val := fun p => .sl (p.map strEl) 0, heap := fun _ => h }] }
 | _ => none
theorem ok44b (O : Ok m T) : Ok m (T.addC 44 C44b) := by
 refine addC_ok O fun args h s hs hp => ?_
 unfold C44b at hs
 split at hs
 ·rename_i s0 n0
  cases hs
  obtain ⟨h1, h2⟩ := hp
  obtain ⟨a, ha, x, n, h3, h4⟩ := (ok44 (m := m) tab0_ok).call 44 C44 [.sc (.string s0), .sc (.int .u8 n0)] h _ rfl rfl h2
  rcases List.mem_cons.1 ha with rfl | ha
  ·exact absurd h3.eq h1.ne
  ·obtain rfl := List.mem_singleton.1 ha
   exact ⟨_, List.mem_singleton.2 rfl, x, n, h3, h4⟩
 ·cases hs
def T43 : Tab := (tab0.addC 44 C44b).addL 43 6 L43
theorem ok43L (O : Ok m T) : Ok m (T.addL 43 6 L43) := by
 refine addL_ok O fun σ s hs hp => ?_
 cases hs
 obtain ⟨e, p, h1, h2⟩ := hp
 have he : Loop43 m σ fun e τ => e = .exit 0 ∧ τ = Et43 (scanR p p.length).1 (scanR p p.length).2 := by
  refine Ev.tidied (t := ⟨[4, 5, 6, 7], [4, 5], 0⟩) (τ := I43n [] (slEls σ 6) 0) (by kernel_rfl) (by rw [e]; kernel_rfl) ?_
  rw [h1]
  exact loop43 p h2 _ 0 rfl (Nat.zero_le _)
 obtain ⟨n, ex, τ, h3, rfl, rfl⟩ := he
 rcases hg : scanR p p.length with ⟨g, l⟩
 rw [hg] at h3
 cases g with
 | nil => exact ⟨_, List.mem_cons_self .., l, ⟨fun q hq => by rw [h1] at hq; rw [← cells_inj hq]; exact hg⟩, n, h3⟩
 | cons a r => exact ⟨_, List.mem_cons_of_mem _ (List.mem_cons_self ..), (a :: r, l), ⟨⟨fun q hq => by rw [h1] at hq; rw [← cells_inj hq]; exact hg⟩, by simp⟩, n, h3⟩
theorem ok43T : Ok m T43 := ok43L (ok44b tab0_ok)
structure NoRead (s : List UInt8) : Prop where
 eq : paraR s = ([], true)
structure IsRead (q : List (List UInt8) × Bool) (s : List UInt8) : Prop where
 eq : q = paraR s
def C43 (args : List AV) (h : Heap) : Option CSpec :=
 match args with
 | [.sc (.string s)] => some { pre := s.data.toList.length ≤ 4294967260, alts := [{ α := Unit, post := fun _ => NoRead s.data.toList, val := fun _ => .tup [nilA, aBool true], heap := fun _ => h }, { α := List (List UInt8) × Bool, post := fun q => IsRead q s.data.toList, val := fun q => .tup [.sl (q.1.map strEl) 0, aBool q.2], heap := fun _ => h }] }
 | _ => none
end
end Go.Proofs.Rc
namespace Go.Proofs.Rc
open Go Go.Ef
noncomputable section
set_option maxRecDepth 100000
theorem c43 (m : Int) (s : List UInt8) (K : AV → Prop) (h :
 (SomeText s ∧ IsByte (10 : Int) ∧ s.length ≤ (4294967280 : Nat)) ∧
 ∀ (x : List (List UInt8)),
 IsParts x (10 : UInt8) s →
 loopAt Tryz.prog (43 : Nat) (6 : Nat) = loopAt Tryz.prog (43 : Nat) (6 : Nat) ∧
 (I43n [] (List.map strEl x) (0 : Int) = I43n [] (List.map strEl x) (0 : Int) ∧ HasRead (List.map strEl x)) ∧
 (∀ (x_1 : List UInt8),
 ReadIs (List.map strEl x) ([], x_1) →
 iteP (decide (x_1 = []))
 (K (AV.tup [AV.sc (Value.slice none (0 : Nat) (0 : Nat)), AV.sc (Value.bool true)]))
 (K
 (AV.tup
 [AV.sl [[AV.sc (Value.string (ByteArray.mk (Array.mk x_1)))]] (0 : Nat),
 AV.sc (Value.bool false)]))) ∧
 ∀ (x_1 : List (List UInt8) × List UInt8),
 ReadOwn (List.map strEl x) x_1 →
 iteP (decide (x_1.snd = []))
 (iteP (plainEls (List.map strEl x_1.fst))
 (K (AV.tup [AV.sl (List.map strEl x_1.fst) (0 : Nat), AV.sc (Value.bool true)])) False)
 (iteP
 (allLen (1 : Nat) (List.map strEl x_1.fst) &&
 fits
 ((List.map strEl x_1.fst).length +
 [[AV.sc (Value.string (ByteArray.mk (Array.mk x_1.snd)))]].length)
 (16 : Nat))
 (iteP (decide ((List.map strEl x_1.fst).length = x_1.fst.length))
 (iteP
 (plainEls
 (List.map strEl x_1.fst ++ [[AV.sc (Value.string (ByteArray.mk (Array.mk x_1.snd)))]]))
 (K
 (AV.tup
 [AV.sl
 (List.map strEl x_1.fst ++ [[AV.sc (Value.string (ByteArray.mk (Array.mk x_1.snd)))]])
 (0 : Nat),
 AV.sc (Value.bool false)]))
 False)
 False)
 False)) :
 (fun (m : Int) (s : List UInt8) (K : AV → Prop) => wpCall T43 (cf m) Tryz.prog 40 43 [aStr s] heapF fun r h' => wpBack h' r K) m s K :=
 Eq.mp (by kernel_rfl) h
end
end Go.Proofs.Rc
namespace Go.Proofs.Rc
open Go Go.Ef
noncomputable section
set_option maxRecDepth 100000
variable {m : Int} {T : Tab}
theorem paraR_nil : paraR [] = ([], true) := by kernel_rfl
theorem ok43 (O : Ok m T) : Ok m (T.addC 43 C43) := by
 refine addC_ok O fun args h s hs hp => ?_
 unfold C43 at hs
 split at hs
 ·rename_i s0
  cases hs
  obtain ⟨⟨s0⟩⟩ := s0
  have hp' : s0.length ≤ 4294967260 := hp
  have key : EvP (cf m) Tryz.prog 43 [aStr s0] h fun y h' => ((paraR s0 = ([], true) ∧ y = .tup [nilA, aBool true]) ∨ y = .tup [.sl ((paraR s0).1.map strEl) 0, aBool (paraR s0).2]) ∧ h' = h := by
   by_cases hn : s0 = []
   ·subst hn
    refine ⟨100, .tup [nilA, aBool true], h, by kernel_rfl, .inl ⟨paraR_nil, rfl⟩, rfl⟩
   ·refine EvP.freshK ok43T (n := 40) (by kernel_rfl) (by kernel_rfl) (args' := [aStr s0]) rfl (c43 m s0 _ ⟨⟨⟨hn⟩, ⟨10, rfl⟩, by omega⟩, fun p hq => ?_⟩)
    have hq := hq.eq
    subst hq
    have hroom : (joinE 10 (partsOf 10 s0)).length ≤ 4294967270 := by rw [joinE_parts]; simp; omega
    refine ⟨rfl, ⟨rfl, ⟨_, rfl, hroom⟩⟩, fun l hl => ?_, fun q hq => ?_⟩
    ·have e := hl.is _ rfl
     by_cases h0 : l = []
     ·rw [decide_eq_true h0, iteP_t]
      refine .inl ⟨?_, rfl⟩
      unfold paraR
      rw [e, if_pos h0]
     ·rw [decide_eq_false h0, iteP_f]
      refine .inr ?_
      unfold paraR
      rw [e, if_neg h0]; rfl
    ·have e := hq.is.is _ rfl
     by_cases h0 : q.2 = []
     ·rw [decide_eq_true h0, iteP_t, cells_plain, iteP_t]
      refine .inr ?_
      unfold paraR
      rw [e, if_pos h0]; rfl
     ·have hcnt := joinE_count 10 (partsOf 10 s0)
      have hlen := scanR_len (partsOf 10 s0) _ (Nat.le_refl _)
      rw [e] at hlen
      rw [decide_eq_false h0, iteP_f, cells_all, show fits ((q.1.map strEl).length + [[AV.sc (Value.string (ByteArray.mk (Array.mk q.2)))]].length) 16 = true by rw [cells_len]; exact fits_str (by simp; omega),
       Bool.and_self, iteP_t, decide_eq_true (cells_len _), iteP_t, cells_snoc, cells_plain, iteP_t]
      refine .inr ?_
      unfold paraR
      rw [e, if_neg h0]; rfl
  obtain ⟨n, y, h', h2, h3 | h3, rfl⟩ := key
  ·obtain ⟨h3, rfl⟩ := h3
   exact ⟨_, List.mem_cons_self .., (), n, ⟨h3⟩, h2⟩
  ·subst h3
   exact ⟨_, List.mem_cons_of_mem _ (List.mem_cons_self ..), paraR s0, n, ⟨rfl⟩, h2⟩
 ·cases hs
theorem endsTwo_iff (s : List UInt8) : endsTwo s = true ↔ ∃ t, s = t ++ [10, 10] := by
 unfold endsTwo
 rw [decide_eq_true_iff]
 constructor
 ·rintro ⟨_, h2⟩
  exact ⟨s.take (s.length - 2), by rw [← h2, List.take_append_drop]⟩
 ·rintro ⟨t, rfl⟩
  exact ⟨by simp, by simp⟩
theorem endsTwo_free {t y : List UInt8} (hy : y ≠ []) (hf : (10 : UInt8) ∉ y) : endsTwo (t ++ y) = false := by
 cases h : endsTwo (t ++ y) with
 | false => rfl
 | true =>
  obtain ⟨a, ha⟩ := (endsTwo_iff _).1 h
  have e := congrArg List.getLast? ha
  obtain ⟨b, z, rfl⟩ : ∃ b z, y = b ++ [z] := ⟨_, _, (List.dropLast_concat_getLast hy).symm⟩
  rw [← List.append_assoc, List.getLast?_append] at e
  simp at e
  subst e
  exact absurd (by simp) hf
theorem endsTwo_line {t y : List UInt8} (hy : y ≠ []) (hf : (10 : UInt8) ∉ y) : endsTwo (t ++ y ++ [10]) = false := by
 cases h : endsTwo (t ++ y ++ [10]) with
 | false => rfl
 | true =>
  obtain ⟨a, ha⟩ := (endsTwo_iff _).1 h
  obtain ⟨b, z, rfl⟩ : ∃ b z, y = b ++ [z] := ⟨_, _, (List.dropLast_concat_getLast hy).symm⟩
  have ha' : (t ++ b ++ [z]) ++ [10] = (a ++ [10]) ++ [10] := by simpa using ha
  have ha2 := (List.append_inj' ha' rfl).1
  have ha3 := (List.append_inj' ha2 rfl).2
  simp at ha3
  subst ha3
  exact absurd (by simp) hf
structure Alike (a : List (List UInt8) × List (List UInt8)) (b : List (List UInt8) × List UInt8) : Prop where
 fst : b.1 = a.1
 snd : b.2 = joinN a.2
 ne : ∀ x ∈ a.2, x ≠ []
theorem Alike.nil {a b} (h : Alike a b) : b.2 = [] ↔ a.2 = [] := by
 rw [h.snd]
 constructor
 ·intro e
  cases ha : a.2 with
  | nil => rfl
  | cons x r =>
   rw [ha] at e
   cases r with
   | nil =>
    rw [joinN_one] at e
    exact absurd e (h.ne x (by rw [ha]; simp))
   | cons y r => rw [joinN_cons] at e; simp at e
 ·intro e; rw [e]; rfl
theorem Alike.step {a b} (h : Alike a b) {n : Nat} (x : List UInt8) (i : Nat) (hi : i + 1 < n) : Alike (stepG a x) (stepR n b (x, i)) := by
 unfold stepG stepR
 have hn := h.nil
 by_cases hx : x = []
 ·rw [if_pos hx, if_pos hx]
  by_cases hb : b.2 = []
  ·rw [if_neg (fun e => e.1 hb)]
   refine ⟨?_, hb, fun _ hy => by cases hy⟩
   unfold flushG
   rw [if_pos (hn.1 hb)]
   exact h.fst
  ·rw [if_pos ⟨hb, hi⟩]
   refine ⟨?_, rfl, fun _ hy => by cases hy⟩
   unfold flushG
   rw [if_neg (fun e => hb (hn.2 e)), h.fst, h.snd]
 ·rw [if_neg hx, if_neg hx]
  have hne : ∀ y ∈ a.2 ++ [x], y ≠ [] := fun y hy => by
   rcases List.mem_append.1 hy with hy | hy
   ·exact h.ne y hy
   ·obtain rfl := List.mem_singleton.1 hy; exact hx
  by_cases hb : b.2 = []
  ·rw [if_neg (fun e => e hb)]
   refine ⟨h.fst, ?_, hne⟩
   rw [hn.1 hb]
   exact (joinN_one x).symm
  ·rw [if_pos hb]
   refine ⟨h.fst, ?_, hne⟩
   show b.2 ++ [10] ++ x = joinN (a.2 ++ [x])
   rw [joinN_snoc _ _ (fun e => hb (hn.2 e)), h.snd]
theorem alike (q : List (List UInt8)) (z : List UInt8) : ∀ i, i ≤ q.length → Alike ((q.take i).foldl stepG ([], [])) (scanR (q ++ [z]) i) := by
 intro i
 induction i with
 | zero => exact fun _ => ⟨rfl, rfl, fun _ h => by cases h⟩
 | succ i ih =>
  intro hi
  have hlt : i < q.length := by omega
  rw [fold_snoc q hlt, scanR_snoc (q ++ [z]) (x := q[i]) (by rw [List.getElem?_append_left hlt]; exact List.getElem?_eq_getElem hlt)]
  exact (ih (by omega)).step _ _ (by simp; omega)
theorem para_same (s : List UInt8) : paraF s = paraR s := by
 obtain ⟨q, z, hp⟩ : ∃ q z, partsOf 10 s = q ++ [z] := ⟨_, _, (List.dropLast_concat_getLast (parts_ne 10 s)).symm⟩
 have hfree : ∀ x ∈ q ++ [z], (10 : UInt8) ∉ x := by rw [← hp]; exact parts_free 10 s
 have hj : joinE 10 q ++ z ++ [10] = s ++ [10] := by
  rw [← joinE_parts 10 s, hp, joinE_app, joinE_cons, joinE_nil]; simp
 have hj : joinE 10 q ++ z = s := (List.append_inj' hj rfl).1
 have hA := alike q z q.length (Nat.le_refl _)
 rw [List.take_length] at hA
 have hlast : scanR (q ++ [z]) (q ++ [z]).length = stepR (q ++ [z]).length (scanR (q ++ [z]) q.length) (z, q.length) := by
  rw [show (q ++ [z]).length = q.length + 1 by simp]
  rw [scanR_snoc (q ++ [z]) (i := q.length) (x := z) (by simp)]
  simp
 unfold paraF paraR recF
 rw [hp, hlast, List.getLast?_concat, List.dropLast_concat]
 by_cases hz : z = []
 ·have hs : stepR (q ++ [z]).length (scanR (q ++ [z]) q.length) (z, q.length) = scanR (q ++ [z]) q.length := by
   unfold stepR
   rw [if_pos hz, if_neg (fun e => by have := e.2; simp at this)]
  rw [hs, if_pos (by rw [hz])]
  have hj : joinE 10 q = s := by rw [← hj, hz, List.append_nil]
  show (groupF q, (groupF q).isEmpty || endsTwo s) = _
  have hg : groupF q = flushG (q.foldl stepG ([], [])) := rfl
  by_cases hc : (q.foldl stepG ([], [])).2 = []
  ·rw [if_pos (hA.nil.2 hc), hg]
   unfold flushG
   rw [if_pos hc, hA.fst]
   refine Prod.ext rfl ?_
   show ((q.foldl stepG ([], [])).1.isEmpty || endsTwo s) = true
   cases he : (q.foldl stepG ([], [])).1 with
   | nil => rfl
   | cons g0 gr =>
    rw [Bool.or_eq_true]
    refine .inr ((endsTwo_iff s).2 ?_)
    rcases List.eq_nil_or_concat q with hq | ⟨q', y, hq⟩
    ·rw [hq] at he; cases he
    ·rw [List.concat_eq_append] at hq
     rw [hq, List.foldl_append] at hc he
     have hy : y = [] := by
      by_cases hy : y = []
      ·exact hy
      ·replace hc : (stepG (q'.foldl stepG ([], [])) y).2 = [] := hc
       unfold stepG at hc
       rw [if_neg hy] at hc
       simp at hc
     rcases List.eq_nil_or_concat q' with hq' | ⟨q'', w, hq'⟩
     ·rw [hq', hy] at he; cases he
     ·rw [List.concat_eq_append] at hq'
      refine ⟨joinE 10 q'' ++ w, ?_⟩
      rw [← hj, hq, hq', hy, joinE_app, joinE_app, joinE_cons, joinE_cons, joinE_nil]
      simp
  ·rw [if_neg (fun e => hc (hA.nil.1 e)), hg]
   unfold flushG
   rw [if_neg hc, hA.fst, hA.snd]
   refine Prod.ext rfl ?_
   show (((q.foldl stepG ([], [])).1 ++ [joinN (q.foldl stepG ([], [])).2]).isEmpty || endsTwo s) = false
   have h1 : ((q.foldl stepG ([], [])).1 ++ [joinN (q.foldl stepG ([], [])).2]).isEmpty = false := by simp
   rw [h1, Bool.false_or]
   rcases List.eq_nil_or_concat q with hq | ⟨q', y, hq⟩
   ·rw [hq] at hc; exact absurd rfl hc
   ·rw [List.concat_eq_append] at hq
    have hy : y ≠ [] := by
     intro hy
     rw [hq, List.foldl_append] at hc
     refine hc ?_
     show (stepG (q'.foldl stepG ([], [])) y).2 = []
     unfold stepG
     rw [if_pos hy]
    rw [← hj, hq, joinE_app, joinE_cons, joinE_nil, List.append_nil, ← List.append_assoc]
    exact endsTwo_line hy (hfree y (by rw [hq]; simp))
 ·rw [if_neg (by simpa using hz)]
  have hB : Alike (stepG (q.foldl stepG ([], [])) z) (stepR (q ++ [z]).length (scanR (q ++ [z]) q.length) (z, q.length)) := by
   have h1 := hA.step (n := q.length + 2) z q.length (by omega)
   have h2 : stepR (q.length + 2) (scanR (q ++ [z]) q.length) (z, q.length) = stepR (q ++ [z]).length (scanR (q ++ [z]) q.length) (z, q.length) := by
    unfold stepR
    rw [if_neg hz, if_neg hz]
   rwa [h2] at h1
  have hc : (stepG (q.foldl stepG ([], [])) z).2 ≠ [] := by
   unfold stepG
   rw [if_neg hz]
   simp
  have hg : groupF (q ++ [z]) = flushG (stepG (q.foldl stepG ([], [])) z) := by unfold groupF; rw [List.foldl_append]; rfl
  rw [if_neg (fun e => hc (hB.nil.1 e))]
  show (groupF (q ++ [z]), (groupF (q ++ [z])).isEmpty || endsTwo s) = _
  rw [hg, hB.fst, hB.snd]
  unfold flushG
  rw [if_neg hc]
  refine Prod.ext rfl ?_
  show (((stepG (q.foldl stepG ([], [])) z).1 ++ [joinN (stepG (q.foldl stepG ([], [])) z).2]).isEmpty || endsTwo s) = false
  have h1 : ((stepG (q.foldl stepG ([], [])) z).1 ++ [joinN (stepG (q.foldl stepG ([], [])) z).2]).isEmpty = false := by simp
  rw [h1, Bool.false_or, ← hj]
  exact endsTwo_free hz (hfree z (by simp))
end
end Go.Proofs.Rc
namespace Go.Proofs.Rc
open Go Go.Ef
noncomputable section
set_option maxRecDepth 100000
theorem c17e (m : Int) (s : List UInt8) (K : AV → Prop) (h :
 s.length.le (4294967260 : Nat) ∧
 (∀ (_ : Unit), NoPara s → K (AV.tup [AV.sc (Value.slice none (0 : Nat) (0 : Nat)), AV.sc (Value.bool true)])) ∧
 ∀ (x : List (List UInt8) × Bool),
 IsPara x s →
 iteP x.snd (K (AV.tup [AV.sl (List.map strEl x.fst) (0 : Nat), AV.sc (Value.bool true)]))
 (K (AV.tup [AV.sl (List.map strEl x.fst) (0 : Nat), AV.sc (Value.bool false)]))) :
 (fun (m : Int) (s : List UInt8) (K : AV → Prop) => wpCall (tab0.addC 41 C41) (cf m) Tryz.prog 40 17 [aStr s, aStr []] heapF fun r h' => wpBack h' r K) m s K :=
 Eq.mp (by kernel_rfl) h
theorem c18e (m : Int) (s : List UInt8) (K : AV → Prop) (h :
 s.length.le (4294967260 : Nat) ∧
 (∀ (_ : Unit), NoRead s → K (AV.tup [AV.sc (Value.slice none (0 : Nat) (0 : Nat)), AV.sc (Value.bool true)])) ∧
 ∀ (x : List (List UInt8) × Bool),
 IsRead x s →
 iteP x.snd (K (AV.tup [AV.sl (List.map strEl x.fst) (0 : Nat), AV.sc (Value.bool true)]))
 (K (AV.tup [AV.sl (List.map strEl x.fst) (0 : Nat), AV.sc (Value.bool false)]))) :
 (fun (m : Int) (s : List UInt8) (K : AV → Prop) => wpCall (tab0.addC 43 C43) (cf m) Tryz.prog 40 18 [aStr s, aStr []] heapF fun r h' => wpBack h' r K) m s K :=
 Eq.mp (by kernel_rfl) h
end
end Go.Proofs.Rc
namespace Go.Proofs.Rc
open Go Go.Ef
noncomputable section
set_option maxRecDepth 100000
variable {m : Int} {T : Tab}
def recG (t s : List UInt8) : List (List UInt8) × Bool :=
 match t with
 | [] => paraF s
 | c :: _ => recF c s
structure NoneG (t s : List UInt8) : Prop where
 eq : recG t s = ([], true)
structure IsG (q : List (List UInt8) × Bool) (t s : List UInt8) : Prop where
 eq : q = recG t s
def Cg (args : List AV) (h : Heap) : Option CSpec :=
 match args with
 | [.sc (.string s), .sc (.string t)] => some { pre := s.data.toList.length ≤ 4294967260, alts := [{ α := Unit, post := fun _ => NoneG t.data.toList s.data.toList, val := fun _ => .tup [nilA, aBool true], heap := fun _ => h }, { α := List (List UInt8) × Bool, post := fun q => IsG q t.data.toList s.data.toList, val := fun q => .tup [.sl (q.1.map strEl) 0, aBool q.2], heap := fun _ => h }] }
 | _ => none
theorem iteP_cases {b : Bool} {A B : Prop} (h1 : b = true → A) (h2 : b = false → B) : iteP b A B := by
 cases b with
 | true => rw [iteP_t]; exact h1 rfl
 | false => rw [iteP_f]; exact h2 rfl
theorem ofG {f : FuncId} {s t : List UInt8} {h : Heap} (key : EvP (cf m) Tryz.prog f [aStr s, aStr t] h fun y h' => ((recG t s = ([], true) ∧ y = .tup [nilA, aBool true]) ∨ y = .tup [.sl ((recG t s).1.map strEl) 0, aBool (recG t s).2]) ∧ h' = h) :
  ∃ a ∈ ([{ α := Unit, post := fun _ => NoneG t s, val := fun _ => .tup [nilA, aBool true], heap := fun _ => h }, { α := List (List UInt8) × Bool, post := fun q => IsG q t s, val := fun q => .tup [.sl (q.1.map strEl) 0, aBool q.2], heap := fun _ => h }] : List CAlt), ∃ x n, a.post x ∧ callP (cf m) (evCall (cf m) Tryz.prog n) f [aStr s, aStr t] h = some (a.val x, a.heap x) := by
 obtain ⟨n, y, h', h2, h3 | h3, rfl⟩ := key
 ·obtain ⟨h3, rfl⟩ := h3
  exact ⟨_, List.mem_cons_self .., (), n, ⟨h3⟩, h2⟩
 ·subst h3
  exact ⟨_, List.mem_cons_of_mem _ (List.mem_cons_self ..), recG t s, n, ⟨rfl⟩, h2⟩
theorem ok17g (O : Ok m T) : Ok m (T.addC 17 Cg) := by
 refine addC_ok O fun args h s hs hp => ?_
 unfold Cg at hs
 split at hs
 ·rename_i s0 t0
  cases hs
  obtain ⟨⟨s0⟩⟩ := s0
  obtain ⟨⟨t0⟩⟩ := t0
  have hp' : s0.length ≤ 4294967260 := hp
  refine ofG ?_
  cases t0 with
  | nil =>
   refine EvP.freshK (ok41 tab0_ok) (n := 40) (by kernel_rfl) (by kernel_rfl) (args' := [aStr s0, aStr []]) rfl (c17e m s0 _ ⟨hp', fun _ hn => .inl ⟨hn.eq, rfl⟩, fun q hq => ?_⟩)
   obtain rfl : q = recG [] s0 := hq.eq
   exact iteP_cases (fun hb => .inr (by rw [hb]; rfl)) (fun hb => .inr (by rw [hb]; rfl))
  | cons c r =>
   obtain ⟨a, ha, x, n, h3, h4⟩ := (ok17 (m := m) tab0_ok).call 17 C17 [aStr s0, aStr (c :: r)] h _ rfl rfl (show s0.length ≤ 4294967280 by omega)
   obtain rfl := List.mem_singleton.1 ha
   refine ⟨n, _, _, h4, .inr ?_, rfl⟩
   have h3 : x = recF c s0 := h3.eq
   rw [h3]; rfl
 ·cases hs
theorem ok18g (O : Ok m T) : Ok m (T.addC 18 Cg) := by
 refine addC_ok O fun args h s hs hp => ?_
 unfold Cg at hs
 split at hs
 ·rename_i s0 t0
  cases hs
  obtain ⟨⟨s0⟩⟩ := s0
  obtain ⟨⟨t0⟩⟩ := t0
  have hp' : s0.length ≤ 4294967260 := hp
  refine ofG ?_
  cases t0 with
  | nil =>
   refine EvP.freshK (ok43 tab0_ok) (n := 40) (by kernel_rfl) (by kernel_rfl) (args' := [aStr s0, aStr []]) rfl (c18e m s0 _ ⟨hp', fun _ hn => .inl ⟨?_, rfl⟩, fun q hq => ?_⟩)
   ·exact (para_same s0).trans hn.eq
   ·obtain rfl : q = recG [] s0 := hq.eq.trans (para_same s0).symm
    exact iteP_cases (fun hb => .inr (by rw [hb]; rfl)) (fun hb => .inr (by rw [hb]; rfl))
  | cons c r =>
   obtain ⟨a, ha, x, n, h3, h4⟩ := (ok18 (m := m) tab0_ok).call 18 C18 [aStr s0, aStr (c :: r)] h _ rfl rfl (show s0.length ≤ 4294967280 by omega)
   obtain rfl := List.mem_singleton.1 ha
   refine ⟨n, _, _, h4, ?_, rfl⟩
   obtain ⟨x1, x2⟩ := x
   obtain ⟨h5, h6⟩ : Lst x1 (recF c s0).1 ∧ x2 = (recF c s0).2 := h3
   show (recF c s0 = ([], true) ∧ AV.tup [x1, aBool x2] = .tup [nilA, aBool true]) ∨ AV.tup [x1, aBool x2] = .tup [.sl ((recF c s0).1.map strEl) 0, aBool (recF c s0).2]
   rw [h6]
   rcases hg : recF c s0 with ⟨q, b⟩
   rw [hg] at h5
   cases h5 with
   | sl => exact .inr rfl
   | nil =>
    have hb : b = true := by
     unfold recF at hg
     split at hg
     ·exact (congrArg Prod.snd hg).symm
     ·exact absurd (congrArg Prod.fst hg) (parts_ne c s0)
    subst hb
    exact .inl ⟨rfl, rfl⟩
 ·cases hs
def T6 : Tab := (((tab0.addC 17 Cg).addC 18 Cg).addC 19 C19).addC 20 C20
theorem ok6T : Ok m T6 := ok20 (ok19 (ok18g (ok17g tab0_ok)))
end
end Go.Proofs.Rc
namespace Go.Proofs.Rc
open Go Go.Ef
noncomputable section
set_option maxRecDepth 100000
theorem c6 (m : Int) (s : List UInt8) (t : List UInt8) (K : AV → Prop) (h :
 s.length.le (4294967260 : Nat) ∧
 (∀ (_ : Unit),
 NoneG t s →
 s.length.le (4294967260 : Nat) ∧
 (∀ (_ : Unit),
 NoneG t s →
 SameLists (AV.sc (Value.slice none (0 : Nat) (0 : Nat)))
 (AV.sc (Value.slice none (0 : Nat) (0 : Nat))) ∧
 ∀ (_ : Unit), True → True ∧ ∀ (_ : Unit), True → K (AV.sc (Value.bool true))) ∧
 ∀ (x : List (List UInt8) × Bool),
 IsG x t s →
 iteP x.snd
 (SameLists (AV.sc (Value.slice none (0 : Nat) (0 : Nat))) (AV.sl (List.map strEl x.fst) (0 : Nat)) ∧
 ∀ (_ : Unit), True → True ∧ ∀ (_ : Unit), True → K (AV.sc (Value.bool true)))
 (SameLists (AV.sc (Value.slice none (0 : Nat) (0 : Nat))) (AV.sl (List.map strEl x.fst) (0 : Nat)) ∧
 ∀ (_ : Unit), True → K (AV.sc (Value.bool false)))) ∧
 ∀ (x : List (List UInt8) × Bool),
 IsG x t s →
 iteP x.snd
 (s.length.le (4294967260 : Nat) ∧
 (∀ (_ : Unit),
 NoneG t s →
 SameLists (AV.sl (List.map strEl x.fst) (0 : Nat)) (AV.sc (Value.slice none (0 : Nat) (0 : Nat))) ∧
 ∀ (_ : Unit), True → True ∧ ∀ (_ : Unit), True → K (AV.sc (Value.bool true))) ∧
 ∀ (x_1 : List (List UInt8) × Bool),
 IsG x_1 t s →
 iteP x_1.snd
 (SameLists (AV.sl (List.map strEl x.fst) (0 : Nat)) (AV.sl (List.map strEl x_1.fst) (0 : Nat)) ∧
 ∀ (_ : Unit), True → True ∧ ∀ (_ : Unit), True → K (AV.sc (Value.bool true)))
 (SameLists (AV.sl (List.map strEl x.fst) (0 : Nat)) (AV.sl (List.map strEl x_1.fst) (0 : Nat)) ∧
 ∀ (_ : Unit), True → K (AV.sc (Value.bool false))))
 (s.length.le (4294967260 : Nat) ∧
 (∀ (_ : Unit),
 NoneG t s →
 SameLists (AV.sl (List.map strEl x.fst) (0 : Nat)) (AV.sc (Value.slice none (0 : Nat) (0 : Nat))) ∧
 ∀ (_ : Unit), True → K (AV.sc (Value.bool false))) ∧
 ∀ (x_1 : List (List UInt8) × Bool),
 IsG x_1 t s →
 iteP x_1.snd
 (SameLists (AV.sl (List.map strEl x.fst) (0 : Nat)) (AV.sl (List.map strEl x_1.fst) (0 : Nat)) ∧
 ∀ (_ : Unit), True → K (AV.sc (Value.bool false)))
 (SameLists (AV.sl (List.map strEl x.fst) (0 : Nat)) (AV.sl (List.map strEl x_1.fst) (0 : Nat)) ∧
 ∀ (_ : Unit), True → True ∧ ∀ (_ : Unit), True → K (AV.sc (Value.bool true))))) :
 (fun (m : Int) (s t : List UInt8) (K : AV → Prop) => wpCall T6 (cf m) Tryz.prog 40 6 [aStr s, aStr t] heap0 fun r _ => K r) m s t K :=
 Eq.mp (by kernel_rfl) h
end
end Go.Proofs.Rc
namespace Go.Proofs.Rc
open Go Go.Ef
noncomputable section
set_option maxRecDepth 100000
theorem recG_len (t s : List UInt8) : (recG t s).1.length ≤ s.length + 2 := by
 cases t with
 | nil =>
  show (paraF s).1.length ≤ _
  rw [para_same]
  have h1 := scanR_len (partsOf 10 s) _ (Nat.le_refl _)
  have h2 := parts_len 10 s
  unfold paraR
  split
  ·show (scanR (partsOf 10 s) (partsOf 10 s).length).1.length ≤ _
   omega
  ·show ((scanR (partsOf 10 s) (partsOf 10 s).length).1 ++ _).length ≤ _
   rw [List.length_append]
   simp only [List.length_cons, List.length_nil]
   omega
 | cons c r =>
  show (recF c s).1.length ≤ _
  have h2 := parts_len c s
  unfold recF
  split
  ·show (partsOf c s).dropLast.length ≤ _
   rw [List.length_dropLast]; omega
  ·show (partsOf c s).length ≤ _
   omega
theorem law6 (m : Int) (s t : List UInt8) (hs : s.length ≤ 4294967260) : ∃ n h, evCall (cf m) Tryz.prog n 6 [aStr s, aStr t] heap0 = some (aBool true, h) := by
 have key := call_okW (ok6T (m := m)) 40 6 [aStr s, aStr t] heap0 (fun r _ => r = aBool true) (c6 m s t _ ?_)
 ·obtain ⟨n, r, h', h1, rfl⟩ := key
  exact ⟨n, h', h1⟩
 ·have hl := recG_len t s
  have nn : SameLists nilA nilA := ⟨[], .nil, .nil, Nat.zero_le _⟩
  have fin : ∀ _ : Unit, True → True ∧ ∀ _ : Unit, True → AV.sc (Value.bool true) = aBool true := fun _ _ => ⟨trivial, fun _ _ => rfl⟩
  refine ⟨hs, fun _ hn => ⟨hs, fun _ _ => ⟨nn, fin⟩, fun x hx => ?_⟩, fun x hx => ?_⟩
  ·obtain rfl := hx.eq
   rw [hn.eq, iteP_t]
   exact ⟨⟨[], .nil, .sl [], Nat.zero_le _⟩, fin⟩
  ·obtain rfl := hx.eq
   have ss : SameLists (.sl ((recG t s).1.map strEl) 0) (.sl ((recG t s).1.map strEl) 0) := ⟨(recG t s).1, .sl _, .sl _, by omega⟩
   refine iteP_cases (fun hb => ⟨hs, fun _ hn => ?_, fun y hy => ?_⟩) (fun hb => ⟨hs, fun _ hn => ?_, fun y hy => ?_⟩)
   ·rw [hn.eq]
    exact ⟨⟨[], .sl [], .nil, Nat.zero_le _⟩, fin⟩
   ·obtain rfl := hy.eq
    rw [hb, iteP_t]
    exact ⟨ss, fin⟩
   ·rw [hn.eq] at hb
    cases hb
   ·obtain rfl := hy.eq
    rw [hb, iteP_f]
    exact ⟨ss, fin⟩
end
end Go.Proofs.Rc
namespace Go.Proofs.YtdnekbapjlbeaaaGreatDoor
open Go Go.Ef Go.ChangeShapes Go.WideShapes Go.ChangeAt Go.RowKit
open Go.ChangeMaps (open_string shut_string)
theorem room_any {W : World} (h : W.ShapedOpen Tryz.prog) : ∃ m, GlobOk (Rec.cfg m) W := by
 obtain ⟨m, hm⟩ := cell_of_shapedOpen_int (g := 1) (zero := #[.int .i64 0]) (t := 3) h (of_decide_eq_true (by kernel_rfl)) (by kernel_rfl) rfl (by kernel_rfl) (by kernel_rfl) Tryz.underlying3
 refine ⟨m, fun g cs hg i x hx => ?_⟩
 replace hg : Rec.globs m g = some cs := hg
 unfold Rec.globs at hg
 split at hg
 ·cases hg
  match i with
  | 0 => simp at hx; subst hx; exact ⟨_, hm, .sc rfl⟩
  | i + 1 => simp at hx
 ·cases hg
theorem own : ownKnob Tryz.prog.godebug = none := by kernel_rfl
theorem row_witness {H : Type} {enc : TypeId × Value → H} {C : Checked} {os : Os} {f : FuncId} {fn : Func} {s : OpenSpec} {conds : List PathCond} {apart : Bool} {laid : List (String × DataW Unit)} (w0 : World) (args : Array Value) (hos : w0.os = os)
  (hsh : (w0.forCall (fun _ _ => 0) ⟨#[], args, []⟩).Shaped C.prog) (hok : Input.okWideB C.prog (w0.forCall (fun _ _ => 0) ⟨#[], args, []⟩) f ⟨#[], args, []⟩ = true)
  (hrow : s.preRow enc C.prog fn conds apart laid (w0.forCall (fun _ _ => 0) ⟨#[], args, []⟩).memory args) :
  ∃ (w : World) (tape : Tape) (i : Input), w.os = os ∧ (w.forCall tape i).Shaped C.prog ∧ i.vars = [] ∧ Input.okWide C.prog (w.forCall tape i) .any w.heap.size f i ∧
   s.preRow enc C.prog fn conds apart laid (w.forCall tape i).memory i.args ∧ ({} : Assume).holds C.prog (lone (Frame.enter C.prog f i.args .normal) [] (w.forCall tape i)) :=
 ⟨w0, fun _ _ => 0, ⟨#[], args, []⟩, hos, hsh, (Input.okWide_of_okWideB (base := 0) hok).1, (Input.okWide_of_okWideB hok).2, hrow, by
  simp only [Assume.holds]
  exact ⟨by simp, by simp, fun _ => Modest.zero, by simp, by simp⟩⟩
end Go.Proofs.YtdnekbapjlbeaaaGreatDoor
