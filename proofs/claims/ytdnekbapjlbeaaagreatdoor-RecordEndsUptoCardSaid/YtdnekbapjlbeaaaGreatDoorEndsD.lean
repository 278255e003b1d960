/- A part of the proof: definitions and lemmas. -/
import Derived.Test.YtdnekbapjlbeaaaGreatDoorEndsC
namespace Go.Ef
open Go
noncomputable section
def tab0 : Tab := { call := fun _ => none, loop := fun _ _ => none, exact := fun _ _ => false, named := fun _ _ => false }
def Tab.addC (T : Tab) (g : FuncId) (t : List AV → Heap → Option CSpec) : Tab := { T with call := fun x => bif Nat.beq x g then some t else T.call x }
def Tab.addL (T : Tab) (f i : Nat) (t : St → Option LSpec) : Tab := { T with loop := fun x y => bif Nat.beq x f && Nat.beq y i then some t else T.loop x y }
def Tab.name (T : Tab) (f t : Nat) : Tab := { T with named := fun x y => bif Nat.beq x f && Nat.beq y t then true else T.named x y }
def fspec (pre : Prop) (v : AV) (h : Heap) : CSpec := { pre := pre, alts := [{ α := Unit, post := fun _ => True, val := fun _ => v, heap := fun _ => h }] }
section
variable {P : Program} {C : Cfg} {T : Tab}
theorem tab0_ok : TabOk P C tab0 := ⟨fun _ _ _ _ _ ht => (by cases ht), fun _ _ _ _ _ ht => (by cases ht)⟩
theorem addC_ok (O : TabOk P C T) {g : FuncId} {t : List AV → Heap → Option CSpec} (H : ∀ args h s, t args h = some s → s.pre → ∃ a ∈ s.alts, ∃ x m, a.post x ∧ callP C (evCall C P m) g args h = some (a.val x, a.heap x)) : TabOk P C (T.addC g t) := by
 refine ⟨fun x t' args h s ht hs hp => ?_, fun f i t' σ s ht => O.loop f i t' σ s ht⟩
 replace ht : (bif Nat.beq x g then some t else T.call x) = some t' := ht
 cases hq : Nat.beq x g with
 | true =>
  rw [hq] at ht
  cases ht
  rw [Nat.eq_of_beq_eq_true hq]
  exact H args h s hs hp
 | false =>
  rw [hq] at ht
  exact O.call x t' args h s ht hs hp
theorem addL_ok (O : TabOk P C T) {f i : Nat} {t : St → Option LSpec} (H : ∀ σ s, t σ = some s → s.pre → ∃ a ∈ s.alts, ∃ x, a.post x ∧ ∃ m, evCode C P m f (.loop (loopAt P f i)) σ = some (a.ex, a.st x)) : TabOk P C (T.addL f i t) := by
 refine ⟨fun g t' args h s ht => O.call g t' args h s ht, fun x y t' σ s ht hs hp => ?_⟩
 replace ht : (bif Nat.beq x f && Nat.beq y i then some t else T.loop x y) = some t' := ht
 cases hq : Nat.beq x f && Nat.beq y i with
 | true =>
  rw [hq] at ht
  simp only [Bool.and_eq_true] at hq
  cases ht
  rw [Nat.eq_of_beq_eq_true hq.1, Nat.eq_of_beq_eq_true hq.2]
  obtain ⟨a, ha, x, h1, m, h2⟩ := H σ s hs hp
  exact ⟨a, ha, x, m, h1, h2⟩
 | false =>
  rw [hq] at ht
  exact O.loop x y t' σ s ht hs hp
theorem wpStrip_mono : ∀ n v {k k' : AV → Prop}, wpStrip n v k → (∀ y, k y → k' y) → wpStrip n v k' := by
 intro n
 induction n with
 | zero =>
  intro v k k' h hk
  cases v with
  | sc v => exact hk _ h
  | sl els tok =>
   cases tok with
   | zero => exact hk _ h
   | succ t => exact h.elim
  | _ => exact h.elim
 | succ n ih =>
  have lists : ∀ (cs : List AV) {k k' : List AV → Prop}, List.rec (motive := fun _ => (List AV → Prop) → Prop) (fun k => k []) (fun x _ ihl k => wpStrip n x fun y => ihl fun l => k (y :: l)) cs k → (∀ y, k y → k' y) →
    List.rec (motive := fun _ => (List AV → Prop) → Prop) (fun k => k []) (fun x _ ihl k => wpStrip n x fun y => ihl fun l => k (y :: l)) cs k' := by
   intro cs
   induction cs with
   | nil => intro k k' h hk; exact hk _ h
   | cons x cs ihc => intro k k' h hk; exact ih x h fun y hy => ihc hy fun l hl => hk _ hl
  intro v k k' h hk
  cases v with
  | sc v => exact hk _ h
  | sl els tok =>
   cases tok with
   | zero => exact hk _ h
   | succ t =>
    obtain ⟨h1, h2⟩ := iteP_false (show iteP (plainEls els) (k (.sl els 0)) False from h)
    show iteP (plainEls els) (k' (.sl els 0)) False
    rw [h1]; exact hk _ h2
  | agg cs => exact lists cs h fun l hl => hk _ hl
  | tup cs => exact lists cs h fun l hl => hk _ hl
  | ifc t u => exact ih u h fun y hy => hk _ hy
  | fn f a b => exact lists a h fun l hl => lists b hl fun m hm => hk _ hm
  | _ => exact h.elim
theorem wpBack_mono {h : Heap} {r : AV} {k k' : AV → Prop} (H : wpBack h r k) (hk : ∀ y, k y → k' y) : wpBack h r k' := by
 cases r with
 | rsl id off len m =>
  replace H : (match strip 8 h (.rsl id off len m) with | some y => k y | none => False) := H
  show (match strip 8 h (.rsl id off len m) with | some y => k' y | none => False)
  split at H
  ·exact hk _ H
  ·exact H.elim
 | sl els tok => exact wpStrip_mono 8 (.sl els tok) H hk
 | sc v => exact wpStrip_mono 8 (.sc v) H hk
 | agg v => exact wpStrip_mono 8 (.agg v) H hk
 | tup v => exact wpStrip_mono 8 (.tup v) H hk
 | fn f a b => exact wpStrip_mono 8 (.fn f a b) H hk
 | ifc t v => exact wpStrip_mono 8 (.ifc t v) H hk
 | cp v => exact wpStrip_mono 8 (.cp v) H hk
 | gp g o => exact wpStrip_mono 8 (.gp g o) H hk
 | ptr g o => exact wpStrip_mono 8 (.ptr g o) H hk
 | mp g => exact wpStrip_mono 8 (.mp g) H hk
theorem EvP.fresh {g : FuncId} {args args' : List AV} {h : Heap} {K : AV → Heap → Prop} (hf : C.fresh g = true) (hp : C.prim g = none) (ha : mapO (stripA 8) args = some args')
  (H : EvC C P g args' heapF fun r h' => wpBack h' r fun y => K y h) : EvP C P g args h K := by
 obtain ⟨m, r, h', h1, h2⟩ := H
 obtain ⟨y, h3, h4⟩ := wpBack_ok h2
 refine ⟨m, y, h, ?_, h4⟩
 unfold callP
 rw [hp]; simp only []; rw [hf]; simp only [cond_true]; rw [ha]; simp only []; rw [h1]; simp only []; rw [h3]
end
end
end Go.Ef
namespace Go.Ef
open Go
noncomputable section
section
variable {P : Program} {C : Cfg} {T : Tab}
theorem EvP.freshK (O : TabOk P C T) {n g : Nat} {args args' : List AV} {h : Heap} {Q : AV → Prop} (hf : C.fresh g = true) (hp : C.prim g = none) (ha : mapO (stripA 8) args = some args')
  (H : wpCall T C P n g args' heapF fun r h' => wpBack h' r Q) : EvP C P g args h fun y h' => Q y ∧ h' = h := by
 refine EvP.fresh hf hp ha ?_
 obtain ⟨m, r, h', h1, h2⟩ := call_okW O n g args' heapF _ H
 exact ⟨m, r, h', h1, wpBack_mono h2 fun y hy => ⟨hy, rfl⟩⟩
end
end
end Go.Ef
namespace Go.Ef
open Go
noncomputable section
section
variable {P : Program} {C : Cfg} {T : Tab}
theorem Ev.round (O : TabOk P C T) {n f i : Nat} {t : Tidy} {σ : St} {N : St → Prop} {X : Ex → St → Prop} {K : KR} (hi : firstId 8 (loopAt P f i) = i) (ht : C.tidy f i = some t) (hcan : σ.tidy t.head t.nloc = σ)
  (hs : wpRound T C P n f i σ N X) (hN : ∀ τ, N τ → Ev C P f (.loop (loopAt P f i)) τ K) (hX : ∀ e τ, X e τ → K e τ) : Ev C P f (.loop (loopAt P f i)) σ K := by
 unfold wpRound at hs
 rw [ht] at hs
 refine Ev.loopT (t := t) (by rw [hi]; exact ht) ?_
 rw [hcan]
 refine (code_okW O n f _ _ _ hs).mono fun e τ h => ?_
 cases e with
 | normal => exact Ev.tidied (t := t) (τ := τ.tidy t.head t.nloc) (by rw [hi]; exact ht) (tidy_tidy _ _ _).symm (hN _ h)
 | exit j => exact hX _ _ h
 | ret => exact hX _ _ h
end
end
end Go.Ef
namespace Go.Proofs.Rc
open Go Go.Ef
noncomputable section
abbrev cf (m : Int) : Cfg := Rec.cfg m
def nilA : AV := .sc (.slice none 0 0)
def sSl (els : List (List AV)) (tok : Nat) : Slot := .v (.sl els tok)
def hO (e n : Nat) : Heap := (heapF.new (.own 1 e n)).2
def stepP (c : UInt8) (a : List (List UInt8) × List UInt8) (b : UInt8) : List (List UInt8) × List UInt8 := if b = c then (a.1 ++ [a.2], []) else (a.1, a.2 ++ [b])
def scanP (c : UInt8) (l : List UInt8) : List (List UInt8) × List UInt8 := l.foldl (stepP c) ([], [])
def C42 (args : List AV) (h : Heap) : Option CSpec :=
 match args with
 | [.sc (.string s), .sc (.string t)] => match t.data.toList with
  | [c] => some { pre := s.data.toList.length ≤ 4294967280, alts := [{ α := List (List UInt8), post := fun p => p = partsOf c s.data.toList, val := fun p => .sl (p.map strEl) (h.next + 1), heap := fun p => (h.new (.own 1 9 p.length)).2 }] }
  | _ => none
 | _ => none
end
end Go.Proofs.Rc
namespace Go.Proofs.Rc
open Go Go.Ef
noncomputable section
set_option maxRecDepth 100000
theorem cells_len (l : List (List UInt8)) : (l.map strEl).length = l.length := List.length_map ..
theorem byteAt_nat {s : List UInt8} {i : Nat} (h : i < s.length) : byteAt s (i : Int) = (s[i].toNat : Int) := by
 unfold byteAt
 rw [Int.toNat_natCast, List.getElem?_eq_getElem h]; rfl
theorem beq_byte (a b : UInt8) : ((a.toNat : Int) == (b.toNat : Int)) = decide (a = b) := by
 by_cases h : a = b
 ·subst h; simp
 ·have : ¬ ((a.toNat : Int) = b.toNat) := fun e => h (UInt8.toNat_inj.1 (by omega))
  simp [h, this]
end
end Go.Proofs.Rc
namespace Go.Proofs.Rc
open Go Go.Ef
noncomputable section
inductive Lst : AV → List (List UInt8) → Prop where
 | sl (p : List (List UInt8)) : Lst (.sl (p.map strEl) 0) p
 | nil : Lst nilA []
def u8 (n : Int) : UInt8 := UInt8.ofNat n.toNat
structure IsByte (n : Int) : Prop where
 is : ∃ c : UInt8, n = c.toNat
structure ScanNil (s : List UInt8) (c : UInt8) (k : Nat) : Prop where
 le : k ≤ s.length
 fst : (scanP c s).1 = []
 snd : (scanP c s).2 = s.drop k
structure ScanOwn (s : List UInt8) (c : UInt8) (l : List (List UInt8)) (k : Nat) : Prop where
 le : k ≤ s.length
 fst : (scanP c s).1 = l
 ne : l ≠ []
 snd : (scanP c s).2 = s.drop k
structure Same (a b : List (List AV)) : Prop where
 eq : ∃ p : List (List UInt8), a = p.map strEl ∧ b = p.map strEl ∧ p.length ≤ 4294967281
def recF (c : UInt8) (s : List UInt8) : List (List UInt8) × Bool := if (partsOf c s).getLast? = some [] then ((partsOf c s).dropLast, true) else (partsOf c s, false)
structure IsParts (p : List (List UInt8)) (c : UInt8) (s : List UInt8) : Prop where
 eq : p = partsOf c s
 ne : s ≠ []
structure NoParts (s : List UInt8) : Prop where
 eq : s = []
structure IsRec (q : List (List UInt8) × Bool) (c : UInt8) (s : List UInt8) : Prop where
 eq : q = recF c s
def C17 (args : List AV) (h : Heap) : Option CSpec :=
 match args with
 | [.sc (.string s), .sc (.string t)] => match t.data.toList with
  | c :: _ => some { pre := s.data.toList.length ≤ 4294967280, alts := [{ α := List (List UInt8) × Bool, post := fun q => IsRec q c s.data.toList, val := fun q => .tup [.sl (q.1.map strEl) 0, aBool q.2], heap := fun _ => h }] }
  | [] => none
 | _ => none
def C20 (args : List AV) (h : Heap) : Option CSpec :=
 match args with
 | [] => some (fspec True (aBool true) h)
 | _ => none
end
end Go.Proofs.Rc
namespace Go.Proofs.Rc
open Go Go.Ef
noncomputable section
set_option maxRecDepth 100000
theorem c17 (m : Int) (s : List UInt8) (t : List UInt8) (c : UInt8) (K : AV → Prop) (h :
 iteP (true && decide ((1 : Int) ≤ (↑(c :: t).length : Int)))
 (s.length.le (4294967280 : Nat) ∧
 ∀ (x : List (List UInt8)),
 x = partsOf c s →
 iteP (inRange (IntKind.i64.wrap ((↑(List.map strEl x).length : Int) - (1 : Int))) (List.map strEl x).length)
 (getI (IntKind.i64.wrap ((↑(List.map strEl x).length : Int) - (1 : Int))).toNat (List.map strEl x) =
 some
 [AV.sc
 (Value.string
 (ByteArray.mk
 (Array.mk
 (cellStr (List.map strEl x)
 (IntKind.i64.wrap ((↑(List.map strEl x).length : Int) - (1 : Int))) (0 : Nat)))))] ∧
 iteP
 (decide
 (cellStr (List.map strEl x) (IntKind.i64.wrap ((↑(List.map strEl x).length : Int) - (1 : Int)))
 (0 : Nat) =
 []))
 (iteP (headLen (1 : Nat) (List.map strEl x))
 (iteP
 (true &&
 (decide ((0 : Int) ≤ IntKind.i64.wrap ((↑(List.map strEl x).length : Int) - (1 : Int))) &&
 (decide
 (IntKind.i64.wrap ((↑(List.map strEl x).length : Int) - (1 : Int)) ≤
 IntKind.i64.wrap ((↑(List.map strEl x).length : Int) - (1 : Int))) &&
 decide
 (IntKind.i64.wrap ((↑(List.map strEl x).length : Int) - (1 : Int)) ≤
 (↑(List.map strEl x).length : Int)))))
 (iteP
 (plainEls
 (cutL (List.map strEl x) (0 : Int)
 (IntKind.i64.wrap ((↑(List.map strEl x).length : Int) - (1 : Int)))))
 (K
 (AV.tup
 [AV.sl
 (cutL (List.map strEl x) (0 : Int)
 (IntKind.i64.wrap ((↑(List.map strEl x).length : Int) - (1 : Int))))
 (0 : Nat),
 AV.sc (Value.bool true)]))
 False)
 False)
 False)
 (iteP (plainEls (List.map strEl x))
 (K (AV.tup [AV.sl (List.map strEl x) (0 : Nat), AV.sc (Value.bool false)])) False))
 False)
 False) :
 (fun (m : Int) (s t : List UInt8) (c : UInt8) (K : AV → Prop) => wpCall (tab0.addC 42 C42) (cf m) Tryz.prog 40 17 [aStr s, aStr (c :: t)] heapF fun r h' => wpBack h' r K) m s t c K :=
 Eq.mp (by kernel_rfl) h
end
end Go.Proofs.Rc
namespace Go.Proofs.Rc
open Go Go.Ef
noncomputable section
set_option maxRecDepth 100000
theorem cell_get (l : List (List UInt8)) (i : Nat) : getI i (l.map strEl) = (l[i]?).map strEl := by rw [getI_eq, List.getElem?_map]
theorem cell_str {l : List (List UInt8)} {i : Nat} {x : List UInt8} (h : l[i]? = some x) : cellStr (l.map strEl) (i : Int) 0 = x := by
 unfold cellStr cellAt
 rw [Int.toNat_natCast, cell_get, h]; rfl
theorem cell_some {l : List (List UInt8)} {i : Nat} {x : List UInt8} (h : l[i]? = some x) : getI (i : Int).toNat (l.map strEl) = some [AV.sc (Value.string (ByteArray.mk (Array.mk (cellStr (l.map strEl) (i : Int) 0))))] := by
 rw [cell_str h, Int.toNat_natCast, cell_get, h]; rfl
theorem cells_plain (l : List (List UInt8)) : plainEls (l.map strEl) = true := by
 unfold plainEls
 rw [List.all_map]
 exact List.all_eq_true.2 fun _ _ => rfl
theorem cells_head (l : List (List UInt8)) : headLen 1 (l.map strEl) = true := by cases l <;> rfl
theorem cells_cut (l : List (List UInt8)) (a b : Nat) : cutL (l.map strEl) (a : Int) (b : Int) = ((l.take b).drop a).map strEl := by
 unfold cutL
 rw [Int.toNat_natCast, Int.toNat_natCast, List.map_drop, List.map_take]
theorem u8_nat (c : UInt8) : u8 (c.toNat : Int) = c := by unfold u8; rw [Int.toNat_natCast]; exact UInt8.ofNat_toNat
theorem parts_ne (c : UInt8) (s : List UInt8) : partsOf c s ≠ [] := by
 intro h
 have := partsOf_length c s
 rw [h] at this; cases this
theorem parts_len (c : UInt8) (s : List UInt8) : (partsOf c s).length ≤ s.length + 1 := by
 rw [partsOf_length]
 have : s.count c ≤ s.length := List.count_le_length
 omega
variable {m : Int} {T : Tab}
abbrev Ok (m : Int) (T : Tab) : Prop := TabOk Tryz.prog (cf m) T
theorem ok42 (O : Ok m T) : Ok m (T.addC 42 C42) := by
 refine addC_ok O fun args h s hs hp => ?_
 unfold C42 at hs
 split at hs
 ·rename_i s0 t0
  split at hs
  ·rename_i c ht
   cases hs
   refine ⟨_, List.mem_singleton.2 rfl, partsOf c s0.data.toList, 0, rfl, ?_⟩
   show splitP 9 [.sc (.string s0), .sc (.string t0)] h = _
   unfold splitP
   simp only [ht]
   rw [Nat.ble_eq_true_of_le hp]; rfl
  ·cases hs
 ·cases hs
theorem last_spec {p : List (List UInt8)} (h : p ≠ []) : ∃ x, p[p.length - 1]? = some x ∧ p.getLast? = some x ∧ 1 ≤ p.length := by
 have hl : 1 ≤ p.length := List.length_pos_iff.2 h
 refine ⟨p[p.length - 1]'(by omega), List.getElem?_eq_getElem _, ?_, hl⟩
 rw [List.getLast?_eq_getElem?]
 exact List.getElem?_eq_getElem _
theorem ok17 (O : Ok m T) : Ok m (T.addC 17 C17) := by
 refine addC_ok O fun args h s hs hp => ?_
 unfold C17 at hs
 split at hs
 ·rename_i s0 t0
  split at hs
  ·rename_i c r ht
   cases hs
   obtain ⟨⟨s0⟩⟩ := s0
   obtain ⟨⟨t0⟩⟩ := t0
   have ht : t0 = c :: r := ht
   subst ht
   have key : EvP (cf m) Tryz.prog 17 [aStr s0, aStr (c :: r)] h fun y h' => y = .tup [.sl ((recF c s0).1.map strEl) 0, aBool (recF c s0).2] ∧ h' = h := by
    refine EvP.freshK (ok42 tab0_ok) (n := 40) (by kernel_rfl) (by kernel_rfl) (args' := [aStr s0, aStr (c :: r)]) rfl (c17 m s0 r c _ ?_)
    rw [decide_eq_true (by simp; omega), Bool.and_self, iteP_t]
    refine ⟨hp, fun p hq => ?_⟩
    subst hq
    obtain ⟨x, hx, hlast, hl⟩ := last_spec (parts_ne c s0)
    have hb := parts_len c s0
    have hp' : s0.length ≤ 4294967280 := hp
    have hw : IntKind.i64.wrap (((partsOf c s0).length : Int) - 1) = (((partsOf c s0).length - 1 : Nat) : Int) := by rw [wrap_in (by omega) (by omega)]; omega
    rw [cells_len, hw, show inRange (((partsOf c s0).length - 1 : Nat) : Int) (partsOf c s0).length = true by rw [inRange_iff]; omega, iteP_t]
    refine ⟨cell_some hx, ?_⟩
    rw [cell_str hx]
    by_cases h0 : x = []
    ·rw [decide_eq_true h0, iteP_t, cells_head, iteP_t, decide_eq_true (by omega), decide_eq_true (by omega), decide_eq_true (by omega), Bool.and_self, Bool.and_self, Bool.and_self, iteP_t,
      show cutL ((partsOf c s0).map strEl) 0 (((partsOf c s0).length - 1 : Nat) : Int) = (partsOf c s0).dropLast.map strEl by rw [show (0 : Int) = ((0 : Nat) : Int) from rfl, cells_cut, List.drop_zero, List.dropLast_eq_take],
      cells_plain, iteP_t]
     unfold recF
     rw [hlast, h0, if_pos rfl]; rfl
    ·rw [decide_eq_false h0, iteP_f, cells_plain, iteP_t]
     unfold recF
     rw [hlast, if_neg (by simpa using h0)]; rfl
   obtain ⟨n, y, h', h2, rfl, rfl⟩ := key
   exact ⟨_, List.mem_singleton.2 rfl, recF c s0, n, ⟨rfl⟩, h2⟩
  ·cases hs
 ·cases hs
theorem ok20 (O : Ok m T) : Ok m (T.addC 20 C20) := by
 refine addC_ok O fun args h s hs _ => ?_
 unfold C20 at hs
 split at hs
 ·cases hs
  obtain ⟨h', he⟩ := Rec.yes_spec (Rec.awake_ev m)
  refine ⟨_, List.mem_singleton.2 rfl, (), 1000, trivial, ?_⟩
  show callP (cf m) (evCall (cf m) Tryz.prog 1000) 20 [] h = some (aBool true, h)
  have hf : (cf m).fresh 20 = true := by kernel_rfl
  unfold callP
  rw [show (cf m).prim 20 = none from rfl]
  simp only []
  rw [hf]
  simp only [cond_true]
  show (match evCall (cf m) Tryz.prog 1000 20 [] heapF with | some (r, h') => _ | none => _) = _
  rw [he]; rfl
 ·cases hs
end
end Go.Proofs.Rc
namespace Go.Proofs.Rc
open Go Go.Ef
noncomputable section
def I9 (s : List UInt8) (c : Int) (els : List (List AV)) (b : Bool) (t : List UInt8) (i : Int) : St :=
 stOf 82 [(0, sStr s), (1, sK .u8 c), (5, sStr [u8 c]), (6, sSl els 0), (7, sBool b), (8, sStr t), (9, sInt i)] [] heap0
def E9 (s : List UInt8) (c : Int) (els : List (List AV)) (b : Bool) (t : List UInt8) : St :=
 stOf 82 [(0, sStr s), (4, .unk), (5, sStr [u8 c]), (6, sSl els 0), (7, sBool b), (8, sStr t)] [] heap0
def J9 (s : List UInt8) (c : Int) (els : List (List AV)) (b : Bool) (t : List UInt8) (i k : Int) : St :=
 stOf 82 [(0, sStr s), (1, sK .u8 c), (5, sStr [u8 c]), (6, sSl els 0), (7, sBool b), (8, sStr t), (9, sInt i), (10, sInt k)] [] heap0
def F9 (s : List UInt8) (c : Int) (els : List (List AV)) (b : Bool) (t : List UInt8) (i : Int) : St :=
 stOf 82 [(0, sStr s), (1, sK .u8 c), (4, .unk), (5, sStr [u8 c]), (6, sSl els 0), (7, sBool b), (8, sStr t), (9, sInt i)] [] heap0
def qJ9 (s : List UInt8) (c : Int) (els : List (List AV)) (b : Bool) (t : List UInt8) (i : Int) (X : Prop) (e : Ex) (τ : St) : Prop :=
 match e with
 | .exit _ => e = .exit 2 ∧ τ = F9 s c els b t i ∧ X
 | _ => False
def qI9 (s : List UInt8) (c : Int) (els : List (List AV)) (b : Bool) (X : List UInt8 → Prop) (e : Ex) (τ : St) : Prop :=
 match e with
 | .exit _ => e = .exit 0 ∧ τ = E9 s c els b (slS τ 8) ∧ X (slS τ 8)
 | _ => False
structure NoByte (els : List (List AV)) (i c : Int) : Prop where
 is : ∃ (j : Nat) (x : List UInt8) (d : UInt8), i = j ∧ c = d.toNat ∧ els[j]? = some (strEl x) ∧ d ∉ x ∧ x.length ≤ 4294967280
def LJ9 (σ : St) : Option LSpec := some { pre := σ.tidy [0, 1, 5, 6, 7, 8, 9, 10] 0 = J9 (slS σ 0) (slI σ 1) (slEls σ 6) (slB σ 7) (slS σ 8) (slI σ 9) 0 ∧ NoByte (slEls σ 6) (slI σ 9) (slI σ 1), alts := [{ α := Unit, post := fun _ => True, ex := .exit 2, st := fun _ => F9 (slS σ 0) (slI σ 1) (slEls σ 6) (slB σ 7) (slS σ 8) (slI σ 9) }] }
def TJ9 : Tab := tab0.addL 9 9 LJ9
def joinE (c : UInt8) (p : List (List UInt8)) : List UInt8 := (p.map (· ++ [c])).flatten
structure Free (els : List (List AV)) (c : Int) (p : List (List UInt8)) : Prop where
 is : ∃ d : UInt8, c = d.toNat ∧ els = p.map strEl ∧ (∀ x ∈ p, d ∉ x) ∧ (joinE d p).length ≤ 4294967280
structure Joined (t : List UInt8) (els : List (List AV)) (c : Int) : Prop where
 is : ∀ p d, els = p.map strEl → c = ((d : UInt8).toNat : Int) → t = joinE d p
structure HasFree (els : List (List AV)) (c : Int) : Prop where
 is : ∃ p, Free els c p
def LI9 (σ : St) : Option LSpec := some { pre := σ.tidy [0, 1, 5, 6, 7, 8, 9] 0 = I9 (slS σ 0) (slI σ 1) (slEls σ 6) (slB σ 7) [] 0 ∧ HasFree (slEls σ 6) (slI σ 1), alts := [{ α := List UInt8, post := fun t => Joined t (slEls σ 6) (slI σ 1), ex := .exit 0, st := fun t => E9 (slS σ 0) (slI σ 1) (slEls σ 6) (slB σ 7) t }] }
def T9 : Tab := ((tab0.addC 17 C17).addC 20 C20).addL 9 6 LI9
end
end Go.Proofs.Rc
namespace Go.Proofs.Rc
open Go Go.Ef
noncomputable section
set_option maxRecDepth 100000
theorem v9j (m : Int) (s : List UInt8) (c : Int) (els : List (List AV)) (b : Bool) (t : List UInt8) (i : Int) (k : Int) (N : Int → Prop) (X : Prop) (h :
 iteP (inRange i els.length)
 (getI i.toNat els = some [AV.sc (Value.string (ByteArray.mk (Array.mk (cellStr els i (0 : Nat)))))] ∧
 iteP (decide (k < (↑(cellStr els i (0 : Nat)).length : Int)))
 (iteP (inRange i els.length)
 (getI i.toNat els = some [AV.sc (Value.string (ByteArray.mk (Array.mk (cellStr els i (0 : Nat)))))] ∧
 iteP (inRange k (cellStr els i (0 : Nat)).length)
 (iteP (byteAt (cellStr els i (0 : Nat)) k == c) False
 (J9 s c els b t i (IntKind.i64.wrap (k + (1 : Int))) =
 J9 s c els b t i (IntKind.i64.wrap (k + (1 : Int))) ∧
 N (IntKind.i64.wrap (k + (1 : Int)))))
 False)
 False)
 (Ex.exit (2 : Nat) = Ex.exit (2 : Nat) ∧ F9 s c els b t i = F9 s c els b t i ∧ X))
 False) :
 (fun (m : Int) (s : List UInt8) (c : Int) (els : List (List AV)) (b : Bool) (t : List UInt8) (i k : Int) (N : Int → Prop) (X : Prop) => wpRound tab0 (cf m) Tryz.prog 40 9 9 (J9 s c els b t i k) (fun τ => τ = J9 s c els b t i (slI τ 10) ∧ N (slI τ 10)) (fun e τ => qJ9 s c els b t i X e τ)) m s c els b t i k N X :=
 Eq.mp (by kernel_rfl) h
theorem v9i (m : Int) (s : List UInt8) (c : Int) (els : List (List AV)) (b : Bool) (t : List UInt8) (i : Int) (N : List UInt8 → Int → Prop) (X : List UInt8 → Prop) (h :
 iteP (decide (i < (↑els.length : Int)))
 (loopAt Tryz.prog (9 : Nat) (9 : Nat) = loopAt Tryz.prog (9 : Nat) (9 : Nat) ∧
 (J9 s c els b t i (0 : Int) = J9 s c els b t i (0 : Int) ∧ NoByte els i c) ∧
 ∀ (_ : Unit),
 True →
 iteP (inRange i els.length)
 (getI i.toNat els = some [AV.sc (Value.string (ByteArray.mk (Array.mk (cellStr els i (0 : Nat)))))] ∧
 iteP (strFits t (cellStr els i (0 : Nat)))
 (iteP (strFits (t ++ cellStr els i (0 : Nat)) [u8 c])
 (I9 s c els b (t ++ cellStr els i (0 : Nat) ++ [u8 c]) (IntKind.i64.wrap (i + (1 : Int))) =
 I9 s c els b (t ++ cellStr els i (0 : Nat) ++ [u8 c]) (IntKind.i64.wrap (i + (1 : Int))) ∧
 N (t ++ cellStr els i (0 : Nat) ++ [u8 c]) (IntKind.i64.wrap (i + (1 : Int))))
 False)
 False)
 False)
 (Ex.exit (0 : Nat) = Ex.exit (0 : Nat) ∧ E9 s c els b t = E9 s c els b t ∧ X t)) :
 (fun (m : Int) (s : List UInt8) (c : Int) (els : List (List AV)) (b : Bool) (t : List UInt8) (i : Int) (N : List UInt8 → Int → Prop) (X : List UInt8 → Prop) => wpRound TJ9 (cf m) Tryz.prog 40 9 6 (I9 s c els b t i) (fun τ => τ = I9 s c els b (slS τ 8) (slI τ 9) ∧ N (slS τ 8) (slI τ 9)) (fun e τ => qI9 s c els b X e τ)) m s c els b t i N X :=
 Eq.mp (by kernel_rfl) h
theorem c9 (m : Int) (s : List UInt8) (c : Int) (K : AV → Prop) (h :
 s.length.le (4294967280 : Nat) ∧
 ∀ (x : List (List UInt8) × Bool),
 IsRec x (byteD [AV.sc (Value.int IntKind.u8 c)]) s →
 iteP x.snd
 (loopAt Tryz.prog (9 : Nat) (6 : Nat) = loopAt Tryz.prog (9 : Nat) (6 : Nat) ∧
 (I9 s c (List.map strEl x.fst) true [] (0 : Int) = I9 s c (List.map strEl x.fst) true [] (0 : Int) ∧
 HasFree (List.map strEl x.fst) c) ∧
 ∀ (x_1 : List UInt8),
 Joined x_1 (List.map strEl x.fst) c →
 iteP (decide (x_1 = s)) (True ∧ ∀ (_ : Unit), True → K (AV.sc (Value.bool true)))
 (K (AV.sc (Value.bool false))))
 (loopAt Tryz.prog (9 : Nat) (6 : Nat) = loopAt Tryz.prog (9 : Nat) (6 : Nat) ∧
 (I9 s c (List.map strEl x.fst) false [] (0 : Int) = I9 s c (List.map strEl x.fst) false [] (0 : Int) ∧
 HasFree (List.map strEl x.fst) c) ∧
 ∀ (x_1 : List UInt8),
 Joined x_1 (List.map strEl x.fst) c →
 iteP (decide ((0 : Int) < (↑(List.map strEl x.fst).length : Int)))
 (iteP
 (inRange (IntKind.i64.wrap ((↑(List.map strEl x.fst).length : Int) - (1 : Int)))
 (List.map strEl x.fst).length)
 (getI (IntKind.i64.wrap ((↑(List.map strEl x.fst).length : Int) - (1 : Int))).toNat
 (List.map strEl x.fst) =
 some
 [AV.sc
 (Value.string
 (ByteArray.mk
 (Array.mk
 (cellStr (List.map strEl x.fst)
 (IntKind.i64.wrap ((↑(List.map strEl x.fst).length : Int) - (1 : Int)))
 (0 : Nat)))))] ∧
 iteP
 (decide
 ((0 : Int) <
 (↑(cellStr (List.map strEl x.fst)
 (IntKind.i64.wrap ((↑(List.map strEl x.fst).length : Int) - (1 : Int)))
 (0 : Nat)).length :
 Int)))
 (iteP (strFits s [u8 c])
 (iteP (decide (x_1 = s ++ [u8 c])) (True ∧ ∀ (_ : Unit), True → K (AV.sc (Value.bool true)))
 (K (AV.sc (Value.bool false))))
 False)
 (K (AV.sc (Value.bool false))))
 False)
 (K (AV.sc (Value.bool false))))) :
 (fun (m : Int) (s : List UInt8) (c : Int) (K : AV → Prop) => wpCall T9 (cf m) Tryz.prog 40 9 [aStr s, aK .u8 c] heap0 fun r _ => K r) m s c K :=
 Eq.mp (by kernel_rfl) h
end
end Go.Proofs.Rc
namespace Go.Proofs.Rc
open Go Go.Ef
noncomputable section
set_option maxRecDepth 100000
variable {m : Int} {T : Tab}
theorem joinE_nil (c : UInt8) : joinE c [] = [] := rfl
theorem joinE_cons (c : UInt8) (x : List UInt8) (p : List (List UInt8)) : joinE c (x :: p) = x ++ [c] ++ joinE c p := by unfold joinE; simp
theorem joinE_app (c : UInt8) (p q : List (List UInt8)) : joinE c (p ++ q) = joinE c p ++ joinE c q := by unfold joinE; simp
theorem joinE_take (c : UInt8) (p : List (List UInt8)) {i : Nat} (h : i < p.length) : joinE c (p.take (i + 1)) = joinE c (p.take i) ++ p[i] ++ [c] := by
 rw [List.take_succ_eq_append_getElem h, joinE_app, joinE_cons, joinE_nil]; simp
theorem joinE_parts (c : UInt8) (s : List UInt8) : joinE c (partsOf c s) = s ++ [c] := by
 induction s with
 | nil => rfl
 | cons b s ih =>
  rw [partsOf_cons]
  by_cases h : b = c
  ·subst h; rw [if_pos rfl, joinE_cons, ih]; rfl
  ·rw [if_neg h]
   cases hq : partsOf c s with
   | nil => exact absurd hq (parts_ne c s)
   | cons p r =>
    rw [hq, joinE_cons] at ih
    show joinE c ((b :: p) :: r) = _
    rw [joinE_cons]
    simp only [List.cons_append]
    rw [← ih]
theorem parts_free (c : UInt8) (s : List UInt8) : ∀ x ∈ partsOf c s, c ∉ x := by
 induction s with
 | nil => intro x hx; simp [partsOf] at hx; subst hx; simp
 | cons b s ih =>
  rw [partsOf_cons]
  by_cases h : b = c
  ·subst h
   rw [if_pos rfl]
   intro x hx
   rcases List.mem_cons.1 hx with rfl | hx
   ·simp
   ·exact ih x hx
  ·rw [if_neg h]
   cases hq : partsOf c s with
   | nil => exact absurd hq (parts_ne c s)
   | cons p r =>
    rw [hq] at ih
    intro x hx
    rcases List.mem_cons.1 hx with rfl | hx
    ·intro hc
     rcases List.mem_cons.1 hc with e | hc
     ·exact h e.symm
     ·exact ih p (by simp) hc
    ·exact ih x (by simp [hx])
theorem joinE_sub {c : UInt8} {p : List (List UInt8)} {x : List UInt8} (h : x ∈ p) : x.length ≤ (joinE c p).length := by
 induction p with
 | nil => cases h
 | cons y p ih =>
  rw [joinE_cons]
  rcases List.mem_cons.1 h with rfl | h
  ·simp
  ·have := ih h; simp; omega
theorem joinE_take_le (c : UInt8) (p : List (List UInt8)) (i : Nat) : (joinE c (p.take i)).length ≤ (joinE c p).length := by
 have := congrArg List.length (joinE_app c (p.take i) (p.drop i))
 rw [List.take_append_drop, List.length_append] at this
 omega
theorem joinE_count (c : UInt8) (p : List (List UInt8)) : p.length ≤ (joinE c p).length := by
 induction p with
 | nil => simp
 | cons x p ih => rw [joinE_cons]; simp; omega
theorem fits_any {a b : List UInt8} (h : a.length + b.length ≤ 9223372036854775807) : strFits a b = true := by
 rw [strFits_iff]; omega
theorem rec_free (c : UInt8) (s : List UInt8) : ∀ x ∈ (recF c s).1, c ∉ x := by
 unfold recF
 split
 ·intro x hx; exact parts_free c s x (List.mem_of_mem_take (by rw [List.dropLast_eq_take] at hx; exact hx))
 ·exact parts_free c s
theorem rec_join (c : UInt8) (s : List UInt8) : joinE c (recF c s).1 = if (recF c s).2 = true then s else s ++ [c] := by
 unfold recF
 split
 ·rename_i h
  have hp := joinE_parts c s
  have hd : partsOf c s = (partsOf c s).dropLast ++ [[]] := by
   obtain ⟨x, h1, h2, h3⟩ := last_spec (parts_ne c s)
   rw [h] at h2
   cases h2
   have := List.take_append_drop ((partsOf c s).length - 1) (partsOf c s)
   rw [← List.dropLast_eq_take, List.drop_eq_getElem_cons (by omega)] at this
   rw [List.getElem?_eq_getElem (by omega)] at h1
   rw [Option.some.inj h1, List.drop_eq_nil_of_le (by omega)] at this
   exact this.symm
  rw [hd, joinE_app] at hp
  show joinE c (partsOf c s).dropLast = s
  have e : joinE c [[]] = [c] := rfl
  rw [e] at hp
  exact List.append_cancel_right hp
 ·exact joinE_parts c s
theorem rec_last (c : UInt8) (s : List UInt8) (h : (recF c s).2 = false) : ∃ x, (recF c s).1[(recF c s).1.length - 1]? = some x ∧ x ≠ [] ∧ 1 ≤ (recF c s).1.length := by
 unfold recF at h ⊢
 split at h
 ·cases h
 ·rename_i hn
  rw [if_neg hn]
  obtain ⟨x, h1, h2, h3⟩ := last_spec (parts_ne c s)
  exact ⟨x, h1, fun e => hn (by rw [h2, e]), h3⟩
theorem loopj9 (s : List UInt8) (c : UInt8) (els : List (List AV)) (b : Bool) (t : List UInt8) (i : Nat) (x : List UInt8) (hx : els[i]? = some (strEl x)) (hc : c ∉ x) (hl : x.length ≤ 4294967280) : ∀ (f k : Nat), x.length - k = f → k ≤ x.length →
  Ev (cf m) Tryz.prog 9 (.loop (loopAt Tryz.prog 9 9)) (J9 s c.toNat els b t i k) fun e τ => e = .exit 2 ∧ τ = F9 s c.toNat els b t i := by
 have can : ∀ k : Nat, (J9 s c.toNat els b t i k).tidy [0, 1, 5, 6, 7, 8, 9, 10] 0 = J9 s c.toNat els b t i k := fun k => by kernel_rfl
 have hi : i < els.length := lt_of_get? hx
 have hr : inRange (i : Int) els.length = true := by rw [inRange_iff]; omega
 have hs : cellStr els (i : Int) 0 = x := by
  unfold cellStr cellAt
  rw [Int.toNat_natCast, getI_eq, hx]; rfl
 have hg : getI (i : Int).toNat els = some [AV.sc (Value.string (ByteArray.mk (Array.mk (cellStr els (i : Int) 0))))] := by
  rw [hs, Int.toNat_natCast, getI_eq, hx]; rfl
 intro f
 induction f with
 | zero =>
  intro k hf hk
  refine Ev.round (t := ⟨[0, 1, 5, 6, 7, 8, 9, 10], [0, 1, 4, 5, 6, 7, 8, 9], 0⟩) tab0_ok (by kernel_rfl) rfl (can k) (v9j m s c.toNat els b t i k (fun _ => False) True ?_) (fun τ h => h.2.elim) (fun e τ h => ?_)
  ·rw [hr, iteP_t]
   refine ⟨hg, ?_⟩
   rw [hs, decide_eq_false (by omega), iteP_f]
   exact ⟨rfl, rfl, trivial⟩
  ·unfold qJ9 at h
   split at h
   ·exact ⟨h.1, h.2.1⟩
   ·exact h.elim
 | succ f ih =>
  intro k hf hk
  have hlt : k < x.length := by omega
  have hw : IntKind.i64.wrap ((k : Int) + 1) = ((k + 1 : Nat) : Int) := by rw [wrap_in (by omega) (by omega)]; rfl
  refine Ev.round (t := ⟨[0, 1, 5, 6, 7, 8, 9, 10], [0, 1, 4, 5, 6, 7, 8, 9], 0⟩) tab0_ok (by kernel_rfl) rfl (can k) (v9j m s c.toNat els b t i k (fun j => j = ((k + 1 : Nat) : Int)) False ?_) (fun τ h => ?_) (fun e τ h => ?_)
  ·rw [hr, iteP_t]
   refine ⟨hg, ?_⟩
   rw [hs, decide_eq_true (by omega), iteP_t, iteP_t]
   refine ⟨by rw [← hs]; exact hg, ?_⟩
   have hne : ¬ x[k] = c := fun e => hc (e ▸ List.getElem_mem hlt)
   rw [show inRange (k : Int) x.length = true by rw [inRange_iff]; omega, iteP_t, byteAt_nat hlt, beq_byte, decide_eq_false hne, iteP_f, hw]
   exact ⟨rfl, rfl⟩
  ·obtain ⟨h1, h2⟩ := h
   rw [h2] at h1
   rw [h1]
   exact ih (k + 1) (by omega) (by omega)
  ·unfold qJ9 at h
   split at h
   ·exact h.2.2.elim
   ·exact h.elim
theorem okJ9 : Ok m TJ9 := by
 refine addL_ok tab0_ok fun σ s hs hp => ?_
 cases hs
 obtain ⟨e, j, x, d, h1, h2, h3, h4, h5⟩ := hp
 have he : Ev (cf m) Tryz.prog 9 (.loop (loopAt Tryz.prog 9 9)) σ fun e τ => e = .exit 2 ∧ τ = F9 (slS σ 0) (slI σ 1) (slEls σ 6) (slB σ 7) (slS σ 8) (slI σ 9) := by
  refine Ev.tidied (t := ⟨[0, 1, 5, 6, 7, 8, 9, 10], [0, 1, 4, 5, 6, 7, 8, 9], 0⟩) (τ := J9 (slS σ 0) (slI σ 1) (slEls σ 6) (slB σ 7) (slS σ 8) (slI σ 9) 0) (by kernel_rfl) (by rw [e]; kernel_rfl) ?_
  rw [h1, h2]
  exact loopj9 (slS σ 0) d (slEls σ 6) (slB σ 7) (slS σ 8) j x h3 h4 h5 _ 0 rfl (Nat.zero_le _)
 obtain ⟨n, ex, τ, h6, rfl, rfl⟩ := he
 exact ⟨_, List.mem_singleton.2 rfl, (), trivial, n, h6⟩
theorem loopi9 (s : List UInt8) (c : UInt8) (p : List (List UInt8)) (b : Bool) (hf : ∀ x ∈ p, c ∉ x) (hl : (joinE c p).length ≤ 4294967280) : ∀ (f i : Nat), p.length - i = f → i ≤ p.length →
  Ev (cf m) Tryz.prog 9 (.loop (loopAt Tryz.prog 9 6)) (I9 s c.toNat (p.map strEl) b (joinE c (p.take i)) i) fun e τ => e = .exit 0 ∧ τ = E9 s c.toNat (p.map strEl) b (joinE c p) := by
 have can : ∀ (t : List UInt8) (i : Nat), (I9 s c.toNat (p.map strEl) b t i).tidy [0, 1, 5, 6, 7, 8, 9] 0 = I9 s c.toNat (p.map strEl) b t i := fun t i => by kernel_rfl
 have hcnt := joinE_count c p
 intro f
 induction f with
 | zero =>
  intro i hf hi
  have hi : i = p.length := by omega
  refine Ev.round (t := ⟨[0, 1, 5, 6, 7, 8, 9], [0, 4, 5, 6, 7, 8], 0⟩) okJ9 (by kernel_rfl) rfl (can _ i) (v9i m s c.toNat _ b _ i (fun _ _ => False) (fun t => t = joinE c p) ?_) (fun τ h => h.2.elim) (fun e τ h => ?_)
  ·rw [cells_len, decide_eq_false (by omega), iteP_f]
   exact ⟨rfl, rfl, by rw [hi, List.take_length]⟩
  ·unfold qI9 at h
   split at h
   ·obtain ⟨h1, h2, h3⟩ := h
    rw [h3] at h2
    exact ⟨h1, h2⟩
   ·exact h.elim
 | succ f ih =>
  intro i hf' hi
  have hlt : i < p.length := by omega
  have hx : p[i]? = some p[i] := List.getElem?_eq_getElem _
  have hw : IntKind.i64.wrap ((i : Int) + 1) = ((i + 1 : Nat) : Int) := by rw [wrap_in (by omega) (by omega)]; rfl
  have hsub : p[i].length ≤ (joinE c p).length := joinE_sub (List.getElem_mem hlt)
  have htk := joinE_take_le c p i
  refine Ev.round (t := ⟨[0, 1, 5, 6, 7, 8, 9], [0, 4, 5, 6, 7, 8], 0⟩) okJ9 (by kernel_rfl) rfl (can _ i) (v9i m s c.toNat _ b _ i (fun t j => t = joinE c (p.take (i + 1)) ∧ j = ((i + 1 : Nat) : Int)) (fun _ => False) ?_) (fun τ h => ?_) (fun e τ h => ?_)
  ·rw [cells_len, decide_eq_true (by omega), iteP_t]
   refine ⟨rfl, ⟨rfl, i, p[i], c, rfl, rfl, by rw [List.getElem?_map, hx]; rfl, hf _ (List.getElem_mem hlt), by omega⟩, fun _ _ => ?_⟩
   rw [show inRange (i : Int) p.length = true by rw [inRange_iff]; omega, iteP_t]
   refine ⟨cell_some hx, ?_⟩
   rw [cell_str hx, fits_any (by omega), iteP_t, fits_any (by rw [List.length_append]; simp; omega), iteP_t, u8_nat, hw]
   exact ⟨rfl, (joinE_take c p hlt).symm, rfl⟩
  ·obtain ⟨h1, h2, h3⟩ := h
   rw [h2, h3] at h1
   rw [h1]
   exact ih (i + 1) (by omega) (by omega)
  ·unfold qI9 at h
   split at h
   ·exact h.2.2.elim
   ·exact h.elim
theorem cells_inj {p q : List (List UInt8)} (h : p.map strEl = q.map strEl) : p = q := by
 refine List.map_inj_right (f := strEl) (fun x y e => ?_) |>.1 h
 unfold strEl at e
 simpa using e
theorem ok9L (O : Ok m T) : Ok m (T.addL 9 6 LI9) := by
 refine addL_ok O fun σ s hs hp => ?_
 cases hs
 obtain ⟨e, p, d, h1, h2, h3, h4⟩ := hp
 have he : Ev (cf m) Tryz.prog 9 (.loop (loopAt Tryz.prog 9 6)) σ fun e τ => e = .exit 0 ∧ τ = E9 (slS σ 0) (slI σ 1) (slEls σ 6) (slB σ 7) (joinE d p) := by
  refine Ev.tidied (t := ⟨[0, 1, 5, 6, 7, 8, 9], [0, 4, 5, 6, 7, 8], 0⟩) (τ := I9 (slS σ 0) (slI σ 1) (slEls σ 6) (slB σ 7) [] 0) (by kernel_rfl) (by rw [e]; kernel_rfl) ?_
  rw [h1, h2]
  exact loopi9 (slS σ 0) d p (slB σ 7) h3 h4 _ 0 rfl (Nat.zero_le _)
 obtain ⟨n, ex, τ, h6, rfl, rfl⟩ := he
 refine ⟨_, List.mem_singleton.2 rfl, joinE d p, ⟨fun q c hq hc => ?_⟩, n, h6⟩
 rw [h2] at hq
 rw [h1] at hc
 have : c = d := UInt8.toNat_inj.1 (by omega)
 rw [this, cells_inj hq]
theorem ok9T : Ok m T9 := ok9L (ok20 (ok17 tab0_ok))
theorem law9 (m : Int) (s : List UInt8) (c : UInt8) (hs : s.length ≤ 4294967270) : ∃ n h, evCall (cf m) Tryz.prog n 9 [aStr s, aK .u8 c.toNat] heap0 = some (aBool true, h) := by
 have key := call_okW (ok9T (m := m)) 40 9 [aStr s, aK .u8 c.toNat] heap0 (fun r _ => r = aBool true) (c9 m s c.toNat _ ?_)
 ·obtain ⟨n, r, h', h1, rfl⟩ := key
  exact ⟨n, h', h1⟩
 ·refine ⟨show s.length ≤ 4294967280 by omega, fun q hq => ?_⟩
  have hq : q = recF c s := by
   have := hq.eq
   rw [show byteD [AV.sc (Value.int IntKind.u8 (c.toNat : Int))] = c from u8_nat c] at this
   exact this
  subst hq
  have hjoin := rec_join c s
  have hlen : (joinE c (recF c s).1).length ≤ s.length + 1 := by
   rw [hjoin]; split <;> simp
  have hfree : HasFree ((recF c s).1.map strEl) c.toNat := ⟨_, c, rfl, rfl, rec_free c s, by omega⟩
  have hcnt := joinE_count c (recF c s).1
  cases hb : (recF c s).2 with
  | true =>
   rw [iteP_t]
   refine ⟨rfl, ⟨rfl, hfree⟩, fun t ht => ?_⟩
   rw [ht.is _ _ rfl rfl, hjoin, if_pos hb, decide_eq_true rfl, iteP_t]
   exact ⟨trivial, fun _ _ => rfl⟩
  | false =>
   rw [iteP_f]
   refine ⟨rfl, ⟨rfl, hfree⟩, fun t ht => ?_⟩
   obtain ⟨x, h1, h2, h3⟩ := rec_last c s hb
   have hw : IntKind.i64.wrap (((recF c s).1.length : Int) - 1) = (((recF c s).1.length - 1 : Nat) : Int) := by rw [wrap_in (by omega) (by omega)]; omega
   rw [cells_len, decide_eq_true (by omega), iteP_t, hw, show inRange (((recF c s).1.length - 1 : Nat) : Int) (recF c s).1.length = true by rw [inRange_iff]; omega, iteP_t]
   refine ⟨cell_some h1, ?_⟩
   have hx : 0 < x.length := List.length_pos_iff.2 h2
   rw [cell_str h1, decide_eq_true (by omega), iteP_t, fits_any (by simp; omega), iteP_t, ht.is _ _ rfl rfl, hjoin, u8_nat, if_neg (by rw [hb]; decide), decide_eq_true rfl, iteP_t]
   exact ⟨trivial, fun _ _ => rfl⟩
end
end Go.Proofs.Rc
