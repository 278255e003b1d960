/- Printf: the law in every world, and its card. -/
import Derived.Test.YtfgocjmkefeeeaaDoorPrJ
import Derived.Test.YtfgocjmkefeeeaaDoorPrC
import Derived.Test.YtfgocjmkefeeeaaDoorEfP
import Derived.Test.YtfgocjmkefeeeaaDoorCards
import Derived.Test.YtfgocjmkefeeeaaDoorTie
import Derived.WalkKit
import Derived.ProofKit
import Derived.Handy
import Derived.Lay
import Derived.SevenTiedAt
/- Printf: the law on widths: tables. -/
namespace Go.Proofs.Pr
open Go Go.Ef
noncomputable section
def C11 (args : List AV) (h : Heap) : Option CSpec :=
  match args with
  | [.sc (.int .i64 n)] => some (nspec (0 ≤ n ∧ n ≤ 255) (fmtN 10 n.toNat) (fun x => aStr x) h)
  | _ => none
def I13 (n : Int) (s : List UInt8) (i : Int) : St := stOf 13 [(0, sInt n), (3, sStr s), (4, sInt i)] [] heapF
def E13 (s : List UInt8) : St := stOf 13 [(3, sStr s)] [] heapF
def L13 (σ : St) : Option LSpec :=
  match σ.at 0, σ.at 3, σ.at 4 with
  | .v (.sc (.int .i64 n)), .v (.sc (.string s)), .v (.sc (.int .i64 i)) => some (lspec (σ.tidy [0, 3, 4] 0 = I13 n s.data.toList i ∧ s.data.toList.isEmpty = true ∧ i = 0 ∧ n ≤ 1000) (List UInt8) (fun x => x = List.replicate n.toNat 32) (.exit 0) (fun x => E13 x))
  | _, _, _ => none
def C13 (args : List AV) (h : Heap) : Option CSpec :=
  match args with
  | [.sc (.int .i64 n)] => some (nspec (n ≤ 1000) (List.replicate n.toNat 32 : List UInt8) (fun x => aStr x) h)
  | _ => none
def W1 : Tab := tab0.addL 13 4 L13
def W2 : Tab := (((tab0.addC 10 C10).addC 11 C11).addC 12 C12g).addC 13 C13
end
end Go.Proofs.Pr

/- Printf: conditions of the law on widths, printed by a program from the evaluation. -/
namespace Go.Proofs.Pr
open Go Go.Ef
noncomputable section
set_option maxRecDepth 100000

theorem v13 (n : Int) (s : List UInt8) (i : Int) (N : List UInt8 → Int → Prop) (X : Ex → List UInt8 → Prop) (h :
 iteP (decide (i < n))
 (iteP (strFits s [(32 : UInt8)])
 (I13 n (s ++ [(32 : UInt8)]) (IntKind.i64.wrap (i + (1 : Int))) =
 I13 n (s ++ [(32 : UInt8)]) (IntKind.i64.wrap (i + (1 : Int))) ∧
 N (s ++ [(32 : UInt8)]) (IntKind.i64.wrap (i + (1 : Int))))
 False)
 (E13 s = E13 s ∧ X (Ex.exit (0 : Nat)) s)) :
 (fun (n : Int) (s : List UInt8) (i : Int) (N : List UInt8 → Int → Prop) (X : Ex → List UInt8 → Prop) => wpRound tab0 Door.cfg Tryd.prog 40 13 4 (I13 n s i) (fun τ => τ = I13 n (slS τ 3) (slI τ 4) ∧ N (slS τ 3) (slI τ 4)) (fun e τ => τ = E13 (slS τ 3) ∧ X e (slS τ 3))) n s i N X :=
 Eq.mp (by kernel_rfl) h

theorem c13 (n : Int) (K : AV → Prop) (h :
 loopAt Tryd.prog (13 : Nat) (4 : Nat) = loopAt Tryd.prog (13 : Nat) (4 : Nat) ∧
 (I13 n [] (0 : Int) = I13 n [] (0 : Int) ∧ true = true ∧ (0 : Int) = (0 : Int) ∧ n ≤ (1000 : Int)) ∧
 ∀ (x : List UInt8), x = List.replicate n.toNat (32 : UInt8) → K (AV.sc (Value.string (ByteArray.mk (Array.mk x))))) :
 (fun (n : Int) (K : AV → Prop) => wpCall W1 Door.cfg Tryd.prog 40 13 [aK .i64 n] heapF fun r h' => wpBack h' r K) n K :=
 Eq.mp (by kernel_rfl) h

theorem c4 (s : List UInt8) (w : Int) (p : Int) (K : AV → Prop) (h :
 iteP (decide ((60 : Int) < (↑s.length : Int)))
 (True ∧ ∀ (x : Bool), x = true → iteP x (K (AV.sc (Value.bool true))) (K (AV.sc (Value.bool false))))
 (((0 : Int) ≤ IntKind.i64.wrap w ∧ IntKind.i64.wrap w ≤ (255 : Int)) ∧
 ∀ (x : List UInt8),
 x = fmtN (10 : Nat) (IntKind.i64.wrap w).toNat →
 ((0 : Int) ≤ IntKind.i64.wrap p ∧ IntKind.i64.wrap p ≤ (255 : Int)) ∧
 ∀ (x_1 : List UInt8),
 x_1 = fmtN (10 : Nat) (IntKind.i64.wrap p).toNat →
 iteP (w == (0 : Int))
 (iteP
 (decide ((0 : Int) ≤ min (↑s.length : Int) (IntKind.i64.wrap p)) &&
 decide (min (↑s.length : Int) (IntKind.i64.wrap p) ≤ (↑s.length : Int)))
 (iteP (strFits [(37 : UInt8)] [])
 (iteP (strFits ([(37 : UInt8)] ++ []) [(115 : UInt8)])
 (RunOk ([(37 : UInt8)] ++ [] ++ [(115 : UInt8)])
 [[AV.sc (Value.int IntKind.i64 (2 : Int)), AV.sc (Value.int IntKind.i64 (0 : Int)),
 AV.sc (Value.string (ByteArray.mk (Array.mk s)))]] ∧
 ∀ (x : List UInt8 × Int),
 x =
 sprintfF ([(37 : UInt8)] ++ [] ++ [(115 : UInt8)])
 [[AV.sc (Value.int IntKind.i64 (2 : Int)), AV.sc (Value.int IntKind.i64 (0 : Int)),
 AV.sc (Value.string (ByteArray.mk (Array.mk s)))]] →
 iteP (strFits [(37 : UInt8), (45 : UInt8)] [])
 (iteP (strFits ([(37 : UInt8), (45 : UInt8)] ++ []) [(115 : UInt8)])
 (RunOk ([(37 : UInt8), (45 : UInt8)] ++ [] ++ [(115 : UInt8)])
 [[AV.sc (Value.int IntKind.i64 (2 : Int)), AV.sc (Value.int IntKind.i64 (0 : Int)),
 AV.sc (Value.string (ByteArray.mk (Array.mk s)))]] ∧
 ∀ (x_2 : List UInt8 × Int),
 x_2 =
 sprintfF ([(37 : UInt8), (45 : UInt8)] ++ [] ++ [(115 : UInt8)])
 [[AV.sc (Value.int IntKind.i64 (2 : Int)),
 AV.sc (Value.int IntKind.i64 (0 : Int)),
 AV.sc (Value.string (ByteArray.mk (Array.mk s)))]] →
 iteP (strFits [(37 : UInt8)] [])
 (iteP (strFits ([(37 : UInt8)] ++ []) [(46 : UInt8)])
 (iteP (strFits ([(37 : UInt8)] ++ [] ++ [(46 : UInt8)]) x_1)
 (iteP
 (strFits ([(37 : UInt8)] ++ [] ++ [(46 : UInt8)] ++ x_1) [(115 : UInt8)])
 (RunOk ([(37 : UInt8)] ++ [] ++ [(46 : UInt8)] ++ x_1 ++ [(115 : UInt8)])
 [[AV.sc (Value.int IntKind.i64 (2 : Int)),
 AV.sc (Value.int IntKind.i64 (0 : Int)),
 AV.sc (Value.string (ByteArray.mk (Array.mk s)))]] ∧
 ∀ (x_3 : List UInt8 × Int),
 x_3 =
 sprintfF
 ([(37 : UInt8)] ++ [] ++ [(46 : UInt8)] ++ x_1 ++
 [(115 : UInt8)])
 [[AV.sc (Value.int IntKind.i64 (2 : Int)),
 AV.sc (Value.int IntKind.i64 (0 : Int)),
 AV.sc (Value.string (ByteArray.mk (Array.mk s)))]] →
 iteP (x.snd != (0 : Int)) (K (AV.sc (Value.bool false)))
 (iteP (x_2.snd != (0 : Int)) (K (AV.sc (Value.bool false)))
 (iteP (x_3.snd != (0 : Int)) (K (AV.sc (Value.bool false)))
 (((1000 : Int) -
 IntKind.i64.wrap
 (IntKind.i64.wrap w - (↑s.length : Int))).NonNeg ∧
 ∀ (x_4 : List UInt8),
 x_4 =
 List.replicate
 (IntKind.i64.wrap
 (IntKind.i64.wrap w - (↑s.length : Int))).toNat
 (32 : UInt8) →
 iteP (strFits x_4 s)
 (iteP (decide (x.fst = x_4 ++ s))
 (iteP (strFits s x_4)
 (iteP (decide (x_2.fst = s ++ x_4))
 (((1000 : Int) -
 IntKind.i64.wrap
 (IntKind.i64.wrap w -
 (↑(List.take
 (min (↑s.length : Int)
 (IntKind.i64.wrap
 p)).toNat
 s).length :
 Int))).NonNeg ∧
 ∀ (x : List UInt8),
 x =
 List.replicate
 (IntKind.i64.wrap
 (IntKind.i64.wrap w -
 (↑(List.take
 (min (↑s.length : Int)
 (IntKind.i64.wrap
 p)).toNat
 s).length :
 Int))).toNat
 (32 : UInt8) →
 iteP
 (strFits x
 (List.take
 (min (↑s.length : Int)
 (IntKind.i64.wrap p)).toNat
 s))
 (iteP
 (decide
 (x_3.fst =
 x ++
 List.take
 (min (↑s.length : Int)
 (IntKind.i64.wrap
 p)).toNat
 s))
 (True ∧
 ∀ (x : Bool),
 x = true →
 iteP x
 (K (AV.sc (Value.bool true)))
 (K
 (AV.sc (Value.bool false))))
 (K (AV.sc (Value.bool false))))
 False)
 (K (AV.sc (Value.bool false))))
 False)
 (K (AV.sc (Value.bool false))))
 False))))
 False)
 False)
 False)
 False)
 False)
 False)
 False)
 False)
 False)
 (iteP
 (decide ((0 : Int) ≤ min (↑s.length : Int) (IntKind.i64.wrap p)) &&
 decide (min (↑s.length : Int) (IntKind.i64.wrap p) ≤ (↑s.length : Int)))
 (iteP (strFits [(37 : UInt8)] x)
 (iteP (strFits ([(37 : UInt8)] ++ x) [(115 : UInt8)])
 (RunOk ([(37 : UInt8)] ++ x ++ [(115 : UInt8)])
 [[AV.sc (Value.int IntKind.i64 (2 : Int)), AV.sc (Value.int IntKind.i64 (0 : Int)),
 AV.sc (Value.string (ByteArray.mk (Array.mk s)))]] ∧
 ∀ (x_2 : List UInt8 × Int),
 x_2 =
 sprintfF ([(37 : UInt8)] ++ x ++ [(115 : UInt8)])
 [[AV.sc (Value.int IntKind.i64 (2 : Int)), AV.sc (Value.int IntKind.i64 (0 : Int)),
 AV.sc (Value.string (ByteArray.mk (Array.mk s)))]] →
 iteP (strFits [(37 : UInt8), (45 : UInt8)] x)
 (iteP (strFits ([(37 : UInt8), (45 : UInt8)] ++ x) [(115 : UInt8)])
 (RunOk ([(37 : UInt8), (45 : UInt8)] ++ x ++ [(115 : UInt8)])
 [[AV.sc (Value.int IntKind.i64 (2 : Int)), AV.sc (Value.int IntKind.i64 (0 : Int)),
 AV.sc (Value.string (ByteArray.mk (Array.mk s)))]] ∧
 ∀ (x_3 : List UInt8 × Int),
 x_3 =
 sprintfF ([(37 : UInt8), (45 : UInt8)] ++ x ++ [(115 : UInt8)])
 [[AV.sc (Value.int IntKind.i64 (2 : Int)),
 AV.sc (Value.int IntKind.i64 (0 : Int)),
 AV.sc (Value.string (ByteArray.mk (Array.mk s)))]] →
 iteP (strFits [(37 : UInt8)] x)
 (iteP (strFits ([(37 : UInt8)] ++ x) [(46 : UInt8)])
 (iteP (strFits ([(37 : UInt8)] ++ x ++ [(46 : UInt8)]) x_1)
 (iteP
 (strFits ([(37 : UInt8)] ++ x ++ [(46 : UInt8)] ++ x_1) [(115 : UInt8)])
 (RunOk ([(37 : UInt8)] ++ x ++ [(46 : UInt8)] ++ x_1 ++ [(115 : UInt8)])
 [[AV.sc (Value.int IntKind.i64 (2 : Int)),
 AV.sc (Value.int IntKind.i64 (0 : Int)),
 AV.sc (Value.string (ByteArray.mk (Array.mk s)))]] ∧
 ∀ (x_4 : List UInt8 × Int),
 x_4 =
 sprintfF
 ([(37 : UInt8)] ++ x ++ [(46 : UInt8)] ++ x_1 ++
 [(115 : UInt8)])
 [[AV.sc (Value.int IntKind.i64 (2 : Int)),
 AV.sc (Value.int IntKind.i64 (0 : Int)),
 AV.sc (Value.string (ByteArray.mk (Array.mk s)))]] →
 iteP (x_2.snd != (0 : Int)) (K (AV.sc (Value.bool false)))
 (iteP (x_3.snd != (0 : Int)) (K (AV.sc (Value.bool false)))
 (iteP (x_4.snd != (0 : Int)) (K (AV.sc (Value.bool false)))
 (((1000 : Int) -
 IntKind.i64.wrap
 (IntKind.i64.wrap w - (↑s.length : Int))).NonNeg ∧
 ∀ (x : List UInt8),
 x =
 List.replicate
 (IntKind.i64.wrap
 (IntKind.i64.wrap w - (↑s.length : Int))).toNat
 (32 : UInt8) →
 iteP (strFits x s)
 (iteP (decide (x_2.fst = x ++ s))
 (iteP (strFits s x)
 (iteP (decide (x_3.fst = s ++ x))
 (((1000 : Int) -
 IntKind.i64.wrap
 (IntKind.i64.wrap w -
 (↑(List.take
 (min (↑s.length : Int)
 (IntKind.i64.wrap
 p)).toNat
 s).length :
 Int))).NonNeg ∧
 ∀ (x : List UInt8),
 x =
 List.replicate
 (IntKind.i64.wrap
 (IntKind.i64.wrap w -
 (↑(List.take
 (min (↑s.length : Int)
 (IntKind.i64.wrap
 p)).toNat
 s).length :
 Int))).toNat
 (32 : UInt8) →
 iteP
 (strFits x
 (List.take
 (min (↑s.length : Int)
 (IntKind.i64.wrap p)).toNat
 s))
 (iteP
 (decide
 (x_4.fst =
 x ++
 List.take
 (min (↑s.length : Int)
 (IntKind.i64.wrap
 p)).toNat
 s))
 (True ∧
 ∀ (x : Bool),
 x = true →
 iteP x
 (K (AV.sc (Value.bool true)))
 (K
 (AV.sc (Value.bool false))))
 (K (AV.sc (Value.bool false))))
 False)
 (K (AV.sc (Value.bool false))))
 False)
 (K (AV.sc (Value.bool false))))
 False))))
 False)
 False)
 False)
 False)
 False)
 False)
 False)
 False)
 False))) :
 (fun (s : List UInt8) (w p : Int) (K : AV → Prop) => wpCall W2 Door.cfg Tryd.prog 40 4 [aStr s, aK .u8 w, aK .u8 p] heap0 fun r _ => K r) s w p K :=
 Eq.mp (by kernel_rfl) h

end
end Go.Proofs.Pr

/- Printf: formats of one directive. -/
namespace Go.Proofs.Pr
open Go Go.Ef
noncomputable section
set_option maxRecDepth 100000

def numV (a : List UInt8) (n : Int) : Int := a.foldl (fun n c => min (10 * max n 0 + ((c.toNat : Int) - 48)) 256) n
theorem numL_append (a r : List UInt8) (ha : a.all isDig = true) : ∀ n : Int, numL (a ++ r) n = numL r (numV a n) := by
  induction a with
  | nil => intro n; rfl
  | cons c a ih =>
    intro n
    rw [List.all_cons, Bool.and_eq_true, isDig_iff] at ha
    show (if 48 ≤ (c.toNat : Int) ∧ (c.toNat : Int) ≤ 57 then numL (a ++ r) (min (10 * max n 0 + ((c.toNat : Int) - 48)) 256) else (n, c :: (a ++ r))) = _
    rw [if_pos ha.1, ih ha.2]
    rfl
/- a number as it is read back -/
structure IsNum (a : List UInt8) (n : Int) : Prop where
  dig : a.all isDig = true
  val : numV a (-1) = n
  ne : a.isEmpty = false
def headGood (a : List UInt8) : Bool :=
  match a with
  | [] => false
  | c :: _ => !isFlag c && c != 42
def numOk (n : Nat) : Bool := (fmtN 10 n).all isDig && decide (numV (fmtN 10 n) (-1) = n) && !(fmtN 10 n).isEmpty && decide ((fmtN 10 n).length ≤ 3) && (Nat.beq n 0 || headGood (fmtN 10 n))
theorem nums_ok : (List.range 256).all numOk = true := by decide +kernel
theorem num_ok {n : Nat} (h : n < 256) : IsNum (fmtN 10 n) n ∧ (fmtN 10 n).length ≤ 3 ∧ (1 ≤ n → headGood (fmtN 10 n) = true) := by
  have := List.all_eq_true.1 nums_ok n (by simp [h])
  unfold numOk at this
  simp only [Bool.and_eq_true, decide_eq_true_eq, Bool.not_eq_true', Bool.or_eq_true] at this
  obtain ⟨⟨⟨⟨h1, h2⟩, h3⟩, h4⟩, h5⟩ := this
  refine ⟨⟨h1, h2, h3⟩, h4, fun hn => ?_⟩
  rcases h5 with h5 | h5
  · have := Nat.eq_of_beq_eq_true h5; omega
  · exact h5
theorem numF_dig {a r : List UInt8} {n : Int} (h : IsNum a n) : numF (a ++ r) = numL r n := by
  cases a with
  | nil => have := h.ne; cases this
  | cons c a =>
    have hd := h.dig
    rw [List.all_cons, Bool.and_eq_true, isDig_iff] at hd
    have hc : c ≠ 42 := by rintro rfl; have := hd.1.1; revert this; decide
    have he : numF (c :: a ++ r) = if c = 42 then (-2, a ++ r) else numL (c :: a ++ r) (-1) := rfl
    rw [he, if_neg hc, numL_append _ _ h.dig, h.val]
theorem numL_stop (c : UInt8) (r : List UInt8) (n : Int) (h : isDig c = false) : numL (c :: r) n = (n, c :: r) := by
  have : ¬ (48 ≤ (c.toNat : Int) ∧ (c.toNat : Int) ≤ 57) := by
    intro h'
    rw [← isDig_iff] at h'
    rw [h'] at h; cases h
  exact if_neg this
theorem flags_stop (c : UInt8) (r : List UInt8) (d : Dir) (h : isFlag c = false) : flagsF (c :: r) d = (d, c :: r) := by
  have he : flagsF (c :: r) d = if isFlag c then flagsF r (setFlag d c) else (d, c :: r) := rfl
  rw [he, h]; rfl

/- what may follow the flags: a width or none -/
inductive Wd : List UInt8 → Int → Prop
  | no : Wd [] (-1)
  | num {a : List UInt8} {n : Int} : IsNum a n → headGood a = true → 0 ≤ n → n ≤ 255 → Wd a n
inductive Pc : List UInt8 → Int → Prop
  | no : Pc [115] (-1)
  | num {a : List UInt8} {n : Int} : IsNum a n → 0 ≤ n → n ≤ 255 → Pc (46 :: (a ++ [115])) n

theorem endF_s (d : Dir) (w p : Int) (h1 : w ≤ 255) (h2 : p ≤ 255) : endF d w p [115] = ({ d with width := w, prec := p, kind := 115 }, [], 0) := by
  have he : endF d w p [115] = if kinds.contains 115 then (if w > 255 ∨ p > 255 then (Dir.none, [], 2) else ({ d with width := w, prec := p, kind := 115 }, [], 0)) else (Dir.none, [], 1) := rfl
  rw [he, if_pos (by decide), if_neg (by omega)]
theorem pc_read {q : List UInt8} {p : Int} (h : Pc q p) (d : Dir) (w : Int) (hw : w ≤ 255) : endF d w (precF q).1 (precF q).2 = ({ d with width := w, prec := p, kind := 115 }, [], 0) := by
  cases h with
  | no => exact endF_s d w (-1) hw (by decide)
  | num hn h0 h1 =>
    rename_i a
    have e1 : numF (a ++ [115]) = (p, [115]) := by rw [numF_dig hn]; exact numL_stop 115 [] p (by decide)
    have e2 : precF (46 :: (a ++ [115])) = (p, [115]) := by
      show ((if (numF (a ++ [115])).1 = -1 then 0 else (numF (a ++ [115])).1), (numF (a ++ [115])).2) = _
      rw [e1]
      show ((if p = -1 then 0 else p), [115]) = _
      rw [if_neg (by omega)]
    rw [e2]
    exact endF_s d w p hw h1
theorem pc_head {q : List UInt8} {p : Int} (h : Pc q p) : ∃ c r, q = c :: r ∧ isDig c = false ∧ isFlag c = false ∧ c ≠ 42 := by
  cases h with
  | no => exact ⟨115, [], rfl, by decide, by decide, by decide⟩
  | num => exact ⟨46, _, rfl, by decide, by decide, by decide⟩
theorem wd_read {a q : List UInt8} {w p : Int} (ha : Wd a w) (hq : Pc q p) : numF (a ++ q) = (w, q) ∧ w ≤ 255 ∧ ∀ d, flagsF (a ++ q) d = (d, a ++ q) := by
  obtain ⟨c, r, rfl, h1, h2, h3⟩ := pc_head hq
  cases ha with
  | no =>
    refine ⟨?_, by omega, fun d => flags_stop c r d h2⟩
    have he : numF (c :: r) = if c = 42 then (-2, r) else numL (c :: r) (-1) := rfl
    show numF (c :: r) = _
    rw [he, if_neg h3, numL_stop c r _ h1]
  | num hn hg h0 h255 =>
    refine ⟨by rw [numF_dig hn, numL_stop c r _ h1], h255, fun d => ?_⟩
    cases a with
    | nil => cases hg
    | cons x a =>
      have : isFlag x = false := by
        unfold headGood at hg
        simp only [Bool.and_eq_true, Bool.not_eq_true'] at hg
        exact hg.1
      exact flags_stop x (a ++ c :: r) d this
theorem read_form {a q : List UInt8} {w p : Int} (ha : Wd a w) (hq : Pc q p) : readF (a ++ q) = (⟨false, false, false, false, w, p, 115⟩, [], 0) ∧ readF (45 :: (a ++ q)) = (⟨true, false, false, false, w, p, 115⟩, [], 0) := by
  obtain ⟨h1, h2, h3⟩ := wd_read ha hq
  refine ⟨?_, ?_⟩
  · unfold readF
    rw [h3]
    show endF _ (numF (a ++ q)).1 (precF (numF (a ++ q)).2).1 (precF (numF (a ++ q)).2).2 = _
    rw [h1]
    exact pc_read hq _ _ h2
  · unfold readF
    have e : flagsF (45 :: (a ++ q)) { Dir.none with prec := -1 } = flagsF (a ++ q) (setFlag { Dir.none with prec := -1 } 45) := rfl
    rw [e, h3]
    show endF _ (numF (a ++ q)).1 (precF (numF (a ++ q)).2).1 (precF (numF (a ++ q)).2).2 = _
    rw [h1]
    exact pc_read hq _ _ h2

theorem runF_succ (n : Nat) (s : List UInt8) (l : Cells) (o : List UInt8) : runF (n + 1) s l o = if hasPct s then (if (resAt s l).2.1 = 0 then (if (resAt s l).1.kind = 37 then runF n (restAt s) (resAt s l).2.2 (o ++ before s ++ padF (resAt s l).1 [] [37]) else runF n (restAt s) ((resAt s l).2.2.drop 1) (o ++ before s ++ padF (resAt s l).1 (bodyAt (resAt s l)).1 (bodyAt (resAt s l)).2)) else ((resAt s l).2.1, (resAt s l).2.2, o ++ before s)) else (0, l, o ++ s) := rfl
/- one directive, one argument -/
theorem one_dir {t s : List UInt8} {d : Dir} {k n : Int} (hr : readF t = (d, [], 0)) (hk : d.kind = 115) (hkk : k = 2) (hw : -1 ≤ d.width) (hp : -1 ≤ d.prec) (hl : t.length ≤ 1000) (hs : s.length ≤ 1000) :
    RunOk (37 :: t) [[aK .i64 k, aK .i64 n, aStr s]] ∧ sprintfF (37 :: t) [[aK .i64 k, aK .i64 n, aStr s]] = (padF d [] (if d.prec = -1 then s else s.take d.prec.toNat), 0) := by
  subst hkk
  have q1 : hasPct (37 :: t) = true := by simp [hasPct]
  have q2 : before (37 :: t) = [] := rfl
  have q3 : after (37 :: t) = t := rfl
  have hle := readF_le (s := t) (by rw [hr])
  rw [hr] at hle
  obtain ⟨_, e2, _, e4, _, _⟩ := hle
  replace e2 : d.width ≤ 255 := e2
  replace e4 : d.prec ≤ 255 := e4
  have q4 : resAt (37 :: t) [[aK .i64 2, aK .i64 n, aStr s]] = (d, 0, [[aK .i64 2, aK .i64 n, aStr s]]) := by
    show resolveF (readF (after (37 :: t))).1 _ = _
    rw [q3, hr]
    have hn : ¬ ([[aK .i64 2, aK .i64 n, aStr s]] : Cells).length < needF d := by
      unfold needF
      rw [if_neg (by omega), if_neg (by omega)]
      show ¬ 1 < _
      split <;> omega
    rw [res_ge hn, resW_no (by omega), resP_no (x := (d, [[aK .i64 2, aK .i64 n, aStr s]])) (by show ¬ d.prec = -2; omega), resE_no (x := (d, [[aK .i64 2, aK .i64 n, aStr s]])) (by show ¬ (d.width > 255 ∨ d.prec > 255); omega)]
  have q5 : bodyAt (d, 0, [[aK .i64 2, aK .i64 n, aStr s]]) = ([], if d.prec = -1 then s else s.take d.prec.toNat) := by
    show bodyF d 2 n s = _
    unfold bodyF
    rw [if_neg (by omega), if_pos hk]
    rfl
  have q6 : restAt (37 :: t) = [] := by
    show (readF (after (37 :: t))).2.1 = []
    rw [q3, hr]
  have hc : checkF ((37 :: t).length + 1) (37 :: t) = 0 := by
    show (if hasPct (37 :: t) then (if (readF (after (37 :: t))).2.2 = 0 then checkF _ (readF (after (37 :: t))).2.1 else (readF (after (37 :: t))).2.2) else 0) = 0
    rw [q1, if_pos rfl, q3, hr]
    rw [if_pos rfl]
    exact check_plain rfl _
  have hkn : d.kind ≠ 37 := by omega
  have hbl : (if d.prec = -1 then s else s.take d.prec.toNat).length ≤ s.length := by
    split
    · exact Nat.le_refl _
    · rw [List.length_take]; omega
  have hrun : runOk ((37 :: t).length + 1) (37 :: t) [[aK .i64 2, aK .i64 n, aStr s]] := by
    intro _
    rw [q3, hr, q4, q6]
    refine ⟨rfl, fun _ => ⟨fun h => absurd h hkn, fun _ => ?_⟩⟩
    rw [q5]
    refine ⟨?_, by simp, by show (if d.prec = -1 then s else s.take d.prec.toNat).length ≤ 1000; omega, fun h => by cases h⟩
    show bodyOk d 2 = true
    unfold bodyOk
    simp only [Bool.and_eq_true, beq_iff_eq, bne_iff_ne, ne_eq, decide_eq_true_eq]
    exact ⟨⟨hk, by decide⟩, hp⟩
  have hg : goodsB [[aK .i64 2, aK .i64 n, aStr s]] = true := by
    show (decide (s.length ≤ 1000000) && true) = true
    rw [decide_eq_true (by omega)]; rfl
  refine ⟨⟨by show t.length + 1 ≤ 10000; omega, hg, fun _ => hrun⟩, ?_⟩
  have hrs : runS (37 :: t) [[aK .i64 2, aK .i64 n, aStr s]] = (0, [], padF d [] (if d.prec = -1 then s else s.take d.prec.toNat)) := by
    show runF ((37 :: t).length + 1) (37 :: t) [[aK .i64 2, aK .i64 n, aStr s]] [] = _
    rw [runF_succ, q1, if_pos rfl, q4, if_pos rfl, if_neg hkn, q5, q6, q2, show (37 :: t).length = t.length + 1 from rfl, runF_succ, if_neg (by decide)]
    simp
  have hpl := pad_le d [] (if d.prec = -1 then s else s.take d.prec.toNat) e2
  unfold sprintfF
  rw [if_neg (by simpa using hc), hrs, if_neg (by simp), if_neg (by
    show ¬ (padF d [] (if d.prec = -1 then s else s.take d.prec.toNat)).length > 16384
    simp only [List.length_nil] at hpl
    omega)]
end
end Go.Proofs.Pr

/- Printf: the law on widths. -/
namespace Go.Proofs.Pr
open Go Go.Ef
noncomputable section
set_option maxRecDepth 100000

theorem fits_sm {a b : List UInt8} (h1 : a.length ≤ 2000) (h2 : b.length ≤ 2000) : strFits a b = true := by
  rw [strFits_iff]; omega
def is11 (r : Nat) : Bool :=
  match evCall Door.cfg Tryd.prog 200 11 [aK .i64 r] heapF with
  | some (.sc (.string s), _) => s.data.toList == fmtN 10 r
  | _ => false
theorem all11 : (List.range 256).all is11 = true := by decide +kernel
theorem is11_ok {r : Nat} (hr : r < 256) : ∃ h', evCall Door.cfg Tryd.prog 200 11 [aK .i64 r] heapF = some (aStr (fmtN 10 r), h') := by
  have h := List.all_eq_true.1 all11 r (by simp [hr])
  unfold is11 at h
  split at h
  · rename_i s h' he
    obtain ⟨⟨l⟩⟩ := s
    have : l = fmtN 10 r := by simpa using h
    exact ⟨h', by rw [he, this]; rfl⟩
  · cases h
theorem ok11 {T : Tab} (O : TabOk Tryd.prog Door.cfg T) : TabOk Tryd.prog Door.cfg (T.addC 11 C11) := by
  refine addC_ok O fun args h s hs hp => ?_
  unfold C11 at hs
  split at hs
  · rename_i n
    refine nspec_ok (Option.some.inj hs) (fun hpre => ?_) hp
    obtain ⟨h1, h2⟩ := hpre
    obtain ⟨m, rfl⟩ := Int.eq_ofNat_of_zero_le h1
    obtain ⟨h', he⟩ := is11_ok (r := m) (by omega)
    exact EvP.fresh (by kernel_rfl) (by kernel_rfl) (args' := [aK .i64 m]) rfl ⟨200, _, h', he, rfl, rfl⟩
  · cases hs

theorem can13 (n : Int) (s : List UInt8) (i : Int) : (I13 n s i).tidy [0, 3, 4] 0 = I13 n s i := by kernel_rfl
theorem loop13 (n : Int) (hn : n ≤ 1000) : Ev Door.cfg Tryd.prog 13 (.loop (loopAt Tryd.prog 13 4)) (I13 n [] 0) fun e τ => τ = E13 (slS τ 3) ∧ e = .exit 0 ∧ slS τ 3 = List.replicate n.toNat 32 := by
  refine loop_rd (C := Door.cfg) (P := Tryd.prog) tab0_ok (f := 13) (i := 4) (n := 40) (fun x : List UInt8 × Int => I13 n x.1 x.2) (fun τ => (slS τ 3, slI τ 4)) (fun x => 0 ≤ x.2 ∧ x.2 ≤ max n 0 ∧ x.1 = List.replicate x.2.toNat 32) (fun x => (n - x.2).toNat) (by kernel_rfl)
    (fun x t ht => ?_) (fun x hx => ?_) ([], 0) ⟨Int.le_refl _, by omega, rfl⟩
  · replace ht : Door.tidy 13 4 = some t := ht
    cases ht
    exact can13 n x.1 x.2
  · obtain ⟨s, i⟩ := x
    obtain ⟨q1, q2, q3⟩ := hx
    replace q1 : 0 ≤ i := q1
    replace q2 : i ≤ max n 0 := q2
    replace q3 : s = List.replicate i.toNat 32 := q3
    refine v13 n s i (fun t j => (0 ≤ j ∧ j ≤ max n 0 ∧ t = List.replicate j.toNat 32) ∧ (n - j).toNat < (n - i).toNat) (fun e t => e = .exit 0 ∧ t = List.replicate n.toNat 32) ?_
    have hl : s.length = i.toNat := by rw [q3, List.length_replicate]
    by_cases h : i < n
    · rw [decide_eq_true h, iteP_t, fits_sm (by omega) (by decide), iteP_t, wrap_in (by omega) (by omega)]
      refine ⟨rfl, ⟨by omega, by omega, ?_⟩, by omega⟩
      rw [q3, toNat_succ q1, List.replicate_succ']
    · rw [decide_eq_false h, iteP_f]
      refine ⟨rfl, rfl, ?_⟩
      rw [q3]
      congr 1
      omega
theorem okW1 : TabOk Tryd.prog Door.cfg W1 := by
  refine addL_ok tab0_ok fun σ s hs hp => ?_
  unfold L13 at hs
  split at hs
  · rename_i n s0 i _ _ _
    refine lspec_ok (Option.some.inj hs) (fun hpre => ?_) hp
    obtain ⟨e, h1, h2, h3⟩ := hpre
    have h1' : s0.data.toList = [] := by simpa using h1
    refine Ev.tidied (t := ⟨[0, 3, 4], [3], 0⟩) (τ := I13 n [] 0) (by kernel_rfl) (by rw [e, h1', h2]; exact (can13 _ _ _).symm) ?_
    exact (loop13 n h3).mono fun ex τ h => ⟨slS τ 3, h.2.2, h.2.1, h.1⟩
  · cases hs
theorem ok13 {T : Tab} (O : TabOk Tryd.prog Door.cfg T) : TabOk Tryd.prog Door.cfg (T.addC 13 C13) := by
  refine addC_ok O fun args h s hs hp => ?_
  unfold C13 at hs
  split at hs
  · rename_i n
    refine nspec_ok (Option.some.inj hs) (fun hpre => ?_) hp
    exact EvP.freshV okW1 (n := 40) (by kernel_rfl) (by kernel_rfl) (args' := [aK .i64 n]) rfl (c13 n _ ⟨rfl, ⟨rfl, rfl, rfl, hpre⟩, fun x hx => by subst hx; rfl⟩)
  · cases hs
theorem okW2 : TabOk Tryd.prog Door.cfg W2 := ok13 (ok12g (ok11 (copy_ok tab0_ok okR6 (g := 10) (t := C10) rfl)) okY2s)

abbrev argS (s : List UInt8) : Cells := [[AV.sc (.int .i64 2), AV.sc (.int .i64 0), AV.sc (.string ⟨⟨s⟩⟩)]]
def blk (n : Int) : List UInt8 := List.replicate n.toNat 32
/- the three formats -/
theorem three {s W q : List UInt8} {w wv p : Int} (hs : s.length ≤ 60) (hW : Wd W wv) (hWl : W.length ≤ 3) (hv : ∀ k : Nat, (wv - k).toNat = (w - k).toNat) (hq : IsNum q p) (hql : q.length ≤ 3) (hp0 : 0 ≤ p) (hp : p ≤ 255) :
    (RunOk ([37] ++ W ++ [115]) (argS s) ∧ sprintfF ([37] ++ W ++ [115]) (argS s) = (blk (w - s.length) ++ s, 0)) ∧
    (RunOk ([37, 45] ++ W ++ [115]) (argS s) ∧ sprintfF ([37, 45] ++ W ++ [115]) (argS s) = (s ++ blk (w - s.length), 0)) ∧
    (RunOk ([37] ++ W ++ [46] ++ q ++ [115]) (argS s) ∧ sprintfF ([37] ++ W ++ [46] ++ q ++ [115]) (argS s) = (blk (w - (s.take p.toNat).length) ++ s.take p.toNat, 0)) := by
  have hwv : -1 ≤ wv := by cases hW <;> omega
  obtain ⟨r1, r2⟩ := read_form hW .no
  obtain ⟨r3, _⟩ := read_form hW (.num hq hp0 hp)
  refine ⟨?_, ?_, ?_⟩
  · have := one_dir (t := W ++ [115]) (s := s) (k := 2) (n := 0) r1 rfl rfl hwv (by show (-1 : Int) ≤ -1; omega) (by simp; omega) (by omega)
    refine ⟨this.1, this.2.trans ?_⟩
    show (padF ⟨false, false, false, false, wv, -1, 115⟩ [] s, (0 : Int)) = _
    have e : padF ⟨false, false, false, false, wv, -1, 115⟩ [] s = List.replicate (wv - ([] : List UInt8).length - s.length).toNat 32 ++ [] ++ s := rfl
    rw [e, show wv - (([] : List UInt8).length : Int) - s.length = wv - s.length by simp, hv, List.append_nil]; rfl
  · have := one_dir (t := 45 :: (W ++ [115])) (s := s) (k := 2) (n := 0) r2 rfl rfl hwv (by show (-1 : Int) ≤ -1; omega) (by simp; omega) (by omega)
    refine ⟨this.1, this.2.trans ?_⟩
    show (padF ⟨true, false, false, false, wv, -1, 115⟩ [] s, (0 : Int)) = _
    have e : padF ⟨true, false, false, false, wv, -1, 115⟩ [] s = [] ++ s ++ List.replicate (wv - ([] : List UInt8).length - s.length).toNat 32 := rfl
    rw [e, show wv - (([] : List UInt8).length : Int) - s.length = wv - s.length by simp, hv, List.nil_append]; rfl
  · have := one_dir (t := W ++ (46 :: (q ++ [115]))) (s := s) (k := 2) (n := 0) r3 rfl rfl hwv (by show (-1 : Int) ≤ p; omega) (by simp; omega) (by omega)
    have ef : [37] ++ W ++ [46] ++ q ++ [115] = 37 :: (W ++ (46 :: (q ++ [115]))) := by simp
    rw [ef]
    refine ⟨this.1, this.2.trans ?_⟩
    show (padF ⟨false, false, false, false, wv, p, 115⟩ [] (if p = -1 then s else s.take p.toNat), (0 : Int)) = _
    rw [if_neg (by omega)]
    have e : padF ⟨false, false, false, false, wv, p, 115⟩ [] (s.take p.toNat) = List.replicate (wv - ([] : List UInt8).length - (s.take p.toNat).length).toNat 32 ++ [] ++ s.take p.toNat := rfl
    rw [e, show wv - (([] : List UInt8).length : Int) - ((s.take p.toNat).length : Int) = wv - ((s.take p.toNat).length : Nat) by simp, hv, List.append_nil]; rfl

def padsP (s W q : List UInt8) (w p : Int) (K : AV → Prop) : Prop :=
  iteP (decide (0 ≤ min (s.length : Int) p) && decide (min (s.length : Int) p ≤ (s.length : Int)))
   (iteP (strFits [37] W) (iteP (strFits ([37] ++ W) [115]) (RunOk ([37] ++ W ++ [115]) (argS s) ∧ ∀ x2 : List UInt8 × Int, x2 = sprintfF ([37] ++ W ++ [115]) (argS s) →
     iteP (strFits [37, 45] W) (iteP (strFits ([37, 45] ++ W) [115]) (RunOk ([37, 45] ++ W ++ [115]) (argS s) ∧ ∀ x3 : List UInt8 × Int, x3 = sprintfF ([37, 45] ++ W ++ [115]) (argS s) →
       iteP (strFits [37] W) (iteP (strFits ([37] ++ W) [46]) (iteP (strFits ([37] ++ W ++ [46]) q) (iteP (strFits ([37] ++ W ++ [46] ++ q) [115]) (RunOk ([37] ++ W ++ [46] ++ q ++ [115]) (argS s) ∧ ∀ x4 : List UInt8 × Int, x4 = sprintfF ([37] ++ W ++ [46] ++ q ++ [115]) (argS s) →
         iteP (x2.2 != 0) (K (.sc (.bool false))) (iteP (x3.2 != 0) (K (.sc (.bool false))) (iteP (x4.2 != 0) (K (.sc (.bool false)))
           (IntKind.i64.wrap (w - s.length) ≤ 1000 ∧ ∀ x : List UInt8, x = List.replicate (IntKind.i64.wrap (w - s.length)).toNat 32 →
             iteP (strFits x s) (iteP (decide (x2.1 = x ++ s)) (iteP (strFits s x) (iteP (decide (x3.1 = s ++ x))
               (IntKind.i64.wrap (w - (List.take (min (s.length : Int) p).toNat s).length) ≤ 1000 ∧ ∀ x : List UInt8, x = List.replicate (IntKind.i64.wrap (w - (List.take (min (s.length : Int) p).toNat s).length)).toNat 32 →
                 iteP (strFits x (List.take (min (s.length : Int) p).toNat s)) (iteP (decide (x4.1 = x ++ List.take (min (s.length : Int) p).toNat s)) (True ∧ ∀ x : Bool, x = true → iteP x (K (.sc (.bool true))) (K (.sc (.bool false)))) (K (.sc (.bool false)))) False)
               (K (.sc (.bool false)))) False) (K (.sc (.bool false)))) False)))) False) False) False) False) False) False) False) False) False
theorem pads_ok {s W q : List UInt8} {w wv p : Int} (hs : s.length ≤ 60) (hW : Wd W wv) (hWl : W.length ≤ 3) (hv : ∀ k : Nat, (wv - k).toNat = (w - k).toNat) (hw0 : 0 ≤ w) (hw : w ≤ 255) (hq : IsNum q p) (hql : q.length ≤ 3) (hp0 : 0 ≤ p) (hp : p ≤ 255) {K : AV → Prop} (hk : K (.sc (.bool true))) : padsP s W q w p K := by
  obtain ⟨⟨a1, a2⟩, ⟨b1, b2⟩, ⟨c1, c2⟩⟩ := three hs hW hWl hv hq hql hp0 hp
  have ht : List.take (min (s.length : Int) p).toNat s = s.take p.toNat := by
    rcases Int.le_total (s.length : Int) p with h | h
    · rw [Int.min_eq_left h, Int.toNat_natCast, List.take_of_length_le (Nat.le_refl _), List.take_of_length_le (by omega)]
    · rw [Int.min_eq_right h]
  have hl : (s.take p.toNat).length ≤ 60 := by rw [List.length_take]; omega
  have l1 : ([37] : List UInt8).length ≤ 2000 := by decide
  have l2 : ([37, 45] : List UInt8).length ≤ 2000 := by decide
  have l3 : ([115] : List UInt8).length ≤ 2000 := by decide
  have l4 : ([46] : List UInt8).length ≤ 2000 := by decide
  have lb : ∀ n : Int, n ≤ 255 → (blk n).length ≤ 2000 := fun n hn => by unfold blk; rw [List.length_replicate]; omega
  unfold padsP
  rw [show (decide (0 ≤ min (s.length : Int) p) && decide (min (s.length : Int) p ≤ (s.length : Int))) = true by simp; omega, iteP_t, fits_sm l1 (by omega), iteP_t, fits_sm (by simp; omega) l3, iteP_t]
  refine ⟨a1, fun x2 h2 => ?_⟩
  rw [a2] at h2
  subst h2
  rw [fits_sm l2 (by omega), iteP_t, fits_sm (by simp; omega) l3, iteP_t]
  refine ⟨b1, fun x3 h3 => ?_⟩
  rw [b2] at h3
  subst h3
  rw [iteP_t, fits_sm (by simp; omega) l4, iteP_t, fits_sm (by simp; omega) (by omega), iteP_t, fits_sm (by simp; omega) l3, iteP_t]
  refine ⟨c1, fun x4 h4 => ?_⟩
  rw [c2] at h4
  subst h4
  rw [show ((0 : Int) != 0) = false from rfl, iteP_f, iteP_f, iteP_f, ht, wrap_in (by omega) (by omega)]
  refine ⟨by omega, fun x hx => ?_⟩
  replace hx : x = blk (w - s.length) := hx
  subst hx
  rw [fits_sm (lb _ (by omega)) (by omega), iteP_t, decide_eq_true rfl, iteP_t, fits_sm (by omega) (lb _ (by omega)), iteP_t, decide_eq_true rfl, iteP_t, wrap_in (by omega) (by omega)]
  refine ⟨by omega, fun x hx => ?_⟩
  replace hx : x = blk (w - (s.take p.toNat).length) := hx
  subst hx
  rw [fits_sm (lb _ (by omega)) (by omega), iteP_t, decide_eq_true rfl, iteP_t]
  refine ⟨trivial, fun x hx => ?_⟩
  subst hx
  exact hk

theorem law4 (s : List UInt8) (w p : Int) (hw0 : 0 ≤ w) (hw : w ≤ 255) (hp0 : 0 ≤ p) (hp : p ≤ 255) : ∃ m h', evCall Door.cfg Tryd.prog m 4 [aStr s, aK .u8 w, aK .u8 p] heap0 = some (.sc (.bool true), h') := by
  have main : wpCall W2 Door.cfg Tryd.prog 40 4 [aStr s, aK .u8 w, aK .u8 p] heap0 fun v _ => v = .sc (.bool true) := by
    refine c4 s w p (fun v => v = .sc (.bool true)) ?_
    by_cases h : (60 : Int) < (s.length : Int)
    · rw [decide_eq_true h, iteP_t]
      exact ⟨trivial, fun x hx => by subst hx; rfl⟩
    · rw [decide_eq_false h, iteP_f, show IntKind.i64.wrap w = w from wrap_in (by omega) (by omega), show IntKind.i64.wrap p = p from wrap_in (by omega) (by omega)]
      refine ⟨⟨hw0, hw⟩, fun x hx => ⟨⟨hp0, hp⟩, fun x1 hx1 => ?_⟩⟩
      obtain ⟨n1, n2, n3⟩ := num_ok (n := p.toNat) (by omega)
      obtain ⟨m1, m2, m3⟩ := num_ok (n := w.toNat) (by omega)
      rw [← hx1, show ((p.toNat : Nat) : Int) = p by omega] at n1
      rw [← hx1] at n2
      rw [← hx, show ((w.toNat : Nat) : Int) = w by omega] at m1
      rw [← hx] at m2 m3
      by_cases h0 : w = 0
      · rw [show (w == 0) = true by simpa using h0, iteP_t]
        exact pads_ok (W := []) (w := w) (by omega) .no (by decide) (fun k => by omega) hw0 hw n1 n2 hp0 hp (K := fun v => v = .sc (.bool true)) rfl
      · rw [show (w == 0) = false by simpa using h0, iteP_f]
        exact pads_ok (W := x) (w := w) (by omega) (.num m1 (m3 (by omega)) hw0 hw) m2 (fun k => rfl) hw0 hw n1 n2 hp0 hp (K := fun v => v = .sc (.bool true)) rfl
  obtain ⟨m, v, h', h1, h2⟩ := call_okW okW2 40 4 _ _ _ main
  exact ⟨m, h', by rw [h1, h2]⟩
end
end Go.Proofs.Pr

/- Printf: from the evaluation of a law to its card: PrintfPads. -/
namespace Go.Proofs.YtfgocjmkefeeeaaDoor
open Go Go.Ef Go.ChangeShapes Go.WideShapes Go.ChangeAt Go.RowKit
open Go.ChangeMaps (open_string shut_string)

namespace pads
theorem law (s : ByteArray) (a b : Int) (w : World) (ha : 0 ≤ a ∧ a ≤ 255) (hb : 0 ≤ b ∧ b ≤ 255) (hg : GlobOk Door.cfg w) : Calls Tryd.prog 4 #[.string s, .int .u8 a, .int .u8 b] w fun e w' => e = .returned (.bool true) ∧ Below w.heap.size w w' := by
  obtain ⟨⟨l⟩⟩ := s
  obtain ⟨m, h', he⟩ := Pr.law4 l a b ha.1 ha.2 hb.1 hb.2
  refine law_of_ev Door.fit m hg (args := [aStr l, aK .u8 a, aK .u8 b]) ⟨rfl, fun i x y hx hy => ?_⟩ he
  match i with
  | 0 => simp at hx hy; subst hx; subst hy; exact .sc rfl
  | 1 => simp at hx hy; subst hx; subst hy; exact .sc rfl
  | 2 => simp at hx hy; subst hx; subst hy; exact .sc rfl
  | i + 3 => simp at hx
theorem byte_wf {n : Int} (h : (Lit.int .u8 n).wf = true) : 0 ≤ n ∧ n ≤ 255 := by
  simp [Lit.wf, IntKind.min, IntKind.max, IntKind.signed, IntKind.bits] at h
  omega

theorem own : ownKnob Tryd.prog.godebug = none := by kernel_rfl
set_option maxRecDepth 100000 in
theorem lifted (os : Os) (started : os.Started) (H : Type) (enc : TypeId × Value → H) :
    ReturnsInHanded {} Tryd.checked os 4 .any (fun w args => (Rows.printfPadsSpec.pre enc Tryd.prog Tryd.f4 [] false w args ∧ laidMetH Tryd.prog Rows.printfPadsRow.laid w) ∧ sizedMet enc Tryd.prog Tryd.f4 (OpenSpec.ofChange Rows.printfPadsSpec) false w args)
      (Rows.printfPadsSpec.post enc Tryd.prog Tryd.f4 false true false false) := by
  refine returnsInHanded_of_change_and (C := Tryd.checked) (X := fun w _ => laidMetH Tryd.prog Rows.printfPadsRow.laid w) (fun _ _ _ hh h => h.of_heap hh) own started (by kernel_rfl) Tryd.func4
    (ChangeSpec.witness_shaped (enc := enc) (C := Tryd.checked) (os := os) (X := fun w _ => laidMetH Tryd.prog Rows.printfPadsRow.laid w) false (World.laidAll Tryd.prog os Rows.printfPadsRow.laid) #[.string .empty, .int .u8 0, .int .u8 0] 8 (World.laidAll_os _ _ _)
      (World.shaped_of_ZipB (by kernel_rfl) (by kernel_rfl)) (by kernel_rfl) (by kernel_rfl) (by kernel_rfl)
      (by rw [MakeChecks.laidMetH_plain _ _ _ (by kernel_rfl)]; exact laidMet_laidAll _ (by kernel_rfl) (by kernel_rfl))) ?_
  intro W base args ds gs before hval0 hW _ _ hL _
  have hval : ∀ (j : Nat) t v, Tryd.f4.params[j]? = some t → args[j]? = some v → Value.okWide Tryd.prog W .any base t v := hval0
  have hW' := hW
  obtain ⟨p, q, hA0, hV, rfl, _, _⟩ := hW
  have hA : DataW.TrodAll enc Tryd.prog W 0 (fun _ => true) true Tryd.f4.params.toList args.toList ds p := hA0
  rw [Tryd.params4] at hA hval
  obtain ⟨v0, vs0, d0, ds0, p0, q0, hargs, rfl, rfl, h0, r0⟩ := trodAll_cons hA
  obtain ⟨v1, vs1, d1, ds1, p1, q1, rfl, rfl, rfl, h1, r1⟩ := trodAll_cons r0
  obtain ⟨v2, vs2, d2, ds2, p2, q2, rfl, rfl, rfl, h2, r2⟩ := trodAll_cons r1
  obtain ⟨rfl, rfl, rfl⟩ := trodAll_nil r2
  obtain rfl : args = #[v0, v1, v2] := by cases args; simp_all
  obtain ⟨rfl, rfl⟩ := trodVars_none hV
  obtain ⟨s, rfl, rfl, rfl, hmax⟩ := open_string Tryd.underlying9 (hval 0 9 v0 rfl rfl) h0
  obtain ⟨a, rfl, rfl, rfl, wa⟩ := open_int Tryd.underlying5 (hval 1 5 v1 rfl rfl) h1
  obtain ⟨b, rfl, rfl, rfl, wb⟩ := open_int Tryd.underlying5 (hval 2 5 v2 rfl rfl) h2
  refine (law s a b W (byte_wf wa) (byte_wf wb) (Door.glob_ok hL)).mono fun e W' ⟨he, hb⟩ => ?_
  subst he
  exact ⟨_, rfl, _, _, _, [], _, [], hW', trodAll_mk1 (shut_bool Tryd.underlying4 _), trodAll_mk3 (shut_string Tryd.underlying9 hmax) (shut_int Tryd.underlying5 wa) (shut_int Tryd.underlying5 wb), rfl, hb.frame _, fun h => by cases h⟩
theorem said : Rows.PrintfPadsSaid :=
  OpenClaim.holds_of_wide 4 Tryd.f4 rfl rfl rfl rfl rfl rfl rfl ⟨rfl, rfl, rfl, rfl, rfl⟩ rfl rfl rfl rfl rfl (by kernel_rfl) Tryd.func4 (by kernel_rfl)
    (of_decide_eq_true (by kernel_rfl)) (by unfold Func.isWrapper; first | (rw [if_pos (by decide +kernel)]; kernel_rfl) | (rw [if_neg (by decide +kernel)]; exact ⟨rfl, rfl⟩))
    (fun os started H enc _ => lifted os started H enc)
theorem plain (f : FuncId) (fn : Func) (hf : Tryd.pinned.checked.prog.funcNamed "texttools/texttoolslaw43.PrintfPads" = some f) (hfn : Tryd.pinned.checked.prog.funcs[f]? = some fn) :
    false = Tryd.pinned.checked.prog.looks [] ∧ ∀ (j : Nat) t, fn.params[j]? = some t → Tryd.pinned.checked.prog.wantsStandIn t = false := by
  obtain rfl : f = 4 := Option.some.inj ((show Tryd.prog.funcNamed "texttools/texttoolslaw43.PrintfPads" = some 4 by kernel_rfl).symm.trans hf) |>.symm
  obtain rfl : fn = Tryd.f4 := (Option.some.inj (Tryd.func4.symm.trans hfn)).symm
  refine ⟨by kernel_rfl, fun j t ht => ?_⟩
  rw [Tryd.params4] at ht
  have : t = 9 ∨ t = 5 := by simpa using Array.mem_of_getElem? ht
  rcases this with rfl | rfl
  · exact (show Tryd.prog.wantsStandIn 9 = false by kernel_rfl)
  · exact (show Tryd.prog.wantsStandIn 5 = false by kernel_rfl)
theorem card : Rows.PrintfPadsCardSaid :=
  Claim7.holds_tied_plain_at .later [] _ _ _ _ said (fun _ h => by cases h) (by kernel_rfl) (fun _ h => by cases h) printfPads_row_tie rfl ⟨rfl, rfl⟩ (by kernel_rfl) rfl plain (by kernel_rfl)
end pads
end Go.Proofs.YtfgocjmkefeeeaaDoor

