/- A part of the proof: definitions and lemmas. -/
import Derived.Test.YthfceininiemdaaGreatDoorArithA
import Derived.Test.YthfceininiemdaaGreatDoorArithB
import Derived.Test.YthfceininiemdaaGreatDoorArithC
import Derived.Test.YthfceininiemdaaGreatDoorArithD
import Derived.Test.YthfceininiemdaaGreatDoorArithE
import Derived.Test.YthfceininiemdaaGreatDoorArithF
import Derived.Test.YthfceininiemdaaGreatDoorArithG
import Derived.Test.YthfceininiemdaaGreatDoorArithH
namespace Go.Proofs.Sf
open Go Go.Ef Go.RowKit
noncomputable section
set_option maxRecDepth 100000
theorem sb (op : List UInt8) (a b : Int) : SameB op op a a b b 4 4 8 8 4 4 := ⟨rfl, rfl, rfl, rfl, rfl, rfl⟩
abbrev QT (v : AV) : Prop := v = bA true
theorem not_ok {a b : Int} (h : ¬(okD a = true ∧ okD b = true)) (op : List UInt8) : nodeF op a b = none := by unfold nodeF; rw [if_neg h]
theorem okD_of {a : Int} (h1 : ¬ a < -10000000000000) (h2 : ¬ 10000000000000 < a) : okD a = true := by rw [okD_iff]; omega
theorem four {op : List UInt8} {a b x : Int} (hx : nodeF op a b = some x) {A B C D E : Prop} (k : okD a = true → okD b = true → foldF op a b = some x → A) :
  iteP (decide (a < (-10000000000000 : Int))) E (iteP (decide ((10000000000000 : Int) < a)) D (iteP (decide (b < (-10000000000000 : Int))) C (iteP (decide ((10000000000000 : Int) < b)) B A))) := by
 have h : okD a = true ∧ okD b = true := by
  by_cases h : okD a = true ∧ okD b = true
  ·exact h
  ·rw [not_ok h] at hx; cases hx
 have ha := okD_iff.1 h.1
 have hb := okD_iff.1 h.2
 rw [nodeF_pos h.1 h.2] at hx
 exact ie (df (by omega)) (ie (df (by omega)) (ie (df (by omega)) (ie (df (by omega)) (k h.1 h.2 hx))))
theorem four2 {a b : Int} {A B : Prop} (hB : B) (k : okD a = true → okD b = true → A) :
  iteP (decide (a < (-10000000000000 : Int))) B (iteP (decide ((10000000000000 : Int) < a)) B (iteP (decide (b < (-10000000000000 : Int))) B (iteP (decide ((10000000000000 : Int) < b)) B A))) :=
 iti (fun _ => hB) fun h1 => iti (fun _ => hB) fun h2 => iti (fun _ => hB) fun h3 => iti (fun _ => hB) fun h4 =>
  k (okD_of (of_decide_eq_false h1) (of_decide_eq_false h2)) (okD_of (of_decide_eq_false h3) (of_decide_eq_false h4))
theorem yes2 : True ∧ ∀ (_ : Unit), True → QT (bA true) := ⟨trivial, fun _ _ => rfl⟩
theorem arith_law {op : List UInt8} (hop : ∀ a b, foldF op a b = arithF op a b) (a b : Int) :
  (∀ x : Int, Is (nodeF op a b) x →
   iteP (decide (a < (-10000000000000 : Int))) (Never ∧ True) (iteP (decide ((10000000000000 : Int) < a)) (Never ∧ True) (iteP (decide (b < (-10000000000000 : Int))) (Never ∧ True) (iteP (decide ((10000000000000 : Int) < b)) (Never ∧ True)
    (D1 a ∧ ∀ (_ : Unit), True → D1 b ∧ ∀ (_ : Unit), True → D2 a b ∧
     (∀ x_3 : Int, Is (arithF op a b) x_3 → True ∧ ∀ x_4 : Bool, x_4 = (decide (x = x_3) && true) → iteP x_4 (True ∧ ∀ (_ : Unit), True → QT (bA true)) (QT (bA false))) ∧
     ∀ x_3 : Int, Non (arithF op a b) x_3 → iteP (x_3 != (0 : Int)) (Never ∧ True) (True ∧ ∀ x_4 : Bool, x_4 = (decide (x = (0 : Int)) && true) → iteP x_4 (True ∧ ∀ (_ : Unit), True → QT (bA true)) (QT (bA false)))))))) ∧
  ∀ (_ : Unit), nodeF op a b = none →
   iteP (decide (a < (-10000000000000 : Int))) (SameB op op a a b b 4 4 8 8 4 4 ∧ ∀ (_ : Unit), True → True ∧ ∀ (_ : Unit), True → QT (bA true))
    (iteP (decide ((10000000000000 : Int) < a)) (SameB op op a a b b 4 4 8 8 4 4 ∧ ∀ (_ : Unit), True → True ∧ ∀ (_ : Unit), True → QT (bA true))
    (iteP (decide (b < (-10000000000000 : Int))) (SameB op op a a b b 4 4 8 8 4 4 ∧ ∀ (_ : Unit), True → True ∧ ∀ (_ : Unit), True → QT (bA true))
    (iteP (decide ((10000000000000 : Int) < b)) (SameB op op a a b b 4 4 8 8 4 4 ∧ ∀ (_ : Unit), True → True ∧ ∀ (_ : Unit), True → QT (bA true))
    (D1 a ∧ ∀ (_ : Unit), True → D1 b ∧ ∀ (_ : Unit), True → D2 a b ∧
     (∀ x : Int, Is (arithF op a b) x → Never ∧ True) ∧
     ∀ x : Int, Non (arithF op a b) x → iteP (x != (0 : Int)) (SameB op op a a b b 4 4 8 8 4 4 ∧ ∀ (_ : Unit), True → True ∧ ∀ (_ : Unit), True → QT (bA true)) (Never ∧ True))))) := by
 refine ⟨fun x hx => four hx.is fun ha hb hf => ⟨⟨ha⟩, fun _ _ => ⟨⟨hb⟩, fun _ _ => ⟨⟨ha, hb⟩, fun y hy => ⟨trivial, fun z hz => it ?_ yes2⟩, fun y hy => ?_⟩⟩⟩, fun _ hn => four2 ⟨sb op a b, fun _ _ => yes2⟩ fun ha hb => ⟨⟨ha⟩, fun _ _ => ⟨⟨hb⟩, fun _ _ => ⟨⟨ha, hb⟩, fun y hy => ?_, fun y hy => it (by simpa using hy.ne) ⟨sb op a b, fun _ _ => yes2⟩⟩⟩⟩⟩
 ·rw [hop, hy.is] at hf
  cases hf
  rw [hz]; simp
 ·rw [hop, hy.is] at hf
  cases hf
 ·rw [nodeF_pos ha hb, hop, hy.is] at hn
  cases hn
theorem cmp_law {op : List UInt8} {a b : Int} {q : Bool} (hop : foldF op a b = truthF q) :
  (∀ x : Int, Is (nodeF op a b) x →
   iteP (decide (a < (-10000000000000 : Int))) (Never ∧ True) (iteP (decide ((10000000000000 : Int) < a)) (Never ∧ True) (iteP (decide (b < (-10000000000000 : Int))) (Never ∧ True) (iteP (decide ((10000000000000 : Int) < b)) (Never ∧ True)
    (D1 a ∧ ∀ (_ : Unit), True → D1 b ∧ ∀ (_ : Unit), True → D2 a b ∧
     (∀ x_3 : Int, Is none x_3 → D1 (0 : Int) ∧ ∀ (_ : Unit), True → iteP q (D1 (10000 : Int) ∧ ∀ (_ : Unit), True → True ∧ ∀ x_6 : Bool, x_6 = (decide (x = (10000 : Int)) && true) → iteP x_6 (True ∧ ∀ (_ : Unit), True → QT (bA true)) (QT (bA false)))
      (True ∧ ∀ x_5 : Bool, x_5 = (decide (x = (0 : Int)) && true) → iteP x_5 (True ∧ ∀ (_ : Unit), True → QT (bA true)) (QT (bA false)))) ∧
     ∀ x_3 : Int, Non none x_3 → D1 (0 : Int) ∧ ∀ (_ : Unit), True → iteP q (D1 (10000 : Int) ∧ ∀ (_ : Unit), True → True ∧ ∀ x_6 : Bool, x_6 = (decide (x = (10000 : Int)) && true) → iteP x_6 (True ∧ ∀ (_ : Unit), True → QT (bA true)) (QT (bA false)))
      (True ∧ ∀ x_5 : Bool, x_5 = (decide (x = (0 : Int)) && true) → iteP x_5 (True ∧ ∀ (_ : Unit), True → QT (bA true)) (QT (bA false)))))))) ∧
  ∀ (_ : Unit), nodeF op a b = none →
   iteP (decide (a < (-10000000000000 : Int))) (SameB op op a a b b 4 4 8 8 4 4 ∧ ∀ (_ : Unit), True → True ∧ ∀ (_ : Unit), True → QT (bA true))
    (iteP (decide ((10000000000000 : Int) < a)) (SameB op op a a b b 4 4 8 8 4 4 ∧ ∀ (_ : Unit), True → True ∧ ∀ (_ : Unit), True → QT (bA true))
    (iteP (decide (b < (-10000000000000 : Int))) (SameB op op a a b b 4 4 8 8 4 4 ∧ ∀ (_ : Unit), True → True ∧ ∀ (_ : Unit), True → QT (bA true))
    (iteP (decide ((10000000000000 : Int) < b)) (SameB op op a a b b 4 4 8 8 4 4 ∧ ∀ (_ : Unit), True → True ∧ ∀ (_ : Unit), True → QT (bA true))
    (D1 a ∧ ∀ (_ : Unit), True → D1 b ∧ ∀ (_ : Unit), True → D2 a b ∧
     (∀ x : Int, Is none x → D1 (0 : Int) ∧ ∀ (_ : Unit), True → iteP q (D1 (10000 : Int) ∧ ∀ (_ : Unit), True → Never ∧ True) (Never ∧ True)) ∧
     ∀ x : Int, Non none x → D1 (0 : Int) ∧ ∀ (_ : Unit), True → iteP q (D1 (10000 : Int) ∧ ∀ (_ : Unit), True → Never ∧ True) (Never ∧ True))))) := by
 refine ⟨fun x hx => four hx.is fun ha hb hf => ⟨⟨ha⟩, fun _ _ => ⟨⟨hb⟩, fun _ _ => ⟨⟨ha, hb⟩, fun y hy => (by cases hy.is), fun y _ => ⟨⟨rfl⟩, fun _ _ => ?_⟩⟩⟩⟩, fun _ hn => four2 ⟨sb op a b, fun _ _ => yes2⟩ fun ha hb => ?_⟩
 ·rw [hop] at hf
  unfold truthF at hf
  have hf := Option.some.inj hf
  refine iti (fun hq => ⟨⟨rfl⟩, fun _ _ => ⟨trivial, fun z hz => it ?_ yes2⟩⟩) (fun hq => ⟨trivial, fun z hz => it ?_ yes2⟩)
  ·rw [hq, if_pos rfl] at hf
   rw [hz, ← hf]; rfl
  ·rw [hq, if_neg (by simp)] at hf
   rw [hz, ← hf]; rfl
 ·rw [nodeF_pos ha hb, hop] at hn
  cases hn
theorem weak_law {op : List UInt8} {a b : Int} {q : Bool} (hop : foldF op a b = truthF q) :
  (∀ x : Int, Is (nodeF op a b) x →
   iteP (decide (a < (-10000000000000 : Int))) (Never ∧ True) (iteP (decide ((10000000000000 : Int) < a)) (Never ∧ True) (iteP (decide (b < (-10000000000000 : Int))) (Never ∧ True) (iteP (decide ((10000000000000 : Int) < b)) (Never ∧ True)
    (D1 a ∧ ∀ (_ : Unit), True → D1 b ∧ ∀ (_ : Unit), True → D2 a b ∧
     (∀ x_3 : Int, Is none x_3 → iteP (x == (0 : Int)) (True ∧ ∀ (_ : Unit), True → QT (bA true)) (iteP (x == (10000 : Int)) (True ∧ ∀ (_ : Unit), True → QT (bA true)) (QT (bA false)))) ∧
     ∀ x_3 : Int, Non none x_3 → iteP (x == (0 : Int)) (True ∧ ∀ (_ : Unit), True → QT (bA true)) (iteP (x == (10000 : Int)) (True ∧ ∀ (_ : Unit), True → QT (bA true)) (QT (bA false)))))))) ∧
  ∀ (_ : Unit), nodeF op a b = none →
   iteP (decide (a < (-10000000000000 : Int))) (SameB op op a a b b 4 4 8 8 4 4 ∧ ∀ (_ : Unit), True → True ∧ ∀ (_ : Unit), True → QT (bA true))
    (iteP (decide ((10000000000000 : Int) < a)) (SameB op op a a b b 4 4 8 8 4 4 ∧ ∀ (_ : Unit), True → True ∧ ∀ (_ : Unit), True → QT (bA true))
    (iteP (decide (b < (-10000000000000 : Int))) (SameB op op a a b b 4 4 8 8 4 4 ∧ ∀ (_ : Unit), True → True ∧ ∀ (_ : Unit), True → QT (bA true))
    (iteP (decide ((10000000000000 : Int) < b)) (SameB op op a a b b 4 4 8 8 4 4 ∧ ∀ (_ : Unit), True → True ∧ ∀ (_ : Unit), True → QT (bA true))
    (D1 a ∧ ∀ (_ : Unit), True → D1 b ∧ ∀ (_ : Unit), True → D2 a b ∧
     (∀ x : Int, Is none x → QT (bA false)) ∧ ∀ x : Int, Non none x → QT (bA false))))) := by
 refine ⟨fun x hx => four hx.is fun ha hb hf => ⟨⟨ha⟩, fun _ _ => ⟨⟨hb⟩, fun _ _ => ⟨⟨ha, hb⟩, fun y hy => (by cases hy.is), fun y _ => ?_⟩⟩⟩, fun _ hn => four2 ⟨sb op a b, fun _ _ => yes2⟩ fun ha hb => ?_⟩
 ·rw [hop] at hf
  unfold truthF at hf
  have hf := Option.some.inj hf
  refine iti (fun _ => yes2) (fun h0 => it ?_ yes2)
  have h0 : ¬ x = 0 := by simpa using h0
  cases q with
  | true => rw [if_pos rfl] at hf; rw [← hf]; rfl
  | false => rw [if_neg (by simp)] at hf; exact absurd hf.symm h0
 ·rw [nodeF_pos ha hb, hop] at hn
  cases hn
theorem run_law {T : Tab} (O : Ok T) {op : List UInt8} {a b : Int} (H : wpCall T cfg Tryz.prog 60 7 [aStr op, iA a, iA b] heap0 fun r _ => QT r) : ∃ n h, evCall cfg Tryz.prog n 7 [aStr op, iA a, iA b] heap0 = some (bA true, h) := by
 obtain ⟨n, r, h', h1, rfl⟩ := call_okW O 60 7 [aStr op, iA a, iA b] heap0 (fun r _ => QT r) H
 exact ⟨n, h', h1⟩
abbrev Out (op : List UInt8) (a b : Int) : Prop := ∃ n h, evCall cfg Tryz.prog n 7 [aStr op, iA a, iA b] heap0 = some (bA true, h)
theorem l_add (a b : Int) : Out oAdd a b := run_law okTLaw (lawAdd a b QT ⟨trivial, fun _ _ => ⟨trivial, arith_law (op := oAdd) (fun _ _ => rfl) a b⟩⟩)
theorem l_sub (a b : Int) : Out oSub a b := run_law okTLaw (lawSub a b QT ⟨trivial, fun _ _ => ⟨trivial, arith_law (op := oSub) (fun _ _ => rfl) a b⟩⟩)
theorem l_mul (a b : Int) : Out oMul a b := run_law okTLaw (lawMul a b QT ⟨trivial, fun _ _ => ⟨trivial, arith_law (op := oMul) (fun _ _ => rfl) a b⟩⟩)
theorem l_div (a b : Int) : Out oDiv a b := run_law okTLaw (lawDiv a b QT ⟨trivial, fun _ _ => ⟨trivial, arith_law (op := oDiv) (fun _ _ => rfl) a b⟩⟩)
theorem l_mod (a b : Int) : Out oMod a b := run_law okTLaw (lawMod a b QT ⟨trivial, fun _ _ => ⟨trivial, arith_law (op := oMod) (fun _ _ => rfl) a b⟩⟩)
theorem l_pow (a b : Int) : Out oPow a b := run_law okTLaw (lawPow a b QT ⟨trivial, fun _ _ => ⟨trivial, arith_law (op := oPow) (fun _ _ => rfl) a b⟩⟩)
theorem l_lt (a b : Int) : Out oLt a b := run_law okTLaw (lawLt a b QT ⟨trivial, fun _ _ => ⟨trivial, cmp_law (op := oLt) (q := decide (a < b)) rfl⟩⟩)
theorem l_ge (a b : Int) : Out oGe a b := run_law okTLaw (lawGe a b QT ⟨trivial, fun _ _ => ⟨trivial, cmp_law (op := oGe) (q := decide (b ≤ a)) rfl⟩⟩)
theorem l_eq (a b : Int) : Out oEq a b := run_law okTLaw (lawEq a b QT ⟨trivial, fun _ _ => ⟨trivial, cmp_law (op := oEq) (q := a == b) (by show truthF (decide (a = b)) = _; congr 1)⟩⟩)
theorem l_le (a b : Int) : Out oLe a b := run_law okTLaw (lawLe a b QT ⟨trivial, fun _ _ => ⟨trivial, weak_law (op := oLe) (q := decide (a ≤ b)) rfl⟩⟩)
theorem l_gt (a b : Int) : Out oGt a b := run_law okTLaw (lawGt a b QT ⟨trivial, fun _ _ => ⟨trivial, weak_law (op := oGt) (q := decide (b < a)) rfl⟩⟩)
theorem l_ne (a b : Int) : Out oNe a b := run_law okTLaw (lawNe a b QT ⟨trivial, fun _ _ => ⟨trivial, weak_law (op := oNe) (q := decide (a ≠ b)) rfl⟩⟩)
end
end Go.Proofs.Sf
namespace Go.Proofs.Sf
open Go Go.Ef Go.RowKit
noncomputable section
set_option maxRecDepth 100000
theorem fold_other {op : List UInt8} (h1 : op ≠ oLt) (h2 : op ≠ oLe) (h3 : op ≠ oEq) (h4 : op ≠ oNe) (h5 : op ≠ oGt) (h6 : op ≠ oGe) (a b : Int) : foldF op a b = arithF op a b := by
 unfold foldF; rw [if_neg h1, if_neg h2, if_neg h3, if_neg h4, if_neg h5, if_neg h6]
theorem arith_other {op : List UInt8} (h1 : op ≠ oAdd) (h2 : op ≠ oSub) (h3 : op ≠ oMul) (h4 : op ≠ oDiv) (h5 : op ≠ oMod) (h6 : op ≠ oPow) (a b : Int) : arithF op a b = none := by
 unfold arithF; rw [if_neg h1, if_neg h2, if_neg h3, if_neg h4, if_neg h5, if_neg h6]
theorem ev7 (op : List UInt8) (a b : Int) : Out op a b := by
 by_cases p1 : op = oAdd
 ·rw [p1]; exact l_add a b
 by_cases p2 : op = oSub
 ·rw [p2]; exact l_sub a b
 by_cases p3 : op = oMul
 ·rw [p3]; exact l_mul a b
 by_cases p4 : op = oDiv
 ·rw [p4]; exact l_div a b
 by_cases p5 : op = oMod
 ·rw [p5]; exact l_mod a b
 by_cases p6 : op = oPow
 ·rw [p6]; exact l_pow a b
 by_cases c1 : op = oLt
 ·rw [c1]; exact l_lt a b
 by_cases c2 : op = oLe
 ·rw [c2]; exact l_le a b
 by_cases c3 : op = oEq
 ·rw [c3]; exact l_eq a b
 by_cases c4 : op = oNe
 ·rw [c4]; exact l_ne a b
 by_cases c5 : op = oGt
 ·rw [c5]; exact l_gt a b
 by_cases c6 : op = oGe
 ·rw [c6]; exact l_ge a b
 have har := arith_other p1 p2 p3 p4 p5 p6
 have hO : Other op := ⟨har, fun x y => by
  unfold nodeF
  split
  ·rw [fold_other c1 c2 c3 c4 c5 c6]; exact har x y
  ·rfl⟩
 refine run_law okTLawO (lawO op a b QT ⟨trivial, fun _ _ => ⟨hO, fun _ _ => four2 ⟨sb op a b, fun _ _ => yes2⟩ fun ha hb => ⟨⟨ha⟩, fun _ _ => ⟨⟨hb⟩, fun _ _ => ⟨⟨hO, ⟨ha, hb⟩⟩, fun x hx => ?_⟩⟩⟩⟩⟩)
 exact ie (df c1) (ie (df c6) (ie (df c3) (ie (df c2) (ie (df c5) (ie (df c4) (it (by simpa using hx.ne) ⟨sb op a b, fun _ _ => yes2⟩))))))
theorem law7 (op : ByteArray) (a b : Int) (w : World) (hg : GlobOk cfg w) : Calls Tryz.prog 7 #[.string op, .int .i64 a, .int .i64 b] w fun e w' => e = .returned (.bool true) ∧ Below w.heap.size w w' := by
 obtain ⟨n, h', e⟩ := ev7 op.data.toList a b
 refine law_of_ev fit n hg (args := [aStr op.data.toList, iA a, iA b]) ⟨rfl, fun i x y hx hy => ?_⟩ e
 match i with
 | 0 => simp at hx hy; subst hx; subst hy; exact .sc rfl
 | 1 => simp at hx hy; subst hx; subst hy; exact .sc rfl
 | 2 => simp at hx hy; subst hx; subst hy; exact .sc rfl
 | i + 3 => simp at hx
theorem glob_ok {W : World} (h : laidMet Tryz.prog YthfceininiemdaaGreatDoor.Rows.scanfoldArithmeticUptoRow.laid W) : GlobOk cfg W := by
 have h0 : laidMet Tryz.prog (("math/bits.deBruijn32tab", YthfceininiemdaaGreatDoor.Rows.laid_math_bits_deBruijn32tab) :: ("math/bits.deBruijn64tab", YthfceininiemdaaGreatDoor.Rows.laid_math_bits_deBruijn64tab) :: ("internal/strconv.uint64pow10", YthfceininiemdaaGreatDoor.Rows.laid_internal_strconv_uint64pow10) :: ("unicode/utf8.acceptRanges", YthfceininiemdaaGreatDoor.Rows.laid_unicode_utf8_acceptRanges) ::
  ("texttools/decimal.units", YthfceininiemdaaGreatDoor.Rows.laid_texttools_decimal_units) :: ("texttools/builtin.functions", YthfceininiemdaaGreatDoor.Rows.laid_texttools_builtin_functions) :: ("unicode.CaseRanges", YthfceininiemdaaGreatDoor.Rows.laid_unicode_CaseRanges) :: ("unicode/utf8.first", YthfceininiemdaaGreatDoor.Rows.laid_unicode_utf8_first) :: []) W := h
 intro g cs hg
 replace hg : globs g = some cs := hg
 unfold globs at hg
 split at hg
 ·cases hg; exact row_glob (t := 266) (by kernel_rfl) (by kernel_rfl) (by kernel_rfl) h0.tail.tail.tail.tail.tail
 ·cases hg; exact row_glob (t := 392) (by kernel_rfl) (by kernel_rfl) (by kernel_rfl) h0.tail.tail.tail.tail
 ·cases hg; exact row_glob (t := 442) (by kernel_rfl) (by kernel_rfl) (by kernel_rfl) h0.tail.tail
 ·cases hg; exact row_glob (t := 471) (by kernel_rfl) (by kernel_rfl) (by kernel_rfl) h0
 ·cases hg; exact row_glob (t := 472) (by kernel_rfl) (by kernel_rfl) (by kernel_rfl) h0.tail
 ·cases hg; exact row_glob (t := 474) (by kernel_rfl) (by kernel_rfl) (by kernel_rfl) h0.tail.tail.tail.tail.tail.tail.tail
 ·cases hg; exact row_glob (t := 477) (by kernel_rfl) (by kernel_rfl) (by kernel_rfl) h0.tail.tail.tail
 ·cases hg
end
end Go.Proofs.Sf
