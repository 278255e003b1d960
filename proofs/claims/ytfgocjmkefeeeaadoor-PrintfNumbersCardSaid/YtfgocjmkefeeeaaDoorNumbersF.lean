/- A part of the proof: definitions and lemmas. -/
import Derived.Test.YtfgocjmkefeeeaaDoorNumbersE
namespace Go.Proofs.Pr
open Go Go.Ef
noncomputable section
set_option maxRecDepth 100000
theorem c66 (n : Int) (K : AV → Prop) (h :
 (0 ≤ n ∧ n ≤ 4294967295) ∧ ∀ (x : List UInt8), x = fmtN 10 n.toNat → K (AV.sc (Value.string (ByteArray.mk (Array.mk x))))) :
 (fun (n : Int) (K : AV → Prop) => wpCall E1 Door.cfg Tryd.prog 60 66 [aK .i64 n] heapF fun r h' => wpBack h' r K) n K :=
 Eq.mp (by kernel_rfl) h
theorem c54 (d : Int) (p : Int) (K : AV → Prop) (h :
 iteP (decide (max 0 (min 4 p) = 4)) (iteP (decide (max (-10000000000000) (min 10000000000000 d) < 0)) (K (AV.sc (Value.int IntKind.i64 (IntKind.i64.wrap (0 - IntKind.i64.wrap (IntKind.i64.wrap ((IntKind.i64.wrap (IntKind.i64.wrap (0 - max (-10000000000000) (min 10000000000000 d)) + 0)).tdiv 1) * 1)))))) (K (AV.sc (Value.int IntKind.i64 (IntKind.i64.wrap (IntKind.i64.wrap
 ((IntKind.i64.wrap (max (-10000000000000) (min 10000000000000 d) + 0)).tdiv 1) * 1)))))) (iteP (decide (max 0 (min 4 p) = 3)) (iteP (decide (max (-10000000000000) (min 10000000000000 d) < 0)) (K (AV.sc (Value.int IntKind.i64 (IntKind.i64.wrap (0 - IntKind.i64.wrap (IntKind.i64.wrap ((IntKind.i64.wrap (IntKind.i64.wrap (0 - max (-10000000000000) (min 10000000000000 d)) + 5)).tdiv 10) * 10)))))) (K
 (AV.sc (Value.int IntKind.i64 (IntKind.i64.wrap (IntKind.i64.wrap ((IntKind.i64.wrap (max (-10000000000000) (min 10000000000000 d) + 5)).tdiv 10) * 10)))))) (iteP (decide (max 0 (min 4 p) = 2)) (iteP (decide (max (-10000000000000) (min 10000000000000 d) < 0)) (K (AV.sc (Value.int IntKind.i64 (IntKind.i64.wrap (0 - IntKind.i64.wrap (IntKind.i64.wrap ((IntKind.i64.wrap (IntKind.i64.wrap
 (0 - max (-10000000000000) (min 10000000000000 d)) + 50)).tdiv 100) * 100)))))) (K (AV.sc (Value.int IntKind.i64 (IntKind.i64.wrap (IntKind.i64.wrap ((IntKind.i64.wrap (max (-10000000000000) (min 10000000000000 d) + 50)).tdiv 100) * 100)))))) (iteP (decide (max 0 (min 4 p) = 1)) (iteP (decide (max (-10000000000000) (min 10000000000000 d) < 0)) (K (AV.sc (Value.int IntKind.i64 (IntKind.i64.wrap (0 -
 IntKind.i64.wrap (IntKind.i64.wrap ((IntKind.i64.wrap (IntKind.i64.wrap (0 - max (-10000000000000) (min 10000000000000 d)) + 500)).tdiv 1000) * 1000)))))) (K (AV.sc (Value.int IntKind.i64 (IntKind.i64.wrap (IntKind.i64.wrap ((IntKind.i64.wrap (max (-10000000000000) (min 10000000000000 d) + 500)).tdiv 1000) * 1000)))))) (iteP (decide (max 0 (min 4 p) = 0))
 (iteP (decide (max (-10000000000000) (min 10000000000000 d) < 0)) (K (AV.sc (Value.int IntKind.i64 (IntKind.i64.wrap (0 - IntKind.i64.wrap (IntKind.i64.wrap ((IntKind.i64.wrap (IntKind.i64.wrap (0 - max (-10000000000000) (min 10000000000000 d)) + 5000)).tdiv 10000) * 10000)))))) (K (AV.sc (Value.int IntKind.i64 (IntKind.i64.wrap (IntKind.i64.wrap ((IntKind.i64.wrap
 (max (-10000000000000) (min 10000000000000 d) + 5000)).tdiv 10000) * 10000)))))) False))))) :
 (fun (d p : Int) (K : AV → Prop) => wpCall tab0 Door.cfg Tryd.prog 60 54 [aK .i64 d, aK .i64 p] heapF fun r h' => wpBack h' r K) d p K :=
 Eq.mp (by kernel_rfl) h
theorem v53 (s : List UInt8) (t : List UInt8) (N : List UInt8 → Prop) (X : Ex → List UInt8 → Prop) (h :
 iteP (inRange (IntKind.i64.wrap ((↑t.length : Int) - 1)) t.length) (iteP (byteAt t (IntKind.i64.wrap ((↑t.length : Int) - 1)) == 48) (iteP (decide (0 ≤ IntKind.i64.wrap ((↑t.length : Int) - 1)) && decide (IntKind.i64.wrap ((↑t.length : Int) - 1) ≤ (↑t.length : Int))) (I53 s (List.take (IntKind.i64.wrap ((↑t.length : Int) - 1)).toNat t) =
 I53 s (List.take (IntKind.i64.wrap ((↑t.length : Int) - 1)).toNat t) ∧ N (List.take (IntKind.i64.wrap ((↑t.length : Int) - 1)).toNat t)) False) (I53 s t = I53 s t ∧ X (Ex.exit 0) t)) False) :
 (fun (s t : List UInt8) (N : List UInt8 → Prop) (X : Ex → List UInt8 → Prop) => wpRound tab0 Door.cfg Tryd.prog 40 53 11 (I53 s t) (fun τ => τ = I53 s (slS τ 6) ∧ N (slS τ 6)) (fun e τ => τ = I53 s (slS τ 6) ∧ X e (slS τ 6))) s t N X :=
 Eq.mp (by kernel_rfl) h
theorem c53 (d : Int) (K : AV → Prop) (h :
 ∀ (m : Int), m = max (-10000000000000) (min 10000000000000 d) → iteP (decide (m < 0)) (∀ (m_1 : Int), m_1 = IntKind.i64.wrap (0 - m) → (0 ≤ IntKind.i64.wrap (m_1.tdiv 10000) ∧ IntKind.i64.wrap (m_1.tdiv 10000) ≤ 4294967295) ∧ ∀ (x : List UInt8), x = fmtN 10 (IntKind.i64.wrap (m_1.tdiv 10000)).toNat → iteP (strFits [(45 : UInt8)] x) (iteP (m_1.tmod 10000 == 0)
 (K (AV.sc (Value.string (ByteArray.mk (Array.mk ([(45 : UInt8)] ++ x)))))) ((0 ≤ IntKind.i64.wrap (10000 + m_1.tmod 10000) ∧ IntKind.i64.wrap (10000 + m_1.tmod 10000) ≤ 4294967295) ∧ ∀ (x_1 : List UInt8), x_1 = fmtN 10 (IntKind.i64.wrap (10000 + m_1.tmod 10000)).toNat → iteP (true && decide (1 ≤ (↑x_1.length : Int))) (∀ (l : List UInt8), l = List.drop 1 x_1 →
 loopAt Tryd.prog 53 11 = loopAt Tryd.prog 53 11 ∧ (I53 ([(45 : UInt8)] ++ x) l = I53 ([(45 : UInt8)] ++ x) l ∧ (stripZ l).isEmpty = false ∧ l.length ≤ 1000) ∧ ∀ (x_2 : List UInt8), x_2 = stripZ l → iteP (strFits ([(45 : UInt8)] ++ x) [(46 : UInt8)]) (iteP (strFits ([(45 : UInt8)] ++ x ++ [(46 : UInt8)]) x_2) (K (AV.sc (Value.string (ByteArray.mk
 (Array.mk ([(45 : UInt8)] ++ x ++ [(46 : UInt8)] ++ x_2)))))) False) False) False)) False) ((0 ≤ IntKind.i64.wrap (m.tdiv 10000) ∧ IntKind.i64.wrap (m.tdiv 10000) ≤ 4294967295) ∧ ∀ (x : List UInt8), x = fmtN 10 (IntKind.i64.wrap (m.tdiv 10000)).toNat → iteP (strFits [] x) (iteP (m.tmod 10000 == 0) (K (AV.sc (Value.string (ByteArray.mk (Array.mk ([] ++ x))))))
 ((0 ≤ IntKind.i64.wrap (10000 + m.tmod 10000) ∧ IntKind.i64.wrap (10000 + m.tmod 10000) ≤ 4294967295) ∧ ∀ (x_1 : List UInt8), x_1 = fmtN 10 (IntKind.i64.wrap (10000 + m.tmod 10000)).toNat → iteP (true && decide (1 ≤ (↑x_1.length : Int))) (∀ (l : List UInt8), l = List.drop 1 x_1 → loopAt Tryd.prog 53 11 = loopAt Tryd.prog 53 11 ∧ (I53 ([] ++ x) l = I53 ([] ++ x) l ∧
 (stripZ l).isEmpty = false ∧ l.length ≤ 1000) ∧ ∀ (x_2 : List UInt8), x_2 = stripZ l → iteP (strFits ([] ++ x) [(46 : UInt8)]) (iteP (strFits ([] ++ x ++ [(46 : UInt8)]) x_2) (K (AV.sc (Value.string (ByteArray.mk (Array.mk ([] ++ x ++ [(46 : UInt8)] ++ x_2)))))) False) False) False)) False)) :
 (fun (d : Int) (K : AV → Prop) => wpCall E3 Door.cfg Tryd.prog 60 53 [aK .i64 d] heapF fun r h' => wpBack h' r K) d K :=
 Eq.mp (by kernel_rfl) h
end
end Go.Proofs.Pr
namespace Go.Proofs.Pr
open Go Go.Ef
noncomputable section
set_option maxRecDepth 100000
theorem okE1 : TabOk Tryd.prog Door.cfg E1 := ok67d tab0_ok
theorem ok66 {T : Tab} (O : TabOk Tryd.prog Door.cfg T) : TabOk Tryd.prog Door.cfg (T.addC 66 C66) := by
 refine addC_ok O fun args h s hs hp => ?_
 unfold C66 at hs
 split at hs
 ·rename_i n
  refine nspec_ok (Option.some.inj hs) (fun hpre => ?_) hp
  exact EvP.freshV okE1 (n := 60) (by kernel_rfl) (by kernel_rfl) (args' := [aK .i64 n]) rfl (c66 n _ ⟨hpre, fun x hx => by rw [hx]; rfl⟩)
 ·cases hs
theorem round_pos (d u h : Int) (hd : 0 ≤ d) (hd2 : d ≤ 10000000000000) (hu : 1 ≤ u) (hu2 : u ≤ 10000) (hh : 0 ≤ h) (hh2 : h ≤ 5000) : IntKind.i64.wrap (IntKind.i64.wrap ((IntKind.i64.wrap (d + h)).tdiv u) * u) = (d + h) / u * u ∧ 0 ≤ (d + h) / u * u ∧ (d + h) / u * u ≤ 10000000005000 := by
 have h1 : 0 ≤ (d + h) / u := Int.ediv_nonneg (by omega) (by omega)
 have h2 : (d + h) / u * u ≤ d + h := Int.ediv_mul_le _ (by omega)
 have h3 : (d + h) / u ≤ d + h := Int.ediv_le_self _ (by omega)
 have h4 : 0 ≤ (d + h) / u * u := Int.mul_nonneg h1 (by omega)
 rw [wrap_in (x := d + h) (by omega) (by omega), td (by omega), wrap_in (x := (d + h) / u) (by omega) (by omega), wrap_in (by omega) (by omega)]
 exact ⟨rfl, h4, by omega⟩
theorem ok54 {T : Tab} (O : TabOk Tryd.prog Door.cfg T) : TabOk Tryd.prog Door.cfg (T.addC 54 C54) := by
 refine addC_ok O fun args h s hs hp => ?_
 unfold C54 at hs
 split at hs
 ·rename_i d p
  refine nspec_ok (Option.some.inj hs) (fun _ => ?_) hp
  refine EvP.freshV tab0_ok (n := 60) (by kernel_rfl) (by kernel_rfl) (args' := [aK .i64 d, aK .i64 p]) rfl (c54 d p _ ?_)
  have hn := near_le d
  have hnf : max (-10000000000000 : Int) (min 10000000000000 d) = nearF d := rfl
  rw [hnf]
  have main : ∀ (u hf : Int), unitF p = u → unitF p / 2 = hf → 1 ≤ u → u ≤ 10000 → 0 ≤ hf → hf ≤ 5000 →
    iteP (decide (nearF d < 0)) (AV.sc (.int .i64 (IntKind.i64.wrap (0 - IntKind.i64.wrap (IntKind.i64.wrap ((IntKind.i64.wrap (IntKind.i64.wrap (0 - nearF d) + hf)).tdiv u) * u)))) = aK .i64 (roundF d p))
     (AV.sc (.int .i64 (IntKind.i64.wrap (IntKind.i64.wrap ((IntKind.i64.wrap (nearF d + hf)).tdiv u) * u))) = aK .i64 (roundF d p)) := by
   intro u hf e1 e2 b1 b2 b3 b4
   by_cases hneg : nearF d < 0
   ·rw [decide_eq_true hneg, iteP_t]
    have hr : roundF d p = -((-(nearF d) + hf) / u * u) := by unfold roundF; rw [if_pos hneg, e2, e1]
    obtain ⟨q1, q2, q3⟩ := round_pos (-(nearF d)) u hf (by omega) (by omega) b1 b2 b3 b4
    rw [hr, show IntKind.i64.wrap (0 - nearF d) = -(nearF d) by rw [wrap_in (by omega) (by omega)]; omega, q1, wrap_in (by omega) (by omega)]
    show AV.sc (.int .i64 _) = AV.sc (.int .i64 _)
    rw [Int.zero_sub]
   ·rw [decide_eq_false hneg, iteP_f]
    have hr : roundF d p = (nearF d + hf) / u * u := by unfold roundF; rw [if_neg hneg, e2, e1]
    obtain ⟨q1, _, _⟩ := round_pos (nearF d) u hf (by omega) (by omega) b1 b2 b3 b4
    rw [hr, q1]
    rfl
  by_cases c4 : 4 ≤ p
  ·rw [decide_eq_true (show max (0 : Int) (min 4 p) = 4 by omega), iteP_t]
   have e : unitF p = 1 := by unfold unitF; rw [if_neg (by omega), if_neg (by omega), if_neg (by omega), if_neg (by omega)]
   exact main 1 0 e (by rw [e]; rfl) (by omega) (by omega) (by omega) (by omega)
  ·rw [decide_eq_false (show ¬ max (0 : Int) (min 4 p) = 4 by omega), iteP_f]
   by_cases c3 : p = 3
   ·rw [decide_eq_true (show max (0 : Int) (min 4 p) = 3 by omega), iteP_t]
    have e : unitF p = 10 := by subst c3; rfl
    exact main 10 5 e (by rw [e]; rfl) (by omega) (by omega) (by omega) (by omega)
   ·rw [decide_eq_false (show ¬ max (0 : Int) (min 4 p) = 3 by omega), iteP_f]
    by_cases c2 : p = 2
    ·rw [decide_eq_true (show max (0 : Int) (min 4 p) = 2 by omega), iteP_t]
     have e : unitF p = 100 := by subst c2; rfl
     exact main 100 50 e (by rw [e]; rfl) (by omega) (by omega) (by omega) (by omega)
    ·rw [decide_eq_false (show ¬ max (0 : Int) (min 4 p) = 2 by omega), iteP_f]
     by_cases c1 : p = 1
     ·rw [decide_eq_true (show max (0 : Int) (min 4 p) = 1 by omega), iteP_t]
      have e : unitF p = 1000 := by subst c1; rfl
      exact main 1000 500 e (by rw [e]; rfl) (by omega) (by omega) (by omega) (by omega)
     ·rw [decide_eq_false (show ¬ max (0 : Int) (min 4 p) = 1 by omega), iteP_f, decide_eq_true (show max (0 : Int) (min 4 p) = 0 by omega), iteP_t]
      have e : unitF p = 10000 := by unfold unitF; rw [if_pos (by omega)]
      exact main 10000 5000 e (by rw [e]; rfl) (by omega) (by omega) (by omega) (by omega)
 ·cases hs
theorem strip_zero (u : List UInt8) : stripZ (u ++ [48]) = stripZ u := by
 unfold stripZ; simp
theorem strip_stop (u : List UInt8) (c : UInt8) (h : c ≠ 48) : stripZ (u ++ [c]) = u ++ [c] := by
 unfold stripZ
 simp [h]
theorem can53 (s t : List UInt8) : (I53 s t).tidy [4, 6] 0 = I53 s t := by kernel_rfl
theorem snoc_cases (t : List UInt8) : t = [] ∨ ∃ u c, t = u ++ [c] := by
 rcases List.eq_nil_or_concat t with h | ⟨u, c, h⟩
 ·exact .inl h
 ·exact .inr ⟨u, c, by simpa using h⟩
theorem loop53 (s t : List UInt8) (h0 : (stripZ t).isEmpty = false) (h1 : t.length ≤ 1000) : Ev Door.cfg Tryd.prog 53 (.loop (loopAt Tryd.prog 53 11)) (I53 s t) fun e τ => τ = I53 s (slS τ 6) ∧ e = .exit 0 ∧ slS τ 6 = stripZ t := by
 refine loop_rd (C := Door.cfg) (P := Tryd.prog) tab0_ok (f := 53) (i := 11) (n := 40) (fun x : List UInt8 => I53 s x) (fun τ => slS τ 6) (fun x => stripZ x = stripZ t ∧ x.length ≤ 1000) (fun x => x.length) (by kernel_rfl)
  (fun x y ht => ?_) (fun x hx => ?_) t ⟨rfl, h1⟩
 ·replace ht : Door.tidy 53 11 = some y := ht
  cases ht
  exact can53 s x
 ·obtain ⟨q1, q2⟩ := hx
  refine v53 s x (fun y => (stripZ y = stripZ t ∧ y.length ≤ 1000) ∧ y.length < x.length) (fun e y => e = .exit 0 ∧ y = stripZ t) ?_
  rcases snoc_cases x with rfl | ⟨u, c, rfl⟩
  ·rw [← q1] at h0; cases h0
  ·have hl : (u ++ [c]).length = u.length + 1 := by simp
   have hw : IntKind.i64.wrap (((u ++ [c]).length : Int) - 1) = (u.length : Int) := by rw [wrap_in (by omega) (by omega)]; omega
   have hb : byteAt (u ++ [c]) (u.length : Int) = c.toNat := by
    unfold byteAt
    rw [Int.toNat_natCast, List.getElem?_append_right (Nat.le_refl _), Nat.sub_self]; rfl
   rw [hw, show inRange (u.length : Int) (u ++ [c]).length = true by rw [inRange_iff]; omega, iteP_t, hb, show ((c.toNat : Int) == 48) = (c == 48) from beq_byte c 48 (by decide)]
   cases hc : c == 48 with
   | true =>
    have hc' : c = 48 := by simpa using hc
    subst hc'
    have e : (decide (0 ≤ (u.length : Int)) && decide ((u.length : Int) ≤ ((u ++ [(48 : UInt8)]).length : Int))) = true := by rw [hl]; simp; omega
    rw [iteP_t, e, iteP_t, Int.toNat_natCast, List.take_left']
    ·exact ⟨rfl, ⟨by rw [← q1, strip_zero], by omega⟩, by omega⟩
    ·rfl
   | false =>
    rw [iteP_f]
    exact ⟨rfl, rfl, by rw [← q1, strip_stop u c (by simpa using hc)]⟩
theorem okE2 : TabOk Tryd.prog Door.cfg E2 := ok66 okE1
theorem okE3 : TabOk Tryd.prog Door.cfg E3 := by
 refine name_ok (name_ok (name_ok (addL_ok okE2 fun σ s hs hp => ?_) _ _) _ _) _ _
 unfold L53 at hs
 split at hs
 ·rename_i s0 t0 _ _
  refine lspec_ok (Option.some.inj hs) (fun hpre => ?_) hp
  obtain ⟨e, h1, h2⟩ := hpre
  refine Ev.tidied (t := ⟨[4, 6], [4, 6], 0⟩) (τ := I53 s0.data.toList t0.data.toList) (by kernel_rfl) (by rw [e]; exact (can53 _ _).symm) ?_
  exact (loop53 _ _ h1 h2).mono fun ex τ h => ⟨slS τ 6, h.2.2, h.2.1, h.1⟩
 ·cases hs
theorem digits_len (b : Nat) : ∀ f n acc, (digitsL b f n acc).length ≤ f + acc.length := by
 intro f
 induction f with
 | zero => intro n acc; simp [digitsL]
 | succ f ih =>
  intro n acc
  unfold digitsL
  split
  ·simp; omega
  ·have := ih (n / b) (digitC (n % b) :: acc)
   simp at this
   omega
theorem fmt_len (b n : Nat) : (fmtN b n).length ≤ 70 := by
 have := digits_len b 70 n []
 simpa [fmtN] using this
def fracOk (f : Nat) : Bool := Nat.beq f 0 || (!(stripZ ((fmtN 10 (10000 + f)).drop 1)).isEmpty && decide (1 ≤ (fmtN 10 (10000 + f)).length))
theorem frac_all : (List.range 10000).all fracOk = true := by decide +kernel
theorem frac_str {f : Nat} (h1 : 1 ≤ f) (h2 : f < 10000) : (stripZ ((fmtN 10 (10000 + f)).drop 1)).isEmpty = false ∧ 1 ≤ (fmtN 10 (10000 + f)).length := by
 have := List.all_eq_true.1 frac_all f (by simp [h2])
 unfold fracOk at this
 simp only [Bool.or_eq_true, Bool.and_eq_true, Bool.not_eq_true', decide_eq_true_eq] at this
 rcases this with h | h
 ·have := Nat.eq_of_beq_eq_true h; omega
 ·exact h
theorem ok53g {T : Tab} (O : TabOk Tryd.prog Door.cfg T) : TabOk Tryd.prog Door.cfg (T.addC 53 C53g) := by
 refine addC_ok O fun args h s hs hp => ?_
 unfold C53g at hs
 split at hs
 ·rename_i d
  refine nspec_ok (Option.some.inj hs) (fun _ => ?_) hp
  refine EvP.freshV okE3 (n := 60) (by kernel_rfl) (by kernel_rfl) (args' := [aK .i64 d]) rfl (c53 d _ ?_)
  have hn := near_le d
  have fit : ∀ {a b : List UInt8}, a.length ≤ 2000 → b.length ≤ 2000 → strFits a b = true := fun h1 h2 => by rw [strFits_iff]; omega
  -- both signs
  have half : ∀ (sg : List UInt8) (m : Int), sg.length ≤ 1 → 0 ≤ m → m ≤ 10000000000000 → sg = (if nearF d < 0 then [45] else []) → m.toNat = (nearF d).natAbs →
    ((0 : Int) ≤ IntKind.i64.wrap (m.tdiv 10000) ∧ IntKind.i64.wrap (m.tdiv 10000) ≤ 4294967295) ∧ ∀ x : List UInt8, x = fmtN 10 (IntKind.i64.wrap (m.tdiv 10000)).toNat →
     iteP (strFits sg x) (iteP (m.tmod 10000 == 0) (AV.sc (.string ⟨⟨sg ++ x⟩⟩) = aStr (decF (nearF d)))
      (((0 : Int) ≤ IntKind.i64.wrap (10000 + m.tmod 10000) ∧ IntKind.i64.wrap (10000 + m.tmod 10000) ≤ 4294967295) ∧ ∀ x1 : List UInt8, x1 = fmtN 10 (IntKind.i64.wrap (10000 + m.tmod 10000)).toNat →
       iteP (true && decide ((1 : Int) ≤ (x1.length : Int))) (∀ l : List UInt8, l = List.drop 1 x1 → loopAt Tryd.prog 53 11 = loopAt Tryd.prog 53 11 ∧ (I53 (sg ++ x) l = I53 (sg ++ x) l ∧ (stripZ l).isEmpty = false ∧ l.length ≤ 1000) ∧
        ∀ x2 : List UInt8, x2 = stripZ l → iteP (strFits (sg ++ x) [46]) (iteP (strFits (sg ++ x ++ [46]) x2) (AV.sc (.string ⟨⟨sg ++ x ++ [46] ++ x2⟩⟩) = aStr (decF (nearF d))) False) False) False)) False := by
   intro sg m hsg h0 h1 hs hm
   have t1 : m.tdiv 10000 = m / 10000 := td h0
   have t2 : m.tmod 10000 = m % 10000 := tm h0
   rw [t1, t2, wrap_in (x := m / 10000) (by omega) (by omega), wrap_in (x := 10000 + m % 10000) (by omega) (by omega)]
   refine ⟨⟨by omega, by omega⟩, fun x hx => ?_⟩
   have hx1 : x = fmtN 10 ((nearF d).natAbs / 10000) := by rw [hx]; congr 1; omega
   have xl : x.length ≤ 70 := by rw [hx]; exact fmt_len _ _
   rw [fit (by omega) (by omega), iteP_t]
   have hd : decF (nearF d) = sg ++ x ++ (if (nearF d).natAbs % 10000 = 0 then [] else [46] ++ stripZ ((fmtN 10 (10000 + (nearF d).natAbs % 10000)).drop 1)) := by
    unfold decF; rw [← hs, ← hx1]
   by_cases hf : m % 10000 = 0
   ·rw [show (m % 10000 == 0) = true by simpa using hf, iteP_t, hd, if_pos (by omega), List.append_nil]; rfl
   ·rw [show (m % 10000 == 0) = false by simpa using hf, iteP_f]
    refine ⟨⟨by omega, by omega⟩, fun x1 hx1' => ?_⟩
    have e1 : x1 = fmtN 10 (10000 + (nearF d).natAbs % 10000) := by rw [hx1']; congr 1; omega
    obtain ⟨f1, f2⟩ := frac_str (f := (nearF d).natAbs % 10000) (by omega) (by omega)
    rw [← e1] at f1 f2
    rw [show (true && decide ((1 : Int) ≤ (x1.length : Int))) = true by simp; omega, iteP_t]
    intro l hl
    have ll : l.length ≤ 70 := by
     have := fmt_len 10 (10000 + (nearF d).natAbs % 10000)
     rw [← e1] at this
     rw [hl, List.length_drop]; omega
    rw [← hl] at f1
    refine ⟨rfl, ⟨rfl, f1, by omega⟩, fun x2 hx2 => ?_⟩
    have sl : x2.length ≤ 70 := by
     have : (stripZ l).length ≤ l.length := by
      unfold stripZ
      rw [List.length_reverse]
      have := (List.dropWhile_sublist (l := l.reverse) (· == 48)).length_le
      rw [List.length_reverse] at this
      exact this
     rw [hx2]; omega
    rw [fit (by simp; omega) (by decide), iteP_t, fit (by simp; omega) (by omega), iteP_t, hd, if_neg (by omega), ← e1, ← hl, ← hx2, ← List.append_assoc]; rfl
  intro m hm
  replace hm : m = nearF d := hm
  subst hm
  by_cases hneg : nearF d < 0
  ·rw [decide_eq_true hneg, iteP_t]
   intro m1 h1
   rw [wrap_in (by omega) (by omega)] at h1
   exact half [45] m1 (by decide) (by omega) (by omega) (by rw [if_pos hneg]) (by omega)
  ·rw [decide_eq_false hneg, iteP_f]
   exact half [] (nearF d) (by decide) (by omega) (by omega) (by rw [if_neg hneg]) (by omega)
 ·cases hs
end
end Go.Proofs.Pr
namespace Go.Proofs.Pr
open Go Go.Ef
noncomputable section
def z8 : AV := aK .u8 0
def hF (cs : List AV) : Heap := { next := 2, objs := Tr.leaf.set 1 (.cells cs), ro := 1, ty := Tr.leaf.set 1 (134, 65) }
def S85 (b sh mk u i : Int) (cs : List AV) : St := stOf 102 [(0, .v (.sc (.slice none 0 0))), (1, sK .u64 u), (3, sBool false), (4, sBool false), (10, .v (.sc (.slice none 0 0))), (11, sStr []), (12, .v (.ptr 1 0)), (13, sInt i), (14, sK .u64 sh), (15, sK .u64 b), (16, sK .u64 mk)] [] (hF cs)
def E85 (u i : Int) (cs : List AV) : St := stOf 102 [(0, .v (.sc (.slice none 0 0))), (1, sK .u64 u), (3, sBool false), (4, sBool false), (10, .v (.sc (.slice none 0 0))), (11, sStr []), (12, .v (.ptr 1 0)), (13, sInt i)] [] (hF cs)
def hCs (h : Heap) : List AV :=
 match h.objs.get 1 with
 | some (.cells cs) => cs
 | _ => []
def qE85 (i : Int) (X : Int → List AV → Prop) (e : Ex) (τ : St) : Prop :=
 match e with
 | .exit 0 => τ = E85 (slI τ 1) i (hCs τ.h) ∧ X (slI τ 1) (hCs τ.h)
 | _ => False
def consG (m : Int) (g : Nat → Int) : Nat → Int
 | 0 => m
 | i + 1 => g i
def cellsG (k : Nat) (g : Nat → Int) : List AV := List.replicate (65 - k) z8 ++ (List.range k).map fun i => aK .u8 (g i)
def strG (k : Nat) (g : Nat → Int) : List UInt8 := (List.range k).map fun i => UInt8.ofNat (g i).toNat
def altsK (f : Nat → LAlt) : Nat → Nat → List LAlt
 | 0, k => [f k]
 | j + 1, k => f k :: altsK f j (k + 1)
def allK (A : Nat → Prop) : Nat → Nat → Prop
 | 0, k => A k
 | j + 1, k => A k ∧ allK A j (k + 1)
def post85 (b k : Nat) (u : Int) (x : Int × (Nat → Int)) : Prop := 0 ≤ x.1 ∧ x.1 < 16 ∧ fmtN b u.toNat = UInt8.ofNat (byteAt digTab x.1).toNat :: strG k x.2
def alt85 (b : Nat) (u : Int) (k : Nat) : LAlt := { α := Int × (Nat → Int), post := fun x => post85 b k u x, ex := .exit 0, st := fun x => E85 x.1 (65 - k) (cellsG k x.2) }
def H0 : Tab := ((tab0.name 85 52).name 85 53).name 85 57
def L85 (σ : St) : Option LSpec :=
 match σ.at 1, σ.at 15 with
 | .v (.sc (.int .u64 u)), .v (.sc (.int .u64 16)) => some { pre := σ.tidy [0, 1, 3, 4, 10, 11, 12, 13, 14, 15, 16] 0 = S85 16 4 15 u 65 (cellsG 0 fun _ => 0) ∧ 0 ≤ u ∧ u < 4294967296, alts := altsK (alt85 16 u) 7 0 }
 | .v (.sc (.int .u64 u)), .v (.sc (.int .u64 8)) => some { pre := σ.tidy [0, 1, 3, 4, 10, 11, 12, 13, 14, 15, 16] 0 = S85 8 3 7 u 65 (cellsG 0 fun _ => 0) ∧ 0 ≤ u ∧ u < 4294967296, alts := altsK (alt85 8 u) 10 0 }
 | _, _ => none
def H1 : Tab := (tab0.addL 85 12 L85)
end
end Go.Proofs.Pr
namespace Go.Proofs.Pr
open Go Go.Ef
noncomputable section
def textR : Nat → Nat → Nat → List UInt8 → List UInt8
 | 0, _, _, out => out
 | k + 1, least, n, out => if 0 < least ∨ 0 < n then textR k (least - 1) (n / 10) (UInt8.ofNat (48 + n % 10) :: out) else out
def lenR : Nat → Nat → Nat → Nat
 | 0, _, _ => 0
 | k + 1, least, n => if 0 < least ∨ 0 < n then lenR k (least - 1) (n / 10) + 1 else 0
def fmtI (n : Int) : List UInt8 := (if n < 0 then [45] else []) ++ fmtN 10 n.natAbs
def hexV (c : UInt8) : Int := if 97 ≤ (c.toNat : Int) then (c.toNat : Int) - 87 else (c.toNat : Int) - 48
def hexL : List UInt8 → Int → Int
 | [], m => m
 | c :: r, m => hexL r (16 * m + hexV c)
def hexC (c : UInt8) : Bool := decide (48 ≤ c.toNat) && decide (c.toNat ≤ 102)
def hK : Nat → Heap
 | 0 => heapF
 | k + 1 => ((hK k).new (.own 1 5 1)).2
def H7 : Heap := ((heap0.new (.own 3 28 2)).2.new (.own 3 28 1)).2
def I11 (n m : Int) (s : List UInt8) (k : Nat) : St := stOf 31 [(0, sInt n), (3, sStr s), (4, sInt m)] [] (hK k)
def E11 (n : Int) (s : List UInt8) (k : Nat) : St := stOf 31 [(0, sInt n), (3, sStr s)] [] (hK k)
def L11 (σ : St) : Option LSpec :=
 match σ.at 0, σ.at 3, σ.at 4 with
 | .v (.sc (.int .i64 n)), .v (.sc (.string s)), .v (.sc (.int .i64 m)) => some { pre := σ.tidy [0, 3, 4] 0 = I11 n m s.data.toList 0 ∧ s.data.toList.isEmpty = true ∧ -1000000000 ≤ m ∧ m ≤ 1000000000, alts := altsK (fun k => { α := List UInt8, post := fun x => x = textR 10 0 m.natAbs [] ∧ k = lenR 10 0 m.natAbs, ex := .exit 0, st := fun x => E11 n x k }) 10 0 }
 | _, _, _ => none
def C11n (args : List AV) (h : Heap) : Option CSpec :=
 match args with
 | [.sc (.int .i64 n)] => some (nspec (-1000000000 ≤ n ∧ n ≤ 1000000000) (fmtI n) (fun x => aStr x) h)
 | _ => none
def I30 (n l : Int) (out : List UInt8) (i : Int) (k : Nat) : St := stOf 27 [(0, sInt n), (1, sInt l), (5, sStr out), (6, sInt i)] [] (hK k)
def E30 (out : List UInt8) (k : Nat) : St := stOf 27 [(5, sStr out)] [] (hK k)
def L30 (σ : St) : Option LSpec :=
 match σ.at 0, σ.at 1, σ.at 5, σ.at 6 with
 | .v (.sc (.int .i64 n)), .v (.sc (.int .i64 l)), .v (.sc (.string s)), .v (.sc (.int .i64 i)) => some { pre := σ.tidy [0, 1, 5, 6] 0 = I30 n l s.data.toList i 0 ∧ s.data.toList.isEmpty = true ∧ i = 0 ∧ 0 ≤ n ∧ n ≤ 1000000000 ∧ 0 ≤ l ∧ l ≤ 4, alts := altsK (fun k => { α := List UInt8, post := fun x => x = textR 10 l.toNat n.toNat [] ∧ k = lenR 10 l.toNat n.toNat, ex := .exit 0, st := fun x => E30 x k }) 10 0 }
 | _, _, _, _ => none
def C30 (args : List AV) (h : Heap) : Option CSpec :=
 match args with
 | [.sc (.int .i64 n), .sc (.int .i64 l)] => some (nspec (0 ≤ n ∧ n ≤ 1000000000 ∧ 0 ≤ l ∧ l ≤ 4) (textR 10 l.toNat n.toNat []) (fun x => aStr x) h)
 | _ => none
def I17 (d : Int) (s t : List UInt8) : St := stOf 39 [(0, sInt d), (4, sStr s), (5, sStr t)] [] heapF
def L17 (σ : St) : Option LSpec :=
 match σ.at 0, σ.at 4, σ.at 5 with
 | .v (.sc (.int .i64 d)), .v (.sc (.string s)), .v (.sc (.string t)) => some (lspec (σ.tidy [0, 4, 5] 0 = I17 d s.data.toList t.data.toList ∧ (stripZ t.data.toList).isEmpty = false ∧ t.data.toList.length ≤ 1000) (List UInt8) (fun x => x = stripZ t.data.toList) (.exit 0) (fun x => I17 d s.data.toList x))
 | _, _, _ => none
def C17 (args : List AV) (h : Heap) : Option CSpec :=
 match args with
 | [.sc (.int .i64 d)] => some (nspec (-10000000000000 ≤ d ∧ d ≤ 10000000000000) (decF d) (fun x => aStr x) h)
 | _ => none
def I7 (n d : Int) (a b : List UInt8) (m i : Int) : St := stOf 142 [(0, sInt n), (1, sInt d), (5, sStr a), (7, sStr b), (10, sInt m), (11, sInt i)] [] H7
def E7 (n d : Int) (b : List UInt8) (m : Int) : St := stOf 142 [(0, sInt n), (1, sInt d), (7, sStr b), (10, sInt m)] [] H7
def L7a (σ : St) : Option LSpec :=
 match σ.at 0, σ.at 1, σ.at 5, σ.at 7, σ.at 10, σ.at 11 with
 | .v (.sc (.int .i64 n)), .v (.sc (.int .i64 d)), .v (.sc (.string a)), .v (.sc (.string b)), .v (.sc (.int .i64 m)), .v (.sc (.int .i64 i)) => some (lspec (σ.tidy [0, 1, 5, 7, 10, 11] 0 = I7 n d a.data.toList b.data.toList m i ∧ m = 0 ∧ 0 ≤ i ∧ i ≤ (a.data.toList.length : Int) ∧ a.data.toList.length ≤ 1000 ∧ (a.data.toList.drop i.toNat).length ≤ 8 ∧ (a.data.toList.drop i.toNat).all hexC = true) Int (fun x => x = hexL (a.data.toList.drop i.toNat) 0) (.exit 0) (fun x => E7 n d b.data.toList x))
 | _, _, _, _, _, _ => none
def L7b (σ : St) : Option LSpec :=
 match σ.at 0, σ.at 1, σ.at 7, σ.at 10 with
 | .v (.sc (.int .i64 n)), .v (.sc (.int .i64 d)), .v (.sc (.string b)), .v (.sc (.int .i64 m)) => some (lspec (σ.tidy [0, 1, 7, 10] 0 = E7 n d b.data.toList m ∧ b.data.toList.length ≤ 1000) (List UInt8) (fun x => x = stripZ b.data.toList) (.exit 2) (fun x => E7 n d x m))
 | _, _, _, _ => none
def T11 : Tab := tab0.addL 11 6 L11
def T30 : Tab := tab0.addL 30 4 L30
def T17 : Tab := (tab0.addC 30 C30).addL 17 7 L17
end
end Go.Proofs.Pr
namespace Go.Proofs.Pr
open Go Go.Ef
noncomputable section
set_option maxRecDepth 100000
def dgB (d : Int) : List UInt8 := List.map byteD [[AV.sc (Value.int IntKind.u8 (IntKind.u8.wrap (IntKind.i64.wrap (48 + d))))]]
def d11 (m : Int) (s : List UInt8) (N : Int → List UInt8 → Prop) (X : List UInt8 → Prop) : Prop :=
 iteP (m != 0) (iteP (decide (m.tmod 10 < 0)) (iteP (strFits (dgB (IntKind.i64.wrap (0 - m.tmod 10))) s) (N (IntKind.i64.wrap (m.tdiv 10)) (dgB (IntKind.i64.wrap (0 - m.tmod 10)) ++ s)) False)
  (iteP (strFits (dgB (m.tmod 10)) s) (N (IntKind.i64.wrap (m.tdiv 10)) (dgB (m.tmod 10) ++ s)) False)) (X s)
def w11 (k : Nat) (n m : Int) (s : List UInt8) (N : Int → List UInt8 → Prop) (X : Ex → List UInt8 → Prop) : Prop := wpRound tab0 Door.cfg Tryd.prog 40 11 6 (I11 n m s k) (fun τ => τ = I11 n (slI τ 4) (slS τ 3) (k + 1) ∧ N (slI τ 4) (slS τ 3)) (fun e τ => τ = E11 n (slS τ 3) k ∧ X e (slS τ 3))
def e11 (k : Nat) (n m : Int) (s : List UInt8) (N : Int → List UInt8 → Prop) (X : Ex → List UInt8 → Prop) : Prop := d11 m s (fun m s => I11 n m s (k + 1) = I11 n m s (k + 1) ∧ N m s) (fun s => E11 n s k = E11 n s k ∧ X (.exit 0) s)
def d30 (n l : Int) (s : List UInt8) (i : Int) (N : Int → List UInt8 → Int → Prop) (X : List UInt8 → Prop) : Prop :=
 iteP (decide (i < l)) (iteP (strFits (dgB (n.tmod 10)) s) (N (IntKind.i64.wrap (n.tdiv 10)) (dgB (n.tmod 10) ++ s) (IntKind.i64.wrap (i + 1))) False)
  (iteP (decide (0 < n)) (iteP (strFits (dgB (n.tmod 10)) s) (N (IntKind.i64.wrap (n.tdiv 10)) (dgB (n.tmod 10) ++ s) (IntKind.i64.wrap (i + 1))) False) (X s))
def w30 (k : Nat) (n l : Int) (s : List UInt8) (i : Int) (N : Int → List UInt8 → Int → Prop) (X : Ex → List UInt8 → Prop) : Prop := wpRound tab0 Door.cfg Tryd.prog 40 30 4 (I30 n l s i k) (fun τ => τ = I30 (slI τ 0) l (slS τ 5) (slI τ 6) (k + 1) ∧ N (slI τ 0) (slS τ 5) (slI τ 6)) (fun e τ => τ = E30 (slS τ 5) k ∧ X e (slS τ 5))
def e30 (k : Nat) (n l : Int) (s : List UInt8) (i : Int) (N : Int → List UInt8 → Int → Prop) (X : Ex → List UInt8 → Prop) : Prop := d30 n l s i (fun n s i => I30 n l s i (k + 1) = I30 n l s i (k + 1) ∧ N n s i) (fun s => E30 s k = E30 s k ∧ X (.exit 0) s)
theorem v11_0 (n m : Int) (s : List UInt8) (N : Int → List UInt8 → Prop) (X : Ex → List UInt8 → Prop) (h : e11 0 n m s N X) : w11 0 n m s N X := Eq.mp (by kernel_rfl) h
theorem v30_0 (n l : Int) (s : List UInt8) (i : Int) (N : Int → List UInt8 → Int → Prop) (X : Ex → List UInt8 → Prop) (h : e30 0 n l s i N X) : w30 0 n l s i N X := Eq.mp (by kernel_rfl) h
theorem v11_1 (n m : Int) (s : List UInt8) (N : Int → List UInt8 → Prop) (X : Ex → List UInt8 → Prop) (h : e11 1 n m s N X) : w11 1 n m s N X := Eq.mp (by kernel_rfl) h
theorem v30_1 (n l : Int) (s : List UInt8) (i : Int) (N : Int → List UInt8 → Int → Prop) (X : Ex → List UInt8 → Prop) (h : e30 1 n l s i N X) : w30 1 n l s i N X := Eq.mp (by kernel_rfl) h
theorem v11_2 (n m : Int) (s : List UInt8) (N : Int → List UInt8 → Prop) (X : Ex → List UInt8 → Prop) (h : e11 2 n m s N X) : w11 2 n m s N X := Eq.mp (by kernel_rfl) h
theorem v30_2 (n l : Int) (s : List UInt8) (i : Int) (N : Int → List UInt8 → Int → Prop) (X : Ex → List UInt8 → Prop) (h : e30 2 n l s i N X) : w30 2 n l s i N X := Eq.mp (by kernel_rfl) h
theorem v11_3 (n m : Int) (s : List UInt8) (N : Int → List UInt8 → Prop) (X : Ex → List UInt8 → Prop) (h : e11 3 n m s N X) : w11 3 n m s N X := Eq.mp (by kernel_rfl) h
theorem v30_3 (n l : Int) (s : List UInt8) (i : Int) (N : Int → List UInt8 → Int → Prop) (X : Ex → List UInt8 → Prop) (h : e30 3 n l s i N X) : w30 3 n l s i N X := Eq.mp (by kernel_rfl) h
theorem v11_4 (n m : Int) (s : List UInt8) (N : Int → List UInt8 → Prop) (X : Ex → List UInt8 → Prop) (h : e11 4 n m s N X) : w11 4 n m s N X := Eq.mp (by kernel_rfl) h
theorem v30_4 (n l : Int) (s : List UInt8) (i : Int) (N : Int → List UInt8 → Int → Prop) (X : Ex → List UInt8 → Prop) (h : e30 4 n l s i N X) : w30 4 n l s i N X := Eq.mp (by kernel_rfl) h
theorem v11_5 (n m : Int) (s : List UInt8) (N : Int → List UInt8 → Prop) (X : Ex → List UInt8 → Prop) (h : e11 5 n m s N X) : w11 5 n m s N X := Eq.mp (by kernel_rfl) h
theorem v30_5 (n l : Int) (s : List UInt8) (i : Int) (N : Int → List UInt8 → Int → Prop) (X : Ex → List UInt8 → Prop) (h : e30 5 n l s i N X) : w30 5 n l s i N X := Eq.mp (by kernel_rfl) h
theorem v11_6 (n m : Int) (s : List UInt8) (N : Int → List UInt8 → Prop) (X : Ex → List UInt8 → Prop) (h : e11 6 n m s N X) : w11 6 n m s N X := Eq.mp (by kernel_rfl) h
theorem v30_6 (n l : Int) (s : List UInt8) (i : Int) (N : Int → List UInt8 → Int → Prop) (X : Ex → List UInt8 → Prop) (h : e30 6 n l s i N X) : w30 6 n l s i N X := Eq.mp (by kernel_rfl) h
theorem v11_7 (n m : Int) (s : List UInt8) (N : Int → List UInt8 → Prop) (X : Ex → List UInt8 → Prop) (h : e11 7 n m s N X) : w11 7 n m s N X := Eq.mp (by kernel_rfl) h
theorem v30_7 (n l : Int) (s : List UInt8) (i : Int) (N : Int → List UInt8 → Int → Prop) (X : Ex → List UInt8 → Prop) (h : e30 7 n l s i N X) : w30 7 n l s i N X := Eq.mp (by kernel_rfl) h
theorem v11_8 (n m : Int) (s : List UInt8) (N : Int → List UInt8 → Prop) (X : Ex → List UInt8 → Prop) (h : e11 8 n m s N X) : w11 8 n m s N X := Eq.mp (by kernel_rfl) h
theorem v30_8 (n l : Int) (s : List UInt8) (i : Int) (N : Int → List UInt8 → Int → Prop) (X : Ex → List UInt8 → Prop) (h : e30 8 n l s i N X) : w30 8 n l s i N X := Eq.mp (by kernel_rfl) h
theorem v11_9 (n m : Int) (s : List UInt8) (N : Int → List UInt8 → Prop) (X : Ex → List UInt8 → Prop) (h : e11 9 n m s N X) : w11 9 n m s N X := Eq.mp (by kernel_rfl) h
theorem v30_9 (n l : Int) (s : List UInt8) (i : Int) (N : Int → List UInt8 → Int → Prop) (X : Ex → List UInt8 → Prop) (h : e30 9 n l s i N X) : w30 9 n l s i N X := Eq.mp (by kernel_rfl) h
theorem v11_10 (n m : Int) (s : List UInt8) (N : Int → List UInt8 → Prop) (X : Ex → List UInt8 → Prop) (h : e11 10 n m s N X) : w11 10 n m s N X := Eq.mp (by kernel_rfl) h
theorem v30_10 (n l : Int) (s : List UInt8) (i : Int) (N : Int → List UInt8 → Int → Prop) (X : Ex → List UInt8 → Prop) (h : e30 10 n l s i N X) : w30 10 n l s i N X := Eq.mp (by kernel_rfl) h
theorem v17 (d : Int) (s t : List UInt8) (N : List UInt8 → Prop) (X : Ex → List UInt8 → Prop) (h :
 iteP (inRange (IntKind.i64.wrap ((↑t.length : Int) - (1 : Int))) t.length)
 (iteP (byteAt t (IntKind.i64.wrap ((↑t.length : Int) - (1 : Int))) == (48 : Int))
 (iteP (decide ((0 : Int) ≤ IntKind.i64.wrap ((↑t.length : Int) - (1 : Int))) && decide (IntKind.i64.wrap ((↑t.length : Int) - (1 : Int)) ≤ (↑t.length : Int)))
 (I17 d s (List.take (IntKind.i64.wrap ((↑t.length : Int) - (1 : Int))).toNat t) = I17 d s (List.take (IntKind.i64.wrap ((↑t.length : Int) - (1 : Int))).toNat t) ∧
 N (List.take (IntKind.i64.wrap ((↑t.length : Int) - (1 : Int))).toNat t)) False)
 (I17 d s t = I17 d s t ∧ X (Ex.exit (0 : Nat)) t)) False) : wpRound tab0 Door.cfg Tryd.prog 40 17 7 (I17 d s t) (fun τ => τ = I17 d s (slS τ 5) ∧ N (slS τ 5)) (fun e τ => τ = I17 d s (slS τ 5) ∧ X e (slS τ 5)) :=
 Eq.mp (by kernel_rfl) h
def c11P (n : Int) (K : AV → Prop) : Prop := iteP (n == 0) (K (aStr [48])) (loopAt Tryd.prog 11 6 = loopAt Tryd.prog 11 6 ∧ (I11 n n [] 0 = I11 n n [] 0 ∧ true = true ∧ -1000000000 ≤ n ∧ n ≤ 1000000000) ∧
 allK (fun k => ∀ x : List UInt8, (x = textR 10 0 n.natAbs [] ∧ k = lenR 10 0 n.natAbs) → iteP (decide (n < 0)) (iteP (strFits [45] x) (K (aStr ([45] ++ x))) False) (K (aStr x))) 10 0)
theorem c11 (n : Int) (K : AV → Prop) (h : c11P n K) : wpCall T11 Door.cfg Tryd.prog 60 11 [aK .i64 n] heapF fun r h' => wpBack h' r K := Eq.mp (by kernel_rfl) h
def c30P (n l : Int) (K : AV → Prop) : Prop := loopAt Tryd.prog 30 4 = loopAt Tryd.prog 30 4 ∧ (I30 n l [] 0 0 = I30 n l [] 0 0 ∧ true = true ∧ (0 : Int) = 0 ∧ 0 ≤ n ∧ n ≤ 1000000000 ∧ 0 ≤ l ∧ l ≤ 4) ∧
 allK (fun k => ∀ x : List UInt8, (x = textR 10 l.toNat n.toNat [] ∧ k = lenR 10 l.toNat n.toNat) → K (aStr x)) 10 0
theorem c30 (n l : Int) (K : AV → Prop) (h : c30P n l K) : wpCall T30 Door.cfg Tryd.prog 60 30 [aK .i64 n, aK .i64 l] heapF fun r h' => wpBack h' r K := Eq.mp (by kernel_rfl) h
end
end Go.Proofs.Pr
namespace Go.Proofs.Pr
open Go Go.Ef
noncomputable section
set_option maxRecDepth 100000
theorem v7a (n : Int) (d : Int) (a : List UInt8) (b : List UInt8) (m : Int) (i : Int) (N : Int → Int → Prop) (X : Ex → Int → Prop) (h :
 iteP (decide (i < (↑a.length : Int))) (iteP (inRange i a.length) (iteP (inRange i a.length) (iteP (decide (97 ≤ byteAt a i)) (iteP (inRange i a.length) (I7 n d a b (IntKind.i64.wrap (IntKind.i64.wrap (16 * m) + IntKind.i64.wrap (IntKind.i64.wrap (IntKind.u8.wrap (byteAt a i - 97)) + 10))) (IntKind.i64.wrap (i + 1)) = I7 n d a b (IntKind.i64.wrap (IntKind.i64.wrap (16 * m) +
 IntKind.i64.wrap (IntKind.i64.wrap (IntKind.u8.wrap (byteAt a i - 97)) + 10))) (IntKind.i64.wrap (i + 1)) ∧ N (IntKind.i64.wrap (IntKind.i64.wrap (16 * m) + IntKind.i64.wrap (IntKind.i64.wrap (IntKind.u8.wrap (byteAt a i - 97)) + 10))) (IntKind.i64.wrap (i + 1))) False) (I7 n d a b (IntKind.i64.wrap (IntKind.i64.wrap (16 * m) + IntKind.i64.wrap (IntKind.u8.wrap (byteAt a i - 48))))
 (IntKind.i64.wrap (i + 1)) = I7 n d a b (IntKind.i64.wrap (IntKind.i64.wrap (16 * m) + IntKind.i64.wrap (IntKind.u8.wrap (byteAt a i - 48)))) (IntKind.i64.wrap (i + 1)) ∧ N (IntKind.i64.wrap (IntKind.i64.wrap (16 * m) + IntKind.i64.wrap (IntKind.u8.wrap (byteAt a i - 48)))) (IntKind.i64.wrap (i + 1)))) False) False) (E7 n d b m = E7 n d b m ∧ X (Ex.exit 0) m)) :
 (fun (n d : Int) (a b : List UInt8) (m i : Int) (N : Int → Int → Prop) (X : Ex → Int → Prop) => wpRound tab0 Door.cfg Tryd.prog 40 7 11 (I7 n d a b m i) (fun τ => τ = I7 n d a b (slI τ 10) (slI τ 11) ∧ N (slI τ 10) (slI τ 11)) (fun e τ => τ = E7 n d b (slI τ 10) ∧ X e (slI τ 10))) n d a b m i N X :=
 Eq.mp (by kernel_rfl) h
theorem v7b (n : Int) (d : Int) (b : List UInt8) (m : Int) (N : List UInt8 → Prop) (X : Ex → List UInt8 → Prop) (h :
 iteP (decide (0 < (↑b.length : Int))) (iteP (inRange (IntKind.i64.wrap ((↑b.length : Int) - 1)) b.length) (iteP (byteAt b (IntKind.i64.wrap ((↑b.length : Int) - 1)) == 48) (iteP (decide (0 ≤ IntKind.i64.wrap ((↑b.length : Int) - 1)) && decide (IntKind.i64.wrap ((↑b.length : Int) - 1) ≤ (↑b.length : Int))) (E7 n d (List.take (IntKind.i64.wrap ((↑b.length : Int) - 1)).toNat b) m =
 E7 n d (List.take (IntKind.i64.wrap ((↑b.length : Int) - 1)).toNat b) m ∧ N (List.take (IntKind.i64.wrap ((↑b.length : Int) - 1)).toNat b)) False) (E7 n d b m = E7 n d b m ∧ X (Ex.exit 2) b)) False) (E7 n d b m = E7 n d b m ∧ X (Ex.exit 2) b)) :
 (fun (n d : Int) (b : List UInt8) (m : Int) (N : List UInt8 → Prop) (X : Ex → List UInt8 → Prop) => wpRound tab0 Door.cfg Tryd.prog 40 7 19 (E7 n d b m) (fun τ => τ = E7 n d (slS τ 7) m ∧ N (slS τ 7)) (fun e τ => τ = E7 n d (slS τ 7) m ∧ X e (slS τ 7))) n d b m N X :=
 Eq.mp (by kernel_rfl) h
theorem c17 (d : Int) (K : AV → Prop) (h :
 iteP (decide (d < (-10000000000000))) (((0 : Int) ≤ 1000000000 ∧ (1000000000 : Int) ≤ 1000000000 ∧ (0 : Int) ≤ 1 ∧ (1 : Int) ≤ 4) ∧ ∀ (x : List UInt8), x = textR 10 1 1000000000 [] → iteP (strFits [(45 : UInt8)] x) (K (AV.sc (Value.string (ByteArray.mk (Array.mk ([(45 : UInt8)] ++ x)))))) False) (iteP (decide (10000000000000 < d)) (((0 : Int) ≤ 1000000000 ∧
 (1000000000 : Int) ≤ 1000000000 ∧ (0 : Int) ≤ 1 ∧ (1 : Int) ≤ 4) ∧ ∀ (x : List UInt8), x = textR 10 1 1000000000 [] → K (AV.sc (Value.string (ByteArray.mk (Array.mk x))))) (iteP (decide (d < 0)) ((0 ≤ IntKind.i64.wrap ((IntKind.i64.wrap (0 - d)).tdiv 10000) ∧ IntKind.i64.wrap ((IntKind.i64.wrap (0 - d)).tdiv 10000) ≤ 1000000000 ∧ (0 : Int) ≤ 1 ∧ (1 : Int) ≤ 4) ∧ ∀ (x : List UInt8), x = textR 10 1
 (IntKind.i64.wrap ((IntKind.i64.wrap (0 - d)).tdiv 10000)).toNat [] → iteP ((IntKind.i64.wrap (0 - d)).tmod 10000 != 0) ((0 ≤ (IntKind.i64.wrap (0 - d)).tmod 10000 ∧ (IntKind.i64.wrap (0 - d)).tmod (10000 : Int) ≤ 1000000000 ∧ (0 : Int) ≤ 4 ∧ (4 : Int) ≤ 4) ∧ ∀ (x_1 : List UInt8), x_1 = textR 10 4 ((IntKind.i64.wrap (0 - d)).tmod 10000).toNat [] → loopAt Tryd.prog 17 7 = loopAt Tryd.prog 17 7 ∧
 (I17 d x x_1 = I17 d x x_1 ∧ (stripZ x_1).isEmpty = false ∧ x_1.length ≤ 1000) ∧ ∀ (x_2 : List UInt8), x_2 = stripZ x_1 → iteP (strFits x [(46 : UInt8)]) (iteP (strFits (x ++ [(46 : UInt8)]) x_2) (iteP (decide (d < 0)) (iteP (strFits [(45 : UInt8)] (x ++ [(46 : UInt8)] ++ x_2)) (K (AV.sc (Value.string (ByteArray.mk (Array.mk ([(45 : UInt8)] ++ (x ++ [(46 : UInt8)] ++ x_2))))))) False)
 (K (AV.sc (Value.string (ByteArray.mk (Array.mk (x ++ [(46 : UInt8)] ++ x_2))))))) False) False) (iteP (decide (d < 0)) (iteP (strFits [(45 : UInt8)] x) (K (AV.sc (Value.string (ByteArray.mk (Array.mk ([(45 : UInt8)] ++ x)))))) False) (K (AV.sc (Value.string (ByteArray.mk (Array.mk x))))))) ((0 ≤ IntKind.i64.wrap (d.tdiv 10000) ∧ IntKind.i64.wrap (d.tdiv 10000) ≤ 1000000000 ∧
 (0 : Int) ≤ 1 ∧ (1 : Int) ≤ 4) ∧ ∀ (x : List UInt8), x = textR 10 1 (IntKind.i64.wrap (d.tdiv 10000)).toNat [] → iteP (d.tmod 10000 != 0) ((0 ≤ d.tmod 10000 ∧ d.tmod (10000 : Int) ≤ 1000000000 ∧ (0 : Int) ≤ 4 ∧ (4 : Int) ≤ 4) ∧ ∀ (x_1 : List UInt8), x_1 = textR 10 4 (d.tmod 10000).toNat [] → loopAt Tryd.prog 17 7 = loopAt Tryd.prog 17 7 ∧
 (I17 d x x_1 = I17 d x x_1 ∧ (stripZ x_1).isEmpty = false ∧ x_1.length ≤ 1000) ∧ ∀ (x_2 : List UInt8), x_2 = stripZ x_1 → iteP (strFits x [(46 : UInt8)]) (iteP (strFits (x ++ [(46 : UInt8)]) x_2) (iteP (decide (d < 0)) (iteP (strFits [(45 : UInt8)] (x ++ [(46 : UInt8)] ++ x_2)) (K (AV.sc (Value.string (ByteArray.mk (Array.mk ([(45 : UInt8)] ++ (x ++ [(46 : UInt8)] ++ x_2))))))) False)
 (K (AV.sc (Value.string (ByteArray.mk (Array.mk (x ++ [(46 : UInt8)] ++ x_2))))))) False) False) (iteP (decide (d < 0)) (iteP (strFits [(45 : UInt8)] x) (K (AV.sc (Value.string (ByteArray.mk (Array.mk ([(45 : UInt8)] ++ x)))))) False) (K (AV.sc (Value.string (ByteArray.mk (Array.mk x)))))))))) :
 (fun (d : Int) (K : AV → Prop) => wpCall T17 Door.cfg Tryd.prog 60 17 [aK .i64 d] heapF fun r h' => wpBack h' r K) d K :=
 Eq.mp (by kernel_rfl) h
end
end Go.Proofs.Pr
namespace Go.Proofs.Pr
open Go Go.Ef
noncomputable section
set_option maxRecDepth 100000
def w85 (b sh mk : Int) (k : Nat) (u : Int) (g : Nat → Int) (N X : Int → List AV → Prop) : Prop := wpRound H0 Door.cfg Tryd.prog 40 85 12 (S85 b sh mk u (65 - k) (cellsG k g)) (fun τ => τ = S85 b sh mk (slI τ 1) (64 - k) (hCs τ.h) ∧ N (slI τ 1) (hCs τ.h)) (qE85 (65 - k) X)
def e85 (b sh mk : Int) (k : Nat) (u : Int) (g : Nat → Int) (N X : Int → List AV → Prop) : Prop :=
 iteP (decide (b ≤ u)) (∀ m : Int, m = IntKind.u64.wrap (((BitVec.ofInt 64 u &&& BitVec.ofInt 64 mk).toNat : Nat) : Int) → iteP (inRange m 36) (∀ m1 : Int, m1 = byteAt digTab m → ∀ v : Int, v = u.fdiv b →
  S85 b sh mk v (64 - k) (cellsG (k + 1) (consG m1 g)) = S85 b sh mk v (64 - k) (cellsG (k + 1) (consG m1 g)) ∧ N v (cellsG (k + 1) (consG m1 g))) False)
  (E85 u (65 - k) (cellsG k g) = E85 u (65 - k) (cellsG k g) ∧ X u (cellsG k g))
theorem x0 (u : Int) (g : Nat → Int) (N X : Int → List AV → Prop) (h : e85 16 4 15 0 u g N X) : w85 16 4 15 0 u g N X := Eq.mp (by kernel_rfl) h
theorem x1 (u : Int) (g : Nat → Int) (N X : Int → List AV → Prop) (h : e85 16 4 15 1 u g N X) : w85 16 4 15 1 u g N X := Eq.mp (by kernel_rfl) h
theorem x2 (u : Int) (g : Nat → Int) (N X : Int → List AV → Prop) (h : e85 16 4 15 2 u g N X) : w85 16 4 15 2 u g N X := Eq.mp (by kernel_rfl) h
theorem x3 (u : Int) (g : Nat → Int) (N X : Int → List AV → Prop) (h : e85 16 4 15 3 u g N X) : w85 16 4 15 3 u g N X := Eq.mp (by kernel_rfl) h
theorem x4 (u : Int) (g : Nat → Int) (N X : Int → List AV → Prop) (h : e85 16 4 15 4 u g N X) : w85 16 4 15 4 u g N X := Eq.mp (by kernel_rfl) h
theorem x5 (u : Int) (g : Nat → Int) (N X : Int → List AV → Prop) (h : e85 16 4 15 5 u g N X) : w85 16 4 15 5 u g N X := Eq.mp (by kernel_rfl) h
theorem x6 (u : Int) (g : Nat → Int) (N X : Int → List AV → Prop) (h : e85 16 4 15 6 u g N X) : w85 16 4 15 6 u g N X := Eq.mp (by kernel_rfl) h
theorem x7 (u : Int) (g : Nat → Int) (N X : Int → List AV → Prop) (h : e85 16 4 15 7 u g N X) : w85 16 4 15 7 u g N X := Eq.mp (by kernel_rfl) h
theorem o0 (u : Int) (g : Nat → Int) (N X : Int → List AV → Prop) (h : e85 8 3 7 0 u g N X) : w85 8 3 7 0 u g N X := Eq.mp (by kernel_rfl) h
theorem o1 (u : Int) (g : Nat → Int) (N X : Int → List AV → Prop) (h : e85 8 3 7 1 u g N X) : w85 8 3 7 1 u g N X := Eq.mp (by kernel_rfl) h
theorem o2 (u : Int) (g : Nat → Int) (N X : Int → List AV → Prop) (h : e85 8 3 7 2 u g N X) : w85 8 3 7 2 u g N X := Eq.mp (by kernel_rfl) h
theorem o3 (u : Int) (g : Nat → Int) (N X : Int → List AV → Prop) (h : e85 8 3 7 3 u g N X) : w85 8 3 7 3 u g N X := Eq.mp (by kernel_rfl) h
theorem o4 (u : Int) (g : Nat → Int) (N X : Int → List AV → Prop) (h : e85 8 3 7 4 u g N X) : w85 8 3 7 4 u g N X := Eq.mp (by kernel_rfl) h
theorem o5 (u : Int) (g : Nat → Int) (N X : Int → List AV → Prop) (h : e85 8 3 7 5 u g N X) : w85 8 3 7 5 u g N X := Eq.mp (by kernel_rfl) h
theorem o6 (u : Int) (g : Nat → Int) (N X : Int → List AV → Prop) (h : e85 8 3 7 6 u g N X) : w85 8 3 7 6 u g N X := Eq.mp (by kernel_rfl) h
theorem o7 (u : Int) (g : Nat → Int) (N X : Int → List AV → Prop) (h : e85 8 3 7 7 u g N X) : w85 8 3 7 7 u g N X := Eq.mp (by kernel_rfl) h
theorem o8 (u : Int) (g : Nat → Int) (N X : Int → List AV → Prop) (h : e85 8 3 7 8 u g N X) : w85 8 3 7 8 u g N X := Eq.mp (by kernel_rfl) h
theorem o9 (u : Int) (g : Nat → Int) (N X : Int → List AV → Prop) (h : e85 8 3 7 9 u g N X) : w85 8 3 7 9 u g N X := Eq.mp (by kernel_rfl) h
theorem o10 (u : Int) (g : Nat → Int) (N X : Int → List AV → Prop) (h : e85 8 3 7 10 u g N X) : w85 8 3 7 10 u g N X := Eq.mp (by kernel_rfl) h
def c85P (b : Nat) (sh mk : Int) (n : Nat) (u : Int) (K : AV → Prop) : Prop := loopAt Tryd.prog 85 12 = loopAt Tryd.prog 85 12 ∧ (S85 b sh mk u 65 (cellsG 0 fun _ => 0) = S85 b sh mk u 65 (cellsG 0 fun _ => 0) ∧ 0 ≤ u ∧ u < 4294967296) ∧
 allK (fun k => ∀ x : Int × (Nat → Int), post85 b k u x → iteP (inRange x.1 36) (K (.tup [.sc (.slice none 0 0), aStr (UInt8.ofNat (byteAt digTab x.1).toNat :: strG k x.2)])) False) n 0
theorem h85 (u : Int) (K : AV → Prop) (h : c85P 16 4 15 7 u K) : wpCall H1 Door.cfg Tryd.prog 40 85 [.sc (.slice none 0 0), aK .u64 u, aK .i64 16, aBool false, aBool false] heapF fun r h' => wpBack h' r K := Eq.mp (by kernel_rfl) h
theorem o85 (u : Int) (K : AV → Prop) (h : c85P 8 3 7 10 u K) : wpCall H1 Door.cfg Tryd.prog 40 85 [.sc (.slice none 0 0), aK .u64 u, aK .i64 8, aBool false, aBool false] heapF fun r h' => wpBack h' r K := Eq.mp (by kernel_rfl) h
end
end Go.Proofs.Pr
namespace Go.Proofs.Pr
open Go Go.Ef
noncomputable section
set_option maxRecDepth 100000
theorem and_mask {u : Int} (k : Nat) (hk : k ≤ 32) (h1 : 0 ≤ u) (h2 : u < 4294967296) : IntKind.u64.wrap ((BitVec.ofInt 64 u &&& BitVec.ofInt 64 (((2 ^ k - 1 : Nat) : Int))).toNat : Int) = u % ((2 ^ k : Nat) : Int) := by
 obtain ⟨n, rfl⟩ := Int.eq_ofNat_of_zero_le h1
 have hp : 2 ^ k ≤ 2 ^ 32 := Nat.pow_le_pow_right (by decide) hk
 have e32 : (2 : Nat) ^ 32 = 4294967296 := by decide
 have h0 : 0 < 2 ^ k := Nat.pow_pos (by decide)
 rw [BitVec.toNat_and, BitVec.ofInt_natCast, BitVec.ofInt_natCast, BitVec.toNat_ofNat, BitVec.toNat_ofNat, Nat.mod_eq_of_lt (show n < 2 ^ 64 by omega), Nat.mod_eq_of_lt (show 2 ^ k - 1 < 2 ^ 64 by omega), Nat.and_two_pow_sub_one_eq_mod]
 have : n % 2 ^ k < 2 ^ k := Nat.mod_lt _ h0
 rw [w64_in (by omega) (by omega)]
 rfl
theorem and15 {u : Int} (h1 : 0 ≤ u) (h2 : u < 4294967296) : IntKind.u64.wrap ((BitVec.ofInt 64 u &&& BitVec.ofInt 64 15).toNat : Int) = u % 16 := and_mask 4 (by decide) h1 h2
theorem and7 {u : Int} (h1 : 0 ≤ u) (h2 : u < 4294967296) : IntKind.u64.wrap ((BitVec.ofInt 64 u &&& BitVec.ofInt 64 7).toNat : Int) = u % 8 := and_mask 3 (by decide) h1 h2
theorem fd0 {a b : Int} (hb : 0 ≤ b) : a.fdiv b = a / b := Int.fdiv_eq_ediv_of_nonneg a hb
def dtOk (d : Nat) : Bool := UInt8.ofNat (byteAt digTab (d : Int)).toNat == digitC d
theorem dt_all : (List.range 16).all dtOk = true := by decide +kernel
theorem dig_tab {d : Int} (h1 : 0 ≤ d) (h2 : d < 16) : UInt8.ofNat (byteAt digTab d).toNat = digitC d.toNat := by
 obtain ⟨k, rfl⟩ := Int.eq_ofNat_of_zero_le h1
 exact eq_of_beq (List.all_eq_true.1 dt_all k (by simp; omega))
theorem dstep {b f n : Nat} {acc : List UInt8} (h : ¬ n < b) : digitsL b (f + 1) n acc = digitsL b f (n / b) (digitC (n % b) :: acc) := if_neg h
theorem dlast {b f n : Nat} {acc : List UInt8} (h : n < b) : digitsL b (f + 1) n acc = digitC n :: acc := if_pos h
theorem okH0 : TabOk Tryd.prog Door.cfg H0 := name_ok (name_ok (name_ok tab0_ok _ _) _ _) _ _
theorem first85 : firstId 8 (loopAt Tryd.prog 85 12) = 12 := by kernel_rfl
theorem can85 (b sh mk u i : Int) (cs : List AV) : (S85 b sh mk u i cs).tidy [0, 1, 3, 4, 10, 11, 12, 13, 14, 15, 16] 0 = S85 b sh mk u i cs := by kernel_rfl
abbrev Loop85 (σ : St) (K : KR) : Prop := Ev Door.cfg Tryd.prog 85 (.loop (loopAt Tryd.prog 85 12)) σ K
theorem all_k {A : Nat → Prop} (H : ∀ k, A k) : ∀ j k, allK A j k := by
 intro j
 induction j with
 | zero => intro k; exact H k
 | succ j ih => intro k; exact ⟨H k, ih _⟩
theorem mem_altsK (f : Nat → LAlt) : ∀ j k i, k ≤ i → i ≤ k + j → f i ∈ altsK f j k := by
 intro j
 induction j with
 | zero => intro k i h1 h2; rw [show i = k by omega]; exact .head _
 | succ j ih =>
  intro k i h1 h2
  by_cases h : i = k
  ·rw [h]; exact .head _
  ·exact .tail _ (ih (k + 1) i (by omega) (by omega))
theorem strG_cons (k : Nat) (m : Int) (g : Nat → Int) : strG (k + 1) (consG m g) = UInt8.ofNat m.toNat :: strG k g := by
 unfold strG
 rw [List.range_succ_eq_map, List.map_cons, List.map_map]
 rfl
theorem dig_fuel {b : Nat} (hb : 2 ≤ b) : ∀ (f g n : Nat) (acc : List UInt8), n < b ^ (f + 1) → f ≤ g → digitsL b (f + 1) n acc = digitsL b (g + 1) n acc := by
 intro f
 induction f with
 | zero =>
  intro g n acc hn _
  have hn : n < b := by simpa using hn
  rw [dlast hn, dlast hn]
 | succ f ih =>
  intro g n acc hn hg
  by_cases h : n < b
  ·rw [dlast h, dlast h]
  ·obtain ⟨g, rfl⟩ : ∃ g', g = g' + 1 := ⟨g - 1, by omega⟩
   rw [dstep h, dstep h]
   exact ih g _ _ (by rw [Nat.div_lt_iff_lt_mul (by omega)]; simpa [Nat.pow_succ] using hn) (by omega)
theorem rd16 {k : Nat} (hk : k ≤ 7) (u : Int) (g : Nat → Int) (N X : Int → List AV → Prop) (h : e85 16 4 15 k u g N X) : w85 16 4 15 k u g N X :=
 match k, hk, h with
 | 0, _, h => x0 u g N X h
 | 1, _, h => x1 u g N X h
 | 2, _, h => x2 u g N X h
 | 3, _, h => x3 u g N X h
 | 4, _, h => x4 u g N X h
 | 5, _, h => x5 u g N X h
 | 6, _, h => x6 u g N X h
 | 7, _, h => x7 u g N X h
 | k + 8, hk, _ => absurd hk (by omega)
theorem rd8 {k : Nat} (hk : k ≤ 10) (u : Int) (g : Nat → Int) (N X : Int → List AV → Prop) (h : e85 8 3 7 k u g N X) : w85 8 3 7 k u g N X :=
 match k, hk, h with
 | 0, _, h => o0 u g N X h
 | 1, _, h => o1 u g N X h
 | 2, _, h => o2 u g N X h
 | 3, _, h => o3 u g N X h
 | 4, _, h => o4 u g N X h
 | 5, _, h => o5 u g N X h
 | 6, _, h => o6 u g N X h
 | 7, _, h => o7 u g N X h
 | 8, _, h => o8 u g N X h
 | 9, _, h => o9 u g N X h
 | 10, _, h => o10 u g N X h
 | k + 11, hk, _ => absurd hk (by omega)
theorem loop85 {b : Nat} {sh mk : Int} {M : Nat} (b2 : 2 ≤ b) (b16 : b ≤ 16) (rd : ∀ k, k ≤ M → ∀ (u : Int) (g : Nat → Int) (N X : Int → List AV → Prop), e85 b sh mk k u g N X → w85 b sh mk k u g N X)
  (an : ∀ u : Int, 0 ≤ u → u < 4294967296 → IntKind.u64.wrap (((BitVec.ofInt 64 u &&& BitVec.ofInt 64 mk).toNat : Nat) : Int) = u % (b : Int)) :
  ∀ (f u k : Nat) (g : Nat → Int), u < b ^ (f + 1) → k + f ≤ M → u < 4294967296 → Loop85 (S85 b sh mk u (65 - k) (cellsG k g)) fun e τ => e = .exit 0 ∧ ∃ (j : Nat) (v : Int) (g' : Nat → Int), j ≤ M ∧ τ = E85 v (65 - j) (cellsG j g') ∧ 0 ≤ v ∧ v < 16 ∧ digitsL b (f + 1) u (strG k g) = UInt8.ofNat (byteAt digTab v).toNat :: strG j g' := by
 have stop : ∀ (f u k : Nat) (g : Nat → Int), u < b → k ≤ M → Loop85 (S85 b sh mk u (65 - k) (cellsG k g)) fun e τ => e = .exit 0 ∧ ∃ (j : Nat) (v : Int) (g' : Nat → Int), j ≤ M ∧ τ = E85 v (65 - j) (cellsG j g') ∧ 0 ≤ v ∧ v < 16 ∧ digitsL b (f + 1) u (strG k g) = UInt8.ofNat (byteAt digTab v).toNat :: strG j g' := by
  intro f u k g hu hk
  refine Ev.round okH0 (t := ⟨[0, 1, 3, 4, 10, 11, 12, 13, 14, 15, 16], [0, 1, 3, 4, 10, 11, 12, 13], 0⟩) first85 rfl (can85 _ _ _ _ _ _) (rd k hk u g (fun _ _ => False) (fun v cs => v = u ∧ cs = cellsG k g) ?_) (fun τ hτ => hτ.2.elim) (fun e τ hτ => ?_)
  ·unfold e85
   rw [decide_eq_false (by omega), iteP_f]
   exact ⟨rfl, rfl, rfl⟩
  ·unfold qE85 at hτ
   split at hτ
   ·obtain ⟨e, h3, h4⟩ := hτ
    rw [h3, h4] at e
    refine ⟨rfl, k, u, g, hk, e, by omega, by omega, ?_⟩
    rw [dlast hu, dig_tab (by omega) (by omega), Int.toNat_natCast]
   ·exact hτ.elim
 intro f
 induction f with
 | zero => intro u k g hu hk _; exact stop 0 u k g (by simpa using hu) (by omega)
 | succ f ih =>
  intro u k g hu hk h32
  by_cases hb : u < b
  ·exact stop (f + 1) u k g hb (by omega)
  ·have hm := an u (by omega) (by omega)
   have hlt : u % b < b := Nat.mod_lt _ (by omega)
   refine Ev.round okH0 (t := ⟨[0, 1, 3, 4, 10, 11, 12, 13, 14, 15, 16], [0, 1, 3, 4, 10, 11, 12, 13], 0⟩) first85 rfl (can85 _ _ _ _ _ _) (rd k (by omega) u g (fun v cs => v = ((u / b : Nat) : Int) ∧ cs = cellsG (k + 1) (consG (byteAt digTab ((u % b : Nat) : Int)) g)) (fun _ _ => False) ?_) (fun τ hτ => ?_) (fun e τ hτ => ?_)
   ·unfold e85
    rw [decide_eq_true (by omega), iteP_t]
    intro m e
    rw [hm] at e
    have e : m = ((u % b : Nat) : Int) := e
    subst e
    rw [show inRange ((u % b : Nat) : Int) 36 = true by rw [inRange_iff]; omega, iteP_t]
    intro m1 e1 v e2
    rw [fd0 (by omega)] at e2
    have e2 : v = ((u / b : Nat) : Int) := e2
    subst e1
    subst e2
    exact ⟨rfl, rfl, rfl⟩
   ·obtain ⟨e, h3, h4⟩ := hτ
    rw [h3, h4] at e
    rw [e, show (64 : Int) - k = 65 - ((k + 1 : Nat) : Int) by omega]
    refine (ih (u / b) (k + 1) _ (by rw [Nat.div_lt_iff_lt_mul (by omega)]; simpa [Nat.pow_succ] using hu) (by omega) (Nat.lt_of_le_of_lt (Nat.div_le_self _ _) h32)).mono fun ex τ' ⟨q1, j, v, g', q2, q3, q4, q5, q6⟩ => ⟨q1, j, v, g', q2, q3, q4, q5, ?_⟩
    rw [dstep hb, ← q6, strG_cons, dig_tab (by omega) (by omega), Int.toNat_natCast]
   ·unfold qE85 at hτ
    split at hτ
    ·exact hτ.2.elim
    ·exact hτ.elim
theorem okH1 : TabOk Tryd.prog Door.cfg H1 := by
 refine addL_ok tab0_ok fun σ s hs hp => ?_
 have fin : ∀ (b : Nat) (sh mk : Int) (M : Nat) (u : Int), 2 ≤ b → 4294967296 ≤ b ^ (M + 1) → M ≤ 69 → 0 ≤ u → u < 4294967296 → σ.tidy [0, 1, 3, 4, 10, 11, 12, 13, 14, 15, 16] 0 = S85 b sh mk u 65 (cellsG 0 fun _ => 0) →
   (∀ (v k : Nat) (g : Nat → Int), v < b ^ (M + 1) → k + M ≤ M → v < 4294967296 → Loop85 (S85 b sh mk v (65 - k) (cellsG k g)) fun e τ => e = .exit 0 ∧ ∃ (j : Nat) (w : Int) (g' : Nat → Int), j ≤ M ∧ τ = E85 w (65 - j) (cellsG j g') ∧ 0 ≤ w ∧ w < 16 ∧ digitsL b (M + 1) v (strG k g) = UInt8.ofNat (byteAt digTab w).toNat :: strG j g') →
   ∃ a ∈ altsK (alt85 b u) M 0, ∃ x, a.post x ∧ ∃ m, evCode Door.cfg Tryd.prog m 85 (.loop (loopAt Tryd.prog 85 12)) σ = some (a.ex, a.st x) := by
  intro b sh mk M u b2 hM hM69 h1 h2 e L
  obtain ⟨n, rfl⟩ := Int.eq_ofNat_of_zero_le h1
  have hn : n < b ^ (M + 1) := Nat.lt_of_lt_of_le (by omega) hM
  have := Ev.tidied (C := Door.cfg) (P := Tryd.prog) (b := loopAt Tryd.prog 85 12) (f := 85) (σ := σ) (t := ⟨[0, 1, 3, 4, 10, 11, 12, 13, 14, 15, 16], [0, 1, 3, 4, 10, 11, 12, 13], 0⟩) (τ := S85 b sh mk n 65 (cellsG 0 fun _ => 0)) (by rw [first85]; rfl) (by rw [e]; exact (can85 _ _ _ _ _ _).symm) (L n 0 (fun _ => 0) hn (by omega) (by omega))
  obtain ⟨m, ex, τ, g1, rfl, j, v, g', q2, rfl, q4, q5, q6⟩ := this
  refine ⟨_, mem_altsK (alt85 b n) M 0 j (Nat.zero_le _) (by omega), (v, g'), ⟨q4, q5, ?_⟩, m, g1⟩
  rw [Int.toNat_natCast]
  exact (dig_fuel b2 M 69 n [] hn hM69).symm.trans q6
 unfold L85 at hs
 split at hs
 ·rename_i u _ _
  cases Option.some.inj hs
  obtain ⟨h1, h2, h3⟩ := hp
  exact fin 16 4 15 7 u (by decide) (by decide) (by decide) h2 h3 h1 (loop85 (by decide) (by decide) (fun k hk => rd16 hk) (fun u => and15) 7)
 ·rename_i u _ _
  cases Option.some.inj hs
  obtain ⟨h1, h2, h3⟩ := hp
  exact fin 8 3 7 10 u (by decide) (by decide) (by decide) h2 h3 h1 (loop85 (by decide) (by decide) (fun k hk => rd8 hk) (fun u => and7) 10)
 ·cases hs
theorem bits16 (u : Int) (h1 : 0 ≤ u) (h2 : u < 4294967296) (h : Heap) : EvP Door.cfg Tryd.prog 85 [.sc (.slice none 0 0), aK .u64 u, aK .i64 16, aBool false, aBool false] h fun v h' => v = .tup [.sc (.slice none 0 0), aStr (fmtN 16 u.toNat)] ∧ h' = h := by
 refine EvP.freshV okH1 (n := 40) (by kernel_rfl) (by kernel_rfl) (args' := [.sc (.slice none 0 0), aK .u64 u, aK .i64 16, aBool false, aBool false]) rfl (h85 u _ ⟨rfl, ⟨rfl, h1, h2⟩, all_k (fun k x hx => ?_) _ _⟩)
 rw [show inRange x.1 36 = true by rw [inRange_iff]; exact ⟨hx.1, by have := hx.2.1; omega⟩, iteP_t, ← hx.2.2]
theorem bits8 (u : Int) (h1 : 0 ≤ u) (h2 : u < 4294967296) (h : Heap) : EvP Door.cfg Tryd.prog 85 [.sc (.slice none 0 0), aK .u64 u, aK .i64 8, aBool false, aBool false] h fun v h' => v = .tup [.sc (.slice none 0 0), aStr (fmtN 8 u.toNat)] ∧ h' = h := by
 refine EvP.freshV okH1 (n := 40) (by kernel_rfl) (by kernel_rfl) (args' := [.sc (.slice none 0 0), aK .u64 u, aK .i64 8, aBool false, aBool false]) rfl (o85 u _ ⟨rfl, ⟨rfl, h1, h2⟩, all_k (fun k x hx => ?_) _ _⟩)
 rw [show inRange x.1 36 = true by rw [inRange_iff]; exact ⟨hx.1, by have := hx.2.1; omega⟩, iteP_t, ← hx.2.2]
end
end Go.Proofs.Pr
namespace Go.Proofs.Pr
open Go Go.Ef
noncomputable section
set_option maxRecDepth 100000
theorem textR_step {k l n : Nat} {out : List UInt8} (h : 0 < l ∨ 0 < n) : textR (k + 1) l n out = textR k (l - 1) (n / 10) (UInt8.ofNat (48 + n % 10) :: out) := if_pos h
theorem textR_stop {k : Nat} {out : List UInt8} : textR k 0 0 out = out := by
 cases k with
 | zero => rfl
 | succ k => exact if_neg (by omega)
theorem lenR_step {k l n : Nat} (h : 0 < l ∨ 0 < n) : lenR (k + 1) l n = lenR k (l - 1) (n / 10) + 1 := if_pos h
theorem lenR_stop {k : Nat} : lenR k 0 0 = 0 := by
 cases k with
 | zero => rfl
 | succ k => exact if_neg (by omega)
theorem lenR_le : ∀ k l n, lenR k l n ≤ k := by
 intro k
 induction k with
 | zero => intro l n; exact Nat.le_refl _
 | succ k ih =>
  intro l n
  unfold lenR
  split
  ·have := ih (l - 1) (n / 10); omega
  ·omega
theorem digitC_low {n : Nat} (h : n < 10) : digitC n = UInt8.ofNat (48 + n) := if_pos h
theorem textR_dig : ∀ (k g l n : Nat) (out : List UInt8), (l = 1 ∨ (l = 0 ∧ 0 < n)) → n < 10 ^ (k + 1) → k ≤ g → textR (k + 1) l n out = digitsL 10 (g + 1) n out := by
 intro k
 induction k with
 | zero =>
  intro g l n out hl hn _
  rw [textR_step (by omega)]
  have hn : n < 10 := by simpa using hn
  rw [dlast hn, digitC_low hn, Nat.mod_eq_of_lt hn, show n / 10 = 0 by omega, show l - 1 = 0 by omega, textR_stop]
 | succ k ih =>
  intro g l n out hl hn hg
  rw [textR_step (by omega)]
  by_cases h10 : n < 10
  ·rw [dlast h10, digitC_low h10, Nat.mod_eq_of_lt h10, show n / 10 = 0 by omega, show l - 1 = 0 by omega, textR_stop]
  ·rw [dstep h10, digitC_low (Nat.mod_lt _ (by decide))]
   obtain ⟨g', rfl⟩ : ∃ g', g = g' + 1 := ⟨g - 1, by omega⟩
   exact ih g' _ _ _ (.inr ⟨by omega, by omega⟩) (by rw [Nat.div_lt_iff_lt_mul (by decide)]; simpa [Nat.pow_succ] using hn) (by omega)
theorem text_1 {n : Nat} (h : n < 10000000000) : textR 10 1 n [] = fmtN 10 n := textR_dig 9 69 1 n [] (.inl rfl) h (by decide)
theorem text_0 {n : Nat} (h0 : 0 < n) (h : n < 10000000000) : textR 10 0 n [] = fmtN 10 n := textR_dig 9 69 0 n [] (.inr ⟨rfl, h0⟩) h (by decide)
def text4Ok (f : Nat) : Bool := textR 10 4 f [] == (fmtN 10 (10000 + f)).drop 1
theorem text4_all : (List.range 10000).all text4Ok = true := by decide +kernel
theorem text_4 {f : Nat} (h : f < 10000) : textR 10 4 f [] = (fmtN 10 (10000 + f)).drop 1 := by
 have := List.all_eq_true.1 text4_all f (by simp [h])
 exact eq_of_beq this
theorem dgB_eq {d : Int} {e : Nat} (h : d = e) (he : e < 10) : dgB d = [UInt8.ofNat (48 + e)] := by
 subst h
 have hw : IntKind.i64.wrap (48 + (e : Int)) = ((48 + e : Nat) : Int) := by rw [wrap_in (by omega) (by omega)]; omega
 have h8 : IntKind.u8.wrap ((48 + e : Nat) : Int) = ((48 + e : Nat) : Int) := by rw [wrap8]; omega
 show [(some (UInt8.ofNat (IntKind.u8.wrap (IntKind.i64.wrap (48 + (e : Int)))).toNat)).getD 0] = _
 rw [hw, h8, Int.toNat_natCast]; rfl
theorem fits_sm2 {a b : List UInt8} (h1 : a.length ≤ 2000) (h2 : b.length ≤ 2000) : strFits a b = true := by
 rw [strFits_iff]; omega
theorem r11 {k : Nat} (hk : k ≤ 10) (n m : Int) (s : List UInt8) (N : Int → List UInt8 → Prop) (X : Ex → List UInt8 → Prop) (h : e11 k n m s N X) : w11 k n m s N X :=
 match k, hk, h with
 | 0, _, h => v11_0 n m s N X h
 | 1, _, h => v11_1 n m s N X h
 | 2, _, h => v11_2 n m s N X h
 | 3, _, h => v11_3 n m s N X h
 | 4, _, h => v11_4 n m s N X h
 | 5, _, h => v11_5 n m s N X h
 | 6, _, h => v11_6 n m s N X h
 | 7, _, h => v11_7 n m s N X h
 | 8, _, h => v11_8 n m s N X h
 | 9, _, h => v11_9 n m s N X h
 | 10, _, h => v11_10 n m s N X h
 | k + 11, hk, _ => absurd hk (by omega)
theorem r30 {k : Nat} (hk : k ≤ 10) (n l : Int) (s : List UInt8) (i : Int) (N : Int → List UInt8 → Int → Prop) (X : Ex → List UInt8 → Prop) (h : e30 k n l s i N X) : w30 k n l s i N X :=
 match k, hk, h with
 | 0, _, h => v30_0 n l s i N X h
 | 1, _, h => v30_1 n l s i N X h
 | 2, _, h => v30_2 n l s i N X h
 | 3, _, h => v30_3 n l s i N X h
 | 4, _, h => v30_4 n l s i N X h
 | 5, _, h => v30_5 n l s i N X h
 | 6, _, h => v30_6 n l s i N X h
 | 7, _, h => v30_7 n l s i N X h
 | 8, _, h => v30_8 n l s i N X h
 | 9, _, h => v30_9 n l s i N X h
 | 10, _, h => v30_10 n l s i N X h
 | k + 11, hk, _ => absurd hk (by omega)
theorem can11 (n m : Int) (s : List UInt8) (k : Nat) : (I11 n m s k).tidy [0, 3, 4] 0 = I11 n m s k := by kernel_rfl
theorem can30 (n l : Int) (s : List UInt8) (i : Int) (k : Nat) : (I30 n l s i k).tidy [0, 1, 5, 6] 0 = I30 n l s i k := by kernel_rfl
theorem can17 (d : Int) (s t : List UInt8) : (I17 d s t).tidy [0, 4, 5] 0 = I17 d s t := by kernel_rfl
theorem tmod_abs (m : Int) : ∃ e : Nat, e < 10 ∧ e = m.natAbs % 10 ∧ (m < 0 → m.tmod 10 = -(e : Int)) ∧ (0 ≤ m → m.tmod 10 = e) := by
 refine ⟨m.natAbs % 10, Nat.mod_lt _ (by decide), rfl, fun h => ?_, fun h => ?_⟩
 ·obtain ⟨a, rfl⟩ : ∃ a : Nat, m = -(a : Int) := ⟨m.natAbs, by omega⟩
  rw [Int.neg_tmod, Int.natAbs_neg, Int.natAbs_natCast, Int.ofNat_tmod]
  rfl
 ·obtain ⟨a, rfl⟩ := Int.eq_ofNat_of_zero_le h
  rfl
theorem tdiv_abs (m : Int) : (m.tdiv 10).natAbs = m.natAbs / 10 := by
 rw [Int.natAbs_tdiv]; rfl
theorem loop11 : ∀ (f : Nat) (n m : Int) (s : List UInt8) (k : Nat), m.natAbs < 10 ^ f → k + f ≤ 10 → m.natAbs ≤ 1000000000 → s.length ≤ k →
  Ev Door.cfg Tryd.prog 11 (.loop (loopAt Tryd.prog 11 6)) (I11 n m s k) fun e τ => e = .exit 0 ∧ τ = E11 n (textR f 0 m.natAbs s) (k + lenR f 0 m.natAbs) := by
 intro f
 induction f with
 | zero =>
  intro n m s k hm hk _ hs
  have h0 : m = 0 := by
   have : m.natAbs < 1 := by simpa using hm
   omega
  subst h0
  refine Ev.round (P := Tryd.prog) (C := Door.cfg) (i := 6) (t := ⟨[0, 3, 4], [0, 3], 0⟩) tab0_ok (by kernel_rfl) rfl (can11 n 0 s k) (r11 (by omega) n 0 s (fun _ _ => False) (fun e t => e = .exit 0 ∧ t = s) ?_) (fun τ h => h.2.elim) (fun e τ h => ?_)
  ·exact ⟨rfl, rfl, rfl⟩
  ·obtain ⟨h1, h2, h3⟩ := h
   refine ⟨h2, ?_⟩
   rw [h1, h3]; rfl
 | succ f ih =>
  intro n m s k hm hk hb hs
  by_cases h0 : m = 0
  ·subst h0
   refine Ev.round (P := Tryd.prog) (C := Door.cfg) (i := 6) (t := ⟨[0, 3, 4], [0, 3], 0⟩) tab0_ok (by kernel_rfl) rfl (can11 n 0 s k) (r11 (by omega) n 0 s (fun _ _ => False) (fun e t => e = .exit 0 ∧ t = s) ?_) (fun τ h => h.2.elim) (fun e τ h => ?_)
   ·exact ⟨rfl, rfl, rfl⟩
   ·obtain ⟨h1, h2, h3⟩ := h
    refine ⟨h2, ?_⟩
    rw [h1, h3, show (0 : Int).natAbs = 0 from rfl, textR_stop, lenR_stop]; rfl
  ·obtain ⟨e, e1, e2, e3, e4⟩ := tmod_abs m
   have hd : IntKind.i64.wrap (m.tdiv 10) = m.tdiv 10 := by
    have := tdiv_abs m
    rw [wrap_in (by omega) (by omega)]
   refine Ev.round (P := Tryd.prog) (C := Door.cfg) (i := 6) (t := ⟨[0, 3, 4], [0, 3], 0⟩) tab0_ok (by kernel_rfl) rfl (can11 n m s k) (r11 (by omega) n m s (fun m' t => m' = m.tdiv 10 ∧ t = UInt8.ofNat (48 + m.natAbs % 10) :: s) (fun _ _ => False) ?_) (fun τ h => ?_) (fun e τ h => h.2.elim)
   ·show d11 _ _ _ _
    unfold d11
    rw [show (m != 0) = true by simpa using h0, iteP_t, hd]
    have l1 : ([UInt8.ofNat (48 + e)] : List UInt8).length = 1 := rfl
    by_cases hn : m < 0
    ·by_cases he : e = 0
     ·rw [e3 hn, decide_eq_false (by omega), iteP_f, dgB_eq (e := e) (by omega) e1, fits_sm2 (by omega) (by omega), iteP_t]
      exact ⟨rfl, rfl, by rw [e2]; rfl⟩
     ·rw [e3 hn, decide_eq_true (by omega), iteP_t, show IntKind.i64.wrap (0 - -(e : Int)) = e by rw [wrap_in (by omega) (by omega)]; omega, dgB_eq rfl e1, fits_sm2 (by omega) (by omega), iteP_t]
      exact ⟨rfl, rfl, by rw [e2]; rfl⟩
    ·rw [e4 (by omega), decide_eq_false (by omega), iteP_f, dgB_eq rfl e1, fits_sm2 (by omega) (by omega), iteP_t]
     exact ⟨rfl, rfl, by rw [e2]; rfl⟩
   ·obtain ⟨h1, h2, h3⟩ := h
    rw [h1, h2, h3]
    have hq := tdiv_abs m
    refine (ih n (m.tdiv 10) (UInt8.ofNat (48 + m.natAbs % 10) :: s) (k + 1) ?_ (by omega) (by omega) (by simp; omega)).mono fun e τ h => ⟨h.1, h.2.trans ?_⟩
    ·rw [hq, Nat.div_lt_iff_lt_mul (by decide)]; simpa [Nat.pow_succ] using hm
    ·rw [hq, textR_step (k := f) (l := 0) (n := m.natAbs) (by omega), lenR_step (k := f) (l := 0) (n := m.natAbs) (by omega), show k + 1 + lenR f 0 (m.natAbs / 10) = k + (lenR f (0 - 1) (m.natAbs / 10) + 1) by show _ = k + (lenR f 0 (m.natAbs / 10) + 1); omega]
theorem okT11 : TabOk Tryd.prog Door.cfg T11 := by
 refine addL_ok tab0_ok fun σ s hs hp => ?_
 unfold L11 at hs
 split at hs
 ·rename_i n s0 m _ _ _
  cases Option.some.inj hs
  obtain ⟨h1, h2, h3, h4⟩ := hp
  have h2' : s0.data.toList = [] := by simpa using h2
  obtain ⟨j, ex, τ, g1, rfl, rfl⟩ := Ev.tidied (C := Door.cfg) (P := Tryd.prog) (b := loopAt Tryd.prog 11 6) (f := 11) (σ := σ) (t := ⟨[0, 3, 4], [0, 3], 0⟩) (τ := I11 n m [] 0) (by kernel_rfl) (by rw [h1, h2']; exact (can11 _ _ _ _).symm) (loop11 10 n m [] 0 (by show m.natAbs < 10000000000; omega) (by omega) (by omega) (Nat.le_refl _))
  rw [Nat.zero_add] at g1
  refine ⟨_, mem_altsK (fun k => ({ α := List UInt8, post := fun x => x = textR 10 0 m.natAbs [] ∧ k = lenR 10 0 m.natAbs, ex := .exit 0, st := fun x => E11 n x k } : LAlt)) 10 0 (lenR 10 0 m.natAbs) (Nat.zero_le _) (by have := lenR_le 10 0 m.natAbs; omega), ?_⟩
  exact ⟨textR 10 0 m.natAbs [], ⟨rfl, rfl⟩, j, g1⟩
 ·cases hs
theorem ok11n {T : Tab} (O : TabOk Tryd.prog Door.cfg T) : TabOk Tryd.prog Door.cfg (T.addC 11 C11n) := by
 refine addC_ok O fun args h s hs hp => ?_
 unfold C11n at hs
 split at hs
 ·rename_i n
  refine nspec_ok (Option.some.inj hs) (fun hpre => ?_) hp
  obtain ⟨h1, h2⟩ := hpre
  refine EvP.freshV okT11 (n := 60) (by kernel_rfl) (by kernel_rfl) (args' := [aK .i64 n]) rfl (c11 n _ ?_)
  unfold c11P
  by_cases h0 : n = 0
  ·subst h0
   exact (by rfl : aStr [48] = aStr (fmtI 0))
  ·rw [show (n == 0) = false by simpa using h0, iteP_f]
   refine ⟨rfl, ⟨rfl, rfl, h1, h2⟩, all_k (fun k x hx => ?_) _ _⟩
   obtain ⟨hx, _⟩ := hx
   rw [text_0 (by omega) (by omega)] at hx
   have hl : x.length ≤ 70 := by rw [hx]; exact fmt_len _ _
   by_cases hn : n < 0
   ·rw [decide_eq_true hn, iteP_t, fits_sm2 (by decide) (by omega), iteP_t]
    unfold fmtI
    rw [if_pos hn, hx]
   ·rw [decide_eq_false hn, iteP_f]
    unfold fmtI
    rw [if_neg hn, hx]; rfl
 ·cases hs
theorem tmod_nat {n : Int} (h : 0 ≤ n) : n.tmod 10 = ((n.toNat % 10 : Nat) : Int) ∧ (n.tdiv 10).toNat = n.toNat / 10 ∧ 0 ≤ n.tdiv 10 ∧ n.tdiv 10 ≤ n := by
 obtain ⟨a, rfl⟩ := Int.eq_ofNat_of_zero_le h
 refine ⟨rfl, rfl, ?_, ?_⟩
 ·show (0 : Int) ≤ ((a / 10 : Nat) : Int); omega
 ·show ((a / 10 : Nat) : Int) ≤ a; omega
theorem loop30 : ∀ (f : Nat) (n l : Int) (s : List UInt8) (i : Int) (k : Nat), n.toNat < 10 ^ f → k + f ≤ 10 → 0 ≤ n → n ≤ 1000000000 → s.length ≤ k → 0 ≤ i → i + f ≤ 100 → 0 ≤ l → l ≤ 4 → (l - i).toNat ≤ f →
  Ev Door.cfg Tryd.prog 30 (.loop (loopAt Tryd.prog 30 4)) (I30 n l s i k) fun e τ => e = .exit 0 ∧ τ = E30 (textR f (l - i).toNat n.toNat s) (k + lenR f (l - i).toNat n.toNat) := by
 intro f
 induction f with
 | zero =>
  intro n l s i k hn hk n0 _ hs i0 i1 l0 l4 hli
  have h0 : n = 0 := by
   have : n.toNat < 1 := by simpa using hn
   omega
  subst h0
  refine Ev.round (P := Tryd.prog) (C := Door.cfg) (i := 4) (t := ⟨[0, 1, 5, 6], [5], 0⟩) tab0_ok (by kernel_rfl) rfl (can30 0 l s i k) (r30 (by omega) 0 l s i (fun _ _ _ => False) (fun e t => e = .exit 0 ∧ t = s) ?_) (fun τ h => h.2.elim) (fun e τ h => ?_)
  ·show d30 _ _ _ _ _ _
   unfold d30
   rw [decide_eq_false (by omega), iteP_f]
   exact ⟨rfl, rfl, rfl⟩
  ·obtain ⟨h1, h2, h3⟩ := h
   refine ⟨h2, ?_⟩
   rw [h1, h3]; rfl
 | succ f ih =>
  intro n l s i k hn hk n0 n1 hs i0 i1 l0 l4 hli
  by_cases h0 : i < l ∨ 0 < n
  ·obtain ⟨e1, e2, e3, e4⟩ := tmod_nat n0
   have hd : IntKind.i64.wrap (n.tdiv 10) = n.tdiv 10 := wrap_in (by omega) (by omega)
   have hi : IntKind.i64.wrap (i + 1) = i + 1 := wrap_in (by omega) (by omega)
   have hb : dgB (n.tmod 10) = [UInt8.ofNat (48 + n.toNat % 10)] := dgB_eq e1 (Nat.mod_lt _ (by decide))
   have l1 : ([UInt8.ofNat (48 + n.toNat % 10)] : List UInt8).length = 1 := rfl
   refine Ev.round (P := Tryd.prog) (C := Door.cfg) (i := 4) (t := ⟨[0, 1, 5, 6], [5], 0⟩) tab0_ok (by kernel_rfl) rfl (can30 n l s i k) (r30 (by omega) n l s i (fun n' t j => n' = n.tdiv 10 ∧ t = UInt8.ofNat (48 + n.toNat % 10) :: s ∧ j = i + 1) (fun _ _ => False) ?_) (fun τ h => ?_) (fun e τ h => h.2.elim)
   ·show d30 _ _ _ _ _ _
    unfold d30
    rw [hd, hi, hb, fits_sm2 (by omega) (by omega), iteP_t]
    by_cases hil : i < l
    ·rw [decide_eq_true hil, iteP_t]; exact ⟨rfl, rfl, rfl, rfl⟩
    ·rw [decide_eq_false hil, iteP_f, decide_eq_true (by omega), iteP_t]; exact ⟨rfl, rfl, rfl, rfl⟩
   ·obtain ⟨h1, h2, h3, h4⟩ := h
    rw [h1, h2, h3, h4]
    refine (ih (n.tdiv 10) l (UInt8.ofNat (48 + n.toNat % 10) :: s) (i + 1) (k + 1) ?_ (by omega) e3 (by omega) (by simp; omega) (by omega) (by omega) l0 l4 (by omega)).mono fun e τ h => ⟨h.1, h.2.trans ?_⟩
    ·rw [e2, Nat.div_lt_iff_lt_mul (by decide)]; simpa [Nat.pow_succ] using hn
    ·rw [e2, textR_step (k := f) (l := (l - i).toNat) (n := n.toNat) (by omega), lenR_step (k := f) (l := (l - i).toNat) (n := n.toNat) (by omega), show (l - (i + 1)).toNat = (l - i).toNat - 1 by omega]
     congr 1
     omega
  ·have hn0 : n = 0 := by omega
   subst hn0
   refine Ev.round (P := Tryd.prog) (C := Door.cfg) (i := 4) (t := ⟨[0, 1, 5, 6], [5], 0⟩) tab0_ok (by kernel_rfl) rfl (can30 0 l s i k) (r30 (by omega) 0 l s i (fun _ _ _ => False) (fun e t => e = .exit 0 ∧ t = s) ?_) (fun τ h => h.2.elim) (fun e τ h => ?_)
   ·show d30 _ _ _ _ _ _
    unfold d30
    rw [decide_eq_false (by omega), iteP_f]
    exact ⟨rfl, rfl, rfl⟩
   ·obtain ⟨h1, h2, h3⟩ := h
    refine ⟨h2, ?_⟩
    rw [h1, h3, show (l - i).toNat = 0 by omega, show (0 : Int).toNat = 0 from rfl, textR_stop, lenR_stop]; rfl
theorem okT30 : TabOk Tryd.prog Door.cfg T30 := by
 refine addL_ok tab0_ok fun σ s hs hp => ?_
 unfold L30 at hs
 split at hs
 ·rename_i n l s0 i _ _ _ _
  cases Option.some.inj hs
  obtain ⟨h1, h2, h3, h4, h5, h6, h7⟩ := hp
  have h2' : s0.data.toList = [] := by simpa using h2
  subst h3
  obtain ⟨j, ex, τ, g1, rfl, rfl⟩ := Ev.tidied (C := Door.cfg) (P := Tryd.prog) (b := loopAt Tryd.prog 30 4) (f := 30) (σ := σ) (t := ⟨[0, 1, 5, 6], [5], 0⟩) (τ := I30 n l [] 0 0) (by kernel_rfl) (by rw [h1, h2']; exact (can30 _ _ _ _ _).symm) (loop30 10 n l [] 0 0 (by show n.toNat < 10000000000; omega) (by omega) h4 h5 (Nat.le_refl _) (by omega) (by omega) h6 h7 (by omega))
  rw [Nat.zero_add, Int.sub_zero] at g1
  refine ⟨_, mem_altsK (fun k => ({ α := List UInt8, post := fun x => x = textR 10 l.toNat n.toNat [] ∧ k = lenR 10 l.toNat n.toNat, ex := .exit 0, st := fun x => E30 x k } : LAlt)) 10 0 (lenR 10 l.toNat n.toNat) (Nat.zero_le _) (by have := lenR_le 10 l.toNat n.toNat; omega), ?_⟩
  exact ⟨textR 10 l.toNat n.toNat [], ⟨rfl, rfl⟩, j, g1⟩
 ·cases hs
theorem ok30 {T : Tab} (O : TabOk Tryd.prog Door.cfg T) : TabOk Tryd.prog Door.cfg (T.addC 30 C30) := by
 refine addC_ok O fun args h s hs hp => ?_
 unfold C30 at hs
 split at hs
 ·rename_i n l
  refine nspec_ok (Option.some.inj hs) (fun hpre => ?_) hp
  obtain ⟨h1, h2, h3, h4⟩ := hpre
  refine EvP.freshV okT30 (n := 60) (by kernel_rfl) (by kernel_rfl) (args' := [aK .i64 n, aK .i64 l]) rfl (c30 n l _ ?_)
  exact ⟨rfl, ⟨rfl, rfl, rfl, h1, h2, h3, h4⟩, all_k (fun k x hx => by rw [hx.1]) _ _⟩
 ·cases hs
theorem loop17 (d : Int) (s t : List UInt8) (h0 : (stripZ t).isEmpty = false) (h1 : t.length ≤ 1000) : Ev Door.cfg Tryd.prog 17 (.loop (loopAt Tryd.prog 17 7)) (I17 d s t) fun e τ => τ = I17 d s (slS τ 5) ∧ e = .exit 0 ∧ slS τ 5 = stripZ t := by
 refine loop_rd (C := Door.cfg) (P := Tryd.prog) tab0_ok (f := 17) (i := 7) (n := 40) (fun x : List UInt8 => I17 d s x) (fun τ => slS τ 5) (fun x => stripZ x = stripZ t ∧ x.length ≤ 1000) (fun x => x.length) (by kernel_rfl)
  (fun x y ht => ?_) (fun x hx => ?_) t ⟨rfl, h1⟩
 ·replace ht : Door.tidy 17 7 = some y := ht
  cases ht
  exact can17 d s x
 ·obtain ⟨q1, q2⟩ := hx
  refine v17 d s x (fun y => (stripZ y = stripZ t ∧ y.length ≤ 1000) ∧ y.length < x.length) (fun e y => e = .exit 0 ∧ y = stripZ t) ?_
  rcases snoc_cases x with rfl | ⟨u, c, rfl⟩
  ·rw [← q1] at h0; cases h0
  ·have hl : (u ++ [c]).length = u.length + 1 := by simp
   have hw : IntKind.i64.wrap (((u ++ [c]).length : Int) - 1) = (u.length : Int) := by rw [wrap_in (by omega) (by omega)]; omega
   have hb : byteAt (u ++ [c]) (u.length : Int) = c.toNat := by
    unfold byteAt
    rw [Int.toNat_natCast, List.getElem?_append_right (Nat.le_refl _), Nat.sub_self]; rfl
   rw [hw, show inRange (u.length : Int) (u ++ [c]).length = true by rw [inRange_iff]; omega, iteP_t, hb, show ((c.toNat : Int) == 48) = (c == 48) from beq_byte c 48 (by decide)]
   cases hc : c == 48 with
   | true =>
    have hc' : c = 48 := by simpa using hc
    subst hc'
    have e : (decide (0 ≤ (u.length : Int)) && decide ((u.length : Int) ≤ ((u ++ [(48 : UInt8)]).length : Int))) = true := by rw [hl]; simp; omega
    rw [iteP_t, e, iteP_t, Int.toNat_natCast, List.take_left']
    ·exact ⟨rfl, ⟨by rw [← q1, strip_zero], by omega⟩, by omega⟩
    ·rfl
   | false =>
    rw [iteP_f]
    exact ⟨rfl, rfl, by rw [← q1, strip_stop u c (by simpa using hc)]⟩
theorem okT17 : TabOk Tryd.prog Door.cfg T17 := by
 refine addL_ok (ok30 tab0_ok) fun σ s hs hp => ?_
 unfold L17 at hs
 split at hs
 ·rename_i d s0 t0 _ _ _
  refine lspec_ok (Option.some.inj hs) (fun hpre => ?_) hp
  obtain ⟨e, h1, h2⟩ := hpre
  refine Ev.tidied (t := ⟨[0, 4, 5], [0, 4, 5], 0⟩) (τ := I17 d s0.data.toList t0.data.toList) (by kernel_rfl) (by rw [e]; exact (can17 _ _ _).symm) ?_
  exact (loop17 _ _ _ h1 h2).mono fun ex τ h => ⟨slS τ 5, h.2.2, h.2.1, h.1⟩
 ·cases hs
end
end Go.Proofs.Pr
namespace Go.Proofs.Pr
open Go Go.Ef
noncomputable section
set_option maxRecDepth 100000
theorem strip_le (t : List UInt8) : (stripZ t).length ≤ t.length := by
 unfold stripZ
 rw [List.length_reverse]
 have := (List.dropWhile_sublist (l := t.reverse) (· == 48)).length_le
 rwa [List.length_reverse] at this
theorem ok17 {T : Tab} (O : TabOk Tryd.prog Door.cfg T) : TabOk Tryd.prog Door.cfg (T.addC 17 C17) := by
 refine addC_ok O fun args h s hs hp => ?_
 unfold C17 at hs
 split at hs
 ·rename_i d
  refine nspec_ok (Option.some.inj hs) (fun hpre => ?_) hp
  obtain ⟨h1, h2⟩ := hpre
  refine EvP.freshV okT17 (n := 60) (by kernel_rfl) (by kernel_rfl) (args' := [aK .i64 d]) rfl (c17 d _ ?_)
  rw [decide_eq_false (show ¬ d < -10000000000000 by omega), iteP_f, decide_eq_false (show ¬ 10000000000000 < d by omega), iteP_f]
  have fin : ∀ y : List UInt8, decF d = (if d < 0 then [45] else []) ++ y → y.length ≤ 1000 → iteP (decide (d < 0)) (iteP (strFits [45] y) (AV.sc (.string ⟨⟨[45] ++ y⟩⟩) = aStr (decF d)) False) (AV.sc (.string ⟨⟨y⟩⟩) = aStr (decF d)) := by
   intro y hy hl
   by_cases hn : d < 0
   ·rw [decide_eq_true hn, iteP_t, fits_sm2 (by decide) (by omega), iteP_t, hy, if_pos hn]; rfl
   ·rw [decide_eq_false hn, iteP_f, hy, if_neg hn]; rfl
  have half : ∀ m : Int, 0 ≤ m → m ≤ 10000000000000 → m.toNat = d.natAbs →
    ((0 : Int) ≤ IntKind.i64.wrap (m.tdiv 10000) ∧ IntKind.i64.wrap (m.tdiv 10000) ≤ 1000000000 ∧ (0 : Int) ≤ 1 ∧ (1 : Int) ≤ 4) ∧ ∀ x : List UInt8, x = textR 10 1 (IntKind.i64.wrap (m.tdiv 10000)).toNat [] →
     iteP (m.tmod 10000 != 0) (((0 : Int) ≤ m.tmod 10000 ∧ m.tmod 10000 ≤ 1000000000 ∧ (0 : Int) ≤ 4 ∧ (4 : Int) ≤ 4) ∧ ∀ x1 : List UInt8, x1 = textR 10 4 (m.tmod 10000).toNat [] →
      loopAt Tryd.prog 17 7 = loopAt Tryd.prog 17 7 ∧ (I17 d x x1 = I17 d x x1 ∧ (stripZ x1).isEmpty = false ∧ x1.length ≤ 1000) ∧ ∀ x2 : List UInt8, x2 = stripZ x1 →
       iteP (strFits x [46]) (iteP (strFits (x ++ [46]) x2) (iteP (decide (d < 0)) (iteP (strFits [45] (x ++ [46] ++ x2)) (AV.sc (.string ⟨⟨[45] ++ (x ++ [46] ++ x2)⟩⟩) = aStr (decF d)) False) (AV.sc (.string ⟨⟨x ++ [46] ++ x2⟩⟩) = aStr (decF d))) False) False)
      (iteP (decide (d < 0)) (iteP (strFits [45] x) (AV.sc (.string ⟨⟨[45] ++ x⟩⟩) = aStr (decF d)) False) (AV.sc (.string ⟨⟨x⟩⟩) = aStr (decF d))) := by
   intro m h0 h1 hm
   have t1 : m.tdiv 10000 = m / 10000 := Int.tdiv_eq_ediv_of_nonneg h0
   have t2 : m.tmod 10000 = m % 10000 := Int.tmod_eq_emod_of_nonneg h0
   rw [t1, t2, wrap_in (x := m / 10000) (by omega) (by omega)]
   refine ⟨⟨by omega, by omega, by omega, by omega⟩, fun x hx => ?_⟩
   rw [text_1 (by omega)] at hx
   have hx1 : x = fmtN 10 (d.natAbs / 10000) := by rw [hx]; congr 1; omega
   have xl : x.length ≤ 70 := by rw [hx]; exact fmt_len _ _
   by_cases hf : m % 10000 = 0
   ·rw [show (m % 10000 != 0) = false by simpa using hf, iteP_f]
    refine fin x ?_ (by omega)
    unfold decF
    rw [← hx1, if_pos (show d.natAbs % 10000 = 0 by omega), List.append_nil]
   ·rw [show (m % 10000 != 0) = true by simpa using hf, iteP_t]
    refine ⟨⟨by omega, by omega, by omega, by omega⟩, fun x1 hx1' => ?_⟩
    rw [text_4 (by omega)] at hx1'
    have e1 : x1 = (fmtN 10 (10000 + d.natAbs % 10000)).drop 1 := by rw [hx1']; congr 2; omega
    obtain ⟨f1, f2⟩ := frac_str (f := d.natAbs % 10000) (by omega) (by omega)
    rw [← e1] at f1
    have l1 : x1.length ≤ 70 := by
     have := fmt_len 10 (10000 + d.natAbs % 10000)
     rw [e1, List.length_drop]; omega
    refine ⟨rfl, ⟨rfl, f1, by omega⟩, fun x2 hx2 => ?_⟩
    have l2 := strip_le x1
    rw [← hx2] at l2
    rw [fits_sm2 (by omega) (by decide), iteP_t, fits_sm2 (by simp; omega) (by omega), iteP_t]
    refine fin _ ?_ (by simp; omega)
    unfold decF
    rw [← hx1, if_neg (show ¬ d.natAbs % 10000 = 0 by omega), ← e1, ← hx2]
    simp
  by_cases hn : d < 0
  ·rw [show iteP (decide (d < 0)) = fun a _ => a from funext fun a => funext fun b => by rw [decide_eq_true hn, iteP_t]]
   have := half (-d) (by omega) (by omega) (by omega)
   rw [show IntKind.i64.wrap (0 - d) = -d by rw [wrap_in (by omega) (by omega)]; omega]
   rw [show iteP (decide (d < 0)) = fun a _ => a from funext fun a => funext fun b => by rw [decide_eq_true hn, iteP_t]] at this
   exact this
  ·rw [show iteP (decide (d < 0)) = fun _ b => b from funext fun a => funext fun b => by rw [decide_eq_false hn, iteP_f]]
   have := half d (by omega) (by omega) (by omega)
   rw [show iteP (decide (d < 0)) = fun _ b => b from funext fun a => funext fun b => by rw [decide_eq_false hn, iteP_f]] at this
   exact this
 ·cases hs
theorem can7 (n d : Int) (a b : List UInt8) (m i : Int) : (I7 n d a b m i).tidy [0, 1, 5, 7, 10, 11] 0 = I7 n d a b m i := by kernel_rfl
theorem can7e (n d : Int) (b : List UInt8) (m : Int) : (E7 n d b m).tidy [0, 1, 7, 10] 0 = E7 n d b m := by kernel_rfl
theorem hexV_le {c : UInt8} (h : hexC c = true) : 0 ≤ hexV c ∧ hexV c ≤ 48 ∧ 48 ≤ (c.toNat : Int) ∧ (c.toNat : Int) ≤ 102 := by
 unfold hexC at h
 simp only [Bool.and_eq_true, decide_eq_true_eq] at h
 unfold hexV
 split <;> omega
theorem loop7a (n d : Int) (a b : List UInt8) (ha : a.length ≤ 1000) : ∀ (r : Nat) (i : Nat) (m : Int), (a.drop i).length = r → i ≤ a.length → 0 ≤ m → (m + 4) * 16 ^ r ≤ 1125899906842624 → (a.drop i).all hexC = true →
  Ev Door.cfg Tryd.prog 7 (.loop (loopAt Tryd.prog 7 11)) (I7 n d a b m i) fun e τ => e = .exit 0 ∧ τ = E7 n d b (hexL (a.drop i) m) := by
 intro r
 induction r with
 | zero =>
  intro i m hr hi _ _ _
  have hd : a.drop i = [] := List.length_eq_zero_iff.1 hr
  have hl : a.length ≤ i := List.drop_eq_nil_iff.1 hd
  refine Ev.round (P := Tryd.prog) (C := Door.cfg) (i := 11) (t := ⟨[0, 1, 5, 7, 10, 11], [0, 1, 7, 10], 0⟩) tab0_ok (by kernel_rfl) rfl (can7 n d a b m i) (v7a n d a b m i (fun _ _ => False) (fun e t => e = .exit 0 ∧ t = m) ?_) (fun τ h => h.2.elim) (fun e τ h => ?_)
  ·rw [decide_eq_false (by omega), iteP_f]
   exact ⟨rfl, rfl, rfl⟩
  ·obtain ⟨h1, h2, h3⟩ := h
   refine ⟨h2, ?_⟩
   rw [h1, h3, hd]; rfl
 | succ r ih =>
  intro i m hr hi hm hb hx
  have hil : i < a.length := by
   rw [List.length_drop] at hr; omega
  have hd : a.drop i = a[i] :: a.drop (i + 1) := List.drop_eq_getElem_cons hil
  have hby : byteAt a (i : Int) = (a[i]).toNat := by
   unfold byteAt
   rw [Int.toNat_natCast, List.getElem?_eq_getElem hil]; rfl
  rw [hd, List.all_cons, Bool.and_eq_true] at hx
  obtain ⟨x1, x2⟩ := hx
  obtain ⟨v1, v2, v3, v4⟩ := hexV_le x1
  have h0 : (0 : Int) < 16 ^ r := Int.pow_pos (by decide)
  have hp : (0 : Int) + 1 ≤ 16 ^ r := h0
  have hm16 : (16 * m + hexV a[i] + 4) * 16 ^ r ≤ 1125899906842624 := by
   have e : (m + 4) * 16 ^ (r + 1) = (16 * (m + 4)) * 16 ^ r := by rw [Int.pow_succ, Int.mul_comm (16 ^ r) 16, ← Int.mul_assoc, Int.mul_comm (m + 4) 16]
   rw [e] at hb
   exact Int.le_trans (Int.mul_le_mul_of_nonneg_right (by omega) (by omega)) hb
  have hbd : 16 * m + hexV a[i] + 4 ≤ 1125899906842624 := by
   refine Int.le_trans ?_ hm16
   have := Int.mul_le_mul_of_nonneg_left hp (show 0 ≤ 16 * m + hexV a[i] + 4 by omega)
   rwa [Int.zero_add, Int.mul_one] at this
  have hi1 : IntKind.i64.wrap ((i : Int) + 1) = ((i + 1 : Nat) : Int) := by rw [wrap_in (by omega) (by omega)]; rfl
  have hm1 : IntKind.i64.wrap (16 * m) = 16 * m := wrap_in (by omega) (by omega)
  refine Ev.round (P := Tryd.prog) (C := Door.cfg) (i := 11) (t := ⟨[0, 1, 5, 7, 10, 11], [0, 1, 7, 10], 0⟩) tab0_ok (by kernel_rfl) rfl (can7 n d a b m i) (v7a n d a b m i (fun m' j => m' = 16 * m + hexV a[i] ∧ j = ((i + 1 : Nat) : Int)) (fun _ _ => False) ?_) (fun τ h => ?_) (fun e τ h => h.2.elim)
  ·have hr1 : inRange (i : Int) a.length = true := by rw [inRange_iff]; omega
   rw [decide_eq_true (by omega), iteP_t, hr1, iteP_t, iteP_t, iteP_t, hby, hi1, hm1]
   by_cases h97 : (97 : Int) ≤ ((a[i]).toNat : Int)
   ·have hv : hexV a[i] = ((a[i]).toNat : Int) - 87 := if_pos h97
    rw [decide_eq_true h97, iteP_t, show IntKind.i64.wrap (16 * m + IntKind.i64.wrap (IntKind.i64.wrap (IntKind.u8.wrap (((a[i]).toNat : Int) - 97)) + 10)) = 16 * m + hexV a[i] by
     rw [wrap8, wrap_in (x := (((a[i]).toNat : Int) - 97) % 256) (by omega) (by omega), wrap_in (x := (((a[i]).toNat : Int) - 97) % 256 + 10) (by omega) (by omega), wrap_in (by omega) (by omega)]
     omega]
    exact ⟨rfl, rfl, rfl⟩
   ·have hv : hexV a[i] = ((a[i]).toNat : Int) - 48 := if_neg h97
    rw [decide_eq_false h97, iteP_f, show IntKind.i64.wrap (16 * m + IntKind.i64.wrap (IntKind.u8.wrap (((a[i]).toNat : Int) - 48))) = 16 * m + hexV a[i] by
     rw [wrap8, wrap_in (x := (((a[i]).toNat : Int) - 48) % 256) (by omega) (by omega), wrap_in (by omega) (by omega)]
     omega]
    exact ⟨rfl, rfl, rfl⟩
  ·obtain ⟨h1, h2, h3⟩ := h
   rw [h1, h2, h3]
   refine (ih (i + 1) (16 * m + hexV a[i]) ?_ (by omega) (by omega) hm16 x2).mono fun e τ h => ⟨h.1, h.2.trans ?_⟩
   ·rw [hd, List.length_cons] at hr; omega
   ·rw [hd]; rfl
theorem loop7b (n d : Int) (m : Int) (t : List UInt8) (h1 : t.length ≤ 1000) : Ev Door.cfg Tryd.prog 7 (.loop (loopAt Tryd.prog 7 19)) (E7 n d t m) fun e τ => τ = E7 n d (slS τ 7) m ∧ e = .exit 2 ∧ slS τ 7 = stripZ t := by
 refine loop_rd (C := Door.cfg) (P := Tryd.prog) tab0_ok (f := 7) (i := 19) (n := 40) (fun x : List UInt8 => E7 n d x m) (fun τ => slS τ 7) (fun x => stripZ x = stripZ t ∧ x.length ≤ 1000) (fun x => x.length) (by kernel_rfl)
  (fun x y ht => ?_) (fun x hx => ?_) t ⟨rfl, h1⟩
 ·replace ht : Door.tidy 7 19 = some y := ht
  cases ht
  exact can7e n d x m
 ·obtain ⟨q1, q2⟩ := hx
  refine v7b n d x m (fun y => (stripZ y = stripZ t ∧ y.length ≤ 1000) ∧ y.length < x.length) (fun e y => e = .exit 2 ∧ y = stripZ t) ?_
  rcases snoc_cases x with rfl | ⟨u, c, rfl⟩
  ·exact ⟨rfl, rfl, q1⟩
  ·have hl : (u ++ [c]).length = u.length + 1 := by simp
   have hw : IntKind.i64.wrap (((u ++ [c]).length : Int) - 1) = (u.length : Int) := by rw [wrap_in (by omega) (by omega)]; omega
   have hb : byteAt (u ++ [c]) (u.length : Int) = c.toNat := by
    unfold byteAt
    rw [Int.toNat_natCast, List.getElem?_append_right (Nat.le_refl _), Nat.sub_self]; rfl
   rw [decide_eq_true (show (0 : Int) < ((u ++ [c]).length : Int) by omega), iteP_t, hw, show inRange (u.length : Int) (u ++ [c]).length = true by rw [inRange_iff]; omega, iteP_t, hb, show ((c.toNat : Int) == 48) = (c == 48) from beq_byte c 48 (by decide)]
   cases hc : c == 48 with
   | true =>
    have hc' : c = 48 := by simpa using hc
    subst hc'
    have e : (decide (0 ≤ (u.length : Int)) && decide ((u.length : Int) ≤ ((u ++ [(48 : UInt8)]).length : Int))) = true := by rw [hl]; simp; omega
    rw [iteP_t, e, iteP_t, Int.toNat_natCast, List.take_left']
    ·exact ⟨rfl, ⟨by rw [← q1, strip_zero], by omega⟩, by omega⟩
    ·rfl
   | false =>
    rw [iteP_f]
    exact ⟨rfl, rfl, by rw [← q1, strip_stop u c (by simpa using hc)]⟩
theorem pow16 {r : Nat} (h : r ≤ 8) : ((0 : Int) + 4) * 16 ^ r ≤ 1125899906842624 := by
 have : ∀ r ∈ List.range 9, ((0 : Int) + 4) * 16 ^ r ≤ 1125899906842624 := by decide
 exact this r (by simp; omega)
theorem ok7 {T : Tab} (O : TabOk Tryd.prog Door.cfg T) : TabOk Tryd.prog Door.cfg ((T.addL 7 11 L7a).addL 7 19 L7b) := by
 refine addL_ok (addL_ok O fun σ s hs hp => ?_) fun σ s hs hp => ?_
 ·unfold L7a at hs
  split at hs
  ·rename_i n d a b m i _ _ _ _ _ _
   refine lspec_ok (Option.some.inj hs) (fun hpre => ?_) hp
   obtain ⟨e, rfl, i0, i1, l1, l2, l3⟩ := hpre
   obtain ⟨i, rfl⟩ := Int.eq_ofNat_of_zero_le i0
   refine Ev.tidied (t := ⟨[0, 1, 5, 7, 10, 11], [0, 1, 7, 10], 0⟩) (τ := I7 n d a.data.toList b.data.toList 0 i) (by kernel_rfl) (by rw [e]; exact (can7 _ _ _ _ _ _).symm) ?_
   exact (loop7a n d a.data.toList b.data.toList l1 _ i 0 rfl (by omega) (Int.le_refl _) (pow16 l2) l3).mono fun ex τ h => ⟨_, rfl, h.1, h.2⟩
  ·cases hs
 ·unfold L7b at hs
  split at hs
  ·rename_i n d b m _ _ _ _
   refine lspec_ok (Option.some.inj hs) (fun hpre => ?_) hp
   obtain ⟨e, l1⟩ := hpre
   refine Ev.tidied (t := ⟨[0, 1, 7, 10], [0, 1, 7, 10], 0⟩) (τ := E7 n d b.data.toList m) (by kernel_rfl) (by rw [e]; exact (can7e _ _ _ _).symm) ?_
   exact (loop7b n d m b.data.toList l1).mono fun ex τ h => ⟨slS τ 7, h.2.2, h.2.1, h.1⟩
  ·cases hs
end
end Go.Proofs.Pr
namespace Go.Proofs.Pr
open Go Go.Ef
noncomputable section
def okS (s : List UInt8) : Prop := checkF (s.length + 1) s = 0
theorem check_succ (n : Nat) (s : List UInt8) : checkF (n + 1) s = if hasPct s then (if (readF (after s)).2.2 = 0 then checkF n (readF (after s)).2.1 else (readF (after s)).2.2) else 0 := rfl
theorem okS_step {s : List UInt8} (h : okS s) (hp : hasPct s = true) : (readF (after s)).2.2 = 0 ∧ okS (restAt s) ∧ (restAt s).length < s.length := by
 unfold okS at h
 rw [check_succ, hp, if_pos rfl] at h
 by_cases h0 : (readF (after s)).2.2 = 0
 ·rw [if_pos h0] at h
  have l := rest_len hp h0
  refine ⟨h0, ?_, by omega⟩
  unfold okS
  rw [← h]
  exact checkF_more _ _ (by omega) _ (by show (restAt s).length < s.length; omega)
 ·rw [if_neg h0] at h; exact absurd h h0
theorem run_eq (n : Nat) (s : List UInt8) (l : Cells) (o : List UInt8) : runF (n + 1) s l o = if hasPct s then (if (resAt s l).2.1 = 0 then (if (resAt s l).1.kind = 37 then runF n (restAt s) (resAt s l).2.2 (o ++ before s ++ padF (resAt s l).1 [] [37]) else runF n (restAt s) ((resAt s l).2.2.drop 1) (o ++ before s ++ padF (resAt s l).1 (bodyAt (resAt s l)).1 (bodyAt (resAt s l)).2)) else ((resAt s l).2.1, (resAt s l).2.2, o ++ before s)) else (0, l, o ++ s) := rfl
def R (s : List UInt8) (l : Cells) (o : List UInt8) : Int × Cells × List UInt8 := runF (s.length + 1) s l o
end
end Go.Proofs.Pr
namespace Go.Proofs.Pr
open Go Go.Ef
noncomputable section
set_option maxRecDepth 100000
theorem v20 (s : List UInt8) (a : Int) (d : Dir) (N : Int → Dir → Prop) (X : Ex → Int → Dir → Prop) (h :
    iteP (decide (a < (↑s.length : Int)))
  (iteP (inRange a s.length)
    (Nat.le (4 : Nat) (1000000 : Nat) ∧
      ∀ (x : Bool),
        (x =
            [(45 : UInt8), (48 : UInt8), (43 : UInt8), (32 : UInt8)].any fun (b : UInt8) =>
              decide ((↑b.toNat : Int) = byteAt s a)) →
          iteP x
            (iteP (inRange a s.length)
              (iteP (byteAt s a == (45 : Int))
                (I20 s (IntKind.i64.wrap (a + (1 : Int)))
                      { minus := true, zero := d.zero, plus := d.plus, space := d.space, width := d.width,
                        prec := d.prec, kind := d.kind } =
                    I20 s (IntKind.i64.wrap (a + (1 : Int)))
                      { minus := true, zero := d.zero, plus := d.plus, space := d.space, width := d.width,
                        prec := d.prec, kind := d.kind } ∧
                  N (IntKind.i64.wrap (a + (1 : Int)))
                    { minus := true, zero := d.zero, plus := d.plus, space := d.space, width := d.width, prec := d.prec,
                      kind := d.kind })
                (iteP (byteAt s a == (48 : Int))
                  (I20 s (IntKind.i64.wrap (a + (1 : Int)))
                        { minus := d.minus, zero := true, plus := d.plus, space := d.space, width := d.width,
                          prec := d.prec, kind := d.kind } =
                      I20 s (IntKind.i64.wrap (a + (1 : Int)))
                        { minus := d.minus, zero := true, plus := d.plus, space := d.space, width := d.width,
                          prec := d.prec, kind := d.kind } ∧
                    N (IntKind.i64.wrap (a + (1 : Int)))
                      { minus := d.minus, zero := true, plus := d.plus, space := d.space, width := d.width,
                        prec := d.prec, kind := d.kind })
                  (iteP (byteAt s a == (43 : Int))
                    (I20 s (IntKind.i64.wrap (a + (1 : Int)))
                          { minus := d.minus, zero := d.zero, plus := true, space := d.space, width := d.width,
                            prec := d.prec, kind := d.kind } =
                        I20 s (IntKind.i64.wrap (a + (1 : Int)))
                          { minus := d.minus, zero := d.zero, plus := true, space := d.space, width := d.width,
                            prec := d.prec, kind := d.kind } ∧
                      N (IntKind.i64.wrap (a + (1 : Int)))
                        { minus := d.minus, zero := d.zero, plus := true, space := d.space, width := d.width,
                          prec := d.prec, kind := d.kind })
                    (I20 s (IntKind.i64.wrap (a + (1 : Int)))
                          { minus := d.minus, zero := d.zero, plus := d.plus, space := true, width := d.width,
                            prec := d.prec, kind := d.kind } =
                        I20 s (IntKind.i64.wrap (a + (1 : Int)))
                          { minus := d.minus, zero := d.zero, plus := d.plus, space := true, width := d.width,
                            prec := d.prec, kind := d.kind } ∧
                      N (IntKind.i64.wrap (a + (1 : Int)))
                        { minus := d.minus, zero := d.zero, plus := d.plus, space := true, width := d.width,
                          prec := d.prec, kind := d.kind }))))
              False)
            (I20 s a
                  { minus := d.minus, zero := d.zero, plus := d.plus, space := d.space, width := d.width,
                    prec := d.prec, kind := d.kind } =
                I20 s a
                  { minus := d.minus, zero := d.zero, plus := d.plus, space := d.space, width := d.width,
                    prec := d.prec, kind := d.kind } ∧
              X (Ex.exit (0 : Nat)) a
                { minus := d.minus, zero := d.zero, plus := d.plus, space := d.space, width := d.width, prec := d.prec,
                  kind := d.kind }))
    False)
  (I20 s a
        { minus := d.minus, zero := d.zero, plus := d.plus, space := d.space, width := d.width, prec := d.prec,
          kind := d.kind } =
      I20 s a
        { minus := d.minus, zero := d.zero, plus := d.plus, space := d.space, width := d.width, prec := d.prec,
          kind := d.kind } ∧
    X (Ex.exit (0 : Nat)) a
      { minus := d.minus, zero := d.zero, plus := d.plus, space := d.space, width := d.width, prec := d.prec,
        kind := d.kind })) :
    (fun (s : List UInt8) (a : Int) (d : Dir) (N : Int → Dir → Prop) (X : Ex → Int → Dir → Prop) => wpRound R2 Door.cfg Tryd.prog 40 20 3 (I20 s a d) (fun τ => τ = I20 s (slI τ 1) (rdDir τ 1) ∧ N (slI τ 1) (rdDir τ 1)) (fun e τ => τ = I20 s (slI τ 1) (rdDir τ 1) ∧ X e (slI τ 1) (rdDir τ 1))) s a d N X :=
  Eq.mp (by kernel_rfl) h
theorem v9 (s : List UInt8) (k : Int) (N : Int → Prop) (X1 : Int → Prop) (X2 : Ex → Prop) (h :
 iteP (decide (k < (↑s.length : Int))) (iteP (inRange k s.length) (iteP (byteAt s k != 37) (I9 s (IntKind.i64.wrap (k + 1)) = I9 s (IntKind.i64.wrap (k + 1)) ∧ N (IntKind.i64.wrap (k + 1))) ((s.length ≤ 1000000 ∧ 0 ≤ IntKind.i64.wrap (k + 1) ∧ IntKind.i64.wrap (k + 1) ≤ (↑s.length : Int)) ∧ ∀ (x : Dir × Int × Int), x.snd.snd = 0 ∧ 0 ≤ x.snd.fst ∧ x.snd.fst ≤ (↑s.length : Int) ∧
 readR (List.drop (IntKind.i64.wrap (k + 1)).toNat s) = (x.fst, List.drop x.snd.fst.toNat s, 0) ∨ x.snd.snd ≠ 0 ∧ (readR (List.drop (IntKind.i64.wrap (k + 1)).toNat s)).snd.snd = x.snd.snd → iteP (x.snd.snd != 0) (J9 x.snd.snd = J9 x.snd.snd ∧ X1 x.snd.snd) (I9 s x.snd.fst = I9 s x.snd.fst ∧ N x.snd.fst))) False) (E9 = E9 ∧ X2 (Ex.exit 0))) :
 (fun (s : List UInt8) (k : Int) (N : Int → Prop) (X1 : Int → Prop) (X2 : Ex → Prop) => wpRound R4 Door.cfg Tryd.prog 40 9 3 (I9 s k) (fun τ => τ = I9 s (slI τ 3) ∧ N (slI τ 3)) (fun e τ => match e with | .ret => τ = J9 (slI τ 2) ∧ X1 (slI τ 2) | e => τ = E9 ∧ X2 e)) s k N X1 X2 :=
 Eq.mp (by kernel_rfl) h
theorem c9 (s : List UInt8) (K : AV → Prop) (h :
 loopAt Tryd.prog 9 3 = loopAt Tryd.prog 9 3 ∧ (I9 s 0 = I9 s 0 ∧ (0 : Int) = 0 ∧ s.length ≤ 1000000) ∧ (∀ (_ : Unit), checkR (s.length + 1) s = 0 → K (AV.sc (Value.int IntKind.i64 0))) ∧ ∀ (x : Int), x = checkR (s.length + 1) s → K (AV.sc (Value.int IntKind.i64 x))) :
 (fun (s : List UInt8) (K : AV → Prop) => wpCall R5 Door.cfg Tryd.prog 40 9 [aStr s] heapF fun r h' => wpBack h' r K) s K :=
 Eq.mp (by kernel_rfl) h
theorem c3 (s : List UInt8) (K : AV → Heap → Prop) (h :
 iteP (decide (60 < (↑s.length : Int))) (True ∧ ∀ (x : Bool), x = true → iteP x (K (AV.sc (Value.bool true)) { next := 1, objs := Tr.leaf, ro := 0, ty := Tr.leaf }) (K (AV.sc (Value.bool false)) { next := 1, objs := Tr.leaf, ro := 0, ty := Tr.leaf })) (s.length.le 1000000 ∧ ∀ (x : Int), x = checkF (s.length + 1) s → s.length.le 1000000 ∧ ∀ (x_1 : Int), x_1 = checkR (s.length + 1) s → iteP (x == x_1)
 (True ∧ ∀ (x : Bool), x = true → iteP x (K (AV.sc (Value.bool true)) { next := 1, objs := Tr.leaf, ro := 0, ty := Tr.leaf }) (K (AV.sc (Value.bool false)) { next := 1, objs := Tr.leaf, ro := 0, ty := Tr.leaf })) (K (AV.sc (Value.bool false)) { next := 1, objs := Tr.leaf, ro := 0, ty := Tr.leaf }))) :
 (fun (s : List UInt8) (K : AV → Heap → Prop) => wpCall R6 Door.cfg Tryd.prog 40 3 [aStr s] heap0 K) s K :=
 Eq.mp (by kernel_rfl) h
end
end Go.Proofs.Pr
namespace Go.Proofs.Pr
open Go Go.Ef
noncomputable section
def shortArg (e : List AV) : Bool :=
 match e with
 | [_, _, .sc (.string s)] => decide (s.data.toList.length ≤ 60)
 | _ => false
def fewL (l : Cells) : Bool := decide (l.length ≤ 10) && l.all shortArg
def fewA : AV → Bool
 | .sl l _ => fewL l
 | _ => true
def goodA (a : AV) : Prop := (∃ l, a = .sl l 0 ∧ ∀ e ∈ l, goodArg e) ∨ a = nilA
def I14 (s : List UInt8) (l : Cells) (k : Int) : St := stOf 26 [(0, sStr s), (1, .v (.sl l 0)), (5, sInt k)] [] heapF
def E14 (s : List UInt8) : St := stOf 26 [(0, sStr s), (4, .unk)] [] heapF
def J14 (s : List UInt8) : St := stOf 26 [(0, sStr s), (4, sBool false)] [] heapF
def L14 (σ : St) : Option LSpec :=
 match σ.at 0, σ.at 1, σ.at 5 with
 | .v (.sc (.string s)), .v (.sl l 0), .v (.sc (.int .i64 k)) => some { pre := σ.tidy [0, 1, 5] 0 = I14 s.data.toList l k ∧ k = 0 ∧ (∀ e ∈ l, goodArg e), alts := [{ α := Unit, post := fun _ => fewL l = true, ex := .exit 0, st := fun _ => E14 s.data.toList }, { α := Unit, post := fun _ => fewL l = false, ex := .ret, st := fun _ => J14 s.data.toList }] }
 | _, _, _ => none
def C14 (args : List AV) (h : Heap) : Option CSpec :=
 match args with
 | [.sc (.string s), a] => some (nspec (goodA a) (fewA a && decide (s.data.toList.length ≤ 60)) (fun x => aBool x) h)
 | _ => none
def X1 : Tab := tab0.addL 14 3 L14
def X2 : Tab := (tab0.addC 14 C14).addC 10 C10
end
end Go.Proofs.Pr
namespace Go.Proofs.Pr
open Go Go.Ef
noncomputable section
def C55 (args : List AV) (h : Heap) : Option CSpec :=
 match args with
 | [.sc (.int .i64 n), .sc (.int .i64 b)] => some (nspec (0 ≤ n ∧ n ≤ 4294967295 ∧ (b = 8 ∨ b = 10 ∨ b = 16)) (fmtN b.toNat n.toNat) (fun x => aStr x) h)
 | _ => none
def C56 (args : List AV) (h : Heap) : Option CSpec :=
 match args with
 | [.agg [.sc (.bool a), .sc (.bool b), .sc (.bool c), .sc (.bool e), .sc (.int .i64 w), .sc (.int .i64 p), .sc (.int .u8 kd)], .sc (.bool q)] => some (nspec True (signF ⟨a, b, c, e, w, p, kd⟩ q) (fun x => aStr x) h)
 | _ => none
def C57 (args : List AV) (h : Heap) : Option CSpec :=
 match args with
 | [.sc (.string s)] => some (nspec (s.data.toList.length ≤ 1000 ∧ s.data.toList.all (fun b => decide (b.toNat < 128)) = true) (s.data.toList.map upC) (fun x => aStr x) h)
 | _ => none
def C45 (args : List AV) (h : Heap) : Option CSpec :=
 match args with
 | [.sc (.int .i64 n)] => some (nspec (n ≤ 1000) (zerosF n) (fun x => aStr x) h)
 | _ => none
def F1 : Tab := (((((((tab0.addC 42 C42).addC 61 C61).addC 45 C45).addC 55 C55).addC 54 C54).addC 57 C57).addC 56 C56)
def F3 : Tab := ((F1.name 41 23).name 41 32).name 41 53
def F2 : Tab := ((F1.name 40 22).name 41 32).name 41 53
end
end Go.Proofs.Pr
namespace Go.Proofs.Pr
open Go Go.Ef
noncomputable section
set_option maxRecDepth 100000
theorem c41_100 (a : Bool) (b : Bool) (c : Bool) (e : Bool) (w : Int) (p : Int) (n : Int) (K : AV → Prop) (h :
 iteP (decide (n < 0)) (True ∧ ∀ (x : List UInt8), x = signF (Dir.mk a b c e w p 100) true → ∀ (m : Int), m = max n (IntKind.i64.wrap (0 - n)) → iteP (decide (m < 0)) (∀ (m_1 : Int), m_1 = IntKind.i64.wrap (m + 4294967296) → (0 ≤ m_1 ∧ m_1 ≤ 4294967295 ∧ ((10 : Int) = 8 ∨ (10 : Int) = 10 ∨ (10 : Int) = 16)) ∧ ∀ (x_1 : List UInt8), x_1 = fmtN 10 m_1.toNat → iteP (n == 0) (iteP (p == 0) (∀ (m : Int),
 m = IntKind.i64.wrap (p - 0) → (1000 - m).NonNeg ∧ ∀ (x_2 : List UInt8), x_2 = zerosF m → (true = true ∧ [x_2, []].length ≤ 1000 ∧ [x_2, []].flatten.length ≤ 10000000) ∧ ∀ (x_3 : List UInt8), x_3 = [x_2, []].flatten → K (AV.tup [AV.sc (Value.string (ByteArray.mk (Array.mk x))), AV.sc (Value.string (ByteArray.mk (Array.mk x_3)))])) (∀ (m : Int), m = IntKind.i64.wrap (p - (↑x_1.length : Int)) →
 (1000 - m).NonNeg ∧ ∀ (x_2 : List UInt8), x_2 = zerosF m → (true = true ∧ [x_2, x_1].length ≤ 1000 ∧ [x_2, x_1].flatten.length ≤ 10000000) ∧ ∀ (x_3 : List UInt8), x_3 = [x_2, x_1].flatten → K (AV.tup [AV.sc (Value.string (ByteArray.mk (Array.mk x))), AV.sc (Value.string (ByteArray.mk (Array.mk x_3)))]))) (∀ (m : Int), m = IntKind.i64.wrap (p - (↑x_1.length : Int)) → (1000 - m).NonNeg ∧
 ∀ (x_2 : List UInt8), x_2 = zerosF m → (true = true ∧ [x_2, x_1].length ≤ 1000 ∧ [x_2, x_1].flatten.length ≤ 10000000) ∧ ∀ (x_3 : List UInt8), x_3 = [x_2, x_1].flatten → K (AV.tup [AV.sc (Value.string (ByteArray.mk (Array.mk x))), AV.sc (Value.string (ByteArray.mk (Array.mk x_3)))]))) ((0 ≤ m ∧ m ≤ 4294967295 ∧ ((10 : Int) = 8 ∨ (10 : Int) = 10 ∨ (10 : Int) = 16)) ∧ ∀ (x_1 : List UInt8),
 x_1 = fmtN 10 m.toNat → iteP (n == 0) (iteP (p == 0) (∀ (m : Int), m = IntKind.i64.wrap (p - 0) → (1000 - m).NonNeg ∧ ∀ (x_2 : List UInt8), x_2 = zerosF m → (true = true ∧ [x_2, []].length ≤ 1000 ∧ [x_2, []].flatten.length ≤ 10000000) ∧ ∀ (x_3 : List UInt8), x_3 = [x_2, []].flatten → K (AV.tup [AV.sc (Value.string (ByteArray.mk (Array.mk x))), AV.sc (Value.string (ByteArray.mk (Array.mk x_3)))]))
 (∀ (m : Int), m = IntKind.i64.wrap (p - (↑x_1.length : Int)) → (1000 - m).NonNeg ∧ ∀ (x_2 : List UInt8), x_2 = zerosF m → (true = true ∧ [x_2, x_1].length ≤ 1000 ∧ [x_2, x_1].flatten.length ≤ 10000000) ∧ ∀ (x_3 : List UInt8), x_3 = [x_2, x_1].flatten → K (AV.tup [AV.sc (Value.string (ByteArray.mk (Array.mk x))), AV.sc (Value.string (ByteArray.mk (Array.mk x_3)))]))) (∀ (m : Int),
 m = IntKind.i64.wrap (p - (↑x_1.length : Int)) → (1000 - m).NonNeg ∧ ∀ (x_2 : List UInt8), x_2 = zerosF m → (true = true ∧ [x_2, x_1].length ≤ 1000 ∧ [x_2, x_1].flatten.length ≤ 10000000) ∧ ∀ (x_3 : List UInt8), x_3 = [x_2, x_1].flatten → K (AV.tup [AV.sc (Value.string (ByteArray.mk (Array.mk x))), AV.sc (Value.string (ByteArray.mk (Array.mk x_3)))])))) (True ∧ ∀ (x : List UInt8),
 x = signF (Dir.mk a b c e w p 100) false → ∀ (m : Int), m = max n (IntKind.i64.wrap (0 - n)) → iteP (decide (m < 0)) (∀ (m_1 : Int), m_1 = IntKind.i64.wrap (m + 4294967296) → (0 ≤ m_1 ∧ m_1 ≤ 4294967295 ∧ ((10 : Int) = 8 ∨ (10 : Int) = 10 ∨ (10 : Int) = 16)) ∧ ∀ (x_1 : List UInt8), x_1 = fmtN 10 m_1.toNat → iteP (n == 0) (iteP (p == 0) (∀ (m : Int), m = IntKind.i64.wrap (p - 0) →
 (1000 - m).NonNeg ∧ ∀ (x_2 : List UInt8), x_2 = zerosF m → (true = true ∧ [x_2, []].length ≤ 1000 ∧ [x_2, []].flatten.length ≤ 10000000) ∧ ∀ (x_3 : List UInt8), x_3 = [x_2, []].flatten → K (AV.tup [AV.sc (Value.string (ByteArray.mk (Array.mk x))), AV.sc (Value.string (ByteArray.mk (Array.mk x_3)))])) (∀ (m : Int), m = IntKind.i64.wrap (p - (↑x_1.length : Int)) → (1000 - m).NonNeg ∧
 ∀ (x_2 : List UInt8), x_2 = zerosF m → (true = true ∧ [x_2, x_1].length ≤ 1000 ∧ [x_2, x_1].flatten.length ≤ 10000000) ∧ ∀ (x_3 : List UInt8), x_3 = [x_2, x_1].flatten → K (AV.tup [AV.sc (Value.string (ByteArray.mk (Array.mk x))), AV.sc (Value.string (ByteArray.mk (Array.mk x_3)))]))) (∀ (m : Int), m = IntKind.i64.wrap (p - (↑x_1.length : Int)) → (1000 - m).NonNeg ∧ ∀ (x_2 : List UInt8),
 x_2 = zerosF m → (true = true ∧ [x_2, x_1].length ≤ 1000 ∧ [x_2, x_1].flatten.length ≤ 10000000) ∧ ∀ (x_3 : List UInt8), x_3 = [x_2, x_1].flatten → K (AV.tup [AV.sc (Value.string (ByteArray.mk (Array.mk x))), AV.sc (Value.string (ByteArray.mk (Array.mk x_3)))]))) ((0 ≤ m ∧ m ≤ 4294967295 ∧ ((10 : Int) = 8 ∨ (10 : Int) = 10 ∨ (10 : Int) = 16)) ∧ ∀ (x_1 : List UInt8), x_1 = fmtN 10 m.toNat →
 iteP (n == 0) (iteP (p == 0) (∀ (m : Int), m = IntKind.i64.wrap (p - 0) → (1000 - m).NonNeg ∧ ∀ (x_2 : List UInt8), x_2 = zerosF m → (true = true ∧ [x_2, []].length ≤ 1000 ∧ [x_2, []].flatten.length ≤ 10000000) ∧ ∀ (x_3 : List UInt8), x_3 = [x_2, []].flatten → K (AV.tup [AV.sc (Value.string (ByteArray.mk (Array.mk x))), AV.sc (Value.string (ByteArray.mk (Array.mk x_3)))])) (∀ (m : Int),
 m = IntKind.i64.wrap (p - (↑x_1.length : Int)) → (1000 - m).NonNeg ∧ ∀ (x_2 : List UInt8), x_2 = zerosF m → (true = true ∧ [x_2, x_1].length ≤ 1000 ∧ [x_2, x_1].flatten.length ≤ 10000000) ∧ ∀ (x_3 : List UInt8), x_3 = [x_2, x_1].flatten → K (AV.tup [AV.sc (Value.string (ByteArray.mk (Array.mk x))), AV.sc (Value.string (ByteArray.mk (Array.mk x_3)))]))) (∀ (m : Int),
 m = IntKind.i64.wrap (p - (↑x_1.length : Int)) → (1000 - m).NonNeg ∧ ∀ (x_2 : List UInt8), x_2 = zerosF m → (true = true ∧ [x_2, x_1].length ≤ 1000 ∧ [x_2, x_1].flatten.length ≤ 10000000) ∧ ∀ (x_3 : List UInt8), x_3 = [x_2, x_1].flatten → K (AV.tup [AV.sc (Value.string (ByteArray.mk (Array.mk x))), AV.sc (Value.string (ByteArray.mk (Array.mk x_3)))]))))) :
 (fun (a b c e : Bool) (w p n : Int) (K : AV → Prop) => wpCall F3 Door.cfg Tryd.prog 60 41 [.agg [aBool a, aBool b, aBool c, aBool e, aK .i64 w, aK .i64 p, aK .u8 100], aK .i64 n] heapF fun r h' => wpBack h' r K) a b c e w p n K :=
 Eq.mp (by kernel_rfl) h
theorem c41_105 (a : Bool) (b : Bool) (c : Bool) (e : Bool) (w : Int) (p : Int) (n : Int) (K : AV → Prop) (h :
 iteP (decide (n < 0)) (True ∧ ∀ (x : List UInt8), x = signF (Dir.mk a b c e w p 105) true → ∀ (m : Int), m = max n (IntKind.i64.wrap (0 - n)) → iteP (decide (m < 0)) (∀ (m_1 : Int), m_1 = IntKind.i64.wrap (m + 4294967296) → (0 ≤ m_1 ∧ m_1 ≤ 4294967295 ∧ ((10 : Int) = 8 ∨ (10 : Int) = 10 ∨ (10 : Int) = 16)) ∧ ∀ (x_1 : List UInt8), x_1 = fmtN 10 m_1.toNat → iteP (n == 0) (iteP (p == 0) (∀ (m : Int),
 m = IntKind.i64.wrap (p - 0) → (1000 - m).NonNeg ∧ ∀ (x_2 : List UInt8), x_2 = zerosF m → (true = true ∧ [x_2, []].length ≤ 1000 ∧ [x_2, []].flatten.length ≤ 10000000) ∧ ∀ (x_3 : List UInt8), x_3 = [x_2, []].flatten → K (AV.tup [AV.sc (Value.string (ByteArray.mk (Array.mk x))), AV.sc (Value.string (ByteArray.mk (Array.mk x_3)))])) (∀ (m : Int), m = IntKind.i64.wrap (p - (↑x_1.length : Int)) →
 (1000 - m).NonNeg ∧ ∀ (x_2 : List UInt8), x_2 = zerosF m → (true = true ∧ [x_2, x_1].length ≤ 1000 ∧ [x_2, x_1].flatten.length ≤ 10000000) ∧ ∀ (x_3 : List UInt8), x_3 = [x_2, x_1].flatten → K (AV.tup [AV.sc (Value.string (ByteArray.mk (Array.mk x))), AV.sc (Value.string (ByteArray.mk (Array.mk x_3)))]))) (∀ (m : Int), m = IntKind.i64.wrap (p - (↑x_1.length : Int)) → (1000 - m).NonNeg ∧
 ∀ (x_2 : List UInt8), x_2 = zerosF m → (true = true ∧ [x_2, x_1].length ≤ 1000 ∧ [x_2, x_1].flatten.length ≤ 10000000) ∧ ∀ (x_3 : List UInt8), x_3 = [x_2, x_1].flatten → K (AV.tup [AV.sc (Value.string (ByteArray.mk (Array.mk x))), AV.sc (Value.string (ByteArray.mk (Array.mk x_3)))]))) ((0 ≤ m ∧ m ≤ 4294967295 ∧ ((10 : Int) = 8 ∨ (10 : Int) = 10 ∨ (10 : Int) = 16)) ∧ ∀ (x_1 : List UInt8),
 x_1 = fmtN 10 m.toNat → iteP (n == 0) (iteP (p == 0) (∀ (m : Int), m = IntKind.i64.wrap (p - 0) → (1000 - m).NonNeg ∧ ∀ (x_2 : List UInt8), x_2 = zerosF m → (true = true ∧ [x_2, []].length ≤ 1000 ∧ [x_2, []].flatten.length ≤ 10000000) ∧ ∀ (x_3 : List UInt8), x_3 = [x_2, []].flatten → K (AV.tup [AV.sc (Value.string (ByteArray.mk (Array.mk x))), AV.sc (Value.string (ByteArray.mk (Array.mk x_3)))]))
 (∀ (m : Int), m = IntKind.i64.wrap (p - (↑x_1.length : Int)) → (1000 - m).NonNeg ∧ ∀ (x_2 : List UInt8), x_2 = zerosF m → (true = true ∧ [x_2, x_1].length ≤ 1000 ∧ [x_2, x_1].flatten.length ≤ 10000000) ∧ ∀ (x_3 : List UInt8), x_3 = [x_2, x_1].flatten → K (AV.tup [AV.sc (Value.string (ByteArray.mk (Array.mk x))), AV.sc (Value.string (ByteArray.mk (Array.mk x_3)))]))) (∀ (m : Int),
 m = IntKind.i64.wrap (p - (↑x_1.length : Int)) → (1000 - m).NonNeg ∧ ∀ (x_2 : List UInt8), x_2 = zerosF m → (true = true ∧ [x_2, x_1].length ≤ 1000 ∧ [x_2, x_1].flatten.length ≤ 10000000) ∧ ∀ (x_3 : List UInt8), x_3 = [x_2, x_1].flatten → K (AV.tup [AV.sc (Value.string (ByteArray.mk (Array.mk x))), AV.sc (Value.string (ByteArray.mk (Array.mk x_3)))])))) (True ∧ ∀ (x : List UInt8),
 x = signF (Dir.mk a b c e w p 105) false → ∀ (m : Int), m = max n (IntKind.i64.wrap (0 - n)) → iteP (decide (m < 0)) (∀ (m_1 : Int), m_1 = IntKind.i64.wrap (m + 4294967296) → (0 ≤ m_1 ∧ m_1 ≤ 4294967295 ∧ ((10 : Int) = 8 ∨ (10 : Int) = 10 ∨ (10 : Int) = 16)) ∧ ∀ (x_1 : List UInt8), x_1 = fmtN 10 m_1.toNat → iteP (n == 0) (iteP (p == 0) (∀ (m : Int), m = IntKind.i64.wrap (p - 0) →
 (1000 - m).NonNeg ∧ ∀ (x_2 : List UInt8), x_2 = zerosF m → (true = true ∧ [x_2, []].length ≤ 1000 ∧ [x_2, []].flatten.length ≤ 10000000) ∧ ∀ (x_3 : List UInt8), x_3 = [x_2, []].flatten → K (AV.tup [AV.sc (Value.string (ByteArray.mk (Array.mk x))), AV.sc (Value.string (ByteArray.mk (Array.mk x_3)))])) (∀ (m : Int), m = IntKind.i64.wrap (p - (↑x_1.length : Int)) → (1000 - m).NonNeg ∧
 ∀ (x_2 : List UInt8), x_2 = zerosF m → (true = true ∧ [x_2, x_1].length ≤ 1000 ∧ [x_2, x_1].flatten.length ≤ 10000000) ∧ ∀ (x_3 : List UInt8), x_3 = [x_2, x_1].flatten → K (AV.tup [AV.sc (Value.string (ByteArray.mk (Array.mk x))), AV.sc (Value.string (ByteArray.mk (Array.mk x_3)))]))) (∀ (m : Int), m = IntKind.i64.wrap (p - (↑x_1.length : Int)) → (1000 - m).NonNeg ∧ ∀ (x_2 : List UInt8),
 x_2 = zerosF m → (true = true ∧ [x_2, x_1].length ≤ 1000 ∧ [x_2, x_1].flatten.length ≤ 10000000) ∧ ∀ (x_3 : List UInt8), x_3 = [x_2, x_1].flatten → K (AV.tup [AV.sc (Value.string (ByteArray.mk (Array.mk x))), AV.sc (Value.string (ByteArray.mk (Array.mk x_3)))]))) ((0 ≤ m ∧ m ≤ 4294967295 ∧ ((10 : Int) = 8 ∨ (10 : Int) = 10 ∨ (10 : Int) = 16)) ∧ ∀ (x_1 : List UInt8), x_1 = fmtN 10 m.toNat →
 iteP (n == 0) (iteP (p == 0) (∀ (m : Int), m = IntKind.i64.wrap (p - 0) → (1000 - m).NonNeg ∧ ∀ (x_2 : List UInt8), x_2 = zerosF m → (true = true ∧ [x_2, []].length ≤ 1000 ∧ [x_2, []].flatten.length ≤ 10000000) ∧ ∀ (x_3 : List UInt8), x_3 = [x_2, []].flatten → K (AV.tup [AV.sc (Value.string (ByteArray.mk (Array.mk x))), AV.sc (Value.string (ByteArray.mk (Array.mk x_3)))])) (∀ (m : Int),
 m = IntKind.i64.wrap (p - (↑x_1.length : Int)) → (1000 - m).NonNeg ∧ ∀ (x_2 : List UInt8), x_2 = zerosF m → (true = true ∧ [x_2, x_1].length ≤ 1000 ∧ [x_2, x_1].flatten.length ≤ 10000000) ∧ ∀ (x_3 : List UInt8), x_3 = [x_2, x_1].flatten → K (AV.tup [AV.sc (Value.string (ByteArray.mk (Array.mk x))), AV.sc (Value.string (ByteArray.mk (Array.mk x_3)))]))) (∀ (m : Int),
 m = IntKind.i64.wrap (p - (↑x_1.length : Int)) → (1000 - m).NonNeg ∧ ∀ (x_2 : List UInt8), x_2 = zerosF m → (true = true ∧ [x_2, x_1].length ≤ 1000 ∧ [x_2, x_1].flatten.length ≤ 10000000) ∧ ∀ (x_3 : List UInt8), x_3 = [x_2, x_1].flatten → K (AV.tup [AV.sc (Value.string (ByteArray.mk (Array.mk x))), AV.sc (Value.string (ByteArray.mk (Array.mk x_3)))]))))) :
 (fun (a b c e : Bool) (w p n : Int) (K : AV → Prop) => wpCall F3 Door.cfg Tryd.prog 60 41 [.agg [aBool a, aBool b, aBool c, aBool e, aK .i64 w, aK .i64 p, aK .u8 105], aK .i64 n] heapF fun r h' => wpBack h' r K) a b c e w p n K :=
 Eq.mp (by kernel_rfl) h
theorem c41_111 (a : Bool) (b : Bool) (c : Bool) (e : Bool) (w : Int) (p : Int) (n : Int) (K : AV → Prop) (h :
 iteP (decide (n < 0)) (∀ (m : Int), m = IntKind.i64.wrap (n + 4294967296) → (0 ≤ m ∧ m ≤ 4294967295 ∧ ((8 : Int) = 8 ∨ (8 : Int) = 10 ∨ (8 : Int) = 16)) ∧ ∀ (x : List UInt8), x = fmtN 8 m.toNat → iteP (n == 0) (iteP (p == 0) (∀ (m : Int), m = IntKind.i64.wrap (p - 0) → (1000 - m).NonNeg ∧ ∀ (x : List UInt8), x = zerosF m → (true = true ∧ [x, []].length ≤ 1000 ∧ [x, []].flatten.length ≤ 10000000) ∧
 ∀ (x_1 : List UInt8), x_1 = [x, []].flatten → K (AV.tup [AV.sc (Value.string (ByteArray.mk (Array.mk []))), AV.sc (Value.string (ByteArray.mk (Array.mk x_1)))])) (∀ (m : Int), m = IntKind.i64.wrap (p - (↑x.length : Int)) → (1000 - m).NonNeg ∧ ∀ (x_1 : List UInt8), x_1 = zerosF m → (true = true ∧ [x_1, x].length ≤ 1000 ∧ [x_1, x].flatten.length ≤ 10000000) ∧ ∀ (x_2 : List UInt8),
 x_2 = [x_1, x].flatten → K (AV.tup [AV.sc (Value.string (ByteArray.mk (Array.mk []))), AV.sc (Value.string (ByteArray.mk (Array.mk x_2)))]))) (∀ (m : Int), m = IntKind.i64.wrap (p - (↑x.length : Int)) → (1000 - m).NonNeg ∧ ∀ (x_1 : List UInt8), x_1 = zerosF m → (true = true ∧ [x_1, x].length ≤ 1000 ∧ [x_1, x].flatten.length ≤ 10000000) ∧ ∀ (x_2 : List UInt8), x_2 = [x_1, x].flatten → K (AV.tup
 [AV.sc (Value.string (ByteArray.mk (Array.mk []))), AV.sc (Value.string (ByteArray.mk (Array.mk x_2)))]))) ((0 ≤ n ∧ n ≤ 4294967295 ∧ ((8 : Int) = 8 ∨ (8 : Int) = 10 ∨ (8 : Int) = 16)) ∧ ∀ (x : List UInt8), x = fmtN 8 n.toNat → iteP (n == 0) (iteP (p == 0) (∀ (m : Int), m = IntKind.i64.wrap (p - 0) → (1000 - m).NonNeg ∧ ∀ (x : List UInt8), x = zerosF m →
 (true = true ∧ [x, []].length ≤ 1000 ∧ [x, []].flatten.length ≤ 10000000) ∧ ∀ (x_1 : List UInt8), x_1 = [x, []].flatten → K (AV.tup [AV.sc (Value.string (ByteArray.mk (Array.mk []))), AV.sc (Value.string (ByteArray.mk (Array.mk x_1)))])) (∀ (m : Int), m = IntKind.i64.wrap (p - (↑x.length : Int)) → (1000 - m).NonNeg ∧ ∀ (x_1 : List UInt8), x_1 = zerosF m →
 (true = true ∧ [x_1, x].length ≤ 1000 ∧ [x_1, x].flatten.length ≤ 10000000) ∧ ∀ (x_2 : List UInt8), x_2 = [x_1, x].flatten → K (AV.tup [AV.sc (Value.string (ByteArray.mk (Array.mk []))), AV.sc (Value.string (ByteArray.mk (Array.mk x_2)))]))) (∀ (m : Int), m = IntKind.i64.wrap (p - (↑x.length : Int)) → (1000 - m).NonNeg ∧ ∀ (x_1 : List UInt8), x_1 = zerosF m →
 (true = true ∧ [x_1, x].length ≤ 1000 ∧ [x_1, x].flatten.length ≤ 10000000) ∧ ∀ (x_2 : List UInt8), x_2 = [x_1, x].flatten → K (AV.tup [AV.sc (Value.string (ByteArray.mk (Array.mk []))), AV.sc (Value.string (ByteArray.mk (Array.mk x_2)))])))) :
 (fun (a b c e : Bool) (w p n : Int) (K : AV → Prop) => wpCall F3 Door.cfg Tryd.prog 60 41 [.agg [aBool a, aBool b, aBool c, aBool e, aK .i64 w, aK .i64 p, aK .u8 111], aK .i64 n] heapF fun r h' => wpBack h' r K) a b c e w p n K :=
 Eq.mp (by kernel_rfl) h
theorem c41_117 (a : Bool) (b : Bool) (c : Bool) (e : Bool) (w : Int) (p : Int) (n : Int) (K : AV → Prop) (h :
 iteP (decide (n < 0)) (∀ (m : Int), m = IntKind.i64.wrap (n + 4294967296) → (0 ≤ m ∧ m ≤ 4294967295 ∧ ((10 : Int) = 8 ∨ (10 : Int) = 10 ∨ (10 : Int) = 16)) ∧ ∀ (x : List UInt8), x = fmtN 10 m.toNat → iteP (n == 0) (iteP (p == 0) (∀ (m : Int), m = IntKind.i64.wrap (p - 0) → (1000 - m).NonNeg ∧ ∀ (x : List UInt8), x = zerosF m →
 (true = true ∧ [x, []].length ≤ 1000 ∧ [x, []].flatten.length ≤ 10000000) ∧ ∀ (x_1 : List UInt8), x_1 = [x, []].flatten → K (AV.tup [AV.sc (Value.string (ByteArray.mk (Array.mk []))), AV.sc (Value.string (ByteArray.mk (Array.mk x_1)))])) (∀ (m : Int), m = IntKind.i64.wrap (p - (↑x.length : Int)) → (1000 - m).NonNeg ∧ ∀ (x_1 : List UInt8), x_1 = zerosF m →
 (true = true ∧ [x_1, x].length ≤ 1000 ∧ [x_1, x].flatten.length ≤ 10000000) ∧ ∀ (x_2 : List UInt8), x_2 = [x_1, x].flatten → K (AV.tup [AV.sc (Value.string (ByteArray.mk (Array.mk []))), AV.sc (Value.string (ByteArray.mk (Array.mk x_2)))]))) (∀ (m : Int), m = IntKind.i64.wrap (p - (↑x.length : Int)) → (1000 - m).NonNeg ∧ ∀ (x_1 : List UInt8), x_1 = zerosF m →
 (true = true ∧ [x_1, x].length ≤ 1000 ∧ [x_1, x].flatten.length ≤ 10000000) ∧ ∀ (x_2 : List UInt8), x_2 = [x_1, x].flatten → K (AV.tup [AV.sc (Value.string (ByteArray.mk (Array.mk []))), AV.sc (Value.string (ByteArray.mk (Array.mk x_2)))]))) ((0 ≤ n ∧ n ≤ 4294967295 ∧ ((10 : Int) = 8 ∨ (10 : Int) = 10 ∨ (10 : Int) = 16)) ∧ ∀ (x : List UInt8), x = fmtN 10 n.toNat → iteP (n == 0) (iteP (p == 0)
 (∀ (m : Int), m = IntKind.i64.wrap (p - 0) → (1000 - m).NonNeg ∧ ∀ (x : List UInt8), x = zerosF m → (true = true ∧ [x, []].length ≤ 1000 ∧ [x, []].flatten.length ≤ 10000000) ∧ ∀ (x_1 : List UInt8), x_1 = [x, []].flatten → K (AV.tup [AV.sc (Value.string (ByteArray.mk (Array.mk []))), AV.sc (Value.string (ByteArray.mk (Array.mk x_1)))])) (∀ (m : Int), m = IntKind.i64.wrap (p - (↑x.length : Int)) →
 (1000 - m).NonNeg ∧ ∀ (x_1 : List UInt8), x_1 = zerosF m → (true = true ∧ [x_1, x].length ≤ 1000 ∧ [x_1, x].flatten.length ≤ 10000000) ∧ ∀ (x_2 : List UInt8), x_2 = [x_1, x].flatten → K (AV.tup [AV.sc (Value.string (ByteArray.mk (Array.mk []))), AV.sc (Value.string (ByteArray.mk (Array.mk x_2)))]))) (∀ (m : Int), m = IntKind.i64.wrap (p - (↑x.length : Int)) → (1000 - m).NonNeg ∧
 ∀ (x_1 : List UInt8), x_1 = zerosF m → (true = true ∧ [x_1, x].length ≤ 1000 ∧ [x_1, x].flatten.length ≤ 10000000) ∧ ∀ (x_2 : List UInt8), x_2 = [x_1, x].flatten → K (AV.tup [AV.sc (Value.string (ByteArray.mk (Array.mk []))), AV.sc (Value.string (ByteArray.mk (Array.mk x_2)))])))) :
 (fun (a b c e : Bool) (w p n : Int) (K : AV → Prop) => wpCall F3 Door.cfg Tryd.prog 60 41 [.agg [aBool a, aBool b, aBool c, aBool e, aK .i64 w, aK .i64 p, aK .u8 117], aK .i64 n] heapF fun r h' => wpBack h' r K) a b c e w p n K :=
 Eq.mp (by kernel_rfl) h
theorem c41_120 (a : Bool) (b : Bool) (c : Bool) (e : Bool) (w : Int) (p : Int) (n : Int) (K : AV → Prop) (h :
 iteP (decide (n < 0)) (∀ (m : Int), m = IntKind.i64.wrap (n + 4294967296) → (0 ≤ m ∧ m ≤ 4294967295 ∧ ((16 : Int) = 8 ∨ (16 : Int) = 10 ∨ (16 : Int) = 16)) ∧ ∀ (x : List UInt8), x = fmtN 16 m.toNat → iteP (n == 0) (iteP (p == 0) (∀ (m : Int), m = IntKind.i64.wrap (p - 0) → (1000 - m).NonNeg ∧ ∀ (x : List UInt8), x = zerosF m →
 (true = true ∧ [x, []].length ≤ 1000 ∧ [x, []].flatten.length ≤ 10000000) ∧ ∀ (x_1 : List UInt8), x_1 = [x, []].flatten → K (AV.tup [AV.sc (Value.string (ByteArray.mk (Array.mk []))), AV.sc (Value.string (ByteArray.mk (Array.mk x_1)))])) (∀ (m : Int), m = IntKind.i64.wrap (p - (↑x.length : Int)) → (1000 - m).NonNeg ∧ ∀ (x_1 : List UInt8), x_1 = zerosF m →
 (true = true ∧ [x_1, x].length ≤ 1000 ∧ [x_1, x].flatten.length ≤ 10000000) ∧ ∀ (x_2 : List UInt8), x_2 = [x_1, x].flatten → K (AV.tup [AV.sc (Value.string (ByteArray.mk (Array.mk []))), AV.sc (Value.string (ByteArray.mk (Array.mk x_2)))]))) (∀ (m : Int), m = IntKind.i64.wrap (p - (↑x.length : Int)) → (1000 - m).NonNeg ∧ ∀ (x_1 : List UInt8), x_1 = zerosF m →
 (true = true ∧ [x_1, x].length ≤ 1000 ∧ [x_1, x].flatten.length ≤ 10000000) ∧ ∀ (x_2 : List UInt8), x_2 = [x_1, x].flatten → K (AV.tup [AV.sc (Value.string (ByteArray.mk (Array.mk []))), AV.sc (Value.string (ByteArray.mk (Array.mk x_2)))]))) ((0 ≤ n ∧ n ≤ 4294967295 ∧ ((16 : Int) = 8 ∨ (16 : Int) = 10 ∨ (16 : Int) = 16)) ∧ ∀ (x : List UInt8), x = fmtN 16 n.toNat → iteP (n == 0) (iteP (p == 0)
 (∀ (m : Int), m = IntKind.i64.wrap (p - 0) → (1000 - m).NonNeg ∧ ∀ (x : List UInt8), x = zerosF m → (true = true ∧ [x, []].length ≤ 1000 ∧ [x, []].flatten.length ≤ 10000000) ∧ ∀ (x_1 : List UInt8), x_1 = [x, []].flatten → K (AV.tup [AV.sc (Value.string (ByteArray.mk (Array.mk []))), AV.sc (Value.string (ByteArray.mk (Array.mk x_1)))])) (∀ (m : Int), m = IntKind.i64.wrap (p - (↑x.length : Int)) →
 (1000 - m).NonNeg ∧ ∀ (x_1 : List UInt8), x_1 = zerosF m → (true = true ∧ [x_1, x].length ≤ 1000 ∧ [x_1, x].flatten.length ≤ 10000000) ∧ ∀ (x_2 : List UInt8), x_2 = [x_1, x].flatten → K (AV.tup [AV.sc (Value.string (ByteArray.mk (Array.mk []))), AV.sc (Value.string (ByteArray.mk (Array.mk x_2)))]))) (∀ (m : Int), m = IntKind.i64.wrap (p - (↑x.length : Int)) → (1000 - m).NonNeg ∧
 ∀ (x_1 : List UInt8), x_1 = zerosF m → (true = true ∧ [x_1, x].length ≤ 1000 ∧ [x_1, x].flatten.length ≤ 10000000) ∧ ∀ (x_2 : List UInt8), x_2 = [x_1, x].flatten → K (AV.tup [AV.sc (Value.string (ByteArray.mk (Array.mk []))), AV.sc (Value.string (ByteArray.mk (Array.mk x_2)))])))) :
 (fun (a b c e : Bool) (w p n : Int) (K : AV → Prop) => wpCall F3 Door.cfg Tryd.prog 60 41 [.agg [aBool a, aBool b, aBool c, aBool e, aK .i64 w, aK .i64 p, aK .u8 120], aK .i64 n] heapF fun r h' => wpBack h' r K) a b c e w p n K :=
 Eq.mp (by kernel_rfl) h
theorem c41_88 (a : Bool) (b : Bool) (c : Bool) (e : Bool) (w : Int) (p : Int) (n : Int) (K : AV → Prop) (h :
 iteP (decide (n < 0)) (∀ (m : Int), m = IntKind.i64.wrap (n + 4294967296) → (0 ≤ m ∧ m ≤ 4294967295 ∧ ((16 : Int) = 8 ∨ (16 : Int) = 10 ∨ (16 : Int) = 16)) ∧ ∀ (x : List UInt8), x = fmtN 16 m.toNat → (x.length ≤ 1000 ∧ (x.all fun (b : UInt8) => decide (b.toNat < 128)) = true) ∧ ∀ (x_1 : List UInt8), x_1 = List.map upC x → iteP (n == 0) (iteP (p == 0) (∀ (m : Int), m = IntKind.i64.wrap (p - 0) →
 (1000 - m).NonNeg ∧ ∀ (x : List UInt8), x = zerosF m → (true = true ∧ [x, []].length ≤ 1000 ∧ [x, []].flatten.length ≤ 10000000) ∧ ∀ (x_2 : List UInt8), x_2 = [x, []].flatten → K (AV.tup [AV.sc (Value.string (ByteArray.mk (Array.mk []))), AV.sc (Value.string (ByteArray.mk (Array.mk x_2)))])) (∀ (m : Int), m = IntKind.i64.wrap (p - (↑x_1.length : Int)) → (1000 - m).NonNeg ∧ ∀ (x : List UInt8),
 x = zerosF m → (true = true ∧ [x, x_1].length ≤ 1000 ∧ [x, x_1].flatten.length ≤ 10000000) ∧ ∀ (x_2 : List UInt8), x_2 = [x, x_1].flatten → K (AV.tup [AV.sc (Value.string (ByteArray.mk (Array.mk []))), AV.sc (Value.string (ByteArray.mk (Array.mk x_2)))]))) (∀ (m : Int), m = IntKind.i64.wrap (p - (↑x_1.length : Int)) → (1000 - m).NonNeg ∧ ∀ (x : List UInt8), x = zerosF m → (true = true ∧
 [x, x_1].length ≤ 1000 ∧ [x, x_1].flatten.length ≤ 10000000) ∧ ∀ (x_2 : List UInt8), x_2 = [x, x_1].flatten → K (AV.tup [AV.sc (Value.string (ByteArray.mk (Array.mk []))), AV.sc (Value.string (ByteArray.mk (Array.mk x_2)))]))) ((0 ≤ n ∧ n ≤ 4294967295 ∧ ((16 : Int) = 8 ∨ (16 : Int) = 10 ∨ (16 : Int) = 16)) ∧ ∀ (x : List UInt8), x = fmtN 16 n.toNat →
 (x.length ≤ 1000 ∧ (x.all fun (b : UInt8) => decide (b.toNat < 128)) = true) ∧ ∀ (x_1 : List UInt8), x_1 = List.map upC x → iteP (n == 0) (iteP (p == 0) (∀ (m : Int), m = IntKind.i64.wrap (p - 0) → (1000 - m).NonNeg ∧ ∀ (x : List UInt8), x = zerosF m → (true = true ∧ [x, []].length ≤ 1000 ∧ [x, []].flatten.length ≤ 10000000) ∧ ∀ (x_2 : List UInt8), x_2 = [x, []].flatten → K (AV.tup
 [AV.sc (Value.string (ByteArray.mk (Array.mk []))), AV.sc (Value.string (ByteArray.mk (Array.mk x_2)))])) (∀ (m : Int), m = IntKind.i64.wrap (p - (↑x_1.length : Int)) → (1000 - m).NonNeg ∧ ∀ (x : List UInt8), x = zerosF m → (true = true ∧ [x, x_1].length ≤ 1000 ∧ [x, x_1].flatten.length ≤ 10000000) ∧ ∀ (x_2 : List UInt8), x_2 = [x, x_1].flatten → K (AV.tup
 [AV.sc (Value.string (ByteArray.mk (Array.mk []))), AV.sc (Value.string (ByteArray.mk (Array.mk x_2)))]))) (∀ (m : Int), m = IntKind.i64.wrap (p - (↑x_1.length : Int)) → (1000 - m).NonNeg ∧ ∀ (x : List UInt8), x = zerosF m → (true = true ∧ [x, x_1].length ≤ 1000 ∧ [x, x_1].flatten.length ≤ 10000000) ∧ ∀ (x_2 : List UInt8), x_2 = [x, x_1].flatten → K (AV.tup
 [AV.sc (Value.string (ByteArray.mk (Array.mk []))), AV.sc (Value.string (ByteArray.mk (Array.mk x_2)))])))) :
 (fun (a b c e : Bool) (w p n : Int) (K : AV → Prop) => wpCall F3 Door.cfg Tryd.prog 60 41 [.agg [aBool a, aBool b, aBool c, aBool e, aK .i64 w, aK .i64 p, aK .u8 88], aK .i64 n] heapF fun r h' => wpBack h' r K) a b c e w p n K :=
 Eq.mp (by kernel_rfl) h
end
end Go.Proofs.Pr
namespace Go.Proofs.Pr
open Go Go.Ef
noncomputable section
set_option maxRecDepth 100000
theorem c56 (d : Dir) (q : Bool) (K : AV → Prop) (h :
 iteP q (K (AV.sc (Value.string (ByteArray.mk (Array.mk [(45 : UInt8)]))))) (iteP d.plus (K (AV.sc (Value.string (ByteArray.mk (Array.mk [(43 : UInt8)]))))) (iteP d.space (K (AV.sc (Value.string (ByteArray.mk (Array.mk [(32 : UInt8)]))))) (K (AV.sc (Value.string (ByteArray.mk (Array.mk [])))))))) :
 (fun (d : Dir) (q : Bool) (K : AV → Prop) => wpCall tab0 Door.cfg Tryd.prog 60 56 [.agg d.cells, aBool q] heapF fun r h' => wpBack h' r K) d q K :=
 Eq.mp (by kernel_rfl) h
theorem c45 (n : Int) (K : AV → Prop) (h :
 (0 ≤ max n 0 ∧ max n (0 : Int) ≤ 100000 ∧ (1 : Nat) ≤ 1000000) ∧ ∀ (x : List UInt8), x = (List.replicate (max n 0).toNat [(48 : UInt8)]).flatten → K (AV.sc (Value.string (ByteArray.mk (Array.mk x))))) :
 (fun (n : Int) (K : AV → Prop) => wpCall (tab0.addC 42 C42) Door.cfg Tryd.prog 60 45 [aK .i64 n] heapF fun r h' => wpBack h' r K) n K :=
 Eq.mp (by kernel_rfl) h
theorem c40 (d : Dir) (x : Int) (K : AV → Prop) (h :
 iteP (d.prec == (-1)) (True ∧ ∀ (x_1 : Int), x_1 = roundF x 4 → ∀ (m : Int), m = max x_1 (IntKind.i64.wrap (0 - x_1)) → (0 ≤ IntKind.i64.wrap (m.tdiv 10000) ∧ IntKind.i64.wrap (m.tdiv 10000) ≤ 4294967295 ∧ ((10 : Int) = 8 ∨ (10 : Int) = 10 ∨ (10 : Int) = 16)) ∧ ∀ (x_2 : List UInt8), x_2 = fmtN 10 (IntKind.i64.wrap (m.tdiv 10000)).toNat → (0 ≤ m.tmod 10000 ∧ m.tmod (10000 : Int) ≤ 4294967295 ∧
 ((10 : Int) = 8 ∨ (10 : Int) = 10 ∨ (10 : Int) = 16)) ∧ ∀ (x_3 : List UInt8), x_3 = fmtN 10 (m.tmod 10000).toNat → (1000 - IntKind.i64.wrap (4 - (↑x_3.length : Int))).NonNeg ∧ ∀ (x_4 : List UInt8), x_4 = zerosF (IntKind.i64.wrap (4 - (↑x_3.length : Int))) → Int.NonNeg 998 ∧ ∀ (x_5 : List UInt8), x_5 = zerosF 2 → (true = true ∧ [x_4, x_3, x_5].length ≤ 1000 ∧
 [x_4, x_3, x_5].flatten.length ≤ 10000000) ∧ ∀ (x_6 : List UInt8), x_6 = [x_4, x_3, x_5].flatten → iteP (true && decide (6 ≤ (↑x_6.length : Int))) ((true = true ∧ [x_2, [(46 : UInt8)], List.take 6 x_6].length ≤ 1000 ∧ [x_2, [(46 : UInt8)], List.take 6 x_6].flatten.length ≤ 10000000) ∧ ∀ (x_7 : List UInt8), x_7 = [x_2, [(46 : UInt8)], List.take 6 x_6].flatten → iteP (decide (x < 0)) (iteP (x_1 != 0)
 (True ∧ ∀ (x : List UInt8), x = signF (Dir.mk d.minus d.zero d.plus d.space d.width d.prec d.kind) true → K (AV.tup [AV.sc (Value.string (ByteArray.mk (Array.mk x))), AV.sc (Value.string (ByteArray.mk (Array.mk x_7)))])) (True ∧ ∀ (x : List UInt8), x = signF (Dir.mk d.minus d.zero d.plus d.space d.width d.prec d.kind) false → K (AV.tup [AV.sc (Value.string (ByteArray.mk (Array.mk x))),
 AV.sc (Value.string (ByteArray.mk (Array.mk x_7)))]))) (True ∧ ∀ (x : List UInt8), x = signF (Dir.mk d.minus d.zero d.plus d.space d.width d.prec d.kind) false → K (AV.tup [AV.sc (Value.string (ByteArray.mk (Array.mk x))), AV.sc (Value.string (ByteArray.mk (Array.mk x_7)))]))) False) (True ∧ ∀ (x_1 : Int), x_1 = roundF x (min d.prec 4) → ∀ (m : Int), m = max x_1 (IntKind.i64.wrap (0 - x_1)) →
 (0 ≤ IntKind.i64.wrap (m.tdiv 10000) ∧ IntKind.i64.wrap (m.tdiv 10000) ≤ 4294967295 ∧ ((10 : Int) = 8 ∨ (10 : Int) = 10 ∨ (10 : Int) = 16)) ∧ ∀ (x_2 : List UInt8), x_2 = fmtN 10 (IntKind.i64.wrap (m.tdiv 10000)).toNat → iteP (decide (0 < d.prec)) ((0 ≤ m.tmod 10000 ∧ m.tmod (10000 : Int) ≤ 4294967295 ∧ ((10 : Int) = 8 ∨ (10 : Int) = 10 ∨ (10 : Int) = 16)) ∧ ∀ (x_3 : List UInt8),
 x_3 = fmtN 10 (m.tmod 10000).toNat → (1000 - IntKind.i64.wrap (4 - (↑x_3.length : Int))).NonNeg ∧ ∀ (x_4 : List UInt8), x_4 = zerosF (IntKind.i64.wrap (4 - (↑x_3.length : Int))) → (1000 - IntKind.i64.wrap (d.prec - 4)).NonNeg ∧ ∀ (x_5 : List UInt8), x_5 = zerosF (IntKind.i64.wrap (d.prec - 4)) → (true = true ∧ [x_4, x_3, x_5].length ≤ 1000 ∧ [x_4, x_3, x_5].flatten.length ≤ 10000000) ∧
 ∀ (x_6 : List UInt8), x_6 = [x_4, x_3, x_5].flatten → iteP (decide (0 ≤ d.prec) && decide (d.prec ≤ (↑x_6.length : Int))) ((true = true ∧ [x_2, [(46 : UInt8)], List.take d.prec.toNat x_6].length ≤ 1000 ∧ [x_2, [(46 : UInt8)], List.take d.prec.toNat x_6].flatten.length ≤ 10000000) ∧ ∀ (x_7 : List UInt8), x_7 = [x_2, [(46 : UInt8)], List.take d.prec.toNat x_6].flatten → iteP (decide (x < 0))
 (iteP (x_1 != 0) (True ∧ ∀ (x : List UInt8), x = signF (Dir.mk d.minus d.zero d.plus d.space d.width d.prec d.kind) true → K (AV.tup [AV.sc (Value.string (ByteArray.mk (Array.mk x))), AV.sc (Value.string (ByteArray.mk (Array.mk x_7)))])) (True ∧ ∀ (x : List UInt8), x = signF (Dir.mk d.minus d.zero d.plus d.space d.width d.prec d.kind) false → K (AV.tup
 [AV.sc (Value.string (ByteArray.mk (Array.mk x))), AV.sc (Value.string (ByteArray.mk (Array.mk x_7)))]))) (True ∧ ∀ (x : List UInt8), x = signF (Dir.mk d.minus d.zero d.plus d.space d.width d.prec d.kind) false → K (AV.tup [AV.sc (Value.string (ByteArray.mk (Array.mk x))), AV.sc (Value.string (ByteArray.mk (Array.mk x_7)))]))) False) (iteP (decide (x < 0)) (iteP (x_1 != 0) (True ∧
 ∀ (x : List UInt8), x = signF (Dir.mk d.minus d.zero d.plus d.space d.width d.prec d.kind) true → K (AV.tup [AV.sc (Value.string (ByteArray.mk (Array.mk x))), AV.sc (Value.string (ByteArray.mk (Array.mk x_2)))])) (True ∧ ∀ (x : List UInt8), x = signF (Dir.mk d.minus d.zero d.plus d.space d.width d.prec d.kind) false → K (AV.tup [AV.sc (Value.string (ByteArray.mk (Array.mk x))),
 AV.sc (Value.string (ByteArray.mk (Array.mk x_2)))]))) (True ∧ ∀ (x : List UInt8), x = signF (Dir.mk d.minus d.zero d.plus d.space d.width d.prec d.kind) false → K (AV.tup [AV.sc (Value.string (ByteArray.mk (Array.mk x))), AV.sc (Value.string (ByteArray.mk (Array.mk x_2)))]))))) :
 (fun (d : Dir) (x : Int) (K : AV → Prop) => wpCall F2 Door.cfg Tryd.prog 60 40 [.agg d.cells, aK .i64 x] heapF fun r h' => wpBack h' r K) d x K :=
 Eq.mp (by kernel_rfl) h
theorem c55 (n : Int) (b : Int) (K : AV → Prop) (h :
 (0 ≤ n ∧ n ≤ 4294967295 ∧ (b = 8 ∨ b = 10 ∨ b = 16)) ∧ ∀ (x : List UInt8), x = fmtN b.toNat n.toNat → K (AV.sc (Value.string (ByteArray.mk (Array.mk x))))) :
 (fun (n b : Int) (K : AV → Prop) => wpCall (tab0.addC 67 C55) Door.cfg Tryd.prog 60 55 [aK .i64 n, aK .i64 b] heapF fun r h' => wpBack h' r K) n b K :=
 Eq.mp (by kernel_rfl) h
end
end Go.Proofs.Pr
namespace Go.Proofs.Pr
open Go Go.Ef
noncomputable section
def C85 (args : List AV) (h : Heap) : Option CSpec :=
 match args with
 | [.sc (.slice none 0 0), .sc (.int .u64 u), .sc (.int .i64 16), .sc (.bool false), .sc (.bool false)] => some (nspec (0 ≤ u ∧ u < 4294967296) (fmtN 16 u.toNat) (fun x => .tup [.sc (.slice none 0 0), aStr x]) h)
 | [.sc (.slice none 0 0), .sc (.int .u64 u), .sc (.int .i64 8), .sc (.bool false), .sc (.bool false)] => some (nspec (0 ≤ u ∧ u < 4294967296) (fmtN 8 u.toNat) (fun x => .tup [.sc (.slice none 0 0), aStr x]) h)
 | _ => some { pre := False, alts := [] }
def H2 : Tab := tab0.addC 85 C85
end
end Go.Proofs.Pr
namespace Go.Proofs.Pr
open Go Go.Ef
noncomputable section
set_option maxRecDepth 100000
theorem b67_16 (n : Int) (K : AV → Prop) (h :
 iteP (decide (n < 0)) (False ∧ True) ((0 ≤ IntKind.u64.wrap n ∧ IntKind.u64.wrap n < 4294967296) ∧ ∀ (x : List UInt8), x = fmtN 16 (IntKind.u64.wrap n).toNat → K (AV.sc (Value.string (ByteArray.mk (Array.mk x)))))) :
 (fun (n : Int) (K : AV → Prop) => wpCall H2 Door.cfg Tryd.prog 60 67 [aK .i64 n, aK .i64 16] heapF fun r h' => wpBack h' r K) n K :=
 Eq.mp (by kernel_rfl) h
theorem b67_8 (n : Int) (K : AV → Prop) (h :
 iteP (decide (n < 0)) (False ∧ True) ((0 ≤ IntKind.u64.wrap n ∧ IntKind.u64.wrap n < 4294967296) ∧ ∀ (x : List UInt8), x = fmtN 8 (IntKind.u64.wrap n).toNat → K (AV.sc (Value.string (ByteArray.mk (Array.mk x)))))) :
 (fun (n : Int) (K : AV → Prop) => wpCall H2 Door.cfg Tryd.prog 60 67 [aK .i64 n, aK .i64 8] heapF fun r h' => wpBack h' r K) n K :=
 Eq.mp (by kernel_rfl) h
end
end Go.Proofs.Pr
namespace Go.Proofs.Pr
open Go Go.Ef
noncomputable section
set_option maxRecDepth 100000
theorem ok85 {T : Tab} (O : TabOk Tryd.prog Door.cfg T) : TabOk Tryd.prog Door.cfg (T.addC 85 C85) := by
 refine addC_ok O fun args h s hs hp => ?_
 unfold C85 at hs
 split at hs
 ·exact nspec_ok (Option.some.inj hs) (fun hpre => bits16 _ hpre.1 hpre.2 h) hp
 ·exact nspec_ok (Option.some.inj hs) (fun hpre => bits8 _ hpre.1 hpre.2 h) hp
 ·cases Option.some.inj hs
  exact hp.elim
theorem okH2 : TabOk Tryd.prog Door.cfg H2 := ok85 tab0_ok
theorem fmt_16 (n : Int) (h1 : 0 ≤ n) (h2 : n ≤ 4294967295) (h : Heap) : EvP Door.cfg Tryd.prog 67 [aK .i64 n, aK .i64 16] h fun v h' => v = aStr (fmtN 16 n.toNat) ∧ h' = h := by
 refine EvP.freshV okH2 (n := 60) (by kernel_rfl) (by kernel_rfl) (args' := [aK .i64 n, aK .i64 16]) rfl (b67_16 n _ ?_)
 rw [decide_eq_false (show ¬ n < 0 by omega), iteP_f, w64_in h1 (by omega)]
 exact ⟨⟨h1, by omega⟩, fun x hx => by rw [hx]; rfl⟩
theorem fmt_8 (n : Int) (h1 : 0 ≤ n) (h2 : n ≤ 4294967295) (h : Heap) : EvP Door.cfg Tryd.prog 67 [aK .i64 n, aK .i64 8] h fun v h' => v = aStr (fmtN 8 n.toNat) ∧ h' = h := by
 refine EvP.freshV okH2 (n := 60) (by kernel_rfl) (by kernel_rfl) (args' := [aK .i64 n, aK .i64 8]) rfl (b67_8 n _ ?_)
 rw [decide_eq_false (show ¬ n < 0 by omega), iteP_f, w64_in h1 (by omega)]
 exact ⟨⟨h1, by omega⟩, fun x hx => by rw [hx]; rfl⟩
theorem ok67 {T : Tab} (O : TabOk Tryd.prog Door.cfg T) : TabOk Tryd.prog Door.cfg (T.addC 67 C55) := by
 refine addC_ok O fun args h s hs hp => ?_
 unfold C55 at hs
 split at hs
 ·rename_i n b
  refine nspec_ok (Option.some.inj hs) (fun hpre => ?_) hp
  obtain ⟨h1, h2, rfl | rfl | rfl⟩ := hpre
  ·exact fmt_8 n h1 h2 h
  ·exact dec_all n h1 h2 h
  ·exact fmt_16 n h1 h2 h
 ·cases hs
end
end Go.Proofs.Pr
namespace Go.Proofs.Pr
open Go Go.Ef
noncomputable section
set_option maxRecDepth 100000
theorem ok56 {T : Tab} (O : TabOk Tryd.prog Door.cfg T) : TabOk Tryd.prog Door.cfg (T.addC 56 C56) := by
 refine addC_ok O fun args h s hs hp => ?_
 unfold C56 at hs
 split at hs
 ·rename_i a b c e w p kd q
  refine nspec_ok (Option.some.inj hs) (fun _ => ?_) hp
  refine EvP.freshV tab0_ok (n := 60) (by kernel_rfl) (by kernel_rfl) (args' := [.agg (Dir.cells ⟨a, b, c, e, w, p, kd⟩), aBool q]) rfl (c56 ⟨a, b, c, e, w, p, kd⟩ q _ ?_)
  cases q <;> cases c <;> cases e <;> rfl
 ·cases hs
theorem ok45 {T : Tab} (O : TabOk Tryd.prog Door.cfg T) : TabOk Tryd.prog Door.cfg (T.addC 45 C45) := by
 refine addC_ok O fun args h s hs hp => ?_
 unfold C45 at hs
 split at hs
 ·rename_i n
  refine nspec_ok (Option.some.inj hs) (fun hpre => ?_) hp
  refine EvP.freshV (ok42 tab0_ok) (n := 60) (by kernel_rfl) (by kernel_rfl) (args' := [aK .i64 n]) rfl (c45 n _ ⟨⟨by omega, by omega, by decide⟩, fun x hx => ?_⟩)
  rw [rep_one] at hx
  show _ = aStr (zerosF n)
  rw [hx]
  unfold zerosF
  rw [show (max n 0).toNat = n.toNat by omega]; rfl
 ·cases hs
theorem ok55 {T : Tab} (O : TabOk Tryd.prog Door.cfg T) : TabOk Tryd.prog Door.cfg (T.addC 55 C55) := by
 refine addC_ok O fun args h s hs hp => ?_
 unfold C55 at hs
 split at hs
 ·rename_i n b
  refine nspec_ok (Option.some.inj hs) (fun hpre => ?_) hp
  exact EvP.freshV (ok67 tab0_ok) (n := 60) (by kernel_rfl) (by kernel_rfl) (args' := [aK .i64 n, aK .i64 b]) rfl (c55 n b _ ⟨hpre, fun x hx => by rw [hx]; rfl⟩)
 ·cases hs
def upOk (k : Nat) : Bool := Lib.upperB (UInt8.ofNat k) == upC (UInt8.ofNat k)
theorem up_all : (List.range 256).all upOk = true := by decide +kernel
theorem up_eq (c : UInt8) : Lib.upperB c = upC c := by
 have := List.all_eq_true.1 up_all c.toNat (by simpa using c.toNat_lt)
 unfold upOk at this
 have := eq_of_beq this
 simpa using this
theorem ok57 {T : Tab} (O : TabOk Tryd.prog Door.cfg T) : TabOk Tryd.prog Door.cfg (T.addC 57 C57) := by
 refine addC_ok O fun args h s hs hp => ?_
 unfold C57 at hs
 split at hs
 ·rename_i s0
  obtain ⟨⟨l⟩⟩ := s0
  refine nspec_ok (Option.some.inj hs) (fun hpre => ?_) hp
  obtain ⟨h1, h2⟩ := hpre
  replace h1 : l.length ≤ 1000 := h1
  replace h2 : l.all (fun b => decide (b.toNat < 128)) = true := h2
  refine EvP.prim (p := Door.upperP) rfl (v := aStr (Lib.toUpperA l)) (h' := h) ?_ ⟨?_, rfl⟩
  ·show (bif Nat.ble (ByteArray.size ⟨⟨l⟩⟩) maxRoom && l.all (fun b => decide (b.toNat < 128)) then _ else none) = _
   rw [h2, show Nat.ble (ByteArray.size ⟨⟨l⟩⟩) maxRoom = true from Nat.ble_eq_true_of_le (by show l.length ≤ _; unfold maxRoom; omega)]
   rfl
  ·show aStr (Lib.toUpperA l) = aStr (l.map upC)
   congr 1
   unfold Lib.toUpperA
   exact List.map_congr_left fun c _ => up_eq c
 ·cases hs
theorem okF1 : TabOk Tryd.prog Door.cfg F1 := ok56 (ok57 (ok54 (ok55 (ok45 (ok61 (ok42 tab0_ok))))))
theorem okF2 : TabOk Tryd.prog Door.cfg F2 := name_ok (name_ok (name_ok okF1 _ _) _ _) _ _
theorem unit_le (p : Int) : 1 ≤ unitF p ∧ unitF p ≤ 10000 ∧ 0 ≤ unitF p / 2 ∧ unitF p / 2 ≤ 5000 := by
 unfold unitF
 split
 ·omega
 ·split
  ·omega
  ·split
   ·omega
   ·split <;> omega
theorem round_le (x p : Int) : -10000000005000 ≤ roundF x p ∧ roundF x p ≤ 10000000005000 := by
 have hn := near_le x
 obtain ⟨u1, u2, u3, u4⟩ := unit_le p
 unfold roundF
 split
 ·obtain ⟨_, q2, q3⟩ := round_pos (-(nearF x)) (unitF p) (unitF p / 2) (by omega) (by omega) u1 u2 u3 u4
  omega
 ·obtain ⟨_, q2, q3⟩ := round_pos (nearF x) (unitF p) (unitF p / 2) (by omega) (by omega) u1 u2 u3 u4
  omega
theorem sign_end {d : Dir} {x r : Int} {K : List UInt8 → Prop} (hk : K (signF d (decide (x < 0) && decide (r ≠ 0)))) :
  iteP (decide (x < 0)) (iteP (r != 0) (True ∧ ∀ s : List UInt8, s = signF d true → K s) (True ∧ ∀ s : List UInt8, s = signF d false → K s)) (True ∧ ∀ s : List UInt8, s = signF d false → K s) := by
 by_cases h1 : x < 0
 ·rw [decide_eq_true h1] at hk ⊢
  by_cases h2 : r = 0
  ·rw [decide_eq_false (show ¬ r ≠ 0 by simpa using h2)] at hk
   rw [iteP_t, show (r != 0) = false by simpa using h2, iteP_f]
   exact ⟨trivial, fun s hs => by rw [hs]; exact hk⟩
  ·rw [decide_eq_true h2] at hk
   rw [iteP_t, show (r != 0) = true by simpa using h2, iteP_t]
   exact ⟨trivial, fun s hs => by rw [hs]; exact hk⟩
 ·rw [decide_eq_false h1] at hk ⊢
  rw [iteP_f]
  exact ⟨trivial, fun s hs => by rw [hs]; exact hk⟩
theorem zeros_len (n : Int) : (zerosF n).length = n.toNat := by unfold zerosF; rw [List.length_replicate]
theorem decimals_eq (d : Dir) (x r : Int) (hr : r = roundF x (min (placesF d) 4)) : decimalsF d x = (signF d (decide (x < 0) && decide (r ≠ 0)), fmtN 10 (r.natAbs / 10000) ++ (if placesF d > 0 then [46] ++ (zerosF (4 - (fmtN 10 (r.natAbs % 10000)).length) ++ fmtN 10 (r.natAbs % 10000) ++ zerosF (placesF d - 4)).take (placesF d).toNat else [])) := by
 subst hr
 rfl
def C40 (args : List AV) (h : Heap) : Option CSpec :=
 match args with
 | [.agg [.sc (.bool a), .sc (.bool b), .sc (.bool c), .sc (.bool e), .sc (.int .i64 w), .sc (.int .i64 p), .sc (.int .u8 kd)], .sc (.int .i64 x)] => some (nspec (-1 ≤ p ∧ p ≤ 255) (decimalsF ⟨a, b, c, e, w, p, kd⟩ x) (fun y => .tup [aStr y.1, aStr y.2]) h)
 | _ => none
theorem ok40 {T : Tab} (O : TabOk Tryd.prog Door.cfg T) : TabOk Tryd.prog Door.cfg (T.addC 40 C40) := by
 refine addC_ok O fun args h s hs hp => ?_
 unfold C40 at hs
 split at hs
 ·rename_i a b c e w p kd x
  refine nspec_ok (Option.some.inj hs) (fun hpre => ?_) hp
  obtain ⟨hp1, hp2⟩ := hpre
  refine EvP.freshV okF2 (n := 60) (by kernel_rfl) (by kernel_rfl) (args' := [.agg (Dir.cells ⟨a, b, c, e, w, p, kd⟩), aK .i64 x]) rfl (c40 ⟨a, b, c, e, w, p, kd⟩ x _ ?_)
  generalize hd : (⟨a, b, c, e, w, p, kd⟩ : Dir) = d
  have hdp : d.prec = p := by rw [← hd]
  have join3 : ∀ u v t : List UInt8, [u, v, t].flatten = u ++ v ++ t := fun u v t => by simp
  show iteP (d.prec == -1) _ _
  -- the part behind the point
  have tail : ∀ (r m : Int) (x2 : List UInt8) (pl : Int), m = (r.natAbs : Int) → r.natAbs ≤ 10000000005000 → x2.length ≤ 70 → 1 ≤ pl → pl ≤ 255 → ∀ (Q : List UInt8 → Prop), Q (x2 ++ ([46] ++ (zerosF (4 - (fmtN 10 (r.natAbs % 10000)).length) ++ fmtN 10 (r.natAbs % 10000) ++ zerosF (pl - 4)).take pl.toNat)) →
    ((0 : Int) ≤ m.tmod 10000 ∧ m.tmod 10000 ≤ 4294967295 ∧ ((10 : Int) = 8 ∨ (10 : Int) = 10 ∨ (10 : Int) = 16)) ∧ ∀ x3 : List UInt8, x3 = fmtN 10 (m.tmod 10000).toNat → IntKind.i64.wrap (4 - (x3.length : Int)) ≤ 1000 ∧ ∀ x4 : List UInt8, x4 = zerosF (IntKind.i64.wrap (4 - (x3.length : Int))) →
     IntKind.i64.wrap (pl - 4) ≤ 1000 ∧ ∀ x5 : List UInt8, x5 = zerosF (IntKind.i64.wrap (pl - 4)) → (true = true ∧ [x4, x3, x5].length ≤ 1000 ∧ [x4, x3, x5].flatten.length ≤ 10000000) ∧ ∀ x6 : List UInt8, x6 = [x4, x3, x5].flatten →
      iteP (decide (0 ≤ pl) && decide (pl ≤ (x6.length : Int))) ((true = true ∧ [x2, [46], List.take pl.toNat x6].length ≤ 1000 ∧ [x2, [46], List.take pl.toNat x6].flatten.length ≤ 10000000) ∧ ∀ x7 : List UInt8, x7 = [x2, [46], List.take pl.toNat x6].flatten → Q x7) False := by
   intro r m x2 pl hm hr hx2 h1 h2 Q hq
   have t2 : m.tmod 10000 = m % 10000 := tm (by omega)
   rw [t2]
   refine ⟨⟨by omega, by omega, .inr (.inl rfl)⟩, fun x3 h3 => ?_⟩
   have e3 : x3 = fmtN 10 (r.natAbs % 10000) := by rw [h3]; congr 1; omega
   have l3 : x3.length ≤ 70 := by rw [e3]; exact fmt_len _ _
   rw [wrap_in (x := 4 - (x3.length : Int)) (by omega) (by omega), wrap_in (x := pl - 4) (by omega) (by omega)]
   refine ⟨by omega, fun x4 h4 => ⟨by omega, fun x5 h5 => ?_⟩⟩
   have l4 := zeros_len (4 - (x3.length : Int))
   have l5 := zeros_len (pl - 4)
   rw [← h4] at l4
   rw [← h5] at l5
   refine ⟨⟨rfl, by show 3 ≤ 1000; decide, by rw [join3, List.length_append, List.length_append]; omega⟩, fun x6 h6 => ?_⟩
   rw [join3] at h6
   have l6 : x6.length = x4.length + x3.length + x5.length := by rw [h6, List.length_append, List.length_append]
   rw [show (decide (0 ≤ pl) && decide (pl ≤ (x6.length : Int))) = true by simp; omega, iteP_t]
   have l7 : (List.take pl.toNat x6).length ≤ 1000 := by rw [List.length_take]; omega
   refine ⟨⟨rfl, by show 3 ≤ 1000; decide, by rw [join3, List.length_append, List.length_append]; simp only [List.length_cons, List.length_nil]; omega⟩, fun x7 h7 => ?_⟩
   rw [join3] at h7
   rw [h7, h6, h4, h5, e3, List.append_assoc]
   exact hq
  have absr : ∀ r : Int, -10000000005000 ≤ r → r ≤ 10000000005000 → max r (IntKind.i64.wrap (0 - r)) = (r.natAbs : Int) ∧ r.natAbs ≤ 10000000005000 := by
   intro r h1 h2
   rw [wrap_in (by omega) (by omega)]
   omega
  have whole : ∀ (r : Int), r.natAbs ≤ 10000000005000 → ((0 : Int) ≤ IntKind.i64.wrap ((r.natAbs : Int).tdiv 10000) ∧ IntKind.i64.wrap ((r.natAbs : Int).tdiv 10000) ≤ 4294967295 ∧ ((10 : Int) = 8 ∨ (10 : Int) = 10 ∨ (10 : Int) = 16)) ∧ (IntKind.i64.wrap ((r.natAbs : Int).tdiv 10000)).toNat = r.natAbs / 10000 := by
   intro r h1
   rw [td (by omega), wrap_in (by omega) (by omega)]
   exact ⟨⟨by omega, by omega, .inr (.inl rfl)⟩, by omega⟩
  have K' : ∀ (r : Int) (pl : Int) (y : List UInt8), decimalsF d x = (signF d (decide (x < 0) && decide (r ≠ 0)), y) → (fun z : List UInt8 => AV.tup [AV.sc (.string ⟨⟨z⟩⟩), AV.sc (.string ⟨⟨y⟩⟩)] = AV.tup [aStr (decimalsF d x).1, aStr (decimalsF d x).2]) (signF d (decide (x < 0) && decide (r ≠ 0))) := by
   intro r pl y hy
   show _ = _
   rw [hy]; rfl
  by_cases hm : p = -1
  ·rw [show (d.prec == -1) = true by rw [hdp]; simpa using hm, iteP_t]
   refine ⟨trivial, fun r hr m hmm => ?_⟩
   have hb := round_le x 4
   rw [← hr] at hb
   obtain ⟨a1, a2⟩ := absr r hb.1 hb.2
   rw [a1] at hmm
   obtain ⟨w1, w2⟩ := whole r a2
   rw [hmm]
   refine ⟨w1, fun x2 h2 => ?_⟩
   rw [w2] at h2
   have l2 : x2.length ≤ 70 := by rw [h2]; exact fmt_len _ _
   have hpl : placesF d = 6 := by unfold placesF; rw [hdp, if_pos hm]
   have hd2 : decimalsF d x = (signF d (decide (x < 0) && decide (r ≠ 0)), x2 ++ ([46] ++ (zerosF (4 - (fmtN 10 (r.natAbs % 10000)).length) ++ fmtN 10 (r.natAbs % 10000) ++ zerosF (6 - 4)).take (6 : Int).toNat)) := by
    rw [decimals_eq d x r (by rw [hpl]; exact hr), hpl, if_pos (by decide), ← h2]
   exact tail r _ x2 6 rfl a2 l2 (by decide) (by decide) (fun x7 => iteP (decide (x < 0)) (iteP (r != 0) (True ∧ ∀ s : List UInt8, s = signF d true → AV.tup [AV.sc (.string ⟨⟨s⟩⟩), AV.sc (.string ⟨⟨x7⟩⟩)] = AV.tup [aStr (decimalsF d x).1, aStr (decimalsF d x).2]) (True ∧ ∀ s : List UInt8, s = signF d false → AV.tup [AV.sc (.string ⟨⟨s⟩⟩), AV.sc (.string ⟨⟨x7⟩⟩)] = AV.tup [aStr (decimalsF d x).1, aStr (decimalsF d x).2])) (True ∧ ∀ s : List UInt8, s = signF d false → AV.tup [AV.sc (.string ⟨⟨s⟩⟩), AV.sc (.string ⟨⟨x7⟩⟩)] = AV.tup [aStr (decimalsF d x).1, aStr (decimalsF d x).2])) (sign_end (K' r 6 _ hd2))
  ·rw [show (d.prec == -1) = false by rw [hdp]; simpa using hm, iteP_f]
   refine ⟨trivial, fun r hr m hmm => ?_⟩
   have hb := round_le x (min d.prec 4)
   rw [← hr] at hb
   obtain ⟨a1, a2⟩ := absr r hb.1 hb.2
   rw [a1] at hmm
   obtain ⟨w1, w2⟩ := whole r a2
   rw [hmm]
   refine ⟨w1, fun x2 h2 => ?_⟩
   rw [w2] at h2
   have l2 : x2.length ≤ 70 := by rw [h2]; exact fmt_len _ _
   have hpl : placesF d = d.prec := by unfold placesF; rw [if_neg (by rw [hdp]; exact hm)]
   by_cases h0 : (0 : Int) < d.prec
   ·have hd2 : decimalsF d x = (signF d (decide (x < 0) && decide (r ≠ 0)), x2 ++ ([46] ++ (zerosF (4 - (fmtN 10 (r.natAbs % 10000)).length) ++ fmtN 10 (r.natAbs % 10000) ++ zerosF (d.prec - 4)).take d.prec.toNat)) := by
     rw [decimals_eq d x r (by rw [hpl]; exact hr), hpl, if_pos h0, ← h2]
    rw [decide_eq_true h0, iteP_t]
    exact tail r _ x2 d.prec rfl a2 l2 (by omega) (by omega) (fun x7 => iteP (decide (x < 0)) (iteP (r != 0) (True ∧ ∀ s : List UInt8, s = signF d true → AV.tup [AV.sc (.string ⟨⟨s⟩⟩), AV.sc (.string ⟨⟨x7⟩⟩)] = AV.tup [aStr (decimalsF d x).1, aStr (decimalsF d x).2]) (True ∧ ∀ s : List UInt8, s = signF d false → AV.tup [AV.sc (.string ⟨⟨s⟩⟩), AV.sc (.string ⟨⟨x7⟩⟩)] = AV.tup [aStr (decimalsF d x).1, aStr (decimalsF d x).2])) (True ∧ ∀ s : List UInt8, s = signF d false → AV.tup [AV.sc (.string ⟨⟨s⟩⟩), AV.sc (.string ⟨⟨x7⟩⟩)] = AV.tup [aStr (decimalsF d x).1, aStr (decimalsF d x).2])) (sign_end (K' r d.prec _ hd2))
   ·have hd2 : decimalsF d x = (signF d (decide (x < 0) && decide (r ≠ 0)), x2) := by
     rw [decimals_eq d x r (by rw [hpl]; exact hr), hpl, if_neg h0, ← h2, List.append_nil]
    rw [decide_eq_false h0, iteP_f]
    exact sign_end (K' r d.prec _ hd2)
 ·cases hs
end
end Go.Proofs.Pr
namespace Go.Proofs.Pr
open Go Go.Ef
noncomputable section
set_option maxRecDepth 100000
theorem okF3 : TabOk Tryd.prog Door.cfg F3 := name_ok (name_ok (name_ok okF1 _ _) _ _) _ _
def intKind (k : Int) : Bool := k == 100 || k == 105 || k == 111 || k == 117 || k == 120 || k == 88
def C41 (args : List AV) (h : Heap) : Option CSpec :=
 match args with
 | [.agg [.sc (.bool a), .sc (.bool b), .sc (.bool c), .sc (.bool e), .sc (.int .i64 w), .sc (.int .i64 p), .sc (.int .u8 kd)], .sc (.int .i64 n)] => some (nspec (-1 ≤ p ∧ p ≤ 255 ∧ -1000000000 ≤ n ∧ n ≤ 1000000000 ∧ intKind kd = true) (integerF ⟨a, b, c, e, w, p, kd⟩ n) (fun y => .tup [aStr y.1, aStr y.2]) h)
 | _ => none
def layP (p : Int) (x : List UInt8) (Q : List UInt8 → Prop) : Prop :=
 ∀ m : Int, m = IntKind.i64.wrap (p - (x.length : Int)) → m ≤ 1000 ∧ ∀ z : List UInt8, z = zerosF m → (true = true ∧ [z, x].length ≤ 1000 ∧ [z, x].flatten.length ≤ 10000000) ∧ ∀ y : List UInt8, y = [z, x].flatten → Q y
def endI (n p : Int) (x : List UInt8) (Q : List UInt8 → Prop) : Prop := iteP (n == 0) (iteP (p == 0) (layP p [] Q) (layP p x Q)) (layP p x Q)
theorem lay_ok {p : Int} {x : List UInt8} {Q : List UInt8 → Prop} (h1 : -1 ≤ p) (h2 : p ≤ 255) (hx : x.length ≤ 100) (hq : Q (zerosF (p - x.length) ++ x)) : layP p x Q := by
 intro m hm
 rw [wrap_in (by omega) (by omega)] at hm
 refine ⟨by omega, fun z hz => ?_⟩
 have hl := zeros_len m
 rw [← hz] at hl
 have e : [z, x].flatten = z ++ x := by simp
 refine ⟨⟨rfl, by show 2 ≤ 1000; decide, by rw [e, List.length_append]; omega⟩, fun y hy => ?_⟩
 rw [hy, e, hz, hm]
 exact hq
theorem end_ok {n p : Int} {x : List UInt8} {Q : List UInt8 → Prop} (h1 : -1 ≤ p) (h2 : p ≤ 255) (hx : x.length ≤ 100) (y : List UInt8) (hy : y = if n = 0 ∧ p = 0 then [] else x) (hq : Q (zerosF (p - y.length) ++ y)) : endI n p x Q := by
 unfold endI
 by_cases hn : n = 0
 ·rw [show (n == 0) = true by simpa using hn, iteP_t]
  by_cases hp : p = 0
  ·rw [show (p == 0) = true by simpa using hp, iteP_t]
   rw [if_pos ⟨hn, hp⟩] at hy
   subst hy
   exact lay_ok h1 h2 (by decide) hq
  ·rw [show (p == 0) = false by simpa using hp, iteP_f]
   rw [if_neg (fun h => hp h.2)] at hy
   subst hy
   exact lay_ok h1 h2 hx hq
 ·rw [show (n == 0) = false by simpa using hn, iteP_f]
  rw [if_neg (fun h => hn h.1)] at hy
  subst hy
  exact lay_ok h1 h2 hx hq
theorem digit_128 {n : Nat} (h : n < 16) : (digitC n).toNat < 128 := by
 unfold digitC
 split
 ·simp; omega
 ·simp; omega
theorem digits_128 (b : Nat) (hb : b ≤ 16) (hb0 : 0 < b) : ∀ f n acc, (∀ c ∈ acc, UInt8.toNat c < 128) → ∀ c ∈ digitsL b f n acc, UInt8.toNat c < 128 := by
 intro f
 induction f with
 | zero => intro n acc h; exact h
 | succ f ih =>
  intro n acc h
  unfold digitsL
  split
  ·intro c hc
   rcases List.mem_cons.1 hc with rfl | hc
   ·exact digit_128 (by omega)
   ·exact h c hc
  ·refine ih _ _ fun c hc => ?_
   rcases List.mem_cons.1 hc with rfl | hc
   ·exact digit_128 (by have := Nat.mod_lt n hb0; omega)
   ·exact h c hc
theorem fmt_128 (b n : Nat) (hb : b ≤ 16) (hb0 : 0 < b) : (fmtN b n).all (fun c => decide (c.toNat < 128)) = true :=
 List.all_eq_true.2 fun c hc => by simpa using digits_128 b hb hb0 70 n [] (fun _ h => by cases h) c hc
abbrev tupS (x y : List UInt8) : AV := .tup [.sc (.string ⟨⟨x⟩⟩), .sc (.string ⟨⟨y⟩⟩)]
theorem int_100 (a b c e : Bool) (w p n : Int) (h1 : -1 ≤ p) (h2 : p ≤ 255) (h3 : -1000000000 ≤ n) (h4 : n ≤ 1000000000) : wpCall F3 Door.cfg Tryd.prog 60 41 [.agg [aBool a, aBool b, aBool c, aBool e, aK .i64 w, aK .i64 p, aK .u8 100], aK .i64 n] heapF fun r h' => wpBack h' r fun v => v = tupS (integerF ⟨a, b, c, e, w, p, 100⟩ n).1 (integerF ⟨a, b, c, e, w, p, 100⟩ n).2 := by
 refine c41_100 a b c e w p n _ ?_
 have hI : intDigits ⟨a, b, c, e, w, p, 100⟩ n = if n = 0 ∧ p = 0 then [] else fmtN 10 n.natAbs := rfl
 have hS : (integerF ⟨a, b, c, e, w, p, 100⟩ n).1 = signF ⟨a, b, c, e, w, p, 100⟩ (decide (n < 0)) := rfl
 have hR : (integerF ⟨a, b, c, e, w, p, 100⟩ n).2 = zerosF (p - (intDigits ⟨a, b, c, e, w, p, 100⟩ n).length) ++ intDigits ⟨a, b, c, e, w, p, 100⟩ n := rfl
 have part : ∀ x : List UInt8, x = signF ⟨a, b, c, e, w, p, 100⟩ (decide (n < 0)) → ∀ m : Int, m = max n (IntKind.i64.wrap (0 - n)) → ∀ A : Prop, iteP (decide (m < 0)) A (((0 : Int) ≤ m ∧ m ≤ 4294967295 ∧ ((10 : Int) = 8 ∨ (10 : Int) = 10 ∨ (10 : Int) = 16)) ∧ ∀ x1 : List UInt8, x1 = fmtN 10 m.toNat → endI n p x1 fun y => tupS x y = tupS (integerF ⟨a, b, c, e, w, p, 100⟩ n).1 (integerF ⟨a, b, c, e, w, p, 100⟩ n).2) := by
  intro x hx m hm A
  rw [wrap_in (by omega) (by omega)] at hm
  rw [decide_eq_false (show ¬ m < 0 by omega), iteP_f]
  refine ⟨⟨by omega, by omega, .inr (.inl rfl)⟩, fun x1 hx1 => ?_⟩
  have e1 : x1 = fmtN 10 n.natAbs := by rw [hx1]; congr 1; omega
  refine end_ok h1 h2 (by rw [hx1]; exact Nat.le_trans (fmt_len _ _) (by decide)) (intDigits ⟨a, b, c, e, w, p, 100⟩ n) (by rw [hI, e1]) ?_
  rw [hS, hR, hx]
 by_cases hn : n < 0
 ·rw [decide_eq_true hn] at part ⊢
  rw [iteP_t]
  exact ⟨trivial, fun x hx m hm => part x hx m hm _⟩
 ·rw [decide_eq_false hn] at part ⊢
  rw [iteP_f]
  exact ⟨trivial, fun x hx m hm => part x hx m hm _⟩
theorem int_105 (a b c e : Bool) (w p n : Int) (h1 : -1 ≤ p) (h2 : p ≤ 255) (h3 : -1000000000 ≤ n) (h4 : n ≤ 1000000000) : wpCall F3 Door.cfg Tryd.prog 60 41 [.agg [aBool a, aBool b, aBool c, aBool e, aK .i64 w, aK .i64 p, aK .u8 105], aK .i64 n] heapF fun r h' => wpBack h' r fun v => v = tupS (integerF ⟨a, b, c, e, w, p, 105⟩ n).1 (integerF ⟨a, b, c, e, w, p, 105⟩ n).2 := by
 refine c41_105 a b c e w p n _ ?_
 have hI : intDigits ⟨a, b, c, e, w, p, 105⟩ n = if n = 0 ∧ p = 0 then [] else fmtN 10 n.natAbs := rfl
 have hS : (integerF ⟨a, b, c, e, w, p, 105⟩ n).1 = signF ⟨a, b, c, e, w, p, 105⟩ (decide (n < 0)) := rfl
 have hR : (integerF ⟨a, b, c, e, w, p, 105⟩ n).2 = zerosF (p - (intDigits ⟨a, b, c, e, w, p, 105⟩ n).length) ++ intDigits ⟨a, b, c, e, w, p, 105⟩ n := rfl
 have part : ∀ x : List UInt8, x = signF ⟨a, b, c, e, w, p, 105⟩ (decide (n < 0)) → ∀ m : Int, m = max n (IntKind.i64.wrap (0 - n)) → ∀ A : Prop, iteP (decide (m < 0)) A (((0 : Int) ≤ m ∧ m ≤ 4294967295 ∧ ((10 : Int) = 8 ∨ (10 : Int) = 10 ∨ (10 : Int) = 16)) ∧ ∀ x1 : List UInt8, x1 = fmtN 10 m.toNat → endI n p x1 fun y => tupS x y = tupS (integerF ⟨a, b, c, e, w, p, 105⟩ n).1 (integerF ⟨a, b, c, e, w, p, 105⟩ n).2) := by
  intro x hx m hm A
  rw [wrap_in (by omega) (by omega)] at hm
  rw [decide_eq_false (show ¬ m < 0 by omega), iteP_f]
  refine ⟨⟨by omega, by omega, .inr (.inl rfl)⟩, fun x1 hx1 => ?_⟩
  have e1 : x1 = fmtN 10 n.natAbs := by rw [hx1]; congr 1; omega
  refine end_ok h1 h2 (by rw [hx1]; exact Nat.le_trans (fmt_len _ _) (by decide)) (intDigits ⟨a, b, c, e, w, p, 105⟩ n) (by rw [hI, e1]) ?_
  rw [hS, hR, hx]
 by_cases hn : n < 0
 ·rw [decide_eq_true hn] at part ⊢
  rw [iteP_t]
  exact ⟨trivial, fun x hx m hm => part x hx m hm _⟩
 ·rw [decide_eq_false hn] at part ⊢
  rw [iteP_f]
  exact ⟨trivial, fun x hx m hm => part x hx m hm _⟩
theorem int_111 (a b c e : Bool) (w p n : Int) (h1 : -1 ≤ p) (h2 : p ≤ 255) (h3 : -1000000000 ≤ n) (h4 : n ≤ 1000000000) : wpCall F3 Door.cfg Tryd.prog 60 41 [.agg [aBool a, aBool b, aBool c, aBool e, aK .i64 w, aK .i64 p, aK .u8 111], aK .i64 n] heapF fun r h' => wpBack h' r fun v => v = tupS (integerF ⟨a, b, c, e, w, p, 111⟩ n).1 (integerF ⟨a, b, c, e, w, p, 111⟩ n).2 := by
 refine c41_111 a b c e w p n _ ?_
 have hI : intDigits ⟨a, b, c, e, w, p, 111⟩ n = if n = 0 ∧ p = 0 then [] else (fmtN 8 (if n < 0 then n + 4294967296 else n).toNat) := rfl
 have hS : (integerF ⟨a, b, c, e, w, p, 111⟩ n).1 = [] := rfl
 have hR : (integerF ⟨a, b, c, e, w, p, 111⟩ n).2 = zerosF (p - (intDigits ⟨a, b, c, e, w, p, 111⟩ n).length) ++ intDigits ⟨a, b, c, e, w, p, 111⟩ n := rfl
 by_cases hn : n < 0
 ·rw [decide_eq_true hn, iteP_t]
  intro m hm
  rw [wrap_in (by omega) (by omega)] at hm
  refine ⟨⟨by omega, by omega, .inl rfl⟩, fun x hx => ?_⟩
  have lx : x.length ≤ 70 := by rw [hx]; exact fmt_len _ _
  refine end_ok h1 h2 (by omega) (intDigits ⟨a, b, c, e, w, p, 111⟩ n) (by rw [hI, hx, if_pos hn, hm]) ?_
  rw [hS, hR]
 ·rw [decide_eq_false hn, iteP_f]
  refine ⟨⟨by omega, by omega, .inl rfl⟩, fun x hx => ?_⟩
  have lx : x.length ≤ 70 := by rw [hx]; exact fmt_len _ _
  refine end_ok h1 h2 (by omega) (intDigits ⟨a, b, c, e, w, p, 111⟩ n) (by rw [hI, hx, if_neg hn]) ?_
  rw [hS, hR]
theorem int_117 (a b c e : Bool) (w p n : Int) (h1 : -1 ≤ p) (h2 : p ≤ 255) (h3 : -1000000000 ≤ n) (h4 : n ≤ 1000000000) : wpCall F3 Door.cfg Tryd.prog 60 41 [.agg [aBool a, aBool b, aBool c, aBool e, aK .i64 w, aK .i64 p, aK .u8 117], aK .i64 n] heapF fun r h' => wpBack h' r fun v => v = tupS (integerF ⟨a, b, c, e, w, p, 117⟩ n).1 (integerF ⟨a, b, c, e, w, p, 117⟩ n).2 := by
 refine c41_117 a b c e w p n _ ?_
 have hI : intDigits ⟨a, b, c, e, w, p, 117⟩ n = if n = 0 ∧ p = 0 then [] else (fmtN 10 (if n < 0 then n + 4294967296 else n).toNat) := rfl
 have hS : (integerF ⟨a, b, c, e, w, p, 117⟩ n).1 = [] := rfl
 have hR : (integerF ⟨a, b, c, e, w, p, 117⟩ n).2 = zerosF (p - (intDigits ⟨a, b, c, e, w, p, 117⟩ n).length) ++ intDigits ⟨a, b, c, e, w, p, 117⟩ n := rfl
 by_cases hn : n < 0
 ·rw [decide_eq_true hn, iteP_t]
  intro m hm
  rw [wrap_in (by omega) (by omega)] at hm
  refine ⟨⟨by omega, by omega, .inr (.inl rfl)⟩, fun x hx => ?_⟩
  have lx : x.length ≤ 70 := by rw [hx]; exact fmt_len _ _
  refine end_ok h1 h2 (by omega) (intDigits ⟨a, b, c, e, w, p, 117⟩ n) (by rw [hI, hx, if_pos hn, hm]) ?_
  rw [hS, hR]
 ·rw [decide_eq_false hn, iteP_f]
  refine ⟨⟨by omega, by omega, .inr (.inl rfl)⟩, fun x hx => ?_⟩
  have lx : x.length ≤ 70 := by rw [hx]; exact fmt_len _ _
  refine end_ok h1 h2 (by omega) (intDigits ⟨a, b, c, e, w, p, 117⟩ n) (by rw [hI, hx, if_neg hn]) ?_
  rw [hS, hR]
theorem int_120 (a b c e : Bool) (w p n : Int) (h1 : -1 ≤ p) (h2 : p ≤ 255) (h3 : -1000000000 ≤ n) (h4 : n ≤ 1000000000) : wpCall F3 Door.cfg Tryd.prog 60 41 [.agg [aBool a, aBool b, aBool c, aBool e, aK .i64 w, aK .i64 p, aK .u8 120], aK .i64 n] heapF fun r h' => wpBack h' r fun v => v = tupS (integerF ⟨a, b, c, e, w, p, 120⟩ n).1 (integerF ⟨a, b, c, e, w, p, 120⟩ n).2 := by
 refine c41_120 a b c e w p n _ ?_
 have hI : intDigits ⟨a, b, c, e, w, p, 120⟩ n = if n = 0 ∧ p = 0 then [] else (fmtN 16 (if n < 0 then n + 4294967296 else n).toNat) := rfl
 have hS : (integerF ⟨a, b, c, e, w, p, 120⟩ n).1 = [] := rfl
 have hR : (integerF ⟨a, b, c, e, w, p, 120⟩ n).2 = zerosF (p - (intDigits ⟨a, b, c, e, w, p, 120⟩ n).length) ++ intDigits ⟨a, b, c, e, w, p, 120⟩ n := rfl
 by_cases hn : n < 0
 ·rw [decide_eq_true hn, iteP_t]
  intro m hm
  rw [wrap_in (by omega) (by omega)] at hm
  refine ⟨⟨by omega, by omega, .inr (.inr rfl)⟩, fun x hx => ?_⟩
  have lx : x.length ≤ 70 := by rw [hx]; exact fmt_len _ _
  refine end_ok h1 h2 (by omega) (intDigits ⟨a, b, c, e, w, p, 120⟩ n) (by rw [hI, hx, if_pos hn, hm]) ?_
  rw [hS, hR]
 ·rw [decide_eq_false hn, iteP_f]
  refine ⟨⟨by omega, by omega, .inr (.inr rfl)⟩, fun x hx => ?_⟩
  have lx : x.length ≤ 70 := by rw [hx]; exact fmt_len _ _
  refine end_ok h1 h2 (by omega) (intDigits ⟨a, b, c, e, w, p, 120⟩ n) (by rw [hI, hx, if_neg hn]) ?_
  rw [hS, hR]
theorem int_88 (a b c e : Bool) (w p n : Int) (h1 : -1 ≤ p) (h2 : p ≤ 255) (h3 : -1000000000 ≤ n) (h4 : n ≤ 1000000000) : wpCall F3 Door.cfg Tryd.prog 60 41 [.agg [aBool a, aBool b, aBool c, aBool e, aK .i64 w, aK .i64 p, aK .u8 88], aK .i64 n] heapF fun r h' => wpBack h' r fun v => v = tupS (integerF ⟨a, b, c, e, w, p, 88⟩ n).1 (integerF ⟨a, b, c, e, w, p, 88⟩ n).2 := by
 refine c41_88 a b c e w p n _ ?_
 have hI : intDigits ⟨a, b, c, e, w, p, 88⟩ n = if n = 0 ∧ p = 0 then [] else (fmtN 16 (if n < 0 then n + 4294967296 else n).toNat).map upC := rfl
 have hS : (integerF ⟨a, b, c, e, w, p, 88⟩ n).1 = [] := rfl
 have hR : (integerF ⟨a, b, c, e, w, p, 88⟩ n).2 = zerosF (p - (intDigits ⟨a, b, c, e, w, p, 88⟩ n).length) ++ intDigits ⟨a, b, c, e, w, p, 88⟩ n := rfl
 by_cases hn : n < 0
 ·rw [decide_eq_true hn, iteP_t]
  intro m hm
  rw [wrap_in (by omega) (by omega)] at hm
  refine ⟨⟨by omega, by omega, .inr (.inr rfl)⟩, fun x hx => ?_⟩
  have lx : x.length ≤ 70 := by rw [hx]; exact fmt_len _ _
  refine ⟨⟨by omega, by rw [hx]; exact fmt_128 16 _ (by decide) (by decide)⟩, fun x1 hx1 => ?_⟩
  refine end_ok h1 h2 (by rw [hx1, List.length_map]; omega) (intDigits ⟨a, b, c, e, w, p, 88⟩ n) (by rw [hI, hx1, hx, if_pos hn, hm]) ?_
  rw [hS, hR]
 ·rw [decide_eq_false hn, iteP_f]
  refine ⟨⟨by omega, by omega, .inr (.inr rfl)⟩, fun x hx => ?_⟩
  have lx : x.length ≤ 70 := by rw [hx]; exact fmt_len _ _
  refine ⟨⟨by omega, by rw [hx]; exact fmt_128 16 _ (by decide) (by decide)⟩, fun x1 hx1 => ?_⟩
  refine end_ok h1 h2 (by rw [hx1, List.length_map]; omega) (intDigits ⟨a, b, c, e, w, p, 88⟩ n) (by rw [hI, hx1, hx, if_neg hn]) ?_
  rw [hS, hR]
theorem ok41 {T : Tab} (O : TabOk Tryd.prog Door.cfg T) : TabOk Tryd.prog Door.cfg (T.addC 41 C41) := by
 refine addC_ok O fun args h s hs hp => ?_
 unfold C41 at hs
 split at hs
 ·rename_i a b c e w p kd n
  refine nspec_ok (Option.some.inj hs) (fun hpre => ?_) hp
  obtain ⟨h1, h2, h3, h4, h5⟩ := hpre
  unfold intKind at h5
  simp only [Bool.or_eq_true, beq_iff_eq] at h5
  rcases h5 with ((((rfl | rfl) | rfl) | rfl) | rfl) | rfl
  ·exact EvP.freshV okF3 (n := 60) (by kernel_rfl) (by kernel_rfl) (args' := [.agg [aBool a, aBool b, aBool c, aBool e, aK .i64 w, aK .i64 p, aK .u8 100], aK .i64 n]) rfl (int_100 a b c e w p n h1 h2 h3 h4)
  ·exact EvP.freshV okF3 (n := 60) (by kernel_rfl) (by kernel_rfl) (args' := [.agg [aBool a, aBool b, aBool c, aBool e, aK .i64 w, aK .i64 p, aK .u8 105], aK .i64 n]) rfl (int_105 a b c e w p n h1 h2 h3 h4)
  ·exact EvP.freshV okF3 (n := 60) (by kernel_rfl) (by kernel_rfl) (args' := [.agg [aBool a, aBool b, aBool c, aBool e, aK .i64 w, aK .i64 p, aK .u8 111], aK .i64 n]) rfl (int_111 a b c e w p n h1 h2 h3 h4)
  ·exact EvP.freshV okF3 (n := 60) (by kernel_rfl) (by kernel_rfl) (args' := [.agg [aBool a, aBool b, aBool c, aBool e, aK .i64 w, aK .i64 p, aK .u8 117], aK .i64 n]) rfl (int_117 a b c e w p n h1 h2 h3 h4)
  ·exact EvP.freshV okF3 (n := 60) (by kernel_rfl) (by kernel_rfl) (args' := [.agg [aBool a, aBool b, aBool c, aBool e, aK .i64 w, aK .i64 p, aK .u8 120], aK .i64 n]) rfl (int_120 a b c e w p n h1 h2 h3 h4)
  ·exact EvP.freshV okF3 (n := 60) (by kernel_rfl) (by kernel_rfl) (args' := [.agg [aBool a, aBool b, aBool c, aBool e, aK .i64 w, aK .i64 p, aK .u8 88], aK .i64 n]) rfl (int_88 a b c e w p n h1 h2 h3 h4)
 ·cases hs
end
end Go.Proofs.Pr
namespace Go.Proofs.Pr
open Go Go.Ef
noncomputable section
def C39 (args : List AV) (h : Heap) : Option CSpec :=
 match args with
 | [.agg [.sc (.int .i64 k), .sc (.int .i64 n), .sc (.string s)]] => some (nspec True (textF k n s.data.toList) (fun x => aStr x) h)
 | _ => none
def M1 : Tab := Q1.addC 36 C36n
def M2 : Tab := ((M1.addC 39 C39).addC 40 C40).addC 41 C41
def M3 : Tab := tab0.addC 53 C53g
end
end Go.Proofs.Pr
namespace Go.Proofs.Pr
open Go Go.Ef
noncomputable section
set_option maxRecDepth 100000
theorem s39 (k : Int) (n : Int) (s : List UInt8) (K : AV → Prop) (h :
 iteP (k == 1) (True ∧ ∀ (x : List UInt8), x = decF (nearF (min (max n (-10000000000000)) 10000000000000)) → K (AV.sc (Value.string (ByteArray.mk (Array.mk x))))) (iteP (k == 2) (K (AV.sc (Value.string (ByteArray.mk (Array.mk s))))) (iteP (k == 3) (K (AV.sc (Value.string (ByteArray.mk (Array.mk s))))) (K (AV.sc (Value.string (ByteArray.mk (Array.mk [])))))))) :
 (fun (k n : Int) (s : List UInt8) (K : AV → Prop) => wpCall M3 Door.cfg Tryd.prog 40 39 [.agg [aK .i64 k, aK .i64 n, aStr s]] heapF fun r h' => wpBack h' r K) k n s K :=
 Eq.mp (by kernel_rfl) h
theorem s24_99 (a : Bool) (b : Bool) (c : Bool) (e : Bool) (w : Int) (p : Int) (k : Int) (n : Int) (s : List UInt8) (K : AV → Prop) (h :
 s.length.le 1000000 ∧ ∀ (x : Int), x = numberF k n s → iteP (k == 1) (True ∧ ∀ (x_1 : Int), x_1 = (nearF x).tdiv 10000 → K (AV.tup [AV.sc (Value.string (ByteArray.mk (Array.mk []))), AV.sc (Value.string (ByteArray.mk (Array.mk (List.map byteD [[AV.sc (Value.int IntKind.u8 (IntKind.u8.wrap ((IntKind.i64.wrap (x_1.tmod 256 + 256)).tmod 256)))]]))))])) (True ∧ ∀ (x : List UInt8), x = textF k n s →
 iteP (decide (0 ≤ min 1 (↑x.length : Int)) && decide (min 1 (↑x.length : Int) ≤ (↑x.length : Int))) (K (AV.tup [AV.sc (Value.string (ByteArray.mk (Array.mk []))), AV.sc (Value.string (ByteArray.mk (Array.mk (List.take (min 1 (↑x.length : Int)).toNat x))))])) False)) :
 (fun (a b c e : Bool) (w p k n : Int) (s : List UInt8) (K : AV → Prop) => wpCall M2 Door.cfg Tryd.prog 40 24 [.agg [aBool a, aBool b, aBool c, aBool e, aK .i64 w, aK .i64 p, aK .u8 99], .agg [aK .i64 k, aK .i64 n, aStr s]] heapF fun r h' => wpBack h' r K) a b c e w p k n s K :=
 Eq.mp (by kernel_rfl) h
theorem s24_115 (a : Bool) (b : Bool) (c : Bool) (e : Bool) (w : Int) (p : Int) (k : Int) (n : Int) (s : List UInt8) (K : AV → Prop) (h :
 s.length.le 1000000 ∧ ∀ (x : Int), x = numberF k n s → True ∧ ∀ (x : List UInt8), x = textF k n s → iteP (p != (-1)) (iteP (decide (0 ≤ min p (↑x.length : Int)) && decide (min p (↑x.length : Int) ≤ (↑x.length : Int))) (K (AV.tup [AV.sc (Value.string (ByteArray.mk (Array.mk []))), AV.sc (Value.string (ByteArray.mk (Array.mk (List.take (min p (↑x.length : Int)).toNat x))))])) False) (K (AV.tup
 [AV.sc (Value.string (ByteArray.mk (Array.mk []))), AV.sc (Value.string (ByteArray.mk (Array.mk x)))]))) :
 (fun (a b c e : Bool) (w p k n : Int) (s : List UInt8) (K : AV → Prop) => wpCall M2 Door.cfg Tryd.prog 40 24 [.agg [aBool a, aBool b, aBool c, aBool e, aK .i64 w, aK .i64 p, aK .u8 115], .agg [aK .i64 k, aK .i64 n, aStr s]] heapF fun r h' => wpBack h' r K) a b c e w p k n s K :=
 Eq.mp (by kernel_rfl) h
theorem s24_102 (a : Bool) (b : Bool) (c : Bool) (e : Bool) (w : Int) (p : Int) (k : Int) (n : Int) (s : List UInt8) (K : AV → Prop) (h :
 s.length.le 1000000 ∧ ∀ (x : Int), x = numberF k n s → ((-1) ≤ p ∧ p ≤ 255) ∧ ∀ (x_1 : List UInt8 × List UInt8), x_1 = (if (decide (x < 0) && decide ((if nearF x < 0 then -(((-nearF x + (if min (if p = (-1) then 6 else p) (4 : Int) ≤ 0 then 10000 else if min (if p = (-1) then 6 else p) (4 : Int) = 1 then 1000 else if min (if p = (-1) then 6 else p) (4 : Int) = 2 then 100 else if
 min (if p = (-1) then 6 else p) 4 = 3 then 10 else 1) / 2) / if min (if p = (-1) then 6 else p) (4 : Int) ≤ 0 then 10000 else if min (if p = (-1) then 6 else p) (4 : Int) = 1 then 1000 else if min (if p = (-1) then 6 else p) (4 : Int) = 2 then 100 else if min (if p = (-1) then 6 else p) (4 : Int) = 3 then 10 else 1) * if min (if p = (-1) then 6 else p) (4 : Int) ≤ 0 then 10000 else
 if min (if p = (-1) then 6 else p) (4 : Int) = 1 then 1000 else if min (if p = (-1) then 6 else p) (4 : Int) = 2 then 100 else if min (if p = (-1) then 6 else p) (4 : Int) = 3 then 10 else 1) else ((nearF x + (if min (if p = (-1) then 6 else p) (4 : Int) ≤ 0 then 10000 else if min (if p = (-1) then 6 else p) (4 : Int) = 1 then 1000 else if min (if p = (-1) then 6 else p) (4 : Int) = 2 then 100 else
 if min (if p = (-1) then 6 else p) (4 : Int) = 3 then 10 else 1) / 2) / if min (if p = (-1) then 6 else p) (4 : Int) ≤ 0 then 10000 else if min (if p = (-1) then 6 else p) (4 : Int) = 1 then 1000 else if min (if p = (-1) then 6 else p) (4 : Int) = 2 then 100 else if min (if p = (-1) then 6 else p) (4 : Int) = 3 then 10 else 1) * if min (if p = (-1) then 6 else p) (4 : Int) ≤ 0 then 10000 else
 if min (if p = (-1) then 6 else p) (4 : Int) = 1 then 1000 else if min (if p = (-1) then 6 else p) (4 : Int) = 2 then 100 else if min (if p = (-1) then 6 else p) (4 : Int) = 3 then 10 else 1) ≠ 0)) = true then [(45 : UInt8)] else if c = true then [(43 : UInt8)] else if e = true then [(32 : UInt8)] else [], digitsL 10 70 ((if nearF x < 0 then -(((-nearF x +
 (if min (if p = (-1) then 6 else p) (4 : Int) ≤ 0 then 10000 else if min (if p = (-1) then 6 else p) (4 : Int) = 1 then 1000 else if min (if p = (-1) then 6 else p) (4 : Int) = 2 then 100 else if min (if p = (-1) then 6 else p) (4 : Int) = 3 then 10 else 1) / 2) / if min (if p = (-1) then 6 else p) (4 : Int) ≤ 0 then 10000 else if min (if p = (-1) then 6 else p) (4 : Int) = 1 then 1000 else
 if min (if p = (-1) then 6 else p) (4 : Int) = 2 then 100 else if min (if p = (-1) then 6 else p) (4 : Int) = 3 then 10 else 1) * if min (if p = (-1) then 6 else p) (4 : Int) ≤ 0 then 10000 else if min (if p = (-1) then 6 else p) (4 : Int) = 1 then 1000 else if min (if p = (-1) then 6 else p) (4 : Int) = 2 then 100 else if min (if p = (-1) then 6 else p) (4 : Int) = 3 then 10 else 1) else
 ((nearF x + (if min (if p = (-1) then 6 else p) (4 : Int) ≤ 0 then 10000 else if min (if p = (-1) then 6 else p) (4 : Int) = 1 then 1000 else if min (if p = (-1) then 6 else p) (4 : Int) = 2 then 100 else if min (if p = (-1) then 6 else p) (4 : Int) = 3 then 10 else 1) / 2) / if min (if p = (-1) then 6 else p) (4 : Int) ≤ 0 then 10000 else if min (if p = (-1) then 6 else p) (4 : Int) = 1 then 1000
 else if min (if p = (-1) then 6 else p) (4 : Int) = 2 then 100 else if min (if p = (-1) then 6 else p) (4 : Int) = 3 then 10 else 1) * if min (if p = (-1) then 6 else p) (4 : Int) ≤ 0 then 10000 else if min (if p = (-1) then 6 else p) (4 : Int) = 1 then 1000 else if min (if p = (-1) then 6 else p) (4 : Int) = 2 then 100 else if min (if p = (-1) then 6 else p) (4 : Int) = 3 then 10 else 1).natAbs /
 10000) [] ++ if 0 < if p = (-1) then 6 else p then [(46 : UInt8)] ++ List.take (if p = (-1) then 6 else p).toNat (List.replicate (4 - (↑(digitsL 10 70 ((if nearF x < 0 then -(((-nearF x + (if min (if p = (-1) then 6 else p) 4 ≤ 0 then 10000 else if min (if p = (-1) then 6 else p) 4 = 1 then 1000 else if min (if p = (-1) then 6 else p) 4 = 2 then 100 else if min (if p = (-1) then 6 else p) 4 =
 3 then 10 else 1) / 2) / if min (if p = (-1) then 6 else p) 4 ≤ 0 then 10000 else if min (if p = (-1) then 6 else p) 4 = 1 then 1000 else if min (if p = (-1) then 6 else p) 4 = 2 then 100 else if min (if p = (-1) then 6 else p) 4 = 3 then 10 else 1) * if min (if p = (-1) then 6 else p) 4 ≤ 0 then 10000 else if min (if p = (-1) then 6 else p) 4 = 1 then 1000 else if
 min (if p = (-1) then 6 else p) 4 = 2 then 100 else if min (if p = (-1) then 6 else p) 4 = 3 then 10 else 1) else ((nearF x + (if min (if p = (-1) then 6 else p) 4 ≤ 0 then 10000 else if min (if p = (-1) then 6 else p) 4 = 1 then 1000 else if min (if p = (-1) then 6 else p) 4 = 2 then 100 else if min (if p = (-1) then 6 else p) 4 = 3 then 10 else 1) / 2) / if min (if p = (-1) then 6 else p) 4 ≤
 0 then 10000 else if min (if p = (-1) then 6 else p) 4 = 1 then 1000 else if min (if p = (-1) then 6 else p) 4 = 2 then 100 else if min (if p = (-1) then 6 else p) 4 = 3 then 10 else 1) * if min (if p = (-1) then 6 else p) 4 ≤ 0 then 10000 else if min (if p = (-1) then 6 else p) 4 = 1 then 1000 else if min (if p = (-1) then 6 else p) 4 = 2 then 100 else if min (if p = (-1) then 6 else p) 4 = 3 then
 10 else 1).natAbs % 10000) []).length : Int)).toNat (48 : UInt8) ++ digitsL 10 70 ((if nearF x < 0 then -(((-nearF x + (if min (if p = (-1) then 6 else p) (4 : Int) ≤ 0 then 10000 else if min (if p = (-1) then 6 else p) 4 = 1 then 1000 else if min (if p = (-1) then 6 else p) 4 = 2 then 100 else if min (if p = (-1) then 6 else p) 4 = 3 then 10 else 1) / 2) /
 if min (if p = (-1) then 6 else p) (4 : Int) ≤ 0 then 10000 else if min (if p = (-1) then 6 else p) (4 : Int) = 1 then 1000 else if min (if p = (-1) then 6 else p) 4 = 2 then 100 else if min (if p = (-1) then 6 else p) 4 = 3 then 10 else 1) * if min (if p = (-1) then 6 else p) (4 : Int) ≤ 0 then 10000 else if min (if p = (-1) then 6 else p) (4 : Int) = 1 then 1000 else
 if min (if p = (-1) then 6 else p) (4 : Int) = 2 then 100 else if min (if p = (-1) then 6 else p) 4 = 3 then 10 else 1) else ((nearF x + (if min (if p = (-1) then 6 else p) (4 : Int) ≤ 0 then 10000 else if min (if p = (-1) then 6 else p) 4 = 1 then 1000 else if min (if p = (-1) then 6 else p) 4 = 2 then 100 else if min (if p = (-1) then 6 else p) 4 = 3 then 10 else 1) / 2) /
 if min (if p = (-1) then 6 else p) (4 : Int) ≤ 0 then 10000 else if min (if p = (-1) then 6 else p) (4 : Int) = 1 then 1000 else if min (if p = (-1) then 6 else p) (4 : Int) = 2 then 100 else if min (if p = (-1) then 6 else p) 4 = 3 then 10 else 1) * if min (if p = (-1) then 6 else p) (4 : Int) ≤ 0 then 10000 else if min (if p = (-1) then 6 else p) (4 : Int) = 1 then 1000 else
 if min (if p = (-1) then 6 else p) (4 : Int) = 2 then 100 else if min (if p = (-1) then 6 else p) (4 : Int) = 3 then 10 else 1).natAbs % 10000) [] ++ List.replicate ((if p = (-1) then 6 else p) - 4).toNat (48 : UInt8)) else []) → K (AV.tup [AV.sc (Value.string (ByteArray.mk (Array.mk x_1.fst))), AV.sc (Value.string (ByteArray.mk (Array.mk x_1.snd)))])) :
 (fun (a b c e : Bool) (w p k n : Int) (s : List UInt8) (K : AV → Prop) => wpCall M2 Door.cfg Tryd.prog 40 24 [.agg [aBool a, aBool b, aBool c, aBool e, aK .i64 w, aK .i64 p, aK .u8 102], .agg [aK .i64 k, aK .i64 n, aStr s]] heapF fun r h' => wpBack h' r K) a b c e w p k n s K :=
 Eq.mp (by kernel_rfl) h
theorem s24_100 (a : Bool) (b : Bool) (c : Bool) (e : Bool) (w : Int) (p : Int) (k : Int) (n : Int) (s : List UInt8) (K : AV → Prop) (h :
 s.length.le 1000000 ∧ ∀ (x : Int), x = numberF k n s → True ∧ ∀ (x_1 : Int), x_1 = (nearF x).tdiv 10000 → ((-1) ≤ p ∧ p ≤ 255 ∧ (-1000000000) ≤ x_1 ∧ x_1 ≤ 1000000000 ∧ true = true) ∧ ∀ (x : List UInt8 × List UInt8), x = (if OfNat.ofNat (100 : Nat) = 100 ∨ OfNat.ofNat (100 : Nat) = 105 then if decide (x_1 < 0) = true then [(45 : UInt8)]
 else if c = true then [(43 : UInt8)] else if e = true then [(32 : UInt8)] else [] else [], List.replicate (p - (↑(if x_1 = 0 ∧ p = 0 then [] else if OfNat.ofNat (100 : Nat) = 100 ∨ OfNat.ofNat (100 : Nat) = 105 then digitsL 10 70 x_1.natAbs [] else if OfNat.ofNat (100 : Nat) = 111 then digitsL 8 70 (if x_1 < 0 then x_1 + 4294967296 else x_1).toNat [] else if OfNat.ofNat (100 : Nat) = 120 then
 digitsL 16 70 (if x_1 < 0 then x_1 + 4294967296 else x_1).toNat [] else if OfNat.ofNat (100 : Nat) = 88 then List.map upC (digitsL 16 70 (if x_1 < 0 then x_1 + 4294967296 else x_1).toNat []) else digitsL 10 70 (if x_1 < 0 then x_1 + 4294967296 else x_1).toNat []).length : Int)).toNat (48 : UInt8) ++ if x_1 = 0 ∧ p = 0 then [] else
 if OfNat.ofNat (100 : Nat) = 100 ∨ OfNat.ofNat (100 : Nat) = 105 then digitsL 10 70 x_1.natAbs [] else if OfNat.ofNat (100 : Nat) = 111 then digitsL 8 70 (if x_1 < 0 then x_1 + 4294967296 else x_1).toNat [] else if OfNat.ofNat (100 : Nat) = 120 then digitsL 16 70 (if x_1 < 0 then x_1 + 4294967296 else x_1).toNat [] else if OfNat.ofNat (100 : Nat) = 88 then List.map upC (digitsL 16 70
 (if x_1 < 0 then x_1 + 4294967296 else x_1).toNat []) else digitsL 10 70 (if x_1 < 0 then x_1 + 4294967296 else x_1).toNat []) → K (AV.tup [AV.sc (Value.string (ByteArray.mk (Array.mk x.fst))), AV.sc (Value.string (ByteArray.mk (Array.mk x.snd)))])) :
 (fun (a b c e : Bool) (w p k n : Int) (s : List UInt8) (K : AV → Prop) => wpCall M2 Door.cfg Tryd.prog 40 24 [.agg [aBool a, aBool b, aBool c, aBool e, aK .i64 w, aK .i64 p, aK .u8 100], .agg [aK .i64 k, aK .i64 n, aStr s]] heapF fun r h' => wpBack h' r K) a b c e w p k n s K :=
 Eq.mp (by kernel_rfl) h
theorem s24_105 (a : Bool) (b : Bool) (c : Bool) (e : Bool) (w : Int) (p : Int) (k : Int) (n : Int) (s : List UInt8) (K : AV → Prop) (h :
 s.length.le 1000000 ∧ ∀ (x : Int), x = numberF k n s → True ∧ ∀ (x_1 : Int), x_1 = (nearF x).tdiv 10000 → ((-1) ≤ p ∧ p ≤ 255 ∧ (-1000000000) ≤ x_1 ∧ x_1 ≤ 1000000000 ∧ true = true) ∧ ∀ (x : List UInt8 × List UInt8), x = (if OfNat.ofNat (105 : Nat) = 100 ∨ OfNat.ofNat (105 : Nat) = 105 then if decide (x_1 < 0) = true then [(45 : UInt8)]
 else if c = true then [(43 : UInt8)] else if e = true then [(32 : UInt8)] else [] else [], List.replicate (p - (↑(if x_1 = 0 ∧ p = 0 then [] else if OfNat.ofNat (105 : Nat) = 100 ∨ OfNat.ofNat (105 : Nat) = 105 then digitsL 10 70 x_1.natAbs [] else if OfNat.ofNat (105 : Nat) = 111 then digitsL 8 70 (if x_1 < 0 then x_1 + 4294967296 else x_1).toNat [] else if OfNat.ofNat (105 : Nat) = 120 then
 digitsL 16 70 (if x_1 < 0 then x_1 + 4294967296 else x_1).toNat [] else if OfNat.ofNat (105 : Nat) = 88 then List.map upC (digitsL 16 70 (if x_1 < 0 then x_1 + 4294967296 else x_1).toNat []) else digitsL 10 70 (if x_1 < 0 then x_1 + 4294967296 else x_1).toNat []).length : Int)).toNat (48 : UInt8) ++ if x_1 = 0 ∧ p = 0 then [] else
 if OfNat.ofNat (105 : Nat) = 100 ∨ OfNat.ofNat (105 : Nat) = 105 then digitsL 10 70 x_1.natAbs [] else if OfNat.ofNat (105 : Nat) = 111 then digitsL 8 70 (if x_1 < 0 then x_1 + 4294967296 else x_1).toNat [] else if OfNat.ofNat (105 : Nat) = 120 then digitsL 16 70 (if x_1 < 0 then x_1 + 4294967296 else x_1).toNat [] else if OfNat.ofNat (105 : Nat) = 88 then List.map upC (digitsL 16 70
 (if x_1 < 0 then x_1 + 4294967296 else x_1).toNat []) else digitsL 10 70 (if x_1 < 0 then x_1 + 4294967296 else x_1).toNat []) → K (AV.tup [AV.sc (Value.string (ByteArray.mk (Array.mk x.fst))), AV.sc (Value.string (ByteArray.mk (Array.mk x.snd)))])) :
 (fun (a b c e : Bool) (w p k n : Int) (s : List UInt8) (K : AV → Prop) => wpCall M2 Door.cfg Tryd.prog 40 24 [.agg [aBool a, aBool b, aBool c, aBool e, aK .i64 w, aK .i64 p, aK .u8 105], .agg [aK .i64 k, aK .i64 n, aStr s]] heapF fun r h' => wpBack h' r K) a b c e w p k n s K :=
 Eq.mp (by kernel_rfl) h
theorem s24_111 (a : Bool) (b : Bool) (c : Bool) (e : Bool) (w : Int) (p : Int) (k : Int) (n : Int) (s : List UInt8) (K : AV → Prop) (h :
 s.length.le 1000000 ∧ ∀ (x : Int), x = numberF k n s → True ∧ ∀ (x_1 : Int), x_1 = (nearF x).tdiv 10000 → ((-1) ≤ p ∧ p ≤ 255 ∧ (-1000000000) ≤ x_1 ∧ x_1 ≤ 1000000000 ∧ true = true) ∧ ∀ (x : List UInt8 × List UInt8), x = (if OfNat.ofNat (111 : Nat) = 100 ∨ OfNat.ofNat (111 : Nat) = 105 then if decide (x_1 < 0) = true then [(45 : UInt8)]
 else if c = true then [(43 : UInt8)] else if e = true then [(32 : UInt8)] else [] else [], List.replicate (p - (↑(if x_1 = 0 ∧ p = 0 then [] else if OfNat.ofNat (111 : Nat) = 100 ∨ OfNat.ofNat (111 : Nat) = 105 then digitsL 10 70 x_1.natAbs [] else if OfNat.ofNat (111 : Nat) = 111 then digitsL 8 70 (if x_1 < 0 then x_1 + 4294967296 else x_1).toNat [] else if OfNat.ofNat (111 : Nat) = 120 then
 digitsL 16 70 (if x_1 < 0 then x_1 + 4294967296 else x_1).toNat [] else if OfNat.ofNat (111 : Nat) = 88 then List.map upC (digitsL 16 70 (if x_1 < 0 then x_1 + 4294967296 else x_1).toNat []) else digitsL 10 70 (if x_1 < 0 then x_1 + 4294967296 else x_1).toNat []).length : Int)).toNat (48 : UInt8) ++ if x_1 = 0 ∧ p = 0 then [] else
 if OfNat.ofNat (111 : Nat) = 100 ∨ OfNat.ofNat (111 : Nat) = 105 then digitsL 10 70 x_1.natAbs [] else if OfNat.ofNat (111 : Nat) = 111 then digitsL 8 70 (if x_1 < 0 then x_1 + 4294967296 else x_1).toNat [] else if OfNat.ofNat (111 : Nat) = 120 then digitsL 16 70 (if x_1 < 0 then x_1 + 4294967296 else x_1).toNat [] else if OfNat.ofNat (111 : Nat) = 88 then List.map upC (digitsL 16 70
 (if x_1 < 0 then x_1 + 4294967296 else x_1).toNat []) else digitsL 10 70 (if x_1 < 0 then x_1 + 4294967296 else x_1).toNat []) → K (AV.tup [AV.sc (Value.string (ByteArray.mk (Array.mk x.fst))), AV.sc (Value.string (ByteArray.mk (Array.mk x.snd)))])) :
 (fun (a b c e : Bool) (w p k n : Int) (s : List UInt8) (K : AV → Prop) => wpCall M2 Door.cfg Tryd.prog 40 24 [.agg [aBool a, aBool b, aBool c, aBool e, aK .i64 w, aK .i64 p, aK .u8 111], .agg [aK .i64 k, aK .i64 n, aStr s]] heapF fun r h' => wpBack h' r K) a b c e w p k n s K :=
 Eq.mp (by kernel_rfl) h
theorem s24_117 (a : Bool) (b : Bool) (c : Bool) (e : Bool) (w : Int) (p : Int) (k : Int) (n : Int) (s : List UInt8) (K : AV → Prop) (h :
 s.length.le 1000000 ∧ ∀ (x : Int), x = numberF k n s → True ∧ ∀ (x_1 : Int), x_1 = (nearF x).tdiv 10000 → ((-1) ≤ p ∧ p ≤ 255 ∧ (-1000000000) ≤ x_1 ∧ x_1 ≤ 1000000000 ∧ true = true) ∧ ∀ (x : List UInt8 × List UInt8), x = (if OfNat.ofNat (117 : Nat) = 100 ∨ OfNat.ofNat (117 : Nat) = 105 then if decide (x_1 < 0) = true then [(45 : UInt8)]
 else if c = true then [(43 : UInt8)] else if e = true then [(32 : UInt8)] else [] else [], List.replicate (p - (↑(if x_1 = 0 ∧ p = 0 then [] else if OfNat.ofNat (117 : Nat) = 100 ∨ OfNat.ofNat (117 : Nat) = 105 then digitsL 10 70 x_1.natAbs [] else if OfNat.ofNat (117 : Nat) = 111 then digitsL 8 70 (if x_1 < 0 then x_1 + 4294967296 else x_1).toNat [] else if OfNat.ofNat (117 : Nat) = 120 then
 digitsL 16 70 (if x_1 < 0 then x_1 + 4294967296 else x_1).toNat [] else if OfNat.ofNat (117 : Nat) = 88 then List.map upC (digitsL 16 70 (if x_1 < 0 then x_1 + 4294967296 else x_1).toNat []) else digitsL 10 70 (if x_1 < 0 then x_1 + 4294967296 else x_1).toNat []).length : Int)).toNat (48 : UInt8) ++ if x_1 = 0 ∧ p = 0 then [] else
 if OfNat.ofNat (117 : Nat) = 100 ∨ OfNat.ofNat (117 : Nat) = 105 then digitsL 10 70 x_1.natAbs [] else if OfNat.ofNat (117 : Nat) = 111 then digitsL 8 70 (if x_1 < 0 then x_1 + 4294967296 else x_1).toNat [] else if OfNat.ofNat (117 : Nat) = 120 then digitsL 16 70 (if x_1 < 0 then x_1 + 4294967296 else x_1).toNat [] else if OfNat.ofNat (117 : Nat) = 88 then List.map upC (digitsL 16 70
 (if x_1 < 0 then x_1 + 4294967296 else x_1).toNat []) else digitsL 10 70 (if x_1 < 0 then x_1 + 4294967296 else x_1).toNat []) → K (AV.tup [AV.sc (Value.string (ByteArray.mk (Array.mk x.fst))), AV.sc (Value.string (ByteArray.mk (Array.mk x.snd)))])) :
 (fun (a b c e : Bool) (w p k n : Int) (s : List UInt8) (K : AV → Prop) => wpCall M2 Door.cfg Tryd.prog 40 24 [.agg [aBool a, aBool b, aBool c, aBool e, aK .i64 w, aK .i64 p, aK .u8 117], .agg [aK .i64 k, aK .i64 n, aStr s]] heapF fun r h' => wpBack h' r K) a b c e w p k n s K :=
 Eq.mp (by kernel_rfl) h
theorem s24_120 (a : Bool) (b : Bool) (c : Bool) (e : Bool) (w : Int) (p : Int) (k : Int) (n : Int) (s : List UInt8) (K : AV → Prop) (h :
 s.length.le 1000000 ∧ ∀ (x : Int), x = numberF k n s → True ∧ ∀ (x_1 : Int), x_1 = (nearF x).tdiv 10000 → ((-1) ≤ p ∧ p ≤ 255 ∧ (-1000000000) ≤ x_1 ∧ x_1 ≤ 1000000000 ∧ true = true) ∧ ∀ (x : List UInt8 × List UInt8), x = (if OfNat.ofNat (120 : Nat) = 100 ∨ OfNat.ofNat (120 : Nat) = 105 then if decide (x_1 < 0) = true then [(45 : UInt8)]
 else if c = true then [(43 : UInt8)] else if e = true then [(32 : UInt8)] else [] else [], List.replicate (p - (↑(if x_1 = 0 ∧ p = 0 then [] else if OfNat.ofNat (120 : Nat) = 100 ∨ OfNat.ofNat (120 : Nat) = 105 then digitsL 10 70 x_1.natAbs [] else if OfNat.ofNat (120 : Nat) = 111 then digitsL 8 70 (if x_1 < 0 then x_1 + 4294967296 else x_1).toNat [] else if OfNat.ofNat (120 : Nat) = 120 then
 digitsL 16 70 (if x_1 < 0 then x_1 + 4294967296 else x_1).toNat [] else if OfNat.ofNat (120 : Nat) = 88 then List.map upC (digitsL 16 70 (if x_1 < 0 then x_1 + 4294967296 else x_1).toNat []) else digitsL 10 70 (if x_1 < 0 then x_1 + 4294967296 else x_1).toNat []).length : Int)).toNat (48 : UInt8) ++ if x_1 = 0 ∧ p = 0 then [] else
 if OfNat.ofNat (120 : Nat) = 100 ∨ OfNat.ofNat (120 : Nat) = 105 then digitsL 10 70 x_1.natAbs [] else if OfNat.ofNat (120 : Nat) = 111 then digitsL 8 70 (if x_1 < 0 then x_1 + 4294967296 else x_1).toNat [] else if OfNat.ofNat (120 : Nat) = 120 then digitsL 16 70 (if x_1 < 0 then x_1 + 4294967296 else x_1).toNat [] else if OfNat.ofNat (120 : Nat) = 88 then List.map upC (digitsL 16 70
 (if x_1 < 0 then x_1 + 4294967296 else x_1).toNat []) else digitsL 10 70 (if x_1 < 0 then x_1 + 4294967296 else x_1).toNat []) → K (AV.tup [AV.sc (Value.string (ByteArray.mk (Array.mk x.fst))), AV.sc (Value.string (ByteArray.mk (Array.mk x.snd)))])) :
 (fun (a b c e : Bool) (w p k n : Int) (s : List UInt8) (K : AV → Prop) => wpCall M2 Door.cfg Tryd.prog 40 24 [.agg [aBool a, aBool b, aBool c, aBool e, aK .i64 w, aK .i64 p, aK .u8 120], .agg [aK .i64 k, aK .i64 n, aStr s]] heapF fun r h' => wpBack h' r K) a b c e w p k n s K :=
 Eq.mp (by kernel_rfl) h
theorem s24_88 (a : Bool) (b : Bool) (c : Bool) (e : Bool) (w : Int) (p : Int) (k : Int) (n : Int) (s : List UInt8) (K : AV → Prop) (h :
 s.length.le 1000000 ∧ ∀ (x : Int), x = numberF k n s → True ∧ ∀ (x_1 : Int), x_1 = (nearF x).tdiv 10000 → ((-1) ≤ p ∧ p ≤ 255 ∧ (-1000000000) ≤ x_1 ∧ x_1 ≤ 1000000000 ∧ true = true) ∧ ∀ (x : List UInt8 × List UInt8), x = (if OfNat.ofNat (88 : Nat) = 100 ∨ OfNat.ofNat (88 : Nat) = 105 then if decide (x_1 < 0) = true then [(45 : UInt8)]
 else if c = true then [(43 : UInt8)] else if e = true then [(32 : UInt8)] else [] else [], List.replicate (p - (↑(if x_1 = 0 ∧ p = 0 then [] else if OfNat.ofNat (88 : Nat) = 100 ∨ OfNat.ofNat (88 : Nat) = 105 then digitsL 10 70 x_1.natAbs [] else if OfNat.ofNat (88 : Nat) = 111 then digitsL 8 70 (if x_1 < 0 then x_1 + 4294967296 else x_1).toNat [] else if OfNat.ofNat (88 : Nat) = 120 then
 digitsL 16 70 (if x_1 < 0 then x_1 + 4294967296 else x_1).toNat [] else if OfNat.ofNat (88 : Nat) = 88 then List.map upC (digitsL 16 70 (if x_1 < 0 then x_1 + 4294967296 else x_1).toNat []) else digitsL 10 70 (if x_1 < 0 then x_1 + 4294967296 else x_1).toNat []).length : Int)).toNat (48 : UInt8) ++ if x_1 = 0 ∧ p = 0 then [] else if OfNat.ofNat (88 : Nat) = 100 ∨ OfNat.ofNat (88 : Nat) = 105 then
 digitsL 10 70 x_1.natAbs [] else if OfNat.ofNat (88 : Nat) = 111 then digitsL 8 70 (if x_1 < 0 then x_1 + 4294967296 else x_1).toNat [] else if OfNat.ofNat (88 : Nat) = 120 then digitsL 16 70 (if x_1 < 0 then x_1 + 4294967296 else x_1).toNat [] else if OfNat.ofNat (88 : Nat) = 88 then List.map upC (digitsL 16 70 (if x_1 < 0 then x_1 + 4294967296 else x_1).toNat []) else digitsL 10 70
 (if x_1 < 0 then x_1 + 4294967296 else x_1).toNat []) → K (AV.tup [AV.sc (Value.string (ByteArray.mk (Array.mk x.fst))), AV.sc (Value.string (ByteArray.mk (Array.mk x.snd)))])) :
 (fun (a b c e : Bool) (w p k n : Int) (s : List UInt8) (K : AV → Prop) => wpCall M2 Door.cfg Tryd.prog 40 24 [.agg [aBool a, aBool b, aBool c, aBool e, aK .i64 w, aK .i64 p, aK .u8 88], .agg [aK .i64 k, aK .i64 n, aStr s]] heapF fun r h' => wpBack h' r K) a b c e w p k n s K :=
 Eq.mp (by kernel_rfl) h
end
end Go.Proofs.Pr
