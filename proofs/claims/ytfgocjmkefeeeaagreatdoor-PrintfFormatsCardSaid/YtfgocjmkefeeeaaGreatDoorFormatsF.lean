/- A part of the proof: definitions and lemmas. -/
import Derived.Test.YtfgocjmkefeeeaaGreatDoorFormatsE
namespace Go.Proofs.Pr
open Go Go.Ef
noncomputable section
set_option maxRecDepth 100000
theorem c66 (n : Int) (K : AV → Prop) (h :
 (0 ≤ n ∧ n ≤ 4294967295) ∧ ∀ (x : List UInt8), x = fmtN 10 n.toNat → K (AV.sc (Value.string (ByteArray.mk (Array.mk x))))) :
 (fun (n : Int) (K : AV → Prop) => wpCall E1 Door.cfg Tryz.prog 60 73 [aK .i64 n] heapF fun r h' => wpBack h' r K) n K :=
 Eq.mp (by kernel_rfl) h
theorem c54 (d : Int) (p : Int) (K : AV → Prop) (h :
 iteP (decide (max 0 (min 4 p) = 4)) (iteP (decide (max (-10000000000000) (min 10000000000000 d) < 0)) (K (AV.sc (Value.int IntKind.i64 (IntKind.i64.wrap (0 - IntKind.i64.wrap (IntKind.i64.wrap ((IntKind.i64.wrap (IntKind.i64.wrap (0 - max (-10000000000000) (min 10000000000000 d)) + 0)).tdiv 1) * 1)))))) (K (AV.sc (Value.int IntKind.i64 (IntKind.i64.wrap (IntKind.i64.wrap
 ((IntKind.i64.wrap (max (-10000000000000) (min 10000000000000 d) + 0)).tdiv 1) * 1)))))) (iteP (decide (max 0 (min 4 p) = 3)) (iteP (decide (max (-10000000000000) (min 10000000000000 d) < 0)) (K (AV.sc (Value.int IntKind.i64 (IntKind.i64.wrap (0 - IntKind.i64.wrap (IntKind.i64.wrap ((IntKind.i64.wrap (IntKind.i64.wrap (0 - max (-10000000000000) (min 10000000000000 d)) + 5)).tdiv 10) * 10)))))) (K
 (AV.sc (Value.int IntKind.i64 (IntKind.i64.wrap (IntKind.i64.wrap ((IntKind.i64.wrap (max (-10000000000000) (min 10000000000000 d) + 5)).tdiv 10) * 10)))))) (iteP (decide (max 0 (min 4 p) = 2)) (iteP (decide (max (-10000000000000) (min 10000000000000 d) < 0)) (K (AV.sc (Value.int IntKind.i64 (IntKind.i64.wrap (0 - IntKind.i64.wrap (IntKind.i64.wrap ((IntKind.i64.wrap (IntKind.i64.wrap
 (0 - max (-10000000000000) (min 10000000000000 d)) + 50)).tdiv 100) * 100)))))) (K (AV.sc (Value.int IntKind.i64 (IntKind.i64.wrap (IntKind.i64.wrap ((IntKind.i64.wrap (max (-10000000000000) (min 10000000000000 d) + 50)).tdiv 100) * 100)))))) (iteP (decide (max 0 (min 4 p) = 1)) (iteP (decide (max (-10000000000000) (min 10000000000000 d) < 0)) (K (AV.sc (Value.int IntKind.i64 (IntKind.i64.wrap (0 -
 IntKind.i64.wrap (IntKind.i64.wrap ((IntKind.i64.wrap (IntKind.i64.wrap (0 - max (-10000000000000) (min 10000000000000 d)) + 500)).tdiv 1000) * 1000)))))) (K (AV.sc (Value.int IntKind.i64 (IntKind.i64.wrap (IntKind.i64.wrap ((IntKind.i64.wrap (max (-10000000000000) (min 10000000000000 d) + 500)).tdiv 1000) * 1000)))))) (iteP (decide (max 0 (min 4 p) = 0))
 (iteP (decide (max (-10000000000000) (min 10000000000000 d) < 0)) (K (AV.sc (Value.int IntKind.i64 (IntKind.i64.wrap (0 - IntKind.i64.wrap (IntKind.i64.wrap ((IntKind.i64.wrap (IntKind.i64.wrap (0 - max (-10000000000000) (min 10000000000000 d)) + 5000)).tdiv 10000) * 10000)))))) (K (AV.sc (Value.int IntKind.i64 (IntKind.i64.wrap (IntKind.i64.wrap ((IntKind.i64.wrap
 (max (-10000000000000) (min 10000000000000 d) + 5000)).tdiv 10000) * 10000)))))) False))))) :
 (fun (d p : Int) (K : AV → Prop) => wpCall tab0 Door.cfg Tryz.prog 60 54 [aK .i64 d, aK .i64 p] heapF fun r h' => wpBack h' r K) d p K :=
 Eq.mp (by kernel_rfl) h
theorem v53 (s : List UInt8) (t : List UInt8) (N : List UInt8 → Prop) (X : Ex → List UInt8 → Prop) (h :
 iteP (inRange (IntKind.i64.wrap ((↑t.length : Int) - 1)) t.length) (iteP (byteAt t (IntKind.i64.wrap ((↑t.length : Int) - 1)) == 48) (iteP (decide (0 ≤ IntKind.i64.wrap ((↑t.length : Int) - 1)) && decide (IntKind.i64.wrap ((↑t.length : Int) - 1) ≤ (↑t.length : Int))) (I53 s (List.take (IntKind.i64.wrap ((↑t.length : Int) - 1)).toNat t) =
 I53 s (List.take (IntKind.i64.wrap ((↑t.length : Int) - 1)).toNat t) ∧ N (List.take (IntKind.i64.wrap ((↑t.length : Int) - 1)).toNat t)) False) (I53 s t = I53 s t ∧ X (Ex.exit 0) t)) False) :
 (fun (s t : List UInt8) (N : List UInt8 → Prop) (X : Ex → List UInt8 → Prop) => wpRound tab0 Door.cfg Tryz.prog 40 53 11 (I53 s t) (fun τ => τ = I53 s (slS τ 6) ∧ N (slS τ 6)) (fun e τ => τ = I53 s (slS τ 6) ∧ X e (slS τ 6))) s t N X :=
 Eq.mp (by kernel_rfl) h
theorem c53 (d : Int) (K : AV → Prop) (h :
 ∀ (m : Int), m = max (-10000000000000) (min 10000000000000 d) → iteP (decide (m < 0)) (∀ (m_1 : Int), m_1 = IntKind.i64.wrap (0 - m) → (0 ≤ IntKind.i64.wrap (m_1.tdiv 10000) ∧ IntKind.i64.wrap (m_1.tdiv 10000) ≤ 4294967295) ∧ ∀ (x : List UInt8), x = fmtN 10 (IntKind.i64.wrap (m_1.tdiv 10000)).toNat → iteP (strFits [(45 : UInt8)] x) (iteP (m_1.tmod 10000 == 0)
 (K (AV.sc (Value.string (ByteArray.mk (Array.mk ([(45 : UInt8)] ++ x)))))) ((0 ≤ IntKind.i64.wrap (10000 + m_1.tmod 10000) ∧ IntKind.i64.wrap (10000 + m_1.tmod 10000) ≤ 4294967295) ∧ ∀ (x_1 : List UInt8), x_1 = fmtN 10 (IntKind.i64.wrap (10000 + m_1.tmod 10000)).toNat → iteP (true && decide (1 ≤ (↑x_1.length : Int))) (∀ (l : List UInt8), l = List.drop 1 x_1 →
 loopAt Tryz.prog 53 11 = loopAt Tryz.prog 53 11 ∧ (I53 ([(45 : UInt8)] ++ x) l = I53 ([(45 : UInt8)] ++ x) l ∧ (stripZ l).isEmpty = false ∧ l.length ≤ 1000) ∧ ∀ (x_2 : List UInt8), x_2 = stripZ l → iteP (strFits ([(45 : UInt8)] ++ x) [(46 : UInt8)]) (iteP (strFits ([(45 : UInt8)] ++ x ++ [(46 : UInt8)]) x_2) (K (AV.sc (Value.string (ByteArray.mk
 (Array.mk ([(45 : UInt8)] ++ x ++ [(46 : UInt8)] ++ x_2)))))) False) False) False)) False) ((0 ≤ IntKind.i64.wrap (m.tdiv 10000) ∧ IntKind.i64.wrap (m.tdiv 10000) ≤ 4294967295) ∧ ∀ (x : List UInt8), x = fmtN 10 (IntKind.i64.wrap (m.tdiv 10000)).toNat → iteP (strFits [] x) (iteP (m.tmod 10000 == 0) (K (AV.sc (Value.string (ByteArray.mk (Array.mk ([] ++ x))))))
 ((0 ≤ IntKind.i64.wrap (10000 + m.tmod 10000) ∧ IntKind.i64.wrap (10000 + m.tmod 10000) ≤ 4294967295) ∧ ∀ (x_1 : List UInt8), x_1 = fmtN 10 (IntKind.i64.wrap (10000 + m.tmod 10000)).toNat → iteP (true && decide (1 ≤ (↑x_1.length : Int))) (∀ (l : List UInt8), l = List.drop 1 x_1 → loopAt Tryz.prog 53 11 = loopAt Tryz.prog 53 11 ∧ (I53 ([] ++ x) l = I53 ([] ++ x) l ∧
 (stripZ l).isEmpty = false ∧ l.length ≤ 1000) ∧ ∀ (x_2 : List UInt8), x_2 = stripZ l → iteP (strFits ([] ++ x) [(46 : UInt8)]) (iteP (strFits ([] ++ x ++ [(46 : UInt8)]) x_2) (K (AV.sc (Value.string (ByteArray.mk (Array.mk ([] ++ x ++ [(46 : UInt8)] ++ x_2)))))) False) False) False)) False)) :
 (fun (d : Int) (K : AV → Prop) => wpCall E3 Door.cfg Tryz.prog 60 53 [aK .i64 d] heapF fun r h' => wpBack h' r K) d K :=
 Eq.mp (by kernel_rfl) h
end
end Go.Proofs.Pr
namespace Go.Proofs.Pr
open Go Go.Ef
noncomputable section
set_option maxRecDepth 100000
theorem okE1 : TabOk Tryz.prog Door.cfg E1 := ok67d tab0_ok
theorem ok66 {T : Tab} (O : TabOk Tryz.prog Door.cfg T) : TabOk Tryz.prog Door.cfg (T.addC 73 C66) := by
 refine addC_ok O fun args h s hs hp => ?_
 unfold C66 at hs
 split at hs
 ·rename_i n
  refine nspec_ok (Option.some.inj hs) (fun hpre => ?_) hp
  exact EvP.freshV okE1 (n := 60) (by kernel_rfl) (by kernel_rfl) (args' := [aK .i64 n]) rfl (c66 n _ ⟨hpre, fun x hx => by rw [hx]; rfl⟩)
 ·cases hs
theorem round_pos (d u h : Int) (hd : 0 ≤ d) (hd2 : d ≤ 10000000000000) (hu : 1 ≤ u) (hu2 : u ≤ 10000) (hh : 0 ≤ h) (hh2 : h ≤ 5000) : IntKind.i64.wrap (IntKind.i64.wrap ((IntKind.i64.wrap (d + h)).tdiv u) * u) = (d + h) / u * u ∧ 0 ≤ (d + h) / u * u ∧ (d + h) / u * u ≤ 10000000005000 := by
 have h1 : 0 ≤ (d + h) / u := Int.ediv_nonneg (by omega) (by omega)
 have h2 : (d + h) / u * u ≤ d + h := Int.ediv_mul_le _ (by omega)
 have h3 : (d + h) / u ≤ d + h := Int.ediv_le_self _ (by omega)
 have h4 : 0 ≤ (d + h) / u * u := Int.mul_nonneg h1 (by omega)
 rw [wrap_in (x := d + h) (by omega) (by omega), td (by omega), wrap_in (x := (d + h) / u) (by omega) (by omega), wrap_in (by omega) (by omega)]
 exact ⟨rfl, h4, by omega⟩
theorem ok54 {T : Tab} (O : TabOk Tryz.prog Door.cfg T) : TabOk Tryz.prog Door.cfg (T.addC 54 C54) := by
 refine addC_ok O fun args h s hs hp => ?_
 unfold C54 at hs
 split at hs
 ·rename_i d p
  refine nspec_ok (Option.some.inj hs) (fun _ => ?_) hp
  refine EvP.freshV tab0_ok (n := 60) (by kernel_rfl) (by kernel_rfl) (args' := [aK .i64 d, aK .i64 p]) rfl (c54 d p _ ?_)
  have hn := near_le d
  have hnf : max (-10000000000000 : Int) (min 10000000000000 d) = nearF d := rfl
  rw [hnf]
  have main : ∀ (u hf : Int), unitF p = u → unitF p / 2 = hf → 1 ≤ u → u ≤ 10000 → 0 ≤ hf → hf ≤ 5000 →
    iteP (decide (nearF d < 0)) (AV.sc (.int .i64 (IntKind.i64.wrap (0 - IntKind.i64.wrap (IntKind.i64.wrap ((IntKind.i64.wrap (IntKind.i64.wrap (0 - nearF d) + hf)).tdiv u) * u)))) = aK .i64 (roundF d p))
     (AV.sc (.int .i64 (IntKind.i64.wrap (IntKind.i64.wrap ((IntKind.i64.wrap (nearF d + hf)).tdiv u) * u))) = aK .i64 (roundF d p)) := by
   intro u hf e1 e2 b1 b2 b3 b4
   by_cases hneg : nearF d < 0
   ·rw [decide_eq_true hneg, iteP_t]
    have hr : roundF d p = -((-(nearF d) + hf) / u * u) := by unfold roundF; rw [if_pos hneg, e2, e1]
    obtain ⟨q1, q2, q3⟩ := round_pos (-(nearF d)) u hf (by omega) (by omega) b1 b2 b3 b4
    rw [hr, show IntKind.i64.wrap (0 - nearF d) = -(nearF d) by rw [wrap_in (by omega) (by omega)]; omega, q1, wrap_in (by omega) (by omega)]
    show AV.sc (.int .i64 _) = AV.sc (.int .i64 _)
    rw [Int.zero_sub]
   ·rw [decide_eq_false hneg, iteP_f]
    have hr : roundF d p = (nearF d + hf) / u * u := by unfold roundF; rw [if_neg hneg, e2, e1]
    obtain ⟨q1, _, _⟩ := round_pos (nearF d) u hf (by omega) (by omega) b1 b2 b3 b4
    rw [hr, q1]
    rfl
  by_cases c4 : 4 ≤ p
  ·rw [decide_eq_true (show max (0 : Int) (min 4 p) = 4 by omega), iteP_t]
   have e : unitF p = 1 := by unfold unitF; rw [if_neg (by omega), if_neg (by omega), if_neg (by omega), if_neg (by omega)]
   exact main 1 0 e (by rw [e]; rfl) (by omega) (by omega) (by omega) (by omega)
  ·rw [decide_eq_false (show ¬ max (0 : Int) (min 4 p) = 4 by omega), iteP_f]
   by_cases c3 : p = 3
   ·rw [decide_eq_true (show max (0 : Int) (min 4 p) = 3 by omega), iteP_t]
    have e : unitF p = 10 := by subst c3; rfl
    exact main 10 5 e (by rw [e]; rfl) (by omega) (by omega) (by omega) (by omega)
   ·rw [decide_eq_false (show ¬ max (0 : Int) (min 4 p) = 3 by omega), iteP_f]
    by_cases c2 : p = 2
    ·rw [decide_eq_true (show max (0 : Int) (min 4 p) = 2 by omega), iteP_t]
     have e : unitF p = 100 := by subst c2; rfl
     exact main 100 50 e (by rw [e]; rfl) (by omega) (by omega) (by omega) (by omega)
    ·rw [decide_eq_false (show ¬ max (0 : Int) (min 4 p) = 2 by omega), iteP_f]
     by_cases c1 : p = 1
     ·rw [decide_eq_true (show max (0 : Int) (min 4 p) = 1 by omega), iteP_t]
      have e : unitF p = 1000 := by subst c1; rfl
      exact main 1000 500 e (by rw [e]; rfl) (by omega) (by omega) (by omega) (by omega)
     ·rw [decide_eq_false (show ¬ max (0 : Int) (min 4 p) = 1 by omega), iteP_f, decide_eq_true (show max (0 : Int) (min 4 p) = 0 by omega), iteP_t]
      have e : unitF p = 10000 := by unfold unitF; rw [if_pos (by omega)]
      exact main 10000 5000 e (by rw [e]; rfl) (by omega) (by omega) (by omega) (by omega)
 ·cases hs
theorem strip_zero (u : List UInt8) : stripZ (u ++ [48]) = stripZ u := by
 unfold stripZ; simp
theorem strip_stop (u : List UInt8) (c : UInt8) (h : c ≠ 48) : stripZ (u ++ [c]) = u ++ [c] := by
 unfold stripZ
 simp [h]
theorem can53 (s t : List UInt8) : (I53 s t).tidy [4, 6] 0 = I53 s t := by kernel_rfl
theorem snoc_cases (t : List UInt8) : t = [] ∨ ∃ u c, t = u ++ [c] := by
 rcases List.eq_nil_or_concat t with h | ⟨u, c, h⟩
 ·exact .inl h
 ·exact .inr ⟨u, c, by simpa using h⟩
theorem loop53 (s t : List UInt8) (h0 : (stripZ t).isEmpty = false) (h1 : t.length ≤ 1000) : Ev Door.cfg Tryz.prog 53 (.loop (loopAt Tryz.prog 53 11)) (I53 s t) fun e τ => τ = I53 s (slS τ 6) ∧ e = .exit 0 ∧ slS τ 6 = stripZ t := by
 refine loop_rd (C := Door.cfg) (P := Tryz.prog) tab0_ok (f := 53) (i := 11) (n := 40) (fun x : List UInt8 => I53 s x) (fun τ => slS τ 6) (fun x => stripZ x = stripZ t ∧ x.length ≤ 1000) (fun x => x.length) (by kernel_rfl)
  (fun x y ht => ?_) (fun x hx => ?_) t ⟨rfl, h1⟩
 ·replace ht : Door.tidy 53 11 = some y := ht
  cases ht
  exact can53 s x
 ·obtain ⟨q1, q2⟩ := hx
  refine v53 s x (fun y => (stripZ y = stripZ t ∧ y.length ≤ 1000) ∧ y.length < x.length) (fun e y => e = .exit 0 ∧ y = stripZ t) ?_
  rcases snoc_cases x with rfl | ⟨u, c, rfl⟩
  ·rw [← q1] at h0; cases h0
  ·have hl : (u ++ [c]).length = u.length + 1 := by simp
   have hw : IntKind.i64.wrap (((u ++ [c]).length : Int) - 1) = (u.length : Int) := by rw [wrap_in (by omega) (by omega)]; omega
   have hb : byteAt (u ++ [c]) (u.length : Int) = c.toNat := by
    unfold byteAt
    rw [Int.toNat_natCast, List.getElem?_append_right (Nat.le_refl _), Nat.sub_self]; rfl
   rw [hw, show inRange (u.length : Int) (u ++ [c]).length = true by rw [inRange_iff]; omega, iteP_t, hb, show ((c.toNat : Int) == 48) = (c == 48) from beq_byte c 48 (by decide)]
   cases hc : c == 48 with
   | true =>
    have hc' : c = 48 := by simpa using hc
    subst hc'
    have e : (decide (0 ≤ (u.length : Int)) && decide ((u.length : Int) ≤ ((u ++ [(48 : UInt8)]).length : Int))) = true := by rw [hl]; simp; omega
    rw [iteP_t, e, iteP_t, Int.toNat_natCast, List.take_left']
    ·exact ⟨rfl, ⟨by rw [← q1, strip_zero], by omega⟩, by omega⟩
    ·rfl
   | false =>
    rw [iteP_f]
    exact ⟨rfl, rfl, by rw [← q1, strip_stop u c (by simpa using hc)]⟩
theorem okE2 : TabOk Tryz.prog Door.cfg E2 := ok66 okE1
theorem okE3 : TabOk Tryz.prog Door.cfg E3 := by
 refine name_ok (name_ok (name_ok (addL_ok okE2 fun σ s hs hp => ?_) _ _) _ _) _ _
 unfold L53 at hs
 split at hs
 ·rename_i s0 t0 _ _
  refine lspec_ok (Option.some.inj hs) (fun hpre => ?_) hp
  obtain ⟨e, h1, h2⟩ := hpre
  refine Ev.tidied (t := ⟨[4, 6], [4, 6], 0⟩) (τ := I53 s0.data.toList t0.data.toList) (by kernel_rfl) (by rw [e]; exact (can53 _ _).symm) ?_
  exact (loop53 _ _ h1 h2).mono fun ex τ h => ⟨slS τ 6, h.2.2, h.2.1, h.1⟩
 ·cases hs
theorem digits_len (b : Nat) : ∀ f n acc, (digitsL b f n acc).length ≤ f + acc.length := by
 intro f
 induction f with
 | zero => intro n acc; simp [digitsL]
 | succ f ih =>
  intro n acc
  unfold digitsL
  split
  ·simp; omega
  ·have := ih (n / b) (digitC (n % b) :: acc)
   simp at this
   omega
theorem fmt_len (b n : Nat) : (fmtN b n).length ≤ 70 := by
 have := digits_len b 70 n []
 simpa [fmtN] using this
def fracOk (f : Nat) : Bool := Nat.beq f 0 || (!(stripZ ((fmtN 10 (10000 + f)).drop 1)).isEmpty && decide (1 ≤ (fmtN 10 (10000 + f)).length))
theorem frac_all : (List.range 10000).all fracOk = true := by decide +kernel
theorem frac_str {f : Nat} (h1 : 1 ≤ f) (h2 : f < 10000) : (stripZ ((fmtN 10 (10000 + f)).drop 1)).isEmpty = false ∧ 1 ≤ (fmtN 10 (10000 + f)).length := by
 have := List.all_eq_true.1 frac_all f (by simp [h2])
 unfold fracOk at this
 simp only [Bool.or_eq_true, Bool.and_eq_true, Bool.not_eq_true', decide_eq_true_eq] at this
 rcases this with h | h
 ·have := Nat.eq_of_beq_eq_true h; omega
 ·exact h
theorem ok53g {T : Tab} (O : TabOk Tryz.prog Door.cfg T) : TabOk Tryz.prog Door.cfg (T.addC 53 C53g) := by
 refine addC_ok O fun args h s hs hp => ?_
 unfold C53g at hs
 split at hs
 ·rename_i d
  refine nspec_ok (Option.some.inj hs) (fun _ => ?_) hp
  refine EvP.freshV okE3 (n := 60) (by kernel_rfl) (by kernel_rfl) (args' := [aK .i64 d]) rfl (c53 d _ ?_)
  have hn := near_le d
  have fit : ∀ {a b : List UInt8}, a.length ≤ 2000 → b.length ≤ 2000 → strFits a b = true := fun h1 h2 => by rw [strFits_iff]; omega
  -- both signs
  have half : ∀ (sg : List UInt8) (m : Int), sg.length ≤ 1 → 0 ≤ m → m ≤ 10000000000000 → sg = (if nearF d < 0 then [45] else []) → m.toNat = (nearF d).natAbs →
    ((0 : Int) ≤ IntKind.i64.wrap (m.tdiv 10000) ∧ IntKind.i64.wrap (m.tdiv 10000) ≤ 4294967295) ∧ ∀ x : List UInt8, x = fmtN 10 (IntKind.i64.wrap (m.tdiv 10000)).toNat →
     iteP (strFits sg x) (iteP (m.tmod 10000 == 0) (AV.sc (.string ⟨⟨sg ++ x⟩⟩) = aStr (decF (nearF d)))
      (((0 : Int) ≤ IntKind.i64.wrap (10000 + m.tmod 10000) ∧ IntKind.i64.wrap (10000 + m.tmod 10000) ≤ 4294967295) ∧ ∀ x1 : List UInt8, x1 = fmtN 10 (IntKind.i64.wrap (10000 + m.tmod 10000)).toNat →
       iteP (true && decide ((1 : Int) ≤ (x1.length : Int))) (∀ l : List UInt8, l = List.drop 1 x1 → loopAt Tryz.prog 53 11 = loopAt Tryz.prog 53 11 ∧ (I53 (sg ++ x) l = I53 (sg ++ x) l ∧ (stripZ l).isEmpty = false ∧ l.length ≤ 1000) ∧
        ∀ x2 : List UInt8, x2 = stripZ l → iteP (strFits (sg ++ x) [46]) (iteP (strFits (sg ++ x ++ [46]) x2) (AV.sc (.string ⟨⟨sg ++ x ++ [46] ++ x2⟩⟩) = aStr (decF (nearF d))) False) False) False)) False := by
   intro sg m hsg h0 h1 hs hm
   have t1 : m.tdiv 10000 = m / 10000 := td h0
   have t2 : m.tmod 10000 = m % 10000 := tm h0
   rw [t1, t2, wrap_in (x := m / 10000) (by omega) (by omega), wrap_in (x := 10000 + m % 10000) (by omega) (by omega)]
   refine ⟨⟨by omega, by omega⟩, fun x hx => ?_⟩
   have hx1 : x = fmtN 10 ((nearF d).natAbs / 10000) := by rw [hx]; congr 1; omega
   have xl : x.length ≤ 70 := by rw [hx]; exact fmt_len _ _
   rw [fit (by omega) (by omega), iteP_t]
   have hd : decF (nearF d) = sg ++ x ++ (if (nearF d).natAbs % 10000 = 0 then [] else [46] ++ stripZ ((fmtN 10 (10000 + (nearF d).natAbs % 10000)).drop 1)) := by
    unfold decF; rw [← hs, ← hx1]
   by_cases hf : m % 10000 = 0
   ·rw [show (m % 10000 == 0) = true by simpa using hf, iteP_t, hd, if_pos (by omega), List.append_nil]; rfl
   ·rw [show (m % 10000 == 0) = false by simpa using hf, iteP_f]
    refine ⟨⟨by omega, by omega⟩, fun x1 hx1' => ?_⟩
    have e1 : x1 = fmtN 10 (10000 + (nearF d).natAbs % 10000) := by rw [hx1']; congr 1; omega
    obtain ⟨f1, f2⟩ := frac_str (f := (nearF d).natAbs % 10000) (by omega) (by omega)
    rw [← e1] at f1 f2
    rw [show (true && decide ((1 : Int) ≤ (x1.length : Int))) = true by simp; omega, iteP_t]
    intro l hl
    have ll : l.length ≤ 70 := by
     have := fmt_len 10 (10000 + (nearF d).natAbs % 10000)
     rw [← e1] at this
     rw [hl, List.length_drop]; omega
    rw [← hl] at f1
    refine ⟨rfl, ⟨rfl, f1, by omega⟩, fun x2 hx2 => ?_⟩
    have sl : x2.length ≤ 70 := by
     have : (stripZ l).length ≤ l.length := by
      unfold stripZ
      rw [List.length_reverse]
      have := (List.dropWhile_sublist (l := l.reverse) (· == 48)).length_le
      rw [List.length_reverse] at this
      exact this
     rw [hx2]; omega
    rw [fit (by simp; omega) (by decide), iteP_t, fit (by simp; omega) (by omega), iteP_t, hd, if_neg (by omega), ← e1, ← hl, ← hx2, ← List.append_assoc]; rfl
  intro m hm
  replace hm : m = nearF d := hm
  subst hm
  by_cases hneg : nearF d < 0
  ·rw [decide_eq_true hneg, iteP_t]
   intro m1 h1
   rw [wrap_in (by omega) (by omega)] at h1
   exact half [45] m1 (by decide) (by omega) (by omega) (by rw [if_pos hneg]) (by omega)
  ·rw [decide_eq_false hneg, iteP_f]
   exact half [] (nearF d) (by decide) (by omega) (by omega) (by rw [if_neg hneg]) (by omega)
 ·cases hs
end
end Go.Proofs.Pr
namespace Go.Proofs.Pr
open Go Go.Ef
noncomputable section
def z8 : AV := aK .u8 0
def hF (cs : List AV) : Heap := { next := 2, objs := Tr.leaf.set 1 (.cells cs), ro := 1, ty := Tr.leaf.set 1 (139, 65) }
def S85 (b sh mk u i : Int) (cs : List AV) : St := stOf 102 [(0, .v (.sc (.slice none 0 0))), (1, sK .u64 u), (3, sBool false), (4, sBool false), (10, .v (.sc (.slice none 0 0))), (11, sStr []), (12, .v (.ptr 1 0)), (13, sInt i), (14, sK .u64 sh), (15, sK .u64 b), (16, sK .u64 mk)] [] (hF cs)
def E85 (u i : Int) (cs : List AV) : St := stOf 102 [(0, .v (.sc (.slice none 0 0))), (1, sK .u64 u), (3, sBool false), (4, sBool false), (10, .v (.sc (.slice none 0 0))), (11, sStr []), (12, .v (.ptr 1 0)), (13, sInt i)] [] (hF cs)
def hCs (h : Heap) : List AV :=
 match h.objs.get 1 with
 | some (.cells cs) => cs
 | _ => []
def qE85 (i : Int) (X : Int → List AV → Prop) (e : Ex) (τ : St) : Prop :=
 match e with
 | .exit 0 => τ = E85 (slI τ 1) i (hCs τ.h) ∧ X (slI τ 1) (hCs τ.h)
 | _ => False
def consG (m : Int) (g : Nat → Int) : Nat → Int
 | 0 => m
 | i + 1 => g i
def cellsG (k : Nat) (g : Nat → Int) : List AV := List.replicate (65 - k) z8 ++ (List.range k).map fun i => aK .u8 (g i)
def strG (k : Nat) (g : Nat → Int) : List UInt8 := (List.range k).map fun i => UInt8.ofNat (g i).toNat
def altsK (f : Nat → LAlt) : Nat → Nat → List LAlt
 | 0, k => [f k]
 | j + 1, k => f k :: altsK f j (k + 1)
def allK (A : Nat → Prop) : Nat → Nat → Prop
 | 0, k => A k
 | j + 1, k => A k ∧ allK A j (k + 1)
def post85 (b k : Nat) (u : Int) (x : Int × (Nat → Int)) : Prop := 0 ≤ x.1 ∧ x.1 < 16 ∧ fmtN b u.toNat = UInt8.ofNat (byteAt digTab x.1).toNat :: strG k x.2
def alt85 (b : Nat) (u : Int) (k : Nat) : LAlt := { α := Int × (Nat → Int), post := fun x => post85 b k u x, ex := .exit 0, st := fun x => E85 x.1 (65 - k) (cellsG k x.2) }
def H0 : Tab := ((tab0.name 97 52).name 97 53).name 97 57
def L85 (σ : St) : Option LSpec :=
 match σ.at 1, σ.at 15 with
 | .v (.sc (.int .u64 u)), .v (.sc (.int .u64 16)) => some { pre := σ.tidy [0, 1, 3, 4, 10, 11, 12, 13, 14, 15, 16] 0 = S85 16 4 15 u 65 (cellsG 0 fun _ => 0) ∧ 0 ≤ u ∧ u < 4294967296, alts := altsK (alt85 16 u) 7 0 }
 | .v (.sc (.int .u64 u)), .v (.sc (.int .u64 8)) => some { pre := σ.tidy [0, 1, 3, 4, 10, 11, 12, 13, 14, 15, 16] 0 = S85 8 3 7 u 65 (cellsG 0 fun _ => 0) ∧ 0 ≤ u ∧ u < 4294967296, alts := altsK (alt85 8 u) 10 0 }
 | _, _ => none
def H1 : Tab := (tab0.addL 97 12 L85)
end
end Go.Proofs.Pr
namespace Go.Proofs.Pr
open Go Go.Ef
noncomputable section
def textR : Nat → Nat → Nat → List UInt8 → List UInt8
 | 0, _, _, out => out
 | k + 1, least, n, out => if 0 < least ∨ 0 < n then textR k (least - 1) (n / 10) (UInt8.ofNat (48 + n % 10) :: out) else out
def lenR : Nat → Nat → Nat → Nat
 | 0, _, _ => 0
 | k + 1, least, n => if 0 < least ∨ 0 < n then lenR k (least - 1) (n / 10) + 1 else 0
def hK : Nat → Heap
 | 0 => heapF
 | k + 1 => ((hK k).new (.own 1 5 1)).2
def I11 (n m : Int) (s : List UInt8) (k : Nat) : St := stOf 31 [(0, sInt n), (3, sStr s), (4, sInt m)] [] (hK k)
def E11 (n : Int) (s : List UInt8) (k : Nat) : St := stOf 31 [(0, sInt n), (3, sStr s)] [] (hK k)
def I30 (n l : Int) (out : List UInt8) (i : Int) (k : Nat) : St := stOf 27 [(0, sInt n), (1, sInt l), (5, sStr out), (6, sInt i)] [] (hK k)
def E30 (out : List UInt8) (k : Nat) : St := stOf 27 [(5, sStr out)] [] (hK k)
def L30 (σ : St) : Option LSpec :=
 match σ.at 0, σ.at 1, σ.at 5, σ.at 6 with
 | .v (.sc (.int .i64 n)), .v (.sc (.int .i64 l)), .v (.sc (.string s)), .v (.sc (.int .i64 i)) => some { pre := σ.tidy [0, 1, 5, 6] 0 = I30 n l s.data.toList i 0 ∧ s.data.toList.isEmpty = true ∧ i = 0 ∧ 0 ≤ n ∧ n ≤ 1000000000 ∧ 0 ≤ l ∧ l ≤ 4, alts := altsK (fun k => { α := List UInt8, post := fun x => x = textR 10 l.toNat n.toNat [] ∧ k = lenR 10 l.toNat n.toNat, ex := .exit 0, st := fun x => E30 x k }) 10 0 }
 | _, _, _, _ => none
def C30 (args : List AV) (h : Heap) : Option CSpec :=
 match args with
 | [.sc (.int .i64 n), .sc (.int .i64 l)] => some (nspec (0 ≤ n ∧ n ≤ 1000000000 ∧ 0 ≤ l ∧ l ≤ 4) (textR 10 l.toNat n.toNat []) (fun x => aStr x) h)
 | _ => none
def I17 (d : Int) (s t : List UInt8) : St := stOf 39 [(0, sInt d), (4, sStr s), (5, sStr t)] [] heapF
def L17 (σ : St) : Option LSpec :=
 match σ.at 0, σ.at 4, σ.at 5 with
 | .v (.sc (.int .i64 d)), .v (.sc (.string s)), .v (.sc (.string t)) => some (lspec (σ.tidy [0, 4, 5] 0 = I17 d s.data.toList t.data.toList ∧ (stripZ t.data.toList).isEmpty = false ∧ t.data.toList.length ≤ 1000) (List UInt8) (fun x => x = stripZ t.data.toList) (.exit 0) (fun x => I17 d s.data.toList x))
 | _, _, _ => none
def C17 (args : List AV) (h : Heap) : Option CSpec :=
 match args with
 | [.sc (.int .i64 d)] => some (nspec (-10000000000000 ≤ d ∧ d ≤ 10000000000000) (decF d) (fun x => aStr x) h)
 | _ => none
def T30 : Tab := tab0.addL 88 4 L30
def T17 : Tab := (tab0.addC 88 C30).addL 65 7 L17
end
end Go.Proofs.Pr
namespace Go.Proofs.Pr
open Go Go.Ef
noncomputable section
def Ir85 (s : List UInt8) (i : Int) : St := stOf 24 [(0, sStr s), (1, sInt i)] [] heapF
def Er85 (i : Int) : St := stOf 24 [(1, sInt i)] [] heapF
def Lr85 (σ : St) : Option LSpec :=
 match σ.at 0, σ.at 1 with
 | .v (.sc (.string s)), .v (.sc (.int .i64 k)) => some (lspec (σ.tidy [0, 1] 0 = Ir85 s.data.toList k ∧ 0 ≤ k ∧ k ≤ (s.data.toList.length : Int) ∧ s.data.toList.length ≤ 1000000) Int (fun x => x = k + (digN (s.data.toList.drop k.toNat) : Nat)) (.exit 0) (fun x => Er85 x))
 | _, _ => none
def Cr85 (args : List AV) (h : Heap) : Option CSpec :=
 match args with
 | [.sc (.string s), .sc (.int .i64 k)] => some (nspec (0 ≤ k ∧ k ≤ (s.data.toList.length : Int) ∧ s.data.toList.length ≤ 1000000) (k + (digN (s.data.toList.drop k.toNat) : Nat)) (fun x => aK .i64 x) h)
 | _ => none
def Ir86 (w f : List UInt8) (n i : Int) : St := stOf 45 [(0, sStr w), (1, sStr f), (6, sInt n), (7, sInt i)] [] heapF
def Er86 (f : List UInt8) (n : Int) : St := stOf 45 [(1, sStr f), (4, .unk), (5, .unk), (6, sInt n)] [] heapF
def Jr86 (f : List UInt8) (n : Int) : St := stOf 45 [(1, sStr f), (4, sInt 0), (5, sBool false), (6, sInt n)] [] heapF
def Lr86 (σ : St) : Option LSpec :=
 match σ.at 0, σ.at 1, σ.at 6, σ.at 7 with
 | .v (.sc (.string s)), .v (.sc (.string f)), .v (.sc (.int .i64 n)), .v (.sc (.int .i64 i)) =>
  some { pre := σ.tidy [0, 1, 6, 7] 0 = Ir86 s.data.toList f.data.toList n i ∧ n = 0 ∧ i = 0 ∧ s.data.toList.length ≤ 1000000 ∧ s.data.toList.all isDig = true, alts := [{ α := Int, post := fun x => valL s.data.toList 0 = some x, ex := .exit 0, st := fun x => Er86 f.data.toList x }, { α := Int, post := fun _ => valL s.data.toList 0 = none, ex := .ret, st := fun x => Jr86 f.data.toList x }] }
 | _, _, _, _ => none
def Ir86b (f : List UInt8) (n i : Int) : St := stOf 45 [(1, sStr f), (6, sInt n), (8, sInt i)] [] heapF
def Er86b (n : Int) : St := stOf 45 [(6, sInt n)] [] heapF
def Lr86b (σ : St) : Option LSpec :=
 match σ.at 1, σ.at 6, σ.at 8 with
 | .v (.sc (.string f)), .v (.sc (.int .i64 n)), .v (.sc (.int .i64 i)) => some (lspec (σ.tidy [1, 6, 8] 0 = Ir86b f.data.toList n i ∧ i = 0 ∧ 0 ≤ n ∧ n ≤ 1000000000 ∧ f.data.toList.length ≤ 1000000 ∧ f.data.toList.all isDig = true) Int (fun x => x = n * 10000 + fracL f.data.toList) (.exit 2) (fun x => Er86b x))
 | _, _, _ => none
def numQ (w f : List UInt8) : Int × Bool :=
 match valL w 0 with
 | none => (0, false)
 | some d => (d * 10000 + fracL f, decide (d * 10000 + fracL f ≤ 10000000000000))
def Cr86 (args : List AV) (h : Heap) : Option CSpec :=
 match args with
 | [.sc (.string w), .sc (.string f)] => some (nspec (w.data.toList.length ≤ 1000000 ∧ w.data.toList.all isDig = true ∧ f.data.toList.length ≤ 1000000 ∧ f.data.toList.all isDig = true) (numQ w.data.toList f.data.toList) (fun x => .tup [aK .i64 x.1, aBool x.2]) h)
 | _ => none
def Ir64 (s : List UInt8) (n : Int) : St := stOf 112 [(0, sStr s), (4, sInt n)] [] heapF
def Lr64 (σ : St) : Option LSpec :=
 match σ.at 0, σ.at 4 with
 | .v (.sc (.string s)), .v (.sc (.int .i64 k)) => some (lspec (σ.tidy [0, 4] 0 = Ir64 s.data.toList k ∧ k = 0 ∧ s.data.toList.length ≤ 1000000) Int (fun x => x = blankN s.data.toList) (.exit 0) (fun x => Ir64 s.data.toList x))
 | _, _ => none
def Cr64 (args : List AV) (h : Heap) : Option CSpec :=
 match args with
 | [.sc (.string s)] => some { pre := s.data.toList.length ≤ 1000000, alts := [{ α := Int × Int, post := fun x => x.1 = prefixD s.data.toList, val := fun x => .tup [aK .i64 x.1, aK .i64 x.2], heap := fun _ => h }] }
 | _ => none
def Cr42 (args : List AV) (h : Heap) : Option CSpec :=
 match args with
 | [.agg [.sc (.int .i64 k), .sc (.int .i64 n), .sc (.string s)]] => some (nspec (s.data.toList.length ≤ 1000000) (numberF k n s.data.toList) (fun x => aK .i64 x) h)
 | _ => none
def Cr41 (args : List AV) (h : Heap) : Option CSpec :=
 match args with
 | [.sc (.int .i64 d)] => some (nspec True ((nearF d).tdiv 10000) (fun x => aK .i64 x) h)
 | _ => none
def Cr43 (args : List AV) (h : Heap) : Option CSpec :=
 match args with
 | [.agg [.sc (.int .i64 k), .sc (.int .i64 n), .sc (.string s)]] => some (nspec (s.data.toList.length ≤ 1000000) (textF k n s.data.toList) (fun x => aStr x) h)
 | _ => none
def Kr1 : Tab := tab0.addL 85 2 Lr85
def Kr2 : Tab := (tab0.addL 86 4 Lr86).addL 86 10 Lr86b
def Kr3 : Tab := (((((((tab0.addC 85 Cr85).addC 86 Cr86).addL 64 3 Lr64).name 64 54).name 64 71).name 64 79).name 64 85).name 64 87
def Kr4 : Tab := tab0.addC 64 Cr64
def Kr5 : Tab := tab0.addC 65 C17
end
end Go.Proofs.Pr
namespace Go.Proofs.Pr
open Go Go.Ef
noncomputable section
set_option maxRecDepth 100000
theorem rv85 (s : List UInt8) (i : Int) (N : Int → Prop) (X : Ex → Int → Prop) (h :
 iteP (decide (i < (↑s.length : Int)))
 (iteP (inRange i s.length)
 (iteP (decide ((48 : Int) ≤ byteAt s i))
 (iteP (inRange i s.length)
 (iteP (decide (byteAt s i ≤ (57 : Int)))
 (Ir85 s (IntKind.i64.wrap (i + (1 : Int))) = Ir85 s (IntKind.i64.wrap (i + (1 : Int))) ∧
 N (IntKind.i64.wrap (i + (1 : Int))))
 (Er85 i = Er85 i ∧ X (Ex.exit (0 : Nat)) i))
 False)
 (Er85 i = Er85 i ∧ X (Ex.exit (0 : Nat)) i))
 False)
 (Er85 i = Er85 i ∧ X (Ex.exit (0 : Nat)) i)) :
 (fun (s : List UInt8) (i : Int) (N : Int → Prop) (X : Ex → Int → Prop) => wpRound tab0 Door.cfg Tryz.prog 40 85 2 (Ir85 s i) (fun τ => τ = Ir85 s (slI τ 1) ∧ N (slI τ 1)) (fun e τ => τ = Er85 (slI τ 1) ∧ X e (slI τ 1))) s i N X :=
 Eq.mp (by kernel_rfl) h
theorem rc85 (s : List UInt8) (i : Int) (K : AV → Prop) (h :
 loopAt Tryz.prog (85 : Nat) (2 : Nat) = loopAt Tryz.prog (85 : Nat) (2 : Nat) ∧
 (Ir85 s i = Ir85 s i ∧ (0 : Int) ≤ i ∧ i ≤ (↑s.length : Int) ∧ s.length ≤ (1000000 : Nat)) ∧
 ∀ (x : Int), x = i + (↑(digN (List.drop i.toNat s)) : Int) → K (AV.sc (Value.int IntKind.i64 x))) :
 (fun (s : List UInt8) (i : Int) (K : AV → Prop) => wpCall Kr1 Door.cfg Tryz.prog 40 85 [aStr s, aK .i64 i] heapF fun r h' => wpBack h' r K) s i K :=
 Eq.mp (by kernel_rfl) h
theorem rv86 (w : List UInt8) (f : List UInt8) (n : Int) (i : Int) (N : Int → Int → Prop) (X : Int → Prop) (Y : Ex → Int → Prop) (h :
 iteP (decide (i < (↑w.length : Int)))
 (iteP (inRange i w.length)
 (iteP
 (decide
 ((1000000000 : Int) <
 IntKind.i64.wrap
 (IntKind.i64.wrap (n * (10 : Int)) + IntKind.i64.wrap (IntKind.u8.wrap (byteAt w i - (48 : Int))))))
 (Jr86 f
 (IntKind.i64.wrap
 (IntKind.i64.wrap (n * (10 : Int)) + IntKind.i64.wrap (IntKind.u8.wrap (byteAt w i - (48 : Int))))) =
 Jr86 f
 (IntKind.i64.wrap
 (IntKind.i64.wrap (n * (10 : Int)) + IntKind.i64.wrap (IntKind.u8.wrap (byteAt w i - (48 : Int))))) ∧
 X
 (IntKind.i64.wrap
 (IntKind.i64.wrap (n * (10 : Int)) + IntKind.i64.wrap (IntKind.u8.wrap (byteAt w i - (48 : Int))))))
 (Ir86 w f
 (IntKind.i64.wrap
 (IntKind.i64.wrap (n * (10 : Int)) + IntKind.i64.wrap (IntKind.u8.wrap (byteAt w i - (48 : Int)))))
 (IntKind.i64.wrap (i + (1 : Int))) =
 Ir86 w f
 (IntKind.i64.wrap
 (IntKind.i64.wrap (n * (10 : Int)) + IntKind.i64.wrap (IntKind.u8.wrap (byteAt w i - (48 : Int)))))
 (IntKind.i64.wrap (i + (1 : Int))) ∧
 N
 (IntKind.i64.wrap
 (IntKind.i64.wrap (n * (10 : Int)) + IntKind.i64.wrap (IntKind.u8.wrap (byteAt w i - (48 : Int)))))
 (IntKind.i64.wrap (i + (1 : Int)))))
 False)
 (Er86 f n = Er86 f n ∧ Y (Ex.exit (0 : Nat)) n)) :
 (fun (w f : List UInt8) (n i : Int) (N : Int → Int → Prop) (X : Int → Prop) (Y : Ex → Int → Prop) => wpRound tab0 Door.cfg Tryz.prog 40 86 4 (Ir86 w f n i) (fun τ => τ = Ir86 w f (slI τ 6) (slI τ 7) ∧ N (slI τ 6) (slI τ 7)) (fun e τ => match e with
 | .ret => τ = Jr86 f (slI τ 6) ∧ X (slI τ 6)
 | e => τ = Er86 f (slI τ 6) ∧ Y e (slI τ 6))) w f n i N X Y :=
 Eq.mp (by kernel_rfl) h
theorem rv86b (f : List UInt8) (n : Int) (i : Int) (N : Int → Int → Prop) (X : Ex → Int → Prop) (h :
 iteP (decide (i < (4 : Int)))
 (iteP (decide (i < (↑f.length : Int)))
 (iteP (inRange i f.length)
 (Ir86b f
 (IntKind.i64.wrap
 (IntKind.i64.wrap (n * (10 : Int)) + IntKind.i64.wrap (IntKind.u8.wrap (byteAt f i - (48 : Int)))))
 (IntKind.i64.wrap (i + (1 : Int))) =
 Ir86b f
 (IntKind.i64.wrap
 (IntKind.i64.wrap (n * (10 : Int)) + IntKind.i64.wrap (IntKind.u8.wrap (byteAt f i - (48 : Int)))))
 (IntKind.i64.wrap (i + (1 : Int))) ∧
 N
 (IntKind.i64.wrap
 (IntKind.i64.wrap (n * (10 : Int)) + IntKind.i64.wrap (IntKind.u8.wrap (byteAt f i - (48 : Int)))))
 (IntKind.i64.wrap (i + (1 : Int))))
 False)
 (Ir86b f (IntKind.i64.wrap (n * (10 : Int))) (IntKind.i64.wrap (i + (1 : Int))) =
 Ir86b f (IntKind.i64.wrap (n * (10 : Int))) (IntKind.i64.wrap (i + (1 : Int))) ∧
 N (IntKind.i64.wrap (n * (10 : Int))) (IntKind.i64.wrap (i + (1 : Int)))))
 (Er86b n = Er86b n ∧ X (Ex.exit (2 : Nat)) n)) :
 (fun (f : List UInt8) (n i : Int) (N : Int → Int → Prop) (X : Ex → Int → Prop) => wpRound tab0 Door.cfg Tryz.prog 40 86 10 (Ir86b f n i) (fun τ => τ = Ir86b f (slI τ 6) (slI τ 8) ∧ N (slI τ 6) (slI τ 8)) (fun e τ => τ = Er86b (slI τ 6) ∧ X e (slI τ 6))) f n i N X :=
 Eq.mp (by kernel_rfl) h
theorem rc86 (w : List UInt8) (f : List UInt8) (K : AV → Prop) (h :
 loopAt Tryz.prog (86 : Nat) (4 : Nat) = loopAt Tryz.prog (86 : Nat) (4 : Nat) ∧
 (Ir86 w f (0 : Int) (0 : Int) = Ir86 w f (0 : Int) (0 : Int) ∧
 (0 : Int) = (0 : Int) ∧ (0 : Int) = (0 : Int) ∧ w.length ≤ (1000000 : Nat) ∧ w.all isDig = true) ∧
 (∀ (x : Int),
 valL w (0 : Int) = some x →
 loopAt Tryz.prog (86 : Nat) (10 : Nat) = loopAt Tryz.prog (86 : Nat) (10 : Nat) ∧
 (Ir86b f x (0 : Int) = Ir86b f x (0 : Int) ∧
 (0 : Int) = (0 : Int) ∧
 (0 : Int) ≤ x ∧ x ≤ (1000000000 : Int) ∧ f.length ≤ (1000000 : Nat) ∧ f.all isDig = true) ∧
 ∀ (x_1 : Int),
 x_1 = x * (10000 : Int) + fracL f →
 iteP (decide (x_1 ≤ (10000000000000 : Int)))
 (K (AV.tup [AV.sc (Value.int IntKind.i64 x_1), AV.sc (Value.bool true)]))
 (K (AV.tup [AV.sc (Value.int IntKind.i64 x_1), AV.sc (Value.bool false)]))) ∧
 ∀ (_ : Int),
 valL w (0 : Int) = none → K (AV.tup [AV.sc (Value.int IntKind.i64 (0 : Int)), AV.sc (Value.bool false)])) :
 (fun (w f : List UInt8) (K : AV → Prop) => wpCall Kr2 Door.cfg Tryz.prog 40 86 [aStr w, aStr f] heapF fun r h' => wpBack h' r K) w f K :=
 Eq.mp (by kernel_rfl) h
theorem rv64 (s : List UInt8) (i : Int) (N : Int → Prop) (X : Ex → Int → Prop) (h :
 iteP (decide (i < (↑s.length : Int)))
 (iteP (inRange i s.length)
 (iteP (byteAt s i == (32 : Int))
 (Ir64 s (IntKind.i64.wrap (i + (1 : Int))) = Ir64 s (IntKind.i64.wrap (i + (1 : Int))) ∧
 N (IntKind.i64.wrap (i + (1 : Int))))
 (iteP (inRange i s.length)
 (iteP (byteAt s i == (9 : Int))
 (Ir64 s (IntKind.i64.wrap (i + (1 : Int))) = Ir64 s (IntKind.i64.wrap (i + (1 : Int))) ∧
 N (IntKind.i64.wrap (i + (1 : Int))))
 (Ir64 s i = Ir64 s i ∧ X (Ex.exit (0 : Nat)) i))
 False))
 False)
 (Ir64 s i = Ir64 s i ∧ X (Ex.exit (0 : Nat)) i)) :
 (fun (s : List UInt8) (i : Int) (N : Int → Prop) (X : Ex → Int → Prop) => wpRound tab0 Door.cfg Tryz.prog 40 64 3 (Ir64 s i) (fun τ => τ = Ir64 s (slI τ 4) ∧ N (slI τ 4)) (fun e τ => τ = Ir64 s (slI τ 4) ∧ X e (slI τ 4))) s i N X :=
 Eq.mp (by kernel_rfl) h
def numP (s l : List UInt8) (K : Int → Prop) (M : Prop) (m x : Int) : Prop :=
 iteP (decide ((0 : Int) ≤ m) && (decide (m ≤ x) && decide (x ≤ (s.length : Int)))) (((cutL s m x).length ≤ (1000000 : Nat) ∧ (cutL s m x).all isDig = true ∧ l.length ≤ (1000000 : Nat) ∧ l.all isDig = true) ∧ ∀ y : Int × Bool, y = numQ (cutL s m x) l → iteP y.2 (K y.1) M) False
def endR (s l : List UInt8) (K0 : Prop) (K : Int → Prop) (M : Prop) (m x x1 : Int) : Prop :=
 iteP (x1 == m) K0 (iteP (decide ((4 : Int) < (l.length : Int))) (iteP (true && decide ((4 : Int) ≤ (l.length : Int))) (numP s (List.take (4 : Nat) l) K M m x) False) (numP s l K M m x))
def noneR (s : List UInt8) (K0 : Prop) (K : Int → Prop) (M : Prop) (m x : Int) : Prop := iteP (x == m) K0 (numP s [] K M m x)
def cutR (s : List UInt8) (K0 : Prop) (K : Int → Prop) (M : Prop) (m x x1 m2 : Int) : Prop :=
 iteP (decide ((0 : Int) ≤ m2) && (decide (m2 ≤ x1) && decide (x1 ≤ (s.length : Int)))) (∀ l : List UInt8, l = cutL s m2 x1 → endR s l K0 K M m x x1) False
def tailR (s : List UInt8) (K0 : Prop) (K : Int → Prop) (M : Prop) (m : Int) : Prop :=
 ((0 : Int) ≤ m ∧ m ≤ (s.length : Int) ∧ s.length ≤ (1000000 : Nat)) ∧ ∀ x : Int, x = m + ((digN (List.drop m.toNat s) : Nat) : Int) →
  iteP (decide (x < (s.length : Int))) (iteP (inRange x s.length) (iteP (byteAt s x == (46 : Int))
   (∀ m1 : Int, m1 = IntKind.i64.wrap (x + 1) → ((0 : Int) ≤ m1 ∧ m1 ≤ (s.length : Int) ∧ s.length ≤ (1000000 : Nat)) ∧ ∀ x1 : Int, x1 = m1 + ((digN (List.drop m1.toNat s) : Nat) : Int) →
    iteP (decide (m < x)) (∀ m2 : Int, m2 = IntKind.i64.wrap (x + 1) → cutR s K0 K M m x x1 m2)
     (∀ m2 : Int, m2 = IntKind.i64.wrap (x + 1) → iteP (decide (m2 < x1)) (∀ m3 : Int, m3 = IntKind.i64.wrap (x + 1) → cutR s K0 K M m x x1 m3) (noneR s K0 K M m x)))
   (noneR s K0 K M m x)) False) (noneR s K0 K M m x)
def plusR (s : List UInt8) (K : Int → Prop) (x : Int) : Prop :=
 iteP (decide (x < (s.length : Int))) (iteP (inRange x s.length) (iteP (byteAt s x == (43 : Int)) (∀ m : Int, m = IntKind.i64.wrap (x + 1) → tailR s (K 0) K (K 10000000000000) m) (tailR s (K 0) K (K 10000000000000) x)) False) (tailR s (K 0) K (K 10000000000000) x)
def P64 (s : List UInt8) (K : Int → Prop) : Prop :=
 loopAt Tryz.prog 64 3 = loopAt Tryz.prog 64 3 ∧ (Ir64 s 0 = Ir64 s 0 ∧ (0 : Int) = (0 : Int) ∧ s.length ≤ (1000000 : Nat)) ∧ ∀ x : Int, x = ((blankN s : Nat) : Int) →
  iteP (decide (x < (s.length : Int))) (iteP (inRange x s.length) (iteP (byteAt s x == (45 : Int)) (∀ m : Int, m = IntKind.i64.wrap (x + 1) → tailR s (K 0) (fun a => K (IntKind.i64.wrap (0 - a))) (K (-10000000000000)) m) (plusR s K x)) False) (plusR s K x)
theorem rc64 (s : List UInt8) (K : Int → Prop) (h : P64 s K) : wpCall Kr3 Door.cfg Tryz.prog 40 64 [aStr s] heapF fun r h' => wpBack h' r fun v => match v with | .tup [.sc (.int .i64 a), .sc (.int .i64 _)] => K a | _ => False := Eq.mp (by kernel_rfl) h
theorem rc42 (k : Int) (n : Int) (s : List UInt8) (K : AV → Prop) (h :
 iteP (k == (1 : Int))
 (iteP (decide ((10000000000000 : Int) < n)) (K (AV.sc (Value.int IntKind.i64 (10000000000000 : Int))))
 (iteP (decide (n < (-10000000000000 : Int))) (K (AV.sc (Value.int IntKind.i64 (-10000000000000 : Int))))
 (K (AV.sc (Value.int IntKind.i64 n)))))
 (iteP (k == (3 : Int))
 (iteP (decide ((10000000000000 : Int) < n)) (K (AV.sc (Value.int IntKind.i64 (10000000000000 : Int))))
 (iteP (decide (n < (-10000000000000 : Int))) (K (AV.sc (Value.int IntKind.i64 (-10000000000000 : Int))))
 (K (AV.sc (Value.int IntKind.i64 n)))))
 (iteP (k == (2 : Int))
 (s.length.le (1000000 : Nat) ∧ ∀ (x : Int × Int), x.fst = prefixD s → K (AV.sc (Value.int IntKind.i64 x.fst)))
 (K (AV.sc (Value.int IntKind.i64 (0 : Int))))))) :
 (fun (k n : Int) (s : List UInt8) (K : AV → Prop) => wpCall Kr4 Door.cfg Tryz.prog 40 42 [.agg [aK .i64 k, aK .i64 n, aStr s]] heapF fun r h' => wpBack h' r K) k n s K :=
 Eq.mp (by kernel_rfl) h
theorem rc41 (n : Int) (K : AV → Prop) (h :
 iteP (decide (n < (-10000000000000 : Int))) (K (AV.sc (Value.int IntKind.i64 (-1000000000 : Int))))
 (iteP (decide ((10000000000000 : Int) < n)) (K (AV.sc (Value.int IntKind.i64 (1000000000 : Int))))
 (K (AV.sc (Value.int IntKind.i64 (IntKind.i64.wrap (n.tdiv (10000 : Int)))))))) :
 (fun (n : Int) (K : AV → Prop) => wpCall tab0 Door.cfg Tryz.prog 40 41 [aK .i64 n] heapF fun r h' => wpBack h' r K) n K :=
 Eq.mp (by kernel_rfl) h
theorem rc43 (k : Int) (n : Int) (s : List UInt8) (K : AV → Prop) (h :
 iteP (k == (1 : Int))
 (iteP (decide ((10000000000000 : Int) < n))
 (((-10000000000000 : Int) ≤ (10000000000000 : Int) ∧ (10000000000000 : Int) ≤ (10000000000000 : Int)) ∧
 ∀ (x : List UInt8), x = decF (10000000000000 : Int) → K (AV.sc (Value.string (ByteArray.mk (Array.mk x)))))
 (iteP (decide (n < (-10000000000000 : Int)))
 (((-10000000000000 : Int) ≤ (-10000000000000 : Int) ∧ (-10000000000000 : Int) ≤ (10000000000000 : Int)) ∧
 ∀ (x : List UInt8), x = decF (-10000000000000 : Int) → K (AV.sc (Value.string (ByteArray.mk (Array.mk x)))))
 (((-10000000000000 : Int) ≤ n ∧ n ≤ (10000000000000 : Int)) ∧
 ∀ (x : List UInt8), x = decF n → K (AV.sc (Value.string (ByteArray.mk (Array.mk x)))))))
 (iteP (k == (2 : Int)) (K (AV.sc (Value.string (ByteArray.mk (Array.mk s)))))
 (iteP (k == (3 : Int)) (K (AV.sc (Value.string (ByteArray.mk (Array.mk s)))))
 (K (AV.sc (Value.string (ByteArray.mk (Array.mk [])))))))) :
 (fun (k n : Int) (s : List UInt8) (K : AV → Prop) => wpCall Kr5 Door.cfg Tryz.prog 40 43 [.agg [aK .i64 k, aK .i64 n, aStr s]] heapF fun r h' => wpBack h' r K) k n s K :=
 Eq.mp (by kernel_rfl) h
end
end Go.Proofs.Pr
namespace Go.Proofs.Pr
open Go Go.Ef
noncomputable section
set_option maxRecDepth 100000
def dgB (d : Int) : List UInt8 := List.map byteD [[AV.sc (Value.int IntKind.u8 (IntKind.u8.wrap (IntKind.i64.wrap (48 + d))))]]
def d11 (m : Int) (s : List UInt8) (N : Int → List UInt8 → Prop) (X : List UInt8 → Prop) : Prop :=
 iteP (m != 0) (iteP (decide (m.tmod 10 < 0)) (iteP (strFits (dgB (IntKind.i64.wrap (0 - m.tmod 10))) s) (N (IntKind.i64.wrap (m.tdiv 10)) (dgB (IntKind.i64.wrap (0 - m.tmod 10)) ++ s)) False)
  (iteP (strFits (dgB (m.tmod 10)) s) (N (IntKind.i64.wrap (m.tdiv 10)) (dgB (m.tmod 10) ++ s)) False)) (X s)
def e11 (k : Nat) (n m : Int) (s : List UInt8) (N : Int → List UInt8 → Prop) (X : Ex → List UInt8 → Prop) : Prop := d11 m s (fun m s => I11 n m s (k + 1) = I11 n m s (k + 1) ∧ N m s) (fun s => E11 n s k = E11 n s k ∧ X (.exit 0) s)
def d30 (n l : Int) (s : List UInt8) (i : Int) (N : Int → List UInt8 → Int → Prop) (X : List UInt8 → Prop) : Prop :=
 iteP (decide (i < l)) (iteP (strFits (dgB (n.tmod 10)) s) (N (IntKind.i64.wrap (n.tdiv 10)) (dgB (n.tmod 10) ++ s) (IntKind.i64.wrap (i + 1))) False)
  (iteP (decide (0 < n)) (iteP (strFits (dgB (n.tmod 10)) s) (N (IntKind.i64.wrap (n.tdiv 10)) (dgB (n.tmod 10) ++ s) (IntKind.i64.wrap (i + 1))) False) (X s))
def w30 (k : Nat) (n l : Int) (s : List UInt8) (i : Int) (N : Int → List UInt8 → Int → Prop) (X : Ex → List UInt8 → Prop) : Prop := wpRound tab0 Door.cfg Tryz.prog 40 88 4 (I30 n l s i k) (fun τ => τ = I30 (slI τ 0) l (slS τ 5) (slI τ 6) (k + 1) ∧ N (slI τ 0) (slS τ 5) (slI τ 6)) (fun e τ => τ = E30 (slS τ 5) k ∧ X e (slS τ 5))
def e30 (k : Nat) (n l : Int) (s : List UInt8) (i : Int) (N : Int → List UInt8 → Int → Prop) (X : Ex → List UInt8 → Prop) : Prop := d30 n l s i (fun n s i => I30 n l s i (k + 1) = I30 n l s i (k + 1) ∧ N n s i) (fun s => E30 s k = E30 s k ∧ X (.exit 0) s)
theorem v30_0 (n l : Int) (s : List UInt8) (i : Int) (N : Int → List UInt8 → Int → Prop) (X : Ex → List UInt8 → Prop) (h : e30 0 n l s i N X) : w30 0 n l s i N X := Eq.mp (by kernel_rfl) h
theorem v30_1 (n l : Int) (s : List UInt8) (i : Int) (N : Int → List UInt8 → Int → Prop) (X : Ex → List UInt8 → Prop) (h : e30 1 n l s i N X) : w30 1 n l s i N X := Eq.mp (by kernel_rfl) h
theorem v30_2 (n l : Int) (s : List UInt8) (i : Int) (N : Int → List UInt8 → Int → Prop) (X : Ex → List UInt8 → Prop) (h : e30 2 n l s i N X) : w30 2 n l s i N X := Eq.mp (by kernel_rfl) h
theorem v30_3 (n l : Int) (s : List UInt8) (i : Int) (N : Int → List UInt8 → Int → Prop) (X : Ex → List UInt8 → Prop) (h : e30 3 n l s i N X) : w30 3 n l s i N X := Eq.mp (by kernel_rfl) h
theorem v30_4 (n l : Int) (s : List UInt8) (i : Int) (N : Int → List UInt8 → Int → Prop) (X : Ex → List UInt8 → Prop) (h : e30 4 n l s i N X) : w30 4 n l s i N X := Eq.mp (by kernel_rfl) h
theorem v30_5 (n l : Int) (s : List UInt8) (i : Int) (N : Int → List UInt8 → Int → Prop) (X : Ex → List UInt8 → Prop) (h : e30 5 n l s i N X) : w30 5 n l s i N X := Eq.mp (by kernel_rfl) h
theorem v30_6 (n l : Int) (s : List UInt8) (i : Int) (N : Int → List UInt8 → Int → Prop) (X : Ex → List UInt8 → Prop) (h : e30 6 n l s i N X) : w30 6 n l s i N X := Eq.mp (by kernel_rfl) h
theorem v30_7 (n l : Int) (s : List UInt8) (i : Int) (N : Int → List UInt8 → Int → Prop) (X : Ex → List UInt8 → Prop) (h : e30 7 n l s i N X) : w30 7 n l s i N X := Eq.mp (by kernel_rfl) h
theorem v30_8 (n l : Int) (s : List UInt8) (i : Int) (N : Int → List UInt8 → Int → Prop) (X : Ex → List UInt8 → Prop) (h : e30 8 n l s i N X) : w30 8 n l s i N X := Eq.mp (by kernel_rfl) h
theorem v30_9 (n l : Int) (s : List UInt8) (i : Int) (N : Int → List UInt8 → Int → Prop) (X : Ex → List UInt8 → Prop) (h : e30 9 n l s i N X) : w30 9 n l s i N X := Eq.mp (by kernel_rfl) h
theorem v30_10 (n l : Int) (s : List UInt8) (i : Int) (N : Int → List UInt8 → Int → Prop) (X : Ex → List UInt8 → Prop) (h : e30 10 n l s i N X) : w30 10 n l s i N X := Eq.mp (by kernel_rfl) h
theorem v17 (d : Int) (s t : List UInt8) (N : List UInt8 → Prop) (X : Ex → List UInt8 → Prop) (h :
 iteP (inRange (IntKind.i64.wrap ((↑t.length : Int) - (1 : Int))) t.length)
 (iteP (byteAt t (IntKind.i64.wrap ((↑t.length : Int) - (1 : Int))) == (48 : Int))
 (iteP (decide ((0 : Int) ≤ IntKind.i64.wrap ((↑t.length : Int) - (1 : Int))) && decide (IntKind.i64.wrap ((↑t.length : Int) - (1 : Int)) ≤ (↑t.length : Int)))
 (I17 d s (List.take (IntKind.i64.wrap ((↑t.length : Int) - (1 : Int))).toNat t) = I17 d s (List.take (IntKind.i64.wrap ((↑t.length : Int) - (1 : Int))).toNat t) ∧
 N (List.take (IntKind.i64.wrap ((↑t.length : Int) - (1 : Int))).toNat t)) False)
 (I17 d s t = I17 d s t ∧ X (Ex.exit (0 : Nat)) t)) False) : wpRound tab0 Door.cfg Tryz.prog 40 65 7 (I17 d s t) (fun τ => τ = I17 d s (slS τ 5) ∧ N (slS τ 5)) (fun e τ => τ = I17 d s (slS τ 5) ∧ X e (slS τ 5)) :=
 Eq.mp (by kernel_rfl) h
def c30P (n l : Int) (K : AV → Prop) : Prop := loopAt Tryz.prog 88 4 = loopAt Tryz.prog 88 4 ∧ (I30 n l [] 0 0 = I30 n l [] 0 0 ∧ true = true ∧ (0 : Int) = 0 ∧ 0 ≤ n ∧ n ≤ 1000000000 ∧ 0 ≤ l ∧ l ≤ 4) ∧
 allK (fun k => ∀ x : List UInt8, (x = textR 10 l.toNat n.toNat [] ∧ k = lenR 10 l.toNat n.toNat) → K (aStr x)) 10 0
theorem c30 (n l : Int) (K : AV → Prop) (h : c30P n l K) : wpCall T30 Door.cfg Tryz.prog 60 88 [aK .i64 n, aK .i64 l] heapF fun r h' => wpBack h' r K := Eq.mp (by kernel_rfl) h
end
end Go.Proofs.Pr
namespace Go.Proofs.Pr
open Go Go.Ef
noncomputable section
set_option maxRecDepth 100000
theorem c17 (d : Int) (K : AV → Prop) (h :
 iteP (decide (d < (-10000000000000))) (((0 : Int) ≤ 1000000000 ∧ (1000000000 : Int) ≤ 1000000000 ∧ (0 : Int) ≤ 1 ∧ (1 : Int) ≤ 4) ∧ ∀ (x : List UInt8), x = textR 10 1 1000000000 [] → iteP (strFits [(45 : UInt8)] x) (K (AV.sc (Value.string (ByteArray.mk (Array.mk ([(45 : UInt8)] ++ x)))))) False) (iteP (decide (10000000000000 < d)) (((0 : Int) ≤ 1000000000 ∧
 (1000000000 : Int) ≤ 1000000000 ∧ (0 : Int) ≤ 1 ∧ (1 : Int) ≤ 4) ∧ ∀ (x : List UInt8), x = textR 10 1 1000000000 [] → K (AV.sc (Value.string (ByteArray.mk (Array.mk x))))) (iteP (decide (d < 0)) ((0 ≤ IntKind.i64.wrap ((IntKind.i64.wrap (0 - d)).tdiv 10000) ∧ IntKind.i64.wrap ((IntKind.i64.wrap (0 - d)).tdiv 10000) ≤ 1000000000 ∧ (0 : Int) ≤ 1 ∧ (1 : Int) ≤ 4) ∧ ∀ (x : List UInt8), x = textR 10 1
 (IntKind.i64.wrap ((IntKind.i64.wrap (0 - d)).tdiv 10000)).toNat [] → iteP ((IntKind.i64.wrap (0 - d)).tmod 10000 != 0) ((0 ≤ (IntKind.i64.wrap (0 - d)).tmod 10000 ∧ (IntKind.i64.wrap (0 - d)).tmod (10000 : Int) ≤ 1000000000 ∧ (0 : Int) ≤ 4 ∧ (4 : Int) ≤ 4) ∧ ∀ (x_1 : List UInt8), x_1 = textR 10 4 ((IntKind.i64.wrap (0 - d)).tmod 10000).toNat [] → loopAt Tryz.prog 65 7 = loopAt Tryz.prog 65 7 ∧
 (I17 d x x_1 = I17 d x x_1 ∧ (stripZ x_1).isEmpty = false ∧ x_1.length ≤ 1000) ∧ ∀ (x_2 : List UInt8), x_2 = stripZ x_1 → iteP (strFits x [(46 : UInt8)]) (iteP (strFits (x ++ [(46 : UInt8)]) x_2) (iteP (decide (d < 0)) (iteP (strFits [(45 : UInt8)] (x ++ [(46 : UInt8)] ++ x_2)) (K (AV.sc (Value.string (ByteArray.mk (Array.mk ([(45 : UInt8)] ++ (x ++ [(46 : UInt8)] ++ x_2))))))) False)
 (K (AV.sc (Value.string (ByteArray.mk (Array.mk (x ++ [(46 : UInt8)] ++ x_2))))))) False) False) (iteP (decide (d < 0)) (iteP (strFits [(45 : UInt8)] x) (K (AV.sc (Value.string (ByteArray.mk (Array.mk ([(45 : UInt8)] ++ x)))))) False) (K (AV.sc (Value.string (ByteArray.mk (Array.mk x))))))) ((0 ≤ IntKind.i64.wrap (d.tdiv 10000) ∧ IntKind.i64.wrap (d.tdiv 10000) ≤ 1000000000 ∧
 (0 : Int) ≤ 1 ∧ (1 : Int) ≤ 4) ∧ ∀ (x : List UInt8), x = textR 10 1 (IntKind.i64.wrap (d.tdiv 10000)).toNat [] → iteP (d.tmod 10000 != 0) ((0 ≤ d.tmod 10000 ∧ d.tmod (10000 : Int) ≤ 1000000000 ∧ (0 : Int) ≤ 4 ∧ (4 : Int) ≤ 4) ∧ ∀ (x_1 : List UInt8), x_1 = textR 10 4 (d.tmod 10000).toNat [] → loopAt Tryz.prog 65 7 = loopAt Tryz.prog 65 7 ∧
 (I17 d x x_1 = I17 d x x_1 ∧ (stripZ x_1).isEmpty = false ∧ x_1.length ≤ 1000) ∧ ∀ (x_2 : List UInt8), x_2 = stripZ x_1 → iteP (strFits x [(46 : UInt8)]) (iteP (strFits (x ++ [(46 : UInt8)]) x_2) (iteP (decide (d < 0)) (iteP (strFits [(45 : UInt8)] (x ++ [(46 : UInt8)] ++ x_2)) (K (AV.sc (Value.string (ByteArray.mk (Array.mk ([(45 : UInt8)] ++ (x ++ [(46 : UInt8)] ++ x_2))))))) False)
 (K (AV.sc (Value.string (ByteArray.mk (Array.mk (x ++ [(46 : UInt8)] ++ x_2))))))) False) False) (iteP (decide (d < 0)) (iteP (strFits [(45 : UInt8)] x) (K (AV.sc (Value.string (ByteArray.mk (Array.mk ([(45 : UInt8)] ++ x)))))) False) (K (AV.sc (Value.string (ByteArray.mk (Array.mk x)))))))))) :
 (fun (d : Int) (K : AV → Prop) => wpCall T17 Door.cfg Tryz.prog 60 65 [aK .i64 d] heapF fun r h' => wpBack h' r K) d K :=
 Eq.mp (by kernel_rfl) h
end
end Go.Proofs.Pr
namespace Go.Proofs.Pr
open Go Go.Ef
noncomputable section
set_option maxRecDepth 100000
def w85 (b sh mk : Int) (k : Nat) (u : Int) (g : Nat → Int) (N X : Int → List AV → Prop) : Prop := wpRound H0 Door.cfg Tryz.prog 40 97 12 (S85 b sh mk u (65 - k) (cellsG k g)) (fun τ => τ = S85 b sh mk (slI τ 1) (64 - k) (hCs τ.h) ∧ N (slI τ 1) (hCs τ.h)) (qE85 (65 - k) X)
def e85 (b sh mk : Int) (k : Nat) (u : Int) (g : Nat → Int) (N X : Int → List AV → Prop) : Prop :=
 iteP (decide (b ≤ u)) (∀ m : Int, m = IntKind.u64.wrap (((BitVec.ofInt 64 u &&& BitVec.ofInt 64 mk).toNat : Nat) : Int) → iteP (inRange m 36) (∀ m1 : Int, m1 = byteAt digTab m → ∀ v : Int, v = u.fdiv b →
  S85 b sh mk v (64 - k) (cellsG (k + 1) (consG m1 g)) = S85 b sh mk v (64 - k) (cellsG (k + 1) (consG m1 g)) ∧ N v (cellsG (k + 1) (consG m1 g))) False)
  (E85 u (65 - k) (cellsG k g) = E85 u (65 - k) (cellsG k g) ∧ X u (cellsG k g))
theorem x0 (u : Int) (g : Nat → Int) (N X : Int → List AV → Prop) (h : e85 16 4 15 0 u g N X) : w85 16 4 15 0 u g N X := Eq.mp (by kernel_rfl) h
theorem x1 (u : Int) (g : Nat → Int) (N X : Int → List AV → Prop) (h : e85 16 4 15 1 u g N X) : w85 16 4 15 1 u g N X := Eq.mp (by kernel_rfl) h
theorem x2 (u : Int) (g : Nat → Int) (N X : Int → List AV → Prop) (h : e85 16 4 15 2 u g N X) : w85 16 4 15 2 u g N X := Eq.mp (by kernel_rfl) h
theorem x3 (u : Int) (g : Nat → Int) (N X : Int → List AV → Prop) (h : e85 16 4 15 3 u g N X) : w85 16 4 15 3 u g N X := Eq.mp (by kernel_rfl) h
theorem x4 (u : Int) (g : Nat → Int) (N X : Int → List AV → Prop) (h : e85 16 4 15 4 u g N X) : w85 16 4 15 4 u g N X := Eq.mp (by kernel_rfl) h
theorem x5 (u : Int) (g : Nat → Int) (N X : Int → List AV → Prop) (h : e85 16 4 15 5 u g N X) : w85 16 4 15 5 u g N X := Eq.mp (by kernel_rfl) h
theorem x6 (u : Int) (g : Nat → Int) (N X : Int → List AV → Prop) (h : e85 16 4 15 6 u g N X) : w85 16 4 15 6 u g N X := Eq.mp (by kernel_rfl) h
theorem x7 (u : Int) (g : Nat → Int) (N X : Int → List AV → Prop) (h : e85 16 4 15 7 u g N X) : w85 16 4 15 7 u g N X := Eq.mp (by kernel_rfl) h
theorem o0 (u : Int) (g : Nat → Int) (N X : Int → List AV → Prop) (h : e85 8 3 7 0 u g N X) : w85 8 3 7 0 u g N X := Eq.mp (by kernel_rfl) h
theorem o1 (u : Int) (g : Nat → Int) (N X : Int → List AV → Prop) (h : e85 8 3 7 1 u g N X) : w85 8 3 7 1 u g N X := Eq.mp (by kernel_rfl) h
theorem o2 (u : Int) (g : Nat → Int) (N X : Int → List AV → Prop) (h : e85 8 3 7 2 u g N X) : w85 8 3 7 2 u g N X := Eq.mp (by kernel_rfl) h
theorem o3 (u : Int) (g : Nat → Int) (N X : Int → List AV → Prop) (h : e85 8 3 7 3 u g N X) : w85 8 3 7 3 u g N X := Eq.mp (by kernel_rfl) h
theorem o4 (u : Int) (g : Nat → Int) (N X : Int → List AV → Prop) (h : e85 8 3 7 4 u g N X) : w85 8 3 7 4 u g N X := Eq.mp (by kernel_rfl) h
theorem o5 (u : Int) (g : Nat → Int) (N X : Int → List AV → Prop) (h : e85 8 3 7 5 u g N X) : w85 8 3 7 5 u g N X := Eq.mp (by kernel_rfl) h
theorem o6 (u : Int) (g : Nat → Int) (N X : Int → List AV → Prop) (h : e85 8 3 7 6 u g N X) : w85 8 3 7 6 u g N X := Eq.mp (by kernel_rfl) h
theorem o7 (u : Int) (g : Nat → Int) (N X : Int → List AV → Prop) (h : e85 8 3 7 7 u g N X) : w85 8 3 7 7 u g N X := Eq.mp (by kernel_rfl) h
theorem o8 (u : Int) (g : Nat → Int) (N X : Int → List AV → Prop) (h : e85 8 3 7 8 u g N X) : w85 8 3 7 8 u g N X := Eq.mp (by kernel_rfl) h
theorem o9 (u : Int) (g : Nat → Int) (N X : Int → List AV → Prop) (h : e85 8 3 7 9 u g N X) : w85 8 3 7 9 u g N X := Eq.mp (by kernel_rfl) h
theorem o10 (u : Int) (g : Nat → Int) (N X : Int → List AV → Prop) (h : e85 8 3 7 10 u g N X) : w85 8 3 7 10 u g N X := Eq.mp (by kernel_rfl) h
def c85P (b : Nat) (sh mk : Int) (n : Nat) (u : Int) (K : AV → Prop) : Prop := loopAt Tryz.prog 97 12 = loopAt Tryz.prog 97 12 ∧ (S85 b sh mk u 65 (cellsG 0 fun _ => 0) = S85 b sh mk u 65 (cellsG 0 fun _ => 0) ∧ 0 ≤ u ∧ u < 4294967296) ∧
 allK (fun k => ∀ x : Int × (Nat → Int), post85 b k u x → iteP (inRange x.1 36) (K (.tup [.sc (.slice none 0 0), aStr (UInt8.ofNat (byteAt digTab x.1).toNat :: strG k x.2)])) False) n 0
theorem h85 (u : Int) (K : AV → Prop) (h : c85P 16 4 15 7 u K) : wpCall H1 Door.cfg Tryz.prog 40 97 [.sc (.slice none 0 0), aK .u64 u, aK .i64 16, aBool false, aBool false] heapF fun r h' => wpBack h' r K := Eq.mp (by kernel_rfl) h
theorem o85 (u : Int) (K : AV → Prop) (h : c85P 8 3 7 10 u K) : wpCall H1 Door.cfg Tryz.prog 40 97 [.sc (.slice none 0 0), aK .u64 u, aK .i64 8, aBool false, aBool false] heapF fun r h' => wpBack h' r K := Eq.mp (by kernel_rfl) h
end
end Go.Proofs.Pr
namespace Go.Proofs.Pr
open Go Go.Ef
noncomputable section
set_option maxRecDepth 100000
theorem and_mask {u : Int} (k : Nat) (hk : k ≤ 32) (h1 : 0 ≤ u) (h2 : u < 4294967296) : IntKind.u64.wrap ((BitVec.ofInt 64 u &&& BitVec.ofInt 64 (((2 ^ k - 1 : Nat) : Int))).toNat : Int) = u % ((2 ^ k : Nat) : Int) := by
 obtain ⟨n, rfl⟩ := Int.eq_ofNat_of_zero_le h1
 have hp : 2 ^ k ≤ 2 ^ 32 := Nat.pow_le_pow_right (by decide) hk
 have e32 : (2 : Nat) ^ 32 = 4294967296 := by decide
 have h0 : 0 < 2 ^ k := Nat.pow_pos (by decide)
 rw [BitVec.toNat_and, BitVec.ofInt_natCast, BitVec.ofInt_natCast, BitVec.toNat_ofNat, BitVec.toNat_ofNat, Nat.mod_eq_of_lt (show n < 2 ^ 64 by omega), Nat.mod_eq_of_lt (show 2 ^ k - 1 < 2 ^ 64 by omega), Nat.and_two_pow_sub_one_eq_mod]
 have : n % 2 ^ k < 2 ^ k := Nat.mod_lt _ h0
 rw [w64_in (by omega) (by omega)]
 rfl
theorem and15 {u : Int} (h1 : 0 ≤ u) (h2 : u < 4294967296) : IntKind.u64.wrap ((BitVec.ofInt 64 u &&& BitVec.ofInt 64 15).toNat : Int) = u % 16 := and_mask 4 (by decide) h1 h2
theorem and7 {u : Int} (h1 : 0 ≤ u) (h2 : u < 4294967296) : IntKind.u64.wrap ((BitVec.ofInt 64 u &&& BitVec.ofInt 64 7).toNat : Int) = u % 8 := and_mask 3 (by decide) h1 h2
theorem fd0 {a b : Int} (hb : 0 ≤ b) : a.fdiv b = a / b := Int.fdiv_eq_ediv_of_nonneg a hb
def dtOk (d : Nat) : Bool := UInt8.ofNat (byteAt digTab (d : Int)).toNat == digitC d
theorem dt_all : (List.range 16).all dtOk = true := by decide +kernel
theorem dig_tab {d : Int} (h1 : 0 ≤ d) (h2 : d < 16) : UInt8.ofNat (byteAt digTab d).toNat = digitC d.toNat := by
 obtain ⟨k, rfl⟩ := Int.eq_ofNat_of_zero_le h1
 exact eq_of_beq (List.all_eq_true.1 dt_all k (by simp; omega))
theorem dstep {b f n : Nat} {acc : List UInt8} (h : ¬ n < b) : digitsL b (f + 1) n acc = digitsL b f (n / b) (digitC (n % b) :: acc) := if_neg h
theorem dlast {b f n : Nat} {acc : List UInt8} (h : n < b) : digitsL b (f + 1) n acc = digitC n :: acc := if_pos h
theorem okH0 : TabOk Tryz.prog Door.cfg H0 := name_ok (name_ok (name_ok tab0_ok _ _) _ _) _ _
theorem first85 : firstId 8 (loopAt Tryz.prog 97 12) = 12 := by kernel_rfl
theorem can85 (b sh mk u i : Int) (cs : List AV) : (S85 b sh mk u i cs).tidy [0, 1, 3, 4, 10, 11, 12, 13, 14, 15, 16] 0 = S85 b sh mk u i cs := by kernel_rfl
abbrev Loop85 (σ : St) (K : KR) : Prop := Ev Door.cfg Tryz.prog 97 (.loop (loopAt Tryz.prog 97 12)) σ K
theorem all_k {A : Nat → Prop} (H : ∀ k, A k) : ∀ j k, allK A j k := by
 intro j
 induction j with
 | zero => intro k; exact H k
 | succ j ih => intro k; exact ⟨H k, ih _⟩
theorem mem_altsK (f : Nat → LAlt) : ∀ j k i, k ≤ i → i ≤ k + j → f i ∈ altsK f j k := by
 intro j
 induction j with
 | zero => intro k i h1 h2; rw [show i = k by omega]; exact .head _
 | succ j ih =>
  intro k i h1 h2
  by_cases h : i = k
  ·rw [h]; exact .head _
  ·exact .tail _ (ih (k + 1) i (by omega) (by omega))
theorem strG_cons (k : Nat) (m : Int) (g : Nat → Int) : strG (k + 1) (consG m g) = UInt8.ofNat m.toNat :: strG k g := by
 unfold strG
 rw [List.range_succ_eq_map, List.map_cons, List.map_map]
 rfl
theorem dig_fuel {b : Nat} (hb : 2 ≤ b) : ∀ (f g n : Nat) (acc : List UInt8), n < b ^ (f + 1) → f ≤ g → digitsL b (f + 1) n acc = digitsL b (g + 1) n acc := by
 intro f
 induction f with
 | zero =>
  intro g n acc hn _
  have hn : n < b := by simpa using hn
  rw [dlast hn, dlast hn]
 | succ f ih =>
  intro g n acc hn hg
  by_cases h : n < b
  ·rw [dlast h, dlast h]
  ·obtain ⟨g, rfl⟩ : ∃ g', g = g' + 1 := ⟨g - 1, by omega⟩
   rw [dstep h, dstep h]
   exact ih g _ _ (by rw [Nat.div_lt_iff_lt_mul (by omega)]; simpa [Nat.pow_succ] using hn) (by omega)
theorem rd16 {k : Nat} (hk : k ≤ 7) (u : Int) (g : Nat → Int) (N X : Int → List AV → Prop) (h : e85 16 4 15 k u g N X) : w85 16 4 15 k u g N X :=
 match k, hk, h with
 | 0, _, h => x0 u g N X h
 | 1, _, h => x1 u g N X h
 | 2, _, h => x2 u g N X h
 | 3, _, h => x3 u g N X h
 | 4, _, h => x4 u g N X h
 | 5, _, h => x5 u g N X h
 | 6, _, h => x6 u g N X h
 | 7, _, h => x7 u g N X h
 | k + 8, hk, _ => absurd hk (by omega)
theorem rd8 {k : Nat} (hk : k ≤ 10) (u : Int) (g : Nat → Int) (N X : Int → List AV → Prop) (h : e85 8 3 7 k u g N X) : w85 8 3 7 k u g N X :=
 match k, hk, h with
 | 0, _, h => o0 u g N X h
 | 1, _, h => o1 u g N X h
 | 2, _, h => o2 u g N X h
 | 3, _, h => o3 u g N X h
 | 4, _, h => o4 u g N X h
 | 5, _, h => o5 u g N X h
 | 6, _, h => o6 u g N X h
 | 7, _, h => o7 u g N X h
 | 8, _, h => o8 u g N X h
 | 9, _, h => o9 u g N X h
 | 10, _, h => o10 u g N X h
 | k + 11, hk, _ => absurd hk (by omega)
theorem loop85 {b : Nat} {sh mk : Int} {M : Nat} (b2 : 2 ≤ b) (b16 : b ≤ 16) (rd : ∀ k, k ≤ M → ∀ (u : Int) (g : Nat → Int) (N X : Int → List AV → Prop), e85 b sh mk k u g N X → w85 b sh mk k u g N X)
  (an : ∀ u : Int, 0 ≤ u → u < 4294967296 → IntKind.u64.wrap (((BitVec.ofInt 64 u &&& BitVec.ofInt 64 mk).toNat : Nat) : Int) = u % (b : Int)) :
  ∀ (f u k : Nat) (g : Nat → Int), u < b ^ (f + 1) → k + f ≤ M → u < 4294967296 → Loop85 (S85 b sh mk u (65 - k) (cellsG k g)) fun e τ => e = .exit 0 ∧ ∃ (j : Nat) (v : Int) (g' : Nat → Int), j ≤ M ∧ τ = E85 v (65 - j) (cellsG j g') ∧ 0 ≤ v ∧ v < 16 ∧ digitsL b (f + 1) u (strG k g) = UInt8.ofNat (byteAt digTab v).toNat :: strG j g' := by
 have stop : ∀ (f u k : Nat) (g : Nat → Int), u < b → k ≤ M → Loop85 (S85 b sh mk u (65 - k) (cellsG k g)) fun e τ => e = .exit 0 ∧ ∃ (j : Nat) (v : Int) (g' : Nat → Int), j ≤ M ∧ τ = E85 v (65 - j) (cellsG j g') ∧ 0 ≤ v ∧ v < 16 ∧ digitsL b (f + 1) u (strG k g) = UInt8.ofNat (byteAt digTab v).toNat :: strG j g' := by
  intro f u k g hu hk
  refine Ev.round okH0 (t := ⟨[0, 1, 3, 4, 10, 11, 12, 13, 14, 15, 16], [0, 1, 3, 4, 10, 11, 12, 13], 0⟩) first85 rfl (can85 _ _ _ _ _ _) (rd k hk u g (fun _ _ => False) (fun v cs => v = u ∧ cs = cellsG k g) ?_) (fun τ hτ => hτ.2.elim) (fun e τ hτ => ?_)
  ·unfold e85
   rw [decide_eq_false (by omega), iteP_f]
   exact ⟨rfl, rfl, rfl⟩
  ·unfold qE85 at hτ
   split at hτ
   ·obtain ⟨e, h3, h4⟩ := hτ
    rw [h3, h4] at e
    refine ⟨rfl, k, u, g, hk, e, by omega, by omega, ?_⟩
    rw [dlast hu, dig_tab (by omega) (by omega), Int.toNat_natCast]
   ·exact hτ.elim
 intro f
 induction f with
 | zero => intro u k g hu hk _; exact stop 0 u k g (by simpa using hu) (by omega)
 | succ f ih =>
  intro u k g hu hk h32
  by_cases hb : u < b
  ·exact stop (f + 1) u k g hb (by omega)
  ·have hm := an u (by omega) (by omega)
   have hlt : u % b < b := Nat.mod_lt _ (by omega)
   refine Ev.round okH0 (t := ⟨[0, 1, 3, 4, 10, 11, 12, 13, 14, 15, 16], [0, 1, 3, 4, 10, 11, 12, 13], 0⟩) first85 rfl (can85 _ _ _ _ _ _) (rd k (by omega) u g (fun v cs => v = ((u / b : Nat) : Int) ∧ cs = cellsG (k + 1) (consG (byteAt digTab ((u % b : Nat) : Int)) g)) (fun _ _ => False) ?_) (fun τ hτ => ?_) (fun e τ hτ => ?_)
   ·unfold e85
    rw [decide_eq_true (by omega), iteP_t]
    intro m e
    rw [hm] at e
    have e : m = ((u % b : Nat) : Int) := e
    subst e
    rw [show inRange ((u % b : Nat) : Int) 36 = true by rw [inRange_iff]; omega, iteP_t]
    intro m1 e1 v e2
    rw [fd0 (by omega)] at e2
    have e2 : v = ((u / b : Nat) : Int) := e2
    subst e1
    subst e2
    exact ⟨rfl, rfl, rfl⟩
   ·obtain ⟨e, h3, h4⟩ := hτ
    rw [h3, h4] at e
    rw [e, show (64 : Int) - k = 65 - ((k + 1 : Nat) : Int) by omega]
    refine (ih (u / b) (k + 1) _ (by rw [Nat.div_lt_iff_lt_mul (by omega)]; simpa [Nat.pow_succ] using hu) (by omega) (Nat.lt_of_le_of_lt (Nat.div_le_self _ _) h32)).mono fun ex τ' ⟨q1, j, v, g', q2, q3, q4, q5, q6⟩ => ⟨q1, j, v, g', q2, q3, q4, q5, ?_⟩
    rw [dstep hb, ← q6, strG_cons, dig_tab (by omega) (by omega), Int.toNat_natCast]
   ·unfold qE85 at hτ
    split at hτ
    ·exact hτ.2.elim
    ·exact hτ.elim
theorem okH1 : TabOk Tryz.prog Door.cfg H1 := by
 refine addL_ok tab0_ok fun σ s hs hp => ?_
 have fin : ∀ (b : Nat) (sh mk : Int) (M : Nat) (u : Int), 2 ≤ b → 4294967296 ≤ b ^ (M + 1) → M ≤ 69 → 0 ≤ u → u < 4294967296 → σ.tidy [0, 1, 3, 4, 10, 11, 12, 13, 14, 15, 16] 0 = S85 b sh mk u 65 (cellsG 0 fun _ => 0) →
   (∀ (v k : Nat) (g : Nat → Int), v < b ^ (M + 1) → k + M ≤ M → v < 4294967296 → Loop85 (S85 b sh mk v (65 - k) (cellsG k g)) fun e τ => e = .exit 0 ∧ ∃ (j : Nat) (w : Int) (g' : Nat → Int), j ≤ M ∧ τ = E85 w (65 - j) (cellsG j g') ∧ 0 ≤ w ∧ w < 16 ∧ digitsL b (M + 1) v (strG k g) = UInt8.ofNat (byteAt digTab w).toNat :: strG j g') →
   ∃ a ∈ altsK (alt85 b u) M 0, ∃ x, a.post x ∧ ∃ m, evCode Door.cfg Tryz.prog m 97 (.loop (loopAt Tryz.prog 97 12)) σ = some (a.ex, a.st x) := by
  intro b sh mk M u b2 hM hM69 h1 h2 e L
  obtain ⟨n, rfl⟩ := Int.eq_ofNat_of_zero_le h1
  have hn : n < b ^ (M + 1) := Nat.lt_of_lt_of_le (by omega) hM
  have := Ev.tidied (C := Door.cfg) (P := Tryz.prog) (b := loopAt Tryz.prog 97 12) (f := 97) (σ := σ) (t := ⟨[0, 1, 3, 4, 10, 11, 12, 13, 14, 15, 16], [0, 1, 3, 4, 10, 11, 12, 13], 0⟩) (τ := S85 b sh mk n 65 (cellsG 0 fun _ => 0)) (by rw [first85]; rfl) (by rw [e]; exact (can85 _ _ _ _ _ _).symm) (L n 0 (fun _ => 0) hn (by omega) (by omega))
  obtain ⟨m, ex, τ, g1, rfl, j, v, g', q2, rfl, q4, q5, q6⟩ := this
  refine ⟨_, mem_altsK (alt85 b n) M 0 j (Nat.zero_le _) (by omega), (v, g'), ⟨q4, q5, ?_⟩, m, g1⟩
  rw [Int.toNat_natCast]
  exact (dig_fuel b2 M 69 n [] hn hM69).symm.trans q6
 unfold L85 at hs
 split at hs
 ·rename_i u _ _
  cases Option.some.inj hs
  obtain ⟨h1, h2, h3⟩ := hp
  exact fin 16 4 15 7 u (by decide) (by decide) (by decide) h2 h3 h1 (loop85 (by decide) (by decide) (fun k hk => rd16 hk) (fun u => and15) 7)
 ·rename_i u _ _
  cases Option.some.inj hs
  obtain ⟨h1, h2, h3⟩ := hp
  exact fin 8 3 7 10 u (by decide) (by decide) (by decide) h2 h3 h1 (loop85 (by decide) (by decide) (fun k hk => rd8 hk) (fun u => and7) 10)
 ·cases hs
theorem bits16 (u : Int) (h1 : 0 ≤ u) (h2 : u < 4294967296) (h : Heap) : EvP Door.cfg Tryz.prog 97 [.sc (.slice none 0 0), aK .u64 u, aK .i64 16, aBool false, aBool false] h fun v h' => v = .tup [.sc (.slice none 0 0), aStr (fmtN 16 u.toNat)] ∧ h' = h := by
 refine EvP.freshV okH1 (n := 40) (by kernel_rfl) (by kernel_rfl) (args' := [.sc (.slice none 0 0), aK .u64 u, aK .i64 16, aBool false, aBool false]) rfl (h85 u _ ⟨rfl, ⟨rfl, h1, h2⟩, all_k (fun k x hx => ?_) _ _⟩)
 rw [show inRange x.1 36 = true by rw [inRange_iff]; exact ⟨hx.1, by have := hx.2.1; omega⟩, iteP_t, ← hx.2.2]
theorem bits8 (u : Int) (h1 : 0 ≤ u) (h2 : u < 4294967296) (h : Heap) : EvP Door.cfg Tryz.prog 97 [.sc (.slice none 0 0), aK .u64 u, aK .i64 8, aBool false, aBool false] h fun v h' => v = .tup [.sc (.slice none 0 0), aStr (fmtN 8 u.toNat)] ∧ h' = h := by
 refine EvP.freshV okH1 (n := 40) (by kernel_rfl) (by kernel_rfl) (args' := [.sc (.slice none 0 0), aK .u64 u, aK .i64 8, aBool false, aBool false]) rfl (o85 u _ ⟨rfl, ⟨rfl, h1, h2⟩, all_k (fun k x hx => ?_) _ _⟩)
 rw [show inRange x.1 36 = true by rw [inRange_iff]; exact ⟨hx.1, by have := hx.2.1; omega⟩, iteP_t, ← hx.2.2]
end
end Go.Proofs.Pr
namespace Go.Proofs.Pr
open Go Go.Ef
noncomputable section
set_option maxRecDepth 100000
theorem textR_step {k l n : Nat} {out : List UInt8} (h : 0 < l ∨ 0 < n) : textR (k + 1) l n out = textR k (l - 1) (n / 10) (UInt8.ofNat (48 + n % 10) :: out) := if_pos h
theorem textR_stop {k : Nat} {out : List UInt8} : textR k 0 0 out = out := by
 cases k with
 | zero => rfl
 | succ k => exact if_neg (by omega)
theorem lenR_step {k l n : Nat} (h : 0 < l ∨ 0 < n) : lenR (k + 1) l n = lenR k (l - 1) (n / 10) + 1 := if_pos h
theorem lenR_stop {k : Nat} : lenR k 0 0 = 0 := by
 cases k with
 | zero => rfl
 | succ k => exact if_neg (by omega)
theorem lenR_le : ∀ k l n, lenR k l n ≤ k := by
 intro k
 induction k with
 | zero => intro l n; exact Nat.le_refl _
 | succ k ih =>
  intro l n
  unfold lenR
  split
  ·have := ih (l - 1) (n / 10); omega
  ·omega
theorem digitC_low {n : Nat} (h : n < 10) : digitC n = UInt8.ofNat (48 + n) := if_pos h
theorem textR_dig : ∀ (k g l n : Nat) (out : List UInt8), (l = 1 ∨ (l = 0 ∧ 0 < n)) → n < 10 ^ (k + 1) → k ≤ g → textR (k + 1) l n out = digitsL 10 (g + 1) n out := by
 intro k
 induction k with
 | zero =>
  intro g l n out hl hn _
  rw [textR_step (by omega)]
  have hn : n < 10 := by simpa using hn
  rw [dlast hn, digitC_low hn, Nat.mod_eq_of_lt hn, show n / 10 = 0 by omega, show l - 1 = 0 by omega, textR_stop]
 | succ k ih =>
  intro g l n out hl hn hg
  rw [textR_step (by omega)]
  by_cases h10 : n < 10
  ·rw [dlast h10, digitC_low h10, Nat.mod_eq_of_lt h10, show n / 10 = 0 by omega, show l - 1 = 0 by omega, textR_stop]
  ·rw [dstep h10, digitC_low (Nat.mod_lt _ (by decide))]
   obtain ⟨g', rfl⟩ : ∃ g', g = g' + 1 := ⟨g - 1, by omega⟩
   exact ih g' _ _ _ (.inr ⟨by omega, by omega⟩) (by rw [Nat.div_lt_iff_lt_mul (by decide)]; simpa [Nat.pow_succ] using hn) (by omega)
theorem text_1 {n : Nat} (h : n < 10000000000) : textR 10 1 n [] = fmtN 10 n := textR_dig 9 69 1 n [] (.inl rfl) h (by decide)
def text4Ok (f : Nat) : Bool := textR 10 4 f [] == (fmtN 10 (10000 + f)).drop 1
theorem text4_all : (List.range 10000).all text4Ok = true := by decide +kernel
theorem text_4 {f : Nat} (h : f < 10000) : textR 10 4 f [] = (fmtN 10 (10000 + f)).drop 1 := by
 have := List.all_eq_true.1 text4_all f (by simp [h])
 exact eq_of_beq this
theorem dgB_eq {d : Int} {e : Nat} (h : d = e) (he : e < 10) : dgB d = [UInt8.ofNat (48 + e)] := by
 subst h
 have hw : IntKind.i64.wrap (48 + (e : Int)) = ((48 + e : Nat) : Int) := by rw [wrap_in (by omega) (by omega)]; omega
 have h8 : IntKind.u8.wrap ((48 + e : Nat) : Int) = ((48 + e : Nat) : Int) := by rw [wrap8]; omega
 show [(some (UInt8.ofNat (IntKind.u8.wrap (IntKind.i64.wrap (48 + (e : Int)))).toNat)).getD 0] = _
 rw [hw, h8, Int.toNat_natCast]; rfl
theorem fits_sm2 {a b : List UInt8} (h1 : a.length ≤ 2000) (h2 : b.length ≤ 2000) : strFits a b = true := by
 rw [strFits_iff]; omega
theorem r30 {k : Nat} (hk : k ≤ 10) (n l : Int) (s : List UInt8) (i : Int) (N : Int → List UInt8 → Int → Prop) (X : Ex → List UInt8 → Prop) (h : e30 k n l s i N X) : w30 k n l s i N X :=
 match k, hk, h with
 | 0, _, h => v30_0 n l s i N X h
 | 1, _, h => v30_1 n l s i N X h
 | 2, _, h => v30_2 n l s i N X h
 | 3, _, h => v30_3 n l s i N X h
 | 4, _, h => v30_4 n l s i N X h
 | 5, _, h => v30_5 n l s i N X h
 | 6, _, h => v30_6 n l s i N X h
 | 7, _, h => v30_7 n l s i N X h
 | 8, _, h => v30_8 n l s i N X h
 | 9, _, h => v30_9 n l s i N X h
 | 10, _, h => v30_10 n l s i N X h
 | k + 11, hk, _ => absurd hk (by omega)
theorem can30 (n l : Int) (s : List UInt8) (i : Int) (k : Nat) : (I30 n l s i k).tidy [0, 1, 5, 6] 0 = I30 n l s i k := by kernel_rfl
theorem can17 (d : Int) (s t : List UInt8) : (I17 d s t).tidy [0, 4, 5] 0 = I17 d s t := by kernel_rfl
theorem tmod_nat {n : Int} (h : 0 ≤ n) : n.tmod 10 = ((n.toNat % 10 : Nat) : Int) ∧ (n.tdiv 10).toNat = n.toNat / 10 ∧ 0 ≤ n.tdiv 10 ∧ n.tdiv 10 ≤ n := by
 obtain ⟨a, rfl⟩ := Int.eq_ofNat_of_zero_le h
 refine ⟨rfl, rfl, ?_, ?_⟩
 ·show (0 : Int) ≤ ((a / 10 : Nat) : Int); omega
 ·show ((a / 10 : Nat) : Int) ≤ a; omega
theorem loop30 : ∀ (f : Nat) (n l : Int) (s : List UInt8) (i : Int) (k : Nat), n.toNat < 10 ^ f → k + f ≤ 10 → 0 ≤ n → n ≤ 1000000000 → s.length ≤ k → 0 ≤ i → i + f ≤ 100 → 0 ≤ l → l ≤ 4 → (l - i).toNat ≤ f →
  Ev Door.cfg Tryz.prog 88 (.loop (loopAt Tryz.prog 88 4)) (I30 n l s i k) fun e τ => e = .exit 0 ∧ τ = E30 (textR f (l - i).toNat n.toNat s) (k + lenR f (l - i).toNat n.toNat) := by
 intro f
 induction f with
 | zero =>
  intro n l s i k hn hk n0 _ hs i0 i1 l0 l4 hli
  have h0 : n = 0 := by
   have : n.toNat < 1 := by simpa using hn
   omega
  subst h0
  refine Ev.round (P := Tryz.prog) (C := Door.cfg) (i := 4) (t := ⟨[0, 1, 5, 6], [5], 0⟩) tab0_ok (by kernel_rfl) rfl (can30 0 l s i k) (r30 (by omega) 0 l s i (fun _ _ _ => False) (fun e t => e = .exit 0 ∧ t = s) ?_) (fun τ h => h.2.elim) (fun e τ h => ?_)
  ·show d30 _ _ _ _ _ _
   unfold d30
   rw [decide_eq_false (by omega), iteP_f]
   exact ⟨rfl, rfl, rfl⟩
  ·obtain ⟨h1, h2, h3⟩ := h
   refine ⟨h2, ?_⟩
   rw [h1, h3]; rfl
 | succ f ih =>
  intro n l s i k hn hk n0 n1 hs i0 i1 l0 l4 hli
  by_cases h0 : i < l ∨ 0 < n
  ·obtain ⟨e1, e2, e3, e4⟩ := tmod_nat n0
   have hd : IntKind.i64.wrap (n.tdiv 10) = n.tdiv 10 := wrap_in (by omega) (by omega)
   have hi : IntKind.i64.wrap (i + 1) = i + 1 := wrap_in (by omega) (by omega)
   have hb : dgB (n.tmod 10) = [UInt8.ofNat (48 + n.toNat % 10)] := dgB_eq e1 (Nat.mod_lt _ (by decide))
   have l1 : ([UInt8.ofNat (48 + n.toNat % 10)] : List UInt8).length = 1 := rfl
   refine Ev.round (P := Tryz.prog) (C := Door.cfg) (i := 4) (t := ⟨[0, 1, 5, 6], [5], 0⟩) tab0_ok (by kernel_rfl) rfl (can30 n l s i k) (r30 (by omega) n l s i (fun n' t j => n' = n.tdiv 10 ∧ t = UInt8.ofNat (48 + n.toNat % 10) :: s ∧ j = i + 1) (fun _ _ => False) ?_) (fun τ h => ?_) (fun e τ h => h.2.elim)
   ·show d30 _ _ _ _ _ _
    unfold d30
    rw [hd, hi, hb, fits_sm2 (by omega) (by omega), iteP_t]
    by_cases hil : i < l
    ·rw [decide_eq_true hil, iteP_t]; exact ⟨rfl, rfl, rfl, rfl⟩
    ·rw [decide_eq_false hil, iteP_f, decide_eq_true (by omega), iteP_t]; exact ⟨rfl, rfl, rfl, rfl⟩
   ·obtain ⟨h1, h2, h3, h4⟩ := h
    rw [h1, h2, h3, h4]
    refine (ih (n.tdiv 10) l (UInt8.ofNat (48 + n.toNat % 10) :: s) (i + 1) (k + 1) ?_ (by omega) e3 (by omega) (by simp; omega) (by omega) (by omega) l0 l4 (by omega)).mono fun e τ h => ⟨h.1, h.2.trans ?_⟩
    ·rw [e2, Nat.div_lt_iff_lt_mul (by decide)]; simpa [Nat.pow_succ] using hn
    ·rw [e2, textR_step (k := f) (l := (l - i).toNat) (n := n.toNat) (by omega), lenR_step (k := f) (l := (l - i).toNat) (n := n.toNat) (by omega), show (l - (i + 1)).toNat = (l - i).toNat - 1 by omega]
     congr 1
     omega
  ·have hn0 : n = 0 := by omega
   subst hn0
   refine Ev.round (P := Tryz.prog) (C := Door.cfg) (i := 4) (t := ⟨[0, 1, 5, 6], [5], 0⟩) tab0_ok (by kernel_rfl) rfl (can30 0 l s i k) (r30 (by omega) 0 l s i (fun _ _ _ => False) (fun e t => e = .exit 0 ∧ t = s) ?_) (fun τ h => h.2.elim) (fun e τ h => ?_)
   ·show d30 _ _ _ _ _ _
    unfold d30
    rw [decide_eq_false (by omega), iteP_f]
    exact ⟨rfl, rfl, rfl⟩
   ·obtain ⟨h1, h2, h3⟩ := h
    refine ⟨h2, ?_⟩
    rw [h1, h3, show (l - i).toNat = 0 by omega, show (0 : Int).toNat = 0 from rfl, textR_stop, lenR_stop]; rfl
theorem okT30 : TabOk Tryz.prog Door.cfg T30 := by
 refine addL_ok tab0_ok fun σ s hs hp => ?_
 unfold L30 at hs
 split at hs
 ·rename_i n l s0 i _ _ _ _
  cases Option.some.inj hs
  obtain ⟨h1, h2, h3, h4, h5, h6, h7⟩ := hp
  have h2' : s0.data.toList = [] := by simpa using h2
  subst h3
  obtain ⟨j, ex, τ, g1, rfl, rfl⟩ := Ev.tidied (C := Door.cfg) (P := Tryz.prog) (b := loopAt Tryz.prog 88 4) (f := 88) (σ := σ) (t := ⟨[0, 1, 5, 6], [5], 0⟩) (τ := I30 n l [] 0 0) (by kernel_rfl) (by rw [h1, h2']; exact (can30 _ _ _ _ _).symm) (loop30 10 n l [] 0 0 (by show n.toNat < 10000000000; omega) (by omega) h4 h5 (Nat.le_refl _) (by omega) (by omega) h6 h7 (by omega))
  rw [Nat.zero_add, Int.sub_zero] at g1
  refine ⟨_, mem_altsK (fun k => ({ α := List UInt8, post := fun x => x = textR 10 l.toNat n.toNat [] ∧ k = lenR 10 l.toNat n.toNat, ex := .exit 0, st := fun x => E30 x k } : LAlt)) 10 0 (lenR 10 l.toNat n.toNat) (Nat.zero_le _) (by have := lenR_le 10 l.toNat n.toNat; omega), ?_⟩
  exact ⟨textR 10 l.toNat n.toNat [], ⟨rfl, rfl⟩, j, g1⟩
 ·cases hs
theorem ok30 {T : Tab} (O : TabOk Tryz.prog Door.cfg T) : TabOk Tryz.prog Door.cfg (T.addC 88 C30) := by
 refine addC_ok O fun args h s hs hp => ?_
 unfold C30 at hs
 split at hs
 ·rename_i n l
  refine nspec_ok (Option.some.inj hs) (fun hpre => ?_) hp
  obtain ⟨h1, h2, h3, h4⟩ := hpre
  refine EvP.freshV okT30 (n := 60) (by kernel_rfl) (by kernel_rfl) (args' := [aK .i64 n, aK .i64 l]) rfl (c30 n l _ ?_)
  exact ⟨rfl, ⟨rfl, rfl, rfl, h1, h2, h3, h4⟩, all_k (fun k x hx => by rw [hx.1]) _ _⟩
 ·cases hs
theorem loop17 (d : Int) (s t : List UInt8) (h0 : (stripZ t).isEmpty = false) (h1 : t.length ≤ 1000) : Ev Door.cfg Tryz.prog 65 (.loop (loopAt Tryz.prog 65 7)) (I17 d s t) fun e τ => τ = I17 d s (slS τ 5) ∧ e = .exit 0 ∧ slS τ 5 = stripZ t := by
 refine loop_rd (C := Door.cfg) (P := Tryz.prog) tab0_ok (f := 65) (i := 7) (n := 40) (fun x : List UInt8 => I17 d s x) (fun τ => slS τ 5) (fun x => stripZ x = stripZ t ∧ x.length ≤ 1000) (fun x => x.length) (by kernel_rfl)
  (fun x y ht => ?_) (fun x hx => ?_) t ⟨rfl, h1⟩
 ·replace ht : Door.tidy 65 7 = some y := ht
  cases ht
  exact can17 d s x
 ·obtain ⟨q1, q2⟩ := hx
  refine v17 d s x (fun y => (stripZ y = stripZ t ∧ y.length ≤ 1000) ∧ y.length < x.length) (fun e y => e = .exit 0 ∧ y = stripZ t) ?_
  rcases snoc_cases x with rfl | ⟨u, c, rfl⟩
  ·rw [← q1] at h0; cases h0
  ·have hl : (u ++ [c]).length = u.length + 1 := by simp
   have hw : IntKind.i64.wrap (((u ++ [c]).length : Int) - 1) = (u.length : Int) := by rw [wrap_in (by omega) (by omega)]; omega
   have hb : byteAt (u ++ [c]) (u.length : Int) = c.toNat := by
    unfold byteAt
    rw [Int.toNat_natCast, List.getElem?_append_right (Nat.le_refl _), Nat.sub_self]; rfl
   rw [hw, show inRange (u.length : Int) (u ++ [c]).length = true by rw [inRange_iff]; omega, iteP_t, hb, show ((c.toNat : Int) == 48) = (c == 48) from beq_byte c 48 (by decide)]
   cases hc : c == 48 with
   | true =>
    have hc' : c = 48 := by simpa using hc
    subst hc'
    have e : (decide (0 ≤ (u.length : Int)) && decide ((u.length : Int) ≤ ((u ++ [(48 : UInt8)]).length : Int))) = true := by rw [hl]; simp; omega
    rw [iteP_t, e, iteP_t, Int.toNat_natCast, List.take_left']
    ·exact ⟨rfl, ⟨by rw [← q1, strip_zero], by omega⟩, by omega⟩
    ·rfl
   | false =>
    rw [iteP_f]
    exact ⟨rfl, rfl, by rw [← q1, strip_stop u c (by simpa using hc)]⟩
theorem okT17 : TabOk Tryz.prog Door.cfg T17 := by
 refine addL_ok (ok30 tab0_ok) fun σ s hs hp => ?_
 unfold L17 at hs
 split at hs
 ·rename_i d s0 t0 _ _ _
  refine lspec_ok (Option.some.inj hs) (fun hpre => ?_) hp
  obtain ⟨e, h1, h2⟩ := hpre
  refine Ev.tidied (t := ⟨[0, 4, 5], [0, 4, 5], 0⟩) (τ := I17 d s0.data.toList t0.data.toList) (by kernel_rfl) (by rw [e]; exact (can17 _ _ _).symm) ?_
  exact (loop17 _ _ _ h1 h2).mono fun ex τ h => ⟨slS τ 5, h.2.2, h.2.1, h.1⟩
 ·cases hs
end
end Go.Proofs.Pr
namespace Go.Proofs.Pr
open Go Go.Ef
noncomputable section
set_option maxRecDepth 100000
theorem strip_le (t : List UInt8) : (stripZ t).length ≤ t.length := by
 unfold stripZ
 rw [List.length_reverse]
 have := (List.dropWhile_sublist (l := t.reverse) (· == 48)).length_le
 rwa [List.length_reverse] at this
theorem ok17 {T : Tab} (O : TabOk Tryz.prog Door.cfg T) : TabOk Tryz.prog Door.cfg (T.addC 65 C17) := by
 refine addC_ok O fun args h s hs hp => ?_
 unfold C17 at hs
 split at hs
 ·rename_i d
  refine nspec_ok (Option.some.inj hs) (fun hpre => ?_) hp
  obtain ⟨h1, h2⟩ := hpre
  refine EvP.freshV okT17 (n := 60) (by kernel_rfl) (by kernel_rfl) (args' := [aK .i64 d]) rfl (c17 d _ ?_)
  rw [decide_eq_false (show ¬ d < -10000000000000 by omega), iteP_f, decide_eq_false (show ¬ 10000000000000 < d by omega), iteP_f]
  have fin : ∀ y : List UInt8, decF d = (if d < 0 then [45] else []) ++ y → y.length ≤ 1000 → iteP (decide (d < 0)) (iteP (strFits [45] y) (AV.sc (.string ⟨⟨[45] ++ y⟩⟩) = aStr (decF d)) False) (AV.sc (.string ⟨⟨y⟩⟩) = aStr (decF d)) := by
   intro y hy hl
   by_cases hn : d < 0
   ·rw [decide_eq_true hn, iteP_t, fits_sm2 (by decide) (by omega), iteP_t, hy, if_pos hn]; rfl
   ·rw [decide_eq_false hn, iteP_f, hy, if_neg hn]; rfl
  have half : ∀ m : Int, 0 ≤ m → m ≤ 10000000000000 → m.toNat = d.natAbs →
    ((0 : Int) ≤ IntKind.i64.wrap (m.tdiv 10000) ∧ IntKind.i64.wrap (m.tdiv 10000) ≤ 1000000000 ∧ (0 : Int) ≤ 1 ∧ (1 : Int) ≤ 4) ∧ ∀ x : List UInt8, x = textR 10 1 (IntKind.i64.wrap (m.tdiv 10000)).toNat [] →
     iteP (m.tmod 10000 != 0) (((0 : Int) ≤ m.tmod 10000 ∧ m.tmod 10000 ≤ 1000000000 ∧ (0 : Int) ≤ 4 ∧ (4 : Int) ≤ 4) ∧ ∀ x1 : List UInt8, x1 = textR 10 4 (m.tmod 10000).toNat [] →
      loopAt Tryz.prog 65 7 = loopAt Tryz.prog 65 7 ∧ (I17 d x x1 = I17 d x x1 ∧ (stripZ x1).isEmpty = false ∧ x1.length ≤ 1000) ∧ ∀ x2 : List UInt8, x2 = stripZ x1 →
       iteP (strFits x [46]) (iteP (strFits (x ++ [46]) x2) (iteP (decide (d < 0)) (iteP (strFits [45] (x ++ [46] ++ x2)) (AV.sc (.string ⟨⟨[45] ++ (x ++ [46] ++ x2)⟩⟩) = aStr (decF d)) False) (AV.sc (.string ⟨⟨x ++ [46] ++ x2⟩⟩) = aStr (decF d))) False) False)
      (iteP (decide (d < 0)) (iteP (strFits [45] x) (AV.sc (.string ⟨⟨[45] ++ x⟩⟩) = aStr (decF d)) False) (AV.sc (.string ⟨⟨x⟩⟩) = aStr (decF d))) := by
   intro m h0 h1 hm
   have t1 : m.tdiv 10000 = m / 10000 := Int.tdiv_eq_ediv_of_nonneg h0
   have t2 : m.tmod 10000 = m % 10000 := Int.tmod_eq_emod_of_nonneg h0
   rw [t1, t2, wrap_in (x := m / 10000) (by omega) (by omega)]
   refine ⟨⟨by omega, by omega, by omega, by omega⟩, fun x hx => ?_⟩
   rw [text_1 (by omega)] at hx
   have hx1 : x = fmtN 10 (d.natAbs / 10000) := by rw [hx]; congr 1; omega
   have xl : x.length ≤ 70 := by rw [hx]; exact fmt_len _ _
   by_cases hf : m % 10000 = 0
   ·rw [show (m % 10000 != 0) = false by simpa using hf, iteP_f]
    refine fin x ?_ (by omega)
    unfold decF
    rw [← hx1, if_pos (show d.natAbs % 10000 = 0 by omega), List.append_nil]
   ·rw [show (m % 10000 != 0) = true by simpa using hf, iteP_t]
    refine ⟨⟨by omega, by omega, by omega, by omega⟩, fun x1 hx1' => ?_⟩
    rw [text_4 (by omega)] at hx1'
    have e1 : x1 = (fmtN 10 (10000 + d.natAbs % 10000)).drop 1 := by rw [hx1']; congr 2; omega
    obtain ⟨f1, f2⟩ := frac_str (f := d.natAbs % 10000) (by omega) (by omega)
    rw [← e1] at f1
    have l1 : x1.length ≤ 70 := by
     have := fmt_len 10 (10000 + d.natAbs % 10000)
     rw [e1, List.length_drop]; omega
    refine ⟨rfl, ⟨rfl, f1, by omega⟩, fun x2 hx2 => ?_⟩
    have l2 := strip_le x1
    rw [← hx2] at l2
    rw [fits_sm2 (by omega) (by decide), iteP_t, fits_sm2 (by simp; omega) (by omega), iteP_t]
    refine fin _ ?_ (by simp; omega)
    unfold decF
    rw [← hx1, if_neg (show ¬ d.natAbs % 10000 = 0 by omega), ← e1, ← hx2]
    simp
  by_cases hn : d < 0
  ·rw [show iteP (decide (d < 0)) = fun a _ => a from funext fun a => funext fun b => by rw [decide_eq_true hn, iteP_t]]
   have := half (-d) (by omega) (by omega) (by omega)
   rw [show IntKind.i64.wrap (0 - d) = -d by rw [wrap_in (by omega) (by omega)]; omega]
   rw [show iteP (decide (d < 0)) = fun a _ => a from funext fun a => funext fun b => by rw [decide_eq_true hn, iteP_t]] at this
   exact this
  ·rw [show iteP (decide (d < 0)) = fun _ b => b from funext fun a => funext fun b => by rw [decide_eq_false hn, iteP_f]]
   have := half d (by omega) (by omega) (by omega)
   rw [show iteP (decide (d < 0)) = fun _ b => b from funext fun a => funext fun b => by rw [decide_eq_false hn, iteP_f]] at this
   exact this
 ·cases hs
end
end Go.Proofs.Pr
namespace Go.Proofs.Pr
open Go Go.Ef
noncomputable section
set_option maxRecDepth 100000
theorem canr85 (s : List UInt8) (i : Int) : (Ir85 s i).tidy [0, 1] 0 = Ir85 s i := by kernel_rfl
theorem canr86 (w f : List UInt8) (n i : Int) : (Ir86 w f n i).tidy [0, 1, 6, 7] 0 = Ir86 w f n i := by kernel_rfl
theorem canr86b (f : List UInt8) (n i : Int) : (Ir86b f n i).tidy [1, 6, 8] 0 = Ir86b f n i := by kernel_rfl
theorem canr64 (s : List UInt8) (i : Int) : (Ir64 s i).tidy [0, 4] 0 = Ir64 s i := by kernel_rfl
theorem loopr85 (s : List UInt8) (hs : s.length ≤ 1000000) (i : Int) (h0 : 0 ≤ i) (h1 : i ≤ s.length) : Ev Door.cfg Tryz.prog 85 (.loop (loopAt Tryz.prog 85 2)) (Ir85 s i) fun e τ => τ = Er85 (slI τ 1) ∧ e = .exit 0 ∧ slI τ 1 = i + (digN (s.drop i.toNat) : Nat) := by
 refine loop_rd (C := Door.cfg) (P := Tryz.prog) tab0_ok (f := 85) (i := 2) (n := 40) (fun x : Int => Ir85 s x) (fun τ => slI τ 1) (fun x => 0 ≤ x ∧ x ≤ s.length ∧ i + (digN (s.drop i.toNat) : Nat) = x + (digN (s.drop x.toNat) : Nat)) (fun x => s.length - x.toNat) (by kernel_rfl)
  (fun x t ht => ?_) (fun x hx => ?_) i ⟨h0, h1, rfl⟩
 ·replace ht : Door.tidy 85 2 = some t := ht
  cases ht
  exact canr85 s x
 ·obtain ⟨q1, q2, q3⟩ := hx
  refine rv85 s x (fun y => (0 ≤ y ∧ y ≤ s.length ∧ i + (digN (s.drop i.toNat) : Nat) = y + (digN (s.drop y.toNat) : Nat)) ∧ s.length - y.toNat < s.length - x.toNat) (fun e v => e = .exit 0 ∧ v = i + (digN (s.drop i.toNat) : Nat)) ?_
  rcases hr : s.drop x.toNat with _ | ⟨c, r⟩
  ·have := drop_end hr
   rw [show decide (x < (s.length : Int)) = false by simp; omega, iteP_f]
   refine ⟨rfl, rfl, ?_⟩
   rw [q3, hr]; simp [digN]
  ·obtain ⟨e1, e2, e3⟩ := byteAt_drop hr
   have hj : IntKind.i64.wrap (x + 1) = x + 1 := wrap_in (by omega) (by omega)
   have hd : digN (s.drop x.toNat) = if isDig c then digN r + 1 else 0 := takeWhile_step hr
   rw [show decide (x < (s.length : Int)) = true by simp; omega, iteP_t, show inRange x s.length = true by rw [inRange_iff]; omega, iteP_t, iteP_t, e1, hj]
   have stop : isDig c = false → (Er85 x = Er85 x ∧ Ex.exit 0 = Ex.exit 0 ∧ x = i + (digN (s.drop i.toNat) : Nat)) := by
    intro hc
    rw [hc] at hd
    refine ⟨rfl, rfl, ?_⟩
    rw [q3, hd]; simp
   by_cases h1 : (48 : Int) ≤ c.toNat
   ·rw [decide_eq_true h1, iteP_t]
    by_cases h2 : (c.toNat : Int) ≤ 57
    ·rw [decide_eq_true h2, iteP_t]
     have hc : isDig c = true := by rw [isDig_iff]; exact ⟨h1, h2⟩
     rw [hc] at hd
     refine ⟨rfl, ⟨by omega, by omega, ?_⟩, by omega⟩
     rw [q3, hd, toNat_succ q1, e3]
     simp; omega
    ·rw [decide_eq_false h2, iteP_f]
     exact stop (by cases hc : isDig c with | false => rfl | true => rw [isDig_iff] at hc; omega)
   ·rw [decide_eq_false h1, iteP_f]
    exact stop (by cases hc : isDig c with | false => rfl | true => rw [isDig_iff] at hc; omega)
theorem okr85 {T : Tab} (O : TabOk Tryz.prog Door.cfg T) : TabOk Tryz.prog Door.cfg (T.addC 85 Cr85) := by
 have L : TabOk Tryz.prog Door.cfg Kr1 := by
  refine addL_ok tab0_ok fun σ s hs hp => ?_
  unfold Lr85 at hs
  split at hs
  ·rename_i s0 k _ _
   refine lspec_ok (Option.some.inj hs) (fun hpre => ?_) hp
   obtain ⟨e, h1, h2, h3⟩ := hpre
   refine Ev.tidied (t := ⟨[0, 1], [1], 0⟩) (τ := Ir85 s0.data.toList k) (by kernel_rfl) (by rw [e]; exact (canr85 _ _).symm) ?_
   exact (loopr85 _ h3 k h1 h2).mono fun ex τ h => ⟨slI τ 1, h.2.2, h.2.1, h.1⟩
  ·cases hs
 refine addC_ok O fun args h s hs hp => ?_
 unfold Cr85 at hs
 split at hs
 ·rename_i s0 k
  obtain ⟨⟨u⟩⟩ := s0
  refine nspec_ok (Option.some.inj hs) (fun hpre => ?_) hp
  exact EvP.freshV L (n := 40) (by kernel_rfl) (by kernel_rfl) (args' := [aStr u, aK .i64 k]) rfl (rc85 u k _ ⟨rfl, ⟨rfl, hpre.1, hpre.2.1, hpre.2.2⟩, fun x hx => by rw [hx]; rfl⟩)
 ·cases hs
theorem loopr86 (s f : List UInt8) (hs : s.length ≤ 1000000) (hd : s.all isDig = true) : Ev Door.cfg Tryz.prog 86 (.loop (loopAt Tryz.prog 86 4)) (Ir86 s f 0 0) fun e τ => (∃ d, valL s 0 = some d ∧ e = .exit 0 ∧ τ = Er86 f d) ∨ (∃ d, valL s 0 = none ∧ e = .ret ∧ τ = Jr86 f d) := by
 have main := loop_rd (C := Door.cfg) (P := Tryz.prog) tab0_ok (f := 86) (i := 4) (n := 40) (fun x : Int × Int => Ir86 s f x.1 x.2) (fun τ => (slI τ 6, slI τ 7)) (fun x => 0 ≤ x.2 ∧ x.2 ≤ s.length ∧ 0 ≤ x.1 ∧ x.1 ≤ 1000000000 ∧ valL s 0 = valL (s.drop x.2.toNat) x.1) (fun x => s.length - x.2.toNat)
  (K := fun e τ => match e with
   | .ret => τ = Jr86 f (slI τ 6) ∧ valL s 0 = none
   | e => τ = Er86 f (slI τ 6) ∧ (e = .exit 0 ∧ valL s 0 = some (slI τ 6))) (by kernel_rfl)
  (fun x t ht => ?_) (fun x hx => ?_) (0, 0) ⟨Int.le_refl _, by omega, Int.le_refl _, by omega, rfl⟩
 ·refine main.mono fun e τ h => ?_
  cases e with
  | ret => exact .inr ⟨slI τ 6, h.2, rfl, h.1⟩
  | normal => cases h.2.1
  | exit j => exact .inl ⟨slI τ 6, h.2.2, h.2.1, h.1⟩
 ·replace ht : Door.tidy 86 4 = some t := ht
  cases ht
  exact canr86 s f x.1 x.2
 ·obtain ⟨d, x⟩ := x
  obtain ⟨q1, q2, q4, q5, q3⟩ := hx
  replace q1 : 0 ≤ x := q1
  replace q2 : x ≤ s.length := q2
  replace q4 : 0 ≤ d := q4
  replace q5 : d ≤ 1000000000 := q5
  replace q3 : valL s 0 = valL (s.drop x.toNat) d := q3
  refine rv86 s f d x (fun e y => (0 ≤ y ∧ y ≤ s.length ∧ 0 ≤ e ∧ e ≤ 1000000000 ∧ valL s 0 = valL (s.drop y.toNat) e) ∧ s.length - y.toNat < s.length - x.toNat) (fun _ => valL s 0 = none) (fun e v => e = .exit 0 ∧ valL s 0 = some v) ?_
  rcases hr : s.drop x.toNat with _ | ⟨c, r⟩
  ·have := drop_end hr
   rw [show decide (x < (s.length : Int)) = false by simp; omega, iteP_f]
   refine ⟨rfl, rfl, ?_⟩
   rw [q3, hr]; rfl
  ·obtain ⟨e1, e2, e3⟩ := byteAt_drop hr
   have hj : IntKind.i64.wrap (x + 1) = x + 1 := wrap_in (by omega) (by omega)
   have hc : isDig c = true := by
    have h1 : c ∈ s.drop x.toNat := by rw [hr]; simp
    exact List.all_eq_true.1 hd c (List.mem_of_mem_drop h1)
   rw [isDig_iff] at hc
   have w1 : IntKind.i64.wrap (IntKind.i64.wrap (d * 10) + IntKind.i64.wrap (IntKind.u8.wrap ((c.toNat : Int) - 48))) = 10 * d + ((c.toNat : Int) - 48) := by
    rw [wrap8_in (by omega) (by omega)]
    simp (disch := omega) only [wrap_in]
    omega
   have hv : valL (s.drop x.toNat) d = if 10 * d + ((c.toNat : Int) - 48) > 1000000000 then none else valL r (10 * d + ((c.toNat : Int) - 48)) := by rw [hr]; rfl
   rw [show decide (x < (s.length : Int)) = true by simp; omega, iteP_t, show inRange x s.length = true by rw [inRange_iff]; omega, iteP_t, e1, hj, w1]
   by_cases h1 : (1000000000 : Int) < 10 * d + ((c.toNat : Int) - 48)
   ·rw [decide_eq_true h1, iteP_t]
    rw [if_pos h1] at hv
    exact ⟨rfl, by rw [q3, hv]⟩
   ·rw [decide_eq_false h1, iteP_f]
    rw [if_neg h1] at hv
    refine ⟨rfl, ⟨by omega, by omega, by omega, by omega, ?_⟩, by omega⟩
    rw [q3, hv, toNat_succ q1, e3]
theorem loopr86b (f : List UInt8) (hf : f.all isDig = true) (_ : f.length ≤ 1000000) (n : Int) (h0 : 0 ≤ n) (h1 : n ≤ 1000000000) : Ev Door.cfg Tryz.prog 86 (.loop (loopAt Tryz.prog 86 10)) (Ir86b f n 0) fun e τ => e = .exit 2 ∧ τ = Er86b (n * 10000 + fracL f) := by
 have stop : ∀ m : Int, Ev Door.cfg Tryz.prog 86 (.loop (loopAt Tryz.prog 86 10)) (Ir86b f m 4) fun e τ => e = .exit 2 ∧ τ = Er86b m := by
  intro m
  refine Ev.round (t := ⟨[1, 6, 8], [6], 0⟩) tab0_ok (by kernel_rfl) rfl (canr86b _ _ _) (rv86b f m 4 (fun _ _ => False) (fun e v => e = .exit 2 ∧ v = m) ?_) (fun τ h => h.2.elim) (fun e τ h => ?_)
  ·exact ⟨rfl, rfl, rfl⟩
  ·obtain ⟨e1, e2, e3⟩ := h
   exact ⟨e2, by rw [e1, e3]⟩
 have step : ∀ (k : Nat) (m : Int) (K : KR), k < 4 → 0 ≤ m → m ≤ 10000000000000 → Ev Door.cfg Tryz.prog 86 (.loop (loopAt Tryz.prog 86 10)) (Ir86b f (m * 10 + digAt f k) ((k + 1 : Nat) : Int)) K → Ev Door.cfg Tryz.prog 86 (.loop (loopAt Tryz.prog 86 10)) (Ir86b f m k) K := by
  intro k m K hk m0 m1 H
  have hj : IntKind.i64.wrap ((k : Int) + 1) = ((k + 1 : Nat) : Int) := by rw [wrap_in (by omega) (by omega)]; rfl
  have hm : IntKind.i64.wrap (m * 10) = m * 10 := wrap_in (by omega) (by omega)
  have hd := digAt_cons hf k
  refine Ev.round (t := ⟨[1, 6, 8], [6], 0⟩) tab0_ok (by kernel_rfl) rfl (canr86b _ _ _) (rv86b f m k (fun a b => a = m * 10 + digAt f k ∧ b = ((k + 1 : Nat) : Int)) (fun _ _ => False) ?_) (fun τ h => ?_) (fun e τ h => h.2.elim)
  ·rw [decide_eq_true (by omega), iteP_t, hj, hm]
   rcases hr : f.drop k with _ | ⟨c, r⟩
   ·have hk2 := drop_end (l := f) (k := (k : Int)) (by rw [Int.toNat_natCast]; exact hr)
    have e0 : digAt f k = 0 := by
     unfold digAt
     rw [List.getElem?_eq_none (by omega)]
    rw [decide_eq_false (by omega), iteP_f, e0, Int.add_zero]
    exact ⟨rfl, rfl, rfl⟩
   ·obtain ⟨e1, e2, e3⟩ := byteAt_drop (l := f) (k := (k : Int)) (by rw [Int.toNat_natCast]; exact hr)
    have hc : isDig c = true := List.all_eq_true.1 hf c (List.mem_of_mem_drop (i := k) (by rw [hr]; simp))
    rw [isDig_iff] at hc
    have ed : digAt f k = (c.toNat : Int) - 48 := by
     unfold digAt
     have : f[k]? = some c := by
      have := List.getElem?_drop (xs := f) (i := k) (j := 0)
      rw [hr] at this
      simpa using this.symm
     rw [this]
    rw [decide_eq_true (by omega), iteP_t, show inRange (k : Int) f.length = true by rw [inRange_iff]; omega, iteP_t, e1]
    have w1 : IntKind.i64.wrap (m * 10 + IntKind.i64.wrap (IntKind.u8.wrap ((c.toNat : Int) - 48))) = m * 10 + ((c.toNat : Int) - 48) := by
     rw [wrap8_in (by omega) (by omega)]
     simp (disch := omega) only [wrap_in]
    rw [w1, ed]
    exact ⟨rfl, rfl, rfl⟩
  ·obtain ⟨e1, e2, e3⟩ := h
   rw [e1, e2, e3]
   exact H
 have d0 := digAt_cons hf 0
 have d1 := digAt_cons hf 1
 have d2 := digAt_cons hf 2
 have d3 := digAt_cons hf 3
 refine step 0 n _ (by omega) (by omega) (by omega) (step 1 _ _ (by omega) (by omega) (by omega) (step 2 _ _ (by omega) (by omega) (by omega) (step 3 _ _ (by omega) (by omega) (by omega) ((stop _).mono fun e τ h => ⟨h.1, h.2.trans ?_⟩))))
 congr 1
 unfold fracL
 omega
theorem okr86 {T : Tab} (O : TabOk Tryz.prog Door.cfg T) : TabOk Tryz.prog Door.cfg (T.addC 86 Cr86) := by
 have L : TabOk Tryz.prog Door.cfg Kr2 := by
  refine addL_ok (addL_ok tab0_ok fun σ s hs hp => ?_) fun σ s hs hp => ?_
  ·unfold Lr86 at hs
   split at hs
   ·rename_i s0 f0 n i _ _ _ _
    cases Option.some.inj hs
    obtain ⟨e, rfl, rfl, h1, h2⟩ := hp
    obtain ⟨m, ex, τ, g1, g2⟩ := Ev.tidied (C := Door.cfg) (P := Tryz.prog) (b := loopAt Tryz.prog 86 4) (f := 86) (σ := σ) (t := ⟨[0, 1, 6, 7], [1, 4, 5, 6], 0⟩) (τ := Ir86 s0.data.toList f0.data.toList 0 0) (by kernel_rfl) (by rw [e]; exact (canr86 _ _ _ _).symm) (loopr86 _ _ h1 h2)
    rcases g2 with ⟨d, q1, rfl, rfl⟩ | ⟨d, q1, rfl, rfl⟩
    ·exact ⟨_, .head _, d, q1, m, g1⟩
    ·exact ⟨_, .tail _ (.head _), d, q1, m, g1⟩
   ·cases hs
  ·unfold Lr86b at hs
   split at hs
   ·rename_i f0 n i _ _ _
    refine lspec_ok (Option.some.inj hs) (fun hpre => ?_) hp
    obtain ⟨e, rfl, h1, h2, h3, h4⟩ := hpre
    refine Ev.tidied (t := ⟨[1, 6, 8], [6], 0⟩) (τ := Ir86b f0.data.toList n 0) (by kernel_rfl) (by rw [e]; exact (canr86b _ _ _).symm) ?_
    exact (loopr86b _ h4 h3 n h1 h2).mono fun ex τ h => ⟨_, rfl, h.1, h.2⟩
   ·cases hs
 refine addC_ok O fun args h s hs hp => ?_
 unfold Cr86 at hs
 split at hs
 ·rename_i w0 f0
  obtain ⟨⟨w⟩⟩ := w0
  obtain ⟨⟨f⟩⟩ := f0
  refine nspec_ok (Option.some.inj hs) (fun hpre => ?_) hp
  obtain ⟨h1, h2, h3, h4⟩ := hpre
  refine EvP.freshV L (n := 40) (by kernel_rfl) (by kernel_rfl) (args' := [aStr w, aStr f]) rfl (rc86 w f _ ⟨rfl, ⟨rfl, rfl, rfl, h1, h2⟩, fun x hx => ?_, fun x hx => ?_⟩)
  ·obtain ⟨b1, b2⟩ := valL_le w 0 x h2 (by omega) (by omega) hx
   refine ⟨rfl, ⟨rfl, rfl, b1, b2, h3, h4⟩, fun y hy => ?_⟩
   have hq : numQ w f = (x * 10000 + fracL f, decide (x * 10000 + fracL f ≤ 10000000000000)) := by unfold numQ; rw [hx]
   show iteP _ (_ = AV.tup [aK .i64 (numQ w f).1, aBool (numQ w f).2]) (_ = AV.tup [aK .i64 (numQ w f).1, aBool (numQ w f).2])
   rw [hq, hy]
   by_cases hb : x * 10000 + fracL f ≤ 10000000000000
   ·rw [decide_eq_true hb, iteP_t]; rfl
   ·rw [decide_eq_false hb, iteP_f]; rfl
  ·have hq : numQ w f = (0, false) := by unfold numQ; rw [hx]
   show _ = AV.tup [aK .i64 (numQ w f).1, aBool (numQ w f).2]
   rw [hq]; rfl
 ·cases hs
theorem frac_take (f : List UInt8) : fracL (f.take 4) = fracL f := by
 have : ∀ k, k < 4 → digAt (f.take 4) k = digAt f k := by
  intro k hk
  unfold digAt
  rw [List.getElem?_take, if_pos hk]
 unfold fracL
 rw [this 0 (by omega), this 1 (by omega), this 2 (by omega), this 3 (by omega)]
theorem all_take {f : List UInt8} (h : f.all isDig = true) : (f.take 4).all isDig = true := List.all_eq_true.2 fun c hc => List.all_eq_true.1 h c (List.mem_of_mem_take hc)
theorem num_pref {w f f' : List UInt8} (hw : w.all isDig = true) (hf : f.all isDig = true) (he : fracL f' = fracL f) {p : Int} (hp : p = min 10000000000000 (valueF w f)) : ((numQ w f').2 = true → (numQ w f').1 = p) ∧ ((numQ w f').2 = false → p = 10000000000000) := by
 unfold numQ
 unfold valueF at hp
 cases hv : valL w 0 with
 | none =>
  rw [hv] at hp
  exact ⟨fun h => (Bool.false_ne_true h).elim, fun _ => by replace hp : p = min 10000000000000 10000000000001 := hp; omega⟩
 | some d =>
  rw [hv] at hp
  have b1 := valL_le w 0 d hw (by omega) (by omega) hv
  have b2 := frac_le hf
  replace hp : p = min 10000000000000 (min 10000000000001 (d * 10000 + fracL f)) := hp
  dsimp only
  rw [he]
  refine ⟨fun h => ?_, fun h => ?_⟩
  ·have := of_decide_eq_true h; omega
  ·have := of_decide_eq_false h; omega
theorem tailR_ok (s : List UInt8) (K0 : Prop) (K : Int → Prop) (M : Prop) (m : Nat) (hs : s.length ≤ 1000000) (hm : m ≤ s.length)
  (h0 : prefU (s.drop m) = 0 → K0) (hk : K (prefU (s.drop m))) (hM : prefU (s.drop m) = 10000000000000 → M) : tailR s K0 K M (m : Int) := by
 refine ⟨⟨by omega, by omega, hs⟩, fun x hx => ?_⟩
 rw [Int.toNat_natCast] at hx
 generalize hl : s.drop m = l at *
 have hll : l.length = s.length - m := by rw [← hl, List.length_drop]
 have hn := digN_le l
 have hwd : (l.take (digN l)).all isDig = true := take_digN l
 have hd : (l.drop (digN l)) = s.drop (m + digN l) := by rw [← hl, List.drop_drop]
 have hpu : prefU l = if digN l = 0 ∧ fracPart (l.drop (digN l)) = [] then 0 else min 10000000000000 (valueF (l.take (digN l)) (fracPart (l.drop (digN l)))) := rfl
 generalize hn' : digN l = n at *
 have hx' : x = ((m + n : Nat) : Int) := by omega
 subst hx'
 have hcw : cutL s (m : Int) ((m + n : Nat) : Int) = l.take n := by
  rw [show (((m + n : Nat) : Int)) = (m : Int) + (n : Int) by omega, take_cut, hl]
 -- the number is made
 have made : ∀ f' f : List UInt8, f'.length ≤ 1000000 → f'.all isDig = true → f.all isDig = true → fracL f' = fracL f → fracPart (l.drop n) = f → ¬ (n = 0 ∧ f = []) → numP s f' K M (m : Int) ((m + n : Nat) : Int) := by
  intro f' f q1 q2 q3 q4 q5 q6
  unfold numP
  rw [show (decide (0 ≤ (m : Int)) && (decide ((m : Int) ≤ ((m + n : Nat) : Int)) && decide (((m + n : Nat) : Int) ≤ (s.length : Int)))) = true by simp; omega, iteP_t, hcw]
  refine ⟨⟨by rw [List.length_take]; omega, hwd, q1, q2⟩, fun y hy => ?_⟩
  rw [q5, if_neg q6] at hpu
  obtain ⟨g1, g2⟩ := num_pref hwd q3 q4 hpu
  rw [← hy] at g1 g2
  cases hb : y.2 with
  | true => rw [iteP_t, g1 hb]; exact hk
  | false => rw [iteP_f]; exact hM (g2 hb)
 have none : fracPart (l.drop n) = [] → noneR s K0 K M (m : Int) ((m + n : Nat) : Int) := by
  intro hf
  unfold noneR
  by_cases hz : n = 0
  ·rw [show (((m + n : Nat) : Int) == (m : Int)) = true by simp; omega, iteP_t]
   exact h0 (by rw [hpu, hf, if_pos ⟨hz, rfl⟩])
  ·rw [show (((m + n : Nat) : Int) == (m : Int)) = false by simp; omega, iteP_f]
   exact made [] [] (by decide) rfl rfl rfl hf (fun h => hz h.1)
 rcases hr : s.drop (m + n) with _ | ⟨c, r⟩
 ·have := drop_end (k := ((m + n : Nat) : Int)) (by rw [Int.toNat_natCast]; exact hr)
  rw [decide_eq_false (by omega), iteP_f]
  exact none (by rw [hd, hr]; rfl)
 ·obtain ⟨e1, e2, e3⟩ := byteAt_drop (l := s) (k := ((m + n : Nat) : Int)) (by rw [Int.toNat_natCast]; exact hr)
  rw [Int.toNat_natCast] at e2 e3
  rw [decide_eq_true (by omega), iteP_t, show inRange ((m + n : Nat) : Int) s.length = true by rw [inRange_iff]; omega, iteP_t, e1, show ((c.toNat : Int) == 46) = (c == 46) from beq_byte c 46 (by decide)]
  cases hc : c == 46 with
  | false =>
   rw [iteP_f]
   refine none ?_
   rw [hd, hr]
   show (if c = 46 then _ else _) = _
   rw [if_neg (by simpa using hc)]
  | true =>
   rw [iteP_t]
   have hc' : c = 46 := by simpa using hc
   have hf : fracPart (l.drop n) = r.take (digN r) := by
    rw [hd, hr]
    show (if c = 46 then _ else _) = _
    rw [if_pos hc']
   have hj : IntKind.i64.wrap (((m + n : Nat) : Int) + 1) = ((m + n + 1 : Nat) : Int) := by rw [wrap_in (by omega) (by omega)]; omega
   have hrl : r.length = s.length - (m + n + 1) := by rw [← e3, List.length_drop]
   have hkr := digN_le r
   rw [hj]
   intro m1 hm1
   subst hm1
   refine ⟨⟨by omega, by omega, hs⟩, fun x1 hx1 => ?_⟩
   rw [Int.toNat_natCast, e3] at hx1
   have hx1' : x1 = ((m + n + 1 + digN r : Nat) : Int) := by omega
   subst hx1'
   have hfd : (r.take (digN r)).all isDig = true := take_digN r
   have cut : ¬ (n = 0 ∧ digN r = 0) → cutR s K0 K M (m : Int) ((m + n : Nat) : Int) ((m + n + 1 + digN r : Nat) : Int) ((m + n + 1 : Nat) : Int) := by
    intro hnz
    have hnz' : ¬ (n = 0 ∧ r.take (digN r) = []) := fun h => hnz ⟨h.1, by
     have := congrArg List.length h.2
     rw [List.length_take, List.length_nil] at this
     omega⟩
    unfold cutR
    rw [show (decide ((0 : Int) ≤ ((m + n + 1 : Nat) : Int)) && (decide (((m + n + 1 : Nat) : Int) ≤ ((m + n + 1 + digN r : Nat) : Int)) && decide (((m + n + 1 + digN r : Nat) : Int) ≤ (s.length : Int)))) = true by simp; omega, iteP_t]
    intro f hf2
    rw [show (((m + n + 1 + digN r : Nat) : Int)) = ((m + n + 1 : Nat) : Int) + (digN r : Int) by omega, take_cut, e3] at hf2
    subst hf2
    unfold endR
    rw [show (((m + n + 1 + digN r : Nat) : Int) == (m : Int)) = false by simp; omega, iteP_f]
    by_cases h4 : (4 : Int) < ((r.take (digN r)).length : Int)
    ·rw [decide_eq_true h4, iteP_t, show (true && decide ((4 : Int) ≤ ((r.take (digN r)).length : Int))) = true by rw [decide_eq_true (by omega)]; rfl, iteP_t]
     exact made _ _ (by rw [List.length_take]; omega) (all_take hfd) hfd (frac_take _) hf hnz'
    ·rw [decide_eq_false h4, iteP_f]
     exact made _ _ (by rw [List.length_take]; omega) hfd hfd rfl hf hnz'
   by_cases hz : n = 0
   ·rw [decide_eq_false (by omega), iteP_f]
    intro m2 hm2
    subst hm2
    by_cases hk0 : digN r = 0
    ·rw [decide_eq_false (by omega), iteP_f]
     exact none (by rw [hf, hk0]; rfl)
    ·rw [decide_eq_true (by omega), iteP_t]
     intro m3 hm3
     subst hm3
     exact cut (fun h => hk0 h.2)
   ·rw [decide_eq_true (by omega), iteP_t]
    intro m2 hm2
    subst hm2
    exact cut (fun h => hz h.1)
theorem loopr64 (s : List UInt8) (hs : s.length ≤ 1000000) : Ev Door.cfg Tryz.prog 64 (.loop (loopAt Tryz.prog 64 3)) (Ir64 s 0) fun e τ => τ = Ir64 s (slI τ 4) ∧ e = .exit 0 ∧ slI τ 4 = blankN s := by
 refine loop_rd (C := Door.cfg) (P := Tryz.prog) tab0_ok (f := 64) (i := 3) (n := 40) (fun x : Int => Ir64 s x) (fun τ => slI τ 4) (fun x => 0 ≤ x ∧ x ≤ s.length ∧ (blankN s : Int) = x + blankN (s.drop x.toNat)) (fun x => s.length - x.toNat) (by kernel_rfl)
  (fun x t ht => ?_) (fun x hx => ?_) 0 ⟨Int.le_refl _, by omega, by simp⟩
 ·replace ht : Door.tidy 64 3 = some t := ht
  cases ht
  exact canr64 s x
 ·obtain ⟨q1, q2, q3⟩ := hx
  refine rv64 s x (fun y => (0 ≤ y ∧ y ≤ s.length ∧ (blankN s : Int) = y + blankN (s.drop y.toNat)) ∧ s.length - y.toNat < s.length - x.toNat) (fun e v => e = .exit 0 ∧ v = blankN s) ?_
  rcases hr : s.drop x.toNat with _ | ⟨c, r⟩
  ·have := drop_end hr
   rw [show decide (x < (s.length : Int)) = false by simp; omega, iteP_f]
   refine ⟨rfl, rfl, ?_⟩
   rw [q3, hr]; simp [blankN]
  ·obtain ⟨e1, e2, e3⟩ := byteAt_drop hr
   have hj : IntKind.i64.wrap (x + 1) = x + 1 := wrap_in (by omega) (by omega)
   have hd : blankN (s.drop x.toNat) = if isBlank c then blankN r + 1 else 0 := takeWhile_step hr
   rw [show decide (x < (s.length : Int)) = true by simp; omega, iteP_t, show inRange x s.length = true by rw [inRange_iff]; omega, iteP_t, iteP_t, e1, hj]
   rw [show ((c.toNat : Int) == 32) = (c == 32) from beq_byte c 32 (by decide), show ((c.toNat : Int) == 9) = (c == 9) from beq_byte c 9 (by decide)]
   have go : isBlank c = true → (Ir64 s (x + 1) = Ir64 s (x + 1) ∧ (0 ≤ x + 1 ∧ x + 1 ≤ s.length ∧ (blankN s : Int) = x + 1 + blankN (s.drop (x + 1).toNat)) ∧ s.length - (x + 1).toNat < s.length - x.toNat) := by
    intro hc
    rw [hc] at hd
    refine ⟨rfl, ⟨by omega, by omega, ?_⟩, by omega⟩
    rw [q3, hd, toNat_succ q1, e3]
    simp; omega
   cases h1 : c == 32 with
   | true => rw [iteP_t]; exact go (by unfold isBlank; rw [h1]; rfl)
   | false =>
    rw [iteP_f]
    cases h2 : c == 9 with
    | true => rw [iteP_t]; exact go (by unfold isBlank; rw [h1, h2]; rfl)
    | false =>
     rw [iteP_f]
     refine ⟨rfl, rfl, ?_⟩
     have : isBlank c = false := by unfold isBlank; rw [h1, h2]; rfl
     rw [this] at hd
     rw [q3, hd]; simp
theorem prefixr_ok (s : List UInt8) (hs : s.length ≤ 1000000) : P64 s (fun a => a = prefixD s) := by
 refine ⟨rfl, ⟨rfl, rfl, hs⟩, fun x hx => ?_⟩
 have hb : blankN s ≤ s.length := (List.takeWhile_sublist _).length_le
 have ht : s.drop (blankN s) = s.dropWhile isBlank := drop_takeWhile s
 generalize hbn : blankN s = b at *
 subst hx
 have pos : ∀ m : Nat, m ≤ s.length → prefU (s.drop m) = prefixD s → tailR s ((0 : Int) = prefixD s) (fun a => a = prefixD s) ((10000000000000 : Int) = prefixD s) (m : Int) := fun m hm he => tailR_ok s _ _ _ m hs hm (fun h => by rw [← he, h]) he (fun h => by rw [← he, h])
 have neg : ∀ m : Nat, m ≤ s.length → -prefU (s.drop m) = prefixD s → tailR s ((0 : Int) = prefixD s) (fun a => IntKind.i64.wrap (0 - a) = prefixD s) ((-10000000000000 : Int) = prefixD s) (m : Int) := fun m hm he => by
  have hle := prefU_le (s.drop m)
  refine tailR_ok s _ _ _ m hs hm (fun h => by rw [← he, h]; rfl) ?_ (fun h => by rw [← he, h])
  rw [wrap_in (by omega) (by omega), ← he]; omega
 unfold plusR
 rcases hr : s.drop b with _ | ⟨c, r⟩
 ·have := drop_end (k := (b : Int)) (by rw [Int.toNat_natCast]; exact hr)
  rw [Int.toNat_natCast] at this
  rw [show decide ((b : Int) < (s.length : Int)) = false by simp; omega, iteP_f, iteP_f]
  refine pos b hb ?_
  unfold prefixD
  rw [← ht, hr]; rfl
 ·obtain ⟨e1, e2, e3⟩ := byteAt_drop (l := s) (k := (b : Int)) (by rw [Int.toNat_natCast]; exact hr)
  rw [Int.toNat_natCast] at e2 e3
  rw [show decide ((b : Int) < (s.length : Int)) = true by simp; omega, iteP_t, show inRange (b : Int) s.length = true by rw [inRange_iff]; omega, iteP_t, iteP_t, iteP_t, e1]
  rw [show ((c.toNat : Int) == 45) = (c == 45) from beq_byte c 45 (by decide), show ((c.toNat : Int) == 43) = (c == 43) from beq_byte c 43 (by decide)]
  have hj : IntKind.i64.wrap ((b : Int) + 1) = ((b + 1 : Nat) : Int) := by rw [wrap_in (by omega) (by omega)]; omega
  have hp : prefixD s = if c == 45 then -prefU r else if (c == 45 || c == 43) then prefU r else prefU (c :: r) := by
   unfold prefixD
   rw [← ht, hr]; rfl
  cases h45 : c == 45 with
  | true =>
   rw [iteP_t]
   rw [h45] at hp
   intro m hm
   rw [hm, hj]
   exact neg (b + 1) (by omega) (by rw [e3, hp]; rfl)
  | false =>
   rw [iteP_f]
   rw [h45] at hp
   cases h43 : c == 43 with
   | true =>
    rw [iteP_t]
    rw [h43] at hp
    intro m hm
    rw [hm, hj]
    exact pos (b + 1) (by omega) (by rw [e3, hp]; rfl)
   | false =>
    rw [iteP_f]
    rw [h43] at hp
    exact pos b hb (by rw [hr, hp]; rfl)
theorem okKr3 : TabOk Tryz.prog Door.cfg Kr3 := by
 refine name_ok (name_ok (name_ok (name_ok (name_ok (addL_ok (okr86 (okr85 tab0_ok)) fun σ s hs hp => ?_) _ _) _ _) _ _) _ _) _ _
 unfold Lr64 at hs
 split at hs
 ·rename_i s0 k _ _
  refine lspec_ok (Option.some.inj hs) (fun hpre => ?_) hp
  obtain ⟨e, h1, h5⟩ := hpre
  refine Ev.tidied (t := ⟨[0, 4], [0, 4], 0⟩) (τ := Ir64 s0.data.toList 0) (by kernel_rfl) (by rw [e, h1]; exact (canr64 _ _).symm) ?_
  exact (loopr64 _ h5).mono fun ex τ h => ⟨slI τ 4, h.2.2, h.2.1, h.1⟩
 ·cases hs
theorem okr64 {T : Tab} (O : TabOk Tryz.prog Door.cfg T) : TabOk Tryz.prog Door.cfg (T.addC 64 Cr64) := by
 refine addC_ok O fun args h s hs hp => ?_
 unfold Cr64 at hs
 split at hs
 ·rename_i s0
  obtain ⟨⟨u⟩⟩ := s0
  refine aspec_ok (Option.some.inj hs) (fun hpre => ?_) hp
  replace hpre : u.length ≤ 1000000 := hpre
  refine EvP_mono (EvP.freshK okKr3 (n := 40) (by kernel_rfl) (by kernel_rfl) (args' := [aStr u]) rfl (rc64 u _ (prefixr_ok u hpre))) fun v h' hv => ⟨?_, hv.2⟩
  have h1 := hv.1
  split at h1
  ·rename_i a e
   exact ⟨(a, e), h1, rfl⟩
  ·exact h1.elim
 ·cases hs
end
end Go.Proofs.Pr
namespace Go.Proofs.Pr
open Go Go.Ef
noncomputable section
set_option maxRecDepth 100000
theorem okr42 {T : Tab} (O : TabOk Tryz.prog Door.cfg T) : TabOk Tryz.prog Door.cfg (T.addC 42 Cr42) := by
 refine addC_ok O fun args h s hs hp => ?_
 unfold Cr42 at hs
 split at hs
 ·rename_i k n s0
  obtain ⟨⟨u⟩⟩ := s0
  refine nspec_ok (Option.some.inj hs) (fun hpre => ?_) hp
  refine EvP.freshV (okr64 tab0_ok) (n := 40) (by kernel_rfl) (by kernel_rfl) (args' := [.agg [aK .i64 k, aK .i64 n, aStr u]]) rfl (rc42 k n u _ ?_)
  have hnum : numberF k n u = if k = 2 then prefixD u else if k = 1 ∨ k = 3 then nearF n else 0 := rfl
  show iteP _ (iteP _ (_ = aK .i64 (numberF k n u)) (iteP _ (_ = aK .i64 (numberF k n u)) (_ = aK .i64 (numberF k n u)))) (iteP _ (iteP _ (_ = aK .i64 (numberF k n u)) (iteP _ (_ = aK .i64 (numberF k n u)) (_ = aK .i64 (numberF k n u)))) (iteP _ (_ ∧ ∀ x : Int × Int, _ → _ = aK .i64 (numberF k n u)) (_ = aK .i64 (numberF k n u))))
  have near : k = 1 ∨ k = 3 → iteP (decide ((10000000000000 : Int) < n)) (aK .i64 10000000000000 = aK .i64 (numberF k n u)) (iteP (decide (n < (-10000000000000 : Int))) (aK .i64 (-10000000000000) = aK .i64 (numberF k n u)) (aK .i64 n = aK .i64 (numberF k n u))) := by
   intro hk
   rw [hnum, if_neg (by omega), if_pos hk]
   unfold nearF
   by_cases h1 : (10000000000000 : Int) < n
   ·rw [decide_eq_true h1, iteP_t]; congr 2; omega
   ·rw [decide_eq_false h1, iteP_f]
    by_cases h2 : n < (-10000000000000 : Int)
    ·rw [decide_eq_true h2, iteP_t]; congr 2; omega
    ·rw [decide_eq_false h2, iteP_f]; congr 2; omega
  by_cases h1 : k = 1
  ·rw [show (k == 1) = true by simpa using h1, iteP_t]; exact near (.inl h1)
  ·rw [show (k == 1) = false by simpa using h1, iteP_f]
   by_cases h3 : k = 3
   ·rw [show (k == 3) = true by simpa using h3, iteP_t]; exact near (.inr h3)
   ·rw [show (k == 3) = false by simpa using h3, iteP_f]
    by_cases h2 : k = 2
    ·rw [show (k == 2) = true by simpa using h2, iteP_t]
     refine ⟨Nat.le_of_ble_eq_true (by simpa using hpre), fun x hx => ?_⟩
     rw [hnum, if_pos h2, hx]; rfl
    ·rw [show (k == 2) = false by simpa using h2, iteP_f, hnum, if_neg h2, if_neg (by omega)]; rfl
 ·cases hs
theorem okr41 {T : Tab} (O : TabOk Tryz.prog Door.cfg T) : TabOk Tryz.prog Door.cfg (T.addC 41 Cr41) := by
 refine addC_ok O fun args h s hs hp => ?_
 unfold Cr41 at hs
 split at hs
 ·rename_i d
  refine nspec_ok (Option.some.inj hs) (fun _ => ?_) hp
  refine EvP.freshV tab0_ok (n := 40) (by kernel_rfl) (by kernel_rfl) (args' := [aK .i64 d]) rfl (rc41 d _ ?_)
  show iteP _ (_ = aK .i64 ((nearF d).tdiv 10000)) (iteP _ (_ = aK .i64 ((nearF d).tdiv 10000)) (_ = aK .i64 ((nearF d).tdiv 10000)))
  by_cases h1 : d < (-10000000000000 : Int)
  ·rw [decide_eq_true h1, iteP_t, show nearF d = -10000000000000 by unfold nearF; omega]; rfl
  ·rw [decide_eq_false h1, iteP_f]
   by_cases h2 : (10000000000000 : Int) < d
   ·rw [decide_eq_true h2, iteP_t, show nearF d = 10000000000000 by unfold nearF; omega]; rfl
   ·have := tdiv_le (a := d) (by omega) (by omega)
    rw [decide_eq_false h2, iteP_f, show nearF d = d by unfold nearF; omega, wrap_in (by omega) (by omega)]; rfl
 ·cases hs
theorem okr43 {T : Tab} (O : TabOk Tryz.prog Door.cfg T) : TabOk Tryz.prog Door.cfg (T.addC 43 Cr43) := by
 refine addC_ok O fun args h s hs hp => ?_
 unfold Cr43 at hs
 split at hs
 ·rename_i k n s0
  obtain ⟨⟨u⟩⟩ := s0
  refine nspec_ok (Option.some.inj hs) (fun hpre => ?_) hp
  refine EvP.freshV (ok17 tab0_ok) (n := 40) (by kernel_rfl) (by kernel_rfl) (args' := [.agg [aK .i64 k, aK .i64 n, aStr u]]) rfl (rc43 k n u _ ?_)
  have ht : textF k n u = if k = 1 then decF (nearF n) else if k = 2 ∨ k = 3 then u else [] := rfl
  by_cases h1 : k = 1
  ·rw [show (k == 1) = true by simpa using h1, iteP_t]
   show iteP _ (_ ∧ ∀ x : List UInt8, _ → _ = aStr (textF k n u)) (iteP _ (_ ∧ ∀ x : List UInt8, _ → _ = aStr (textF k n u)) (_ ∧ ∀ x : List UInt8, _ → _ = aStr (textF k n u)))
   rw [ht, if_pos h1]
   unfold nearF
   by_cases h2 : (10000000000000 : Int) < n
   ·rw [decide_eq_true h2, iteP_t]
    exact ⟨⟨by omega, by omega⟩, fun x hx => by rw [hx, show max (-10000000000000 : Int) (min 10000000000000 n) = 10000000000000 by omega]; rfl⟩
   ·rw [decide_eq_false h2, iteP_f]
    by_cases h3 : n < (-10000000000000 : Int)
    ·rw [decide_eq_true h3, iteP_t]
     exact ⟨⟨by omega, by omega⟩, fun x hx => by rw [hx, show max (-10000000000000 : Int) (min 10000000000000 n) = -10000000000000 by omega]; rfl⟩
    ·rw [decide_eq_false h3, iteP_f]
     exact ⟨⟨by omega, by omega⟩, fun x hx => by rw [hx, show max (-10000000000000 : Int) (min 10000000000000 n) = n by omega]; rfl⟩
  ·rw [show (k == 1) = false by simpa using h1, iteP_f]
   show iteP _ (_ = aStr (textF k n u)) (iteP _ (_ = aStr (textF k n u)) (_ = aStr (textF k n u)))
   rw [ht, if_neg h1]
   by_cases h2 : k = 2
   ·rw [show (k == 2) = true by simpa using h2, iteP_t, if_pos (.inl h2)]; rfl
   ·rw [show (k == 2) = false by simpa using h2, iteP_f]
    by_cases h3 : k = 3
    ·rw [show (k == 3) = true by simpa using h3, iteP_t, if_pos (.inr h3)]; rfl
    ·rw [show (k == 3) = false by simpa using h3, iteP_f, if_neg (by omega)]; rfl
 ·cases hs
end
end Go.Proofs.Pr
namespace Go.Proofs.Pr
open Go Go.Ef
noncomputable section
def Ir40 (c n : Int) (s : List UInt8) (i : Int) (h : Heap) : St := stOf 18 [(0, sK .u8 c), (1, sInt n), (5, sStr s), (6, sInt i)] [] h
def Er40 (s : List UInt8) (h : Heap) : St := stOf 18 [(5, sStr s)] [] h
def timesF (c n : Int) : List UInt8 := List.replicate n.toNat (UInt8.ofNat c.toNat)
def Lr40 (σ : St) : Option LSpec :=
 match σ.at 0, σ.at 1, σ.at 5, σ.at 6 with
 | .v (.sc (.int .u8 c)), .v (.sc (.int .i64 n)), .v (.sc (.string s)), .v (.sc (.int .i64 i)) => some (lspec (σ.tidy [0, 1, 5, 6] 0 = Ir40 c n s.data.toList i heapF ∧ i = 0 ∧ n ≤ 255 ∧ (c = 32 ∨ c = 48) ∧ s.data.toList.isEmpty = true) (List UInt8 × Heap) (fun x => x.1 = timesF c n) (.exit 0) (fun x => Er40 x.1 x.2))
 | _, _, _, _ => none
def Cr40 (args : List AV) (h : Heap) : Option CSpec :=
 match args with
 | [.sc (.int .u8 c), .sc (.int .i64 n)] => some (nspec ((c = 32 ∨ c = 48) ∧ n ≤ 255) (timesF c n) (fun x => aStr x) h)
 | _ => none
def byteL (t : List UInt8) (k : Nat) : UInt8 := t[k]?.getD 0
def basedL (t : List UInt8) (b : Nat) : Nat → Nat → List UInt8 → List UInt8
 | 0, _, acc => acc
 | f + 1, n, acc => if n < b then byteL t n :: acc else basedL t b f (n / b) (byteL t (n % b) :: acc)
def basedF (t : List UInt8) (b n : Nat) : List UInt8 := basedL t b 70 n []
def pre67 (n b : Int) (t : List UInt8) : Prop := 0 ≤ n ∧ n ≤ 4294967296 ∧ 2 ≤ b ∧ b ≤ 16 ∧ (t.length : Int) = b ∧ (b = 8 ∨ b = 10 ∨ b = 16)
def Cr67m (m : Int) (args : List AV) (h : Heap) : Option CSpec :=
 match args with
 | [.sc (.int .i64 n), .sc (.int .i64 b), .sc (.string t)] => some (nspec (pre67 n b t.data.toList ∧ n < m) (basedF t.data.toList b.toNat n.toNat) (fun x => aStr x) h)
 | _ => none
def Cr67 (args : List AV) (h : Heap) : Option CSpec :=
 match args with
 | [.sc (.int .i64 n), .sc (.int .i64 b), .sc (.string t)] => some (nspec (pre67 n b t.data.toList) (basedF t.data.toList b.toNat n.toNat) (fun x => aStr x) h)
 | _ => none
def Cr62 (args : List AV) (h : Heap) : Option CSpec :=
 match args with
 | [.sc (.int .i64 d)] => some (nspec True (nearF d) (fun x => aK .i64 x) h)
 | _ => none
def Cr87 (args : List AV) (h : Heap) : Option CSpec :=
 match args with
 | [.sc (.int .i64 d)] => some (nspec (-10000000000000 ≤ d ∧ d ≤ 10000000000000) ((d.natAbs : Nat) : Int) (fun x => aK .i64 x) h)
 | _ => none
def Cr66 (args : List AV) (h : Heap) : Option CSpec :=
 match args with
 | [.sc (.int .i64 d), .sc (.int .i64 p)] => some (nspec True (roundF d p) (fun x => aK .i64 x) h)
 | _ => none
def Kt0 : Tab := tab0.idle 40
def Kt : Tab := (tab0.addL 40 4 Lr40).idle 40
def Kb (m : Int) : Tab := tab0.addC 67 (Cr67m m)
def Ku : Tab := (tab0.addC 62 Cr62).addC 87 Cr87
def Ki : Tab := ((tab0.addC 67 Cr67).addC 40 Cr40).addC 66 Cr66
end
end Go.Proofs.Pr
namespace Go.Proofs.Pr
open Go Go.Ef
noncomputable section
set_option maxRecDepth 100000
def bC (c : Int) : List UInt8 := List.map byteD [[AV.sc (Value.int IntKind.u8 c)]]
def hOwn (h : Heap) : Heap := (h.new (.own 1 5 1)).2
def P40 (c n : Int) (s : List UInt8) (i : Int) (h : Heap) (N : List UInt8 → Int → Prop) (X : Ex → List UInt8 → Prop) : Prop :=
 iteP (decide (i < n)) (iteP (strFits s (bC c)) (Ir40 c n (s ++ bC c) (IntKind.i64.wrap (i + 1)) (hOwn h) = Ir40 c n (s ++ bC c) (IntKind.i64.wrap (i + 1)) (hOwn h) ∧ N (s ++ bC c) (IntKind.i64.wrap (i + 1))) False) (Er40 s h = Er40 s h ∧ X (Ex.exit 0) s)
theorem rv40 (c n : Int) (s : List UInt8) (i : Int) (h : Heap) (N : List UInt8 → Int → Prop) (X : Ex → List UInt8 → Prop) (H : P40 c n s i h N X) : wpRound Kt0 Door.cfg Tryz.prog 40 40 4 (Ir40 c n s i h) (fun τ => τ = Ir40 c n (slS τ 5) (slI τ 6) (hOwn h) ∧ N (slS τ 5) (slI τ 6)) (fun e τ => τ = Er40 (slS τ 5) h ∧ X e (slS τ 5)) := Eq.mp (by kernel_rfl) H
def R40 (c n : Int) (K : AV → Prop) : Prop := loopAt Tryz.prog 40 4 = loopAt Tryz.prog 40 4 ∧ (Ir40 c n [] 0 heapF = Ir40 c n [] 0 heapF ∧ (0 : Int) = (0 : Int) ∧ n ≤ (255 : Int) ∧ (c = 32 ∨ c = 48) ∧ true = true) ∧ ∀ x : List UInt8 × Heap, x.1 = timesF c n → K (aStr x.1)
theorem rc40 (c n : Int) (K : AV → Prop) (h : R40 c n K) : wpCall Kt Door.cfg Tryz.prog 40 40 [aK .u8 c, aK .i64 n] heapF fun r h' => wpBack h' r K := Eq.mp (by kernel_rfl) h
def P67 (b m n : Int) (t : List UInt8) (K : AV → Prop) : Prop :=
 iteP (decide (n < b)) (iteP (decide ((0 : Int) ≤ n) && (decide (n ≤ IntKind.i64.wrap (n + 1)) && decide (IntKind.i64.wrap (n + 1) ≤ (t.length : Int)))) (K (aStr (cutL t n (IntKind.i64.wrap (n + 1))))) False)
  ((pre67 (IntKind.i64.wrap (n.tdiv b)) b t ∧ IntKind.i64.wrap (n.tdiv b) < m) ∧ ∀ x : List UInt8, x = basedF t b.toNat (IntKind.i64.wrap (n.tdiv b)).toNat →
   iteP (decide ((0 : Int) ≤ n.tmod b) && (decide (n.tmod b ≤ IntKind.i64.wrap (n.tmod b + 1)) && decide (IntKind.i64.wrap (n.tmod b + 1) ≤ (t.length : Int))))
    (iteP (strFits x (cutL t (n.tmod b) (IntKind.i64.wrap (n.tmod b + 1)))) (K (aStr (x ++ cutL t (n.tmod b) (IntKind.i64.wrap (n.tmod b + 1))))) False) False)
theorem rc67_8 (m n : Int) (t : List UInt8) (K : AV → Prop) (h : P67 8 m n t K) : wpCall (Kb m) Door.cfg Tryz.prog 40 67 [aK .i64 n, aK .i64 8, aStr t] heapF fun r h' => wpBack h' r K := Eq.mp (by kernel_rfl) h
theorem rc67_10 (m n : Int) (t : List UInt8) (K : AV → Prop) (h : P67 10 m n t K) : wpCall (Kb m) Door.cfg Tryz.prog 40 67 [aK .i64 n, aK .i64 10, aStr t] heapF fun r h' => wpBack h' r K := Eq.mp (by kernel_rfl) h
theorem rc67_16 (m n : Int) (t : List UInt8) (K : AV → Prop) (h : P67 16 m n t K) : wpCall (Kb m) Door.cfg Tryz.prog 40 67 [aK .i64 n, aK .i64 16, aStr t] heapF fun r h' => wpBack h' r K := Eq.mp (by kernel_rfl) h
theorem rc62 (d : Int) (K : AV → Prop) (h :
 iteP (decide (d < (-10000000000000 : Int))) (K (AV.sc (Value.int IntKind.i64 (-10000000000000 : Int))))
 (iteP (decide ((10000000000000 : Int) < d)) (K (AV.sc (Value.int IntKind.i64 (10000000000000 : Int))))
 (K (AV.sc (Value.int IntKind.i64 d))))) :
 (fun (d : Int) (K : AV → Prop) => wpCall tab0 Door.cfg Tryz.prog 40 62 [aK .i64 d] heapF fun r h' => wpBack h' r K) d K :=
 Eq.mp (by kernel_rfl) h
theorem rc87 (d : Int) (K : AV → Prop) (h :
 iteP (decide (d < (0 : Int))) (K (AV.sc (Value.int IntKind.i64 (IntKind.i64.wrap ((0 : Int) - d)))))
 (K (AV.sc (Value.int IntKind.i64 d)))) :
 (fun (d : Int) (K : AV → Prop) => wpCall tab0 Door.cfg Tryz.prog 40 87 [aK .i64 d] heapF fun r h' => wpBack h' r K) d K :=
 Eq.mp (by kernel_rfl) h
def u66 (u d : Int) (K : AV → Prop) : Prop :=
 True ∧ ∀ x : Int, x = nearF d → ((-10000000000000 : Int) ≤ x ∧ x ≤ (10000000000000 : Int)) ∧ ∀ y : Int, y = ((x.natAbs : Nat) : Int) →
  iteP (decide (x < (0 : Int))) (K (aK .i64 (IntKind.i64.wrap (0 - IntKind.i64.wrap (IntKind.i64.wrap ((IntKind.i64.wrap (y + u / 2)).tdiv u) * u))))) (K (aK .i64 (IntKind.i64.wrap (IntKind.i64.wrap ((IntKind.i64.wrap (y + u / 2)).tdiv u) * u))))
def P66 (d p : Int) (K : AV → Prop) : Prop :=
 iteP (decide ((0 : Int) < p)) (iteP (decide ((1 : Int) < p)) (iteP (decide ((2 : Int) < p)) (iteP (decide ((3 : Int) < p)) (iteP (decide ((4 : Int) < p)) (u66 1 d K) (u66 1 d K)) (u66 10 d K)) (u66 100 d K)) (u66 1000 d K)) (u66 10000 d K)
theorem rc66 (d p : Int) (K : AV → Prop) (h : P66 d p K) : wpCall Ku Door.cfg Tryz.prog 40 66 [aK .i64 d, aK .i64 p] heapF fun r h' => wpBack h' r K := Eq.mp (by kernel_rfl) h
end
end Go.Proofs.Pr
namespace Go.Proofs.Pr
open Go Go.Ef
noncomputable section
set_option maxRecDepth 100000
def T10 : List UInt8 := [48, 49, 50, 51, 52, 53, 54, 55, 56, 57]
def T8 : List UInt8 := [48, 49, 50, 51, 52, 53, 54, 55]
def T16 : List UInt8 := [48, 49, 50, 51, 52, 53, 54, 55, 56, 57, 97, 98, 99, 100, 101, 102]
def T16U : List UInt8 := [48, 49, 50, 51, 52, 53, 54, 55, 56, 57, 65, 66, 67, 68, 69, 70]
def zsP (n : Int) (H : List UInt8 → Prop) : Prop := (((48 : Int) = 32 ∨ (48 : Int) = 48) ∧ n ≤ 255) ∧ ∀ z : List UInt8, z = timesF 48 n → H z
def bsP (n b : Int) (t : List UInt8) (H : List UInt8 → Prop) : Prop := pre67 n b t ∧ ∀ y : List UInt8, y = basedF t b.toNat n.toNat → H y
def sgP (d : Dir) (q : Bool) (H : List UInt8 → Prop) : Prop := iteP q (H [45]) (iteP d.plus (H [43]) (iteP d.space (H [32]) (H [])))
def itE (p : Int) (x y : List UInt8) (K : AV → Prop) : Prop := zsP (IntKind.i64.wrap (p - (y.length : Int))) fun z => iteP (strFits z y) (K (.tup [aStr x, aStr (z ++ y)])) False
def itT (p n : Int) (x y : List UInt8) (K : AV → Prop) : Prop := iteP (n == 0) (iteP (p == 0) (itE p x [] K) (itE p x y K)) (itE p x y K)
def absW (n : Int) : Int := max n (IntKind.i64.wrap (0 - n))
def itD (d : Dir) (n : Int) (K : AV → Prop) (q : Bool) : Prop := sgP d q fun x => bsP (absW n) 10 T10 fun y => itT d.prec n x y K
def itO (k p n m : Int) (K : AV → Prop) : Prop :=
 iteP (k == 111) (bsP m 8 T8 fun y => itT p n [] y K) (iteP (k == 120) (bsP m 16 T16 fun y => itT p n [] y K) (iteP (k == 88) (bsP m 16 T16U fun y => itT p n [] y K) (bsP m 10 T10 fun y => itT p n [] y K)))
def P45 (d : Dir) (n : Int) (K : AV → Prop) : Prop :=
 iteP (d.kind == 100) (iteP (decide (n < 0)) (itD d n K true) (itD d n K false)) (iteP (d.kind == 105) (iteP (decide (n < 0)) (itD d n K true) (itD d n K false))
  (iteP (decide (n < 0)) (itO d.kind d.prec n (IntKind.i64.wrap (n + 4294967296)) K) (itO d.kind d.prec n n K)))
theorem rc45 (a b c e : Bool) (w p k n : Int) (K : AV → Prop) (h : P45 ⟨a, b, c, e, w, p, k⟩ n K) : wpCall Ki Door.cfg Tryz.prog 40 45 [.agg [aBool a, aBool b, aBool c, aBool e, aK .i64 w, aK .i64 p, aK .u8 k], aK .i64 n] heapF fun r h' => wpBack h' r K := Eq.mp (by kernel_rfl) h
def deE (d : Dir) (x r : Int) (y : List UInt8) (K : AV → Prop) : Prop :=
 iteP (decide (x < 0)) (iteP (r != 0) (sgP d true fun s => K (.tup [aStr s, aStr y])) (sgP d false fun s => K (.tup [aStr s, aStr y]))) (sgP d false fun s => K (.tup [aStr s, aStr y]))
def deP (d : Dir) (x q : Int) (K : AV → Prop) : Prop :=
 True ∧ ∀ r : Int, r = roundF x q → bsP (IntKind.i64.wrap ((absW r).tdiv 10000)) 10 T10 fun u => iteP (decide (0 < q))
  (bsP ((absW r).tmod 10000) 10 T10 fun v => zsP (IntKind.i64.wrap (4 - (v.length : Int))) fun z => iteP (strFits z v) (zsP (IntKind.i64.wrap (q - 4)) fun z2 => iteP (strFits (z ++ v) z2) (iteP (strFits u [46])
   (iteP (decide (0 ≤ q) && decide (q ≤ ((z ++ v ++ z2).length : Int))) (iteP (strFits (u ++ [46]) (List.take q.toNat (z ++ v ++ z2))) (deE d x r (u ++ [46] ++ List.take q.toNat (z ++ v ++ z2)) K) False) False) False) False) False)
  (deE d x r u K)
def P44 (d : Dir) (x : Int) (K : AV → Prop) : Prop := iteP (decide (d.prec < 0)) (deP d x 6 K) (deP d x d.prec K)
theorem rc44 (a b c e : Bool) (w p k x : Int) (K : AV → Prop) (h : P44 ⟨a, b, c, e, w, p, k⟩ x K) : wpCall Ki Door.cfg Tryz.prog 40 44 [.agg [aBool a, aBool b, aBool c, aBool e, aK .i64 w, aK .i64 p, aK .u8 k], aK .i64 x] heapF fun r h' => wpBack h' r K := Eq.mp (by kernel_rfl) h
end
end Go.Proofs.Pr
namespace Go.Proofs.Pr
open Go Go.Ef
noncomputable section
set_option maxRecDepth 100000
theorem canr40 (c n : Int) (s : List UInt8) (i : Int) (h : Heap) : (Ir40 c n s i h).tidy [0, 1, 5, 6] 0 = Ir40 c n s i h := by kernel_rfl
theorem okKt0 : TabOk Tryz.prog Door.cfg Kt0 := idle_ok tab0_ok _
theorem loopr40 (c n : Int) (_ : c = 32 ∨ c = 48) (hn : n ≤ 255) : ∀ (f i : Nat) (h : Heap), (n - i).toNat = f → (i : Int) ≤ max n 0 →
  Ev Door.cfg Tryz.prog 40 (.loop (loopAt Tryz.prog 40 4)) (Ir40 c n (List.replicate i (UInt8.ofNat c.toNat)) i h) fun e τ => e = .exit 0 ∧ ∃ h', τ = Er40 (timesF c n) h' := by
 have hb : bC c = [UInt8.ofNat c.toNat] := rfl
 intro f
 induction f with
 | zero =>
  intro i h hf hi
  have hs : List.replicate i (UInt8.ofNat c.toNat) = timesF c n := by unfold timesF; congr 1; omega
  refine Ev.round (t := ⟨[0, 1, 5, 6], [5], 0⟩) okKt0 (by kernel_rfl) rfl (canr40 _ _ _ _ _) (rv40 c n _ i h (fun _ _ => False) (fun e v => e = .exit 0 ∧ v = timesF c n) ?_) (fun τ h => h.2.elim) (fun e τ h => ?_)
  ·unfold P40
   rw [decide_eq_false (by omega), iteP_f]
   exact ⟨rfl, rfl, hs⟩
  ·obtain ⟨e1, e2, e3⟩ := h
   exact ⟨e2, _, by rw [e1, e3]⟩
 | succ f ih =>
  intro i h hf hi
  have hw : IntKind.i64.wrap ((i : Int) + 1) = ((i + 1 : Nat) : Int) := by rw [wrap_in (by omega) (by omega)]; rfl
  refine Ev.round (t := ⟨[0, 1, 5, 6], [5], 0⟩) okKt0 (by kernel_rfl) rfl (canr40 _ _ _ _ _) (rv40 c n _ i h (fun v j => v = List.replicate (i + 1) (UInt8.ofNat c.toNat) ∧ j = ((i + 1 : Nat) : Int)) (fun _ _ => False) ?_) (fun τ h => ?_) (fun e τ h => h.2.elim)
  ·unfold P40
   rw [decide_eq_true (by omega), iteP_t, hb, fits_sm2 (by rw [List.length_replicate]; omega) (Nat.le_trans (Nat.le_refl 1) (by decide)), iteP_t, hw]
   exact ⟨rfl, (List.replicate_succ' ..).symm, rfl⟩
  ·obtain ⟨e1, e2, e3⟩ := h
   rw [e1, e2, e3]
   exact ih (i + 1) (hOwn _) (by omega) (by omega)
theorem okKt : TabOk Tryz.prog Door.cfg Kt := by
 refine idle_ok (addL_ok tab0_ok fun σ s hs hp => ?_) _
 unfold Lr40 at hs
 split at hs
 ·rename_i c n s0 i _ _ _ _
  refine lspec_ok (Option.some.inj hs) (fun hpre => ?_) hp
  obtain ⟨e, rfl, h1, h2, h3⟩ := hpre
  have h3' : s0.data.toList = [] := by simpa using h3
  refine Ev.tidied (t := ⟨[0, 1, 5, 6], [5], 0⟩) (τ := Ir40 c n [] 0 heapF) (by kernel_rfl) (by rw [e, h3']; exact (canr40 _ _ _ _ _).symm) ?_
  exact (loopr40 c n h2 h1 _ 0 heapF rfl (by omega)).mono fun ex τ ⟨q1, h', q2⟩ => ⟨(timesF c n, h'), rfl, q1, q2⟩
 ·cases hs
theorem okr40 {T : Tab} (O : TabOk Tryz.prog Door.cfg T) : TabOk Tryz.prog Door.cfg (T.addC 40 Cr40) := by
 refine addC_ok O fun args h s hs hp => ?_
 unfold Cr40 at hs
 split at hs
 ·rename_i c n
  refine nspec_ok (Option.some.inj hs) (fun hpre => ?_) hp
  obtain ⟨h1, h2⟩ := hpre
  exact EvP.freshV okKt (n := 40) (by kernel_rfl) (by kernel_rfl) (args' := [aK .u8 c, aK .i64 n]) rfl (rc40 c n _ ⟨rfl, ⟨rfl, rfl, h2, h1, rfl⟩, fun x hx => by rw [hx]⟩)
 ·cases hs
theorem basedL_acc (t : List UInt8) (b : Nat) : ∀ (f n : Nat) (acc : List UInt8), basedL t b f n acc = basedL t b f n [] ++ acc := by
 intro f
 induction f with
 | zero => intro n acc; rfl
 | succ f ih =>
  intro n acc
  unfold basedL
  split
  ·rfl
  ·rw [ih (n / b) (byteL t (n % b) :: acc), ih (n / b) [byteL t (n % b)]]; simp
theorem basedL_fuel {t : List UInt8} {b : Nat} (hb : 2 ≤ b) : ∀ (f g n : Nat) (acc : List UInt8), n < b ^ (f + 1) → f ≤ g → basedL t b (f + 1) n acc = basedL t b (g + 1) n acc := by
 intro f
 induction f with
 | zero =>
  intro g n acc hn _
  have hn : n < b := by simpa using hn
  show (if n < b then _ else _) = (if n < b then _ else _)
  rw [if_pos hn, if_pos hn]
 | succ f ih =>
  intro g n acc hn hg
  obtain ⟨g, rfl⟩ : ∃ g', g = g' + 1 := ⟨g - 1, by omega⟩
  show (if n < b then _ else basedL t b (f + 1) _ _) = (if n < b then _ else basedL t b (g + 1) _ _)
  by_cases h : n < b
  ·rw [if_pos h, if_pos h]
  ·rw [if_neg h, if_neg h]
   exact ih g _ _ (by rw [Nat.div_lt_iff_lt_mul (by omega)]; simpa [Nat.pow_succ] using hn) (by omega)
theorem basedF_low {t : List UInt8} {b n : Nat} (h : n < b) : basedF t b n = [byteL t n] := by
 show (if n < b then _ else _) = _
 rw [if_pos h]
theorem basedF_step {t : List UInt8} {b n : Nat} (hb : 2 ≤ b) (h : ¬ n < b) (hn : n ≤ 4294967296) : basedF t b n = basedF t b (n / b) ++ [byteL t (n % b)] := by
 have h1 : basedF t b n = basedL t b 69 (n / b) [byteL t (n % b)] := by
  show (if n < b then _ else _) = _
  rw [if_neg h]
 have hp : (2 : Nat) ^ 69 ≤ b ^ 69 := Nat.pow_le_pow_left hb 69
 have hl : n / b < b ^ 69 := Nat.lt_of_le_of_lt (Nat.div_le_self _ _) (Nat.lt_of_lt_of_le (Nat.lt_of_le_of_lt hn (by decide)) hp)
 rw [h1, basedL_acc]
 congr 1
 exact basedL_fuel hb 68 69 _ [] hl (by decide)
theorem based_map {t : List UInt8} {b : Nat} {g : UInt8 → UInt8} (hb : 0 < b) (ht : ∀ k, k < b → byteL t k = g (digitC k)) : ∀ (f n : Nat) (acc : List UInt8), basedL t b f n (acc.map g) = (digitsL b f n acc).map g := by
 intro f
 induction f with
 | zero => intro n acc; rfl
 | succ f ih =>
  intro n acc
  show (if n < b then _ else _) = (if n < b then _ else _ : List UInt8).map g
  by_cases h : n < b
  ·rw [if_pos h, if_pos h, List.map_cons, ht n h]
  ·rw [if_neg h, if_neg h, ht _ (Nat.mod_lt _ hb), ← ih, List.map_cons]
theorem based_10 (n : Nat) : basedF T10 10 n = fmtN 10 n := by
 have := based_map (t := T10) (b := 10) (g := id) (by decide) (fun k hk => by
  have : ∀ k ∈ List.range 10, byteL T10 k = id (digitC k) := by decide +kernel
  exact this k (by simp [hk])) 70 n []
 rw [List.map_nil, List.map_id] at this
 exact this
theorem based_8 (n : Nat) : basedF T8 8 n = fmtN 8 n := by
 have := based_map (t := T8) (b := 8) (g := id) (by decide) (fun k hk => by
  have : ∀ k ∈ List.range 8, byteL T8 k = id (digitC k) := by decide +kernel
  exact this k (by simp [hk])) 70 n []
 rw [List.map_nil, List.map_id] at this
 exact this
theorem based_16 (n : Nat) : basedF T16 16 n = fmtN 16 n := by
 have := based_map (t := T16) (b := 16) (g := id) (by decide) (fun k hk => by
  have : ∀ k ∈ List.range 16, byteL T16 k = id (digitC k) := by decide +kernel
  exact this k (by simp [hk])) 70 n []
 rw [List.map_nil, List.map_id] at this
 exact this
theorem based_16U (n : Nat) : basedF T16U 16 n = (fmtN 16 n).map upC := based_map (t := T16U) (b := 16) (g := upC) (by decide) (fun k hk => by
  have : ∀ k ∈ List.range 16, byteL T16U k = upC (digitC k) := by decide +kernel
  exact this k (by simp [hk])) 70 n []
theorem cut_one {t : List UInt8} {k : Nat} (h : k < t.length) : cutL t (k : Int) ((k : Int) + 1) = [byteL t k] := by
 have : cutL t (k : Int) ((k : Int) + ((1 : Nat) : Int)) = (t.drop k).take 1 := take_cut t k 1
 rw [show ((k : Int) + 1) = (k : Int) + ((1 : Nat) : Int) from rfl, this, List.drop_eq_getElem_cons h]
 unfold byteL
 rw [List.getElem?_eq_getElem h]; rfl
theorem based_len (t : List UInt8) (b : Nat) : ∀ (f n : Nat) (acc : List UInt8), (basedL t b f n acc).length ≤ f + acc.length := by
 intro f
 induction f with
 | zero => intro n acc; simp [basedL]
 | succ f ih =>
  intro n acc
  unfold basedL
  split
  ·simp; omega
  ·have := ih (n / b) (byteL t (n % b) :: acc)
   simp at this
   omega
theorem p67 {b : Nat} (hb : 2 ≤ b) (hb16 : b ≤ 16) {m n : Int} {t : List UInt8} (hp : pre67 n b t) (hn : n ≤ m) : P67 b m n t fun v => v = aStr (basedF t b n.toNat) := by
 obtain ⟨h0, h1, _, _, hl, h8⟩ := hp
 obtain ⟨k, rfl⟩ := Int.eq_ofNat_of_zero_le h0
 have hl : t.length = b := by omega
 unfold P67
 have h16 : (b : Int) ≤ 16 := by omega
 have e1 : IntKind.i64.wrap ((k : Int) + 1) = (k : Int) + 1 := wrap_in (by omega) (by omega)
 have et : (k : Int).tmod (b : Int) = ((k % b : Nat) : Int) := rfl
 have ed : (k : Int).tdiv (b : Int) = ((k / b : Nat) : Int) := rfl
 have hlt : k % b < b := Nat.mod_lt _ (by omega)
 have e2 : IntKind.i64.wrap (((k % b : Nat) : Int) + 1) = ((k % b : Nat) : Int) + 1 := wrap_in (by omega) (by omega)
 have hdl : k / b ≤ k := Nat.div_le_self _ _
 generalize hq : k / b = q at *
 have e3 : IntKind.i64.wrap ((q : Nat) : Int) = ((q : Nat) : Int) := wrap_in (by omega) (by omega)
 rw [e1, et, ed, e2, e3, Int.toNat_natCast]
 by_cases h : k < b
 ·rw [decide_eq_true (show (k : Int) < (b : Int) by omega), iteP_t]
  rw [show (decide ((0 : Int) ≤ (k : Int)) && (decide ((k : Int) ≤ (k : Int) + 1) && decide ((k : Int) + 1 ≤ (t.length : Int)))) = true by simp; omega, iteP_t, cut_one (by omega), basedF_low h]
 ·rw [decide_eq_false (show ¬ (k : Int) < (b : Int) by omega), iteP_f]
  have hlt2 : q < k := hq ▸ Nat.div_lt_self (by omega) hb
  refine ⟨⟨⟨by omega, by omega, by omega, by omega, by omega, h8⟩, by omega⟩, fun x hx => ?_⟩
  rw [Int.toNat_natCast, Int.toNat_natCast] at hx
  have hxl : x.length ≤ 70 := by rw [hx]; have := based_len t b 70 q []; simpa [basedF] using this
  rw [show (decide ((0 : Int) ≤ ((k % b : Nat) : Int)) && (decide (((k % b : Nat) : Int) ≤ ((k % b : Nat) : Int) + 1) && decide (((k % b : Nat) : Int) + 1 ≤ (t.length : Int)))) = true by rw [decide_eq_true (by omega), decide_eq_true (by omega), decide_eq_true (by omega)]; rfl, iteP_t, cut_one (by omega), fits_sm2 (by omega) (Nat.le_trans (Nat.le_refl 1) (by decide)), iteP_t, basedF_step hb h (by omega), hx, hq]
theorem okKb : ∀ m : Nat, TabOk Tryz.prog Door.cfg (Kb m) := by
 intro m
 induction m with
 | zero =>
  refine addC_ok tab0_ok fun args h s hs hp => ?_
  unfold Cr67m at hs
  split at hs
  ·refine nspec_ok (Option.some.inj hs) (fun hpre => ?_) hp
   have := hpre.1.1
   have := hpre.2
   omega
  ·cases hs
 | succ m ih =>
  refine addC_ok tab0_ok fun args h s hs hp => ?_
  unfold Cr67m at hs
  split at hs
  ·rename_i n b t0
   obtain ⟨⟨t⟩⟩ := t0
   refine nspec_ok (Option.some.inj hs) (fun hpre => ?_) hp
   obtain ⟨hp67, hlt⟩ := hpre
   obtain ⟨b, rfl⟩ := Int.eq_ofNat_of_zero_le (show 0 ≤ b by have := hp67.2.2.1; omega)
   have hbs : b = 8 ∨ b = 10 ∨ b = 16 := by have := hp67.2.2.2.2.2; omega
   have P := fun hb hb16 => p67 (b := b) hb hb16 (m := m) (n := n) (t := t) hp67 (by omega)
   rcases hbs with rfl | rfl | rfl
   ·exact EvP.freshV ih (n := 40) (by kernel_rfl) (by kernel_rfl) (args' := [aK .i64 n, aK .i64 8, aStr t]) rfl (rc67_8 m n t _ (P (by decide) (by decide)))
   ·exact EvP.freshV ih (n := 40) (by kernel_rfl) (by kernel_rfl) (args' := [aK .i64 n, aK .i64 10, aStr t]) rfl (rc67_10 m n t _ (P (by decide) (by decide)))
   ·exact EvP.freshV ih (n := 40) (by kernel_rfl) (by kernel_rfl) (args' := [aK .i64 n, aK .i64 16, aStr t]) rfl (rc67_16 m n t _ (P (by decide) (by decide)))
  ·cases hs
end
end Go.Proofs.Pr
namespace Go.Proofs.Pr
open Go Go.Ef
noncomputable section
def okS (s : List UInt8) : Prop := checkF (s.length + 1) s = 0
theorem check_succ (n : Nat) (s : List UInt8) : checkF (n + 1) s = if hasPct s then (if (readF (after s)).2.2 = 0 then checkF n (readF (after s)).2.1 else (readF (after s)).2.2) else 0 := rfl
theorem okS_step {s : List UInt8} (h : okS s) (hp : hasPct s = true) : (readF (after s)).2.2 = 0 ∧ okS (restAt s) ∧ (restAt s).length < s.length := by
 unfold okS at h
 rw [check_succ, hp, if_pos rfl] at h
 by_cases h0 : (readF (after s)).2.2 = 0
 ·rw [if_pos h0] at h
  have l := rest_len hp h0
  refine ⟨h0, ?_, by omega⟩
  unfold okS
  rw [← h]
  exact checkF_more _ _ (by omega) _ (by show (restAt s).length < s.length; omega)
 ·rw [if_neg h0] at h; exact absurd h h0
theorem run_eq (n : Nat) (s : List UInt8) (l : Cells) (o : List UInt8) : runF (n + 1) s l o = if hasPct s then (if (resAt s l).2.1 = 0 then (if (resAt s l).1.kind = 37 then runF n (restAt s) (resAt s l).2.2 (o ++ before s ++ padF (resAt s l).1 [] [37]) else runF n (restAt s) ((resAt s l).2.2.drop 1) (o ++ before s ++ padF (resAt s l).1 (bodyAt (resAt s l)).1 (bodyAt (resAt s l)).2)) else ((resAt s l).2.1, (resAt s l).2.2, o ++ before s)) else (0, l, o ++ s) := rfl
theorem run_more : ∀ (n : Nat) (s : List UInt8), s.length < n → okS s → ∀ (m : Nat), s.length < m → ∀ l o, runF n s l o = runF m s l o := by
 intro n
 induction n with
 | zero => intro s h; omega
 | succ n ih =>
  intro s h hs m hm l o
  cases m with
  | zero => omega
  | succ m =>
   rw [run_eq, run_eq]
   cases hp : hasPct s with
   | false => rfl
   | true =>
    obtain ⟨_, h2, h3⟩ := okS_step hs hp
    rw [if_pos rfl, if_pos rfl, ih (restAt s) (by omega) h2 m (by omega), ih (restAt s) (by omega) h2 m (by omega)]
def R (s : List UInt8) (l : Cells) (o : List UInt8) : Int × Cells × List UInt8 := runF (s.length + 1) s l o
theorem R_eq {s : List UInt8} (h : okS s) (l : Cells) (o : List UInt8) : R s l o = if hasPct s then (if (resAt s l).2.1 = 0 then (if (resAt s l).1.kind = 37 then R (restAt s) (resAt s l).2.2 (o ++ before s ++ padF (resAt s l).1 [] [37]) else R (restAt s) ((resAt s l).2.2.drop 1) (o ++ before s ++ padF (resAt s l).1 (bodyAt (resAt s l)).1 (bodyAt (resAt s l)).2)) else ((resAt s l).2.1, (resAt s l).2.2, o ++ before s)) else (0, l, o ++ s) := by
 unfold R
 rw [run_eq]
 cases hp : hasPct s with
 | false => rfl
 | true =>
  obtain ⟨_, h2, h3⟩ := okS_step h hp
  rw [if_pos rfl, if_pos rfl, run_more s.length (restAt s) h3 h2 ((restAt s).length + 1) (by omega), run_more s.length (restAt s) h3 h2 ((restAt s).length + 1) (by omega)]
end
end Go.Proofs.Pr
namespace Go.Proofs.Pr
open Go Go.Ef
noncomputable section
set_option maxRecDepth 100000
theorem v34 (s : List UInt8) (a : Int) (l : Int) (n : Int) (k : Int) (N : Int → Int → Prop) (X : Ex → Int → Int → Prop) (h :
 iteP (decide (k < (↑s.length : Int))) (iteP (inRange k s.length) (iteP (decide (48 ≤ byteAt s k)) (iteP (inRange k s.length) (iteP (decide (byteAt s k ≤ 57)) (iteP (decide (a < k)) (iteP (inRange k s.length) (I34 s a l (min (IntKind.i64.wrap (IntKind.i64.wrap (10 * max n 0) + IntKind.i64.wrap (IntKind.u8.wrap (byteAt s k - 48)))) 256) (IntKind.i64.wrap (k + 1)) = I34 s a l (min (IntKind.i64.wrap
 (IntKind.i64.wrap (10 * max n 0) + IntKind.i64.wrap (IntKind.u8.wrap (byteAt s k - 48)))) 256) (IntKind.i64.wrap (k + 1)) ∧ N (min (IntKind.i64.wrap (IntKind.i64.wrap (10 * max n 0) + IntKind.i64.wrap (IntKind.u8.wrap (byteAt s k - 48)))) 256) (IntKind.i64.wrap (k + 1))) False) (iteP (inRange k s.length) (iteP (decide (l ≤ byteAt s k)) (iteP (inRange k s.length) (I34 s a l (min (IntKind.i64.wrap
 (IntKind.i64.wrap (10 * max n 0) + IntKind.i64.wrap (IntKind.u8.wrap (byteAt s k - 48)))) 256) (IntKind.i64.wrap (k + 1)) = I34 s a l (min (IntKind.i64.wrap (IntKind.i64.wrap (10 * max n 0) + IntKind.i64.wrap (IntKind.u8.wrap (byteAt s k - 48)))) 256) (IntKind.i64.wrap (k + 1)) ∧ N (min (IntKind.i64.wrap (IntKind.i64.wrap (10 * max n 0) + IntKind.i64.wrap (IntKind.u8.wrap (byteAt s k - 48)))) 256)
 (IntKind.i64.wrap (k + 1))) False) (J34 n k = J34 n k ∧ X (Ex.exit 0) n k)) False)) (J34 n k = J34 n k ∧ X (Ex.exit 0) n k)) False) (J34 n k = J34 n k ∧ X (Ex.exit 0) n k)) False) (J34 n k = J34 n k ∧ X (Ex.exit 0) n k)) :
 (fun (s : List UInt8) (a l n k : Int) (N : Int → Int → Prop) (X : Ex → Int → Int → Prop) => wpRound tab0 Door.cfg Tryz.prog 40 38 5 (I34 s a l n k) (fun τ => τ = I34 s a l (slI τ 8) (slI τ 9) ∧ N (slI τ 8) (slI τ 9)) (fun e τ => τ = J34 (slI τ 8) (slI τ 9) ∧ X e (slI τ 8) (slI τ 9))) s a l n k N X :=
 Eq.mp (by kernel_rfl) h
theorem v33 (s : List UInt8) (c : Int) (k : Int) (N : Int → Prop) (X1 : Bool → Prop) (X2 : Ex → Prop) (h :
 iteP (decide (k < (↑s.length : Int))) (iteP (inRange k s.length) (iteP (byteAt s k == c) (J33 true = J33 true ∧ X1 true) (I33 s c (IntKind.i64.wrap (k + 1)) = I33 s c (IntKind.i64.wrap (k + 1)) ∧ N (IntKind.i64.wrap (k + 1)))) False) (stOf 17 [(4, Slot.unk)] [] { next := 1, objs := Tr.leaf, ro := 1, ty := Tr.leaf } = stOf 17 [(4, Slot.unk)] []
 { next := 1, objs := Tr.leaf, ro := 1, ty := Tr.leaf } ∧ X2 (Ex.exit 0))) :
 (fun (s : List UInt8) (c k : Int) (N : Int → Prop) (X1 : Bool → Prop) (X2 : Ex → Prop) => wpRound tab0 Door.cfg Tryz.prog 40 37 3 (I33 s c k) (fun τ => τ = I33 s c (slI τ 5) ∧ N (slI τ 5)) (fun e τ => match e with | .ret => τ = J33 (slB τ 4) ∧ X1 (slB τ 4) | e => τ = stOf 17 [(4, .unk)] [] heapF ∧ X2 e)) s c k N X1 X2 :=
 Eq.mp (by kernel_rfl) h
theorem c34 (s : List UInt8) (a : Int) (l : Int) (K : AV → Prop) (h :
 iteP (decide (a < (↑s.length : Int))) (iteP (inRange a s.length) (iteP (byteAt s a == 42) (K (AV.tup [AV.sc (Value.int IntKind.i64 (-2)), AV.sc (Value.int IntKind.i64 (IntKind.i64.wrap (a + 1)))])) (loopAt Tryz.prog 38 5 = loopAt Tryz.prog 38 5 ∧ (I34 s a l (-1) a = I34 s a l (-1) a ∧ (-1 : Int) = -1 ∧ a = a ∧ 0 ≤ a ∧ a ≤ (↑s.length : Int) ∧ s.length ≤ 1000000) ∧ ∀ (x : Int × Int), 0 ≤ x.snd ∧
 x.snd ≤ (↑s.length : Int) ∧ numA l (List.drop a.toNat s) (-1) = (x.fst, List.drop x.snd.toNat s) → K (AV.tup [AV.sc (Value.int IntKind.i64 x.fst), AV.sc (Value.int IntKind.i64 x.snd)]))) False) (loopAt Tryz.prog 38 5 = loopAt Tryz.prog 38 5 ∧ (I34 s a l (-1) a = I34 s a l (-1) a ∧ (-1 : Int) = -1 ∧ a = a ∧ 0 ≤ a ∧ a ≤ (↑s.length : Int) ∧ s.length ≤ 1000000) ∧ ∀ (x : Int × Int), 0 ≤ x.snd ∧
 x.snd ≤ (↑s.length : Int) ∧ numA l (List.drop a.toNat s) (-1) = (x.fst, List.drop x.snd.toNat s) → K (AV.tup [AV.sc (Value.int IntKind.i64 x.fst), AV.sc (Value.int IntKind.i64 x.snd)]))) :
 (fun (s : List UInt8) (a l : Int) (K : AV → Prop) => wpCall R1 Door.cfg Tryz.prog 40 38 [aStr s, aK .i64 a, aK .u8 l] heapF fun r h' => wpBack h' r K) s a l K :=
 Eq.mp (by kernel_rfl) h
theorem c33 (s : List UInt8) (c : Int) (K : AV → Prop) (h :
 loopAt Tryz.prog 37 3 = loopAt Tryz.prog 37 3 ∧ (I33 s c 0 = I33 s c 0 ∧ (0 : Int) = 0 ∧ s.length ≤ 1000000) ∧ (∀ (_ : Unit), (s.any fun (c_1 : UInt8) => decide ((↑c_1.toNat : Int) = c)) = true → K (AV.sc (Value.bool true))) ∧ ∀ (_ : Unit), (s.any fun (c_1 : UInt8) => decide ((↑c_1.toNat : Int) = c)) = false → K (AV.sc (Value.bool false))) :
 (fun (s : List UInt8) (c : Int) (K : AV → Prop) => wpCall R1 Door.cfg Tryz.prog 40 37 [aStr s, aK .u8 c] heapF fun r h' => wpBack h' r K) s c K :=
 Eq.mp (by kernel_rfl) h
theorem v20 (s : List UInt8) (a : Int) (d : Dir) (N : Int → Dir → Prop) (X : Ex → Int → Dir → Prop) (h :
    iteP (decide (a < (↑s.length : Int)))
  (iteP (inRange a s.length)
    (Nat.le (4 : Nat) (1000000 : Nat) ∧
      ∀ (x : Bool),
        (x =
            [(45 : UInt8), (48 : UInt8), (43 : UInt8), (32 : UInt8)].any fun (b : UInt8) =>
              decide ((↑b.toNat : Int) = byteAt s a)) →
          iteP x
            (iteP (inRange a s.length)
              (iteP (byteAt s a == (45 : Int))
                (I20 s (IntKind.i64.wrap (a + (1 : Int)))
                      { minus := true, zero := d.zero, plus := d.plus, space := d.space, width := d.width,
                        prec := d.prec, kind := d.kind } =
                    I20 s (IntKind.i64.wrap (a + (1 : Int)))
                      { minus := true, zero := d.zero, plus := d.plus, space := d.space, width := d.width,
                        prec := d.prec, kind := d.kind } ∧
                  N (IntKind.i64.wrap (a + (1 : Int)))
                    { minus := true, zero := d.zero, plus := d.plus, space := d.space, width := d.width, prec := d.prec,
                      kind := d.kind })
                (iteP (byteAt s a == (48 : Int))
                  (I20 s (IntKind.i64.wrap (a + (1 : Int)))
                        { minus := d.minus, zero := true, plus := d.plus, space := d.space, width := d.width,
                          prec := d.prec, kind := d.kind } =
                      I20 s (IntKind.i64.wrap (a + (1 : Int)))
                        { minus := d.minus, zero := true, plus := d.plus, space := d.space, width := d.width,
                          prec := d.prec, kind := d.kind } ∧
                    N (IntKind.i64.wrap (a + (1 : Int)))
                      { minus := d.minus, zero := true, plus := d.plus, space := d.space, width := d.width,
                        prec := d.prec, kind := d.kind })
                  (iteP (byteAt s a == (43 : Int))
                    (I20 s (IntKind.i64.wrap (a + (1 : Int)))
                          { minus := d.minus, zero := d.zero, plus := true, space := d.space, width := d.width,
                            prec := d.prec, kind := d.kind } =
                        I20 s (IntKind.i64.wrap (a + (1 : Int)))
                          { minus := d.minus, zero := d.zero, plus := true, space := d.space, width := d.width,
                            prec := d.prec, kind := d.kind } ∧
                      N (IntKind.i64.wrap (a + (1 : Int)))
                        { minus := d.minus, zero := d.zero, plus := true, space := d.space, width := d.width,
                          prec := d.prec, kind := d.kind })
                    (I20 s (IntKind.i64.wrap (a + (1 : Int)))
                          { minus := d.minus, zero := d.zero, plus := d.plus, space := true, width := d.width,
                            prec := d.prec, kind := d.kind } =
                        I20 s (IntKind.i64.wrap (a + (1 : Int)))
                          { minus := d.minus, zero := d.zero, plus := d.plus, space := true, width := d.width,
                            prec := d.prec, kind := d.kind } ∧
                      N (IntKind.i64.wrap (a + (1 : Int)))
                        { minus := d.minus, zero := d.zero, plus := d.plus, space := true, width := d.width,
                          prec := d.prec, kind := d.kind }))))
              False)
            (I20 s a
                  { minus := d.minus, zero := d.zero, plus := d.plus, space := d.space, width := d.width,
                    prec := d.prec, kind := d.kind } =
                I20 s a
                  { minus := d.minus, zero := d.zero, plus := d.plus, space := d.space, width := d.width,
                    prec := d.prec, kind := d.kind } ∧
              X (Ex.exit (0 : Nat)) a
                { minus := d.minus, zero := d.zero, plus := d.plus, space := d.space, width := d.width, prec := d.prec,
                  kind := d.kind }))
    False)
  (I20 s a
        { minus := d.minus, zero := d.zero, plus := d.plus, space := d.space, width := d.width, prec := d.prec,
          kind := d.kind } =
      I20 s a
        { minus := d.minus, zero := d.zero, plus := d.plus, space := d.space, width := d.width, prec := d.prec,
          kind := d.kind } ∧
    X (Ex.exit (0 : Nat)) a
      { minus := d.minus, zero := d.zero, plus := d.plus, space := d.space, width := d.width, prec := d.prec,
        kind := d.kind })) :
    (fun (s : List UInt8) (a : Int) (d : Dir) (N : Int → Dir → Prop) (X : Ex → Int → Dir → Prop) => wpRound R2 Door.cfg Tryz.prog 40 19 3 (I20 s a d) (fun τ => τ = I20 s (slI τ 1) (rdDir τ 1) ∧ N (slI τ 1) (rdDir τ 1)) (fun e τ => τ = I20 s (slI τ 1) (rdDir τ 1) ∧ X e (slI τ 1) (rdDir τ 1))) s a d N X :=
  Eq.mp (by kernel_rfl) h
theorem c20 (s : List UInt8) (a : Int) (K : AV → Prop) (h :
    loopAt Tryz.prog (19 : Nat) (3 : Nat) = loopAt Tryz.prog (19 : Nat) (3 : Nat) ∧
  (I20 s a
          { minus := false, zero := false, plus := false, space := false, width := (0 : Int), prec := (-1 : Int),
            kind := (0 : Int) } =
        I20 s a
          { minus := false, zero := false, plus := false, space := false, width := (0 : Int), prec := (-1 : Int),
            kind := (0 : Int) } ∧
      (0 : Int) ≤ a ∧ a ≤ (↑s.length : Int) ∧ s.length ≤ (1000000 : Nat)) ∧
    ∀ (x : Int × Dir),
      (0 : Int) ≤ x.fst ∧
          x.fst ≤ (↑s.length : Int) ∧
            flagsF (List.drop a.toNat s)
                { minus := false, zero := false, plus := false, space := false, width := (0 : Int), prec := (-1 : Int),
                  kind := (0 : Int) } =
              (x.snd, List.drop x.fst.toNat s) →
        (s.length ≤ (1000000 : Nat) ∧ (0 : Int) ≤ x.fst ∧ x.fst ≤ (↑s.length : Int)) ∧
          ∀ (x_1 : Int × Int),
            (0 : Int) ≤ x_1.snd ∧
                x_1.snd ≤ (↑s.length : Int) ∧
                  numR (49 : Int) (List.drop x.fst.toNat s) = (x_1.fst, List.drop x_1.snd.toNat s) →
              iteP (decide (x_1.snd < (↑s.length : Int)))
                (iteP (inRange x_1.snd s.length)
                  (iteP (byteAt s x_1.snd == (46 : Int))
                    ((s.length ≤ (1000000 : Nat) ∧
                        (0 : Int) ≤ IntKind.i64.wrap (x_1.snd + (1 : Int)) ∧
                          IntKind.i64.wrap (x_1.snd + (1 : Int)) ≤ (↑s.length : Int)) ∧
                      ∀ (x_2 : Int × Int),
                        (0 : Int) ≤ x_2.snd ∧
                            x_2.snd ≤ (↑s.length : Int) ∧
                              numR (48 : Int) (List.drop (IntKind.i64.wrap (x_1.snd + (1 : Int))).toNat s) =
                                (x_2.fst, List.drop x_2.snd.toNat s) →
                          iteP (x_2.fst == (-1 : Int))
                            (iteP (decide ((↑s.length : Int) ≤ x_2.snd))
                              (K
                                (AV.tup
                                  [AV.agg
                                      [AV.sc (Value.bool false), AV.sc (Value.bool false), AV.sc (Value.bool false),
                                        AV.sc (Value.bool false), AV.sc (Value.int IntKind.i64 (0 : Int)),
                                        AV.sc (Value.int IntKind.i64 (0 : Int)),
                                        AV.sc (Value.int IntKind.u8 (0 : Int))],
                                    AV.sc (Value.int IntKind.i64 (0 : Int)), AV.sc (Value.int IntKind.i64 (1 : Int))]))
                              (iteP (inRange x_2.snd s.length)
                                (Nat.le (10 : Nat) (1000000 : Nat) ∧
                                  ∀ (x_3 : Bool),
                                    (x_3 =
                                        [(100 : UInt8), (105 : UInt8), (111 : UInt8), (120 : UInt8), (88 : UInt8),
                                              (117 : UInt8), (99 : UInt8), (115 : UInt8), (102 : UInt8),
                                              (37 : UInt8)].any
                                          fun (b : UInt8) => decide ((↑b.toNat : Int) = byteAt s x_2.snd)) →
                                      iteP x_3
                                        (iteP (decide ((255 : Int) < x_1.fst))
                                          (K
                                            (AV.tup
                                              [AV.agg
                                                  [AV.sc (Value.bool false), AV.sc (Value.bool false),
                                                    AV.sc (Value.bool false), AV.sc (Value.bool false),
                                                    AV.sc (Value.int IntKind.i64 (0 : Int)),
                                                    AV.sc (Value.int IntKind.i64 (0 : Int)),
                                                    AV.sc (Value.int IntKind.u8 (0 : Int))],
                                                AV.sc (Value.int IntKind.i64 (0 : Int)),
                                                AV.sc (Value.int IntKind.i64 (2 : Int))]))
                                          (iteP (inRange x_2.snd s.length)
                                            (K
                                              (AV.tup
                                                [AV.agg
                                                    [AV.sc (Value.bool x.snd.minus), AV.sc (Value.bool x.snd.zero),
                                                      AV.sc (Value.bool x.snd.plus), AV.sc (Value.bool x.snd.space),
                                                      AV.sc (Value.int IntKind.i64 x_1.fst),
                                                      AV.sc (Value.int IntKind.i64 (0 : Int)),
                                                      AV.sc (Value.int IntKind.u8 (byteAt s x_2.snd))],
                                                  AV.sc
                                                    (Value.int IntKind.i64 (IntKind.i64.wrap (x_2.snd + (1 : Int)))),
                                                  AV.sc (Value.int IntKind.i64 (0 : Int))]))
                                            False))
                                        (K
                                          (AV.tup
                                            [AV.agg
                                                [AV.sc (Value.bool false), AV.sc (Value.bool false),
                                                  AV.sc (Value.bool false), AV.sc (Value.bool false),
                                                  AV.sc (Value.int IntKind.i64 (0 : Int)),
                                                  AV.sc (Value.int IntKind.i64 (0 : Int)),
                                                  AV.sc (Value.int IntKind.u8 (0 : Int))],
                                              AV.sc (Value.int IntKind.i64 (0 : Int)),
                                              AV.sc (Value.int IntKind.i64 (1 : Int))])))
                                False))
                            (iteP (decide ((↑s.length : Int) ≤ x_2.snd))
                              (K
                                (AV.tup
                                  [AV.agg
                                      [AV.sc (Value.bool false), AV.sc (Value.bool false), AV.sc (Value.bool false),
                                        AV.sc (Value.bool false), AV.sc (Value.int IntKind.i64 (0 : Int)),
                                        AV.sc (Value.int IntKind.i64 (0 : Int)),
                                        AV.sc (Value.int IntKind.u8 (0 : Int))],
                                    AV.sc (Value.int IntKind.i64 (0 : Int)), AV.sc (Value.int IntKind.i64 (1 : Int))]))
                              (iteP (inRange x_2.snd s.length)
                                (Nat.le (10 : Nat) (1000000 : Nat) ∧
                                  ∀ (x_3 : Bool),
                                    (x_3 =
                                        [(100 : UInt8), (105 : UInt8), (111 : UInt8), (120 : UInt8), (88 : UInt8),
                                              (117 : UInt8), (99 : UInt8), (115 : UInt8), (102 : UInt8),
                                              (37 : UInt8)].any
                                          fun (b : UInt8) => decide ((↑b.toNat : Int) = byteAt s x_2.snd)) →
                                      iteP x_3
                                        (iteP (decide ((255 : Int) < x_1.fst))
                                          (K
                                            (AV.tup
                                              [AV.agg
                                                  [AV.sc (Value.bool false), AV.sc (Value.bool false),
                                                    AV.sc (Value.bool false), AV.sc (Value.bool false),
                                                    AV.sc (Value.int IntKind.i64 (0 : Int)),
                                                    AV.sc (Value.int IntKind.i64 (0 : Int)),
                                                    AV.sc (Value.int IntKind.u8 (0 : Int))],
                                                AV.sc (Value.int IntKind.i64 (0 : Int)),
                                                AV.sc (Value.int IntKind.i64 (2 : Int))]))
                                          (iteP (decide ((255 : Int) < x_2.fst))
                                            (K
                                              (AV.tup
                                                [AV.agg
                                                    [AV.sc (Value.bool false), AV.sc (Value.bool false),
                                                      AV.sc (Value.bool false), AV.sc (Value.bool false),
                                                      AV.sc (Value.int IntKind.i64 (0 : Int)),
                                                      AV.sc (Value.int IntKind.i64 (0 : Int)),
                                                      AV.sc (Value.int IntKind.u8 (0 : Int))],
                                                  AV.sc (Value.int IntKind.i64 (0 : Int)),
                                                  AV.sc (Value.int IntKind.i64 (2 : Int))]))
                                            (iteP (inRange x_2.snd s.length)
                                              (K
                                                (AV.tup
                                                  [AV.agg
                                                      [AV.sc (Value.bool x.snd.minus), AV.sc (Value.bool x.snd.zero),
                                                        AV.sc (Value.bool x.snd.plus), AV.sc (Value.bool x.snd.space),
                                                        AV.sc (Value.int IntKind.i64 x_1.fst),
                                                        AV.sc (Value.int IntKind.i64 x_2.fst),
                                                        AV.sc (Value.int IntKind.u8 (byteAt s x_2.snd))],
                                                    AV.sc
                                                      (Value.int IntKind.i64 (IntKind.i64.wrap (x_2.snd + (1 : Int)))),
                                                    AV.sc (Value.int IntKind.i64 (0 : Int))]))
                                              False)))
                                        (K
                                          (AV.tup
                                            [AV.agg
                                                [AV.sc (Value.bool false), AV.sc (Value.bool false),
                                                  AV.sc (Value.bool false), AV.sc (Value.bool false),
                                                  AV.sc (Value.int IntKind.i64 (0 : Int)),
                                                  AV.sc (Value.int IntKind.i64 (0 : Int)),
                                                  AV.sc (Value.int IntKind.u8 (0 : Int))],
                                              AV.sc (Value.int IntKind.i64 (0 : Int)),
                                              AV.sc (Value.int IntKind.i64 (1 : Int))])))
                                False)))
                    (iteP (decide ((↑s.length : Int) ≤ x_1.snd))
                      (K
                        (AV.tup
                          [AV.agg
                              [AV.sc (Value.bool false), AV.sc (Value.bool false), AV.sc (Value.bool false),
                                AV.sc (Value.bool false), AV.sc (Value.int IntKind.i64 (0 : Int)),
                                AV.sc (Value.int IntKind.i64 (0 : Int)), AV.sc (Value.int IntKind.u8 (0 : Int))],
                            AV.sc (Value.int IntKind.i64 (0 : Int)), AV.sc (Value.int IntKind.i64 (1 : Int))]))
                      (iteP (inRange x_1.snd s.length)
                        (Nat.le (10 : Nat) (1000000 : Nat) ∧
                          ∀ (x_2 : Bool),
                            (x_2 =
                                [(100 : UInt8), (105 : UInt8), (111 : UInt8), (120 : UInt8), (88 : UInt8),
                                      (117 : UInt8), (99 : UInt8), (115 : UInt8), (102 : UInt8), (37 : UInt8)].any
                                  fun (b : UInt8) => decide ((↑b.toNat : Int) = byteAt s x_1.snd)) →
                              iteP x_2
                                (iteP (decide ((255 : Int) < x_1.fst))
                                  (K
                                    (AV.tup
                                      [AV.agg
                                          [AV.sc (Value.bool false), AV.sc (Value.bool false), AV.sc (Value.bool false),
                                            AV.sc (Value.bool false), AV.sc (Value.int IntKind.i64 (0 : Int)),
                                            AV.sc (Value.int IntKind.i64 (0 : Int)),
                                            AV.sc (Value.int IntKind.u8 (0 : Int))],
                                        AV.sc (Value.int IntKind.i64 (0 : Int)),
                                        AV.sc (Value.int IntKind.i64 (2 : Int))]))
                                  (iteP (decide ((255 : Int) < x.snd.prec))
                                    (K
                                      (AV.tup
                                        [AV.agg
                                            [AV.sc (Value.bool false), AV.sc (Value.bool false),
                                              AV.sc (Value.bool false), AV.sc (Value.bool false),
                                              AV.sc (Value.int IntKind.i64 (0 : Int)),
                                              AV.sc (Value.int IntKind.i64 (0 : Int)),
                                              AV.sc (Value.int IntKind.u8 (0 : Int))],
                                          AV.sc (Value.int IntKind.i64 (0 : Int)),
                                          AV.sc (Value.int IntKind.i64 (2 : Int))]))
                                    (iteP (inRange x_1.snd s.length)
                                      (K
                                        (AV.tup
                                          [AV.agg
                                              [AV.sc (Value.bool x.snd.minus), AV.sc (Value.bool x.snd.zero),
                                                AV.sc (Value.bool x.snd.plus), AV.sc (Value.bool x.snd.space),
                                                AV.sc (Value.int IntKind.i64 x_1.fst),
                                                AV.sc (Value.int IntKind.i64 x.snd.prec),
                                                AV.sc (Value.int IntKind.u8 (byteAt s x_1.snd))],
                                            AV.sc (Value.int IntKind.i64 (IntKind.i64.wrap (x_1.snd + (1 : Int)))),
                                            AV.sc (Value.int IntKind.i64 (0 : Int))]))
                                      False)))
                                (K
                                  (AV.tup
                                    [AV.agg
                                        [AV.sc (Value.bool false), AV.sc (Value.bool false), AV.sc (Value.bool false),
                                          AV.sc (Value.bool false), AV.sc (Value.int IntKind.i64 (0 : Int)),
                                          AV.sc (Value.int IntKind.i64 (0 : Int)),
                                          AV.sc (Value.int IntKind.u8 (0 : Int))],
                                      AV.sc (Value.int IntKind.i64 (0 : Int)),
                                      AV.sc (Value.int IntKind.i64 (1 : Int))])))
                        False)))
                  False)
                (iteP (decide ((↑s.length : Int) ≤ x_1.snd))
                  (K
                    (AV.tup
                      [AV.agg
                          [AV.sc (Value.bool false), AV.sc (Value.bool false), AV.sc (Value.bool false),
                            AV.sc (Value.bool false), AV.sc (Value.int IntKind.i64 (0 : Int)),
                            AV.sc (Value.int IntKind.i64 (0 : Int)), AV.sc (Value.int IntKind.u8 (0 : Int))],
                        AV.sc (Value.int IntKind.i64 (0 : Int)), AV.sc (Value.int IntKind.i64 (1 : Int))]))
                  (iteP (inRange x_1.snd s.length)
                    (Nat.le (10 : Nat) (1000000 : Nat) ∧
                      ∀ (x_2 : Bool),
                        (x_2 =
                            [(100 : UInt8), (105 : UInt8), (111 : UInt8), (120 : UInt8), (88 : UInt8), (117 : UInt8),
                                  (99 : UInt8), (115 : UInt8), (102 : UInt8), (37 : UInt8)].any
                              fun (b : UInt8) => decide ((↑b.toNat : Int) = byteAt s x_1.snd)) →
                          iteP x_2
                            (iteP (decide ((255 : Int) < x_1.fst))
                              (K
                                (AV.tup
                                  [AV.agg
                                      [AV.sc (Value.bool false), AV.sc (Value.bool false), AV.sc (Value.bool false),
                                        AV.sc (Value.bool false), AV.sc (Value.int IntKind.i64 (0 : Int)),
                                        AV.sc (Value.int IntKind.i64 (0 : Int)),
                                        AV.sc (Value.int IntKind.u8 (0 : Int))],
                                    AV.sc (Value.int IntKind.i64 (0 : Int)), AV.sc (Value.int IntKind.i64 (2 : Int))]))
                              (iteP (decide ((255 : Int) < x.snd.prec))
                                (K
                                  (AV.tup
                                    [AV.agg
                                        [AV.sc (Value.bool false), AV.sc (Value.bool false), AV.sc (Value.bool false),
                                          AV.sc (Value.bool false), AV.sc (Value.int IntKind.i64 (0 : Int)),
                                          AV.sc (Value.int IntKind.i64 (0 : Int)),
                                          AV.sc (Value.int IntKind.u8 (0 : Int))],
                                      AV.sc (Value.int IntKind.i64 (0 : Int)),
                                      AV.sc (Value.int IntKind.i64 (2 : Int))]))
                                (iteP (inRange x_1.snd s.length)
                                  (K
                                    (AV.tup
                                      [AV.agg
                                          [AV.sc (Value.bool x.snd.minus), AV.sc (Value.bool x.snd.zero),
                                            AV.sc (Value.bool x.snd.plus), AV.sc (Value.bool x.snd.space),
                                            AV.sc (Value.int IntKind.i64 x_1.fst),
                                            AV.sc (Value.int IntKind.i64 x.snd.prec),
                                            AV.sc (Value.int IntKind.u8 (byteAt s x_1.snd))],
                                        AV.sc (Value.int IntKind.i64 (IntKind.i64.wrap (x_1.snd + (1 : Int)))),
                                        AV.sc (Value.int IntKind.i64 (0 : Int))]))
                                  False)))
                            (K
                              (AV.tup
                                [AV.agg
                                    [AV.sc (Value.bool false), AV.sc (Value.bool false), AV.sc (Value.bool false),
                                      AV.sc (Value.bool false), AV.sc (Value.int IntKind.i64 (0 : Int)),
                                      AV.sc (Value.int IntKind.i64 (0 : Int)), AV.sc (Value.int IntKind.u8 (0 : Int))],
                                  AV.sc (Value.int IntKind.i64 (0 : Int)), AV.sc (Value.int IntKind.i64 (1 : Int))])))
                    False))) :
    (fun (s : List UInt8) (a : Int) (K : AV → Prop) => wpCall R3 Door.cfg Tryz.prog 40 19 [aStr s, aK .i64 a] heapF fun r h' => wpBack h' r K) s a K :=
  Eq.mp (by kernel_rfl) h
theorem v9 (s : List UInt8) (k : Int) (N : Int → Prop) (X1 : Int → Prop) (X2 : Ex → Prop) (h :
 iteP (decide (k < (↑s.length : Int))) (iteP (inRange k s.length) (iteP (byteAt s k != 37) (I9 s (IntKind.i64.wrap (k + 1)) = I9 s (IntKind.i64.wrap (k + 1)) ∧ N (IntKind.i64.wrap (k + 1))) ((s.length ≤ 1000000 ∧ 0 ≤ IntKind.i64.wrap (k + 1) ∧ IntKind.i64.wrap (k + 1) ≤ (↑s.length : Int)) ∧ ∀ (x : Dir × Int × Int), x.snd.snd = 0 ∧ 0 ≤ x.snd.fst ∧ x.snd.fst ≤ (↑s.length : Int) ∧
 readR (List.drop (IntKind.i64.wrap (k + 1)).toNat s) = (x.fst, List.drop x.snd.fst.toNat s, 0) ∨ x.snd.snd ≠ 0 ∧ (readR (List.drop (IntKind.i64.wrap (k + 1)).toNat s)).snd.snd = x.snd.snd → iteP (x.snd.snd != 0) (J9 x.snd.snd = J9 x.snd.snd ∧ X1 x.snd.snd) (I9 s x.snd.fst = I9 s x.snd.fst ∧ N x.snd.fst))) False) (E9 = E9 ∧ X2 (Ex.exit 0))) :
 (fun (s : List UInt8) (k : Int) (N : Int → Prop) (X1 : Int → Prop) (X2 : Ex → Prop) => wpRound R4 Door.cfg Tryz.prog 40 18 3 (I9 s k) (fun τ => τ = I9 s (slI τ 3) ∧ N (slI τ 3)) (fun e τ => match e with | .ret => τ = J9 (slI τ 2) ∧ X1 (slI τ 2) | e => τ = E9 ∧ X2 e)) s k N X1 X2 :=
 Eq.mp (by kernel_rfl) h
theorem c9 (s : List UInt8) (K : AV → Prop) (h :
 loopAt Tryz.prog 18 3 = loopAt Tryz.prog 18 3 ∧ (I9 s 0 = I9 s 0 ∧ (0 : Int) = 0 ∧ s.length ≤ 1000000) ∧ (∀ (_ : Unit), checkR (s.length + 1) s = 0 → K (AV.sc (Value.int IntKind.i64 0))) ∧ ∀ (x : Int), x = checkR (s.length + 1) s → K (AV.sc (Value.int IntKind.i64 x))) :
 (fun (s : List UInt8) (K : AV → Prop) => wpCall R5 Door.cfg Tryz.prog 40 18 [aStr s] heapF fun r h' => wpBack h' r K) s K :=
 Eq.mp (by kernel_rfl) h
end
end Go.Proofs.Pr
namespace Go.Proofs.Pr
open Go Go.Ef
noncomputable section
set_option maxRecDepth 100000
theorem loop34 (s : List UInt8) (hs : s.length ≤ 1000000) (a l : Int) (h1 : 0 ≤ a) (h4 : a ≤ s.length) :
  Ev Door.cfg Tryz.prog 38 (.loop (loopAt Tryz.prog 38 5)) (I34 s a l (-1) a) fun e τ => τ = J34 (slI τ 8) (slI τ 9) ∧ e = .exit 0 ∧ 0 ≤ slI τ 9 ∧ slI τ 9 ≤ s.length ∧ numA l (s.drop a.toNat) (-1) = (slI τ 8, s.drop (slI τ 9).toNat) := by
 refine loop_rd tab0_ok (n := 40) (fun x : Int × Int => I34 s a l x.1 x.2) (fun τ => (slI τ 8, slI τ 9)) (fun x => a ≤ x.2 ∧ -1 ≤ x.1 ∧ x.1 ≤ 256 ∧ x.2 ≤ s.length ∧ numA l (s.drop a.toNat) (-1) = if x.2 = a then numA l (s.drop x.2.toNat) x.1 else numL (s.drop x.2.toNat) x.1) (fun x => s.length - x.2.toNat) (by kernel_rfl)
  (fun x t ht => ?_) (fun x hx => ?_) (-1, a) ⟨Int.le_refl _, by simp, by simp, h4, by simp⟩
 ·replace ht : Door.tidy 38 5 = some t := ht
  cases ht
  show (I34 s a l x.1 x.2).tidy [0, 1, 2, 8, 9] 0 = I34 s a l x.1 x.2
  kernel_rfl
 ·obtain ⟨m, j⟩ := x
  obtain ⟨q1, q2, q3, q4, q5⟩ := hx
  simp only at q1 q2 q3 q4 q5
  have q0 : 0 ≤ j := by omega
  have hb := byteAt_le s j
  refine v34 s a l m j (fun m' j' => (a ≤ j' ∧ -1 ≤ m' ∧ m' ≤ 256 ∧ j' ≤ s.length ∧ numA l (s.drop a.toNat) (-1) = if j' = a then numA l (s.drop j'.toNat) m' else numL (s.drop j'.toNat) m') ∧ s.length - j'.toNat < s.length - j.toNat) (fun e m' j' => e = .exit 0 ∧ 0 ≤ j' ∧ j' ≤ s.length ∧ numA l (s.drop a.toNat) (-1) = (m', s.drop j'.toNat)) ?_
  rw [q5]
  simp only [iteP_F]
  simp only [iteP_iff, decide_eq_true_eq, decide_eq_false_iff_not, inRange_iff, true_and]
  rcases hr : s.drop j.toNat with _ | ⟨c, r⟩
  ·have := drop_end hr
   refine ⟨fun h => by omega, fun _ => ⟨q0, q4, ?_⟩⟩
   split <;> rfl
  ·obtain ⟨e1, e2, e3⟩ := byteAt_drop hr
   rw [e1] at hb ⊢
   have hj : IntKind.i64.wrap (j + 1) = j + 1 := wrap_in (by omega) (by omega)
   have hja : ¬ (j + 1 = a) := by omega
   rw [hj, toNat_succ q0, e3, if_neg hja]
   have hnum : numL (c :: r) m = if 48 ≤ (c.toNat : Int) ∧ (c.toNat : Int) ≤ 57 then numL r (min (10 * max m 0 + (c.toNat - 48)) 256) else (m, c :: r) := rfl
   have hnuA : numA l (c :: r) m = if (c.toNat : Int) < l then (m, c :: r) else numL (c :: r) m := rfl
   have hall : (if j = a then numA l (c :: r) m else numL (c :: r) m) = if 48 ≤ (c.toNat : Int) ∧ (c.toNat : Int) ≤ 57 ∧ (a < j ∨ l ≤ (c.toNat : Int)) then numL r (min (10 * max m 0 + (c.toNat - 48)) 256) else (m, c :: r) := by
    rw [hnuA, hnum]
    by_cases t1 : j = a
    ·rw [if_pos t1]
     by_cases t2 : (c.toNat : Int) < l
     ·rw [if_pos t2, if_neg (by omega)]
     ·rw [if_neg t2]
      by_cases t3 : 48 ≤ (c.toNat : Int) ∧ (c.toNat : Int) ≤ 57
      ·rw [if_pos t3, if_pos (by omega)]
      ·rw [if_neg t3, if_neg (by omega)]
    ·rw [if_neg t1]
     by_cases t3 : 48 ≤ (c.toNat : Int) ∧ (c.toNat : Int) ≤ 57
     ·rw [if_pos t3, if_pos (by omega)]
     ·rw [if_neg t3, if_neg (by omega)]
   rw [hall]
   repeat' (first | apply And.intro | intro _)
   all_goals (try simp (disch := omega) only [wrap_in, wrap8_in])
   all_goals try omega
   ·have hc : 48 ≤ (c.toNat : Int) ∧ (c.toNat : Int) ≤ 57 ∧ (a < j ∨ l ≤ (c.toNat : Int)) := by omega
    rw [if_pos hc]
   ·have hc : 48 ≤ (c.toNat : Int) ∧ (c.toNat : Int) ≤ 57 ∧ (a < j ∨ l ≤ (c.toNat : Int)) := by omega
    rw [if_pos hc]
   all_goals
    have hc : ¬ (48 ≤ (c.toNat : Int) ∧ (c.toNat : Int) ≤ 57 ∧ (a < j ∨ l ≤ (c.toNat : Int))) := by omega
    rw [if_neg hc]
end
end Go.Proofs.Pr
namespace Go.Proofs.Pr
open Go Go.Ef
noncomputable section
set_option maxRecDepth 100000
theorem okL34 : TabOk Tryz.prog Door.cfg ((T4.addC 9 C8).addL 38 5 L34) := by
 refine addL_ok ok8 fun σ s hs hp => ?_
 refine lspec_ok (Option.some.inj hs) (fun hpre => ?_) hp
 obtain ⟨e, h1, h2, h3, h4, h5⟩ := hpre
 refine Ev.tidied (t := ⟨[0, 1, 2, 8, 9], [8, 9], 0⟩) (τ := I34 (slS σ 0) (slI σ 1) (slI σ 2) (-1) (slI σ 1)) (by kernel_rfl) (by rw [e, h1, h2]; kernel_rfl) ?_
 refine (loop34 (slS σ 0) h5 (slI σ 1) (slI σ 2) h3 h4).mono fun ex τ h => ?_
 exact ⟨(slI τ 8, slI τ 9), ⟨h.2.2.1, h.2.2.2.1, h.2.2.2.2⟩, h.2.1, h.1⟩
theorem loop33 (s : List UInt8) (hs : s.length ≤ 1000000) (c : Int) :
  Ev Door.cfg Tryz.prog 37 (.loop (loopAt Tryz.prog 37 3)) (I33 s c 0) fun e τ => (s.any (fun b => decide ((b.toNat : Int) = c)) = true ∧ e = .ret ∧ τ = J33 true) ∨ (s.any (fun b => decide ((b.toNat : Int) = c)) = false ∧ e = .exit 0 ∧ τ = stOf 17 [(4, .unk)] [] heapF) := by
 have main := loop_rd (C := Door.cfg) (P := Tryz.prog) tab0_ok (f := 37) (i := 3) (n := 40) (fun x : Int => I33 s c x) (fun τ => slI τ 5) (fun x => 0 ≤ x ∧ x ≤ s.length ∧ s.any (fun b => decide ((b.toNat : Int) = c)) = (s.drop x.toNat).any (fun b => decide ((b.toNat : Int) = c))) (fun x => s.length - x.toNat)
  (K := fun e τ => match e with
   | .ret => τ = J33 (slB τ 4) ∧ (slB τ 4 = true ∧ s.any (fun b => decide ((b.toNat : Int) = c)) = true)
   | e => τ = stOf 17 [(4, .unk)] [] heapF ∧ (e = .exit 0 ∧ s.any (fun b => decide ((b.toNat : Int) = c)) = false)) (by kernel_rfl)
  (fun x t ht => ?_) (fun x hx => ?_) 0 ⟨Int.le_refl _, by omega, rfl⟩
 ·refine main.mono fun e τ h => ?_
  cases e with
  | ret => exact .inl ⟨h.2.2, rfl, by rw [h.1, h.2.1]⟩
  | normal => cases h.2.1
  | exit j => exact .inr ⟨h.2.2, h.2.1, h.1⟩
 ·replace ht : Door.tidy 37 3 = some t := ht
  cases ht
  show (I33 s c x).tidy [0, 1, 5] 0 = I33 s c x
  kernel_rfl
 ·obtain ⟨q1, q2, q3⟩ := hx
  refine v33 s c x (fun y => (0 ≤ y ∧ y ≤ s.length ∧ s.any (fun b => decide ((b.toNat : Int) = c)) = (s.drop y.toNat).any (fun b => decide ((b.toNat : Int) = c))) ∧ s.length - y.toNat < s.length - x.toNat) (fun b => b = true ∧ s.any (fun b => decide ((b.toNat : Int) = c)) = true) (fun e => e = .exit 0 ∧ s.any (fun b => decide ((b.toNat : Int) = c)) = false) ?_
  rw [q3]
  rcases hr : s.drop x.toNat with _ | ⟨b, r⟩
  ·have := drop_end hr
   rw [show decide (x < (s.length : Int)) = false by simp; omega, iteP_f]
   exact ⟨rfl, rfl, rfl⟩
  ·obtain ⟨e1, e2, e3⟩ := byteAt_drop hr
   have hj : IntKind.i64.wrap (x + 1) = x + 1 := wrap_in (by omega) (by omega)
   rw [show decide (x < (s.length : Int)) = true by simp; omega, iteP_t, show inRange x s.length = true by rw [inRange_iff]; omega, iteP_t, e1, hj, toNat_succ q1, e3, List.any_cons]
   by_cases hb : (b.toNat : Int) = c
   ·rw [show ((b.toNat : Int) == c) = true by simpa using hb, iteP_t, decide_eq_true hb]
    exact ⟨rfl, rfl, rfl⟩
   ·rw [show ((b.toNat : Int) == c) = false by simpa using hb, iteP_f, decide_eq_false hb, Bool.false_or]
    exact ⟨rfl, ⟨by omega, by omega, rfl⟩, by omega⟩
theorem okR1 : TabOk Tryz.prog Door.cfg R1 := by
 refine addL_ok okL34 fun σ s hs hp => ?_
 cases Option.some.inj hs
 obtain ⟨e, h1, h5⟩ := hp
 have := Ev.tidied (C := Door.cfg) (P := Tryz.prog) (b := loopAt Tryz.prog 37 3) (f := 37) (σ := σ) (t := ⟨[0, 1, 5], [4], 0⟩) (τ := I33 (slS σ 0) (slI σ 1) 0) (by kernel_rfl) (by rw [e, h1]; kernel_rfl) (loop33 (slS σ 0) h5 (slI σ 1))
 obtain ⟨m, ex, τ, h2, h3⟩ := this
 rcases h3 with ⟨q1, rfl, rfl⟩ | ⟨q1, rfl, rfl⟩
 ·exact ⟨_, .head _, (), q1, m, h2⟩
 ·exact ⟨_, .tail _ (.head _), (), q1, m, h2⟩
theorem okC34 : TabOk Tryz.prog Door.cfg (R1.addC 38 C34) := by
 refine addC_ok okR1 fun args h s hs hp => ?_
 unfold C34 at hs
 split at hs
 ·rename_i s0 a l
  obtain ⟨⟨u⟩⟩ := s0
  refine aspec_ok (Option.some.inj hs) (fun hpre => ?_) hp
  obtain ⟨p1, p2, p3⟩ := hpre
  replace p1 : u.length ≤ 1000000 := p1
  replace p3 : a ≤ (u.length : Int) := p3
  refine EvP.freshK okR1 (n := 40) (by kernel_rfl) (by kernel_rfl) (args' := [aStr u, aK .i64 a, aK .u8 l]) rfl (c34 u a l _ ?_)
  have hnot : (∀ c r, u.drop a.toNat = c :: r → c ≠ 42) → ∀ x : Int × Int, (0 ≤ x.2 ∧ x.2 ≤ (u.length : Int) ∧ numA l (u.drop a.toNat) (-1) = (x.1, u.drop x.2.toNat)) →
    ∃ y : Int × Int, (0 ≤ y.2 ∧ y.2 ≤ (u.length : Int) ∧ numR l (u.drop a.toNat) = (y.1, u.drop y.2.toNat)) ∧ AV.tup [AV.sc (Value.int IntKind.i64 x.1), AV.sc (Value.int IntKind.i64 x.2)] = .tup [aK .i64 y.1, aK .i64 y.2] := by
   intro hne x hx
   refine ⟨x, ⟨hx.1, hx.2.1, ?_⟩, rfl⟩
   rw [← hx.2.2]
   cases hr : u.drop a.toNat with
   | nil => rfl
   | cons c r =>
    have h42 := hne c r hr
    show (if c = 42 then (-2, r) else if (c.toNat : Int) < l then (-1, c :: r) else numL (c :: r) (-1)) = (if (c.toNat : Int) < l then (-1, c :: r) else numL (c :: r) (-1))
    rw [if_neg h42]
  rcases hr : u.drop a.toNat with _ | ⟨c, r⟩
  ·have := drop_end hr
   rw [show decide (a < (u.length : Int)) = false by simp; omega, iteP_f]
   refine ⟨rfl, ⟨rfl, rfl, rfl, p2, p3, p1⟩, fun x hx => ?_⟩
   rw [← hr] at hx ⊢
   exact hnot (fun c r h => by rw [hr] at h; cases h) x hx
  ·obtain ⟨e1, e2, e3⟩ := byteAt_drop hr
   rw [show decide (a < (u.length : Int)) = true by simp; omega, iteP_t, show inRange a u.length = true by rw [inRange_iff]; omega, iteP_t, e1]
   by_cases hc : c = 42
   ·subst hc
    rw [show (((42 : UInt8).toNat : Int) == 42) = true from rfl, iteP_t]
    have hj : IntKind.i64.wrap (a + 1) = a + 1 := wrap_in (by omega) (by omega)
    refine ⟨(-2, a + 1), ⟨by show 0 ≤ a + 1; omega, by show a + 1 ≤ (u.length : Int); omega, ?_⟩, by rw [hj]; rfl⟩
    show (-2, r) = (-2, u.drop (a + 1).toNat)
    rw [toNat_succ p2, e3]
   ·have : ((c.toNat : Int) == 42) = false := by
     rw [show ((c.toNat : Int) == 42) = (c == 42) from beq_byte c 42 (by decide)]
     simpa using hc
    rw [this, iteP_f]
    refine ⟨rfl, ⟨rfl, rfl, rfl, p2, p3, p1⟩, fun x hx => ?_⟩
    rw [← hr] at hx ⊢
    exact hnot (fun c' r' h => by rw [hr] at h; cases h; exact hc) x hx
 ·cases hs
theorem okR2 : TabOk Tryz.prog Door.cfg R2 := by
 refine addC_ok okC34 fun args h s hs hp => ?_
 unfold C33 at hs
 split at hs
 ·rename_i s0 c
  obtain ⟨⟨u⟩⟩ := s0
  refine nspec_ok (Option.some.inj hs) (fun hpre => ?_) hp
  replace hpre : u.length ≤ 1000000 := hpre
  refine EvP.freshV okR1 (n := 40) (by kernel_rfl) (by kernel_rfl) (args' := [aStr u, aK .u8 c]) rfl (c33 u c _ ?_)
  refine ⟨rfl, ⟨rfl, rfl, hpre⟩, fun _ hx => ?_, fun _ hx => ?_⟩
  ·show _ = aBool (u.any fun b => decide ((b.toNat : Int) = c)); rw [hx]; rfl
  ·show _ = aBool (u.any fun b => decide ((b.toNat : Int) = c)); rw [hx]; rfl
 ·cases hs
end
end Go.Proofs.Pr
namespace Go.Proofs.Pr
open Go Go.Ef
noncomputable section
set_option maxRecDepth 100000
theorem any_byte (l : List UInt8) (c : UInt8) : (l.any fun b => decide ((b.toNat : Int) = (c.toNat : Int))) = l.contains c := by
 rw [Bool.eq_iff_iff, List.any_eq_true, List.contains_iff_mem]
 constructor
 ·rintro ⟨b, hb, h⟩
  have : b = c := by rw [u8_eq]; simpa using h
  subst this; exact hb
 ·intro h; exact ⟨c, h, by simp⟩
theorem flag_any (c : UInt8) : (([45, 48, 43, 32] : List UInt8).any fun b => decide ((b.toNat : Int) = (c.toNat : Int))) = isFlag c := by
 rw [any_byte]
 unfold isFlag
 simp only [List.contains_cons, List.contains_nil, Bool.or_false, Bool.or_assoc]
theorem loop20 (s : List UInt8) (hs : s.length ≤ 1000000) (a : Int) (d : Dir) (h1 : 0 ≤ a) (h4 : a ≤ s.length) :
  Ev Door.cfg Tryz.prog 19 (.loop (loopAt Tryz.prog 19 3)) (I20 s a d) fun e τ => τ = I20 s (slI τ 1) (rdDir τ 1) ∧ e = .exit 0 ∧ 0 ≤ slI τ 1 ∧ slI τ 1 ≤ s.length ∧ flagsF (s.drop a.toNat) d = (rdDir τ 1, s.drop (slI τ 1).toNat) := by
 refine loop_rd okR2 (n := 40) (fun x : Int × Dir => I20 s x.1 x.2) (fun τ => (slI τ 1, rdDir τ 1)) (fun x => 0 ≤ x.1 ∧ x.1 ≤ s.length ∧ flagsF (s.drop a.toNat) d = flagsF (s.drop x.1.toNat) x.2) (fun x => s.length - x.1.toNat) (by kernel_rfl)
  (fun x t ht => ?_) (fun x hx => ?_) (a, d) ⟨h1, h4, rfl⟩
 ·replace ht : Door.tidy 19 3 = some t := ht
  cases ht
  show (I20 s x.1 x.2).tidy [0, 1, 4, 7] 2 = I20 s x.1 x.2
  kernel_rfl
 ·obtain ⟨j, f⟩ := x
  obtain ⟨q1, q4, q5⟩ := hx
  simp only at q1 q4 q5
  refine v20 s j f (fun j' f' => (0 ≤ j' ∧ j' ≤ s.length ∧ flagsF (s.drop a.toNat) d = flagsF (s.drop j'.toNat) f') ∧ s.length - j'.toNat < s.length - j.toNat) (fun e j' f' => e = .exit 0 ∧ 0 ≤ j' ∧ j' ≤ s.length ∧ flagsF (s.drop a.toNat) d = (f', s.drop j'.toNat)) ?_
  rw [q5]
  rcases hr : s.drop j.toNat with _ | ⟨c, r⟩
  ·have := drop_end hr
   rw [show decide (j < (s.length : Int)) = false by simp; omega, iteP_f]
   exact ⟨rfl, rfl, q1, q4, rfl⟩
  ·obtain ⟨e1, e2, e3⟩ := byteAt_drop hr
   have hj : IntKind.i64.wrap (j + 1) = j + 1 := wrap_in (by omega) (by omega)
   have hin : inRange j s.length = true := by rw [inRange_iff]; omega
   rw [show decide (j < (s.length : Int)) = true by simp; omega, iteP_t, hin, iteP_t, e1, hj, toNat_succ q1, e3, flag_any]
   refine ⟨(by decide : 4 ≤ 1000000), fun x hx => ?_⟩
   subst hx
   rw [show ((c.toNat : Int) == 45) = (c == 45) from beq_byte c 45 (by decide), show ((c.toNat : Int) == 48) = (c == 48) from beq_byte c 48 (by decide), show ((c.toNat : Int) == 43) = (c == 43) from beq_byte c 43 (by decide)]
   have hfl : flagsF (c :: r) f = if isFlag c then flagsF r (setFlag f c) else (f, c :: r) := rfl
   rw [hfl]
   have b1 : 0 ≤ j + 1 ∧ j + 1 ≤ (s.length : Int) := by omega
   have b2 : s.length - (j.toNat + 1) < s.length - j.toNat := by omega
   unfold setFlag
   cases hf : isFlag c with
   | false => exact ⟨rfl, rfl, q1, q4, rfl⟩
   | true =>
    rw [iteP_t, iteP_t, if_pos rfl]
    by_cases h45 : c = 45
    ·subst h45; exact ⟨rfl, ⟨b1.1, b1.2, rfl⟩, b2⟩
    ·by_cases h48 : c = 48
     ·subst h48; exact ⟨rfl, ⟨b1.1, b1.2, rfl⟩, b2⟩
     ·by_cases h43 : c = 43
      ·subst h43; exact ⟨rfl, ⟨b1.1, b1.2, rfl⟩, b2⟩
      ·have e1 : (c == 45) = false := by simpa using h45
       have e2 : (c == 48) = false := by simpa using h48
       have e3 : (c == 43) = false := by simpa using h43
       rw [e1, iteP_f, e2, iteP_f, e3, iteP_f, if_neg h45, if_neg h48, if_neg h43]
       exact ⟨rfl, ⟨b1.1, b1.2, rfl⟩, b2⟩
theorem okR3 : TabOk Tryz.prog Door.cfg R3 := by
 refine addL_ok okR2 fun σ s hs hp => ?_
 refine lspec_ok (Option.some.inj hs) (fun hpre => ?_) hp
 obtain ⟨e, h1, h4, h5⟩ := hpre
 refine Ev.tidied (t := ⟨[0, 1, 4, 7], [0, 1, 4, 7], 2⟩) (τ := I20 (slS σ 0) (slI σ 1) (rdDir σ 1)) (by kernel_rfl) (by rw [e]; kernel_rfl) ?_
 refine (loop20 (slS σ 0) h5 (slI σ 1) (rdDir σ 1) h1 h4).mono fun ex τ h => ?_
 exact ⟨(slI τ 1, rdDir τ 1), ⟨h.2.2.1, h.2.2.2.1, h.2.2.2.2⟩, h.2.1, h.1⟩
def err20 (e : Int) : AV := .tup [.agg [.sc (.bool false), .sc (.bool false), .sc (.bool false), .sc (.bool false), .sc (.int .i64 0), .sc (.int .i64 0), .sc (.int .u8 0)], .sc (.int .i64 0), .sc (.int .i64 e)]
def tail20 (d : Dir) (w p : Int) (s : List UInt8) (j : Int) (K : AV → Prop) : Prop :=
 iteP (decide ((s.length : Int) ≤ j)) (K (err20 1)) (iteP (inRange j s.length) (Nat.le 10 1000000 ∧ ∀ x : Bool, x = (([100, 105, 111, 120, 88, 117, 99, 115, 102, 37] : List UInt8).any fun b => decide ((b.toNat : Int) = byteAt s j)) →
  iteP x (iteP (decide (255 < w)) (K (err20 2)) (iteP (decide (255 < p)) (K (err20 2)) (iteP (inRange j s.length)
   (K (.tup [.agg [.sc (.bool d.minus), .sc (.bool d.zero), .sc (.bool d.plus), .sc (.bool d.space), .sc (.int .i64 w), .sc (.int .i64 p), .sc (.int .u8 (byteAt s j))], .sc (.int .i64 (IntKind.i64.wrap (j + 1))), .sc (.int .i64 0)])) False))) (K (err20 1))) False)
theorem tail20_ok (d : Dir) (w p : Int) (s rd : List UInt8) (j : Int) (hs : s.length ≤ 1000000) (h1 : 0 ≤ j) (h2 : j ≤ s.length) (hrd : readR rd = endF d w p (s.drop j.toNat)) :
  tail20 d w p s j fun y => ∃ x : Dir × Int × Int, ((x.2.2 = 0 ∧ 0 ≤ x.2.1 ∧ x.2.1 ≤ (s.length : Int) ∧ readR rd = (x.1, s.drop x.2.1.toNat, 0)) ∨ (x.2.2 ≠ 0 ∧ (readR rd).2.2 = x.2.2)) ∧ y = .tup [.agg x.1.cells, aK .i64 x.2.1, aK .i64 x.2.2] := by
 unfold tail20
 rw [hrd]
 rcases hr : s.drop j.toNat with _ | ⟨c, r⟩
 ·have := drop_end hr
  rw [show decide ((s.length : Int) ≤ j) = true by simp; omega, iteP_t]
  exact ⟨(Dir.none, 0, 1), .inr ⟨by simp, rfl⟩, rfl⟩
 ·obtain ⟨e1, e2, e3⟩ := byteAt_drop hr
  have hj : IntKind.i64.wrap (j + 1) = j + 1 := wrap_in (by omega) (by omega)
  have hin : inRange j s.length = true := by rw [inRange_iff]; omega
  rw [show decide ((s.length : Int) ≤ j) = false by simp; omega, iteP_f, hin, iteP_t, e1, hj]
  refine ⟨(by decide : 10 ≤ 1000000), fun x hx => ?_⟩
  have hk : (([100, 105, 111, 120, 88, 117, 99, 115, 102, 37] : List UInt8).any fun b => decide ((b.toNat : Int) = (c.toNat : Int))) = kinds.contains c := any_byte _ c
  rw [hk] at hx
  have he : endF d w p (c :: r) = if kinds.contains c then (if w > 255 ∨ p > 255 then (Dir.none, [], 2) else ({ d with width := w, prec := p, kind := c.toNat }, r, 0)) else (Dir.none, [], 1) := rfl
  rw [he, ← hx]
  cases x with
  | false => exact ⟨(Dir.none, 0, 1), .inr ⟨by simp, rfl⟩, rfl⟩
  | true =>
   rw [iteP_t]
   by_cases h1 : 255 < w
   ·rw [decide_eq_true h1, iteP_t, if_pos rfl, if_pos (.inl h1)]
    exact ⟨(Dir.none, 0, 2), .inr ⟨by simp, rfl⟩, rfl⟩
   ·by_cases h2 : 255 < p
    ·rw [decide_eq_false h1, iteP_f, decide_eq_true h2, iteP_t, if_pos rfl, if_pos (.inr h2)]
     exact ⟨(Dir.none, 0, 2), .inr ⟨by simp, rfl⟩, rfl⟩
    ·rw [decide_eq_false h1, iteP_f, decide_eq_false h2, iteP_f, if_pos rfl, if_neg (by omega), iteP_t]
     refine ⟨({ d with width := w, prec := p, kind := c.toNat }, j + 1, 0), .inl ⟨rfl, ?_, ?_, ?_⟩, rfl⟩
     ·show 0 ≤ j + 1; omega
     ·show j + 1 ≤ (s.length : Int); omega
     ·show ({ d with width := w, prec := p, kind := (c.toNat : Int) }, r, (0 : Int)) = ({ d with width := w, prec := p, kind := (c.toNat : Int) }, s.drop (j + 1).toNat, 0)
      rw [toNat_succ (by omega), e3]
theorem okR4 : TabOk Tryz.prog Door.cfg R4 := by
 refine addC_ok okR3 fun args h s hs hp => ?_
 unfold C20 at hs
 split at hs
 ·rename_i s0 a
  obtain ⟨⟨u⟩⟩ := s0
  refine aspec_ok (Option.some.inj hs) (fun hpre => ?_) hp
  obtain ⟨p1, p2, p3⟩ := hpre
  replace p1 : u.length ≤ 1000000 := p1
  replace p3 : a ≤ (u.length : Int) := p3
  refine EvP.freshK okR3 (n := 40) (by kernel_rfl) (by kernel_rfl) (args' := [aStr u, aK .i64 a]) rfl (c20 u a _ ?_)
  refine ⟨rfl, ⟨rfl, p2, p3, p1⟩, fun x hx => ⟨⟨p1, hx.1, hx.2.1⟩, fun x1 hx1 => ?_⟩⟩
  obtain ⟨a1, a2, a3⟩ := hx
  obtain ⟨b1, b2, b3⟩ := hx1
  have hd : flagsF (u.drop a.toNat) { Dir.none with prec := -1 } = (x.2, u.drop x.1.toNat) := a3
  have hpr : x.2.prec = -1 := by have := flagsF_prec (u.drop a.toNat) { Dir.none with prec := -1 }; rw [hd] at this; exact this
  have hread : readR (u.drop a.toNat) = endF x.2 x1.1 (precR (u.drop x1.2.toNat)).1 (precR (u.drop x1.2.toNat)).2 := by
   unfold readR
   rw [hd]
   show endF x.2 (numR 49 (u.drop x.1.toNat)).1 (precR (numR 49 (u.drop x.1.toNat)).2).1 (precR (numR 49 (u.drop x.1.toNat)).2).2 = _
   rw [b3]
  rcases hr : u.drop x1.2.toNat with _ | ⟨c, r⟩
  ·have := drop_end hr
   rw [show decide (x1.2 < (u.length : Int)) = false by simp; omega, iteP_f]
   have hp : precR (u.drop x1.2.toNat) = (-1, u.drop x1.2.toNat) := by rw [hr]; rfl
   rw [hp] at hread
   have := tail20_ok x.2 x1.1 x.2.prec u (u.drop a.toNat) x1.2 p1 b1 b2 (by rw [hpr]; exact hread)
   exact this
  ·obtain ⟨e1, e2, e3⟩ := byteAt_drop hr
   have hj : IntKind.i64.wrap (x1.2 + 1) = x1.2 + 1 := wrap_in (by omega) (by omega)
   have hin : inRange x1.2 u.length = true := by rw [inRange_iff]; omega
   rw [show decide (x1.2 < (u.length : Int)) = true by simp; omega, iteP_t, hin, iteP_t]
   by_cases hc : c = 46
   ·subst hc
    rw [show (byteAt u x1.2 == 46) = true by rw [e1]; rfl, iteP_t, hj]
    refine ⟨⟨p1, by omega, by omega⟩, fun x2 hx2 => ?_⟩
    obtain ⟨d1, d2, d3⟩ := hx2
    rw [toNat_succ b1, e3] at d3
    have hp : precR (u.drop x1.2.toNat) = ((if x2.1 = -1 then 0 else x2.1), u.drop x2.2.toNat) := by
     rw [hr]
     show ((if (numR 48 r).1 = -1 then 0 else (numR 48 r).1), (numR 48 r).2) = _
     rw [d3]
    rw [hp] at hread
    by_cases h1 : x2.1 = -1
    ·rw [show (x2.1 == -1) = true from by rw [h1]; rfl, iteP_t]
     rw [if_pos h1] at hread
     have := tail20_ok x.2 x1.1 0 u (u.drop a.toNat) x2.2 p1 d1 d2 hread
     unfold tail20 at this
     rw [show decide ((255 : Int) < 0) = false from rfl] at this
     exact this
    ·rw [show (x2.1 == -1) = false from by simpa using h1, iteP_f]
     rw [if_neg h1] at hread
     exact tail20_ok x.2 x1.1 x2.1 u (u.drop a.toNat) x2.2 p1 d1 d2 hread
   ·have : (byteAt u x1.2 == 46) = false := by
     rw [e1, show ((c.toNat : Int) == 46) = (c == 46) from beq_byte c 46 (by decide)]
     simpa using hc
    rw [this, iteP_f]
    have hp : precR (u.drop x1.2.toNat) = (-1, u.drop x1.2.toNat) := by rw [hr]; show (if c = 46 then _ else _) = _; rw [if_neg hc]
    rw [hp] at hread
    rw [← hin]
    have := tail20_ok x.2 x1.1 x.2.prec u (u.drop a.toNat) x1.2 p1 b1 b2 (by rw [hpr]; exact hread)
    exact this
 ·cases hs
end
end Go.Proofs.Pr
