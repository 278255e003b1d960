/- A part of the proof: definitions and lemmas. -/
import Derived.Test.YtfgocjmkefeeeaaDoorNumbersF
import Derived.Test.YtfgocjmkefeeeaaDoorRows
import Derived.Lib.LaidTab
import Derived.Stop.LaidErr
namespace Go.Proofs.Pr
open Go Go.Ef
noncomputable section
set_option maxRecDepth 100000
theorem never_ok {T : Tab} (O : TabOk Tryd.prog Door.cfg T) (g : FuncId) : TabOk Tryd.prog Door.cfg (T.addC g C36n) := by
 refine addC_ok O fun args h s hs hp => ?_
 unfold C36n at hs
 cases hs
 exact hp.elim
theorem okM1 : TabOk Tryd.prog Door.cfg M1 := never_ok okQ1 36
theorem okM3 : TabOk Tryd.prog Door.cfg M3 := ok53g tab0_ok
theorem near_near (d : Int) : nearF (nearF d) = nearF d := by unfold nearF; omega
theorem ok39 {T : Tab} (O : TabOk Tryd.prog Door.cfg T) : TabOk Tryd.prog Door.cfg (T.addC 39 C39) := by
 refine addC_ok O fun args h s hs hp => ?_
 unfold C39 at hs
 split at hs
 ·rename_i k n s0
  obtain ⟨⟨u⟩⟩ := s0
  refine nspec_ok (Option.some.inj hs) (fun _ => ?_) hp
  refine EvP.freshV okM3 (n := 40) (by kernel_rfl) (by kernel_rfl) (args' := [.agg [aK .i64 k, aK .i64 n, aStr u]]) rfl (s39 k n u _ ?_)
  have ht : textF k n u = if k = 1 then decF (nearF n) else if k = 2 ∨ k = 3 then u else [] := rfl
  by_cases h1 : k = 1
  ·rw [show (k == 1) = true by simpa using h1, iteP_t]
   refine ⟨trivial, fun x hx => ?_⟩
   rw [show min (max n (-10000000000000 : Int)) 10000000000000 = nearF n by unfold nearF; omega, near_near] at hx
   show _ = aStr (textF k n u); rw [ht, if_pos h1, hx]; rfl
  ·rw [show (k == 1) = false by simpa using h1, iteP_f]
   by_cases h2 : k = 2
   ·rw [show (k == 2) = true by simpa using h2, iteP_t]
    show _ = aStr (textF k n u); rw [ht, if_neg h1, if_pos (.inl h2)]; rfl
   ·rw [show (k == 2) = false by simpa using h2, iteP_f]
    by_cases h3 : k = 3
    ·rw [show (k == 3) = true by simpa using h3, iteP_t]
     show _ = aStr (textF k n u); rw [ht, if_neg h1, if_pos (.inr h3)]; rfl
    ·rw [show (k == 3) = false by simpa using h3, iteP_f]
     show _ = aStr (textF k n u); rw [ht, if_neg h1, if_neg (by omega)]; rfl
 ·cases hs
theorem okM2 : TabOk Tryd.prog Door.cfg M2 := ok41 (ok40 (ok39 okM1))
theorem body_99 (a b c e : Bool) (w p k n : Int) (s : List UInt8) (hs : s.length ≤ 1000000) : wpCall M2 Door.cfg Tryd.prog 40 24 [.agg [aBool a, aBool b, aBool c, aBool e, aK .i64 w, aK .i64 p, aK .u8 99], .agg [aK .i64 k, aK .i64 n, aStr s]] heapF fun r h' => wpBack h' r fun v => v = tupS (bodyF ⟨a, b, c, e, w, p, 99⟩ k n s).1 (bodyF ⟨a, b, c, e, w, p, 99⟩ k n s).2 := by
 refine s24_99 a b c e w p k n s _ ⟨hs, fun x hx => ?_⟩
 have hb : bodyF ⟨a, b, c, e, w, p, 99⟩ k n s = if k = 1 then ([], [UInt8.ofNat (((nearF (numberF k n s)).tdiv 10000 % 256).toNat)]) else ([], (textF k n s).take 1) := rfl
 by_cases h1 : k = 1
 ·rw [show (k == 1) = true by simpa using h1, iteP_t]
  refine ⟨trivial, fun x1 hx1 => ?_⟩
  rw [hb, if_pos h1]
  have hn := near_le x
  have ht := tdiv_le hn.1 hn.2
  rw [← hx1] at ht
  have e1 : x1.tmod 256 = x1 % 256 ∨ x1.tmod 256 = x1 % 256 - 256 := by
   rcases Int.le_total 0 x1 with h | h
   ·exact .inl (tm h)
   ·have q : x1.tmod 256 = -((-x1) % 256) := by
     rw [show x1 = -(-x1) by omega, Int.neg_tmod, tm (by omega), Int.neg_neg]
    rw [q]
    omega
  have e2 : (IntKind.i64.wrap (x1.tmod 256 + 256)).tmod 256 = x1 % 256 := by
   have : x1.tmod 256 + 256 = x1 % 256 + 256 ∨ x1.tmod 256 + 256 = x1 % 256 := by omega
   rcases this with h | h <;> rw [h, wrap_in (by omega) (by omega), tm (by omega)] <;> omega
  rw [e2, wrap8_in (by omega) (by omega)]
  show AV.tup [AV.sc (.string ⟨⟨[]⟩⟩), AV.sc (.string ⟨⟨[(some (UInt8.ofNat (x1 % 256).toNat)).getD 0]⟩⟩)] = _
  rw [hx1, hx]
  rfl
 ·rw [show (k == 1) = false by simpa using h1, iteP_f]
  refine ⟨trivial, fun x1 hx1 => ?_⟩
  rw [hb, if_neg h1, show (decide ((0 : Int) ≤ min 1 (x1.length : Int)) && decide (min 1 (x1.length : Int) ≤ (x1.length : Int))) = true by simp; omega, iteP_t]
  have : x1.take (min (1 : Int) (x1.length : Int)).toNat = x1.take 1 := by
   cases x1 with
   | nil => rfl
   | cons y r => rw [show (min (1 : Int) ((y :: r).length : Int)).toNat = 1 by simp only [List.length_cons]; omega]
  rw [this, hx1]
theorem body_115 (a b c e : Bool) (w p k n : Int) (s : List UInt8) (hs : s.length ≤ 1000000) (hp1 : -1 ≤ p) : wpCall M2 Door.cfg Tryd.prog 40 24 [.agg [aBool a, aBool b, aBool c, aBool e, aK .i64 w, aK .i64 p, aK .u8 115], .agg [aK .i64 k, aK .i64 n, aStr s]] heapF fun r h' => wpBack h' r fun v => v = tupS (bodyF ⟨a, b, c, e, w, p, 115⟩ k n s).1 (bodyF ⟨a, b, c, e, w, p, 115⟩ k n s).2 := by
 refine s24_115 a b c e w p k n s _ ⟨hs, fun x _ => ⟨trivial, fun x hx => ?_⟩⟩
 have hb : bodyF ⟨a, b, c, e, w, p, 115⟩ k n s = ([], if p = -1 then textF k n s else (textF k n s).take p.toNat) := rfl
 rw [hb]
 subst hx
 by_cases hp2 : p = -1
 ·rw [show (p != -1) = false by simpa using hp2, iteP_f, if_pos hp2]
 ·rw [show (p != -1) = true by simpa using hp2, iteP_t, if_neg hp2, show (decide ((0 : Int) ≤ min p ((textF k n s).length : Int)) && decide (min p ((textF k n s).length : Int) ≤ ((textF k n s).length : Int))) = true by simp; omega, iteP_t]
  have : (textF k n s).take (min p ((textF k n s).length : Int)).toNat = (textF k n s).take p.toNat := by
   rcases Int.le_total p ((textF k n s).length : Int) with h | h
   ·rw [Int.min_eq_left h]
   ·rw [Int.min_eq_right h, Int.toNat_natCast, List.take_of_length_le (Nat.le_refl _), List.take_of_length_le (by omega)]
  rw [this]
theorem body_102 (a b c e : Bool) (w p k n : Int) (s : List UInt8) (hs : s.length ≤ 1000000) (hp1 : -1 ≤ p) (hp2 : p ≤ 255) : wpCall M2 Door.cfg Tryd.prog 40 24 [.agg [aBool a, aBool b, aBool c, aBool e, aK .i64 w, aK .i64 p, aK .u8 102], .agg [aK .i64 k, aK .i64 n, aStr s]] heapF fun r h' => wpBack h' r fun v => v = tupS (bodyF ⟨a, b, c, e, w, p, 102⟩ k n s).1 (bodyF ⟨a, b, c, e, w, p, 102⟩ k n s).2 := by
 refine s24_102 a b c e w p k n s _ ⟨hs, fun x hx => ⟨⟨hp1, hp2⟩, fun y hy => ?_⟩⟩
 have hb : bodyF ⟨a, b, c, e, w, p, 102⟩ k n s = decimalsF ⟨a, b, c, e, w, p, 102⟩ (numberF k n s) := rfl
 replace hy : y = decimalsF ⟨a, b, c, e, w, p, 102⟩ x := hy
 rw [hb, ← hx, ← hy]
theorem body_100 (a b c e : Bool) (w p k n : Int) (s : List UInt8) (hs : s.length ≤ 1000000) (hp1 : -1 ≤ p) (hp2 : p ≤ 255) : wpCall M2 Door.cfg Tryd.prog 40 24 [.agg [aBool a, aBool b, aBool c, aBool e, aK .i64 w, aK .i64 p, aK .u8 100], .agg [aK .i64 k, aK .i64 n, aStr s]] heapF fun r h' => wpBack h' r fun v => v = tupS (bodyF ⟨a, b, c, e, w, p, 100⟩ k n s).1 (bodyF ⟨a, b, c, e, w, p, 100⟩ k n s).2 := by
 refine s24_100 a b c e w p k n s _ ⟨hs, fun x hx => ⟨trivial, fun x1 hx1 => ?_⟩⟩
 have hn := near_le x
 have ht := tdiv_le hn.1 hn.2
 rw [← hx1] at ht
 refine ⟨⟨hp1, hp2, ht.1, ht.2, rfl⟩, fun y hy => ?_⟩
 have hb : bodyF ⟨a, b, c, e, w, p, 100⟩ k n s = integerF ⟨a, b, c, e, w, p, 100⟩ ((nearF (numberF k n s)).tdiv 10000) := rfl
 replace hy : y = integerF ⟨a, b, c, e, w, p, 100⟩ x1 := hy
 rw [hb, ← hx, ← hx1, ← hy]
theorem body_105 (a b c e : Bool) (w p k n : Int) (s : List UInt8) (hs : s.length ≤ 1000000) (hp1 : -1 ≤ p) (hp2 : p ≤ 255) : wpCall M2 Door.cfg Tryd.prog 40 24 [.agg [aBool a, aBool b, aBool c, aBool e, aK .i64 w, aK .i64 p, aK .u8 105], .agg [aK .i64 k, aK .i64 n, aStr s]] heapF fun r h' => wpBack h' r fun v => v = tupS (bodyF ⟨a, b, c, e, w, p, 105⟩ k n s).1 (bodyF ⟨a, b, c, e, w, p, 105⟩ k n s).2 := by
 refine s24_105 a b c e w p k n s _ ⟨hs, fun x hx => ⟨trivial, fun x1 hx1 => ?_⟩⟩
 have hn := near_le x
 have ht := tdiv_le hn.1 hn.2
 rw [← hx1] at ht
 refine ⟨⟨hp1, hp2, ht.1, ht.2, rfl⟩, fun y hy => ?_⟩
 have hb : bodyF ⟨a, b, c, e, w, p, 105⟩ k n s = integerF ⟨a, b, c, e, w, p, 105⟩ ((nearF (numberF k n s)).tdiv 10000) := rfl
 replace hy : y = integerF ⟨a, b, c, e, w, p, 105⟩ x1 := hy
 rw [hb, ← hx, ← hx1, ← hy]
theorem body_111 (a b c e : Bool) (w p k n : Int) (s : List UInt8) (hs : s.length ≤ 1000000) (hp1 : -1 ≤ p) (hp2 : p ≤ 255) : wpCall M2 Door.cfg Tryd.prog 40 24 [.agg [aBool a, aBool b, aBool c, aBool e, aK .i64 w, aK .i64 p, aK .u8 111], .agg [aK .i64 k, aK .i64 n, aStr s]] heapF fun r h' => wpBack h' r fun v => v = tupS (bodyF ⟨a, b, c, e, w, p, 111⟩ k n s).1 (bodyF ⟨a, b, c, e, w, p, 111⟩ k n s).2 := by
 refine s24_111 a b c e w p k n s _ ⟨hs, fun x hx => ⟨trivial, fun x1 hx1 => ?_⟩⟩
 have hn := near_le x
 have ht := tdiv_le hn.1 hn.2
 rw [← hx1] at ht
 refine ⟨⟨hp1, hp2, ht.1, ht.2, rfl⟩, fun y hy => ?_⟩
 have hb : bodyF ⟨a, b, c, e, w, p, 111⟩ k n s = integerF ⟨a, b, c, e, w, p, 111⟩ ((nearF (numberF k n s)).tdiv 10000) := rfl
 replace hy : y = integerF ⟨a, b, c, e, w, p, 111⟩ x1 := hy
 rw [hb, ← hx, ← hx1, ← hy]
theorem body_117 (a b c e : Bool) (w p k n : Int) (s : List UInt8) (hs : s.length ≤ 1000000) (hp1 : -1 ≤ p) (hp2 : p ≤ 255) : wpCall M2 Door.cfg Tryd.prog 40 24 [.agg [aBool a, aBool b, aBool c, aBool e, aK .i64 w, aK .i64 p, aK .u8 117], .agg [aK .i64 k, aK .i64 n, aStr s]] heapF fun r h' => wpBack h' r fun v => v = tupS (bodyF ⟨a, b, c, e, w, p, 117⟩ k n s).1 (bodyF ⟨a, b, c, e, w, p, 117⟩ k n s).2 := by
 refine s24_117 a b c e w p k n s _ ⟨hs, fun x hx => ⟨trivial, fun x1 hx1 => ?_⟩⟩
 have hn := near_le x
 have ht := tdiv_le hn.1 hn.2
 rw [← hx1] at ht
 refine ⟨⟨hp1, hp2, ht.1, ht.2, rfl⟩, fun y hy => ?_⟩
 have hb : bodyF ⟨a, b, c, e, w, p, 117⟩ k n s = integerF ⟨a, b, c, e, w, p, 117⟩ ((nearF (numberF k n s)).tdiv 10000) := rfl
 replace hy : y = integerF ⟨a, b, c, e, w, p, 117⟩ x1 := hy
 rw [hb, ← hx, ← hx1, ← hy]
theorem body_120 (a b c e : Bool) (w p k n : Int) (s : List UInt8) (hs : s.length ≤ 1000000) (hp1 : -1 ≤ p) (hp2 : p ≤ 255) : wpCall M2 Door.cfg Tryd.prog 40 24 [.agg [aBool a, aBool b, aBool c, aBool e, aK .i64 w, aK .i64 p, aK .u8 120], .agg [aK .i64 k, aK .i64 n, aStr s]] heapF fun r h' => wpBack h' r fun v => v = tupS (bodyF ⟨a, b, c, e, w, p, 120⟩ k n s).1 (bodyF ⟨a, b, c, e, w, p, 120⟩ k n s).2 := by
 refine s24_120 a b c e w p k n s _ ⟨hs, fun x hx => ⟨trivial, fun x1 hx1 => ?_⟩⟩
 have hn := near_le x
 have ht := tdiv_le hn.1 hn.2
 rw [← hx1] at ht
 refine ⟨⟨hp1, hp2, ht.1, ht.2, rfl⟩, fun y hy => ?_⟩
 have hb : bodyF ⟨a, b, c, e, w, p, 120⟩ k n s = integerF ⟨a, b, c, e, w, p, 120⟩ ((nearF (numberF k n s)).tdiv 10000) := rfl
 replace hy : y = integerF ⟨a, b, c, e, w, p, 120⟩ x1 := hy
 rw [hb, ← hx, ← hx1, ← hy]
theorem body_88 (a b c e : Bool) (w p k n : Int) (s : List UInt8) (hs : s.length ≤ 1000000) (hp1 : -1 ≤ p) (hp2 : p ≤ 255) : wpCall M2 Door.cfg Tryd.prog 40 24 [.agg [aBool a, aBool b, aBool c, aBool e, aK .i64 w, aK .i64 p, aK .u8 88], .agg [aK .i64 k, aK .i64 n, aStr s]] heapF fun r h' => wpBack h' r fun v => v = tupS (bodyF ⟨a, b, c, e, w, p, 88⟩ k n s).1 (bodyF ⟨a, b, c, e, w, p, 88⟩ k n s).2 := by
 refine s24_88 a b c e w p k n s _ ⟨hs, fun x hx => ⟨trivial, fun x1 hx1 => ?_⟩⟩
 have hn := near_le x
 have ht := tdiv_le hn.1 hn.2
 rw [← hx1] at ht
 refine ⟨⟨hp1, hp2, ht.1, ht.2, rfl⟩, fun y hy => ?_⟩
 have hb : bodyF ⟨a, b, c, e, w, p, 88⟩ k n s = integerF ⟨a, b, c, e, w, p, 88⟩ ((nearF (numberF k n s)).tdiv 10000) := rfl
 replace hy : y = integerF ⟨a, b, c, e, w, p, 88⟩ x1 := hy
 rw [hb, ← hx, ← hx1, ← hy]
theorem ok24 {T : Tab} (O : TabOk Tryd.prog Door.cfg T) : TabOk Tryd.prog Door.cfg (T.addC 24 C24) := by
 refine addC_ok O fun args h s hs hp => ?_
 unfold C24 at hs
 split at hs
 ·rename_i a b c e w p kd k n s0
  obtain ⟨⟨u⟩⟩ := s0
  refine nspec_ok (Option.some.inj hs) (fun hpre => ?_) hp
  obtain ⟨h1, h2⟩ := hpre
  replace h2 : u.length ≤ 1000000 := h2
  unfold bodyOk at h1
  simp only [Bool.and_eq_true, Bool.or_eq_true, beq_iff_eq, decide_eq_true_eq] at h1
  obtain ⟨⟨p1, p2⟩, hk⟩ := h1
  replace p1 : -1 ≤ p := p1
  replace p2 : p ≤ 255 := p2
  rcases hk with (((((((rfl | rfl) | rfl) | rfl) | rfl) | rfl) | rfl) | rfl) | rfl
  ·exact EvP.freshV okM2 (n := 40) (by kernel_rfl) (by kernel_rfl) (args' := [.agg [aBool a, aBool b, aBool c, aBool e, aK .i64 w, aK .i64 p, aK .u8 99], .agg [aK .i64 k, aK .i64 n, aStr u]]) rfl (body_99 a b c e w p k n u h2)
  ·exact EvP.freshV okM2 (n := 40) (by kernel_rfl) (by kernel_rfl) (args' := [.agg [aBool a, aBool b, aBool c, aBool e, aK .i64 w, aK .i64 p, aK .u8 115], .agg [aK .i64 k, aK .i64 n, aStr u]]) rfl (body_115 a b c e w p k n u h2 p1)
  ·exact EvP.freshV okM2 (n := 40) (by kernel_rfl) (by kernel_rfl) (args' := [.agg [aBool a, aBool b, aBool c, aBool e, aK .i64 w, aK .i64 p, aK .u8 102], .agg [aK .i64 k, aK .i64 n, aStr u]]) rfl (body_102 a b c e w p k n u h2 p1 p2)
  ·exact EvP.freshV okM2 (n := 40) (by kernel_rfl) (by kernel_rfl) (args' := [.agg [aBool a, aBool b, aBool c, aBool e, aK .i64 w, aK .i64 p, aK .u8 100], .agg [aK .i64 k, aK .i64 n, aStr u]]) rfl (body_100 a b c e w p k n u h2 p1 p2)
  ·exact EvP.freshV okM2 (n := 40) (by kernel_rfl) (by kernel_rfl) (args' := [.agg [aBool a, aBool b, aBool c, aBool e, aK .i64 w, aK .i64 p, aK .u8 105], .agg [aK .i64 k, aK .i64 n, aStr u]]) rfl (body_105 a b c e w p k n u h2 p1 p2)
  ·exact EvP.freshV okM2 (n := 40) (by kernel_rfl) (by kernel_rfl) (args' := [.agg [aBool a, aBool b, aBool c, aBool e, aK .i64 w, aK .i64 p, aK .u8 111], .agg [aK .i64 k, aK .i64 n, aStr u]]) rfl (body_111 a b c e w p k n u h2 p1 p2)
  ·exact EvP.freshV okM2 (n := 40) (by kernel_rfl) (by kernel_rfl) (args' := [.agg [aBool a, aBool b, aBool c, aBool e, aK .i64 w, aK .i64 p, aK .u8 117], .agg [aK .i64 k, aK .i64 n, aStr u]]) rfl (body_117 a b c e w p k n u h2 p1 p2)
  ·exact EvP.freshV okM2 (n := 40) (by kernel_rfl) (by kernel_rfl) (args' := [.agg [aBool a, aBool b, aBool c, aBool e, aK .i64 w, aK .i64 p, aK .u8 120], .agg [aK .i64 k, aK .i64 n, aStr u]]) rfl (body_120 a b c e w p k n u h2 p1 p2)
  ·exact EvP.freshV okM2 (n := 40) (by kernel_rfl) (by kernel_rfl) (args' := [.agg [aBool a, aBool b, aBool c, aBool e, aK .i64 w, aK .i64 p, aK .u8 88], .agg [aK .i64 k, aK .i64 n, aStr u]]) rfl (body_88 a b c e w p k n u h2 p1 p2)
 ·cases hs
theorem okY2s : TabOk Tryd.prog Door.cfg Y2 := okY2 ok24
end
end Go.Proofs.Pr
namespace Go.Proofs.Pr
open Go Go.Ef
noncomputable section
def Small (l : Cells) : Prop := ∀ e ∈ l, goodArg e ∧ shortArg e = true
theorem Small.drop {l : Cells} (h : Small l) (k : Nat) : Small (l.drop k) := fun e he => h e (List.mem_of_mem_drop he)
theorem Small.take {l : Cells} (h : Small l) (k : Nat) : Small (l.take k) := fun e he => h e (List.mem_of_mem_take he)
theorem Small.goods {l : Cells} (h : Small l) : goodsB l = true := by
 refine List.all_eq_true.2 fun e he => ?_
 obtain ⟨⟨k, n, s, rfl⟩, h2⟩ := h e he
 have : s.length ≤ 60 := of_decide_eq_true h2
 show decide (s.length ≤ 1000000) = true
 simp; omega
theorem Small.head {l : Cells} (h : Small l) : (headS l).length ≤ 60 := by
 cases l with
 | nil => show ([] : List UInt8).length ≤ 60; decide
 | cons e r =>
  obtain ⟨⟨k, n, s, rfl⟩, h2⟩ := h e (.head _)
  have : s.length ≤ 60 := of_decide_eq_true h2
  exact this
theorem strip_len (t : List UInt8) : (stripZ t).length ≤ t.length := by
 unfold stripZ
 rw [List.length_reverse]
 have := (List.dropWhile_sublist (l := t.reverse) (· == 48)).length_le
 rw [List.length_reverse] at this
 exact this
theorem dec_len (d : Int) : (decF d).length ≤ 142 := by
 have h1 := fmt_len 10 (d.natAbs / 10000)
 have h2 := fmt_len 10 (10000 + d.natAbs % 10000)
 have h3 := strip_len ((fmtN 10 (10000 + d.natAbs % 10000)).drop 1)
 rw [List.length_drop] at h3
 unfold decF
 rw [List.length_append, List.length_append]
 have a : (if d < 0 then [(45 : UInt8)] else []).length ≤ 1 := by split <;> simp
 have b : (if d.natAbs % 10000 = 0 then [] else [(46 : UInt8)] ++ stripZ ((fmtN 10 (10000 + d.natAbs % 10000)).drop 1)).length ≤ 71 := by
  split
  ·simp
  ·rw [List.length_append, List.length_singleton]; omega
 omega
theorem text_len {k n : Int} {s : List UInt8} (h : s.length ≤ 60) : (textF k n s).length ≤ 142 := by
 unfold textF
 split
 ·exact dec_len _
 ·split
  ·omega
  ·simp
theorem sign_len (d : Dir) (b : Bool) : (signF d b).length ≤ 1 := by
 unfold signF
 split
 ·simp
 ·split
  ·simp
  ·split <;> simp
theorem body_len {d : Dir} (hp : d.prec ≤ 255) (k n : Int) {s : List UInt8} (hs : s.length ≤ 60) : (bodyF d k n s).1.length + (bodyF d k n s).2.length ≤ 400 := by
 have ht := text_len (k := k) (n := n) hs
 unfold bodyF
 split
 ·split
  ·simp
  ·simp; omega
 ·split
  ·show ([] : List UInt8).length + (if d.prec = -1 then textF k n s else (textF k n s).take d.prec.toNat).length ≤ 400
   split
   ·simp; omega
   ·simp; omega
  ·split
   ·generalize numberF k n s = x
    have h1 := sign_len d (decide (x < 0) && decide (roundF x (min (placesF d) 4) ≠ 0))
    have h2 := fmt_len 10 ((roundF x (min (placesF d) 4)).natAbs / 10000)
    rw [decimals_eq d x _ rfl]
    show (signF _ _).length + (_ ++ _ : List UInt8).length ≤ 400
    rw [List.length_append]
    have hpl : placesF d ≤ 255 := by unfold placesF; split <;> omega
    split
    ·rw [List.length_append, List.length_take, List.length_singleton]
     omega
    ·rw [List.length_nil]; omega
   ·generalize (nearF (numberF k n s)).tdiv 10000 = x
    have hd : (intDigits d x).length ≤ 70 := by
     unfold intDigits
     split
     ·simp
     ·split
      ·exact fmt_len _ _
      ·dsimp only
       split
       ·exact fmt_len _ _
       ·split
        ·exact fmt_len _ _
        ·split
         ·rw [List.length_map]; exact fmt_len _ _
         ·exact fmt_len _ _
    unfold integerF
    show (if d.kind = 100 ∨ d.kind = 105 then signF d (decide (x < 0)) else []).length + (_ ++ _ : List UInt8).length ≤ 400
    rw [List.length_append, zeros_len]
    have h1 := sign_len d (decide (x < 0))
    split
    ·omega
    ·simp; omega
theorem end_kind {d : Dir} {w p : Int} {t : List UInt8} (h : (endF d w p t).2.2 = 0) : ∃ c ∈ kinds, (endF d w p t).1.kind = (c.toNat : Int) := by
 cases t with
 | nil => cases h
 | cons c r =>
  have he : endF d w p (c :: r) = if kinds.contains c then (if w > 255 ∨ p > 255 then (Dir.none, [], 2) else ({ d with width := w, prec := p, kind := c.toNat }, r, 0)) else (Dir.none, [], 1) := rfl
  rw [he] at h ⊢
  by_cases hc : kinds.contains c = true
  ·rw [if_pos hc] at h ⊢
   by_cases hw : w > 255 ∨ p > 255
   ·rw [if_pos hw] at h; cases h
   ·rw [if_neg hw]
    exact ⟨c, by simpa using hc, rfl⟩
  ·rw [if_neg hc] at h; cases h
theorem kind_body {d : Dir} {c : UInt8} (hc : c ∈ kinds) (h : d.kind = (c.toNat : Int)) (h1 : -1 ≤ d.prec) (h2 : d.prec ≤ 255) (h3 : d.kind ≠ 37) (k : Int) : bodyOk d k = true := by
 unfold bodyOk
 rw [decide_eq_true h1, decide_eq_true h2]
 have key : ∀ c ∈ kinds, ((c.toNat : Int) = 37 ∨ ((((c.toNat : Int) == 99 || (c.toNat : Int) == 115 || (c.toNat : Int) == 102 || (c.toNat : Int) == 100 || (c.toNat : Int) == 105 || (c.toNat : Int) == 111 || (c.toNat : Int) == 117 || (c.toNat : Int) == 120 || (c.toNat : Int) == 88)) = true)) := by decide
 have := (key c hc).resolve_left (by rw [← h]; exact h3)
 rw [← h] at this
 simpa using this
theorem pad_small (d : Dir) (u v : List UInt8) (h1 : d.width ≤ 255) (h2 : u.length + v.length ≤ 400) : (padF d u v).length ≤ 400 := by
 unfold padF
 split
 ·simp; omega
 ·split <;> simp <;> omega
theorem run_small : ∀ (n : Nat) (s : List UInt8), s.length < n → okS s → ∀ (l : Cells), Small l → runOk n s l ∧ ∀ o, (runF n s l o).2.2.length ≤ o.length + s.length * 200 := by
 intro n
 induction n with
 | zero => intro s h; omega
 | succ n ih =>
  intro s h hs l hl
  have bl := before_len s
  have hro : runOk (n + 1) s l = (hasPct s = true → (readF (after s)).2.2 = 0 ∧ ((resAt s l).2.1 = 0 → ((resAt s l).1.kind = 37 → runOk n (restAt s) (resAt s l).2.2) ∧
   ((resAt s l).1.kind ≠ 37 → bodyOk (resAt s l).1 (headK (resAt s l).2.2) = true ∧ (bodyAt (resAt s l)).1.length ≤ 1000 ∧ (bodyAt (resAt s l)).2.length ≤ 1000 ∧ runOk n (restAt s) ((resAt s l).2.2.drop 1)))) := rfl
  rw [hro]
  cases hp : hasPct s with
  | false =>
   refine ⟨fun h => (Bool.false_ne_true h).elim, fun o => ?_⟩
   rw [run_eq, hp]
   show (o ++ s).length ≤ _
   rw [List.length_append]; omega
  | true =>
   obtain ⟨g0, g1, g2⟩ := okS_step hs hp
   have rl := rest_len hp g0
   have hf := readF_le g0
   have rle : ∀ h0 : (resAt s l).2.1 = 0, _ := fun h0 => resolve_k (dirAt s) l h0 hf.1 hf.2.2.1
   obtain ⟨c, hc, hck⟩ := end_kind g0
   have body : (resAt s l).2.1 = 0 → (resAt s l).1.kind ≠ 37 → bodyOk (resAt s l).1 (headK (resAt s l).2.2) = true ∧ (bodyAt (resAt s l)).1.length + (bodyAt (resAt s l)).2.length ≤ 400 := by
    intro h0 hk
    obtain ⟨e1, e2, e3, e4, e5, ⟨j, hj⟩, _⟩ := rle h0
    have hsm : Small (resAt s l).2.2 := by rw [show (resAt s l).2.2 = l.drop j from hj]; exact hl.drop j
    exact ⟨kind_body hc (e1.trans hck) e4 e5 hk _, body_len e5 _ _ hsm.head⟩
   refine ⟨fun _ => ⟨g0, fun h0 => ⟨fun _ => ?_, fun hk => ?_⟩⟩, fun o => ?_⟩
   ·obtain ⟨_, _, _, _, _, ⟨j, hj⟩, _⟩ := rle h0
    rw [show (resAt s l).2.2 = l.drop j from hj]
    exact (ih _ (by omega) g1 _ (hl.drop j)).1
   ·obtain ⟨_, _, _, _, _, ⟨j, hj⟩, _⟩ := rle h0
    obtain ⟨b1, b2⟩ := body h0 hk
    refine ⟨b1, by omega, by omega, ?_⟩
    rw [show (resAt s l).2.2 = l.drop j from hj]
    exact (ih _ (by omega) g1 _ ((hl.drop j).drop 1)).1
   ·rw [run_eq, hp, if_pos rfl]
    by_cases h0 : (resAt s l).2.1 = 0
    ·rw [if_pos h0]
     obtain ⟨_, _, e3, _, _, ⟨j, hj⟩, _⟩ := rle h0
     have hsm : Small (resAt s l).2.2 := by rw [show (resAt s l).2.2 = l.drop j from hj]; exact hl.drop j
     by_cases hk : (resAt s l).1.kind = 37
     ·rw [if_pos hk]
      have pl := pad_small (resAt s l).1 [] [37] e3 (by decide)
      refine Nat.le_trans ((ih _ (by omega) g1 _ hsm).2 _) ?_
      rw [List.length_append, List.length_append]
      omega
     ·rw [if_neg hk]
      have pl := pad_small (resAt s l).1 (bodyAt (resAt s l)).1 (bodyAt (resAt s l)).2 e3 (body h0 hk).2
      refine Nat.le_trans ((ih _ (by omega) g1 _ (hsm.drop 1)).2 _) ?_
      rw [List.length_append, List.length_append]
      omega
    ·rw [if_neg h0]
     show (o ++ before s).length ≤ _
     rw [List.length_append]; omega
theorem run_ok {s : List UInt8} {l : Cells} (hl : Small l) (hs : s.length ≤ 10000) : RunOk s l := ⟨hs, hl.goods, fun h => (run_small _ s (Nat.lt_succ_self _) h l hl).1⟩
theorem sp_eq {s : List UInt8} {l : Cells} (h : okS s) (hl : Small l) (hs : s.length ≤ 60) : sprintfF s l = if (R s l []).1 ≠ 0 then ([], (R s l []).1) else ((R s l []).2.2, 0) := by
 have hb := (run_small _ s (Nat.lt_succ_self _) h l hl).2 []
 unfold sprintfF
 rw [if_neg (by rw [show checkF (s.length + 1) s = 0 from h]; decide)]
 show (if (R s l []).1 ≠ 0 then ([], (R s l []).1) else if (R s l []).2.2.length > 16384 then ([], 3) else ((R s l []).2.2, 0)) = _
 replace hb : (R s l []).2.2.length ≤ 0 + s.length * 200 := hb
 by_cases h0 : (R s l []).1 ≠ 0
 ·rw [if_pos h0, if_pos h0]
 ·rw [if_neg h0, if_neg h0, if_neg (by omega)]
end
end Go.Proofs.Pr
namespace Go.Proofs.Pr
open Go Go.Ef
noncomputable section
def M7 : Tab := (((((tab0.addC 10 C10).addC 11 C11n).addC 12 C12g).addC 17 C17).addL 7 11 L7a).addL 7 19 L7b
end
end Go.Proofs.Pr
namespace Go.Proofs.Pr
open Go Go.Ef
noncomputable section
set_option maxRecDepth 100000
theorem strip_app {q t : List UInt8} (h : (stripZ t).isEmpty = false) : stripZ (q ++ t) = q ++ stripZ t := by
 unfold stripZ at h ⊢
 rw [List.reverse_append, List.dropWhile_append]
 have h' : (t.reverse.dropWhile (· == 48)).isEmpty = false := by
  rw [List.isEmpty_reverse] at h; exact h
 rw [h', if_neg (by decide), List.reverse_append, List.reverse_reverse]
def frac4 (f : Nat) : List UInt8 := (fmtN 10 (10000 + f)).drop 1
def frac4Ok (f : Nat) : Bool := ((zerosF (4 - (fmtN 10 f).length) ++ fmtN 10 f ++ zerosF (4 - 4)).take 4 == frac4 f) && decide ((frac4 f).length = 4) && (Nat.beq f 0 || ((stripZ (frac4 f)).getLast? != some 46))
theorem frac4_all : (List.range 10000).all frac4Ok = true := by decide +kernel
theorem frac4_ok {f : Nat} (h : f < 10000) : (zerosF (4 - (fmtN 10 f).length) ++ fmtN 10 f ++ zerosF (4 - 4)).take 4 = frac4 f ∧ (frac4 f).length = 4 ∧ (f ≠ 0 → (stripZ (frac4 f)).getLast? ≠ some 46) := by
 have := List.all_eq_true.1 frac4_all f (by simp [h])
 unfold frac4Ok at this
 simp only [Bool.and_eq_true, beq_iff_eq, decide_eq_true_eq, Bool.or_eq_true] at this
 obtain ⟨⟨h1, h2⟩, h3⟩ := this
 refine ⟨h1, h2, fun h0 => ?_⟩
 rcases h3 with h3 | h3
 ·exact absurd (Nat.eq_of_beq_eq_true h3) h0
 ·simpa using h3
theorem frac4_zero : frac4 0 = [48, 48, 48, 48] := by decide +kernel
theorem hexV_dig {n : Nat} (h : n < 16) : hexV (digitC n) = n ∧ hexC (digitC n) = true := by
 have : ∀ n ∈ List.range 16, hexV (digitC n) = n ∧ hexC (digitC n) = true := by decide +kernel
 exact this n (by simp [h])
theorem hexL_dig : ∀ (k n : Nat) (acc : List UInt8), n < 16 ^ (k + 1) → hexL (digitsL 16 (k + 1) n acc) 0 = hexL acc n := by
 intro k
 induction k with
 | zero =>
  intro n acc hn
  have hn : n < 16 := by simpa using hn
  rw [dlast hn]
  show hexL acc (16 * 0 + hexV (digitC n)) = _
  rw [(hexV_dig hn).1, Int.mul_zero, Int.zero_add]
 | succ k ih =>
  intro n acc hn
  by_cases h : n < 16
  ·rw [dlast h]
   show hexL acc (16 * 0 + hexV (digitC n)) = _
   rw [(hexV_dig h).1, Int.mul_zero, Int.zero_add]
  ·rw [dstep h, ih (n / 16) _ (by rw [Nat.div_lt_iff_lt_mul (by decide)]; simpa [Nat.pow_succ] using hn)]
   show hexL acc (16 * ((n / 16 : Nat) : Int) + hexV (digitC (n % 16))) = _
   rw [(hexV_dig (Nat.mod_lt _ (by decide))).1]
   congr 1
   omega
theorem hex_len : ∀ (j f n : Nat) (acc : List UInt8), n < 16 ^ (j + 1) → j < f → (digitsL 16 f n acc).length ≤ acc.length + (j + 1) := by
 intro j
 induction j with
 | zero =>
  intro f n acc hn hf
  obtain ⟨f, rfl⟩ : ∃ f', f = f' + 1 := ⟨f - 1, by omega⟩
  have hn : n < 16 := by simpa using hn
  rw [dlast hn, List.length_cons]; omega
 | succ j ih =>
  intro f n acc hn hf
  obtain ⟨f, rfl⟩ : ∃ f', f = f' + 1 := ⟨f - 1, by omega⟩
  by_cases h : n < 16
  ·rw [dlast h, List.length_cons]; omega
  ·rw [dstep h]
   have := ih f (n / 16) (digitC (n % 16) :: acc) (by rw [Nat.div_lt_iff_lt_mul (by decide)]; simpa [Nat.pow_succ] using hn) (by omega)
   rw [List.length_cons] at this
   omega
theorem hex_all : ∀ (f n : Nat) (acc : List UInt8), acc.all hexC = true → (digitsL 16 f n acc).all hexC = true := by
 intro f
 induction f with
 | zero => intro n acc h; exact h
 | succ f ih =>
  intro n acc h
  by_cases hn : n < 16
  ·rw [dlast hn, List.all_cons, (hexV_dig hn).2, h]; rfl
  ·rw [dstep hn]
   exact ih _ _ (by rw [List.all_cons, (hexV_dig (Nat.mod_lt _ (by decide))).2, h]; rfl)
theorem dig_pos : ∀ (f n : Nat) (acc : List UInt8), acc.length ≤ (digitsL 16 f n acc).length := by
 intro f
 induction f with
 | zero => intro n acc; exact Nat.le_refl _
 | succ f ih =>
  intro n acc
  by_cases hn : n < 16
  ·rw [dlast hn, List.length_cons]; omega
  ·rw [dstep hn]
   have := ih (n / 16) (digitC (n % 16) :: acc)
   rw [List.length_cons] at this; omega
theorem hex_ok {u : Nat} (h : u < 4294967296) : hexL (fmtN 16 u) 0 = u ∧ (fmtN 16 u).length ≤ 8 ∧ 1 ≤ (fmtN 16 u).length ∧ (fmtN 16 u).all hexC = true := by
 refine ⟨?_, ?_, ?_, hex_all 70 u [] rfl⟩
 ·exact hexL_dig 69 u [] (Nat.lt_of_lt_of_le h (by decide))
 ·have := hex_len 7 70 u [] h (by decide)
  simpa [fmtN] using this
 ·unfold fmtN
  by_cases hn : u < 16
  ·rw [dlast hn]; exact Nat.le_refl _
  ·rw [dstep hn]
   exact dig_pos 69 _ [digitC (u % 16)]
abbrev cellN (n : Int) : List AV := [aK .i64 1, aK .i64 n, AV.sc (.string ⟨⟨[]⟩⟩)]
abbrev fmtDX : List UInt8 := [37, 100, 32, 37, 120]
abbrev fmtF4 : List UInt8 := [37, 46, 52, 102]
abbrev dirK (p k : Int) : Dir := ⟨false, false, false, false, -1, p, k⟩
theorem small_n (n : Int) : Small [cellN n, cellN n] := by
 intro e he
 have : e = cellN n := by
  rcases List.mem_cons.1 he with h | h
  ·exact h
  ·exact List.mem_singleton.1 h
 subst this
 exact ⟨⟨1, n, [], rfl⟩, rfl⟩
theorem small_1 (n : Int) : Small [cellN n] := by
 intro e he
 have : e = cellN n := List.mem_singleton.1 he
 subst this
 exact ⟨⟨1, n, [], rfl⟩, rfl⟩
theorem R_dx (n : Int) : R fmtDX [cellN n, cellN n] [] = (0, [], [] ++ [] ++ padF (dirK (-1) 100) (bodyF (dirK (-1) 100) 1 n []).1 (bodyF (dirK (-1) 100) 1 n []).2 ++ [32] ++ padF (dirK (-1) 120) (bodyF (dirK (-1) 120) 1 n []).1 (bodyF (dirK (-1) 120) 1 n []).2 ++ []) := by kernel_rfl
theorem R_f4 (n : Int) : R fmtF4 [cellN n] [] = (0, [], [] ++ [] ++ padF (dirK 4 102) (bodyF (dirK 4 102) 1 n []).1 (bodyF (dirK 4 102) 1 n []).2 ++ []) := by kernel_rfl
theorem pad_no (p k : Int) (a b : List UInt8) : padF (dirK p k) a b = a ++ b := by
 have e : padF (dirK p k) a b = List.replicate ((-1 : Int) - a.length - b.length).toNat 32 ++ a ++ b := rfl
 rw [e, show ((-1 : Int) - a.length - b.length).toNat = 0 by omega]; rfl
theorem near_in {n : Int} (h1 : -10000000000000 ≤ n) (h2 : n ≤ 10000000000000) : nearF n = n := by unfold nearF; omega
theorem num_1 {n : Int} (h1 : -10000000000000 ≤ n) (h2 : n ≤ 10000000000000) : numberF 1 n [] = n := near_in h1 h2
theorem zeros_neg {n : Int} (h : n ≤ 0) : zerosF n = [] := by
 unfold zerosF
 rw [show n.toNat = 0 by omega]; rfl
def hexU (n : Int) : Nat := (if n < 0 then n + 4294967296 else n).toNat
theorem body_d {n : Int} (h1 : -1000000000 ≤ n) (h2 : n ≤ 1000000000) : (bodyF (dirK (-1) 100) 1 (n * 10000) []).1 ++ (bodyF (dirK (-1) 100) 1 (n * 10000) []).2 = fmtI n := by
 have e : bodyF (dirK (-1) 100) 1 (n * 10000) [] = integerF (dirK (-1) 100) ((nearF (numberF 1 (n * 10000) [])).tdiv 10000) := rfl
 rw [e, num_1 (by omega) (by omega), near_in (by omega) (by omega), Int.mul_tdiv_cancel n (by decide)]
 show signF (dirK (-1) 100) (decide (n < 0)) ++ (zerosF (-1 - ((intDigits (dirK (-1) 100) n).length : Int)) ++ intDigits (dirK (-1) 100) n) = _
 rw [zeros_neg (by omega), List.nil_append]
 have ei : intDigits (dirK (-1) 100) n = fmtN 10 n.natAbs := by
  unfold intDigits
  rw [if_neg (by intro h; exact absurd h.2 (by decide)), if_pos (.inl rfl)]
 rw [ei]
 unfold fmtI
 by_cases hn : n < 0
 ·rw [decide_eq_true hn, if_pos hn]; rfl
 ·rw [decide_eq_false hn, if_neg hn]; rfl
theorem body_x {n : Int} (h1 : -1000000000 ≤ n) (h2 : n ≤ 1000000000) : (bodyF (dirK (-1) 120) 1 (n * 10000) []).1 ++ (bodyF (dirK (-1) 120) 1 (n * 10000) []).2 = fmtN 16 (hexU n) := by
 have e : bodyF (dirK (-1) 120) 1 (n * 10000) [] = integerF (dirK (-1) 120) ((nearF (numberF 1 (n * 10000) [])).tdiv 10000) := rfl
 rw [e, num_1 (by omega) (by omega), near_in (by omega) (by omega), Int.mul_tdiv_cancel n (by decide)]
 show [] ++ (zerosF (-1 - ((intDigits (dirK (-1) 120) n).length : Int)) ++ intDigits (dirK (-1) 120) n) = _
 rw [zeros_neg (by omega), List.nil_append, List.nil_append]
 unfold intDigits
 rw [if_neg (by intro h; exact absurd h.2 (by decide)), if_neg (by decide)]
 rfl
theorem round_4 {d : Int} (h1 : -10000000000000 ≤ d) (h2 : d ≤ 10000000000000) : roundF d 4 = d := by
 unfold roundF
 rw [near_in h1 h2, show unitF 4 = 1 from rfl]
 split <;> omega
theorem body_f {d : Int} (h1 : -10000000000000 ≤ d) (h2 : d ≤ 10000000000000) : (bodyF (dirK 4 102) 1 d []).1 ++ (bodyF (dirK 4 102) 1 d []).2 = (if d < 0 then [45] else []) ++ fmtN 10 (d.natAbs / 10000) ++ [46] ++ frac4 (d.natAbs % 10000) := by
 have e : bodyF (dirK 4 102) 1 d [] = decimalsF (dirK 4 102) (numberF 1 d []) := rfl
 rw [e, num_1 h1 h2, decimals_eq (dirK 4 102) d d (round_4 h1 h2).symm]
 show signF (dirK 4 102) (decide (d < 0) && decide (d ≠ 0)) ++ (fmtN 10 (d.natAbs / 10000) ++ ([46] ++ (zerosF (4 - (fmtN 10 (d.natAbs % 10000)).length) ++ fmtN 10 (d.natAbs % 10000) ++ zerosF (4 - 4)).take 4)) = _
 rw [(frac4_ok (Nat.mod_lt _ (by decide))).1]
 by_cases hn : d < 0
 ·rw [decide_eq_true hn, decide_eq_true (show d ≠ 0 by omega), if_pos hn]
  show [45] ++ _ = _
  simp
 ·rw [decide_eq_false hn, if_neg hn]
  show [] ++ _ = _
  simp
theorem sp_dx {n : Int} (h1 : -1000000000 ≤ n) (h2 : n ≤ 1000000000) : sprintfF fmtDX [cellN (n * 10000), cellN (n * 10000)] = (fmtI n ++ [32] ++ fmtN 16 (hexU n), 0) := by
 rw [sp_eq (show checkF 6 fmtDX = 0 by kernel_rfl) (small_n _) (by decide), R_dx, pad_no, pad_no, body_d h1 h2, body_x h1 h2]
 show ([] ++ [] ++ fmtI n ++ [32] ++ fmtN 16 (hexU n) ++ [], (0 : Int)) = _
 rw [List.append_nil, List.append_nil, List.nil_append]
theorem sp_f4 {d : Int} (h1 : -10000000000000 ≤ d) (h2 : d ≤ 10000000000000) : sprintfF fmtF4 [cellN d] = ((if d < 0 then [45] else []) ++ fmtN 10 (d.natAbs / 10000) ++ [46] ++ frac4 (d.natAbs % 10000), 0) := by
 rw [sp_eq (show checkF 5 fmtF4 = 0 by kernel_rfl) (small_1 _) (by decide), R_f4, pad_no, body_f h1 h2]
 show ([] ++ [] ++ _ ++ [], (0 : Int)) = _
 rw [List.append_nil, List.append_nil, List.nil_append]
end
end Go.Proofs.Pr
namespace Go.Proofs.Pr
open Go Go.Ef
noncomputable section
set_option maxRecDepth 100000
theorem c7 (n : Int) (d : Int) (K : AV → Prop) (h :
 iteP (decide (n < (-1000000000))) (True ∧ ∀ (x : Bool), x = true → iteP x (K (AV.sc (Value.bool true))) (K (AV.sc (Value.bool false)))) (iteP (decide (1000000000 < n)) (True ∧ ∀ (x : Bool), x = true → iteP x (K (AV.sc (Value.bool true))) (K (AV.sc (Value.bool false)))) (iteP (decide ((-10000000000000) ≤ d)) (iteP (decide (d ≤ 10000000000000))
 (RunOk [(37 : UInt8), (100 : UInt8), (32 : UInt8), (37 : UInt8), (120 : UInt8)] [[AV.sc (Value.int IntKind.i64 1), AV.sc (Value.int IntKind.i64 (IntKind.i64.wrap (n * 10000))), AV.sc (Value.string (ByteArray.mk (Array.mk [])))], [AV.sc (Value.int IntKind.i64 1), AV.sc (Value.int IntKind.i64 (IntKind.i64.wrap (n * 10000))), AV.sc (Value.string (ByteArray.mk (Array.mk [])))]] ∧
 ∀ (x : List UInt8 × Int), x = sprintfF [(37 : UInt8), (100 : UInt8), (32 : UInt8), (37 : UInt8), (120 : UInt8)] [[AV.sc (Value.int IntKind.i64 1), AV.sc (Value.int IntKind.i64 (IntKind.i64.wrap (n * 10000))), AV.sc (Value.string (ByteArray.mk (Array.mk [])))], [AV.sc (Value.int IntKind.i64 1), AV.sc (Value.int IntKind.i64 (IntKind.i64.wrap (n * 10000))),
 AV.sc (Value.string (ByteArray.mk (Array.mk [])))]] → RunOk [(37 : UInt8), (46 : UInt8), (52 : UInt8), (102 : UInt8)] [[AV.sc (Value.int IntKind.i64 1), AV.sc (Value.int IntKind.i64 d), AV.sc (Value.string (ByteArray.mk (Array.mk [])))]] ∧ ∀ (x_1 : List UInt8 × Int), x_1 = sprintfF [(37 : UInt8), (46 : UInt8), (52 : UInt8), (102 : UInt8)]
 [[AV.sc (Value.int IntKind.i64 1), AV.sc (Value.int IntKind.i64 d), AV.sc (Value.string (ByteArray.mk (Array.mk [])))]] → ((-1000000000) ≤ n ∧ n ≤ 1000000000) ∧ ∀ (x_2 : List UInt8), x_2 = fmtI n → iteP (strFits x_2 [(32 : UInt8)]) (iteP (x.snd != 0) (K (AV.sc (Value.bool false))) (iteP (x_1.snd != 0) (K (AV.sc (Value.bool false)))
 (iteP (decide ((↑x.fst.length : Int) ≤ (↑(x_2 ++ [(32 : UInt8)]).length : Int))) (K (AV.sc (Value.bool false))) (iteP (decide (0 ≤ (↑(x_2 ++ [(32 : UInt8)]).length : Int)) && decide ((↑(x_2 ++ [(32 : UInt8)]).length : Int) ≤ (↑x.fst.length : Int))) (iteP (decide (List.take (↑(x_2 ++ [(32 : UInt8)]).length : Int).toNat x.fst ≠ x_2 ++ [(32 : UInt8)])) (K (AV.sc (Value.bool false)))
 (loopAt Tryd.prog 7 11 = loopAt Tryd.prog 7 11 ∧ (I7 n d x.fst x_1.fst 0 (↑(x_2 ++ [(32 : UInt8)]).length : Int) = I7 n d x.fst x_1.fst 0 (↑(x_2 ++ [(32 : UInt8)]).length : Int) ∧ (0 : Int) = 0 ∧ 0 ≤ (↑(x_2 ++ [(32 : UInt8)]).length : Int) ∧ (↑(x_2 ++ [(32 : UInt8)]).length : Int) ≤ (↑x.fst.length : Int) ∧ x.fst.length ≤ 1000 ∧ (List.drop (↑(x_2 ++ [(32 : UInt8)]).length : Int).toNat
 x.fst).length ≤ 8 ∧ (List.drop (↑(x_2 ++ [(32 : UInt8)]).length : Int).toNat x.fst).all hexC = true) ∧ ∀ (x_3 : Int), x_3 = hexL (List.drop (↑(x_2 ++ [(32 : UInt8)]).length : Int).toNat x.fst) 0 → iteP (decide (n < 0)) (loopAt Tryd.prog 7 19 = loopAt Tryd.prog 7 19 ∧ (E7 n d x_1.fst (IntKind.i64.wrap (x_3 - 4294967296)) = E7 n d x_1.fst (IntKind.i64.wrap (x_3 - 4294967296)) ∧
 x_1.fst.length ≤ 1000) ∧ ∀ (x : List UInt8), x = stripZ x_1.fst → iteP (decide (0 < (↑x.length : Int))) (iteP (inRange (IntKind.i64.wrap ((↑x.length : Int) - 1)) x.length) (iteP (byteAt x (IntKind.i64.wrap ((↑x.length : Int) - 1)) == 46) (iteP (decide (0 ≤ IntKind.i64.wrap ((↑x.length : Int) - 1)) && decide (IntKind.i64.wrap ((↑x.length : Int) - 1) ≤ (↑x.length : Int)))
 (iteP (IntKind.i64.wrap (x_3 - 4294967296) == n) (((-10000000000000) ≤ d ∧ d ≤ 10000000000000) ∧ ∀ (x_4 : List UInt8), x_4 = decF d → iteP (decide (List.take (IntKind.i64.wrap ((↑x.length : Int) - 1)).toNat x = x_4)) (True ∧ ∀ (x : Bool), x = true → iteP x (K (AV.sc (Value.bool true))) (K (AV.sc (Value.bool false)))) (K (AV.sc (Value.bool false)))) (K (AV.sc (Value.bool false)))) False)
 (iteP (IntKind.i64.wrap (x_3 - 4294967296) == n) (((-10000000000000) ≤ d ∧ d ≤ 10000000000000) ∧ ∀ (x_4 : List UInt8), x_4 = decF d → iteP (decide (x = x_4)) (True ∧ ∀ (x : Bool), x = true → iteP x (K (AV.sc (Value.bool true))) (K (AV.sc (Value.bool false)))) (K (AV.sc (Value.bool false)))) (K (AV.sc (Value.bool false))))) False) (iteP (IntKind.i64.wrap (x_3 - 4294967296) == n)
 (((-10000000000000) ≤ d ∧ d ≤ 10000000000000) ∧ ∀ (x_4 : List UInt8), x_4 = decF d → iteP (decide (x = x_4)) (True ∧ ∀ (x : Bool), x = true → iteP x (K (AV.sc (Value.bool true))) (K (AV.sc (Value.bool false)))) (K (AV.sc (Value.bool false)))) (K (AV.sc (Value.bool false))))) (loopAt Tryd.prog 7 19 = loopAt Tryd.prog 7 19 ∧ (E7 n d x_1.fst x_3 = E7 n d x_1.fst x_3 ∧ x_1.fst.length ≤ 1000) ∧
 ∀ (x : List UInt8), x = stripZ x_1.fst → iteP (decide (0 < (↑x.length : Int))) (iteP (inRange (IntKind.i64.wrap ((↑x.length : Int) - 1)) x.length) (iteP (byteAt x (IntKind.i64.wrap ((↑x.length : Int) - 1)) == 46) (iteP (decide (0 ≤ IntKind.i64.wrap ((↑x.length : Int) - 1)) && decide (IntKind.i64.wrap ((↑x.length : Int) - 1) ≤ (↑x.length : Int))) (iteP (x_3 == n) (((-10000000000000) ≤ d ∧
 d ≤ 10000000000000) ∧ ∀ (x_4 : List UInt8), x_4 = decF d → iteP (decide (List.take (IntKind.i64.wrap ((↑x.length : Int) - 1)).toNat x = x_4)) (True ∧ ∀ (x : Bool), x = true → iteP x (K (AV.sc (Value.bool true))) (K (AV.sc (Value.bool false)))) (K (AV.sc (Value.bool false)))) (K (AV.sc (Value.bool false)))) False) (iteP (x_3 == n) (((-10000000000000) ≤ d ∧ d ≤ 10000000000000) ∧ ∀ (x_4 : List UInt8),
 x_4 = decF d → iteP (decide (x = x_4)) (True ∧ ∀ (x : Bool), x = true → iteP x (K (AV.sc (Value.bool true))) (K (AV.sc (Value.bool false)))) (K (AV.sc (Value.bool false)))) (K (AV.sc (Value.bool false))))) False) (iteP (x_3 == n) (((-10000000000000) ≤ d ∧ d ≤ 10000000000000) ∧ ∀ (x_4 : List UInt8), x_4 = decF d → iteP (decide (x = x_4)) (True ∧ ∀ (x : Bool), x = true →
 iteP x (K (AV.sc (Value.bool true))) (K (AV.sc (Value.bool false)))) (K (AV.sc (Value.bool false)))) (K (AV.sc (Value.bool false))))))) False)))) False) (True ∧ ∀ (x : Bool), x = true → iteP x (K (AV.sc (Value.bool true))) (K (AV.sc (Value.bool false))))) (True ∧ ∀ (x : Bool), x = true → iteP x (K (AV.sc (Value.bool true))) (K (AV.sc (Value.bool false))))))) :
 (fun (n d : Int) (K : AV → Prop) => wpCall M7 Door.cfg Tryd.prog 40 7 [aK .i64 n, aK .i64 d] heap0 fun r _ => K r) n d K :=
 Eq.mp (by kernel_rfl) h
end
end Go.Proofs.Pr
namespace Go.Proofs.Pr
open Go Go.Ef
noncomputable section
set_option maxRecDepth 100000
theorem awake_evF' : Door.yes (evCall Door.cfg Tryd.prog 1000 10 [] heapF) = true := by decide +kernel
theorem ok10a {T : Tab} (O : TabOk Tryd.prog Door.cfg T) : TabOk Tryd.prog Door.cfg (T.addC 10 C10) := by
 refine addC_ok O fun args h s hs hp => ?_
 unfold C10 at hs
 split at hs
 ·refine nspec_ok (Option.some.inj hs) (fun _ => ?_) hp
  obtain ⟨h', he⟩ := Door.yes_spec awake_evF'
  exact EvP.fresh (by kernel_rfl) (by kernel_rfl) (args' := []) rfl ⟨1000, _, h', he, rfl, rfl⟩
 ·cases hs
theorem okM7 : TabOk Tryd.prog Door.cfg M7 := ok7 (ok17 (ok12g (ok11n (ok10a tab0_ok)) okY2s))
def end7 (x : List UInt8) (m n d : Int) (T F : Prop) : Prop :=
 iteP (decide ((0 : Int) < (x.length : Int)))
  (iteP (inRange (IntKind.i64.wrap ((x.length : Int) - 1)) x.length)
  (iteP (byteAt x (IntKind.i64.wrap ((x.length : Int) - 1)) == 46)
   (iteP (decide ((0 : Int) ≤ IntKind.i64.wrap ((x.length : Int) - 1)) && decide (IntKind.i64.wrap ((x.length : Int) - 1) ≤ (x.length : Int)))
   (iteP (m == n) (((-10000000000000 : Int) ≤ d ∧ d ≤ 10000000000000) ∧ ∀ y : List UInt8, y = decF d → iteP (decide (List.take (IntKind.i64.wrap ((x.length : Int) - 1)).toNat x = y)) T F) F) False)
   (iteP (m == n) (((-10000000000000 : Int) ≤ d ∧ d ≤ 10000000000000) ∧ ∀ y : List UInt8, y = decF d → iteP (decide (x = y)) T F) F)) False)
  (iteP (m == n) (((-10000000000000 : Int) ≤ d ∧ d ≤ 10000000000000) ∧ ∀ y : List UInt8, y = decF d → iteP (decide (x = y)) T F) F)
def signD (d : Int) : List UInt8 := if d < 0 then [45] else []
theorem snoc_at (u : List UInt8) (c : UInt8) (h : u.length ≤ 100000) : IntKind.i64.wrap (((u ++ [c]).length : Int) - 1) = (u.length : Int) ∧ inRange (u.length : Int) (u ++ [c]).length = true ∧ byteAt (u ++ [c]) (u.length : Int) = c.toNat ∧ (0 : Int) < ((u ++ [c]).length : Int) := by
 have hl : (u ++ [c]).length = u.length + 1 := by simp
 refine ⟨by rw [wrap_in (by omega) (by omega)]; omega, by rw [inRange_iff]; omega, ?_, by omega⟩
 unfold byteAt
 rw [Int.toNat_natCast, List.getElem?_append_right (Nat.le_refl _), Nat.sub_self]; rfl
theorem end7_ok {d n : Int} {T F : Prop} (hT : T) (h1 : -10000000000000 ≤ d) (h2 : d ≤ 10000000000000) : end7 (stripZ (signD d ++ fmtN 10 (d.natAbs / 10000) ++ [46] ++ frac4 (d.natAbs % 10000))) n n d T F := by
 have hP : (signD d ++ fmtN 10 (d.natAbs / 10000)).length ≤ 71 := by
  have := fmt_len 10 (d.natAbs / 10000)
  have h : (signD d).length ≤ 1 := by unfold signD; split <;> simp
  rw [List.length_append]; omega
 have hd : decF d = signD d ++ fmtN 10 (d.natAbs / 10000) ++ (if d.natAbs % 10000 = 0 then [] else [46] ++ stripZ (frac4 (d.natAbs % 10000))) := rfl
 revert hP hd
 generalize signD d ++ fmtN 10 (d.natAbs / 10000) = q
 intro hP hd
 obtain ⟨f1, f2, f3⟩ := frac4_ok (f := d.natAbs % 10000) (Nat.mod_lt _ (by decide))
 unfold end7
 by_cases h0 : d.natAbs % 10000 = 0
 ·rw [if_pos h0, List.append_nil] at hd
  have hx : stripZ (q ++ [46] ++ frac4 (d.natAbs % 10000)) = q ++ [46] := by
   rw [h0, frac4_zero, show q ++ [46] ++ [48, 48, 48, 48] = q ++ [46] ++ [48] ++ [48] ++ [48] ++ [48] by simp, strip_zero, strip_zero, strip_zero, strip_zero, strip_stop _ _ (by decide)]
  obtain ⟨s1, s2, s3, s4⟩ := snoc_at q 46 (by omega)
  have hl : (q ++ [(46 : UInt8)]).length = q.length + 1 := by simp
  have e : (decide (0 ≤ (q.length : Int)) && decide ((q.length : Int) ≤ ((q ++ [(46 : UInt8)]).length : Int))) = true := by rw [hl]; simp; omega
  rw [hx, s1, s3, s2, decide_eq_true s4, iteP_t, iteP_t, e, show ((((46 : UInt8).toNat : Nat) : Int) == 46) = true from by decide, iteP_t, iteP_t, show (n == n) = true by simp, iteP_t, Int.toNat_natCast, List.take_left' rfl]
  refine ⟨⟨h1, h2⟩, fun y hy => ?_⟩
  rw [decide_eq_true (by rw [hy, hd]), iteP_t]
  exact hT
 ·have hne : (stripZ (frac4 (d.natAbs % 10000))).isEmpty = false := (frac_str (f := d.natAbs % 10000) (by omega) (Nat.mod_lt _ (by decide))).1
  have hx : stripZ (q ++ [46] ++ frac4 (d.natAbs % 10000)) = q ++ [46] ++ stripZ (frac4 (d.natAbs % 10000)) := strip_app hne
  rw [if_neg h0] at hd
  have hle := strip_le (frac4 (d.natAbs % 10000))
  have h46 := f3 h0
  rw [hx]
  revert hd hle h46 hne
  generalize stripZ (frac4 (d.natAbs % 10000)) = w
  intro hd hne hle h46
  rcases snoc_cases w with rfl | ⟨u, c, rfl⟩
  ·cases hne
  ·have hc : c ≠ 46 := by
    rintro rfl
    exact h46 (by simp)
   rw [f2] at hle
   have hu : u.length + 1 ≤ 4 := by simpa using hle
   have ha : q ++ [46] ++ (u ++ [c]) = (q ++ [46] ++ u) ++ [c] := (List.append_assoc _ _ _).symm
   obtain ⟨s1, s2, s3, s4⟩ := snoc_at (q ++ [46] ++ u) c (by simp; omega)
   rw [ha, s1, s3, s2, decide_eq_true s4, iteP_t, iteP_t, show ((c.toNat : Int) == 46) = false by rw [show ((c.toNat : Int) == 46) = (c == 46) from beq_byte c 46 (by decide)]; simpa using hc, iteP_f, show (n == n) = true by simp, iteP_t]
   refine ⟨⟨h1, h2⟩, fun y hy => ?_⟩
   rw [decide_eq_true (by rw [hy, hd]; simp), iteP_t]
   exact hT
theorem fmtI_len (n : Int) : (fmtI n).length ≤ 71 := by
 have := fmt_len 10 n.natAbs
 unfold fmtI
 rw [List.length_append]
 split
 ·rw [List.length_singleton]; omega
 ·rw [List.length_nil]; omega
theorem law7 (n d : Int) : ∃ m h', evCall Door.cfg Tryd.prog m 7 [aK .i64 n, aK .i64 d] heap0 = some (.sc (.bool true), h') := by
 have tail : ∀ (K : AV → Prop), K (.sc (.bool true)) → True ∧ ∀ x : Bool, x = true → iteP x (K (.sc (.bool true))) (K (.sc (.bool false))) := fun K hk => ⟨trivial, fun x hx => by subst hx; exact hk⟩
 have main : wpCall M7 Door.cfg Tryd.prog 40 7 [aK .i64 n, aK .i64 d] heap0 fun v _ => v = .sc (.bool true) := by
  refine c7 n d (fun v => v = .sc (.bool true)) ?_
  by_cases n1 : n < -1000000000
  ·rw [decide_eq_true n1, iteP_t]; exact tail (fun v => v = .sc (.bool true)) rfl
  rw [decide_eq_false n1, iteP_f]
  by_cases n2 : 1000000000 < n
  ·rw [decide_eq_true n2, iteP_t]; exact tail (fun v => v = .sc (.bool true)) rfl
  rw [decide_eq_false n2, iteP_f]
  by_cases d1 : -10000000000000 ≤ d
  case neg => rw [decide_eq_false d1, iteP_f]; exact tail (fun v => v = .sc (.bool true)) rfl
  rw [decide_eq_true d1, iteP_t]
  by_cases d2 : d ≤ 10000000000000
  case neg => rw [decide_eq_false d2, iteP_f]; exact tail (fun v => v = .sc (.bool true)) rfl
  rw [decide_eq_true d2, iteP_t, show IntKind.i64.wrap (n * 10000) = n * 10000 from wrap_in (by omega) (by omega)]
  refine ⟨run_ok (small_n (n * 10000)) (by decide), fun x hx => ?_⟩
  replace hx := hx.trans (sp_dx (n := n) (by omega) (by omega))
  subst hx
  refine ⟨run_ok (small_1 d) (by decide), fun x1 hx1 => ?_⟩
  replace hx1 := hx1.trans (sp_f4 d1 d2)
  subst hx1
  refine ⟨⟨by omega, by omega⟩, fun x2 hx2 => ?_⟩
  subst hx2
  have hI := fmtI_len n
  obtain ⟨u1, u2, u3, u4⟩ := hex_ok (u := hexU n) (by unfold hexU; split <;> omega)
  have hH : (fmtI n ++ [32]).length ≤ 72 := by rw [List.length_append, List.length_singleton]; omega
  have hA : (fmtI n ++ [32] ++ fmtN 16 (hexU n)).length = (fmtI n ++ [32]).length + (fmtN 16 (hexU n)).length := List.length_append
  rw [fits_sm2 (by omega) (by decide), iteP_t]
  rw [show ((0 : Int) != 0) = false from rfl, iteP_f, iteP_f]
  dsimp only
  rw [decide_eq_false (by omega), iteP_f]
  have e1 : (decide ((0 : Int) ≤ ((fmtI n ++ [32]).length : Int)) && decide (((fmtI n ++ [32]).length : Int) ≤ ((fmtI n ++ [32] ++ fmtN 16 (hexU n)).length : Int))) = true := by
   rw [hA, decide_eq_true (by omega), decide_eq_true (by omega)]; rfl
  rw [e1, iteP_t, Int.toNat_natCast, List.take_left' rfl, List.drop_left' rfl]
  rw [decide_eq_false (fun h => h rfl), iteP_f]
  have hB : ((if d < 0 then [45] else []) ++ fmtN 10 (d.natAbs / 10000) ++ [46] ++ frac4 (d.natAbs % 10000)).length ≤ 1000 := by
   have b1 := fmt_len 10 (d.natAbs / 10000)
   have b2 := (frac4_ok (f := d.natAbs % 10000) (Nat.mod_lt _ (by decide))).2.1
   rw [List.length_append, List.length_append, List.length_append, b2, List.length_singleton]
   split
   ·rw [List.length_singleton]; omega
   ·rw [List.length_nil]; omega
  refine ⟨rfl, ⟨rfl, rfl, by omega, by omega, by omega, u2, u4⟩, fun x3 hx3 => ?_⟩
  rw [u1] at hx3
  by_cases hn : n < 0
  ·have h3 : IntKind.i64.wrap (x3 - 4294967296) = n := by
    have : (hexU n : Int) = n + 4294967296 := by unfold hexU; rw [if_pos hn]; omega
    rw [hx3, this, wrap_in (by omega) (by omega)]; omega
   rw [decide_eq_true hn, iteP_t, h3]
   refine ⟨rfl, ⟨rfl, hB⟩, fun y hy => ?_⟩
   subst hy
   exact end7_ok (T := True ∧ ∀ x : Bool, x = true → iteP x (AV.sc (.bool true) = .sc (.bool true)) (AV.sc (.bool false) = .sc (.bool true))) (F := AV.sc (.bool false) = .sc (.bool true)) (tail (fun v => v = .sc (.bool true)) rfl) d1 d2
  ·have h3 : x3 = n := by
    have : (hexU n : Int) = n := by unfold hexU; rw [if_neg hn]; omega
    rw [hx3, this]
   rw [decide_eq_false hn, iteP_f, h3]
   refine ⟨rfl, ⟨rfl, hB⟩, fun y hy => ?_⟩
   subst hy
   exact end7_ok (T := True ∧ ∀ x : Bool, x = true → iteP x (AV.sc (.bool true) = .sc (.bool true)) (AV.sc (.bool false) = .sc (.bool true))) (F := AV.sc (.bool false) = .sc (.bool true)) (tail (fun v => v = .sc (.bool true)) rfl) d1 d2
 obtain ⟨m, v, h', h1, h2⟩ := call_okW okM7 40 7 _ _ _ main
 exact ⟨m, h', by rw [h1, h2]⟩
end
end Go.Proofs.Pr
namespace Go.Proofs
open Go Go.Ef Go.RowKit
namespace Door
theorem tab_glob {W : World} {name : String} {k : IntKind} {zs : List Int} {g : Nat} {cs : List AV} (h : Lib.TabIs Tryd.prog W name k zs) (hg : Tryd.prog.globalNamed name = some g) (hcs : cs = zs.map fun z => AV.sc (.int k z)) :
  ∀ (i : Nat) (x : AV), cs[i]? = some x → ∃ c, W.cell? ⟨g, i, none⟩ = some c ∧ V (imm0 W) x c := by
 intro i x hx
 subst hcs
 rw [List.getElem?_map] at hx
 have hi : i < zs.length := by
  rcases Nat.lt_or_ge i zs.length with h' | h'
  ·exact h'
  ·simp [List.getElem?_eq_none h'] at hx
 rw [List.getElem?_eq_getElem hi] at hx
 simp only [Option.map_some, Option.some.injEq] at hx
 subst hx
 refine ⟨_, h.cell hg i hi, ?_⟩
 have : zs.getD i 0 = zs[i] := by simp [List.getD, hi]
 rw [this]
 exact .sc rfl
def deb32 : List Int := [0, 1, 28, 2, 29, 14, 24, 3, 30, 22, 20, 15, 25, 17, 4, 8, 31, 27, 13, 23, 21, 19, 16, 7, 26, 12, 18, 6, 11, 5, 10, 9]
def deb64 : List Int := [0, 1, 56, 2, 57, 49, 28, 3, 61, 58, 42, 50, 38, 29, 17, 4, 62, 47, 59, 36, 45, 43, 51, 22, 53, 39, 33, 30, 24, 18, 12, 5, 63, 55, 48, 27, 60, 41, 37, 16, 46, 35, 44, 21, 52, 32, 23, 11, 54, 26, 40, 15, 34, 20, 31, 10, 25, 14, 19, 9, 13, 8, 7, 6]
def pow10 : List Int := [1, 10, 100, 1000, 10000, 100000, 1000000, 10000000, 100000000, 1000000000, 10000000000, 100000000000, 1000000000000, 10000000000000, 100000000000000, 1000000000000000, 10000000000000000, 100000000000000000, 1000000000000000000, 10000000000000000000]
def units : List Int := [10000, 1000, 100, 10, 1]
theorem glob_ok {W : World} {rest : List (String × DataW Unit)} {a : String × DataW Unit}
  (h : laidMet Tryd.prog (("math/bits.deBruijn32tab", Lib.tabData .u8 deb32) :: ("math/bits.deBruijn64tab", Lib.tabData .u8 deb64) :: ("internal/strconv.uint64pow10", Lib.tabData .u64 pow10) :: a :: ("texttools/decimal.units", Lib.tabData .i64 units) :: rest) W) : GlobOk cfg W := by
 have t6 : Lib.TabIs Tryd.prog W "math/bits.deBruijn32tab" .u8 deb32 := Lib.tabIs_of_head (g := 6) (by kernel_rfl) (by kernel_rfl) Tryd.underlying149 Tryd.underlying5 (by kernel_rfl) (by kernel_rfl) h
 have t7 : Lib.TabIs Tryd.prog W "math/bits.deBruijn64tab" .u8 deb64 := Lib.tabIs_of_head (g := 7) (by kernel_rfl) (by kernel_rfl) Tryd.underlying150 Tryd.underlying5 (by kernel_rfl) (by kernel_rfl) h.tail
 have t2 : Lib.TabIs Tryd.prog W "internal/strconv.uint64pow10" .u64 pow10 := Lib.tabIs_of_head (g := 2) (by kernel_rfl) (by kernel_rfl) Tryd.underlying133 Tryd.underlying113 (by kernel_rfl) (by kernel_rfl) h.tail.tail
 have t0 : Lib.TabIs Tryd.prog W "texttools/decimal.units" .i64 units := Lib.tabIs_of_head (g := 0) (by kernel_rfl) (by kernel_rfl) Tryd.underlying106 Tryd.underlying3 (by kernel_rfl) (by kernel_rfl) h.tail.tail.tail.tail
 intro g cs hg
 replace hg : globs g = some cs := hg
 unfold globs at hg
 split at hg
 ·cases hg; exact tab_glob t0 (by kernel_rfl) rfl
 ·cases hg; exact tab_glob t2 (by kernel_rfl) rfl
 ·cases hg; exact tab_glob t6 (by kernel_rfl) rfl
 ·cases hg; exact tab_glob t7 (by kernel_rfl) rfl
 ·cases hg
end Door
end Go.Proofs
