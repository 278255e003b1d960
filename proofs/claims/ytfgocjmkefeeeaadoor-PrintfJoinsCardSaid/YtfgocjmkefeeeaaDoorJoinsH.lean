/- A part of the proof: definitions and lemmas. -/
import Derived.Test.YtfgocjmkefeeeaaDoorJoinsG
import Derived.Test.YtfgocjmkefeeeaaDoorRows
import Derived.Lib.LaidTab
import Derived.Stop.LaidErr
import Derived.DataReads
import GoSem.ClaimChange
import Derived.WalkKit
import Derived.ProofKit
import Derived.Handy
import Derived.Lay
import Derived.Carry
import Derived.ChangeOld
namespace Go.Proofs.Pr
open Go Go.Ef
noncomputable section
set_option maxRecDepth 100000
theorem never_ok {T : Tab} (O : TabOk Tryd.prog Door.cfg T) (g : FuncId) : TabOk Tryd.prog Door.cfg (T.addC g C36n) := by
 refine addC_ok O fun args h s hs hp => ?_
 unfold C36n at hs
 cases hs
 exact hp.elim
theorem okM1 : TabOk Tryd.prog Door.cfg M1 := never_ok okQ1 36
theorem okM3 : TabOk Tryd.prog Door.cfg M3 := ok53g tab0_ok
theorem near_near (d : Int) : nearF (nearF d) = nearF d := by unfold nearF; omega
theorem ok39 {T : Tab} (O : TabOk Tryd.prog Door.cfg T) : TabOk Tryd.prog Door.cfg (T.addC 39 C39) := by
 refine addC_ok O fun args h s hs hp => ?_
 unfold C39 at hs
 split at hs
 ·rename_i k n s0
  obtain ⟨⟨u⟩⟩ := s0
  refine nspec_ok (Option.some.inj hs) (fun _ => ?_) hp
  refine EvP.freshV okM3 (n := 40) (by kernel_rfl) (by kernel_rfl) (args' := [.agg [aK .i64 k, aK .i64 n, aStr u]]) rfl (s39 k n u _ ?_)
  have ht : textF k n u = if k = 1 then decF (nearF n) else if k = 2 ∨ k = 3 then u else [] := rfl
  by_cases h1 : k = 1
  ·rw [show (k == 1) = true by simpa using h1, iteP_t]
   refine ⟨trivial, fun x hx => ?_⟩
   rw [show min (max n (-10000000000000 : Int)) 10000000000000 = nearF n by unfold nearF; omega, near_near] at hx
   show _ = aStr (textF k n u); rw [ht, if_pos h1, hx]; rfl
  ·rw [show (k == 1) = false by simpa using h1, iteP_f]
   by_cases h2 : k = 2
   ·rw [show (k == 2) = true by simpa using h2, iteP_t]
    show _ = aStr (textF k n u); rw [ht, if_neg h1, if_pos (.inl h2)]; rfl
   ·rw [show (k == 2) = false by simpa using h2, iteP_f]
    by_cases h3 : k = 3
    ·rw [show (k == 3) = true by simpa using h3, iteP_t]
     show _ = aStr (textF k n u); rw [ht, if_neg h1, if_pos (.inr h3)]; rfl
    ·rw [show (k == 3) = false by simpa using h3, iteP_f]
     show _ = aStr (textF k n u); rw [ht, if_neg h1, if_neg (by omega)]; rfl
 ·cases hs
theorem okM2 : TabOk Tryd.prog Door.cfg M2 := ok41 (ok40 (ok39 okM1))
theorem body_99 (a b c e : Bool) (w p k n : Int) (s : List UInt8) (hs : s.length ≤ 1000000) : wpCall M2 Door.cfg Tryd.prog 40 24 [.agg [aBool a, aBool b, aBool c, aBool e, aK .i64 w, aK .i64 p, aK .u8 99], .agg [aK .i64 k, aK .i64 n, aStr s]] heapF fun r h' => wpBack h' r fun v => v = tupS (bodyF ⟨a, b, c, e, w, p, 99⟩ k n s).1 (bodyF ⟨a, b, c, e, w, p, 99⟩ k n s).2 := by
 refine s24_99 a b c e w p k n s _ ⟨hs, fun x hx => ?_⟩
 have hb : bodyF ⟨a, b, c, e, w, p, 99⟩ k n s = if k = 1 then ([], [UInt8.ofNat (((nearF (numberF k n s)).tdiv 10000 % 256).toNat)]) else ([], (textF k n s).take 1) := rfl
 by_cases h1 : k = 1
 ·rw [show (k == 1) = true by simpa using h1, iteP_t]
  refine ⟨trivial, fun x1 hx1 => ?_⟩
  rw [hb, if_pos h1]
  have hn := near_le x
  have ht := tdiv_le hn.1 hn.2
  rw [← hx1] at ht
  have e1 : x1.tmod 256 = x1 % 256 ∨ x1.tmod 256 = x1 % 256 - 256 := by
   rcases Int.le_total 0 x1 with h | h
   ·exact .inl (tm h)
   ·have q : x1.tmod 256 = -((-x1) % 256) := by
     rw [show x1 = -(-x1) by omega, Int.neg_tmod, tm (by omega), Int.neg_neg]
    rw [q]
    omega
  have e2 : (IntKind.i64.wrap (x1.tmod 256 + 256)).tmod 256 = x1 % 256 := by
   have : x1.tmod 256 + 256 = x1 % 256 + 256 ∨ x1.tmod 256 + 256 = x1 % 256 := by omega
   rcases this with h | h <;> rw [h, wrap_in (by omega) (by omega), tm (by omega)] <;> omega
  rw [e2, wrap8_in (by omega) (by omega)]
  show AV.tup [AV.sc (.string ⟨⟨[]⟩⟩), AV.sc (.string ⟨⟨[(some (UInt8.ofNat (x1 % 256).toNat)).getD 0]⟩⟩)] = _
  rw [hx1, hx]
  rfl
 ·rw [show (k == 1) = false by simpa using h1, iteP_f]
  refine ⟨trivial, fun x1 hx1 => ?_⟩
  rw [hb, if_neg h1, show (decide ((0 : Int) ≤ min 1 (x1.length : Int)) && decide (min 1 (x1.length : Int) ≤ (x1.length : Int))) = true by simp; omega, iteP_t]
  have : x1.take (min (1 : Int) (x1.length : Int)).toNat = x1.take 1 := by
   cases x1 with
   | nil => rfl
   | cons y r => rw [show (min (1 : Int) ((y :: r).length : Int)).toNat = 1 by simp only [List.length_cons]; omega]
  rw [this, hx1]
theorem body_115 (a b c e : Bool) (w p k n : Int) (s : List UInt8) (hs : s.length ≤ 1000000) (hp1 : -1 ≤ p) : wpCall M2 Door.cfg Tryd.prog 40 24 [.agg [aBool a, aBool b, aBool c, aBool e, aK .i64 w, aK .i64 p, aK .u8 115], .agg [aK .i64 k, aK .i64 n, aStr s]] heapF fun r h' => wpBack h' r fun v => v = tupS (bodyF ⟨a, b, c, e, w, p, 115⟩ k n s).1 (bodyF ⟨a, b, c, e, w, p, 115⟩ k n s).2 := by
 refine s24_115 a b c e w p k n s _ ⟨hs, fun x _ => ⟨trivial, fun x hx => ?_⟩⟩
 have hb : bodyF ⟨a, b, c, e, w, p, 115⟩ k n s = ([], if p = -1 then textF k n s else (textF k n s).take p.toNat) := rfl
 rw [hb]
 subst hx
 by_cases hp2 : p = -1
 ·rw [show (p != -1) = false by simpa using hp2, iteP_f, if_pos hp2]
 ·rw [show (p != -1) = true by simpa using hp2, iteP_t, if_neg hp2, show (decide ((0 : Int) ≤ min p ((textF k n s).length : Int)) && decide (min p ((textF k n s).length : Int) ≤ ((textF k n s).length : Int))) = true by simp; omega, iteP_t]
  have : (textF k n s).take (min p ((textF k n s).length : Int)).toNat = (textF k n s).take p.toNat := by
   rcases Int.le_total p ((textF k n s).length : Int) with h | h
   ·rw [Int.min_eq_left h]
   ·rw [Int.min_eq_right h, Int.toNat_natCast, List.take_of_length_le (Nat.le_refl _), List.take_of_length_le (by omega)]
  rw [this]
theorem body_102 (a b c e : Bool) (w p k n : Int) (s : List UInt8) (hs : s.length ≤ 1000000) (hp1 : -1 ≤ p) (hp2 : p ≤ 255) : wpCall M2 Door.cfg Tryd.prog 40 24 [.agg [aBool a, aBool b, aBool c, aBool e, aK .i64 w, aK .i64 p, aK .u8 102], .agg [aK .i64 k, aK .i64 n, aStr s]] heapF fun r h' => wpBack h' r fun v => v = tupS (bodyF ⟨a, b, c, e, w, p, 102⟩ k n s).1 (bodyF ⟨a, b, c, e, w, p, 102⟩ k n s).2 := by
 refine s24_102 a b c e w p k n s _ ⟨hs, fun x hx => ⟨⟨hp1, hp2⟩, fun y hy => ?_⟩⟩
 have hb : bodyF ⟨a, b, c, e, w, p, 102⟩ k n s = decimalsF ⟨a, b, c, e, w, p, 102⟩ (numberF k n s) := rfl
 replace hy : y = decimalsF ⟨a, b, c, e, w, p, 102⟩ x := hy
 rw [hb, ← hx, ← hy]
theorem body_100 (a b c e : Bool) (w p k n : Int) (s : List UInt8) (hs : s.length ≤ 1000000) (hp1 : -1 ≤ p) (hp2 : p ≤ 255) : wpCall M2 Door.cfg Tryd.prog 40 24 [.agg [aBool a, aBool b, aBool c, aBool e, aK .i64 w, aK .i64 p, aK .u8 100], .agg [aK .i64 k, aK .i64 n, aStr s]] heapF fun r h' => wpBack h' r fun v => v = tupS (bodyF ⟨a, b, c, e, w, p, 100⟩ k n s).1 (bodyF ⟨a, b, c, e, w, p, 100⟩ k n s).2 := by
 refine s24_100 a b c e w p k n s _ ⟨hs, fun x hx => ⟨trivial, fun x1 hx1 => ?_⟩⟩
 have hn := near_le x
 have ht := tdiv_le hn.1 hn.2
 rw [← hx1] at ht
 refine ⟨⟨hp1, hp2, ht.1, ht.2, rfl⟩, fun y hy => ?_⟩
 have hb : bodyF ⟨a, b, c, e, w, p, 100⟩ k n s = integerF ⟨a, b, c, e, w, p, 100⟩ ((nearF (numberF k n s)).tdiv 10000) := rfl
 replace hy : y = integerF ⟨a, b, c, e, w, p, 100⟩ x1 := hy
 rw [hb, ← hx, ← hx1, ← hy]
theorem body_105 (a b c e : Bool) (w p k n : Int) (s : List UInt8) (hs : s.length ≤ 1000000) (hp1 : -1 ≤ p) (hp2 : p ≤ 255) : wpCall M2 Door.cfg Tryd.prog 40 24 [.agg [aBool a, aBool b, aBool c, aBool e, aK .i64 w, aK .i64 p, aK .u8 105], .agg [aK .i64 k, aK .i64 n, aStr s]] heapF fun r h' => wpBack h' r fun v => v = tupS (bodyF ⟨a, b, c, e, w, p, 105⟩ k n s).1 (bodyF ⟨a, b, c, e, w, p, 105⟩ k n s).2 := by
 refine s24_105 a b c e w p k n s _ ⟨hs, fun x hx => ⟨trivial, fun x1 hx1 => ?_⟩⟩
 have hn := near_le x
 have ht := tdiv_le hn.1 hn.2
 rw [← hx1] at ht
 refine ⟨⟨hp1, hp2, ht.1, ht.2, rfl⟩, fun y hy => ?_⟩
 have hb : bodyF ⟨a, b, c, e, w, p, 105⟩ k n s = integerF ⟨a, b, c, e, w, p, 105⟩ ((nearF (numberF k n s)).tdiv 10000) := rfl
 replace hy : y = integerF ⟨a, b, c, e, w, p, 105⟩ x1 := hy
 rw [hb, ← hx, ← hx1, ← hy]
theorem body_111 (a b c e : Bool) (w p k n : Int) (s : List UInt8) (hs : s.length ≤ 1000000) (hp1 : -1 ≤ p) (hp2 : p ≤ 255) : wpCall M2 Door.cfg Tryd.prog 40 24 [.agg [aBool a, aBool b, aBool c, aBool e, aK .i64 w, aK .i64 p, aK .u8 111], .agg [aK .i64 k, aK .i64 n, aStr s]] heapF fun r h' => wpBack h' r fun v => v = tupS (bodyF ⟨a, b, c, e, w, p, 111⟩ k n s).1 (bodyF ⟨a, b, c, e, w, p, 111⟩ k n s).2 := by
 refine s24_111 a b c e w p k n s _ ⟨hs, fun x hx => ⟨trivial, fun x1 hx1 => ?_⟩⟩
 have hn := near_le x
 have ht := tdiv_le hn.1 hn.2
 rw [← hx1] at ht
 refine ⟨⟨hp1, hp2, ht.1, ht.2, rfl⟩, fun y hy => ?_⟩
 have hb : bodyF ⟨a, b, c, e, w, p, 111⟩ k n s = integerF ⟨a, b, c, e, w, p, 111⟩ ((nearF (numberF k n s)).tdiv 10000) := rfl
 replace hy : y = integerF ⟨a, b, c, e, w, p, 111⟩ x1 := hy
 rw [hb, ← hx, ← hx1, ← hy]
theorem body_117 (a b c e : Bool) (w p k n : Int) (s : List UInt8) (hs : s.length ≤ 1000000) (hp1 : -1 ≤ p) (hp2 : p ≤ 255) : wpCall M2 Door.cfg Tryd.prog 40 24 [.agg [aBool a, aBool b, aBool c, aBool e, aK .i64 w, aK .i64 p, aK .u8 117], .agg [aK .i64 k, aK .i64 n, aStr s]] heapF fun r h' => wpBack h' r fun v => v = tupS (bodyF ⟨a, b, c, e, w, p, 117⟩ k n s).1 (bodyF ⟨a, b, c, e, w, p, 117⟩ k n s).2 := by
 refine s24_117 a b c e w p k n s _ ⟨hs, fun x hx => ⟨trivial, fun x1 hx1 => ?_⟩⟩
 have hn := near_le x
 have ht := tdiv_le hn.1 hn.2
 rw [← hx1] at ht
 refine ⟨⟨hp1, hp2, ht.1, ht.2, rfl⟩, fun y hy => ?_⟩
 have hb : bodyF ⟨a, b, c, e, w, p, 117⟩ k n s = integerF ⟨a, b, c, e, w, p, 117⟩ ((nearF (numberF k n s)).tdiv 10000) := rfl
 replace hy : y = integerF ⟨a, b, c, e, w, p, 117⟩ x1 := hy
 rw [hb, ← hx, ← hx1, ← hy]
theorem body_120 (a b c e : Bool) (w p k n : Int) (s : List UInt8) (hs : s.length ≤ 1000000) (hp1 : -1 ≤ p) (hp2 : p ≤ 255) : wpCall M2 Door.cfg Tryd.prog 40 24 [.agg [aBool a, aBool b, aBool c, aBool e, aK .i64 w, aK .i64 p, aK .u8 120], .agg [aK .i64 k, aK .i64 n, aStr s]] heapF fun r h' => wpBack h' r fun v => v = tupS (bodyF ⟨a, b, c, e, w, p, 120⟩ k n s).1 (bodyF ⟨a, b, c, e, w, p, 120⟩ k n s).2 := by
 refine s24_120 a b c e w p k n s _ ⟨hs, fun x hx => ⟨trivial, fun x1 hx1 => ?_⟩⟩
 have hn := near_le x
 have ht := tdiv_le hn.1 hn.2
 rw [← hx1] at ht
 refine ⟨⟨hp1, hp2, ht.1, ht.2, rfl⟩, fun y hy => ?_⟩
 have hb : bodyF ⟨a, b, c, e, w, p, 120⟩ k n s = integerF ⟨a, b, c, e, w, p, 120⟩ ((nearF (numberF k n s)).tdiv 10000) := rfl
 replace hy : y = integerF ⟨a, b, c, e, w, p, 120⟩ x1 := hy
 rw [hb, ← hx, ← hx1, ← hy]
theorem body_88 (a b c e : Bool) (w p k n : Int) (s : List UInt8) (hs : s.length ≤ 1000000) (hp1 : -1 ≤ p) (hp2 : p ≤ 255) : wpCall M2 Door.cfg Tryd.prog 40 24 [.agg [aBool a, aBool b, aBool c, aBool e, aK .i64 w, aK .i64 p, aK .u8 88], .agg [aK .i64 k, aK .i64 n, aStr s]] heapF fun r h' => wpBack h' r fun v => v = tupS (bodyF ⟨a, b, c, e, w, p, 88⟩ k n s).1 (bodyF ⟨a, b, c, e, w, p, 88⟩ k n s).2 := by
 refine s24_88 a b c e w p k n s _ ⟨hs, fun x hx => ⟨trivial, fun x1 hx1 => ?_⟩⟩
 have hn := near_le x
 have ht := tdiv_le hn.1 hn.2
 rw [← hx1] at ht
 refine ⟨⟨hp1, hp2, ht.1, ht.2, rfl⟩, fun y hy => ?_⟩
 have hb : bodyF ⟨a, b, c, e, w, p, 88⟩ k n s = integerF ⟨a, b, c, e, w, p, 88⟩ ((nearF (numberF k n s)).tdiv 10000) := rfl
 replace hy : y = integerF ⟨a, b, c, e, w, p, 88⟩ x1 := hy
 rw [hb, ← hx, ← hx1, ← hy]
theorem ok24 {T : Tab} (O : TabOk Tryd.prog Door.cfg T) : TabOk Tryd.prog Door.cfg (T.addC 24 C24) := by
 refine addC_ok O fun args h s hs hp => ?_
 unfold C24 at hs
 split at hs
 ·rename_i a b c e w p kd k n s0
  obtain ⟨⟨u⟩⟩ := s0
  refine nspec_ok (Option.some.inj hs) (fun hpre => ?_) hp
  obtain ⟨h1, h2⟩ := hpre
  replace h2 : u.length ≤ 1000000 := h2
  unfold bodyOk at h1
  simp only [Bool.and_eq_true, Bool.or_eq_true, beq_iff_eq, decide_eq_true_eq] at h1
  obtain ⟨⟨p1, p2⟩, hk⟩ := h1
  replace p1 : -1 ≤ p := p1
  replace p2 : p ≤ 255 := p2
  rcases hk with (((((((rfl | rfl) | rfl) | rfl) | rfl) | rfl) | rfl) | rfl) | rfl
  ·exact EvP.freshV okM2 (n := 40) (by kernel_rfl) (by kernel_rfl) (args' := [.agg [aBool a, aBool b, aBool c, aBool e, aK .i64 w, aK .i64 p, aK .u8 99], .agg [aK .i64 k, aK .i64 n, aStr u]]) rfl (body_99 a b c e w p k n u h2)
  ·exact EvP.freshV okM2 (n := 40) (by kernel_rfl) (by kernel_rfl) (args' := [.agg [aBool a, aBool b, aBool c, aBool e, aK .i64 w, aK .i64 p, aK .u8 115], .agg [aK .i64 k, aK .i64 n, aStr u]]) rfl (body_115 a b c e w p k n u h2 p1)
  ·exact EvP.freshV okM2 (n := 40) (by kernel_rfl) (by kernel_rfl) (args' := [.agg [aBool a, aBool b, aBool c, aBool e, aK .i64 w, aK .i64 p, aK .u8 102], .agg [aK .i64 k, aK .i64 n, aStr u]]) rfl (body_102 a b c e w p k n u h2 p1 p2)
  ·exact EvP.freshV okM2 (n := 40) (by kernel_rfl) (by kernel_rfl) (args' := [.agg [aBool a, aBool b, aBool c, aBool e, aK .i64 w, aK .i64 p, aK .u8 100], .agg [aK .i64 k, aK .i64 n, aStr u]]) rfl (body_100 a b c e w p k n u h2 p1 p2)
  ·exact EvP.freshV okM2 (n := 40) (by kernel_rfl) (by kernel_rfl) (args' := [.agg [aBool a, aBool b, aBool c, aBool e, aK .i64 w, aK .i64 p, aK .u8 105], .agg [aK .i64 k, aK .i64 n, aStr u]]) rfl (body_105 a b c e w p k n u h2 p1 p2)
  ·exact EvP.freshV okM2 (n := 40) (by kernel_rfl) (by kernel_rfl) (args' := [.agg [aBool a, aBool b, aBool c, aBool e, aK .i64 w, aK .i64 p, aK .u8 111], .agg [aK .i64 k, aK .i64 n, aStr u]]) rfl (body_111 a b c e w p k n u h2 p1 p2)
  ·exact EvP.freshV okM2 (n := 40) (by kernel_rfl) (by kernel_rfl) (args' := [.agg [aBool a, aBool b, aBool c, aBool e, aK .i64 w, aK .i64 p, aK .u8 117], .agg [aK .i64 k, aK .i64 n, aStr u]]) rfl (body_117 a b c e w p k n u h2 p1 p2)
  ·exact EvP.freshV okM2 (n := 40) (by kernel_rfl) (by kernel_rfl) (args' := [.agg [aBool a, aBool b, aBool c, aBool e, aK .i64 w, aK .i64 p, aK .u8 120], .agg [aK .i64 k, aK .i64 n, aStr u]]) rfl (body_120 a b c e w p k n u h2 p1 p2)
  ·exact EvP.freshV okM2 (n := 40) (by kernel_rfl) (by kernel_rfl) (args' := [.agg [aBool a, aBool b, aBool c, aBool e, aK .i64 w, aK .i64 p, aK .u8 88], .agg [aK .i64 k, aK .i64 n, aStr u]]) rfl (body_88 a b c e w p k n u h2 p1 p2)
 ·cases hs
theorem okY2s : TabOk Tryd.prog Door.cfg Y2 := okY2 ok24
end
end Go.Proofs.Pr
namespace Go.Proofs.Pr
open Go Go.Ef
noncomputable section
def Small (l : Cells) : Prop := ∀ e ∈ l, goodArg e ∧ shortArg e = true
theorem Small.drop {l : Cells} (h : Small l) (k : Nat) : Small (l.drop k) := fun e he => h e (List.mem_of_mem_drop he)
theorem Small.take {l : Cells} (h : Small l) (k : Nat) : Small (l.take k) := fun e he => h e (List.mem_of_mem_take he)
theorem Small.goods {l : Cells} (h : Small l) : goodsB l = true := by
 refine List.all_eq_true.2 fun e he => ?_
 obtain ⟨⟨k, n, s, rfl⟩, h2⟩ := h e he
 have : s.length ≤ 60 := of_decide_eq_true h2
 show decide (s.length ≤ 1000000) = true
 simp; omega
theorem Small.head {l : Cells} (h : Small l) : (headS l).length ≤ 60 := by
 cases l with
 | nil => show ([] : List UInt8).length ≤ 60; decide
 | cons e r =>
  obtain ⟨⟨k, n, s, rfl⟩, h2⟩ := h e (.head _)
  have : s.length ≤ 60 := of_decide_eq_true h2
  exact this
theorem strip_len (t : List UInt8) : (stripZ t).length ≤ t.length := by
 unfold stripZ
 rw [List.length_reverse]
 have := (List.dropWhile_sublist (l := t.reverse) (· == 48)).length_le
 rw [List.length_reverse] at this
 exact this
theorem dec_len (d : Int) : (decF d).length ≤ 142 := by
 have h1 := fmt_len 10 (d.natAbs / 10000)
 have h2 := fmt_len 10 (10000 + d.natAbs % 10000)
 have h3 := strip_len ((fmtN 10 (10000 + d.natAbs % 10000)).drop 1)
 rw [List.length_drop] at h3
 unfold decF
 rw [List.length_append, List.length_append]
 have a : (if d < 0 then [(45 : UInt8)] else []).length ≤ 1 := by split <;> simp
 have b : (if d.natAbs % 10000 = 0 then [] else [(46 : UInt8)] ++ stripZ ((fmtN 10 (10000 + d.natAbs % 10000)).drop 1)).length ≤ 71 := by
  split
  ·simp
  ·rw [List.length_append, List.length_singleton]; omega
 omega
theorem text_len {k n : Int} {s : List UInt8} (h : s.length ≤ 60) : (textF k n s).length ≤ 142 := by
 unfold textF
 split
 ·exact dec_len _
 ·split
  ·omega
  ·simp
theorem sign_len (d : Dir) (b : Bool) : (signF d b).length ≤ 1 := by
 unfold signF
 split
 ·simp
 ·split
  ·simp
  ·split <;> simp
theorem body_len {d : Dir} (hp : d.prec ≤ 255) (k n : Int) {s : List UInt8} (hs : s.length ≤ 60) : (bodyF d k n s).1.length + (bodyF d k n s).2.length ≤ 400 := by
 have ht := text_len (k := k) (n := n) hs
 unfold bodyF
 split
 ·split
  ·simp
  ·simp; omega
 ·split
  ·show ([] : List UInt8).length + (if d.prec = -1 then textF k n s else (textF k n s).take d.prec.toNat).length ≤ 400
   split
   ·simp; omega
   ·simp; omega
  ·split
   ·generalize numberF k n s = x
    have h1 := sign_len d (decide (x < 0) && decide (roundF x (min (placesF d) 4) ≠ 0))
    have h2 := fmt_len 10 ((roundF x (min (placesF d) 4)).natAbs / 10000)
    rw [decimals_eq d x _ rfl]
    show (signF _ _).length + (_ ++ _ : List UInt8).length ≤ 400
    rw [List.length_append]
    have hpl : placesF d ≤ 255 := by unfold placesF; split <;> omega
    split
    ·rw [List.length_append, List.length_take, List.length_singleton]
     omega
    ·rw [List.length_nil]; omega
   ·generalize (nearF (numberF k n s)).tdiv 10000 = x
    have hd : (intDigits d x).length ≤ 70 := by
     unfold intDigits
     split
     ·simp
     ·split
      ·exact fmt_len _ _
      ·dsimp only
       split
       ·exact fmt_len _ _
       ·split
        ·exact fmt_len _ _
        ·split
         ·rw [List.length_map]; exact fmt_len _ _
         ·exact fmt_len _ _
    unfold integerF
    show (if d.kind = 100 ∨ d.kind = 105 then signF d (decide (x < 0)) else []).length + (_ ++ _ : List UInt8).length ≤ 400
    rw [List.length_append, zeros_len]
    have h1 := sign_len d (decide (x < 0))
    split
    ·omega
    ·simp; omega
theorem end_kind {d : Dir} {w p : Int} {t : List UInt8} (h : (endF d w p t).2.2 = 0) : ∃ c ∈ kinds, (endF d w p t).1.kind = (c.toNat : Int) := by
 cases t with
 | nil => cases h
 | cons c r =>
  have he : endF d w p (c :: r) = if kinds.contains c then (if w > 255 ∨ p > 255 then (Dir.none, [], 2) else ({ d with width := w, prec := p, kind := c.toNat }, r, 0)) else (Dir.none, [], 1) := rfl
  rw [he] at h ⊢
  by_cases hc : kinds.contains c = true
  ·rw [if_pos hc] at h ⊢
   by_cases hw : w > 255 ∨ p > 255
   ·rw [if_pos hw] at h; cases h
   ·rw [if_neg hw]
    exact ⟨c, by simpa using hc, rfl⟩
  ·rw [if_neg hc] at h; cases h
theorem kind_body {d : Dir} {c : UInt8} (hc : c ∈ kinds) (h : d.kind = (c.toNat : Int)) (h1 : -1 ≤ d.prec) (h2 : d.prec ≤ 255) (h3 : d.kind ≠ 37) (k : Int) : bodyOk d k = true := by
 unfold bodyOk
 rw [decide_eq_true h1, decide_eq_true h2]
 have key : ∀ c ∈ kinds, ((c.toNat : Int) = 37 ∨ ((((c.toNat : Int) == 99 || (c.toNat : Int) == 115 || (c.toNat : Int) == 102 || (c.toNat : Int) == 100 || (c.toNat : Int) == 105 || (c.toNat : Int) == 111 || (c.toNat : Int) == 117 || (c.toNat : Int) == 120 || (c.toNat : Int) == 88)) = true)) := by decide
 have := (key c hc).resolve_left (by rw [← h]; exact h3)
 rw [← h] at this
 simpa using this
theorem pad_small (d : Dir) (u v : List UInt8) (h1 : d.width ≤ 255) (h2 : u.length + v.length ≤ 400) : (padF d u v).length ≤ 400 := by
 unfold padF
 split
 ·simp; omega
 ·split <;> simp <;> omega
theorem run_small : ∀ (n : Nat) (s : List UInt8), s.length < n → okS s → ∀ (l : Cells), Small l → runOk n s l ∧ ∀ o, (runF n s l o).2.2.length ≤ o.length + s.length * 200 := by
 intro n
 induction n with
 | zero => intro s h; omega
 | succ n ih =>
  intro s h hs l hl
  have bl := before_len s
  have hro : runOk (n + 1) s l = (hasPct s = true → (readF (after s)).2.2 = 0 ∧ ((resAt s l).2.1 = 0 → ((resAt s l).1.kind = 37 → runOk n (restAt s) (resAt s l).2.2) ∧
   ((resAt s l).1.kind ≠ 37 → bodyOk (resAt s l).1 (headK (resAt s l).2.2) = true ∧ (bodyAt (resAt s l)).1.length ≤ 1000 ∧ (bodyAt (resAt s l)).2.length ≤ 1000 ∧ runOk n (restAt s) ((resAt s l).2.2.drop 1)))) := rfl
  rw [hro]
  cases hp : hasPct s with
  | false =>
   refine ⟨fun h => (Bool.false_ne_true h).elim, fun o => ?_⟩
   rw [run_eq, hp]
   show (o ++ s).length ≤ _
   rw [List.length_append]; omega
  | true =>
   obtain ⟨g0, g1, g2⟩ := okS_step hs hp
   have rl := rest_len hp g0
   have hf := readF_le g0
   have rle : ∀ h0 : (resAt s l).2.1 = 0, _ := fun h0 => resolve_k (dirAt s) l h0 hf.1 hf.2.2.1
   obtain ⟨c, hc, hck⟩ := end_kind g0
   have body : (resAt s l).2.1 = 0 → (resAt s l).1.kind ≠ 37 → bodyOk (resAt s l).1 (headK (resAt s l).2.2) = true ∧ (bodyAt (resAt s l)).1.length + (bodyAt (resAt s l)).2.length ≤ 400 := by
    intro h0 hk
    obtain ⟨e1, e2, e3, e4, e5, ⟨j, hj⟩, _⟩ := rle h0
    have hsm : Small (resAt s l).2.2 := by rw [show (resAt s l).2.2 = l.drop j from hj]; exact hl.drop j
    exact ⟨kind_body hc (e1.trans hck) e4 e5 hk _, body_len e5 _ _ hsm.head⟩
   refine ⟨fun _ => ⟨g0, fun h0 => ⟨fun _ => ?_, fun hk => ?_⟩⟩, fun o => ?_⟩
   ·obtain ⟨_, _, _, _, _, ⟨j, hj⟩, _⟩ := rle h0
    rw [show (resAt s l).2.2 = l.drop j from hj]
    exact (ih _ (by omega) g1 _ (hl.drop j)).1
   ·obtain ⟨_, _, _, _, _, ⟨j, hj⟩, _⟩ := rle h0
    obtain ⟨b1, b2⟩ := body h0 hk
    refine ⟨b1, by omega, by omega, ?_⟩
    rw [show (resAt s l).2.2 = l.drop j from hj]
    exact (ih _ (by omega) g1 _ ((hl.drop j).drop 1)).1
   ·rw [run_eq, hp, if_pos rfl]
    by_cases h0 : (resAt s l).2.1 = 0
    ·rw [if_pos h0]
     obtain ⟨_, _, e3, _, _, ⟨j, hj⟩, _⟩ := rle h0
     have hsm : Small (resAt s l).2.2 := by rw [show (resAt s l).2.2 = l.drop j from hj]; exact hl.drop j
     by_cases hk : (resAt s l).1.kind = 37
     ·rw [if_pos hk]
      have pl := pad_small (resAt s l).1 [] [37] e3 (by decide)
      refine Nat.le_trans ((ih _ (by omega) g1 _ hsm).2 _) ?_
      rw [List.length_append, List.length_append]
      omega
     ·rw [if_neg hk]
      have pl := pad_small (resAt s l).1 (bodyAt (resAt s l)).1 (bodyAt (resAt s l)).2 e3 (body h0 hk).2
      refine Nat.le_trans ((ih _ (by omega) g1 _ (hsm.drop 1)).2 _) ?_
      rw [List.length_append, List.length_append]
      omega
    ·rw [if_neg h0]
     show (o ++ before s).length ≤ _
     rw [List.length_append]; omega
theorem run_ok {s : List UInt8} {l : Cells} (hl : Small l) (hs : s.length ≤ 10000) : RunOk s l := ⟨hs, hl.goods, fun h => (run_small _ s (Nat.lt_succ_self _) h l hl).1⟩
theorem sp_eq {s : List UInt8} {l : Cells} (h : okS s) (hl : Small l) (hs : s.length ≤ 60) : sprintfF s l = if (R s l []).1 ≠ 0 then ([], (R s l []).1) else ((R s l []).2.2, 0) := by
 have hb := (run_small _ s (Nat.lt_succ_self _) h l hl).2 []
 unfold sprintfF
 rw [if_neg (by rw [show checkF (s.length + 1) s = 0 from h]; decide)]
 show (if (R s l []).1 ≠ 0 then ([], (R s l []).1) else if (R s l []).2.2.length > 16384 then ([], 3) else ((R s l []).2.2, 0)) = _
 replace hb : (R s l []).2.2.length ≤ 0 + s.length * 200 := hb
 by_cases h0 : (R s l []).1 ≠ 0
 ·rw [if_pos h0, if_pos h0]
 ·rw [if_neg h0, if_neg h0, if_neg (by omega)]
end
end Go.Proofs.Pr
namespace Go.Proofs.Pr
open Go Go.Ef
noncomputable section
set_option maxRecDepth 100000
theorem v14 (s : List UInt8) (l : Cells) (k : Int) (N : Int → Prop) (X : Prop) (E : Ex → Prop) (h :
 iteP (decide (k < (↑(List.length l) : Int))) (iteP (decide (10 ≤ k)) (J14 s = J14 s ∧ X) (iteP (inRange k (List.length l)) (getI k.toNat l = some [AV.sc (Value.int IntKind.i64 (cellInt l k 0)), AV.sc (Value.int IntKind.i64 (cellInt l k 1)), AV.sc (Value.string (ByteArray.mk (Array.mk (cellStr l k 2))))] ∧ iteP (decide (60 < (↑(cellStr l k 2).length : Int))) (J14 s = J14 s ∧ X)
 (I14 s l (IntKind.i64.wrap (k + 1)) = I14 s l (IntKind.i64.wrap (k + 1)) ∧ N (IntKind.i64.wrap (k + 1)))) False)) (E14 s = E14 s ∧ E (Ex.exit 0))) :
 (fun (s : List UInt8) (l : Cells) (k : Int) (N : Int → Prop) (X : Prop) (E : Ex → Prop) => wpRound tab0 Door.cfg Tryd.prog 40 14 3 (I14 s l k) (fun τ => τ = I14 s l (slI τ 5) ∧ N (slI τ 5)) (fun e τ => match e with | .ret => τ = J14 s ∧ X | e => τ = E14 s ∧ E e)) s l k N X E :=
 Eq.mp (by kernel_rfl) h
theorem c14 (s : List UInt8) (l : Cells) (K : AV → Prop) (h :
 loopAt Tryd.prog 14 3 = loopAt Tryd.prog 14 3 ∧ (I14 s l 0 = I14 s l 0 ∧ (0 : Int) = 0 ∧ ∀ (e : List AV), List.Mem e l → ∃ (k : Int), ∃ (n : Int), ∃ (s : List UInt8), e = [AV.sc (Value.int IntKind.i64 k), AV.sc (Value.int IntKind.i64 n), AV.sc (Value.string (ByteArray.mk (Array.mk s)))]) ∧ (∀ (_ : Unit), fewL l = true →
 iteP (decide ((↑s.length : Int) ≤ 60)) (K (AV.sc (Value.bool true))) (K (AV.sc (Value.bool false)))) ∧ ∀ (_ : Unit), fewL l = false → K (AV.sc (Value.bool false))) :
 (fun (s : List UInt8) (l : Cells) (K : AV → Prop) => wpCall X1 Door.cfg Tryd.prog 40 14 [aStr s, .sl l 0] heapF fun r h' => wpBack h' r K) s l K :=
 Eq.mp (by kernel_rfl) h
theorem c14n (s : List UInt8) (K : AV → Prop) (h :
 iteP (decide ((↑s.length : Int) ≤ 60)) (K (AV.sc (Value.bool true))) (K (AV.sc (Value.bool false)))) :
 (fun (s : List UInt8) (K : AV → Prop) => wpCall tab0 Door.cfg Tryd.prog 40 14 [aStr s, nilA] heapF fun r h' => wpBack h' r K) s K :=
 Eq.mp (by kernel_rfl) h
theorem v5 (s : List UInt8) (l : Cells) (k : Int) (N : Int → Prop) (X : Bool → Prop) (E : Ex → Prop) (h :
 iteP (decide (k < (↑s.length : Int))) (iteP (inRange k s.length) (iteP (byteAt s k == 37) (True ∧ ∀ (x : Bool), x = true → iteP x (J5 s (AV.sl l 0) true = J5 s (AV.sl l 0) true ∧ X true) (J5 s (AV.sl l 0) false = J5 s (AV.sl l 0) false ∧ X false)) (I5 s (AV.sl l 0) (IntKind.i64.wrap (k + 1)) = I5 s (AV.sl l 0) (IntKind.i64.wrap (k + 1)) ∧ N (IntKind.i64.wrap (k + 1)))) False)
 (E5 s (AV.sl l 0) = E5 s (AV.sl l 0) ∧ E (Ex.exit 0))) :
 (fun (s : List UInt8) (l : Cells) (k : Int) (N : Int → Prop) (X : Bool → Prop) (E : Ex → Prop) => wpRound X2 Door.cfg Tryd.prog 40 5 5 (I5 s (.sl l 0) k) (fun τ => τ = I5 s (.sl l 0) (slI τ 5) ∧ N (slI τ 5)) (fun e τ => match e with | .ret => τ = J5 s (.sl l 0) (slB τ 4) ∧ X (slB τ 4) | e => τ = E5 s (.sl l 0) ∧ E e)) s l k N X E :=
 Eq.mp (by kernel_rfl) h
theorem c5 (s : List UInt8) (l : Cells) (K : AV → Prop) (h :
 ((∃ (l_1 : List (List AV)), AV.sl l 0 = AV.sl l_1 0 ∧ ∀ (e : List AV), List.Mem e l_1 → ∃ (k : Int), ∃ (n : Int), ∃ (s : List UInt8), e = [AV.sc (Value.int IntKind.i64 k), AV.sc (Value.int IntKind.i64 n), AV.sc (Value.string (ByteArray.mk (Array.mk s)))]) ∨ AV.sl l 0 = AV.sc (Value.slice none 0 0)) ∧ ∀ (x : Bool), x = (fewA (AV.sl l 0) && decide (s.length ≤ 60)) → iteP x
 (loopAt Tryd.prog 5 5 = loopAt Tryd.prog 5 5 ∧ (I5 s (AV.sl l 0) 0 = I5 s (AV.sl l 0) 0 ∧ (0 : Int) = 0 ∧ s.length ≤ 1000000 ∧ ((∃ (l_1 : List (List AV)), AV.sl l 0 = AV.sl l_1 0) ∨ AV.sl l 0 = AV.sc (Value.slice none 0 0))) ∧ (∀ (_ : Unit), hasPct s = false → (((∃ (l_1 : List (List AV)), AV.sl l 0 = AV.sl l_1 0) ∨ AV.sl l 0 = AV.sc (Value.slice none 0 0)) ∧ s.length ≤ 100000 ∧
 (outF s).length ≤ 16384 ∧ (hasPct s = false ∨ AV.sl l 0 = AV.sc (Value.slice none 0 0) ∧ ∃ (u : List UInt8), s = u ++ [(37 : UInt8), (37 : UInt8)] ++ u ∧ hasPct u = false)) ∧ ∀ (x : List UInt8), x = outF s → iteP (strFits s [(37 : UInt8), (37 : UInt8)]) (iteP (strFits (s ++ [(37 : UInt8), (37 : UInt8)]) s) ((((∃ (l : List (List AV)), AV.sc (Value.slice none 0 0) = AV.sl l 0) ∨
 AV.sc (Value.slice none 0 0) = AV.sc (Value.slice none 0 0)) ∧ (s ++ [(37 : UInt8), (37 : UInt8)] ++ s).length ≤ 100000 ∧ (outF (s ++ [(37 : UInt8), (37 : UInt8)] ++ s)).length ≤ 16384 ∧ (hasPct (s ++ [(37 : UInt8), (37 : UInt8)] ++ s) = false ∨ AV.sc (Value.slice none 0 0) = AV.sc (Value.slice none 0 0) ∧ ∃ (u : List UInt8), s ++ [(37 : UInt8), (37 : UInt8)] ++ s =
 u ++ [(37 : UInt8), (37 : UInt8)] ++ u ∧ hasPct u = false)) ∧ ∀ (x_1 : List UInt8), x_1 = outF (s ++ [(37 : UInt8), (37 : UInt8)] ++ s) → iteP (decide (x = s)) (iteP (strFits s [(37 : UInt8)]) (iteP (strFits (s ++ [(37 : UInt8)]) s) (iteP (decide (x_1 = s ++ [(37 : UInt8)] ++ s)) (True ∧ ∀ (x : Bool), x = true → iteP x (K (AV.sc (Value.bool true))) (K (AV.sc (Value.bool false))))
 (K (AV.sc (Value.bool false)))) False) False) (K (AV.sc (Value.bool false)))) False) False) ∧ ∀ (_ : Unit), hasPct s = true → K (AV.sc (Value.bool true))) (True ∧ ∀ (x : Bool), x = true → iteP x (K (AV.sc (Value.bool true))) (K (AV.sc (Value.bool false))))) :
 (fun (s : List UInt8) (l : Cells) (K : AV → Prop) => wpCall X3 Door.cfg Tryd.prog 40 5 [aStr s, .sl l 0] heap0 fun r _ => K r) s l K :=
 Eq.mp (by kernel_rfl) h
end
end Go.Proofs.Pr
namespace Go.Proofs.Pr
open Go Go.Ef
noncomputable section
set_option maxRecDepth 100000
theorem can14 (s : List UInt8) (l : Cells) (k : Int) : (I14 s l k).tidy [0, 1, 5] 0 = I14 s l k := by kernel_rfl
theorem cell_good {l : Cells} {k : Nat} {e : List AV} (h : l[k]? = some e) (g : goodArg e) : getI k l = some [aK .i64 (cellInt l k 0), aK .i64 (cellInt l k 1), aStr (cellStr l k 2)] ∧ shortArg e = decide ((cellStr l k 2).length ≤ 60) := by
 obtain ⟨a, b, c, rfl⟩ := g
 have hg : getI (k : Int).toNat l = some [aK .i64 a, aK .i64 b, aStr c] := by rw [getI_eq]; exact h
 have ca : ∀ j, cellAt l k j = getI j [aK .i64 a, aK .i64 b, aStr c] := fun j => by unfold cellAt; rw [hg]
 have c0 : cellInt l k 0 = a := by unfold cellInt; rw [ca]; rfl
 have c1 : cellInt l k 1 = b := by unfold cellInt; rw [ca]; rfl
 have c2 : cellStr l k 2 = c := by unfold cellStr; rw [ca]; rfl
 rw [c0, c1, c2]
 exact ⟨hg, rfl⟩
theorem few_split (l : Cells) (k : Nat) : fewL l = (decide (l.length ≤ 10) && (l.take k).all shortArg && (l.drop k).all shortArg) := by
 unfold fewL
 conv => lhs; rw [← List.take_append_drop k l]
 rw [List.all_append, List.take_append_drop, Bool.and_assoc]
theorem loop14 (s : List UInt8) (l : Cells) (hl : ∀ e ∈ l, goodArg e) :
  Ev Door.cfg Tryd.prog 14 (.loop (loopAt Tryd.prog 14 3)) (I14 s l 0) fun e τ => (fewL l = true ∧ e = .exit 0 ∧ τ = E14 s) ∨ (fewL l = false ∧ e = .ret ∧ τ = J14 s) := by
 have main := loop_rd (C := Door.cfg) (P := Tryd.prog) tab0_ok (f := 14) (i := 3) (n := 40) (fun x : Int => I14 s l x) (fun τ => slI τ 5) (fun x => 0 ≤ x ∧ x ≤ l.length ∧ x ≤ 10 ∧ (l.take x.toNat).all shortArg = true) (fun x => l.length - x.toNat)
  (K := fun e τ => match e with
   | .ret => τ = J14 s ∧ fewL l = false
   | e => τ = E14 s ∧ (e = .exit 0 ∧ fewL l = true)) (by kernel_rfl)
  (fun x t ht => ?_) (fun x hx => ?_) 0 ⟨Int.le_refl _, by omega, by omega, rfl⟩
 ·refine main.mono fun e τ h => ?_
  cases e with
  | ret => exact .inr ⟨h.2, rfl, h.1⟩
  | normal => cases h.2.1
  | exit j => exact .inl ⟨h.2.2, h.2.1, h.1⟩
 ·replace ht : Door.tidy 14 3 = some t := ht
  cases ht
  exact can14 s l x
 ·obtain ⟨q1, q2, q3, q4⟩ := hx
  obtain ⟨k, rfl⟩ := Int.eq_ofNat_of_zero_le q1
  rw [Int.toNat_natCast] at q4
  refine v14 s l k (fun y => (0 ≤ y ∧ y ≤ l.length ∧ y ≤ 10 ∧ (l.take y.toNat).all shortArg = true) ∧ l.length - y.toNat < l.length - k) (fewL l = false) (fun e => e = .exit 0 ∧ fewL l = true) ?_
  rcases Nat.lt_or_ge k l.length with hk | hk
  ·rw [show decide ((k : Int) < (l.length : Int)) = true by simp; omega, iteP_t]
   by_cases h10 : (10 : Int) ≤ k
   ·rw [decide_eq_true h10, iteP_t]
    refine ⟨rfl, ?_⟩
    unfold fewL
    rw [show decide (l.length ≤ 10) = false by simp; omega]; rfl
   ·rw [decide_eq_false h10, iteP_f, show inRange (k : Int) (List.length l) = true by rw [inRange_iff]; omega, iteP_t]
    have he : l[k]? = some l[k] := List.getElem?_eq_getElem hk
    obtain ⟨g1, g2⟩ := cell_good he (hl _ (List.getElem_mem hk))
    refine ⟨g1, ?_⟩
    have hd : l.drop k = l[k] :: l.drop (k + 1) := List.drop_eq_getElem_cons hk
    by_cases h60 : (60 : Int) < ((cellStr l k 2).length : Int)
    ·rw [decide_eq_true h60, iteP_t]
     refine ⟨rfl, ?_⟩
     rw [few_split l k, hd, List.all_cons, g2, show decide ((cellStr l k 2).length ≤ 60) = false by simp; omega]
     simp
    ·rw [decide_eq_false h60, iteP_f]
     have hj : IntKind.i64.wrap ((k : Int) + 1) = ((k + 1 : Nat) : Int) := by rw [wrap_in (by omega) (by omega)]; rfl
     rw [hj]
     refine ⟨rfl, ⟨by omega, by omega, by omega, ?_⟩, by rw [Int.toNat_natCast]; omega⟩
     rw [Int.toNat_natCast, List.take_add_one, he]
     rw [List.all_append, q4]
     show (true && (shortArg l[k] && true)) = true
     rw [g2]; simp; omega
  ·rw [show decide ((k : Int) < (l.length : Int)) = false by simp; omega, iteP_f]
   refine ⟨rfl, rfl, ?_⟩
   unfold fewL
   rw [List.take_of_length_le hk] at q4
   rw [q4, show decide (l.length ≤ 10) = true by simp; omega]; rfl
theorem okX1 : TabOk Tryd.prog Door.cfg X1 := by
 refine addL_ok tab0_ok fun σ s hs hp => ?_
 unfold L14 at hs
 split at hs
 ·rename_i s0 l k _ _ _
  cases Option.some.inj hs
  obtain ⟨e, h1, h5⟩ := hp
  have := Ev.tidied (C := Door.cfg) (P := Tryd.prog) (b := loopAt Tryd.prog 14 3) (f := 14) (σ := σ) (t := ⟨[0, 1, 5], [0, 4], 0⟩) (τ := I14 s0.data.toList l 0) (by kernel_rfl) (by rw [e, h1]; exact (can14 _ _ _).symm) (loop14 s0.data.toList l h5)
  obtain ⟨m, ex, τ, h2, h3⟩ := this
  rcases h3 with ⟨q1, rfl, rfl⟩ | ⟨q1, rfl, rfl⟩
  ·exact ⟨_, .head _, (), q1, m, h2⟩
  ·exact ⟨_, .tail _ (.head _), (), q1, m, h2⟩
 ·cases hs
theorem ok14 {T : Tab} (O : TabOk Tryd.prog Door.cfg T) : TabOk Tryd.prog Door.cfg (T.addC 14 C14) := by
 refine addC_ok O fun args h s hs hp => ?_
 unfold C14 at hs
 split at hs
 ·rename_i s0 a
  obtain ⟨⟨u⟩⟩ := s0
  refine nspec_ok (Option.some.inj hs) (fun hpre => ?_) hp
  rcases hpre with ⟨l, rfl, hl⟩ | rfl
  ·refine EvP.freshV okX1 (n := 40) (by kernel_rfl) (by kernel_rfl) (args' := [aStr u, .sl l 0]) rfl (c14 u l _ ?_)
   refine ⟨rfl, ⟨rfl, rfl, hl⟩, fun _ h1 => ?_, fun _ h1 => ?_⟩
   ·show iteP _ (_ = aBool (fewL l && decide (u.length ≤ 60))) (_ = aBool (fewL l && decide (u.length ≤ 60)))
    rw [h1]
    by_cases h2 : (u.length : Int) ≤ 60
    ·rw [decide_eq_true h2, iteP_t, show decide (u.length ≤ 60) = true by simp; omega]; rfl
    ·rw [decide_eq_false h2, iteP_f, show decide (u.length ≤ 60) = false by simp; omega]; rfl
   ·show _ = aBool (fewL l && decide (u.length ≤ 60))
    rw [h1]; rfl
  ·refine EvP.freshV tab0_ok (n := 40) (by kernel_rfl) (by kernel_rfl) (args' := [aStr u, nilA]) rfl (c14n u _ ?_)
   show iteP _ (_ = aBool (true && decide (u.length ≤ 60))) (_ = aBool (true && decide (u.length ≤ 60)))
   by_cases h2 : (u.length : Int) ≤ 60
   ·rw [decide_eq_true h2, iteP_t, show decide (u.length ≤ 60) = true by simp; omega]; rfl
   ·rw [decide_eq_false h2, iteP_f, show decide (u.length ≤ 60) = false by simp; omega]; rfl
 ·cases hs
theorem ok10 {T : Tab} (O : TabOk Tryd.prog Door.cfg T) : TabOk Tryd.prog Door.cfg (T.addC 10 C10) := by
 refine copy_ok O okR6 (g := 10) (t := C10) rfl
end
end Go.Proofs.Pr
namespace Go.Proofs.Pr
open Go Go.Ef
noncomputable section
def I6 (f g : List UInt8) (a : AV) (both : List UInt8) (e k : Int) : St := stOf 107 [(0, sStr f), (1, sStr g), (2, .v a), (7, sStr both), (8, sInt e), (9, sInt k)] [] heap0
def E6 (e : Int) : St := stOf 107 [(6, .unk), (8, sInt e)] [] heap0
def J6 (b : Bool) (e : Int) : St := stOf 107 [(6, sBool b), (8, sInt e)] [] heap0
def J1 : Tab := (((tab0.addC 14 C14).addC 10 C10).addC 8 C8).addC 12 C12g
def qE6 (E : Int → Prop) (X : Bool → Int → Prop) (e : Ex) (τ : St) : Prop :=
 match e with
 | .ret => τ = J6 (slB τ 6) (slI τ 8) ∧ X (slB τ 6) (slI τ 8)
 | .exit 0 => τ = E6 (slI τ 8) ∧ E (slI τ 8)
 | _ => False
end
end Go.Proofs.Pr
namespace Go.Proofs.Pr
open Go Go.Ef
noncomputable section
set_option maxRecDepth 100000
theorem v6 (f : List UInt8) (g : List UInt8) (l : Cells) (both : List UInt8) (e : Int) (k : Int) (N : Int → Prop) (E : Int → Prop) (X : Bool → Int → Prop) (h :
 iteP (decide (k ≤ (↑(List.length l) : Int))) (iteP (headLen 3 l) (iteP (decide (0 ≤ k) && decide (k ≤ (↑(List.length l) : Int))) (RunOk f (List.take k.toNat l) ∧ ∀ (x : List UInt8 × Int), x = sprintfF f (List.take k.toNat l) → iteP (x.snd == 18) (I6 f g (AV.sl l 0) both e (IntKind.i64.wrap (k + 1)) = I6 f g (AV.sl l 0) both e (IntKind.i64.wrap (k + 1)) ∧ N (IntKind.i64.wrap (k + 1)))
 (iteP (headLen 3 l) (iteP (decide (0 ≤ k) && decide (k ≤ (↑(List.length l) : Int))) (RunOk g (List.drop k.toNat l) ∧ ∀ (x_1 : List UInt8 × Int), x_1 = sprintfF g (List.drop k.toNat l) → iteP (x.snd != 0) (iteP (e == x.snd) (True ∧ ∀ (x : Bool), x = true → iteP x (J6 true e = J6 true e ∧ X true e) (J6 false e = J6 false e ∧ X false e)) (J6 false e = J6 false e ∧ X false e)) (iteP (x_1.snd != 0)
 (iteP (e == x_1.snd) (True ∧ ∀ (x : Bool), x = true → iteP x (J6 true e = J6 true e ∧ X true e) (J6 false e = J6 false e ∧ X false e)) (J6 false e = J6 false e ∧ X false e)) (iteP (e == 0) (iteP (strFits x.fst x_1.fst) (iteP (decide (both = x.fst ++ x_1.fst)) (True ∧ ∀ (x : Bool), x = true → iteP x (J6 true e = J6 true e ∧ X true e) (J6 false e = J6 false e ∧ X false e)) (iteP (e == 3) (True ∧
 ∀ (x : Bool), x = true → iteP x (J6 true e = J6 true e ∧ X true e) (J6 false e = J6 false e ∧ X false e)) (J6 false e = J6 false e ∧ X false e))) False) (iteP (e == 3) (True ∧ ∀ (x : Bool), x = true → iteP x (J6 true e = J6 true e ∧ X true e) (J6 false e = J6 false e ∧ X false e)) (J6 false e = J6 false e ∧ X false e))))) False) False)) False) False) (E6 e = E6 e ∧ E e)) :
 (fun (f g : List UInt8) (l : Cells) (both : List UInt8) (e k : Int) (N : Int → Prop) (E : Int → Prop) (X : Bool → Int → Prop) => wpRound J1 Door.cfg Tryd.prog 40 6 6 (I6 f g (.sl l 0) both e k) (fun τ => τ = I6 f g (.sl l 0) both e (slI τ 9) ∧ N (slI τ 9)) (qE6 E X)) f g l both e k N E X :=
 Eq.mp (by kernel_rfl) h
theorem v6n0 (f : List UInt8) (g : List UInt8) (both : List UInt8) (e : Int) (N : Int → Prop) (E : Int → Prop) (X : Bool → Int → Prop) (h :
 RunOk f [] ∧ ∀ (x : List UInt8 × Int), x = sprintfF f [] → iteP (x.snd == 18) (I6 f g (AV.sc (Value.slice none 0 0)) both e 1 = I6 f g (AV.sc (Value.slice none 0 0)) both e 1 ∧ N 1) (RunOk g [] ∧ ∀ (x_1 : List UInt8 × Int), x_1 = sprintfF g [] → iteP (x.snd != 0) (iteP (e == x.snd) (True ∧ ∀ (x : Bool), x = true → iteP x (J6 true e = J6 true e ∧ X true e) (J6 false e = J6 false e ∧ X false e))
 (J6 false e = J6 false e ∧ X false e)) (iteP (x_1.snd != 0) (iteP (e == x_1.snd) (True ∧ ∀ (x : Bool), x = true → iteP x (J6 true e = J6 true e ∧ X true e) (J6 false e = J6 false e ∧ X false e)) (J6 false e = J6 false e ∧ X false e)) (iteP (e == 0) (iteP (strFits x.fst x_1.fst) (iteP (decide (both = x.fst ++ x_1.fst)) (True ∧ ∀ (x : Bool),
 x = true → iteP x (J6 true e = J6 true e ∧ X true e) (J6 false e = J6 false e ∧ X false e)) (iteP (e == 3) (True ∧ ∀ (x : Bool), x = true → iteP x (J6 true e = J6 true e ∧ X true e) (J6 false e = J6 false e ∧ X false e)) (J6 false e = J6 false e ∧ X false e))) False) (iteP (e == 3) (True ∧ ∀ (x : Bool), x = true → iteP x (J6 true e = J6 true e ∧ X true e) (J6 false e = J6 false e ∧ X false e))
 (J6 false e = J6 false e ∧ X false e)))))) :
 (fun (f g : List UInt8) (both : List UInt8) (e : Int) (N : Int → Prop) (E : Int → Prop) (X : Bool → Int → Prop) => wpRound J1 Door.cfg Tryd.prog 40 6 6 (I6 f g nilA both e 0) (fun τ => τ = I6 f g nilA both e (slI τ 9) ∧ N (slI τ 9)) (qE6 E X)) f g both e N E X :=
 Eq.mp (by kernel_rfl) h
theorem v6n1 (f : List UInt8) (g : List UInt8) (both : List UInt8) (e : Int) (N : Int → Prop) (E : Int → Prop) (X : Bool → Int → Prop) (h :
 E6 e = E6 e ∧ E e) :
 (fun (f g : List UInt8) (both : List UInt8) (e : Int) (N : Int → Prop) (E : Int → Prop) (X : Bool → Int → Prop) => wpRound J1 Door.cfg Tryd.prog 40 6 6 (I6 f g nilA both e 1) (fun τ => τ = I6 f g nilA both e (slI τ 9) ∧ N (slI τ 9)) (qE6 E X)) f g both e N E X :=
 Eq.mp (by kernel_rfl) h
end
end Go.Proofs.Pr
namespace Go.Proofs.Pr
open Go Go.Ef
noncomputable section
structure JOk (f g : List UInt8) (l : Cells) (both : List UInt8) (e : Int) : Prop where
 hf : okS f
 hg : okS g
 hfl : f.length ≤ 30
 hgl : g.length ≤ 30
 hl : Small l
 hn : l.length ≤ 10
 he : (both, e) = sprintfF (f ++ g) l
def L6 (σ : St) : Option LSpec :=
 match σ.at 0, σ.at 1, σ.at 2, σ.at 7, σ.at 8, σ.at 9 with
 | .v (.sc (.string f)), .v (.sc (.string g)), .v (.sl l 0), .v (.sc (.string both)), .v (.sc (.int .i64 e)), .v (.sc (.int .i64 k)) => some { pre := σ.tidy [0, 1, 2, 7, 8, 9] 0 = I6 f.data.toList g.data.toList (.sl l 0) both.data.toList e k ∧ k = 0 ∧ JOk f.data.toList g.data.toList l both.data.toList e, alts := [{ α := Unit, post := fun _ => True, ex := .ret, st := fun _ => J6 true e }, { α := Unit, post := fun _ => e ≠ 0, ex := .exit 0, st := fun _ => E6 e }] }
 | .v (.sc (.string f)), .v (.sc (.string g)), .v (.sc (.slice none 0 0)), .v (.sc (.string both)), .v (.sc (.int .i64 e)), .v (.sc (.int .i64 k)) => some { pre := σ.tidy [0, 1, 2, 7, 8, 9] 0 = I6 f.data.toList g.data.toList nilA both.data.toList e k ∧ k = 0 ∧ JOk f.data.toList g.data.toList [] both.data.toList e, alts := [{ α := Unit, post := fun _ => True, ex := .ret, st := fun _ => J6 true e }, { α := Unit, post := fun _ => e ≠ 0, ex := .exit 0, st := fun _ => E6 e }] }
 | _, _, _, _, _, _ => none
def J2 : Tab := J1.addL 6 6 L6
end
end Go.Proofs.Pr
namespace Go.Proofs.Pr
open Go Go.Ef
noncomputable section
set_option maxRecDepth 100000
theorem c6 (f : List UInt8) (g : List UInt8) (l : Cells) (K : AV → Prop) (h :
 iteP (decide (30 < (↑f.length : Int))) (True ∧ ∀ (x : Bool), x = true → iteP x (K (AV.sc (Value.bool true))) (K (AV.sc (Value.bool false)))) (iteP (decide (30 < (↑g.length : Int))) (True ∧ ∀ (x : Bool), x = true → iteP x (K (AV.sc (Value.bool true))) (K (AV.sc (Value.bool false)))) (((∃ (l_1 : List (List AV)), AV.sl l 0 = AV.sl l_1 0 ∧ ∀ (e : List AV), List.Mem e l_1 → ∃ (k : Int), ∃ (n : Int),
 ∃ (s : List UInt8), e = [AV.sc (Value.int IntKind.i64 k), AV.sc (Value.int IntKind.i64 n), AV.sc (Value.string (ByteArray.mk (Array.mk s)))]) ∨ AV.sl l 0 = AV.sc (Value.slice none 0 0)) ∧ ∀ (x : Bool), x = (fewA (AV.sl l 0) && true) → iteP x (f.length.le 1000000 ∧ ∀ (x : Int), x = checkF (f.length + 1) f → iteP (x != 0) (True ∧
 ∀ (x : Bool), x = true → iteP x (K (AV.sc (Value.bool true))) (K (AV.sc (Value.bool false)))) (g.length.le 1000000 ∧ ∀ (x : Int), x = checkF (g.length + 1) g → iteP (x != 0) (True ∧ ∀ (x : Bool), x = true → iteP x (K (AV.sc (Value.bool true))) (K (AV.sc (Value.bool false)))) (iteP (strFits f g) (RunOk (f ++ g) l ∧ ∀ (x : List UInt8 × Int), x = sprintfF (f ++ g) l →
 loopAt Tryd.prog 6 6 = loopAt Tryd.prog 6 6 ∧ (I6 f g (AV.sl l 0) x.fst x.snd 0 = I6 f g (AV.sl l 0) x.fst x.snd 0 ∧ (0 : Int) = 0 ∧ JOk f g l x.fst x.snd) ∧ (∀ (_ : Unit), True → K (AV.sc (Value.bool true))) ∧ ∀ (_ : Unit), x.snd ≠ 0 → iteP (x.snd != 0) (True ∧ ∀ (x : Bool), x = true → iteP x (K (AV.sc (Value.bool true))) (K (AV.sc (Value.bool false)))) (K (AV.sc (Value.bool false)))) False)))
 (True ∧ ∀ (x : Bool), x = true → iteP x (K (AV.sc (Value.bool true))) (K (AV.sc (Value.bool false))))))) :
 (fun (f g : List UInt8) (l : Cells) (K : AV → Prop) => wpCall J2 Door.cfg Tryd.prog 40 6 [aStr f, aStr g, .sl l 0] heap0 fun r _ => K r) f g l K :=
 Eq.mp (by kernel_rfl) h
theorem c6n (f : List UInt8) (g : List UInt8) (K : AV → Prop) (h :
 iteP (decide (30 < (↑f.length : Int))) (True ∧ ∀ (x : Bool), x = true → iteP x (K (AV.sc (Value.bool true))) (K (AV.sc (Value.bool false)))) (iteP (decide (30 < (↑g.length : Int))) (True ∧ ∀ (x : Bool), x = true → iteP x (K (AV.sc (Value.bool true))) (K (AV.sc (Value.bool false)))) (((∃ (l : List (List AV)), AV.sc (Value.slice none 0 0) = AV.sl l 0 ∧ ∀ (e : List AV), List.Mem e l → ∃ (k : Int),
 ∃ (n : Int), ∃ (s : List UInt8), e = [AV.sc (Value.int IntKind.i64 k), AV.sc (Value.int IntKind.i64 n), AV.sc (Value.string (ByteArray.mk (Array.mk s)))]) ∨ AV.sc (Value.slice none 0 0) = AV.sc (Value.slice none 0 0)) ∧ ∀ (x : Bool), x = true → iteP x (f.length.le 1000000 ∧ ∀ (x : Int), x = checkF (f.length + 1) f → iteP (x != 0) (True ∧
 ∀ (x : Bool), x = true → iteP x (K (AV.sc (Value.bool true))) (K (AV.sc (Value.bool false)))) (g.length.le 1000000 ∧ ∀ (x : Int), x = checkF (g.length + 1) g → iteP (x != 0) (True ∧ ∀ (x : Bool), x = true → iteP x (K (AV.sc (Value.bool true))) (K (AV.sc (Value.bool false)))) (iteP (strFits f g) (RunOk (f ++ g) [] ∧ ∀ (x : List UInt8 × Int), x = sprintfF (f ++ g) [] →
 loopAt Tryd.prog 6 6 = loopAt Tryd.prog 6 6 ∧ (I6 f g (AV.sc (Value.slice none 0 0)) x.fst x.snd 0 = I6 f g (AV.sc (Value.slice none 0 0)) x.fst x.snd 0 ∧ (0 : Int) = 0 ∧ JOk f g [] x.fst x.snd) ∧ (∀ (_ : Unit), True → K (AV.sc (Value.bool true))) ∧ ∀ (_ : Unit), x.snd ≠ 0 → iteP (x.snd != 0) (True ∧ ∀ (x : Bool), x = true → iteP x (K (AV.sc (Value.bool true))) (K (AV.sc (Value.bool false))))
 (K (AV.sc (Value.bool false)))) False))) (True ∧ ∀ (x : Bool), x = true → iteP x (K (AV.sc (Value.bool true))) (K (AV.sc (Value.bool false))))))) :
 (fun (f g : List UInt8) (K : AV → Prop) => wpCall J2 Door.cfg Tryd.prog 40 6 [aStr f, aStr g, nilA] heap0 fun r _ => K r) f g K :=
 Eq.mp (by kernel_rfl) h
end
end Go.Proofs.Pr
namespace Go.Proofs.Pr
open Go Go.Ef
noncomputable section
set_option maxRecDepth 100000
theorem sp_snd {s : List UInt8} {l : Cells} (h : okS s) (hl : Small l) (hs : s.length ≤ 60) : (sprintfF s l).2 = (R s l []).1 ∧ ((R s l []).1 = 0 → (sprintfF s l).1 = (R s l []).2.2) := by
 rw [sp_eq h hl hs]
 by_cases h0 : (R s l []).1 ≠ 0
 ·rw [if_pos h0]; exact ⟨rfl, fun h => absurd h h0⟩
 ·rw [if_neg h0]
  exact ⟨(Classical.not_not.1 h0).symm, fun _ => rfl⟩
theorem joins_facts {f g : List UInt8} {l : Cells} {both : List UInt8} {e : Int} (J : JOk f g l both e) {k : Nat} (hk : k ≤ l.length) (first : ∀ j, j < k → (sprintfF f (l.take j)).2 = 18) (hx : (sprintfF f (l.take k)).2 ≠ 18) :
  ((sprintfF f (l.take k)).2 ≠ 0 → e = (sprintfF f (l.take k)).2) ∧ ((sprintfF f (l.take k)).2 = 0 → (sprintfF g (l.drop k)).2 ≠ 0 → e = (sprintfF g (l.drop k)).2) ∧
   ((sprintfF f (l.take k)).2 = 0 → (sprintfF g (l.drop k)).2 = 0 → e = 0 ∧ both = (sprintfF f (l.take k)).1 ++ (sprintfF g (l.drop k)).1) := by
 have hfg : okS (f ++ g) := ok_app J.hg _ f (Nat.lt_succ_self _) J.hf
 have lf := J.hfl
 have lg := J.hgl
 obtain ⟨x1, x2⟩ := sp_snd J.hf (J.hl.take k) (by omega)
 obtain ⟨y1, y2⟩ := sp_snd J.hg (J.hl.drop k) (by omega)
 obtain ⟨z1, z2⟩ := sp_snd hfg J.hl (by rw [List.length_append]; omega)
 have e1 : (sprintfF (f ++ g) l).1 = both := by rw [← J.he]
 have e2 : (sprintfF (f ++ g) l).2 = e := by rw [← J.he]
 rw [e2] at z1
 rw [e1] at z2
 rw [x1] at hx ⊢
 rw [y1]
 have first' : ∀ j, j < k → (R f (l.take j) []).1 = 18 := fun j hj => by
  rw [← (sp_snd J.hf (J.hl.take j) (by omega)).1]; exact first j hj
 obtain ⟨A, B⟩ := joins_run J.hf J.hg hk first' hx
 refine ⟨fun h => by rw [z1]; exact A h, fun h h' => ?_, fun h h' => ?_⟩
 ·rw [z1, B h, R_out _ g (Nat.lt_succ_self _) J.hg]
 ·have q := B h
  rw [R_out _ g (Nat.lt_succ_self _) J.hg] at q
  have r0 : (R (f ++ g) l []).1 = 0 := by rw [q]; exact h'
  refine ⟨by rw [z1]; exact r0, ?_⟩
  rw [z2 r0, x2 h, y2 h', q]
theorem joins_none' {f g : List UInt8} {l : Cells} {both : List UInt8} {e : Int} (J : JOk f g l both e) (h : (sprintfF f l).2 = 18) : e ≠ 0 := by
 have hfg : okS (f ++ g) := ok_app J.hg _ f (Nat.lt_succ_self _) J.hf
 have lf := J.hfl
 have lg := J.hgl
 have x1 := (sp_snd J.hf J.hl (by omega)).1
 have z1 := (sp_snd hfg J.hl (by rw [List.length_append]; omega)).1
 have e2 : (sprintfF (f ++ g) l).2 = e := by rw [← J.he]
 rw [x1] at h
 have := joins_none J.hf J.hg h
 rw [e2, this] at z1
 rw [z1]; decide
def endJ (x x1 : List UInt8 × Int) (e : Int) (both : List UInt8) (T F : Prop) : Prop :=
 iteP (x.2 != 0) (iteP (e == x.2) T F) (iteP (x1.2 != 0) (iteP (e == x1.2) T F) (iteP (e == 0) (iteP (strFits x.1 x1.1) (iteP (decide (both = x.1 ++ x1.1)) T (iteP (e == 3) T F)) False) (iteP (e == 3) T F)))
theorem endJ_ok {x x1 : List UInt8 × Int} {e : Int} {both : List UInt8} {T F : Prop} (hT : T) (hl : x.1.length ≤ 20000) (hl1 : x1.1.length ≤ 20000) (A : x.2 ≠ 0 → e = x.2) (B : x.2 = 0 → x1.2 ≠ 0 → e = x1.2) (D : x.2 = 0 → x1.2 = 0 → e = 0 ∧ both = x.1 ++ x1.1) : endJ x x1 e both T F := by
 unfold endJ
 by_cases h : x.2 = 0
 ·rw [show (x.2 != 0) = false by rw [h]; rfl, iteP_f]
  by_cases h1 : x1.2 = 0
  ·obtain ⟨d1, d2⟩ := D h h1
   rw [show (x1.2 != 0) = false by rw [h1]; rfl, iteP_f, show (e == 0) = true by simpa using d1, iteP_t, show strFits x.1 x1.1 = true by rw [strFits_iff]; omega, iteP_t, decide_eq_true d2, iteP_t]
   exact hT
  ·rw [show (x1.2 != 0) = true by simpa using h1, iteP_t, show (e == x1.2) = true by simpa using B h h1, iteP_t]
   exact hT
 ·rw [show (x.2 != 0) = true by simpa using h, iteP_t, show (e == x.2) = true by simpa using A h, iteP_t]
  exact hT
theorem sp_len {s : List UInt8} {l : Cells} (h : okS s) (hl : Small l) (hs : s.length ≤ 60) : (sprintfF s l).1.length ≤ 20000 := by
 have hb := (run_small _ s (Nat.lt_succ_self _) h l hl).2 []
 replace hb : (R s l []).2.2.length ≤ 0 + s.length * 200 := hb
 rw [sp_eq h hl hs]
 split
 ·simp
 ·show (R s l []).2.2.length ≤ _
  omega
theorem can6 (f g : List UInt8) (l : Cells) (both : List UInt8) (e k : Int) : (I6 f g (.sl l 0) both e k).tidy [0, 1, 2, 7, 8, 9] 0 = I6 f g (.sl l 0) both e k := by kernel_rfl
theorem can6n (f g : List UInt8) (both : List UInt8) (e k : Int) : (I6 f g nilA both e k).tidy [0, 1, 2, 7, 8, 9] 0 = I6 f g nilA both e k := by kernel_rfl
theorem okJ1 : TabOk Tryd.prog Door.cfg J1 := ok12g (copy_ok (ok10 (ok14 tab0_ok)) ok8 (g := 8) (t := C8) rfl) okY2s
theorem take_good {l : Cells} (hl : Small l) : headLen 3 l = true := by
 cases l with
 | nil => rfl
 | cons e r =>
  obtain ⟨⟨k, n, s, rfl⟩, _⟩ := hl e (.head _)
  rfl
def endQ (e : Int) (ex : Ex) (τ : St) : Prop := (ex = .ret ∧ τ = J6 true e) ∨ (ex = .exit 0 ∧ τ = E6 e ∧ e ≠ 0)
theorem endQ_of {e : Int} {ex : Ex} {τ : St} (h : qE6 (fun v => v = e ∧ v ≠ 0) (fun b v => b = true ∧ v = e) ex τ) : endQ e ex τ := by
 unfold qE6 at h
 split at h
 ·obtain ⟨h1, h2, h3⟩ := h
  rw [h2, h3] at h1
  exact .inl ⟨rfl, h1⟩
 ·obtain ⟨h1, h2, h3⟩ := h
  rw [h2] at h1
  exact .inr ⟨rfl, h1, by rw [← h2]; exact h3⟩
 ·exact h.elim
theorem loop6 {f g : List UInt8} {l : Cells} {both : List UInt8} {e : Int} (J : JOk f g l both e) :
  Ev Door.cfg Tryd.prog 6 (.loop (loopAt Tryd.prog 6 6)) (I6 f g (.sl l 0) both e 0) (endQ e) := by
 have hn := J.hn
 have hfl := J.hfl
 have hgl := J.hgl
 have main := loop_rd (C := Door.cfg) (P := Tryd.prog) okJ1 (f := 6) (i := 6) (n := 40) (fun x : Int => I6 f g (.sl l 0) both e x) (fun τ => slI τ 9) (fun x => 0 ≤ x ∧ x ≤ l.length + 1 ∧ ∀ j : Nat, (j : Int) < x → (sprintfF f (l.take j)).2 = 18) (fun x => l.length + 1 - x.toNat)
  (K := qE6 (fun v => v = e ∧ v ≠ 0) (fun b v => b = true ∧ v = e)) (by kernel_rfl)
  (fun x t ht => ?_) (fun x hx => ?_) 0 ⟨Int.le_refl _, by omega, fun j hj => by omega⟩
 ·exact main.mono fun ex τ h => endQ_of h
 ·replace ht : Door.tidy 6 6 = some t := ht
  cases ht
  exact can6 f g l both e x
 ·obtain ⟨q1, q2, q3⟩ := hx
  obtain ⟨k, rfl⟩ := Int.eq_ofNat_of_zero_le q1
  refine v6 f g l both e k (fun y => (0 ≤ y ∧ y ≤ l.length + 1 ∧ ∀ j : Nat, (j : Int) < y → (sprintfF f (l.take j)).2 = 18) ∧ l.length + 1 - y.toNat < l.length + 1 - (k : Int).toNat) (fun v => v = e ∧ v ≠ 0) (fun b v => b = true ∧ v = e) ?_
  by_cases hk : k ≤ l.length
  ·have hr : (decide ((0 : Int) ≤ k) && decide ((k : Int) ≤ (List.length l : Int))) = true := by simp; omega
   rw [show decide ((k : Int) ≤ (List.length l : Int)) = true by simp; omega, iteP_t, take_good J.hl, iteP_t, show (decide ((0 : Int) ≤ k) && true) = true by simp, iteP_t, Int.toNat_natCast]
   refine ⟨run_ok (J.hl.take k) (by omega), fun x hx => ?_⟩
   subst hx
   by_cases h18 : (sprintfF f (l.take k)).2 = 18
   ·rw [show ((sprintfF f (l.take k)).2 == 18) = true by simpa using h18, iteP_t]
    have hj : IntKind.i64.wrap ((k : Int) + 1) = ((k + 1 : Nat) : Int) := by rw [wrap_in (by omega) (by omega)]; rfl
    rw [hj]
    refine ⟨rfl, ⟨by omega, by omega, fun j hj => ?_⟩, by omega⟩
    by_cases hjk : j = k
    ·subst hjk; exact h18
    ·exact q3 j (by omega)
   ·rw [show ((sprintfF f (l.take k)).2 == 18) = false by simpa using h18, iteP_f]
    rw [iteP_t, iteP_t]
    refine ⟨run_ok (J.hl.drop k) (by omega), fun x1 hx1 => ?_⟩
    subst hx1
    obtain ⟨A, B, D⟩ := joins_facts J hk (fun j hj => q3 j (by omega)) h18
    exact endJ_ok (T := True ∧ ∀ (x : Bool), x = true → iteP x (J6 true e = J6 true e ∧ true = true ∧ e = e) (J6 false e = J6 false e ∧ false = true ∧ e = e)) (F := J6 false e = J6 false e ∧ false = true ∧ e = e) ⟨trivial, fun x hx => by subst hx; exact ⟨rfl, rfl, rfl⟩⟩ (sp_len J.hf (J.hl.take k) (by omega)) (sp_len J.hg (J.hl.drop k) (by omega)) A B D
  ·rw [show decide ((k : Int) ≤ (List.length l : Int)) = false by simp; omega, iteP_f]
   refine ⟨rfl, rfl, joins_none' J ?_⟩
   have := q3 l.length (by omega)
   rwa [List.take_length] at this
theorem loop6n {f g : List UInt8} {both : List UInt8} {e : Int} (J : JOk f g [] both e) :
  Ev Door.cfg Tryd.prog 6 (.loop (loopAt Tryd.prog 6 6)) (I6 f g nilA both e 0) (endQ e) := by
 have hfl := J.hfl
 have hgl := J.hgl
 have main := loop_rd (C := Door.cfg) (P := Tryd.prog) okJ1 (f := 6) (i := 6) (n := 40) (fun x : Int => I6 f g nilA both e x) (fun τ => slI τ 9) (fun x => x = 0 ∨ (x = 1 ∧ (sprintfF f []).2 = 18)) (fun x => 1 - x.toNat)
  (K := qE6 (fun v => v = e ∧ v ≠ 0) (fun b v => b = true ∧ v = e)) (by kernel_rfl)
  (fun x t ht => ?_) (fun x hx => ?_) 0 (.inl rfl)
 ·exact main.mono fun ex τ h => endQ_of h
 ·replace ht : Door.tidy 6 6 = some t := ht
  cases ht
  exact can6n f g both e x
 ·rcases hx with rfl | ⟨rfl, h18⟩
  ·refine v6n0 f g both e (fun y => (y = 0 ∨ (y = 1 ∧ (sprintfF f []).2 = 18)) ∧ 1 - y.toNat < 1 - (0 : Int).toNat) (fun v => v = e ∧ v ≠ 0) (fun b v => b = true ∧ v = e) ?_
   refine ⟨run_ok J.hl (by omega), fun x hx => ?_⟩
   subst hx
   by_cases h18 : (sprintfF f []).2 = 18
   ·rw [show ((sprintfF f []).2 == 18) = true by simpa using h18, iteP_t]
    exact ⟨rfl, .inr ⟨rfl, h18⟩, by decide⟩
   ·rw [show ((sprintfF f []).2 == 18) = false by simpa using h18, iteP_f]
    refine ⟨run_ok J.hl (by omega), fun x1 hx1 => ?_⟩
    subst hx1
    obtain ⟨A, B, D⟩ := joins_facts J (k := 0) (Nat.zero_le _) (fun j hj => by omega) h18
    exact endJ_ok (T := True ∧ ∀ (x : Bool), x = true → iteP x (J6 true e = J6 true e ∧ true = true ∧ e = e) (J6 false e = J6 false e ∧ false = true ∧ e = e)) (F := J6 false e = J6 false e ∧ false = true ∧ e = e) ⟨trivial, fun x hx => by subst hx; exact ⟨rfl, rfl, rfl⟩⟩ (sp_len J.hf J.hl (by omega)) (sp_len J.hg J.hl (by omega)) A B D
  ·refine v6n1 f g both e (fun y => (y = 0 ∨ (y = 1 ∧ (sprintfF f []).2 = 18)) ∧ 1 - y.toNat < 1 - (1 : Int).toNat) (fun v => v = e ∧ v ≠ 0) (fun b v => b = true ∧ v = e) ?_
   exact ⟨rfl, rfl, joins_none' J h18⟩
theorem okJ2 : TabOk Tryd.prog Door.cfg J2 := by
 refine addL_ok okJ1 fun σ s hs hp => ?_
 unfold L6 at hs
 split at hs
 ·rename_i f g l both e k _ _ _ _ _ _
  cases Option.some.inj hs
  obtain ⟨h1, h2, h3⟩ := hp
  have := Ev.tidied (C := Door.cfg) (P := Tryd.prog) (b := loopAt Tryd.prog 6 6) (f := 6) (σ := σ) (t := ⟨[0, 1, 2, 7, 8, 9], [6, 8], 0⟩) (τ := I6 f.data.toList g.data.toList (.sl l 0) both.data.toList e 0) (by kernel_rfl) (by rw [h1, h2]; exact (can6 _ _ _ _ _ _).symm) (loop6 h3)
  obtain ⟨m, ex, τ, g1, g2 | g2⟩ := this
  ·obtain ⟨rfl, rfl⟩ := g2
   exact ⟨_, .head _, (), trivial, m, g1⟩
  ·obtain ⟨rfl, rfl, g3⟩ := g2
   exact ⟨_, .tail _ (.head _), (), g3, m, g1⟩
 ·rename_i f g both e k _ _ _ _ _ _
  cases Option.some.inj hs
  obtain ⟨h1, h2, h3⟩ := hp
  have := Ev.tidied (C := Door.cfg) (P := Tryd.prog) (b := loopAt Tryd.prog 6 6) (f := 6) (σ := σ) (t := ⟨[0, 1, 2, 7, 8, 9], [6, 8], 0⟩) (τ := I6 f.data.toList g.data.toList nilA both.data.toList e 0) (by kernel_rfl) (by rw [h1, h2]; exact (can6n _ _ _ _ _).symm) (loop6n h3)
  obtain ⟨m, ex, τ, g1, g2 | g2⟩ := this
  ·obtain ⟨rfl, rfl⟩ := g2
   exact ⟨_, .head _, (), trivial, m, g1⟩
  ·obtain ⟨rfl, rfl, g3⟩ := g2
   exact ⟨_, .tail _ (.head _), (), g3, m, g1⟩
 ·cases hs
theorem law6 (f g : List UInt8) (a : AV) (ha : goodA a) : ∃ m h', evCall Door.cfg Tryd.prog m 6 [aStr f, aStr g, a] heap0 = some (.sc (.bool true), h') := by
 have tail : ∀ (K : AV → Prop), K (.sc (.bool true)) → True ∧ ∀ x : Bool, x = true → iteP x (K (.sc (.bool true))) (K (.sc (.bool false))) := fun K hk => ⟨trivial, fun x hx => by subst hx; exact hk⟩
 have main : wpCall J2 Door.cfg Tryd.prog 40 6 [aStr f, aStr g, a] heap0 fun v _ => v = .sc (.bool true) := by
  have core : f.length ≤ 30 → g.length ≤ 30 → ∀ (l : Cells), Small l → l.length ≤ 10 → ∀ (M : Int → List UInt8 → Prop) (T : Prop), T → (∀ x : List UInt8 × Int, JOk f g l x.1 x.2 → M x.2 x.1) →
    (f.length.le (1000000 : Nat) ∧ ∀ (x : Int), x = checkF (f.length + 1) f → iteP (x != 0) T (g.length.le (1000000 : Nat) ∧ ∀ (x : Int), x = checkF (g.length + 1) g → iteP (x != 0) T (iteP (strFits f g) (RunOk (f ++ g) l ∧ ∀ (x : List UInt8 × Int), x = sprintfF (f ++ g) l → M x.2 x.1) False))) := by
   intro h1 h2 l hl hn M T hT hM
   refine ⟨Nat.le_trans h1 (by decide), fun x hx => ?_⟩
   by_cases c1 : x = 0
   ·rw [show (x != 0) = false by rw [c1]; rfl, iteP_f]
    refine ⟨Nat.le_trans h2 (by decide), fun y hy => ?_⟩
    by_cases c2 : y = 0
    ·rw [show (y != 0) = false by rw [c2]; rfl, iteP_f, show strFits f g = true by rw [strFits_iff]; omega, iteP_t]
     refine ⟨run_ok hl (by rw [List.length_append]; omega), fun z hz => hM z ⟨?_, ?_, h1, h2, hl, hn, hz⟩⟩
     ·show checkF _ f = 0; rw [← hx]; exact c1
     ·show checkF _ g = 0; rw [← hy]; exact c2
    ·rw [show (y != 0) = true by simpa using c2, iteP_t]; exact hT
   ·rw [show (x != 0) = true by simpa using c1, iteP_t]; exact hT
  have fin : ∀ (e : Int) (K : AV → Prop), e ≠ 0 → K (.sc (.bool true)) → iteP (e != 0) (True ∧ ∀ x : Bool, x = true → iteP x (K (.sc (.bool true))) (K (.sc (.bool false)))) (K (.sc (.bool false))) := by
   intro e K he hk
   rw [show (e != 0) = true by simpa using he, iteP_t]
   exact tail K hk
  rcases ha with ⟨l, rfl, hl⟩ | rfl
  ·refine c6 f g l (fun v => v = .sc (.bool true)) ?_
   by_cases h1 : (30 : Int) < (f.length : Int)
   ·rw [decide_eq_true h1, iteP_t]; exact tail (fun v => v = .sc (.bool true)) rfl
   ·rw [decide_eq_false h1, iteP_f]
    by_cases h2 : (30 : Int) < (g.length : Int)
    ·rw [decide_eq_true h2, iteP_t]; exact tail (fun v => v = .sc (.bool true)) rfl
    ·rw [decide_eq_false h2, iteP_f]
     refine ⟨.inl ⟨l, rfl, hl⟩, fun x hx => ?_⟩
     cases hq : x with
     | false => rw [iteP_f]; exact tail (fun v => v = .sc (.bool true)) rfl
     | true =>
      rw [iteP_t]
      rw [hq] at hx
      have hfew : fewL l = true := by
       have := (Bool.and_eq_true _ _ ▸ hx.symm : _ ∧ _).1
       exact this
      unfold fewL at hfew
      obtain ⟨w1, w2⟩ := (Bool.and_eq_true _ _).mp hfew
      have hsm : Small l := fun e he => ⟨hl e he, List.all_eq_true.1 w2 e he⟩
      exact core (by omega) (by omega) l hsm (by simpa using w1) (fun e both => loopAt Tryd.prog 6 6 = loopAt Tryd.prog 6 6 ∧ (I6 f g (.sl l 0) both e 0 = I6 f g (.sl l 0) both e 0 ∧ (0 : Int) = 0 ∧ JOk f g l both e) ∧ (∀ (_ : Unit), True → AV.sc (.bool true) = .sc (.bool true)) ∧ ∀ (_ : Unit), e ≠ 0 → iteP (e != 0) (True ∧ ∀ (x : Bool), x = true → iteP x (AV.sc (.bool true) = .sc (.bool true)) (AV.sc (.bool false) = .sc (.bool true))) (AV.sc (.bool false) = .sc (.bool true))) _ (tail (fun v => v = .sc (.bool true)) rfl) (fun y hy => ⟨rfl, ⟨rfl, rfl, hy⟩, fun _ _ => rfl, fun _ he => fin y.2 (fun v => v = .sc (.bool true)) he rfl⟩)
  ·refine c6n f g (fun v => v = .sc (.bool true)) ?_
   by_cases h1 : (30 : Int) < (f.length : Int)
   ·rw [decide_eq_true h1, iteP_t]; exact tail (fun v => v = .sc (.bool true)) rfl
   ·rw [decide_eq_false h1, iteP_f]
    by_cases h2 : (30 : Int) < (g.length : Int)
    ·rw [decide_eq_true h2, iteP_t]; exact tail (fun v => v = .sc (.bool true)) rfl
    ·rw [decide_eq_false h2, iteP_f]
     refine ⟨.inr rfl, fun x hx => ?_⟩
     subst hx
     rw [iteP_t]
     exact core (by omega) (by omega) [] (fun e he => by cases he) (by decide) (fun e both => loopAt Tryd.prog 6 6 = loopAt Tryd.prog 6 6 ∧ (I6 f g nilA both e 0 = I6 f g nilA both e 0 ∧ (0 : Int) = 0 ∧ JOk f g [] both e) ∧ (∀ (_ : Unit), True → AV.sc (.bool true) = .sc (.bool true)) ∧ ∀ (_ : Unit), e ≠ 0 → iteP (e != 0) (True ∧ ∀ (x : Bool), x = true → iteP x (AV.sc (.bool true) = .sc (.bool true)) (AV.sc (.bool false) = .sc (.bool true))) (AV.sc (.bool false) = .sc (.bool true))) _ (tail (fun v => v = .sc (.bool true)) rfl) (fun y hy => ⟨rfl, ⟨rfl, rfl, hy⟩, fun _ _ => rfl, fun _ he => fin y.2 (fun v => v = .sc (.bool true)) he rfl⟩)
 obtain ⟨m, v, h', h1, h2⟩ := call_okW okJ2 40 6 _ _ _ main
 exact ⟨m, h', by rw [h1, h2]⟩
end
end Go.Proofs.Pr
namespace Go.Proofs
open Go Go.Ef Go.RowKit
namespace Door
theorem tab_glob {W : World} {name : String} {k : IntKind} {zs : List Int} {g : Nat} {cs : List AV} (h : Lib.TabIs Tryd.prog W name k zs) (hg : Tryd.prog.globalNamed name = some g) (hcs : cs = zs.map fun z => AV.sc (.int k z)) :
  ∀ (i : Nat) (x : AV), cs[i]? = some x → ∃ c, W.cell? ⟨g, i, none⟩ = some c ∧ V (imm0 W) x c := by
 intro i x hx
 subst hcs
 rw [List.getElem?_map] at hx
 have hi : i < zs.length := by
  rcases Nat.lt_or_ge i zs.length with h' | h'
  ·exact h'
  ·simp [List.getElem?_eq_none h'] at hx
 rw [List.getElem?_eq_getElem hi] at hx
 simp only [Option.map_some, Option.some.injEq] at hx
 subst hx
 refine ⟨_, h.cell hg i hi, ?_⟩
 have : zs.getD i 0 = zs[i] := by simp [List.getD, hi]
 rw [this]
 exact .sc rfl
def deb32 : List Int := [0, 1, 28, 2, 29, 14, 24, 3, 30, 22, 20, 15, 25, 17, 4, 8, 31, 27, 13, 23, 21, 19, 16, 7, 26, 12, 18, 6, 11, 5, 10, 9]
def deb64 : List Int := [0, 1, 56, 2, 57, 49, 28, 3, 61, 58, 42, 50, 38, 29, 17, 4, 62, 47, 59, 36, 45, 43, 51, 22, 53, 39, 33, 30, 24, 18, 12, 5, 63, 55, 48, 27, 60, 41, 37, 16, 46, 35, 44, 21, 52, 32, 23, 11, 54, 26, 40, 15, 34, 20, 31, 10, 25, 14, 19, 9, 13, 8, 7, 6]
def pow10 : List Int := [1, 10, 100, 1000, 10000, 100000, 1000000, 10000000, 100000000, 1000000000, 10000000000, 100000000000, 1000000000000, 10000000000000, 100000000000000, 1000000000000000, 10000000000000000, 100000000000000000, 1000000000000000000, 10000000000000000000]
def units : List Int := [10000, 1000, 100, 10, 1]
theorem glob_ok {W : World} {rest : List (String × DataW Unit)} {a : String × DataW Unit}
  (h : laidMet Tryd.prog (("math/bits.deBruijn32tab", Lib.tabData .u8 deb32) :: ("math/bits.deBruijn64tab", Lib.tabData .u8 deb64) :: ("internal/strconv.uint64pow10", Lib.tabData .u64 pow10) :: a :: ("texttools/decimal.units", Lib.tabData .i64 units) :: rest) W) : GlobOk cfg W := by
 have t6 : Lib.TabIs Tryd.prog W "math/bits.deBruijn32tab" .u8 deb32 := Lib.tabIs_of_head (g := 6) (by kernel_rfl) (by kernel_rfl) Tryd.underlying149 Tryd.underlying5 (by kernel_rfl) (by kernel_rfl) h
 have t7 : Lib.TabIs Tryd.prog W "math/bits.deBruijn64tab" .u8 deb64 := Lib.tabIs_of_head (g := 7) (by kernel_rfl) (by kernel_rfl) Tryd.underlying150 Tryd.underlying5 (by kernel_rfl) (by kernel_rfl) h.tail
 have t2 : Lib.TabIs Tryd.prog W "internal/strconv.uint64pow10" .u64 pow10 := Lib.tabIs_of_head (g := 2) (by kernel_rfl) (by kernel_rfl) Tryd.underlying133 Tryd.underlying113 (by kernel_rfl) (by kernel_rfl) h.tail.tail
 have t0 : Lib.TabIs Tryd.prog W "texttools/decimal.units" .i64 units := Lib.tabIs_of_head (g := 0) (by kernel_rfl) (by kernel_rfl) Tryd.underlying106 Tryd.underlying3 (by kernel_rfl) (by kernel_rfl) h.tail.tail.tail.tail
 intro g cs hg
 replace hg : globs g = some cs := hg
 unfold globs at hg
 split at hg
 ·cases hg; exact tab_glob t0 (by kernel_rfl) rfl
 ·cases hg; exact tab_glob t2 (by kernel_rfl) rfl
 ·cases hg; exact tab_glob t6 (by kernel_rfl) rfl
 ·cases hg; exact tab_glob t7 (by kernel_rfl) rfl
 ·cases hg
end Door
end Go.Proofs
namespace Go.Ef
open Go
theorem build_list {α : Type} {Q : Nat → α → Prop} : ∀ n : Nat, (∀ i, i < n → ∃ x, Q i x) → ∃ l : List α, l.length = n ∧ ∀ (i : Nat) (x : α), l[i]? = some x → Q i x := by
 intro n
 induction n with
 | zero => intro _; exact ⟨[], rfl, fun i x h => by simp at h⟩
 | succ n ih =>
  intro h
  obtain ⟨l, h1, h2⟩ := ih fun i hi => h i (by omega)
  obtain ⟨x, hx⟩ := h n (by omega)
  refine ⟨l ++ [x], by simp [h1], fun i y hy => ?_⟩
  rcases Nat.lt_trichotomy i n with hi | hi | hi
  ·rw [List.getElem?_append_left (by omega)] at hy; exact h2 i y hy
  ·subst hi
   rw [List.getElem?_append_right (by omega), h1] at hy
   simp at hy; subst hy; exact hx
  ·have := lt_of_get? hy
   simp [h1] at this; omega
def CellsV (w : World) (avs : List AV) (cs : List Value) : Prop := avs.length = cs.length ∧ ∀ (i : Nat) (x : AV) (y : Value), avs[i]? = some x → cs[i]? = some y → V (imm0 w) x y
theorem trod_slice {H : Type} {enc : TypeId × Value → H} {P : Program} {w : World} {base : Nat} {spare : Nat → Bool} {held : Bool} {t e : TypeId} {k : Nat} (ht : P.underlying t = some (.slice e)) (hk : P.cellsOf e = k) (Good : List AV → Prop)
  (each : ∀ (fuel : Nat) (cs : List Value) (d : DataW H) (ps : List MemPlace), DataW.trod enc P w base spare held fuel e cs = some (d, ps) → cs.length = k → ∃ avs, Good avs ∧ CellsV w avs cs)
  {fuel b o len cap : Nat} {d : DataW H} {ps : List MemPlace} (h : DataW.trod enc P w base spare held fuel t [.slice (some ⟨b, o, none⟩) len cap] = some (d, ps)) :
  ∃ els : List (List AV), els.length = len ∧ (∀ a ∈ els, Good a ∧ a.length = k) ∧ V (imm0 w) (.sl els 0) (.slice (some ⟨b, o, none⟩) len cap) := by
 cases fuel with
 | zero => cases h
 | succ fuel =>
  simp only [DataW.trod, ht] at h
  split at h
  ·rename_i hc
   rw [Option.bind_eq_some_iff] at h
   obtain ⟨elems, hel, _⟩ := h
   have hlen : elems.length = len := by simpa using mapM_some_length hel
   have hcell : ∀ i, i < len → ∃ (avs : List AV), Good avs ∧ avs.length = k ∧ ∃ cs : List Value, (∀ j, j < k → w.cell? ⟨b, o + i * k + j, none⟩ = cs[j]?) ∧ CellsV w avs cs := by
    intro i hi
    have := mapM_some_get hel i i (by simp [hi])
    rw [List.getElem?_eq_getElem (by omega)] at this
    rw [Option.bind_eq_some_iff] at this
    obtain ⟨cs, h1, h2⟩ := this
    obtain ⟨_, h4, h5⟩ := World.cells?_some h1
    rw [hk] at h4 h5
    obtain ⟨avs, g1, g2⟩ := each fuel cs _ _ h2 h4
    refine ⟨avs, g1, by rw [g2.1, h4], cs, fun j hj => ?_, g2⟩
    rw [← h5 j hj]
    congr 1
    unfold Addr.add
    split
    ·split
     ·rename_i q1 q2; simp_all
     ·rename_i q1 q2; simp [q1]
    ·split
     ·rename_i q1 q2; simp [q2]
     ·simp
   obtain ⟨els, e1, e2⟩ := build_list len hcell
   refine ⟨els, e1, fun a ha => ?_, ?_⟩
   ·obtain ⟨i, hi, rfl⟩ := List.getElem_of_mem ha
    obtain ⟨g1, g2, _⟩ := e2 i _ (List.getElem?_eq_getElem hi)
    exact ⟨g1, g2⟩
   ·refine .sl0 (k := k) (c := fun i j => (w.cell? ⟨b, o + i * k + j, none⟩).getD undef) e1.symm hc.2.1 (fun a ha => ?_) (fun i a j x hx hy => ?_) (fun i a j x hx hy => ?_)
    ·obtain ⟨i, hi, rfl⟩ := List.getElem_of_mem ha
     exact (e2 i _ (List.getElem?_eq_getElem hi)).2.1
    ·obtain ⟨_, g2, cs, g3, g4⟩ := e2 i a hx
     have hj : j < k := g2 ▸ lt_of_get? hy
     have hjc : j < cs.length := by rw [← g4.1, g2]; exact hj
     show w.cell? _ = _
     rw [g3 j hj, List.getElem?_eq_getElem hjc]; rfl
    ·obtain ⟨_, g2, cs, g3, g4⟩ := e2 i a hx
     have hj : j < k := g2 ▸ lt_of_get? hy
     have hjc : j < cs.length := by rw [← g4.1, g2]; exact hj
     rw [imm0_bare, g3 j hj, List.getElem?_eq_getElem hjc]
     exact g4.2 j x _ hy (List.getElem?_eq_getElem hjc)
  ·cases h
end Go.Ef
namespace Go.Proofs.Pr
open Go Go.Ef Go.ChangeShapes Go.WideShapes Go.ChangeAt Go.RowKit
theorem trod_int1 {H : Type} {enc : TypeId × Value → H} {P : Program} {w : World} {base : Nat} {spare : Nat → Bool} {held : Bool} {t : TypeId} {k : IntKind} (ht : P.underlying t = some (.int k)) {fuel : Nat} {c : Value} {x : DataW H × List MemPlace}
  (h : DataW.trod enc P w base spare held fuel t [c] = some x) : ∃ n, c = .int k n := by
 cases fuel with
 | zero => cases h
 | succ fuel =>
  simp only [DataW.trod, ht] at h
  split at h <;> simp_all
theorem trod_str1 {H : Type} {enc : TypeId × Value → H} {P : Program} {w : World} {base : Nat} {spare : Nat → Bool} {held : Bool} {t : TypeId} (ht : P.underlying t = some .string) {fuel : Nat} {c : Value} {x : DataW H × List MemPlace}
  (h : DataW.trod enc P w base spare held fuel t [c] = some x) : ∃ s, c = .string s := by
 cases fuel with
 | zero => cases h
 | succ fuel =>
  simp only [DataW.trod, ht] at h
  split at h <;> simp_all
set_option maxRecDepth 100000 in
theorem value_reads {H : Type} {enc : TypeId × Value → H} {w : World} {base : Nat} {spare : Nat → Bool} {held : Bool} {fuel : Nat} {cs : List Value} {d : DataW H} {ps : List MemPlace}
  (h : DataW.trod enc Tryd.prog w base spare held fuel 28 cs = some (d, ps)) (hl : cs.length = 3) : ∃ avs, goodArg avs ∧ CellsV w avs cs := by
 cases fuel with
 | zero => cases h
 | succ fuel =>
  have e3 : Tryd.prog.cellsOf 3 = 1 := by kernel_rfl
  have e26 : Tryd.prog.cellsOf 26 = 1 := by kernel_rfl
  have e9 : Tryd.prog.cellsOf 9 = 1 := by kernel_rfl
  match cs, hl with
  | [c0, c1, c2], _ =>
   simp only [DataW.trod, Tryd.underlying28] at h
   split at h
   ·rw [Option.map_eq_some_iff] at h
    obtain ⟨xs, hm, _⟩ := h
    have g0 := mapM_some_get hm 0 _ rfl
    have g1 := mapM_some_get hm 1 _ rfl
    have g2 := mapM_some_get hm 2 _ rfl
    have hlen := mapM_some_length hm
    replace hlen : xs.length = 3 := hlen
    match xs, hlen with
    | [x0, x1, x2], _ =>
     simp only [e3, e26, e9] at g0 g1 g2
     obtain ⟨n0, rfl⟩ := trod_int1 Tryd.underlying3 g0
     obtain ⟨n1, rfl⟩ := trod_int1 Tryd.underlying26 g1
     obtain ⟨s, rfl⟩ := trod_str1 Tryd.underlying9 g2
     obtain ⟨⟨l⟩⟩ := s
     refine ⟨[aK .i64 n0, aK .i64 n1, aStr l], ⟨n0, n1, l, rfl⟩, rfl, fun i x y hx hy => ?_⟩
     match i with
     | 0 => simp at hx hy; subst hx; subst hy; exact .sc rfl
     | 1 => simp at hx hy; subst hx; subst hy; exact .sc rfl
     | 2 => simp at hx hy; subst hx; subst hy; exact .sc rfl
     | i + 3 => simp at hx
   ·cases h
set_option maxRecDepth 100000 in
theorem values_read {H : Type} {enc : TypeId × Value → H} {W : World} {r : Reach} {base : Nat} {v : Value} {d : DataW H} {p : List MemPlace} (hv : Value.okWide Tryd.prog W r base 29 v) (h : DataW.Trod enc Tryd.prog W 0 (fun _ => true) true 29 v d p) :
  ∃ a, goodA a ∧ V (imm0 W) a v := by
 obtain ⟨fuel, hf⟩ := h
 have hv' := hv
 obtain ⟨a, len, cap, rfl⟩ := okWide_slice Tryd.underlying29 hv
 simp only [Value.okWide, Tryd.underlying29, Cell.okWide, Cell.ok] at hv'
 cases a with
 | none =>
  have h0 : len = 0 ∧ cap = 0 := by
   split at hv'
   all_goals first | exact hv'.elim | skip
   all_goals rename_i q
   all_goals cases q
   all_goals first | exact ⟨rfl, rfl⟩ | exact hv'.elim
  obtain ⟨rfl, rfl⟩ := h0
  exact ⟨nilA, .inr rfl, .sc rfl⟩
 | some a =>
  obtain ⟨b, o, sp⟩ := a
  have hsp : sp = none := (show len ≤ cap ∧ (cap : Int) ≤ IntKind.i64.max ∧ World.has Tryd.prog W r base ⟨b, o, sp⟩ 28 cap from hv').2.2.2.1
  subst hsp
  obtain ⟨els, h1, h2, h3⟩ := trod_slice (k := 3) Tryd.underlying29 (by kernel_rfl) goodArg (fun fuel cs d ps h hl => value_reads h hl) hf
  exact ⟨.sl els 0, .inl ⟨els, rfl, fun e he => (h2 e he).1⟩, h3⟩
end Go.Proofs.Pr
