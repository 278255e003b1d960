/- A part of the proof: definitions and lemmas. -/
import Derived.Test.YtijnmcodipdioaaGreatDoorLiteralsA
import Derived.Test.YtijnmcodipdioaaGreatDoorLiteralsB
import Derived.Test.YtijnmcodipdioaaGreatDoorLiteralsC
import Derived.Test.YtijnmcodipdioaaGreatDoorLiteralsD
import Derived.Test.YtijnmcodipdioaaGreatDoorLiteralsE
import Derived.Test.YtijnmcodipdioaaGreatDoorLiteralsF
namespace Go.Proofs.Rl
open Go Go.Ef
noncomputable section
set_option maxRecDepth 1000000
abbrev Ok (T : Tab) : Prop := TabOk Tryz.prog cfg T
theorem it {q : Bool} {A B : Prop} (h : q = true) (k : A) : iteP q A B := by rw [h]; exact k
theorem ie {q : Bool} {A B : Prop} (h : q = false) (k : B) : iteP q A B := by rw [h]; exact k
theorem dt {p : Prop} [Decidable p] (h : p) : decide p = true := decide_eq_true h
theorem df {p : Prop} [Decidable p] (h : ¬p) : decide p = false := decide_eq_false h
theorem byte_all {p : UInt8 → Bool} (h : ((List.range 256).all fun n => p (UInt8.ofNat n)) = true) (b : UInt8) : p b = true := by
 have := List.all_eq_true.1 h b.toNat (List.mem_range.2 b.toNat_lt)
 rwa [UInt8.ofNat_toNat] at this
def ans (g : Nat) (args : List AV) (v : AV) : Bool := match mapO (stripA 8) args with
 | some args' => match evCall cfg Tryz.prog 100 g args' heapF with
  | some (r, h') => match strip 8 h' r with
   | some y => eqA 8 y v
   | none => false
  | none => false
 | none => false
theorem ans_ok {g : Nat} {args : List AV} {v : AV} (h : ans g args v = true) (hf : cfg.fresh g = true) (hp : cfg.prim g = none) (H : Heap) : callP cfg (evCall cfg Tryz.prog 100) g args H = some (v, H) := by
 unfold ans at h
 split at h
 ·rename_i a ha
  split at h
  ·rename_i r h' hr
   split at h
   ·rename_i y hy
    have e := eqA_ok _ _ _ h
    subst e
    unfold callP
    rw [hp]; simp only []; rw [hf]; simp only [cond_true]; rw [ha]; simp only []; rw [hr]; simp only []; rw [hy]
   ·cases h
  ·cases h
 ·cases h
set_option maxHeartbeats 0 in
theorem all80 : ((List.range 256).all fun n => (!isAl (UInt8.ofNat n)) || ans 80 [aStr [UInt8.ofNat n]] (.agg (csW (UInt8.ofNat n)))) = true := by kernel_rfl
set_option maxHeartbeats 0 in
theorem all50 : ((List.range 256).all fun n => (!isAl (UInt8.ofNat n)) || ans 50 [.agg (rowR (UInt8.ofNat n))] (bA true)) = true := by kernel_rfl
set_option maxHeartbeats 0 in
theorem all90 : ((List.range 256).all fun n => (!isAl (UInt8.ofNat n)) || (ans 90 [aStr sp0, .sc (.int .u8 (UInt8.ofNat n).toNat)] (iA (-1)) && ans 90 [aStr sp1, .sc (.int .u8 (UInt8.ofNat n).toNat)] (iA (-1)))) = true := by kernel_rfl
theorem ok80 {T : Tab} (O : Ok T) : Ok (T.addC 80 C80) := by
 refine addC_ok O fun args h s hs hp => ?_
 unfold C80 at hs
 split at hs
 ·cases hs
  obtain ⟨b, hb, rfl⟩ := hp.is
  have := byte_all (p := fun c => (!isAl c) || ans 80 [aStr [c]] (.agg (csW c))) all80 b
  simp only [hb, Bool.not_true, Bool.false_or] at this
  exact ⟨_, List.mem_singleton.2 rfl, (), 100, trivial, ans_ok this rfl rfl h⟩
 ·cases hs
theorem ok90 {T : Tab} (O : Ok T) : Ok (T.addC 90 C90) := by
 refine addC_ok O fun args h s hs hp => ?_
 unfold C90 at hs
 split at hs
 ·rename_i l n
  cases hs
  replace hp : (bif isSp l then AlI n else False) := hp
  cases hl : isSp l with
  | false => rw [hl] at hp; exact hp.elim
  | true =>
   rw [hl] at hp
   obtain ⟨b, hb, rfl⟩ := AlI.is hp
   have := byte_all (p := fun c => (!isAl c) || (ans 90 [aStr sp0, .sc (.int .u8 c.toNat)] (iA (-1)) && ans 90 [aStr sp1, .sc (.int .u8 c.toNat)] (iA (-1)))) all90 b
   simp only [hb, Bool.not_true, Bool.false_or, Bool.and_eq_true] at this
   simp only [isSp, Bool.or_eq_true] at hl
   rcases hl with hl | hl
   ·have e := eqL_ok eqU_ok _ _ hl
    subst e
    exact ⟨_, List.mem_singleton.2 rfl, (), 100, trivial, ans_ok this.1 rfl rfl h⟩
   ·have e := eqL_ok eqU_ok _ _ hl
    subst e
    exact ⟨_, List.mem_singleton.2 rfl, (), 100, trivial, ans_ok this.2 rfl rfl h⟩
 ·cases hs
end
end Go.Proofs.Rl
