/- Printf: the reference reads and checks a format as the plain form says; the two checks agree. -/
import Derived.Test.YtfgocjmkefeeeaaDoorPrB
import Derived.Test.YtfgocjmkefeeeaaDoorPrA
import Derived.Test.YtfgocjmkefeeeaaDoorEfW
/- Printf: the reference's reader computes what its plain form says. -/
namespace Go.Proofs.Pr
open Go Go.Ef
noncomputable section
set_option maxRecDepth 100000

theorem loop34 (s : List UInt8) (hs : s.length ≤ 1000000) (a l : Int) (h1 : 0 ≤ a) (h4 : a ≤ s.length) :
    Ev Door.cfg Tryd.prog 34 (.loop (loopAt Tryd.prog 34 5)) (I34 s a l (-1) a) fun e τ => τ = J34 (slI τ 8) (slI τ 9) ∧ e = .exit 0 ∧ 0 ≤ slI τ 9 ∧ slI τ 9 ≤ s.length ∧ numA l (s.drop a.toNat) (-1) = (slI τ 8, s.drop (slI τ 9).toNat) := by
  refine loop_rd tab0_ok (n := 40) (fun x : Int × Int => I34 s a l x.1 x.2) (fun τ => (slI τ 8, slI τ 9)) (fun x => a ≤ x.2 ∧ -1 ≤ x.1 ∧ x.1 ≤ 256 ∧ x.2 ≤ s.length ∧ numA l (s.drop a.toNat) (-1) = if x.2 = a then numA l (s.drop x.2.toNat) x.1 else numL (s.drop x.2.toNat) x.1) (fun x => s.length - x.2.toNat) (by kernel_rfl)
    (fun x t ht => ?_) (fun x hx => ?_) (-1, a) ⟨Int.le_refl _, by simp, by simp, h4, by simp⟩
  · replace ht : Door.tidy 34 5 = some t := ht
    cases ht
    show (I34 s a l x.1 x.2).tidy [0, 1, 2, 8, 9] 0 = I34 s a l x.1 x.2
    kernel_rfl
  · obtain ⟨m, j⟩ := x
    obtain ⟨q1, q2, q3, q4, q5⟩ := hx
    simp only at q1 q2 q3 q4 q5
    have q0 : 0 ≤ j := by omega
    have hb := byteAt_le s j
    refine v34 s a l m j (fun m' j' => (a ≤ j' ∧ -1 ≤ m' ∧ m' ≤ 256 ∧ j' ≤ s.length ∧ numA l (s.drop a.toNat) (-1) = if j' = a then numA l (s.drop j'.toNat) m' else numL (s.drop j'.toNat) m') ∧ s.length - j'.toNat < s.length - j.toNat) (fun e m' j' => e = .exit 0 ∧ 0 ≤ j' ∧ j' ≤ s.length ∧ numA l (s.drop a.toNat) (-1) = (m', s.drop j'.toNat)) ?_
    rw [q5]
    simp only [iteP_F]
    simp only [iteP_iff, decide_eq_true_eq, decide_eq_false_iff_not, inRange_iff, true_and]
    rcases hr : s.drop j.toNat with _ | ⟨c, r⟩
    · have := drop_end hr
      refine ⟨fun h => by omega, fun _ => ⟨q0, q4, ?_⟩⟩
      split <;> rfl
    · obtain ⟨e1, e2, e3⟩ := byteAt_drop hr
      rw [e1] at hb ⊢
      have hj : IntKind.i64.wrap (j + 1) = j + 1 := wrap_in (by omega) (by omega)
      have hja : ¬ (j + 1 = a) := by omega
      rw [hj, toNat_succ q0, e3, if_neg hja]
      have hnum : numL (c :: r) m = if 48 ≤ (c.toNat : Int) ∧ (c.toNat : Int) ≤ 57 then numL r (min (10 * max m 0 + (c.toNat - 48)) 256) else (m, c :: r) := rfl
      have hnuA : numA l (c :: r) m = if (c.toNat : Int) < l then (m, c :: r) else numL (c :: r) m := rfl
      have hall : (if j = a then numA l (c :: r) m else numL (c :: r) m) = if 48 ≤ (c.toNat : Int) ∧ (c.toNat : Int) ≤ 57 ∧ (a < j ∨ l ≤ (c.toNat : Int)) then numL r (min (10 * max m 0 + (c.toNat - 48)) 256) else (m, c :: r) := by
        rw [hnuA, hnum]
        by_cases t1 : j = a
        · rw [if_pos t1]
          by_cases t2 : (c.toNat : Int) < l
          · rw [if_pos t2, if_neg (by omega)]
          · rw [if_neg t2]
            by_cases t3 : 48 ≤ (c.toNat : Int) ∧ (c.toNat : Int) ≤ 57
            · rw [if_pos t3, if_pos (by omega)]
            · rw [if_neg t3, if_neg (by omega)]
        · rw [if_neg t1]
          by_cases t3 : 48 ≤ (c.toNat : Int) ∧ (c.toNat : Int) ≤ 57
          · rw [if_pos t3, if_pos (by omega)]
          · rw [if_neg t3, if_neg (by omega)]
      rw [hall]
      repeat' (first | apply And.intro | intro _)
      all_goals (try simp (disch := omega) only [wrap_in, wrap8_in])
      all_goals try omega
      · have hc : 48 ≤ (c.toNat : Int) ∧ (c.toNat : Int) ≤ 57 ∧ (a < j ∨ l ≤ (c.toNat : Int)) := by omega
        rw [if_pos hc]
      · have hc : 48 ≤ (c.toNat : Int) ∧ (c.toNat : Int) ≤ 57 ∧ (a < j ∨ l ≤ (c.toNat : Int)) := by omega
        rw [if_pos hc]
      all_goals
        have hc : ¬ (48 ≤ (c.toNat : Int) ∧ (c.toNat : Int) ≤ 57 ∧ (a < j ∨ l ≤ (c.toNat : Int))) := by omega
        rw [if_neg hc]

end
end Go.Proofs.Pr

/- Printf: the reference's number and has. -/
namespace Go.Proofs.Pr
open Go Go.Ef
noncomputable section
set_option maxRecDepth 100000

theorem okL34 : TabOk Tryd.prog Door.cfg ((T4.addC 8 C8).addL 34 5 L34) := by
  refine addL_ok ok8 fun σ s hs hp => ?_
  refine lspec_ok (Option.some.inj hs) (fun hpre => ?_) hp
  obtain ⟨e, h1, h2, h3, h4, h5⟩ := hpre
  refine Ev.tidied (t := ⟨[0, 1, 2, 8, 9], [8, 9], 0⟩) (τ := I34 (slS σ 0) (slI σ 1) (slI σ 2) (-1) (slI σ 1)) (by kernel_rfl) (by rw [e, h1, h2]; kernel_rfl) ?_
  refine (loop34 (slS σ 0) h5 (slI σ 1) (slI σ 2) h3 h4).mono fun ex τ h => ?_
  exact ⟨(slI τ 8, slI τ 9), ⟨h.2.2.1, h.2.2.2.1, h.2.2.2.2⟩, h.2.1, h.1⟩

theorem loop33 (s : List UInt8) (hs : s.length ≤ 1000000) (c : Int) :
    Ev Door.cfg Tryd.prog 33 (.loop (loopAt Tryd.prog 33 3)) (I33 s c 0) fun e τ => (s.any (fun b => decide ((b.toNat : Int) = c)) = true ∧ e = .ret ∧ τ = J33 true) ∨ (s.any (fun b => decide ((b.toNat : Int) = c)) = false ∧ e = .exit 0 ∧ τ = stOf 17 [(4, .unk)] [] heapF) := by
  have main := loop_rd (C := Door.cfg) (P := Tryd.prog) tab0_ok (f := 33) (i := 3) (n := 40) (fun x : Int => I33 s c x) (fun τ => slI τ 5) (fun x => 0 ≤ x ∧ x ≤ s.length ∧ s.any (fun b => decide ((b.toNat : Int) = c)) = (s.drop x.toNat).any (fun b => decide ((b.toNat : Int) = c))) (fun x => s.length - x.toNat)
    (K := fun e τ => match e with
      | .ret => τ = J33 (slB τ 4) ∧ (slB τ 4 = true ∧ s.any (fun b => decide ((b.toNat : Int) = c)) = true)
      | e => τ = stOf 17 [(4, .unk)] [] heapF ∧ (e = .exit 0 ∧ s.any (fun b => decide ((b.toNat : Int) = c)) = false)) (by kernel_rfl)
    (fun x t ht => ?_) (fun x hx => ?_) 0 ⟨Int.le_refl _, by omega, rfl⟩
  · refine main.mono fun e τ h => ?_
    cases e with
    | ret => exact .inl ⟨h.2.2, rfl, by rw [h.1, h.2.1]⟩
    | normal => cases h.2.1
    | exit j => exact .inr ⟨h.2.2, h.2.1, h.1⟩
  · replace ht : Door.tidy 33 3 = some t := ht
    cases ht
    show (I33 s c x).tidy [0, 1, 5] 0 = I33 s c x
    kernel_rfl
  · obtain ⟨q1, q2, q3⟩ := hx
    refine v33 s c x (fun y => (0 ≤ y ∧ y ≤ s.length ∧ s.any (fun b => decide ((b.toNat : Int) = c)) = (s.drop y.toNat).any (fun b => decide ((b.toNat : Int) = c))) ∧ s.length - y.toNat < s.length - x.toNat) (fun b => b = true ∧ s.any (fun b => decide ((b.toNat : Int) = c)) = true) (fun e => e = .exit 0 ∧ s.any (fun b => decide ((b.toNat : Int) = c)) = false) ?_
    rw [q3]
    rcases hr : s.drop x.toNat with _ | ⟨b, r⟩
    · have := drop_end hr
      rw [show decide (x < (s.length : Int)) = false by simp; omega, iteP_f]
      exact ⟨rfl, rfl, rfl⟩
    · obtain ⟨e1, e2, e3⟩ := byteAt_drop hr
      have hj : IntKind.i64.wrap (x + 1) = x + 1 := wrap_in (by omega) (by omega)
      rw [show decide (x < (s.length : Int)) = true by simp; omega, iteP_t, show inRange x s.length = true by rw [inRange_iff]; omega, iteP_t, e1, hj, toNat_succ q1, e3, List.any_cons]
      by_cases hb : (b.toNat : Int) = c
      · rw [show ((b.toNat : Int) == c) = true by simpa using hb, iteP_t, decide_eq_true hb]
        exact ⟨rfl, rfl, rfl⟩
      · rw [show ((b.toNat : Int) == c) = false by simpa using hb, iteP_f, decide_eq_false hb, Bool.false_or]
        exact ⟨rfl, ⟨by omega, by omega, rfl⟩, by omega⟩

theorem okR1 : TabOk Tryd.prog Door.cfg R1 := by
  refine addL_ok okL34 fun σ s hs hp => ?_
  cases Option.some.inj hs
  obtain ⟨e, h1, h5⟩ := hp
  have := Ev.tidied (C := Door.cfg) (P := Tryd.prog) (b := loopAt Tryd.prog 33 3) (f := 33) (σ := σ) (t := ⟨[0, 1, 5], [4], 0⟩) (τ := I33 (slS σ 0) (slI σ 1) 0) (by kernel_rfl) (by rw [e, h1]; kernel_rfl) (loop33 (slS σ 0) h5 (slI σ 1))
  obtain ⟨m, ex, τ, h2, h3⟩ := this
  rcases h3 with ⟨q1, rfl, rfl⟩ | ⟨q1, rfl, rfl⟩
  · exact ⟨_, .head _, (), q1, m, h2⟩
  · exact ⟨_, .tail _ (.head _), (), q1, m, h2⟩

theorem numL_suffix : ∀ (s : List UInt8) (n : Int), ∃ k, k ≤ s.length ∧ (numL s n).2 = s.drop k := by
  intro s
  induction s with
  | nil => intro n; exact ⟨0, Nat.le_refl _, rfl⟩
  | cons c r ih =>
    intro n
    have : numL (c :: r) n = if 48 ≤ (c.toNat : Int) ∧ (c.toNat : Int) ≤ 57 then numL r (min (10 * max n 0 + (c.toNat - 48)) 256) else (n, c :: r) := rfl
    rw [this]
    split
    · obtain ⟨k, h1, h2⟩ := ih (min (10 * max n 0 + (c.toNat - 48)) 256)
      exact ⟨k + 1, by simp; omega, by rw [h2]; rfl⟩
    · exact ⟨0, by simp, rfl⟩

theorem okC34 : TabOk Tryd.prog Door.cfg (R1.addC 34 C34) := by
  refine addC_ok okR1 fun args h s hs hp => ?_
  unfold C34 at hs
  split at hs
  · rename_i s0 a l
    obtain ⟨⟨u⟩⟩ := s0
    refine aspec_ok (Option.some.inj hs) (fun hpre => ?_) hp
    obtain ⟨p1, p2, p3⟩ := hpre
    replace p1 : u.length ≤ 1000000 := p1
    replace p3 : a ≤ (u.length : Int) := p3
    refine EvP.freshK okR1 (n := 40) (by kernel_rfl) (by kernel_rfl) (args' := [aStr u, aK .i64 a, aK .u8 l]) rfl (c34 u a l _ ?_)
    have hnot : (∀ c r, u.drop a.toNat = c :: r → c ≠ 42) → ∀ x : Int × Int, (0 ≤ x.2 ∧ x.2 ≤ (u.length : Int) ∧ numA l (u.drop a.toNat) (-1) = (x.1, u.drop x.2.toNat)) →
        ∃ y : Int × Int, (0 ≤ y.2 ∧ y.2 ≤ (u.length : Int) ∧ numR l (u.drop a.toNat) = (y.1, u.drop y.2.toNat)) ∧ AV.tup [AV.sc (Value.int IntKind.i64 x.1), AV.sc (Value.int IntKind.i64 x.2)] = .tup [aK .i64 y.1, aK .i64 y.2] := by
      intro hne x hx
      refine ⟨x, ⟨hx.1, hx.2.1, ?_⟩, rfl⟩
      rw [← hx.2.2]
      cases hr : u.drop a.toNat with
      | nil => rfl
      | cons c r =>
        have h42 := hne c r hr
        show (if c = 42 then (-2, r) else if (c.toNat : Int) < l then (-1, c :: r) else numL (c :: r) (-1)) = (if (c.toNat : Int) < l then (-1, c :: r) else numL (c :: r) (-1))
        rw [if_neg h42]
    rcases hr : u.drop a.toNat with _ | ⟨c, r⟩
    · have := drop_end hr
      rw [show decide (a < (u.length : Int)) = false by simp; omega, iteP_f]
      refine ⟨rfl, ⟨rfl, rfl, rfl, p2, p3, p1⟩, fun x hx => ?_⟩
      rw [← hr] at hx ⊢
      exact hnot (fun c r h => by rw [hr] at h; cases h) x hx
    · obtain ⟨e1, e2, e3⟩ := byteAt_drop hr
      rw [show decide (a < (u.length : Int)) = true by simp; omega, iteP_t, show inRange a u.length = true by rw [inRange_iff]; omega, iteP_t, e1]
      by_cases hc : c = 42
      · subst hc
        rw [show (((42 : UInt8).toNat : Int) == 42) = true from rfl, iteP_t]
        have hj : IntKind.i64.wrap (a + 1) = a + 1 := wrap_in (by omega) (by omega)
        refine ⟨(-2, a + 1), ⟨by show 0 ≤ a + 1; omega, by show a + 1 ≤ (u.length : Int); omega, ?_⟩, by rw [hj]; rfl⟩
        show (-2, r) = (-2, u.drop (a + 1).toNat)
        rw [toNat_succ p2, e3]
      · have : ((c.toNat : Int) == 42) = false := by
          rw [show ((c.toNat : Int) == 42) = (c == 42) from beq_byte c 42 (by decide)]
          simpa using hc
        rw [this, iteP_f]
        refine ⟨rfl, ⟨rfl, rfl, rfl, p2, p3, p1⟩, fun x hx => ?_⟩
        rw [← hr] at hx ⊢
        exact hnot (fun c' r' h => by rw [hr] at h; cases h; exact hc) x hx
  · cases hs

theorem okR2 : TabOk Tryd.prog Door.cfg R2 := by
  refine addC_ok okC34 fun args h s hs hp => ?_
  unfold C33 at hs
  split at hs
  · rename_i s0 c
    obtain ⟨⟨u⟩⟩ := s0
    refine nspec_ok (Option.some.inj hs) (fun hpre => ?_) hp
    replace hpre : u.length ≤ 1000000 := hpre
    refine EvP.freshV okR1 (n := 40) (by kernel_rfl) (by kernel_rfl) (args' := [aStr u, aK .u8 c]) rfl (c33 u c _ ?_)
    refine ⟨rfl, ⟨rfl, rfl, hpre⟩, fun _ hx => ?_, fun _ hx => ?_⟩
    · show _ = aBool (u.any fun b => decide ((b.toNat : Int) = c)); rw [hx]; rfl
    · show _ = aBool (u.any fun b => decide ((b.toNat : Int) = c)); rw [hx]; rfl
  · cases hs

end
end Go.Proofs.Pr

/- Printf: the reference's reader and check. -/
namespace Go.Proofs.Pr
open Go Go.Ef
noncomputable section
set_option maxRecDepth 100000

theorem any_byte (l : List UInt8) (c : UInt8) : (l.any fun b => decide ((b.toNat : Int) = (c.toNat : Int))) = l.contains c := by
  rw [Bool.eq_iff_iff, List.any_eq_true, List.contains_iff_mem]
  constructor
  · rintro ⟨b, hb, h⟩
    have : b = c := by rw [u8_eq]; simpa using h
    subst this; exact hb
  · intro h; exact ⟨c, h, by simp⟩

theorem flag_any (c : UInt8) : (([45, 48, 43, 32] : List UInt8).any fun b => decide ((b.toNat : Int) = (c.toNat : Int))) = isFlag c := by
  rw [any_byte]
  unfold isFlag
  simp only [List.contains_cons, List.contains_nil, Bool.or_false, Bool.or_assoc]

theorem loop20 (s : List UInt8) (hs : s.length ≤ 1000000) (a : Int) (d : Dir) (h1 : 0 ≤ a) (h4 : a ≤ s.length) :
    Ev Door.cfg Tryd.prog 20 (.loop (loopAt Tryd.prog 20 3)) (I20 s a d) fun e τ => τ = I20 s (slI τ 1) (rdDir τ 1) ∧ e = .exit 0 ∧ 0 ≤ slI τ 1 ∧ slI τ 1 ≤ s.length ∧ flagsF (s.drop a.toNat) d = (rdDir τ 1, s.drop (slI τ 1).toNat) := by
  refine loop_rd okR2 (n := 40) (fun x : Int × Dir => I20 s x.1 x.2) (fun τ => (slI τ 1, rdDir τ 1)) (fun x => 0 ≤ x.1 ∧ x.1 ≤ s.length ∧ flagsF (s.drop a.toNat) d = flagsF (s.drop x.1.toNat) x.2) (fun x => s.length - x.1.toNat) (by kernel_rfl)
    (fun x t ht => ?_) (fun x hx => ?_) (a, d) ⟨h1, h4, rfl⟩
  · replace ht : Door.tidy 20 3 = some t := ht
    cases ht
    show (I20 s x.1 x.2).tidy [0, 1, 4, 7] 2 = I20 s x.1 x.2
    kernel_rfl
  · obtain ⟨j, f⟩ := x
    obtain ⟨q1, q4, q5⟩ := hx
    simp only at q1 q4 q5
    refine v20 s j f (fun j' f' => (0 ≤ j' ∧ j' ≤ s.length ∧ flagsF (s.drop a.toNat) d = flagsF (s.drop j'.toNat) f') ∧ s.length - j'.toNat < s.length - j.toNat) (fun e j' f' => e = .exit 0 ∧ 0 ≤ j' ∧ j' ≤ s.length ∧ flagsF (s.drop a.toNat) d = (f', s.drop j'.toNat)) ?_
    rw [q5]
    rcases hr : s.drop j.toNat with _ | ⟨c, r⟩
    · have := drop_end hr
      rw [show decide (j < (s.length : Int)) = false by simp; omega, iteP_f]
      exact ⟨rfl, rfl, q1, q4, rfl⟩
    · obtain ⟨e1, e2, e3⟩ := byteAt_drop hr
      have hj : IntKind.i64.wrap (j + 1) = j + 1 := wrap_in (by omega) (by omega)
      have hin : inRange j s.length = true := by rw [inRange_iff]; omega
      rw [show decide (j < (s.length : Int)) = true by simp; omega, iteP_t, hin, iteP_t, e1, hj, toNat_succ q1, e3, flag_any]
      refine ⟨(by decide : 4 ≤ 1000000), fun x hx => ?_⟩
      subst hx
      rw [show ((c.toNat : Int) == 45) = (c == 45) from beq_byte c 45 (by decide), show ((c.toNat : Int) == 48) = (c == 48) from beq_byte c 48 (by decide), show ((c.toNat : Int) == 43) = (c == 43) from beq_byte c 43 (by decide)]
      have hfl : flagsF (c :: r) f = if isFlag c then flagsF r (setFlag f c) else (f, c :: r) := rfl
      rw [hfl]
      have b1 : 0 ≤ j + 1 ∧ j + 1 ≤ (s.length : Int) := by omega
      have b2 : s.length - (j.toNat + 1) < s.length - j.toNat := by omega
      unfold setFlag
      cases hf : isFlag c with
      | false => exact ⟨rfl, rfl, q1, q4, rfl⟩
      | true =>
        rw [iteP_t, iteP_t, if_pos rfl]
        by_cases h45 : c = 45
        · subst h45; exact ⟨rfl, ⟨b1.1, b1.2, rfl⟩, b2⟩
        · by_cases h48 : c = 48
          · subst h48; exact ⟨rfl, ⟨b1.1, b1.2, rfl⟩, b2⟩
          · by_cases h43 : c = 43
            · subst h43; exact ⟨rfl, ⟨b1.1, b1.2, rfl⟩, b2⟩
            · have e1 : (c == 45) = false := by simpa using h45
              have e2 : (c == 48) = false := by simpa using h48
              have e3 : (c == 43) = false := by simpa using h43
              rw [e1, iteP_f, e2, iteP_f, e3, iteP_f, if_neg h45, if_neg h48, if_neg h43]
              exact ⟨rfl, ⟨b1.1, b1.2, rfl⟩, b2⟩

theorem okR3 : TabOk Tryd.prog Door.cfg R3 := by
  refine addL_ok okR2 fun σ s hs hp => ?_
  refine lspec_ok (Option.some.inj hs) (fun hpre => ?_) hp
  obtain ⟨e, h1, h4, h5⟩ := hpre
  refine Ev.tidied (t := ⟨[0, 1, 4, 7], [0, 1, 4, 7], 2⟩) (τ := I20 (slS σ 0) (slI σ 1) (rdDir σ 1)) (by kernel_rfl) (by rw [e]; kernel_rfl) ?_
  refine (loop20 (slS σ 0) h5 (slI σ 1) (rdDir σ 1) h1 h4).mono fun ex τ h => ?_
  exact ⟨(slI τ 1, rdDir τ 1), ⟨h.2.2.1, h.2.2.2.1, h.2.2.2.2⟩, h.2.1, h.1⟩

def err20 (e : Int) : AV := .tup [.agg [.sc (.bool false), .sc (.bool false), .sc (.bool false), .sc (.bool false), .sc (.int .i64 0), .sc (.int .i64 0), .sc (.int .u8 0)], .sc (.int .i64 0), .sc (.int .i64 e)]
def tail20 (d : Dir) (w p : Int) (s : List UInt8) (j : Int) (K : AV → Prop) : Prop :=
  iteP (decide ((s.length : Int) ≤ j)) (K (err20 1)) (iteP (inRange j s.length) (Nat.le 10 1000000 ∧ ∀ x : Bool, x = (([100, 105, 111, 120, 88, 117, 99, 115, 102, 37] : List UInt8).any fun b => decide ((b.toNat : Int) = byteAt s j)) →
    iteP x (iteP (decide (255 < w)) (K (err20 2)) (iteP (decide (255 < p)) (K (err20 2)) (iteP (inRange j s.length)
      (K (.tup [.agg [.sc (.bool d.minus), .sc (.bool d.zero), .sc (.bool d.plus), .sc (.bool d.space), .sc (.int .i64 w), .sc (.int .i64 p), .sc (.int .u8 (byteAt s j))], .sc (.int .i64 (IntKind.i64.wrap (j + 1))), .sc (.int .i64 0)])) False))) (K (err20 1))) False)

theorem tail20_ok (d : Dir) (w p : Int) (s rd : List UInt8) (j : Int) (hs : s.length ≤ 1000000) (h1 : 0 ≤ j) (h2 : j ≤ s.length) (hrd : readR rd = endF d w p (s.drop j.toNat)) :
    tail20 d w p s j fun y => ∃ x : Dir × Int × Int, ((x.2.2 = 0 ∧ 0 ≤ x.2.1 ∧ x.2.1 ≤ (s.length : Int) ∧ readR rd = (x.1, s.drop x.2.1.toNat, 0)) ∨ (x.2.2 ≠ 0 ∧ (readR rd).2.2 = x.2.2)) ∧ y = .tup [.agg x.1.cells, aK .i64 x.2.1, aK .i64 x.2.2] := by
  unfold tail20
  rw [hrd]
  rcases hr : s.drop j.toNat with _ | ⟨c, r⟩
  · have := drop_end hr
    rw [show decide ((s.length : Int) ≤ j) = true by simp; omega, iteP_t]
    exact ⟨(Dir.none, 0, 1), .inr ⟨by simp, rfl⟩, rfl⟩
  · obtain ⟨e1, e2, e3⟩ := byteAt_drop hr
    have hj : IntKind.i64.wrap (j + 1) = j + 1 := wrap_in (by omega) (by omega)
    have hin : inRange j s.length = true := by rw [inRange_iff]; omega
    rw [show decide ((s.length : Int) ≤ j) = false by simp; omega, iteP_f, hin, iteP_t, e1, hj]
    refine ⟨(by decide : 10 ≤ 1000000), fun x hx => ?_⟩
    have hk : (([100, 105, 111, 120, 88, 117, 99, 115, 102, 37] : List UInt8).any fun b => decide ((b.toNat : Int) = (c.toNat : Int))) = kinds.contains c := any_byte _ c
    rw [hk] at hx
    have he : endF d w p (c :: r) = if kinds.contains c then (if w > 255 ∨ p > 255 then (Dir.none, [], 2) else ({ d with width := w, prec := p, kind := c.toNat }, r, 0)) else (Dir.none, [], 1) := rfl
    rw [he, ← hx]
    cases x with
    | false => exact ⟨(Dir.none, 0, 1), .inr ⟨by simp, rfl⟩, rfl⟩
    | true =>
      rw [iteP_t]
      by_cases h1 : 255 < w
      · rw [decide_eq_true h1, iteP_t, if_pos rfl, if_pos (.inl h1)]
        exact ⟨(Dir.none, 0, 2), .inr ⟨by simp, rfl⟩, rfl⟩
      · by_cases h2 : 255 < p
        · rw [decide_eq_false h1, iteP_f, decide_eq_true h2, iteP_t, if_pos rfl, if_pos (.inr h2)]
          exact ⟨(Dir.none, 0, 2), .inr ⟨by simp, rfl⟩, rfl⟩
        · rw [decide_eq_false h1, iteP_f, decide_eq_false h2, iteP_f, if_pos rfl, if_neg (by omega), iteP_t]
          refine ⟨({ d with width := w, prec := p, kind := c.toNat }, j + 1, 0), .inl ⟨rfl, ?_, ?_, ?_⟩, rfl⟩
          · show 0 ≤ j + 1; omega
          · show j + 1 ≤ (s.length : Int); omega
          · show ({ d with width := w, prec := p, kind := (c.toNat : Int) }, r, (0 : Int)) = ({ d with width := w, prec := p, kind := (c.toNat : Int) }, s.drop (j + 1).toNat, 0)
            rw [toNat_succ (by omega), e3]

theorem okR4 : TabOk Tryd.prog Door.cfg R4 := by
  refine addC_ok okR3 fun args h s hs hp => ?_
  unfold C20 at hs
  split at hs
  · rename_i s0 a
    obtain ⟨⟨u⟩⟩ := s0
    refine aspec_ok (Option.some.inj hs) (fun hpre => ?_) hp
    obtain ⟨p1, p2, p3⟩ := hpre
    replace p1 : u.length ≤ 1000000 := p1
    replace p3 : a ≤ (u.length : Int) := p3
    refine EvP.freshK okR3 (n := 40) (by kernel_rfl) (by kernel_rfl) (args' := [aStr u, aK .i64 a]) rfl (c20 u a _ ?_)
    refine ⟨rfl, ⟨rfl, p2, p3, p1⟩, fun x hx => ⟨⟨p1, hx.1, hx.2.1⟩, fun x1 hx1 => ?_⟩⟩
    obtain ⟨a1, a2, a3⟩ := hx
    obtain ⟨b1, b2, b3⟩ := hx1
    have hd : flagsF (u.drop a.toNat) { Dir.none with prec := -1 } = (x.2, u.drop x.1.toNat) := a3
    have hpr : x.2.prec = -1 := by have := flagsF_prec (u.drop a.toNat) { Dir.none with prec := -1 }; rw [hd] at this; exact this
    have hread : readR (u.drop a.toNat) = endF x.2 x1.1 (precR (u.drop x1.2.toNat)).1 (precR (u.drop x1.2.toNat)).2 := by
      unfold readR
      rw [hd]
      show endF x.2 (numR 49 (u.drop x.1.toNat)).1 (precR (numR 49 (u.drop x.1.toNat)).2).1 (precR (numR 49 (u.drop x.1.toNat)).2).2 = _
      rw [b3]
    rcases hr : u.drop x1.2.toNat with _ | ⟨c, r⟩
    · have := drop_end hr
      rw [show decide (x1.2 < (u.length : Int)) = false by simp; omega, iteP_f]
      have hp : precR (u.drop x1.2.toNat) = (-1, u.drop x1.2.toNat) := by rw [hr]; rfl
      rw [hp] at hread
      have := tail20_ok x.2 x1.1 x.2.prec u (u.drop a.toNat) x1.2 p1 b1 b2 (by rw [hpr]; exact hread)
      exact this
    · obtain ⟨e1, e2, e3⟩ := byteAt_drop hr
      have hj : IntKind.i64.wrap (x1.2 + 1) = x1.2 + 1 := wrap_in (by omega) (by omega)
      have hin : inRange x1.2 u.length = true := by rw [inRange_iff]; omega
      rw [show decide (x1.2 < (u.length : Int)) = true by simp; omega, iteP_t, hin, iteP_t]
      by_cases hc : c = 46
      · subst hc
        rw [show (byteAt u x1.2 == 46) = true by rw [e1]; rfl, iteP_t, hj]
        refine ⟨⟨p1, by omega, by omega⟩, fun x2 hx2 => ?_⟩
        obtain ⟨d1, d2, d3⟩ := hx2
        rw [toNat_succ b1, e3] at d3
        have hp : precR (u.drop x1.2.toNat) = ((if x2.1 = -1 then 0 else x2.1), u.drop x2.2.toNat) := by
          rw [hr]
          show ((if (numR 48 r).1 = -1 then 0 else (numR 48 r).1), (numR 48 r).2) = _
          rw [d3]
        rw [hp] at hread
        by_cases h1 : x2.1 = -1
        · rw [show (x2.1 == -1) = true from by rw [h1]; rfl, iteP_t]
          rw [if_pos h1] at hread
          have := tail20_ok x.2 x1.1 0 u (u.drop a.toNat) x2.2 p1 d1 d2 hread
          unfold tail20 at this
          rw [show decide ((255 : Int) < 0) = false from rfl] at this
          exact this
        · rw [show (x2.1 == -1) = false from by simpa using h1, iteP_f]
          rw [if_neg h1] at hread
          exact tail20_ok x.2 x1.1 x2.1 u (u.drop a.toNat) x2.2 p1 d1 d2 hread
      · have : (byteAt u x1.2 == 46) = false := by
          rw [e1, show ((c.toNat : Int) == 46) = (c == 46) from beq_byte c 46 (by decide)]
          simpa using hc
        rw [this, iteP_f]
        have hp : precR (u.drop x1.2.toNat) = (-1, u.drop x1.2.toNat) := by rw [hr]; show (if c = 46 then _ else _) = _; rw [if_neg hc]
        rw [hp] at hread
        rw [← hin]
        have := tail20_ok x.2 x1.1 x.2.prec u (u.drop a.toNat) x1.2 p1 b1 b2 (by rw [hpr]; exact hread)
        exact this
  · cases hs

end
end Go.Proofs.Pr

/- Printf: the two checks agree; the law PrintfChecks. -/
namespace Go.Proofs.Pr
open Go Go.Ef
noncomputable section
set_option maxRecDepth 100000

theorem numL_other (c : UInt8) (r : List UInt8) (n : Int) (h : ¬ (48 ≤ (c.toNat : Int) ∧ (c.toNat : Int) ≤ 57)) : numL (c :: r) n = (n, c :: r) := by
  show (if 48 ≤ (c.toNat : Int) ∧ (c.toNat : Int) ≤ 57 then _ else _) = _
  rw [if_neg h]
theorem numR48 (s : List UInt8) : numR 48 s = numF s := by
  cases s with
  | nil => rfl
  | cons c r =>
    show (if c = 42 then (-2, r) else if (c.toNat : Int) < 48 then (-1, c :: r) else numL (c :: r) (-1)) = if c = 42 then (-2, r) else numL (c :: r) (-1)
    by_cases h : c = 42
    · rw [if_pos h, if_pos h]
    · rw [if_neg h, if_neg h]
      by_cases h2 : (c.toNat : Int) < 48
      · rw [if_pos h2, numL_other _ _ _ (by omega)]
      · rw [if_neg h2]
theorem flagsF_stop : ∀ (s : List UInt8) (d : Dir), (flagsF s d).2 = [] ∨ ∃ c r, (flagsF s d).2 = c :: r ∧ isFlag c = false := by
  intro s
  induction s with
  | nil => intro d; exact .inl rfl
  | cons c r ih =>
    intro d
    have : flagsF (c :: r) d = if isFlag c then flagsF r (setFlag d c) else (d, c :: r) := rfl
    rw [this]
    cases hf : isFlag c with
    | true => exact ih _
    | false => exact .inr ⟨c, r, rfl, hf⟩
theorem numR49 (s : List UInt8) (d : Dir) : numR 49 (flagsF s d).2 = numF (flagsF s d).2 := by
  rcases flagsF_stop s d with h | ⟨c, r, h, hf⟩
  · rw [h]; rfl
  · rw [h]
    show (if c = 42 then (-2, r) else if (c.toNat : Int) < 49 then (-1, c :: r) else numL (c :: r) (-1)) = if c = 42 then (-2, r) else numL (c :: r) (-1)
    by_cases h1 : c = 42
    · rw [if_pos h1, if_pos h1]
    · rw [if_neg h1, if_neg h1]
      by_cases h2 : (c.toNat : Int) < 49
      · have h48 : c ≠ 48 := by rintro rfl; cases hf
        have h3 : (c.toNat : Int) ≠ 48 := by
          intro e
          apply h48
          rw [u8_eq]; exact e
        rw [if_pos h2, numL_other _ _ _ (by omega)]
      · rw [if_neg h2]
theorem precRF (s : List UInt8) : precR s = precF s := by
  cases s with
  | nil => rfl
  | cons c r =>
    show (if c = 46 then ((if (numR 48 r).1 = -1 then 0 else (numR 48 r).1), (numR 48 r).2) else (-1, c :: r)) = (if c = 46 then ((if (numF r).1 = -1 then 0 else (numF r).1), (numF r).2) else (-1, c :: r))
    rw [numR48]
theorem readRF (s : List UInt8) : readR s = readF s := by
  unfold readR readF
  rw [numR49, precRF]

theorem checkR_more : ∀ n s, s.length < n → ∀ m, s.length < m → checkR n s = checkR m s := by
  intro n
  induction n with
  | zero => intro s h; omega
  | succ n ih =>
    intro s h m hm
    cases m with
    | zero => omega
    | succ m =>
      cases s with
      | nil => rfl
      | cons c r =>
        show (if c = 37 then (if (readR r).2.2 = 0 then checkR n (readR r).2.1 else (readR r).2.2) else checkR n r) = (if c = 37 then (if (readR r).2.2 = 0 then checkR m (readR r).2.1 else (readR r).2.2) else checkR m r)
        simp only [List.length_cons] at h hm
        by_cases hc : c = 37
        · rw [if_pos hc, if_pos hc]
          by_cases h0 : (readR r).2.2 = 0
          · rw [if_pos h0, if_pos h0]
            have : (readR r).2.1.length < r.length := by rw [readRF] at h0 ⊢; exact readF_len r h0
            exact ih _ (by omega) m (by omega)
          · rw [if_neg h0, if_neg h0]
        · rw [if_neg hc, if_neg hc]
          exact ih _ (by omega) m (by omega)

theorem checkR_skip : ∀ s n, s.length < n → checkR n s = if hasPct s then (if (readF (after s)).2.2 = 0 then checkR n (readF (after s)).2.1 else (readF (after s)).2.2) else 0 := by
  intro s
  induction s with
  | nil => intro n h; cases n <;> rfl
  | cons c r ih =>
    intro n h
    cases n with
    | zero => omega
    | succ n =>
      simp only [List.length_cons] at h
      have hck : checkR (n + 1) (c :: r) = (if c = 37 then (if (readR r).2.2 = 0 then checkR n (readR r).2.1 else (readR r).2.2) else checkR n r) := rfl
      rw [hck]
      by_cases hc : c = 37
      · subst hc
        have e1 : hasPct ((37 : UInt8) :: r) = true := by simp [hasPct]
        have e2 : after ((37 : UInt8) :: r) = r := by simp [after]
        rw [if_pos rfl, e1, if_pos rfl, e2, readRF]
        by_cases h0 : (readF r).2.2 = 0
        · rw [if_pos h0, if_pos h0]
          have := readF_len r h0
          exact checkR_more _ _ (by omega) _ (by omega)
        · rw [if_neg h0, if_neg h0]
      · have e1 : hasPct (c :: r) = hasPct r := by
          have : ((37 : UInt8) == c) = false := by simpa using fun e => hc e.symm
          unfold hasPct
          rw [List.contains_cons, this, Bool.false_or]
        have e2 : after (c :: r) = after r := by simp [after, hc]
        rw [if_neg hc, e1, e2, ih n (by omega)]
        cases hp : hasPct r with
        | false => rfl
        | true =>
          rw [if_pos rfl, if_pos rfl]
          by_cases h0 : (readF (after r)).2.2 = 0
          · rw [if_pos h0, if_pos h0]
            have l1 := readF_len _ h0
            have l2 := pct_len hp
            exact checkR_more _ _ (by omega) _ (by omega)
          · rw [if_neg h0, if_neg h0]

theorem checks_agree : ∀ n s, s.length < n → checkF n s = checkR n s := by
  intro n
  induction n with
  | zero => intro s h; omega
  | succ n ih =>
    intro s h
    rw [checkR_skip s _ h]
    simp only [checkF]
    cases hp : hasPct s with
    | false => rfl
    | true =>
      rw [if_pos rfl, if_pos rfl]
      by_cases h0 : (readF (after s)).2.2 = 0
      · rw [if_pos h0, if_pos h0]
        have l1 := readF_len _ h0
        have l2 := pct_len hp
        rw [ih _ (by omega)]
        exact checkR_more _ _ (by omega) _ (by omega)
      · rw [if_neg h0, if_neg h0]

theorem loop9 (s : List UInt8) (hs : s.length ≤ 1000000) :
    Ev Door.cfg Tryd.prog 9 (.loop (loopAt Tryd.prog 9 3)) (I9 s 0) fun e τ => (checkR (s.length + 1) s = 0 ∧ e = .exit 0 ∧ τ = E9) ∨ (e = .ret ∧ τ = J9 (checkR (s.length + 1) s)) := by
  have main := loop_rd (C := Door.cfg) (P := Tryd.prog) okR4 (f := 9) (i := 3) (n := 40) (fun x : Int => I9 s x) (fun τ => slI τ 3) (fun x => 0 ≤ x ∧ x ≤ s.length ∧ checkR (s.length + 1) s = checkR ((s.drop x.toNat).length + 1) (s.drop x.toNat)) (fun x => s.length - x.toNat)
    (K := fun e τ => match e with
      | .ret => τ = J9 (slI τ 2) ∧ slI τ 2 = checkR (s.length + 1) s
      | e => τ = E9 ∧ (e = .exit 0 ∧ checkR (s.length + 1) s = 0)) (by kernel_rfl)
    (fun x t ht => ?_) (fun x hx => ?_) 0 ⟨Int.le_refl _, by omega, rfl⟩
  · refine main.mono fun e τ h => ?_
    cases e with
    | ret => exact .inr ⟨rfl, by rw [← h.2]; exact h.1⟩
    | normal => cases h.2.1
    | exit j => exact .inl ⟨h.2.2, h.2.1, h.1⟩
  · replace ht : Door.tidy 9 3 = some t := ht
    cases ht
    show (I9 s x).tidy [0, 3] 0 = I9 s x
    kernel_rfl
  · obtain ⟨q1, q2, q3⟩ := hx
    refine v9 s x (fun y => (0 ≤ y ∧ y ≤ s.length ∧ checkR (s.length + 1) s = checkR ((s.drop y.toNat).length + 1) (s.drop y.toNat)) ∧ s.length - y.toNat < s.length - x.toNat) (fun e => e = checkR (s.length + 1) s) (fun e => e = .exit 0 ∧ checkR (s.length + 1) s = 0) ?_
    rw [q3]
    rcases hr : s.drop x.toNat with _ | ⟨c, r⟩
    · have := drop_end hr
      rw [show decide (x < (s.length : Int)) = false by simp; omega, iteP_f]
      exact ⟨rfl, rfl, rfl⟩
    · obtain ⟨e1, e2, e3⟩ := byteAt_drop hr
      have hj : IntKind.i64.wrap (x + 1) = x + 1 := wrap_in (by omega) (by omega)
      have hlen : (s.drop x.toNat).length = s.length - x.toNat := List.length_drop
      rw [hr] at hlen
      simp only [List.length_cons] at hlen
      rw [show decide (x < (s.length : Int)) = true by simp; omega, iteP_t, show inRange x s.length = true by rw [inRange_iff]; omega, iteP_t, e1, hj, toNat_succ q1, e3]
      have hck : checkR ((c :: r).length + 1) (c :: r) = (if c = 37 then (if (readR r).2.2 = 0 then checkR (c :: r).length (readR r).2.1 else (readR r).2.2) else checkR (c :: r).length r) := rfl
      rw [hck]
      by_cases hc : c = 37
      · have hb : ((c.toNat : Int) != 37) = false := by subst hc; rfl
        rw [hb, iteP_f, if_pos hc]
        refine ⟨⟨hs, by omega, by omega⟩, fun y hy => ?_⟩
        rcases hy with ⟨y1, y2, y3, y4⟩ | ⟨y1, y2⟩
        · rw [y1, show ((0 : Int) != 0) = false from rfl, iteP_f]
          have h0 : (readR r).2.2 = 0 := by rw [y4]
          have h5 : (readR r).2.1 = s.drop y.2.1.toNat := by rw [y4]
          have h6 : (readR r).2.1.length < r.length := by have := h0; rw [readRF] at this ⊢; exact readF_len r this
          have h7 : (s.drop y.2.1.toNat).length = s.length - y.2.1.toNat := List.length_drop
          rw [if_pos h0, h5]
          rw [h5] at h6
          refine ⟨rfl, ⟨y2, y3, ?_⟩, by omega⟩
          exact checkR_more _ _ (by simp only [List.length_cons]; omega) _ (by omega)
        · rw [show (y.2.2 != 0) = true by simpa using y1, iteP_t, y2, if_neg y1]
          exact ⟨rfl, rfl⟩
      · have hb : ((c.toNat : Int) != 37) = true := by
          rw [bne, show ((c.toNat : Int) == 37) = (c == 37) from beq_byte c 37 (by decide)]
          simpa using hc
        rw [hb, iteP_t, if_neg hc]
        refine ⟨rfl, ⟨by omega, by omega, ?_⟩, by omega⟩
        rfl

theorem okR5 : TabOk Tryd.prog Door.cfg R5 := by
  refine addL_ok okR4 fun σ s hs hp => ?_
  cases Option.some.inj hs
  obtain ⟨e, h1, h5⟩ := hp
  have := Ev.tidied (C := Door.cfg) (P := Tryd.prog) (b := loopAt Tryd.prog 9 3) (f := 9) (σ := σ) (t := ⟨[0, 3], [2], 0⟩) (τ := I9 (slS σ 0) 0) (by kernel_rfl) (by rw [e, h1]; kernel_rfl) (loop9 (slS σ 0) h5)
  obtain ⟨m, ex, τ, h2, h3⟩ := this
  rcases h3 with ⟨q1, rfl, rfl⟩ | ⟨rfl, rfl⟩
  · exact ⟨_, .head _, (), q1, m, h2⟩
  · exact ⟨_, .tail _ (.head _), _, rfl, m, h2⟩
theorem okC9 : TabOk Tryd.prog Door.cfg (R5.addC 9 C9) := by
  refine addC_ok okR5 fun args h s hs hp => ?_
  unfold C9 at hs
  split at hs
  · rename_i s0
    obtain ⟨⟨u⟩⟩ := s0
    refine nspec_ok (Option.some.inj hs) (fun hpre => ?_) hp
    replace hpre : u.length ≤ 1000000 := hpre
    refine EvP.freshV okR5 (n := 40) (by kernel_rfl) (by kernel_rfl) (args' := [aStr u]) rfl (c9 u _ ?_)
    refine ⟨rfl, ⟨rfl, rfl, hpre⟩, fun _ hx => ?_, fun x hx => ?_⟩
    · show _ = aK .i64 (checkR (u.length + 1) u); rw [hx]; rfl
    · show _ = aK .i64 (checkR (u.length + 1) u); rw [hx]; rfl
  · cases hs

theorem awake_evF : Door.yes (evCall Door.cfg Tryd.prog 1000 10 [] heapF) = true := by decide +kernel
theorem okR6 : TabOk Tryd.prog Door.cfg R6 := by
  refine addC_ok okC9 fun args h s hs hp => ?_
  unfold C10 at hs
  split at hs
  · refine nspec_ok (Option.some.inj hs) (fun _ => ?_) hp
    obtain ⟨h', he⟩ := Door.yes_spec awake_evF
    exact EvP.fresh (by kernel_rfl) (by kernel_rfl) (args' := []) rfl ⟨1000, _, h', he, rfl, rfl⟩
  · cases hs

theorem law3 (l : List UInt8) : ∃ m h', evCall Door.cfg Tryd.prog m 3 [aStr l] heap0 = some (.sc (.bool true), h') := by
  have main : wpCall R6 Door.cfg Tryd.prog 40 3 [aStr l] heap0 fun v _ => v = .sc (.bool true) := by
    refine c3 l _ ?_
    by_cases h : (60 : Int) < (l.length : Int)
    · rw [decide_eq_true h, iteP_t]
      exact ⟨trivial, fun x hx => by subst hx; rfl⟩
    · rw [decide_eq_false h, iteP_f]
      refine ⟨by show l.length ≤ 1000000; omega, fun x hx => ⟨by show l.length ≤ 1000000; omega, fun y hy => ?_⟩⟩
      have : x = y := by rw [hx, hy]; exact checks_agree _ _ (Nat.lt_succ_self _)
      rw [show (x == y) = true by simpa using this, iteP_t]
      exact ⟨trivial, fun x hx => by subst hx; rfl⟩
  obtain ⟨m, v, h', h1, h2⟩ := call_okW okR6 40 3 _ _ _ main
  exact ⟨m, h', by rw [h1, h2]⟩

end
end Go.Proofs.Pr

