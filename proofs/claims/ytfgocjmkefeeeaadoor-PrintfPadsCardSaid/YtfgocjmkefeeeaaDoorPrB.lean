/- Printf: the program reads and checks a format as the plain form says. -/
import Derived.Test.YtfgocjmkefeeeaaDoorPrA
/- Printf: the program's reader computes what its plain form says. -/
namespace Go.Proofs.Pr
open Go Go.Ef
noncomputable section
set_option maxRecDepth 100000

theorem loop47 (s : List UInt8) (hs : s.length ≤ 1000000) (n k : Int) (h1 : 0 ≤ k) (h2 : -1 ≤ n) (h3 : n ≤ 256) (h4 : k ≤ s.length) :
    Ev Door.cfg Tryd.prog 47 (.loop (loopAt Tryd.prog 47 5)) (I47 s n k) fun e τ => τ = I47 s (slI τ 4) (slI τ 5) ∧ e = .exit 0 ∧ 0 ≤ slI τ 5 ∧ slI τ 5 ≤ s.length ∧ numL (s.drop k.toNat) n = (slI τ 4, s.drop (slI τ 5).toNat) := by
  refine loop_rd tab0_ok (n := 40) (fun x : Int × Int => I47 s x.1 x.2) (fun τ => (slI τ 4, slI τ 5)) (fun x => 0 ≤ x.2 ∧ -1 ≤ x.1 ∧ x.1 ≤ 256 ∧ x.2 ≤ s.length ∧ numL (s.drop x.2.toNat) x.1 = numL (s.drop k.toNat) n) (fun x => s.length - x.2.toNat) (by kernel_rfl)
    (fun x t ht => ?_) (fun x hx => ?_) (n, k) ⟨h1, h2, h3, h4, rfl⟩
  · replace ht : Door.tidy 47 5 = some t := ht
    cases ht
    show (I47 s x.1 x.2).tidy [0, 4, 5] 0 = I47 s x.1 x.2
    kernel_rfl
  · obtain ⟨m, j⟩ := x
    obtain ⟨q1, q2, q3, q4, q5⟩ := hx
    simp only at q1 q2 q3 q4 q5
    have hb := byteAt_le s j
    refine v47 s m j (fun m' j' => (0 ≤ j' ∧ -1 ≤ m' ∧ m' ≤ 256 ∧ j' ≤ s.length ∧ numL (s.drop j'.toNat) m' = numL (s.drop k.toNat) n) ∧ s.length - j'.toNat < s.length - j.toNat) (fun e m' j' => e = .exit 0 ∧ 0 ≤ j' ∧ j' ≤ s.length ∧ numL (s.drop k.toNat) n = (m', s.drop j'.toNat)) ?_
    simp only [iteP_F]
    simp only [iteP_iff, decide_eq_true_eq, decide_eq_false_iff_not, inRange_iff, true_and]
    rw [← q5]
    rcases hr : s.drop j.toNat with _ | ⟨c, r⟩
    · have := drop_end hr
      exact ⟨fun h => by omega, fun _ => ⟨q1, q4, rfl⟩⟩
    · obtain ⟨e1, e2, e3⟩ := byteAt_drop hr
      rw [e1] at hb ⊢
      have hj : IntKind.i64.wrap (j + 1) = j + 1 := wrap_in (by omega) (by omega)
      rw [hj, toNat_succ q1, e3]
      have hnum : numL (c :: r) m = if 48 ≤ (c.toNat : Int) ∧ (c.toNat : Int) ≤ 57 then numL r (min (10 * max m 0 + (c.toNat - 48)) 256) else (m, c :: r) := rfl
      repeat' (first | apply And.intro | intro _)
      all_goals (try simp (disch := omega) only [wrap_in, wrap8_in])
      all_goals try omega
      · have hc : 48 ≤ (c.toNat : Int) ∧ (c.toNat : Int) ≤ 57 := by omega
        rw [hnum, if_pos hc]
      · have hc : ¬ (48 ≤ (c.toNat : Int) ∧ (c.toNat : Int) ≤ 57) := by omega
        rw [hnum, if_neg hc]
      · have hc : ¬ (48 ≤ (c.toNat : Int) ∧ (c.toNat : Int) ≤ 57) := by omega
        rw [hnum, if_neg hc]

theorem ok1 : TabOk Tryd.prog Door.cfg T1 := by
  refine addL_ok tab0_ok fun σ s hs hp => ?_
  refine lspec_ok (Option.some.inj hs) (fun hpre => ?_) hp
  obtain ⟨e, h1, h2, h3, h4, h5⟩ := hpre
  refine Ev.tidied (t := ⟨[0, 4, 5], [0, 4, 5], 0⟩) (τ := I47 (slS σ 0) (slI σ 4) (slI σ 5)) (by kernel_rfl) (by rw [e]; kernel_rfl) ?_
  refine (loop47 (slS σ 0) h5 (slI σ 4) (slI σ 5) h1 h2 h3 h4).mono fun ex τ h => ?_
  exact ⟨(slI τ 4, slI τ 5), ⟨h.2.2.1, h.2.2.2.1, h.2.2.2.2⟩, h.2.1, h.1⟩

theorem prefix_take (p s : List UInt8) : p.isPrefixOf s = decide (p.length ≤ s.length ∧ s.take p.length = p) := by
  rw [Bool.eq_iff_iff, List.isPrefixOf_iff_prefix, decide_eq_true_eq, List.prefix_iff_eq_take]
  constructor
  · intro h
    have := congrArg List.length h
    simp at this
    exact ⟨by omega, h.symm⟩
  · intro h; exact h.2.symm

theorem ok48 : TabOk Tryd.prog Door.cfg (T1.addC 48 C48) := by
  refine addC_ok ok1 fun args h s hs hp => ?_
  unfold C48 at hs
  split at hs
  · rename_i s0 p0
    obtain ⟨⟨l⟩⟩ := s0
    obtain ⟨⟨p⟩⟩ := p0
    refine nspec_ok (Option.some.inj hs) (fun hpre => ?_) hp
    refine EvP.freshV tab0_ok (n := 40) (by kernel_rfl) (by kernel_rfl) (args' := [aStr l, aStr p]) rfl (c48 l p _ ?_)
    simp only [prefix_take, Int.toNat_natCast, Int.ofNat_le]
    by_cases h1 : p.length ≤ l.length
    · by_cases h2 : l.take p.length = p
      · simp [h1, h2, iteP_t, aBool]
      · simp [h1, h2, iteP_t, iteP_f, aBool]
    · simp [h1, iteP_f, aBool]
  · cases hs

theorem prefix_one (c : UInt8) (s : List UInt8) : [c].isPrefixOf s = (match s with | [] => false | d :: _ => c == d) := by
  cases s with
  | nil => rfl
  | cons d r => simp [List.isPrefixOf]

theorem ok47 : TabOk Tryd.prog Door.cfg ((T1.addC 48 C48).addC 47 C47) := by
  refine addC_ok ok48 fun args h s hs hp => ?_
  unfold C47 at hs
  split at hs
  · rename_i s0
    obtain ⟨⟨l⟩⟩ := s0
    refine nspec_ok (Option.some.inj hs) (fun hpre => ?_) hp
    refine EvP.freshV ok48 (n := 40) (by kernel_rfl) (by kernel_rfl) (args' := [aStr l]) rfl (c47 l _ ?_)
    replace hpre : l.length ≤ 1000000 := hpre
    show _ ∧ ∀ x : Bool, _ → iteP x (iteP _ (AV.tup _ = .tup [aK .i64 (numF l).1, aStr (numF l).2]) False) _
    refine ⟨hpre, fun x hx => ?_⟩
    subst hx
    have hrest : (∀ c r, l = c :: r → ¬ c = 42) → ∀ x : Int × Int, 0 ≤ x.2 ∧ x.2 ≤ l.length ∧ numL (l.drop (Int.toNat 0)) (-1) = (x.1, l.drop x.2.toNat) → numF l = (x.1, l.drop x.2.toNat) := by
      intro hne x hx
      have h3 := hx.2.2
      cases l with
      | nil => simpa [numF, numL] using h3
      | cons c r =>
        have := hne c r rfl
        simpa [numF, this] using h3
    rw [prefix_one]
    cases l with
    | nil =>
      rw [iteP_f]
      refine ⟨rfl, ⟨rfl, by simp⟩, fun x hx => ?_⟩
      have := hrest (fun c r h => by cases h) x hx
      simp only [iteP_F, this]
      simp only [Bool.and_eq_true, decide_eq_true_eq]
      exact ⟨⟨hx.1, hx.2.1⟩, rfl⟩
    | cons c r =>
      by_cases hc : c = 42
      · subst hc
        have h1 : decide ((1 : Int) ≤ (((42 : UInt8) :: r).length : Int)) = true := by
          rw [decide_eq_true_eq, List.length_cons]; omega
        have h2 : ((42 : UInt8) == 42) = true := rfl
        show iteP ((42 : UInt8) == 42) _ _
        rw [h2, iteP_t, Bool.true_and, h1, iteP_t]
        rfl
      · have : ((42 : UInt8) == c) = false := by simpa using fun e => hc e.symm
        simp only [this, iteP_f]
        refine ⟨trivial, ⟨trivial, by simp at hpre ⊢; omega⟩, fun x hx => ?_⟩
        have := hrest (fun c' r' h => by cases h; exact hc) x hx
        simp only [iteP_F, this]
        simp only [Bool.and_eq_true, decide_eq_true_eq]
        exact ⟨⟨hx.1, hx.2.1⟩, rfl⟩
  · cases hs

def is43 (r : Nat) : Bool :=
  match evCall Door.cfg Tryd.prog 200 43 [aStr kinds, aK .i32 r] heapF with
  | some (.sc (.bool b), _) => b == kinds.contains (UInt8.ofNat r)
  | _ => false
theorem all43 : (List.range 256).all is43 = true := by decide +kernel
theorem is43_ok {r : Nat} (hr : r < 256) : ∃ h', evCall Door.cfg Tryd.prog 200 43 [aStr kinds, aK .i32 r] heapF = some (aBool (kinds.contains (UInt8.ofNat r)), h') := by
  have h := List.all_eq_true.1 all43 r (by simp [hr])
  unfold is43 at h
  split at h
  · rename_i b h' he
    have : b = kinds.contains (UInt8.ofNat r) := by simpa using h
    exact ⟨h', by rw [he, this]; rfl⟩
  · cases h
theorem ok43 : TabOk Tryd.prog Door.cfg (((T1.addC 48 C48).addC 47 C47).addC 43 C43) := by
  refine addC_ok ok47 fun args h s hs hp => ?_
  unfold C43 at hs
  split at hs
  · rename_i s0 r
    obtain ⟨⟨l⟩⟩ := s0
    refine nspec_ok (Option.some.inj hs) (fun hpre => ?_) hp
    obtain ⟨h1, h2, h3⟩ := hpre
    replace h1 : l = kinds := h1
    subst h1
    obtain ⟨n, rfl⟩ := Int.eq_ofNat_of_zero_le h2
    obtain ⟨h', he⟩ := is43_ok (r := n) (by omega)
    refine EvP.fresh (by kernel_rfl) (by kernel_rfl) (args' := [aStr kinds, aK .i32 n]) rfl ⟨200, _, h', he, ?_⟩
    exact ⟨rfl, rfl⟩
  · cases hs

end
end Go.Proofs.Pr

/- Printf: the program's reader and its check. -/
namespace Go.Proofs.Pr
open Go Go.Ef
noncomputable section
set_option maxRecDepth 100000

theorem byteAt_zero (c : UInt8) (r : List UInt8) : byteAt (c :: r) 0 = c.toNat := rfl
theorem one_le_cons (c : UInt8) (r : List UInt8) : decide ((1 : Int) ≤ ((c :: r).length : Int)) = true := by
  rw [decide_eq_true_eq, List.length_cons]; omega
theorem range_cons (c : UInt8) (r : List UInt8) : inRange 0 (c :: r).length = true := by
  rw [inRange_iff, List.length_cons]; omega
theorem beq_byte (c : UInt8) (n : Nat) (h : n < 256) : ((c.toNat : Int) == (n : Int)) = (c == UInt8.ofNat n) := by
  rw [Bool.eq_iff_iff, beq_iff_eq, beq_iff_eq, u8_eq]
  have : (UInt8.ofNat n).toNat = n := by rw [UInt8.toNat_ofNat']; omega
  rw [this]

theorem loop32 (s : List UInt8) (d : Dir) (_ : s.length ≤ 1000000) :
    Ev Door.cfg Tryd.prog 32 (.loop (loopAt Tryd.prog 32 3)) (I32 s d) fun e τ => τ = I32 (slS τ 0) (rdDir τ 1) ∧ e = .exit 0 ∧ flagsF s d = (rdDir τ 1, slS τ 0) := by
  refine loop_rd tab0_ok (n := 40) (fun x : List UInt8 × Dir => I32 x.1 x.2) (fun τ => (slS τ 0, rdDir τ 1)) (fun x => flagsF x.1 x.2 = flagsF s d) (fun x => x.1.length) (by kernel_rfl)
    (fun x t ht => ?_) (fun x hx => ?_) (s, d) rfl
  · replace ht : Door.tidy 32 3 = some t := ht
    cases ht
    show (I32 x.1 x.2).tidy [0, 2, 5] 2 = I32 x.1 x.2
    kernel_rfl
  · obtain ⟨u, f⟩ := x
    simp only at hx
    refine v32 u f (fun u' f' => flagsF u' f' = flagsF s d ∧ u'.length < u.length) (fun e u' f' => e = .exit 0 ∧ flagsF s d = (f', u')) ?_
    rw [← hx]
    cases u with
    | nil => exact ⟨rfl, rfl, rfl⟩
    | cons c r =>
      have hne : decide (c :: r ≠ []) = true := by simp
      have b45 := beq_byte c 45 (by decide)
      have b48 := beq_byte c 48 (by decide)
      have b43 := beq_byte c 43 (by decide)
      have b32 := beq_byte c 32 (by decide)
      simp only [byteAt_zero, hne, iteP_t, range_cons, one_le_cons, Bool.true_and]
      rw [show ((c.toNat : Int) == 45) = (c == 45) from b45, show ((c.toNat : Int) == 48) = (c == 48) from b48, show ((c.toNat : Int) == 43) = (c == 43) from b43, show ((c.toNat : Int) == 32) = (c == 32) from b32]
      have hfl : flagsF (c :: r) f = if isFlag c then flagsF r (setFlag f c) else (f, c :: r) := rfl
      rw [hfl]
      unfold isFlag setFlag
      by_cases h45 : c = 45
      · subst h45; exact ⟨trivial, rfl, Nat.lt_succ_self _⟩
      · by_cases h48 : c = 48
        · subst h48; exact ⟨trivial, rfl, Nat.lt_succ_self _⟩
        · by_cases h43 : c = 43
          · subst h43; exact ⟨trivial, rfl, Nat.lt_succ_self _⟩
          · by_cases h32 : c = 32
            · subst h32; exact ⟨trivial, rfl, Nat.lt_succ_self _⟩
            · have e1 : (c == 45) = false := by simpa using h45
              have e2 : (c == 48) = false := by simpa using h48
              have e3 : (c == 43) = false := by simpa using h43
              have e4 : (c == 32) = false := by simpa using h32
              simp only [e1, e2, e3, e4, iteP_f]
              exact ⟨trivial, trivial, rfl⟩

theorem ok2 : TabOk Tryd.prog Door.cfg T2 := by
  refine addL_ok ok43 fun σ s hs hp => ?_
  refine lspec_ok (Option.some.inj hs) (fun hpre => ?_) hp
  obtain ⟨e, h5⟩ := hpre
  refine Ev.tidied (t := ⟨[0, 2, 5], [0, 2, 5], 2⟩) (τ := I32 (slS σ 0) (rdDir σ 1)) (by kernel_rfl) (by rw [e]; kernel_rfl) ?_
  refine (loop32 (slS σ 0) (rdDir σ 1) h5).mono fun ex τ h => ?_
  exact ⟨(rdDir τ 1, slS τ 0), h.2.2.symm, h.2.1, h.1⟩

theorem flagsF_len : ∀ (s : List UInt8) (d : Dir), (flagsF s d).2.length ≤ s.length := by
  intro s
  induction s with
  | nil => intro d; exact Nat.le_refl _
  | cons c r ih =>
    intro d
    show (if isFlag c then flagsF r (setFlag d c) else (d, c :: r)).2.length ≤ _
    split
    · exact Nat.le_succ_of_le (ih _)
    · exact Nat.le_refl _
theorem flagsF_prec : ∀ (s : List UInt8) (d : Dir), (flagsF s d).1.prec = d.prec := by
  intro s
  induction s with
  | nil => intro d; rfl
  | cons c r ih =>
    intro d
    show (if isFlag c then flagsF r (setFlag d c) else (d, c :: r)).1.prec = _
    split
    · rw [ih]
      unfold setFlag
      split
      · rfl
      · split
        · rfl
        · split <;> rfl
    · rfl
theorem numL_len : ∀ (s : List UInt8) (n : Int), (numL s n).2.length ≤ s.length := by
  intro s
  induction s with
  | nil => intro d; exact Nat.le_refl _
  | cons c r ih =>
    intro n
    show (if 48 ≤ (c.toNat : Int) ∧ (c.toNat : Int) ≤ 57 then numL r (min (10 * max n 0 + (c.toNat - 48)) 256) else (n, c :: r)).2.length ≤ _
    split
    · exact Nat.le_succ_of_le (ih _)
    · exact Nat.le_refl _
theorem numF_len (s : List UInt8) : (numF s).2.length ≤ s.length := by
  cases s with
  | nil => exact Nat.le_refl _
  | cons c r =>
    show (if c = 42 then (-2, r) else numL (c :: r) (-1)).2.length ≤ _
    split
    · exact Nat.le_succ _
    · exact numL_len _ _
theorem kinds_byte (c : UInt8) : kinds.contains (UInt8.ofNat (IntKind.i32.wrap (c.toNat : Int)).toNat) = kinds.contains c := by
  have h := c.toNat_lt
  have : IntKind.i32.wrap (c.toNat : Int) = c.toNat := by rw [wrap32]; omega
  rw [this, Int.toNat_natCast, UInt8.ofNat_toNat]
theorem wrap_byte (c : UInt8) : 0 ≤ IntKind.i32.wrap (c.toNat : Int) ∧ IntKind.i32.wrap (c.toNat : Int) ≤ 255 := by
  have h := c.toNat_lt
  rw [wrap32]; omega


theorem ok32 : TabOk Tryd.prog Door.cfg (T2.addC 32 C32) := by
  refine addC_ok ok2 fun args h s hs hp => ?_
  unfold C32 at hs
  split at hs
  · rename_i s0
    obtain ⟨⟨l⟩⟩ := s0
    refine nspec_ok (Option.some.inj hs) (fun hpre => ?_) hp
    replace hpre : l.length ≤ 1000000 := hpre
    refine EvP.freshV ok2 (n := 40) (by kernel_rfl) (by kernel_rfl) (args' := [aStr l]) rfl (c32 l _ ?_)
    show _ ∧ _ ∧ ∀ x : Dir × List UInt8, _ → _ ∧ ∀ x1 : Int × List UInt8, _ → _ ∧ ∀ x2 : Bool, _ → _
    refine ⟨rfl, ⟨rfl, hpre⟩, fun x hx => ?_⟩
    replace hx : x = flagsF l { Dir.none with prec := -1 } := hx
    have hpr : x.1.prec = -1 := by rw [hx, flagsF_prec]
    have l1 : x.2.length ≤ 1000000 := by rw [hx]; exact Nat.le_trans (flagsF_len _ _) hpre
    refine ⟨l1, fun x1 hx1 => ?_⟩
    have l2 : x1.2.length ≤ 1000000 := by rw [hx1]; exact Nat.le_trans (numF_len _) l1
    refine ⟨l2, fun x2 hx2 => ?_⟩
    -- the end
    have fin : ∀ (p : Int) (u : List UInt8), endF x.1 x1.1 p u = endF x.1 x1.1 p u := fun _ _ => rfl
    have hread : readF l = endF x.1 x1.1 (precF x1.2).1 (precF x1.2).2 := by unfold readF; rw [← hx, ← hx1]
    rw [hread]
    rw [prefix_one] at hx2
    subst hx2
    have key : ∀ (p : Int) (u : List UInt8) (R : AV), R = .tup [.agg (endF x.1 x1.1 p u).1.cells, aStr (endF x.1 x1.1 p u).2.1, aK .i64 (endF x.1 x1.1 p u).2.2] →
        iteP (decide (u = [])) (AV.tup [AV.agg [AV.sc (Value.bool false), AV.sc (Value.bool false), AV.sc (Value.bool false), AV.sc (Value.bool false), AV.sc (Value.int IntKind.i64 0), AV.sc (Value.int IntKind.i64 0), AV.sc (Value.int IntKind.u8 0)], AV.sc (Value.string ⟨⟨[]⟩⟩), AV.sc (Value.int IntKind.i64 1)] = R)
          (iteP (inRange 0 u.length) ((([100, 105, 111, 120, 88, 117, 99, 115, 102, 37] : List UInt8) = kinds ∧ 0 ≤ IntKind.i32.wrap (byteAt u 0) ∧ IntKind.i32.wrap (byteAt u 0) ≤ 255) ∧ ∀ x4 : Bool, x4 = kinds.contains (UInt8.ofNat (IntKind.i32.wrap (byteAt u 0)).toNat) →
            iteP x4 (iteP (decide (255 < x1.1)) (AV.tup [AV.agg [AV.sc (Value.bool false), AV.sc (Value.bool false), AV.sc (Value.bool false), AV.sc (Value.bool false), AV.sc (Value.int IntKind.i64 0), AV.sc (Value.int IntKind.i64 0), AV.sc (Value.int IntKind.u8 0)], AV.sc (Value.string ⟨⟨[]⟩⟩), AV.sc (Value.int IntKind.i64 2)] = R)
              (iteP (decide (255 < p)) (AV.tup [AV.agg [AV.sc (Value.bool false), AV.sc (Value.bool false), AV.sc (Value.bool false), AV.sc (Value.bool false), AV.sc (Value.int IntKind.i64 0), AV.sc (Value.int IntKind.i64 0), AV.sc (Value.int IntKind.u8 0)], AV.sc (Value.string ⟨⟨[]⟩⟩), AV.sc (Value.int IntKind.i64 2)] = R)
                (iteP (inRange 0 u.length) (iteP (true && decide ((1 : Int) ≤ (u.length : Int))) (AV.tup [AV.agg [AV.sc (Value.bool x.1.minus), AV.sc (Value.bool x.1.zero), AV.sc (Value.bool x.1.plus), AV.sc (Value.bool x.1.space), AV.sc (Value.int IntKind.i64 x1.1), AV.sc (Value.int IntKind.i64 p), AV.sc (Value.int IntKind.u8 (byteAt u 0))], AV.sc (Value.string ⟨⟨u.drop 1⟩⟩), AV.sc (Value.int IntKind.i64 0)] = R) False) False)))
              (AV.tup [AV.agg [AV.sc (Value.bool false), AV.sc (Value.bool false), AV.sc (Value.bool false), AV.sc (Value.bool false), AV.sc (Value.int IntKind.i64 0), AV.sc (Value.int IntKind.i64 0), AV.sc (Value.int IntKind.u8 0)], AV.sc (Value.string ⟨⟨[]⟩⟩), AV.sc (Value.int IntKind.i64 1)] = R)) False) := by
      intro p u R hR
      subst hR
      cases u with
      | nil => rfl
      | cons c r =>
        have hne : decide (c :: r = []) = false := by simp
        rw [hne, iteP_f, range_cons, iteP_t]
        refine ⟨⟨rfl, wrap_byte c⟩, fun x4 hx4 => ?_⟩
        rw [byteAt_zero, kinds_byte] at hx4
        rw [byteAt_zero, one_le_cons]
        have he : endF x.1 x1.1 p (c :: r) = if kinds.contains c then (if x1.1 > 255 ∨ p > 255 then (Dir.none, [], 2) else ({ x.1 with width := x1.1, prec := p, kind := c.toNat }, r, 0)) else (Dir.none, [], 1) := rfl
        rw [he, ← hx4]
        cases x4 with
        | false => rfl
        | true =>
          rw [iteP_t]
          by_cases h1 : 255 < x1.1
          · rw [decide_eq_true h1, iteP_t, if_pos rfl, if_pos (.inl h1)]; rfl
          · by_cases h2 : 255 < p
            · rw [decide_eq_false h1, iteP_f, decide_eq_true h2, iteP_t, if_pos rfl, if_pos (.inr h2)]; rfl
            · rw [decide_eq_false h1, iteP_f, decide_eq_false h2, iteP_f, if_pos rfl, if_neg (by omega)]; rfl
    cases hr : x1.2 with
    | nil => exact key (-1) [] _ rfl
    | cons c r =>
      by_cases hc : c = 46
      · subst hc
        show iteP ((46 : UInt8) == 46) _ _
        rw [show ((46 : UInt8) == 46) = true from rfl, iteP_t, one_le_cons]
        refine ⟨?_, fun x3 hx3 => ?_⟩
        · show r.length ≤ 1000000
          rw [hr] at l2; simp at l2; omega
        · replace hx3 : x3 = numF r := hx3
          have hp : precF (46 :: r) = ((if (numF r).1 = -1 then 0 else (numF r).1), (numF r).2) := rfl
          rw [hp, ← hx3]
          by_cases h1 : x3.1 = -1
          · rw [show (x3.1 == -1) = true from by rw [h1]; rfl, iteP_t, if_pos h1]
            have := key 0 x3.2 _ rfl
            rw [show decide ((255 : Int) < 0) = false from rfl] at this
            exact this
          · rw [show (x3.1 == -1) = false from by simpa using h1, iteP_f, if_neg h1]
            exact key x3.1 x3.2 _ rfl
      · have : ((46 : UInt8) == c) = false := by simpa using fun e => hc e.symm
        show iteP ((46 : UInt8) == c) _ _
        rw [this, iteP_f]
        have hp : precF (c :: r) = (-1, c :: r) := by show (if c = 46 then _ else _) = _; rw [if_neg hc]
        rw [hp]
        exact key x.1.prec (c :: r) (.tup [.agg (endF x.1 x1.1 (-1) (c :: r)).1.cells, aStr (endF x.1 x1.1 (-1) (c :: r)).2.1, aK .i64 (endF x.1 x1.1 (-1) (c :: r)).2.2]) (by rw [hpr])
  · cases hs

theorem place_ge (c : UInt8) : ∀ (l : List UInt8) (n : Nat), placeOf c l n = -1 ∨ (n : Int) ≤ placeOf c l n := by
  intro l
  induction l with
  | nil => intro n; exact .inl rfl
  | cons b l ih =>
    intro n
    show (bif Nat.beq b.toNat c.toNat then (n : Int) else placeOf c l (n + 1)) = -1 ∨ _ ≤ (bif Nat.beq b.toNat c.toNat then (n : Int) else placeOf c l (n + 1))
    cases Nat.beq b.toNat c.toNat with
    | true => exact .inr (Int.le_refl _)
    | false =>
      rcases ih (n + 1) with h | h
      · exact .inl h
      · refine .inr ?_
        show (n : Int) ≤ placeOf c l (n + 1)
        omega
theorem place_spec : ∀ (l : List UInt8) (n : Nat), (hasPct l = false → placeOf 37 l n = -1) ∧ (hasPct l = true → placeOf 37 l n = n + (before l).length ∧ l.drop (before l).length = 37 :: after l ∧ l.take (before l).length = before l) := by
  intro l
  induction l with
  | nil => intro n; exact ⟨fun _ => rfl, fun h => by simp [hasPct] at h⟩
  | cons b l ih =>
    intro n
    by_cases hb : b = 37
    · subst hb
      refine ⟨fun h => by simp [hasPct] at h, fun _ => ?_⟩
      have e1 : before ((37 : UInt8) :: l) = [] := by simp [before]
      have e2 : after ((37 : UInt8) :: l) = l := by simp [after]
      rw [e1, e2]
      exact ⟨by show (bif Nat.beq 37 37 then (n : Int) else _) = _; simp, rfl, rfl⟩
    · have h1 : hasPct (b :: l) = hasPct l := by
        have : ((37 : UInt8) == b) = false := by simpa using fun e => hb e.symm
        unfold hasPct
        rw [List.contains_cons, this, Bool.false_or]
      have h2 : before (b :: l) = b :: before l := by simp [before, hb]
      have h3 : after (b :: l) = after l := by simp [after, hb]
      have h4 : placeOf 37 (b :: l) n = placeOf 37 l (n + 1) := by
        show (bif Nat.beq b.toNat (37 : UInt8).toNat then (n : Int) else placeOf 37 l (n + 1)) = _
        have : Nat.beq b.toNat (37 : UInt8).toNat = false := by
          cases hq : Nat.beq b.toNat (37 : UInt8).toNat with
          | false => rfl
          | true => exact absurd (UInt8.toNat_inj.1 (Nat.eq_of_beq_eq_true hq)) hb
        rw [this]; rfl
      obtain ⟨i1, i2⟩ := ih (n + 1)
      rw [h1, h2, h3, h4]
      refine ⟨i1, fun h => ?_⟩
      obtain ⟨j1, j2, j3⟩ := i2 h
      refine ⟨by rw [j1, List.length_cons]; omega, by simpa using j2, by simpa using j3⟩
theorem noPct {l : List UInt8} (h : hasPct l = false) : before l = l ∧ after l = [] := by
  have h1 : ∀ x ∈ l, (x != 37) = true := by
    intro x hx
    simp only [bne_iff_ne, ne_eq]
    rintro rfl
    have : hasPct l = true := by simpa [hasPct] using hx
    rw [this] at h; cases h
  have h2 : ∀ m : List UInt8, (∀ x ∈ m, (x != 37) = true) → m.takeWhile (· != 37) = m ∧ m.dropWhile (· != 37) = [] := by
    intro m
    induction m with
    | nil => intro _; exact ⟨rfl, rfl⟩
    | cons b m ih =>
      intro hm
      have := ih fun x hx => hm x (by simp [hx])
      have hb := hm b (by simp)
      simp only [List.takeWhile, List.dropWhile, hb]
      exact ⟨by rw [this.1], this.2⟩
  obtain ⟨q1, q2⟩ := h2 l h1
  exact ⟨q1, by unfold after; rw [q2]; rfl⟩
theorem pct_len {l : List UInt8} (h : hasPct l = true) : (before l).length + 1 + (after l).length = l.length := by
  obtain ⟨_, h2⟩ := place_spec l 0
  obtain ⟨_, j2, _⟩ := h2 h
  have := congrArg List.length j2
  rw [List.length_drop, List.length_cons] at this
  omega

theorem ok31 : TabOk Tryd.prog Door.cfg T3 := by
  refine addC_ok ok32 fun args h s hs hp => ?_
  unfold C31 at hs
  split at hs
  · rename_i s0 p0
    obtain ⟨⟨l⟩⟩ := s0
    obtain ⟨⟨p⟩⟩ := p0
    refine nspec_ok (Option.some.inj hs) (fun hpre => ?_) hp
    obtain ⟨h1, h2⟩ := hpre
    replace h1 : l.length ≤ 1000000 := h1
    replace h2 : p = [37] := h2
    subst h2
    refine EvP.freshV tab0_ok (n := 40) (by kernel_rfl) (by kernel_rfl) (args' := [aStr l, aStr [37]]) rfl (c31 l _ ?_)
    show iteP _ (iteP _ (_ = AV.tup [aStr (before l), aStr (after l), aBool (hasPct l)]) False) _
    by_cases hl : ([37] : List UInt8) = l
    · subst hl; rfl
    · rw [decide_eq_false hl, iteP_f]
      obtain ⟨q1, q2⟩ := place_spec l 0
      cases hq : hasPct l with
      | false =>
        obtain ⟨n1, n2⟩ := noPct hq
        rw [q1 hq, n1, n2]
        rfl
      | true =>
        obtain ⟨j1, j2, j3⟩ := q2 hq
        have j4 := pct_len hq
        rw [j1]
        have e0 : ((0 : Nat) : Int) + ((before l).length : Int) = (before l).length := by simp
        have e1 : IntKind.i64.wrap (((before l).length : Int) + 1) = ((before l).length : Int) + 1 := wrap_in (by omega) (by omega)
        rw [e0, e1]
        have t1 : decide ((0 : Int) ≤ ((before l).length : Int)) = true := by simp
        have t2 : decide (((before l).length : Int) ≤ (l.length : Int)) = true := by simp; omega
        have t3 : decide ((0 : Int) ≤ ((before l).length : Int) + 1) = true := by simp; omega
        have t4 : decide (((before l).length : Int) + 1 ≤ (l.length : Int)) = true := by simp; omega
        rw [t1, iteP_t, t2, Bool.and_self, iteP_t, t3, t4, Bool.and_self, iteP_t]
        have t5 : (((before l).length : Int) + 1).toNat = (before l).length + 1 := by omega
        rw [t5, Int.toNat_natCast, j3]
        have t6 : l.drop ((before l).length + 1) = after l := by rw [← List.drop_drop, j2]; rfl
        rw [t6]
        rfl
  · cases hs

theorem endF_len (d : Dir) (w p : Int) (s : List UInt8) (h : (endF d w p s).2.2 = 0) : (endF d w p s).2.1.length < s.length := by
  cases s with
  | nil => cases h
  | cons c r =>
    have he : endF d w p (c :: r) = if kinds.contains c then (if w > 255 ∨ p > 255 then (Dir.none, [], 2) else ({ d with width := w, prec := p, kind := c.toNat }, r, 0)) else (Dir.none, [], 1) := rfl
    rw [he] at h ⊢
    split at h
    · split at h
      · cases h
      · rename_i h1 h2
        rw [if_pos h1, if_neg h2]
        exact Nat.lt_succ_self _
    · cases h
theorem precF_len (s : List UInt8) : (precF s).2.length ≤ s.length := by
  cases s with
  | nil => exact Nat.le_refl _
  | cons c r =>
    show (if c = 46 then ((if (numF r).1 = -1 then 0 else (numF r).1), (numF r).2) else ((-1 : Int), c :: r)).2.length ≤ _
    split
    · exact Nat.le_succ_of_le (numF_len r)
    · exact Nat.le_refl _
theorem readF_len (s : List UInt8) (h : (readF s).2.2 = 0) : (readF s).2.1.length < s.length := by
  have h1 := endF_len _ _ _ _ h
  exact Nat.lt_of_lt_of_le h1 (Nat.le_trans (precF_len _) (Nat.le_trans (numF_len _) (flagsF_len _ _)))

theorem checkF_more : ∀ n s, s.length < n → ∀ m, s.length < m → checkF n s = checkF m s := by
  intro n
  induction n with
  | zero => intro s h; omega
  | succ n ih =>
    intro s h m hm
    cases m with
    | zero => omega
    | succ m =>
      simp only [checkF]
      cases hq : hasPct s with
      | false => rfl
      | true =>
        simp only [if_true]
        by_cases h0 : (readF (after s)).2.2 = 0
        · have l1 := readF_len _ h0
          have l2 := pct_len hq
          rw [if_pos h0, if_pos h0]
          exact ih _ (by omega) m (by omega)
        · rw [if_neg h0, if_neg h0]

theorem loop18 (s : List UInt8) (hs : s.length ≤ 1000000) :
    Ev Door.cfg Tryd.prog 18 (.loop (loopAt Tryd.prog 18 2)) (I18 s) fun e τ => τ = J18 (slI τ 4) ∧ e = .ret ∧ slI τ 4 = checkF (s.length + 1) s := by
  refine loop_rd ok31 (n := 40) (fun x : List UInt8 => I18 x) (fun τ => slS τ 0) (fun x => x.length ≤ 1000000 ∧ checkF (x.length + 1) x = checkF (s.length + 1) s) (fun x => x.length) (by kernel_rfl)
    (fun x t ht => ?_) (fun x hx => ?_) s ⟨hs, rfl⟩
  · replace ht : Door.tidy 18 2 = some t := ht
    cases ht
    show (I18 x).tidy [0, 1] 0 = I18 x
    kernel_rfl
  · obtain ⟨h1, h2⟩ := hx
    refine v18 x (fun u => (u.length ≤ 1000000 ∧ checkF (u.length + 1) u = checkF (s.length + 1) s) ∧ u.length < x.length) (fun e v => e = .ret ∧ v = checkF (s.length + 1) s) ?_
    refine ⟨⟨h1, rfl⟩, fun y hy => ?_⟩
    subst hy
    rw [← h2]
    show iteP (hasPct x) _ _
    cases hq : hasPct x with
    | false =>
      rw [iteP_f]
      exact ⟨rfl, rfl, by simp only [checkF, hq]; rfl⟩
    | true =>
      rw [iteP_t]
      have l2 := pct_len hq
      refine ⟨by show (after x).length ≤ 1000000; omega, fun z hz => ?_⟩
      subst hz
      have hc : checkF (x.length + 1) x = if (readF (after x)).2.2 = 0 then checkF x.length (readF (after x)).2.1 else (readF (after x)).2.2 := by simp only [checkF, hq, if_true]
      by_cases h0 : (readF (after x)).2.2 = 0
      · have l1 := readF_len _ h0
        rw [show ((readF (after x)).2.2 != 0) = false by rw [h0]; rfl, iteP_f, hc, if_pos h0]
        show _ ∧ ((readF (after x)).2.1.length ≤ 1000000 ∧ checkF ((readF (after x)).2.1.length + 1) (readF (after x)).2.1 = _) ∧ (readF (after x)).2.1.length < x.length
        exact ⟨rfl, ⟨by omega, checkF_more _ _ (by omega) _ (by omega)⟩, by omega⟩
      · rw [show ((readF (after x)).2.2 != 0) = true by simpa using h0, iteP_t, hc, if_neg h0]
        exact ⟨rfl, rfl, rfl⟩

theorem ok4 : TabOk Tryd.prog Door.cfg T4 := by
  refine addL_ok ok31 fun σ s hs hp => ?_
  refine lspec_ok (Option.some.inj hs) (fun hpre => ?_) hp
  obtain ⟨e, h5⟩ := hpre
  refine Ev.tidied (t := ⟨[0, 1], [4], 0⟩) (τ := I18 (slS σ 0)) (by kernel_rfl) (by rw [e]; kernel_rfl) ?_
  refine (loop18 (slS σ 0) h5).mono fun ex τ h => ?_
  exact ⟨slI τ 4, h.2.2, h.2.1, h.1⟩
theorem ok8 : TabOk Tryd.prog Door.cfg (T4.addC 8 C8) := by
  refine addC_ok ok4 fun args h s hs hp => ?_
  unfold C8 at hs
  split at hs
  · rename_i s0
    obtain ⟨⟨l⟩⟩ := s0
    refine nspec_ok (Option.some.inj hs) (fun hpre => ?_) hp
    refine EvP.freshV ok4 (n := 40) (by kernel_rfl) (by kernel_rfl) (args' := [aStr l]) rfl (c8 l _ ?_)
    exact ⟨rfl, ⟨rfl, hpre⟩, fun x hx => by rw [hx]; rfl⟩
  · cases hs

end
end Go.Proofs.Pr

