/- A part of the proof: definitions and lemmas. -/
import Derived.Test.YtfgocjmkefeeeaaGreatDoorFormatsF
namespace Go.Proofs.Pr
open Go Go.Ef
noncomputable section
set_option maxRecDepth 100000
theorem numL_other (c : UInt8) (r : List UInt8) (n : Int) (h : ¬ (48 ≤ (c.toNat : Int) ∧ (c.toNat : Int) ≤ 57)) : numL (c :: r) n = (n, c :: r) := by
 show (if 48 ≤ (c.toNat : Int) ∧ (c.toNat : Int) ≤ 57 then _ else _) = _
 rw [if_neg h]
theorem numR48 (s : List UInt8) : numR 48 s = numF s := by
 cases s with
 | nil => rfl
 | cons c r =>
  show (if c = 42 then (-2, r) else if (c.toNat : Int) < 48 then (-1, c :: r) else numL (c :: r) (-1)) = if c = 42 then (-2, r) else numL (c :: r) (-1)
  by_cases h : c = 42
  ·rw [if_pos h, if_pos h]
  ·rw [if_neg h, if_neg h]
   by_cases h2 : (c.toNat : Int) < 48
   ·rw [if_pos h2, numL_other _ _ _ (by omega)]
   ·rw [if_neg h2]
theorem flagsF_stop : ∀ (s : List UInt8) (d : Dir), (flagsF s d).2 = [] ∨ ∃ c r, (flagsF s d).2 = c :: r ∧ isFlag c = false := by
 intro s
 induction s with
 | nil => intro d; exact .inl rfl
 | cons c r ih =>
  intro d
  have : flagsF (c :: r) d = if isFlag c then flagsF r (setFlag d c) else (d, c :: r) := rfl
  rw [this]
  cases hf : isFlag c with
  | true => exact ih _
  | false => exact .inr ⟨c, r, rfl, hf⟩
theorem numR49 (s : List UInt8) (d : Dir) : numR 49 (flagsF s d).2 = numF (flagsF s d).2 := by
 rcases flagsF_stop s d with h | ⟨c, r, h, hf⟩
 ·rw [h]; rfl
 ·rw [h]
  show (if c = 42 then (-2, r) else if (c.toNat : Int) < 49 then (-1, c :: r) else numL (c :: r) (-1)) = if c = 42 then (-2, r) else numL (c :: r) (-1)
  by_cases h1 : c = 42
  ·rw [if_pos h1, if_pos h1]
  ·rw [if_neg h1, if_neg h1]
   by_cases h2 : (c.toNat : Int) < 49
   ·have h48 : c ≠ 48 := by rintro rfl; cases hf
    have h3 : (c.toNat : Int) ≠ 48 := by
     intro e
     apply h48
     rw [u8_eq]; exact e
    rw [if_pos h2, numL_other _ _ _ (by omega)]
   ·rw [if_neg h2]
theorem precRF (s : List UInt8) : precR s = precF s := by
 cases s with
 | nil => rfl
 | cons c r =>
  show (if c = 46 then ((if (numR 48 r).1 = -1 then 0 else (numR 48 r).1), (numR 48 r).2) else (-1, c :: r)) = (if c = 46 then ((if (numF r).1 = -1 then 0 else (numF r).1), (numF r).2) else (-1, c :: r))
  rw [numR48]
theorem readRF (s : List UInt8) : readR s = readF s := by
 unfold readR readF
 rw [numR49, precRF]
theorem checkR_more : ∀ n s, s.length < n → ∀ m, s.length < m → checkR n s = checkR m s := by
 intro n
 induction n with
 | zero => intro s h; omega
 | succ n ih =>
  intro s h m hm
  cases m with
  | zero => omega
  | succ m =>
   cases s with
   | nil => rfl
   | cons c r =>
    show (if c = 37 then (if (readR r).2.2 = 0 then checkR n (readR r).2.1 else (readR r).2.2) else checkR n r) = (if c = 37 then (if (readR r).2.2 = 0 then checkR m (readR r).2.1 else (readR r).2.2) else checkR m r)
    simp only [List.length_cons] at h hm
    by_cases hc : c = 37
    ·rw [if_pos hc, if_pos hc]
     by_cases h0 : (readR r).2.2 = 0
     ·rw [if_pos h0, if_pos h0]
      have : (readR r).2.1.length < r.length := by rw [readRF] at h0 ⊢; exact readF_len r h0
      exact ih _ (by omega) m (by omega)
     ·rw [if_neg h0, if_neg h0]
    ·rw [if_neg hc, if_neg hc]
     exact ih _ (by omega) m (by omega)
theorem checkR_skip : ∀ s n, s.length < n → checkR n s = if hasPct s then (if (readF (after s)).2.2 = 0 then checkR n (readF (after s)).2.1 else (readF (after s)).2.2) else 0 := by
 intro s
 induction s with
 | nil => intro n h; cases n <;> rfl
 | cons c r ih =>
  intro n h
  cases n with
  | zero => omega
  | succ n =>
   simp only [List.length_cons] at h
   have hck : checkR (n + 1) (c :: r) = (if c = 37 then (if (readR r).2.2 = 0 then checkR n (readR r).2.1 else (readR r).2.2) else checkR n r) := rfl
   rw [hck]
   by_cases hc : c = 37
   ·subst hc
    have e1 : hasPct ((37 : UInt8) :: r) = true := by simp [hasPct]
    have e2 : after ((37 : UInt8) :: r) = r := by simp [after]
    rw [if_pos rfl, e1, if_pos rfl, e2, readRF]
    by_cases h0 : (readF r).2.2 = 0
    ·rw [if_pos h0, if_pos h0]
     have := readF_len r h0
     exact checkR_more _ _ (by omega) _ (by omega)
    ·rw [if_neg h0, if_neg h0]
   ·have e1 : hasPct (c :: r) = hasPct r := by
     have : ((37 : UInt8) == c) = false := by simpa using fun e => hc e.symm
     unfold hasPct
     rw [List.contains_cons, this, Bool.false_or]
    have e2 : after (c :: r) = after r := by simp [after, hc]
    rw [if_neg hc, e1, e2, ih n (by omega)]
    cases hp : hasPct r with
    | false => rfl
    | true =>
     rw [if_pos rfl, if_pos rfl]
     by_cases h0 : (readF (after r)).2.2 = 0
     ·rw [if_pos h0, if_pos h0]
      have l1 := readF_len _ h0
      have l2 := pct_len hp
      exact checkR_more _ _ (by omega) _ (by omega)
     ·rw [if_neg h0, if_neg h0]
theorem checks_agree : ∀ n s, s.length < n → checkF n s = checkR n s := by
 intro n
 induction n with
 | zero => intro s h; omega
 | succ n ih =>
  intro s h
  rw [checkR_skip s _ h]
  simp only [checkF]
  cases hp : hasPct s with
  | false => rfl
  | true =>
   rw [if_pos rfl, if_pos rfl]
   by_cases h0 : (readF (after s)).2.2 = 0
   ·rw [if_pos h0, if_pos h0]
    have l1 := readF_len _ h0
    have l2 := pct_len hp
    rw [ih _ (by omega)]
    exact checkR_more _ _ (by omega) _ (by omega)
   ·rw [if_neg h0, if_neg h0]
theorem loop9 (s : List UInt8) (hs : s.length ≤ 1000000) :
  Ev Door.cfg Tryz.prog 18 (.loop (loopAt Tryz.prog 18 3)) (I9 s 0) fun e τ => (checkR (s.length + 1) s = 0 ∧ e = .exit 0 ∧ τ = E9) ∨ (e = .ret ∧ τ = J9 (checkR (s.length + 1) s)) := by
 have main := loop_rd (C := Door.cfg) (P := Tryz.prog) okR4 (f := 18) (i := 3) (n := 40) (fun x : Int => I9 s x) (fun τ => slI τ 3) (fun x => 0 ≤ x ∧ x ≤ s.length ∧ checkR (s.length + 1) s = checkR ((s.drop x.toNat).length + 1) (s.drop x.toNat)) (fun x => s.length - x.toNat)
  (K := fun e τ => match e with
   | .ret => τ = J9 (slI τ 2) ∧ slI τ 2 = checkR (s.length + 1) s
   | e => τ = E9 ∧ (e = .exit 0 ∧ checkR (s.length + 1) s = 0)) (by kernel_rfl)
  (fun x t ht => ?_) (fun x hx => ?_) 0 ⟨Int.le_refl _, by omega, rfl⟩
 ·refine main.mono fun e τ h => ?_
  cases e with
  | ret => exact .inr ⟨rfl, by rw [← h.2]; exact h.1⟩
  | normal => cases h.2.1
  | exit j => exact .inl ⟨h.2.2, h.2.1, h.1⟩
 ·replace ht : Door.tidy 18 3 = some t := ht
  cases ht
  show (I9 s x).tidy [0, 3] 0 = I9 s x
  kernel_rfl
 ·obtain ⟨q1, q2, q3⟩ := hx
  refine v9 s x (fun y => (0 ≤ y ∧ y ≤ s.length ∧ checkR (s.length + 1) s = checkR ((s.drop y.toNat).length + 1) (s.drop y.toNat)) ∧ s.length - y.toNat < s.length - x.toNat) (fun e => e = checkR (s.length + 1) s) (fun e => e = .exit 0 ∧ checkR (s.length + 1) s = 0) ?_
  rw [q3]
  rcases hr : s.drop x.toNat with _ | ⟨c, r⟩
  ·have := drop_end hr
   rw [show decide (x < (s.length : Int)) = false by simp; omega, iteP_f]
   exact ⟨rfl, rfl, rfl⟩
  ·obtain ⟨e1, e2, e3⟩ := byteAt_drop hr
   have hj : IntKind.i64.wrap (x + 1) = x + 1 := wrap_in (by omega) (by omega)
   have hlen : (s.drop x.toNat).length = s.length - x.toNat := List.length_drop
   rw [hr] at hlen
   simp only [List.length_cons] at hlen
   rw [show decide (x < (s.length : Int)) = true by simp; omega, iteP_t, show inRange x s.length = true by rw [inRange_iff]; omega, iteP_t, e1, hj, toNat_succ q1, e3]
   have hck : checkR ((c :: r).length + 1) (c :: r) = (if c = 37 then (if (readR r).2.2 = 0 then checkR (c :: r).length (readR r).2.1 else (readR r).2.2) else checkR (c :: r).length r) := rfl
   rw [hck]
   by_cases hc : c = 37
   ·have hb : ((c.toNat : Int) != 37) = false := by subst hc; rfl
    rw [hb, iteP_f, if_pos hc]
    refine ⟨⟨hs, by omega, by omega⟩, fun y hy => ?_⟩
    rcases hy with ⟨y1, y2, y3, y4⟩ | ⟨y1, y2⟩
    ·rw [y1, show ((0 : Int) != 0) = false from rfl, iteP_f]
     have h0 : (readR r).2.2 = 0 := by rw [y4]
     have h5 : (readR r).2.1 = s.drop y.2.1.toNat := by rw [y4]
     have h6 : (readR r).2.1.length < r.length := by have := h0; rw [readRF] at this ⊢; exact readF_len r this
     have h7 : (s.drop y.2.1.toNat).length = s.length - y.2.1.toNat := List.length_drop
     rw [if_pos h0, h5]
     rw [h5] at h6
     refine ⟨rfl, ⟨y2, y3, ?_⟩, by omega⟩
     exact checkR_more _ _ (by simp only [List.length_cons]; omega) _ (by omega)
    ·rw [show (y.2.2 != 0) = true by simpa using y1, iteP_t, y2, if_neg y1]
     exact ⟨rfl, rfl⟩
   ·have hb : ((c.toNat : Int) != 37) = true := by
     rw [bne, show ((c.toNat : Int) == 37) = (c == 37) from beq_byte c 37 (by decide)]
     simpa using hc
    rw [hb, iteP_t, if_neg hc]
    refine ⟨rfl, ⟨by omega, by omega, ?_⟩, by omega⟩
    rfl
theorem okR5 : TabOk Tryz.prog Door.cfg R5 := by
 refine addL_ok okR4 fun σ s hs hp => ?_
 cases Option.some.inj hs
 obtain ⟨e, h1, h5⟩ := hp
 have := Ev.tidied (C := Door.cfg) (P := Tryz.prog) (b := loopAt Tryz.prog 18 3) (f := 18) (σ := σ) (t := ⟨[0, 3], [2], 0⟩) (τ := I9 (slS σ 0) 0) (by kernel_rfl) (by rw [e, h1]; kernel_rfl) (loop9 (slS σ 0) h5)
 obtain ⟨m, ex, τ, h2, h3⟩ := this
 rcases h3 with ⟨q1, rfl, rfl⟩ | ⟨rfl, rfl⟩
 ·exact ⟨_, .head _, (), q1, m, h2⟩
 ·exact ⟨_, .tail _ (.head _), _, rfl, m, h2⟩
theorem okC9 : TabOk Tryz.prog Door.cfg (R5.addC 18 C9) := by
 refine addC_ok okR5 fun args h s hs hp => ?_
 unfold C9 at hs
 split at hs
 ·rename_i s0
  obtain ⟨⟨u⟩⟩ := s0
  refine nspec_ok (Option.some.inj hs) (fun hpre => ?_) hp
  replace hpre : u.length ≤ 1000000 := hpre
  refine EvP.freshV okR5 (n := 40) (by kernel_rfl) (by kernel_rfl) (args' := [aStr u]) rfl (c9 u _ ?_)
  refine ⟨rfl, ⟨rfl, rfl, hpre⟩, fun _ hx => ?_, fun x hx => ?_⟩
  ·show _ = aK .i64 (checkR (u.length + 1) u); rw [hx]; rfl
  ·show _ = aK .i64 (checkR (u.length + 1) u); rw [hx]; rfl
 ·cases hs
theorem awake_evF : Door.yes (evCall Door.cfg Tryz.prog 1000 5 [] heapF) = true := by decide +kernel
theorem okR6 : TabOk Tryz.prog Door.cfg R6 := by
 refine addC_ok okC9 fun args h s hs hp => ?_
 unfold C10 at hs
 split at hs
 ·refine nspec_ok (Option.some.inj hs) (fun _ => ?_) hp
  obtain ⟨h', he⟩ := Door.yes_spec awake_evF
  exact EvP.fresh (by kernel_rfl) (by kernel_rfl) (args' := []) rfl ⟨1000, _, h', he, rfl, rfl⟩
 ·cases hs
end
end Go.Proofs.Pr
namespace Go.Proofs.Pr
open Go Go.Ef
noncomputable section
def shortArg (e : List AV) : Bool :=
 match e with
 | [_, _, .sc (.string s)] => decide (s.data.toList.length ≤ 60)
 | _ => false
def fewL (l : Cells) : Bool := decide (l.length ≤ 10) && l.all shortArg
def fewA : AV → Bool
 | .sl l _ => fewL l
 | _ => true
def goodA (a : AV) : Prop := (∃ l, a = .sl l 0 ∧ ∀ e ∈ l, goodArg e) ∨ a = nilA
def I14 (s : List UInt8) (l : Cells) (k : Int) : St := stOf 26 [(0, sStr s), (1, .v (.sl l 0)), (5, sInt k)] [] heapF
def E14 (s : List UInt8) : St := stOf 26 [(0, sStr s), (4, .unk)] [] heapF
def J14 (s : List UInt8) : St := stOf 26 [(0, sStr s), (4, sBool false)] [] heapF
def L14 (σ : St) : Option LSpec :=
 match σ.at 0, σ.at 1, σ.at 5 with
 | .v (.sc (.string s)), .v (.sl l 0), .v (.sc (.int .i64 k)) => some { pre := σ.tidy [0, 1, 5] 0 = I14 s.data.toList l k ∧ k = 0 ∧ (∀ e ∈ l, goodArg e), alts := [{ α := Unit, post := fun _ => fewL l = true, ex := .exit 0, st := fun _ => E14 s.data.toList }, { α := Unit, post := fun _ => fewL l = false, ex := .ret, st := fun _ => J14 s.data.toList }] }
 | _, _, _ => none
def C14 (args : List AV) (h : Heap) : Option CSpec :=
 match args with
 | [.sc (.string s), a] => some (nspec (goodA a) (fewA a && decide (s.data.toList.length ≤ 60)) (fun x => aBool x) h)
 | _ => none
def X1 : Tab := tab0.addL 4 3 L14
def X2 : Tab := (tab0.addC 4 C14).addC 5 C10
end
end Go.Proofs.Pr
namespace Go.Proofs.Pr
open Go Go.Ef
noncomputable section
def C55 (args : List AV) (h : Heap) : Option CSpec :=
 match args with
 | [.sc (.int .i64 n), .sc (.int .i64 b)] => some (nspec (0 ≤ n ∧ n ≤ 4294967295 ∧ (b = 8 ∨ b = 10 ∨ b = 16)) (fmtN b.toNat n.toNat) (fun x => aStr x) h)
 | _ => none
def C56 (args : List AV) (h : Heap) : Option CSpec :=
 match args with
 | [.agg [.sc (.bool a), .sc (.bool b), .sc (.bool c), .sc (.bool e), .sc (.int .i64 w), .sc (.int .i64 p), .sc (.int .u8 kd)], .sc (.bool q)] => some (nspec True (signF ⟨a, b, c, e, w, p, kd⟩ q) (fun x => aStr x) h)
 | _ => none
def C57 (args : List AV) (h : Heap) : Option CSpec :=
 match args with
 | [.sc (.string s)] => some (nspec (s.data.toList.length ≤ 1000 ∧ s.data.toList.all (fun b => decide (b.toNat < 128)) = true) (s.data.toList.map upC) (fun x => aStr x) h)
 | _ => none
def C45 (args : List AV) (h : Heap) : Option CSpec :=
 match args with
 | [.sc (.int .i64 n)] => some (nspec (n ≤ 1000) (zerosF n) (fun x => aStr x) h)
 | _ => none
def F1 : Tab := (((((((tab0.addC 33 C42).addC 61 C61).addC 36 C45).addC 55 C55).addC 54 C54).addC 57 C57).addC 56 C56)
def F3 : Tab := ((F1.name 32 23).name 32 32).name 32 53
def F2 : Tab := ((F1.name 31 22).name 32 32).name 32 53
end
end Go.Proofs.Pr
namespace Go.Proofs.Pr
open Go Go.Ef
noncomputable section
set_option maxRecDepth 100000
theorem c41_100 (a : Bool) (b : Bool) (c : Bool) (e : Bool) (w : Int) (p : Int) (n : Int) (K : AV → Prop) (h :
 iteP (decide (n < 0)) (True ∧ ∀ (x : List UInt8), x = signF (Dir.mk a b c e w p 100) true → ∀ (m : Int), m = max n (IntKind.i64.wrap (0 - n)) → iteP (decide (m < 0)) (∀ (m_1 : Int), m_1 = IntKind.i64.wrap (m + 4294967296) → (0 ≤ m_1 ∧ m_1 ≤ 4294967295 ∧ ((10 : Int) = 8 ∨ (10 : Int) = 10 ∨ (10 : Int) = 16)) ∧ ∀ (x_1 : List UInt8), x_1 = fmtN 10 m_1.toNat → iteP (n == 0) (iteP (p == 0) (∀ (m : Int),
 m = IntKind.i64.wrap (p - 0) → (1000 - m).NonNeg ∧ ∀ (x_2 : List UInt8), x_2 = zerosF m → (true = true ∧ [x_2, []].length ≤ 1000 ∧ [x_2, []].flatten.length ≤ 10000000) ∧ ∀ (x_3 : List UInt8), x_3 = [x_2, []].flatten → K (AV.tup [AV.sc (Value.string (ByteArray.mk (Array.mk x))), AV.sc (Value.string (ByteArray.mk (Array.mk x_3)))])) (∀ (m : Int), m = IntKind.i64.wrap (p - (↑x_1.length : Int)) →
 (1000 - m).NonNeg ∧ ∀ (x_2 : List UInt8), x_2 = zerosF m → (true = true ∧ [x_2, x_1].length ≤ 1000 ∧ [x_2, x_1].flatten.length ≤ 10000000) ∧ ∀ (x_3 : List UInt8), x_3 = [x_2, x_1].flatten → K (AV.tup [AV.sc (Value.string (ByteArray.mk (Array.mk x))), AV.sc (Value.string (ByteArray.mk (Array.mk x_3)))]))) (∀ (m : Int), m = IntKind.i64.wrap (p - (↑x_1.length : Int)) → (1000 - m).NonNeg ∧
 ∀ (x_2 : List UInt8), x_2 = zerosF m → (true = true ∧ [x_2, x_1].length ≤ 1000 ∧ [x_2, x_1].flatten.length ≤ 10000000) ∧ ∀ (x_3 : List UInt8), x_3 = [x_2, x_1].flatten → K (AV.tup [AV.sc (Value.string (ByteArray.mk (Array.mk x))), AV.sc (Value.string (ByteArray.mk (Array.mk x_3)))]))) ((0 ≤ m ∧ m ≤ 4294967295 ∧ ((10 : Int) = 8 ∨ (10 : Int) = 10 ∨ (10 : Int) = 16)) ∧ ∀ (x_1 : List UInt8),
 x_1 = fmtN 10 m.toNat → iteP (n == 0) (iteP (p == 0) (∀ (m : Int), m = IntKind.i64.wrap (p - 0) → (1000 - m).NonNeg ∧ ∀ (x_2 : List UInt8), x_2 = zerosF m → (true = true ∧ [x_2, []].length ≤ 1000 ∧ [x_2, []].flatten.length ≤ 10000000) ∧ ∀ (x_3 : List UInt8), x_3 = [x_2, []].flatten → K (AV.tup [AV.sc (Value.string (ByteArray.mk (Array.mk x))), AV.sc (Value.string (ByteArray.mk (Array.mk x_3)))]))
 (∀ (m : Int), m = IntKind.i64.wrap (p - (↑x_1.length : Int)) → (1000 - m).NonNeg ∧ ∀ (x_2 : List UInt8), x_2 = zerosF m → (true = true ∧ [x_2, x_1].length ≤ 1000 ∧ [x_2, x_1].flatten.length ≤ 10000000) ∧ ∀ (x_3 : List UInt8), x_3 = [x_2, x_1].flatten → K (AV.tup [AV.sc (Value.string (ByteArray.mk (Array.mk x))), AV.sc (Value.string (ByteArray.mk (Array.mk x_3)))]))) (∀ (m : Int),
 m = IntKind.i64.wrap (p - (↑x_1.length : Int)) → (1000 - m).NonNeg ∧ ∀ (x_2 : List UInt8), x_2 = zerosF m → (true = true ∧ [x_2, x_1].length ≤ 1000 ∧ [x_2, x_1].flatten.length ≤ 10000000) ∧ ∀ (x_3 : List UInt8), x_3 = [x_2, x_1].flatten → K (AV.tup [AV.sc (Value.string (ByteArray.mk (Array.mk x))), AV.sc (Value.string (ByteArray.mk (Array.mk x_3)))])))) (True ∧ ∀ (x : List UInt8),
 x = signF (Dir.mk a b c e w p 100) false → ∀ (m : Int), m = max n (IntKind.i64.wrap (0 - n)) → iteP (decide (m < 0)) (∀ (m_1 : Int), m_1 = IntKind.i64.wrap (m + 4294967296) → (0 ≤ m_1 ∧ m_1 ≤ 4294967295 ∧ ((10 : Int) = 8 ∨ (10 : Int) = 10 ∨ (10 : Int) = 16)) ∧ ∀ (x_1 : List UInt8), x_1 = fmtN 10 m_1.toNat → iteP (n == 0) (iteP (p == 0) (∀ (m : Int), m = IntKind.i64.wrap (p - 0) →
 (1000 - m).NonNeg ∧ ∀ (x_2 : List UInt8), x_2 = zerosF m → (true = true ∧ [x_2, []].length ≤ 1000 ∧ [x_2, []].flatten.length ≤ 10000000) ∧ ∀ (x_3 : List UInt8), x_3 = [x_2, []].flatten → K (AV.tup [AV.sc (Value.string (ByteArray.mk (Array.mk x))), AV.sc (Value.string (ByteArray.mk (Array.mk x_3)))])) (∀ (m : Int), m = IntKind.i64.wrap (p - (↑x_1.length : Int)) → (1000 - m).NonNeg ∧
 ∀ (x_2 : List UInt8), x_2 = zerosF m → (true = true ∧ [x_2, x_1].length ≤ 1000 ∧ [x_2, x_1].flatten.length ≤ 10000000) ∧ ∀ (x_3 : List UInt8), x_3 = [x_2, x_1].flatten → K (AV.tup [AV.sc (Value.string (ByteArray.mk (Array.mk x))), AV.sc (Value.string (ByteArray.mk (Array.mk x_3)))]))) (∀ (m : Int), m = IntKind.i64.wrap (p - (↑x_1.length : Int)) → (1000 - m).NonNeg ∧ ∀ (x_2 : List UInt8),
 x_2 = zerosF m → (true = true ∧ [x_2, x_1].length ≤ 1000 ∧ [x_2, x_1].flatten.length ≤ 10000000) ∧ ∀ (x_3 : List UInt8), x_3 = [x_2, x_1].flatten → K (AV.tup [AV.sc (Value.string (ByteArray.mk (Array.mk x))), AV.sc (Value.string (ByteArray.mk (Array.mk x_3)))]))) ((0 ≤ m ∧ m ≤ 4294967295 ∧ ((10 : Int) = 8 ∨ (10 : Int) = 10 ∨ (10 : Int) = 16)) ∧ ∀ (x_1 : List UInt8), x_1 = fmtN 10 m.toNat →
 iteP (n == 0) (iteP (p == 0) (∀ (m : Int), m = IntKind.i64.wrap (p - 0) → (1000 - m).NonNeg ∧ ∀ (x_2 : List UInt8), x_2 = zerosF m → (true = true ∧ [x_2, []].length ≤ 1000 ∧ [x_2, []].flatten.length ≤ 10000000) ∧ ∀ (x_3 : List UInt8), x_3 = [x_2, []].flatten → K (AV.tup [AV.sc (Value.string (ByteArray.mk (Array.mk x))), AV.sc (Value.string (ByteArray.mk (Array.mk x_3)))])) (∀ (m : Int),
 m = IntKind.i64.wrap (p - (↑x_1.length : Int)) → (1000 - m).NonNeg ∧ ∀ (x_2 : List UInt8), x_2 = zerosF m → (true = true ∧ [x_2, x_1].length ≤ 1000 ∧ [x_2, x_1].flatten.length ≤ 10000000) ∧ ∀ (x_3 : List UInt8), x_3 = [x_2, x_1].flatten → K (AV.tup [AV.sc (Value.string (ByteArray.mk (Array.mk x))), AV.sc (Value.string (ByteArray.mk (Array.mk x_3)))]))) (∀ (m : Int),
 m = IntKind.i64.wrap (p - (↑x_1.length : Int)) → (1000 - m).NonNeg ∧ ∀ (x_2 : List UInt8), x_2 = zerosF m → (true = true ∧ [x_2, x_1].length ≤ 1000 ∧ [x_2, x_1].flatten.length ≤ 10000000) ∧ ∀ (x_3 : List UInt8), x_3 = [x_2, x_1].flatten → K (AV.tup [AV.sc (Value.string (ByteArray.mk (Array.mk x))), AV.sc (Value.string (ByteArray.mk (Array.mk x_3)))]))))) :
 (fun (a b c e : Bool) (w p n : Int) (K : AV → Prop) => wpCall F3 Door.cfg Tryz.prog 60 32 [.agg [aBool a, aBool b, aBool c, aBool e, aK .i64 w, aK .i64 p, aK .u8 100], aK .i64 n] heapF fun r h' => wpBack h' r K) a b c e w p n K :=
 Eq.mp (by kernel_rfl) h
theorem c41_105 (a : Bool) (b : Bool) (c : Bool) (e : Bool) (w : Int) (p : Int) (n : Int) (K : AV → Prop) (h :
 iteP (decide (n < 0)) (True ∧ ∀ (x : List UInt8), x = signF (Dir.mk a b c e w p 105) true → ∀ (m : Int), m = max n (IntKind.i64.wrap (0 - n)) → iteP (decide (m < 0)) (∀ (m_1 : Int), m_1 = IntKind.i64.wrap (m + 4294967296) → (0 ≤ m_1 ∧ m_1 ≤ 4294967295 ∧ ((10 : Int) = 8 ∨ (10 : Int) = 10 ∨ (10 : Int) = 16)) ∧ ∀ (x_1 : List UInt8), x_1 = fmtN 10 m_1.toNat → iteP (n == 0) (iteP (p == 0) (∀ (m : Int),
 m = IntKind.i64.wrap (p - 0) → (1000 - m).NonNeg ∧ ∀ (x_2 : List UInt8), x_2 = zerosF m → (true = true ∧ [x_2, []].length ≤ 1000 ∧ [x_2, []].flatten.length ≤ 10000000) ∧ ∀ (x_3 : List UInt8), x_3 = [x_2, []].flatten → K (AV.tup [AV.sc (Value.string (ByteArray.mk (Array.mk x))), AV.sc (Value.string (ByteArray.mk (Array.mk x_3)))])) (∀ (m : Int), m = IntKind.i64.wrap (p - (↑x_1.length : Int)) →
 (1000 - m).NonNeg ∧ ∀ (x_2 : List UInt8), x_2 = zerosF m → (true = true ∧ [x_2, x_1].length ≤ 1000 ∧ [x_2, x_1].flatten.length ≤ 10000000) ∧ ∀ (x_3 : List UInt8), x_3 = [x_2, x_1].flatten → K (AV.tup [AV.sc (Value.string (ByteArray.mk (Array.mk x))), AV.sc (Value.string (ByteArray.mk (Array.mk x_3)))]))) (∀ (m : Int), m = IntKind.i64.wrap (p - (↑x_1.length : Int)) → (1000 - m).NonNeg ∧
 ∀ (x_2 : List UInt8), x_2 = zerosF m → (true = true ∧ [x_2, x_1].length ≤ 1000 ∧ [x_2, x_1].flatten.length ≤ 10000000) ∧ ∀ (x_3 : List UInt8), x_3 = [x_2, x_1].flatten → K (AV.tup [AV.sc (Value.string (ByteArray.mk (Array.mk x))), AV.sc (Value.string (ByteArray.mk (Array.mk x_3)))]))) ((0 ≤ m ∧ m ≤ 4294967295 ∧ ((10 : Int) = 8 ∨ (10 : Int) = 10 ∨ (10 : Int) = 16)) ∧ ∀ (x_1 : List UInt8),
 x_1 = fmtN 10 m.toNat → iteP (n == 0) (iteP (p == 0) (∀ (m : Int), m = IntKind.i64.wrap (p - 0) → (1000 - m).NonNeg ∧ ∀ (x_2 : List UInt8), x_2 = zerosF m → (true = true ∧ [x_2, []].length ≤ 1000 ∧ [x_2, []].flatten.length ≤ 10000000) ∧ ∀ (x_3 : List UInt8), x_3 = [x_2, []].flatten → K (AV.tup [AV.sc (Value.string (ByteArray.mk (Array.mk x))), AV.sc (Value.string (ByteArray.mk (Array.mk x_3)))]))
 (∀ (m : Int), m = IntKind.i64.wrap (p - (↑x_1.length : Int)) → (1000 - m).NonNeg ∧ ∀ (x_2 : List UInt8), x_2 = zerosF m → (true = true ∧ [x_2, x_1].length ≤ 1000 ∧ [x_2, x_1].flatten.length ≤ 10000000) ∧ ∀ (x_3 : List UInt8), x_3 = [x_2, x_1].flatten → K (AV.tup [AV.sc (Value.string (ByteArray.mk (Array.mk x))), AV.sc (Value.string (ByteArray.mk (Array.mk x_3)))]))) (∀ (m : Int),
 m = IntKind.i64.wrap (p - (↑x_1.length : Int)) → (1000 - m).NonNeg ∧ ∀ (x_2 : List UInt8), x_2 = zerosF m → (true = true ∧ [x_2, x_1].length ≤ 1000 ∧ [x_2, x_1].flatten.length ≤ 10000000) ∧ ∀ (x_3 : List UInt8), x_3 = [x_2, x_1].flatten → K (AV.tup [AV.sc (Value.string (ByteArray.mk (Array.mk x))), AV.sc (Value.string (ByteArray.mk (Array.mk x_3)))])))) (True ∧ ∀ (x : List UInt8),
 x = signF (Dir.mk a b c e w p 105) false → ∀ (m : Int), m = max n (IntKind.i64.wrap (0 - n)) → iteP (decide (m < 0)) (∀ (m_1 : Int), m_1 = IntKind.i64.wrap (m + 4294967296) → (0 ≤ m_1 ∧ m_1 ≤ 4294967295 ∧ ((10 : Int) = 8 ∨ (10 : Int) = 10 ∨ (10 : Int) = 16)) ∧ ∀ (x_1 : List UInt8), x_1 = fmtN 10 m_1.toNat → iteP (n == 0) (iteP (p == 0) (∀ (m : Int), m = IntKind.i64.wrap (p - 0) →
 (1000 - m).NonNeg ∧ ∀ (x_2 : List UInt8), x_2 = zerosF m → (true = true ∧ [x_2, []].length ≤ 1000 ∧ [x_2, []].flatten.length ≤ 10000000) ∧ ∀ (x_3 : List UInt8), x_3 = [x_2, []].flatten → K (AV.tup [AV.sc (Value.string (ByteArray.mk (Array.mk x))), AV.sc (Value.string (ByteArray.mk (Array.mk x_3)))])) (∀ (m : Int), m = IntKind.i64.wrap (p - (↑x_1.length : Int)) → (1000 - m).NonNeg ∧
 ∀ (x_2 : List UInt8), x_2 = zerosF m → (true = true ∧ [x_2, x_1].length ≤ 1000 ∧ [x_2, x_1].flatten.length ≤ 10000000) ∧ ∀ (x_3 : List UInt8), x_3 = [x_2, x_1].flatten → K (AV.tup [AV.sc (Value.string (ByteArray.mk (Array.mk x))), AV.sc (Value.string (ByteArray.mk (Array.mk x_3)))]))) (∀ (m : Int), m = IntKind.i64.wrap (p - (↑x_1.length : Int)) → (1000 - m).NonNeg ∧ ∀ (x_2 : List UInt8),
 x_2 = zerosF m → (true = true ∧ [x_2, x_1].length ≤ 1000 ∧ [x_2, x_1].flatten.length ≤ 10000000) ∧ ∀ (x_3 : List UInt8), x_3 = [x_2, x_1].flatten → K (AV.tup [AV.sc (Value.string (ByteArray.mk (Array.mk x))), AV.sc (Value.string (ByteArray.mk (Array.mk x_3)))]))) ((0 ≤ m ∧ m ≤ 4294967295 ∧ ((10 : Int) = 8 ∨ (10 : Int) = 10 ∨ (10 : Int) = 16)) ∧ ∀ (x_1 : List UInt8), x_1 = fmtN 10 m.toNat →
 iteP (n == 0) (iteP (p == 0) (∀ (m : Int), m = IntKind.i64.wrap (p - 0) → (1000 - m).NonNeg ∧ ∀ (x_2 : List UInt8), x_2 = zerosF m → (true = true ∧ [x_2, []].length ≤ 1000 ∧ [x_2, []].flatten.length ≤ 10000000) ∧ ∀ (x_3 : List UInt8), x_3 = [x_2, []].flatten → K (AV.tup [AV.sc (Value.string (ByteArray.mk (Array.mk x))), AV.sc (Value.string (ByteArray.mk (Array.mk x_3)))])) (∀ (m : Int),
 m = IntKind.i64.wrap (p - (↑x_1.length : Int)) → (1000 - m).NonNeg ∧ ∀ (x_2 : List UInt8), x_2 = zerosF m → (true = true ∧ [x_2, x_1].length ≤ 1000 ∧ [x_2, x_1].flatten.length ≤ 10000000) ∧ ∀ (x_3 : List UInt8), x_3 = [x_2, x_1].flatten → K (AV.tup [AV.sc (Value.string (ByteArray.mk (Array.mk x))), AV.sc (Value.string (ByteArray.mk (Array.mk x_3)))]))) (∀ (m : Int),
 m = IntKind.i64.wrap (p - (↑x_1.length : Int)) → (1000 - m).NonNeg ∧ ∀ (x_2 : List UInt8), x_2 = zerosF m → (true = true ∧ [x_2, x_1].length ≤ 1000 ∧ [x_2, x_1].flatten.length ≤ 10000000) ∧ ∀ (x_3 : List UInt8), x_3 = [x_2, x_1].flatten → K (AV.tup [AV.sc (Value.string (ByteArray.mk (Array.mk x))), AV.sc (Value.string (ByteArray.mk (Array.mk x_3)))]))))) :
 (fun (a b c e : Bool) (w p n : Int) (K : AV → Prop) => wpCall F3 Door.cfg Tryz.prog 60 32 [.agg [aBool a, aBool b, aBool c, aBool e, aK .i64 w, aK .i64 p, aK .u8 105], aK .i64 n] heapF fun r h' => wpBack h' r K) a b c e w p n K :=
 Eq.mp (by kernel_rfl) h
theorem c41_111 (a : Bool) (b : Bool) (c : Bool) (e : Bool) (w : Int) (p : Int) (n : Int) (K : AV → Prop) (h :
 iteP (decide (n < 0)) (∀ (m : Int), m = IntKind.i64.wrap (n + 4294967296) → (0 ≤ m ∧ m ≤ 4294967295 ∧ ((8 : Int) = 8 ∨ (8 : Int) = 10 ∨ (8 : Int) = 16)) ∧ ∀ (x : List UInt8), x = fmtN 8 m.toNat → iteP (n == 0) (iteP (p == 0) (∀ (m : Int), m = IntKind.i64.wrap (p - 0) → (1000 - m).NonNeg ∧ ∀ (x : List UInt8), x = zerosF m → (true = true ∧ [x, []].length ≤ 1000 ∧ [x, []].flatten.length ≤ 10000000) ∧
 ∀ (x_1 : List UInt8), x_1 = [x, []].flatten → K (AV.tup [AV.sc (Value.string (ByteArray.mk (Array.mk []))), AV.sc (Value.string (ByteArray.mk (Array.mk x_1)))])) (∀ (m : Int), m = IntKind.i64.wrap (p - (↑x.length : Int)) → (1000 - m).NonNeg ∧ ∀ (x_1 : List UInt8), x_1 = zerosF m → (true = true ∧ [x_1, x].length ≤ 1000 ∧ [x_1, x].flatten.length ≤ 10000000) ∧ ∀ (x_2 : List UInt8),
 x_2 = [x_1, x].flatten → K (AV.tup [AV.sc (Value.string (ByteArray.mk (Array.mk []))), AV.sc (Value.string (ByteArray.mk (Array.mk x_2)))]))) (∀ (m : Int), m = IntKind.i64.wrap (p - (↑x.length : Int)) → (1000 - m).NonNeg ∧ ∀ (x_1 : List UInt8), x_1 = zerosF m → (true = true ∧ [x_1, x].length ≤ 1000 ∧ [x_1, x].flatten.length ≤ 10000000) ∧ ∀ (x_2 : List UInt8), x_2 = [x_1, x].flatten → K (AV.tup
 [AV.sc (Value.string (ByteArray.mk (Array.mk []))), AV.sc (Value.string (ByteArray.mk (Array.mk x_2)))]))) ((0 ≤ n ∧ n ≤ 4294967295 ∧ ((8 : Int) = 8 ∨ (8 : Int) = 10 ∨ (8 : Int) = 16)) ∧ ∀ (x : List UInt8), x = fmtN 8 n.toNat → iteP (n == 0) (iteP (p == 0) (∀ (m : Int), m = IntKind.i64.wrap (p - 0) → (1000 - m).NonNeg ∧ ∀ (x : List UInt8), x = zerosF m →
 (true = true ∧ [x, []].length ≤ 1000 ∧ [x, []].flatten.length ≤ 10000000) ∧ ∀ (x_1 : List UInt8), x_1 = [x, []].flatten → K (AV.tup [AV.sc (Value.string (ByteArray.mk (Array.mk []))), AV.sc (Value.string (ByteArray.mk (Array.mk x_1)))])) (∀ (m : Int), m = IntKind.i64.wrap (p - (↑x.length : Int)) → (1000 - m).NonNeg ∧ ∀ (x_1 : List UInt8), x_1 = zerosF m →
 (true = true ∧ [x_1, x].length ≤ 1000 ∧ [x_1, x].flatten.length ≤ 10000000) ∧ ∀ (x_2 : List UInt8), x_2 = [x_1, x].flatten → K (AV.tup [AV.sc (Value.string (ByteArray.mk (Array.mk []))), AV.sc (Value.string (ByteArray.mk (Array.mk x_2)))]))) (∀ (m : Int), m = IntKind.i64.wrap (p - (↑x.length : Int)) → (1000 - m).NonNeg ∧ ∀ (x_1 : List UInt8), x_1 = zerosF m →
 (true = true ∧ [x_1, x].length ≤ 1000 ∧ [x_1, x].flatten.length ≤ 10000000) ∧ ∀ (x_2 : List UInt8), x_2 = [x_1, x].flatten → K (AV.tup [AV.sc (Value.string (ByteArray.mk (Array.mk []))), AV.sc (Value.string (ByteArray.mk (Array.mk x_2)))])))) :
 (fun (a b c e : Bool) (w p n : Int) (K : AV → Prop) => wpCall F3 Door.cfg Tryz.prog 60 32 [.agg [aBool a, aBool b, aBool c, aBool e, aK .i64 w, aK .i64 p, aK .u8 111], aK .i64 n] heapF fun r h' => wpBack h' r K) a b c e w p n K :=
 Eq.mp (by kernel_rfl) h
theorem c41_117 (a : Bool) (b : Bool) (c : Bool) (e : Bool) (w : Int) (p : Int) (n : Int) (K : AV → Prop) (h :
 iteP (decide (n < 0)) (∀ (m : Int), m = IntKind.i64.wrap (n + 4294967296) → (0 ≤ m ∧ m ≤ 4294967295 ∧ ((10 : Int) = 8 ∨ (10 : Int) = 10 ∨ (10 : Int) = 16)) ∧ ∀ (x : List UInt8), x = fmtN 10 m.toNat → iteP (n == 0) (iteP (p == 0) (∀ (m : Int), m = IntKind.i64.wrap (p - 0) → (1000 - m).NonNeg ∧ ∀ (x : List UInt8), x = zerosF m →
 (true = true ∧ [x, []].length ≤ 1000 ∧ [x, []].flatten.length ≤ 10000000) ∧ ∀ (x_1 : List UInt8), x_1 = [x, []].flatten → K (AV.tup [AV.sc (Value.string (ByteArray.mk (Array.mk []))), AV.sc (Value.string (ByteArray.mk (Array.mk x_1)))])) (∀ (m : Int), m = IntKind.i64.wrap (p - (↑x.length : Int)) → (1000 - m).NonNeg ∧ ∀ (x_1 : List UInt8), x_1 = zerosF m →
 (true = true ∧ [x_1, x].length ≤ 1000 ∧ [x_1, x].flatten.length ≤ 10000000) ∧ ∀ (x_2 : List UInt8), x_2 = [x_1, x].flatten → K (AV.tup [AV.sc (Value.string (ByteArray.mk (Array.mk []))), AV.sc (Value.string (ByteArray.mk (Array.mk x_2)))]))) (∀ (m : Int), m = IntKind.i64.wrap (p - (↑x.length : Int)) → (1000 - m).NonNeg ∧ ∀ (x_1 : List UInt8), x_1 = zerosF m →
 (true = true ∧ [x_1, x].length ≤ 1000 ∧ [x_1, x].flatten.length ≤ 10000000) ∧ ∀ (x_2 : List UInt8), x_2 = [x_1, x].flatten → K (AV.tup [AV.sc (Value.string (ByteArray.mk (Array.mk []))), AV.sc (Value.string (ByteArray.mk (Array.mk x_2)))]))) ((0 ≤ n ∧ n ≤ 4294967295 ∧ ((10 : Int) = 8 ∨ (10 : Int) = 10 ∨ (10 : Int) = 16)) ∧ ∀ (x : List UInt8), x = fmtN 10 n.toNat → iteP (n == 0) (iteP (p == 0)
 (∀ (m : Int), m = IntKind.i64.wrap (p - 0) → (1000 - m).NonNeg ∧ ∀ (x : List UInt8), x = zerosF m → (true = true ∧ [x, []].length ≤ 1000 ∧ [x, []].flatten.length ≤ 10000000) ∧ ∀ (x_1 : List UInt8), x_1 = [x, []].flatten → K (AV.tup [AV.sc (Value.string (ByteArray.mk (Array.mk []))), AV.sc (Value.string (ByteArray.mk (Array.mk x_1)))])) (∀ (m : Int), m = IntKind.i64.wrap (p - (↑x.length : Int)) →
 (1000 - m).NonNeg ∧ ∀ (x_1 : List UInt8), x_1 = zerosF m → (true = true ∧ [x_1, x].length ≤ 1000 ∧ [x_1, x].flatten.length ≤ 10000000) ∧ ∀ (x_2 : List UInt8), x_2 = [x_1, x].flatten → K (AV.tup [AV.sc (Value.string (ByteArray.mk (Array.mk []))), AV.sc (Value.string (ByteArray.mk (Array.mk x_2)))]))) (∀ (m : Int), m = IntKind.i64.wrap (p - (↑x.length : Int)) → (1000 - m).NonNeg ∧
 ∀ (x_1 : List UInt8), x_1 = zerosF m → (true = true ∧ [x_1, x].length ≤ 1000 ∧ [x_1, x].flatten.length ≤ 10000000) ∧ ∀ (x_2 : List UInt8), x_2 = [x_1, x].flatten → K (AV.tup [AV.sc (Value.string (ByteArray.mk (Array.mk []))), AV.sc (Value.string (ByteArray.mk (Array.mk x_2)))])))) :
 (fun (a b c e : Bool) (w p n : Int) (K : AV → Prop) => wpCall F3 Door.cfg Tryz.prog 60 32 [.agg [aBool a, aBool b, aBool c, aBool e, aK .i64 w, aK .i64 p, aK .u8 117], aK .i64 n] heapF fun r h' => wpBack h' r K) a b c e w p n K :=
 Eq.mp (by kernel_rfl) h
theorem c41_120 (a : Bool) (b : Bool) (c : Bool) (e : Bool) (w : Int) (p : Int) (n : Int) (K : AV → Prop) (h :
 iteP (decide (n < 0)) (∀ (m : Int), m = IntKind.i64.wrap (n + 4294967296) → (0 ≤ m ∧ m ≤ 4294967295 ∧ ((16 : Int) = 8 ∨ (16 : Int) = 10 ∨ (16 : Int) = 16)) ∧ ∀ (x : List UInt8), x = fmtN 16 m.toNat → iteP (n == 0) (iteP (p == 0) (∀ (m : Int), m = IntKind.i64.wrap (p - 0) → (1000 - m).NonNeg ∧ ∀ (x : List UInt8), x = zerosF m →
 (true = true ∧ [x, []].length ≤ 1000 ∧ [x, []].flatten.length ≤ 10000000) ∧ ∀ (x_1 : List UInt8), x_1 = [x, []].flatten → K (AV.tup [AV.sc (Value.string (ByteArray.mk (Array.mk []))), AV.sc (Value.string (ByteArray.mk (Array.mk x_1)))])) (∀ (m : Int), m = IntKind.i64.wrap (p - (↑x.length : Int)) → (1000 - m).NonNeg ∧ ∀ (x_1 : List UInt8), x_1 = zerosF m →
 (true = true ∧ [x_1, x].length ≤ 1000 ∧ [x_1, x].flatten.length ≤ 10000000) ∧ ∀ (x_2 : List UInt8), x_2 = [x_1, x].flatten → K (AV.tup [AV.sc (Value.string (ByteArray.mk (Array.mk []))), AV.sc (Value.string (ByteArray.mk (Array.mk x_2)))]))) (∀ (m : Int), m = IntKind.i64.wrap (p - (↑x.length : Int)) → (1000 - m).NonNeg ∧ ∀ (x_1 : List UInt8), x_1 = zerosF m →
 (true = true ∧ [x_1, x].length ≤ 1000 ∧ [x_1, x].flatten.length ≤ 10000000) ∧ ∀ (x_2 : List UInt8), x_2 = [x_1, x].flatten → K (AV.tup [AV.sc (Value.string (ByteArray.mk (Array.mk []))), AV.sc (Value.string (ByteArray.mk (Array.mk x_2)))]))) ((0 ≤ n ∧ n ≤ 4294967295 ∧ ((16 : Int) = 8 ∨ (16 : Int) = 10 ∨ (16 : Int) = 16)) ∧ ∀ (x : List UInt8), x = fmtN 16 n.toNat → iteP (n == 0) (iteP (p == 0)
 (∀ (m : Int), m = IntKind.i64.wrap (p - 0) → (1000 - m).NonNeg ∧ ∀ (x : List UInt8), x = zerosF m → (true = true ∧ [x, []].length ≤ 1000 ∧ [x, []].flatten.length ≤ 10000000) ∧ ∀ (x_1 : List UInt8), x_1 = [x, []].flatten → K (AV.tup [AV.sc (Value.string (ByteArray.mk (Array.mk []))), AV.sc (Value.string (ByteArray.mk (Array.mk x_1)))])) (∀ (m : Int), m = IntKind.i64.wrap (p - (↑x.length : Int)) →
 (1000 - m).NonNeg ∧ ∀ (x_1 : List UInt8), x_1 = zerosF m → (true = true ∧ [x_1, x].length ≤ 1000 ∧ [x_1, x].flatten.length ≤ 10000000) ∧ ∀ (x_2 : List UInt8), x_2 = [x_1, x].flatten → K (AV.tup [AV.sc (Value.string (ByteArray.mk (Array.mk []))), AV.sc (Value.string (ByteArray.mk (Array.mk x_2)))]))) (∀ (m : Int), m = IntKind.i64.wrap (p - (↑x.length : Int)) → (1000 - m).NonNeg ∧
 ∀ (x_1 : List UInt8), x_1 = zerosF m → (true = true ∧ [x_1, x].length ≤ 1000 ∧ [x_1, x].flatten.length ≤ 10000000) ∧ ∀ (x_2 : List UInt8), x_2 = [x_1, x].flatten → K (AV.tup [AV.sc (Value.string (ByteArray.mk (Array.mk []))), AV.sc (Value.string (ByteArray.mk (Array.mk x_2)))])))) :
 (fun (a b c e : Bool) (w p n : Int) (K : AV → Prop) => wpCall F3 Door.cfg Tryz.prog 60 32 [.agg [aBool a, aBool b, aBool c, aBool e, aK .i64 w, aK .i64 p, aK .u8 120], aK .i64 n] heapF fun r h' => wpBack h' r K) a b c e w p n K :=
 Eq.mp (by kernel_rfl) h
theorem c41_88 (a : Bool) (b : Bool) (c : Bool) (e : Bool) (w : Int) (p : Int) (n : Int) (K : AV → Prop) (h :
 iteP (decide (n < 0)) (∀ (m : Int), m = IntKind.i64.wrap (n + 4294967296) → (0 ≤ m ∧ m ≤ 4294967295 ∧ ((16 : Int) = 8 ∨ (16 : Int) = 10 ∨ (16 : Int) = 16)) ∧ ∀ (x : List UInt8), x = fmtN 16 m.toNat → (x.length ≤ 1000 ∧ (x.all fun (b : UInt8) => decide (b.toNat < 128)) = true) ∧ ∀ (x_1 : List UInt8), x_1 = List.map upC x → iteP (n == 0) (iteP (p == 0) (∀ (m : Int), m = IntKind.i64.wrap (p - 0) →
 (1000 - m).NonNeg ∧ ∀ (x : List UInt8), x = zerosF m → (true = true ∧ [x, []].length ≤ 1000 ∧ [x, []].flatten.length ≤ 10000000) ∧ ∀ (x_2 : List UInt8), x_2 = [x, []].flatten → K (AV.tup [AV.sc (Value.string (ByteArray.mk (Array.mk []))), AV.sc (Value.string (ByteArray.mk (Array.mk x_2)))])) (∀ (m : Int), m = IntKind.i64.wrap (p - (↑x_1.length : Int)) → (1000 - m).NonNeg ∧ ∀ (x : List UInt8),
 x = zerosF m → (true = true ∧ [x, x_1].length ≤ 1000 ∧ [x, x_1].flatten.length ≤ 10000000) ∧ ∀ (x_2 : List UInt8), x_2 = [x, x_1].flatten → K (AV.tup [AV.sc (Value.string (ByteArray.mk (Array.mk []))), AV.sc (Value.string (ByteArray.mk (Array.mk x_2)))]))) (∀ (m : Int), m = IntKind.i64.wrap (p - (↑x_1.length : Int)) → (1000 - m).NonNeg ∧ ∀ (x : List UInt8), x = zerosF m → (true = true ∧
 [x, x_1].length ≤ 1000 ∧ [x, x_1].flatten.length ≤ 10000000) ∧ ∀ (x_2 : List UInt8), x_2 = [x, x_1].flatten → K (AV.tup [AV.sc (Value.string (ByteArray.mk (Array.mk []))), AV.sc (Value.string (ByteArray.mk (Array.mk x_2)))]))) ((0 ≤ n ∧ n ≤ 4294967295 ∧ ((16 : Int) = 8 ∨ (16 : Int) = 10 ∨ (16 : Int) = 16)) ∧ ∀ (x : List UInt8), x = fmtN 16 n.toNat →
 (x.length ≤ 1000 ∧ (x.all fun (b : UInt8) => decide (b.toNat < 128)) = true) ∧ ∀ (x_1 : List UInt8), x_1 = List.map upC x → iteP (n == 0) (iteP (p == 0) (∀ (m : Int), m = IntKind.i64.wrap (p - 0) → (1000 - m).NonNeg ∧ ∀ (x : List UInt8), x = zerosF m → (true = true ∧ [x, []].length ≤ 1000 ∧ [x, []].flatten.length ≤ 10000000) ∧ ∀ (x_2 : List UInt8), x_2 = [x, []].flatten → K (AV.tup
 [AV.sc (Value.string (ByteArray.mk (Array.mk []))), AV.sc (Value.string (ByteArray.mk (Array.mk x_2)))])) (∀ (m : Int), m = IntKind.i64.wrap (p - (↑x_1.length : Int)) → (1000 - m).NonNeg ∧ ∀ (x : List UInt8), x = zerosF m → (true = true ∧ [x, x_1].length ≤ 1000 ∧ [x, x_1].flatten.length ≤ 10000000) ∧ ∀ (x_2 : List UInt8), x_2 = [x, x_1].flatten → K (AV.tup
 [AV.sc (Value.string (ByteArray.mk (Array.mk []))), AV.sc (Value.string (ByteArray.mk (Array.mk x_2)))]))) (∀ (m : Int), m = IntKind.i64.wrap (p - (↑x_1.length : Int)) → (1000 - m).NonNeg ∧ ∀ (x : List UInt8), x = zerosF m → (true = true ∧ [x, x_1].length ≤ 1000 ∧ [x, x_1].flatten.length ≤ 10000000) ∧ ∀ (x_2 : List UInt8), x_2 = [x, x_1].flatten → K (AV.tup
 [AV.sc (Value.string (ByteArray.mk (Array.mk []))), AV.sc (Value.string (ByteArray.mk (Array.mk x_2)))])))) :
 (fun (a b c e : Bool) (w p n : Int) (K : AV → Prop) => wpCall F3 Door.cfg Tryz.prog 60 32 [.agg [aBool a, aBool b, aBool c, aBool e, aK .i64 w, aK .i64 p, aK .u8 88], aK .i64 n] heapF fun r h' => wpBack h' r K) a b c e w p n K :=
 Eq.mp (by kernel_rfl) h
end
end Go.Proofs.Pr
namespace Go.Proofs.Pr
open Go Go.Ef
noncomputable section
set_option maxRecDepth 100000
theorem c56 (d : Dir) (q : Bool) (K : AV → Prop) (h :
 iteP q (K (AV.sc (Value.string (ByteArray.mk (Array.mk [(45 : UInt8)]))))) (iteP d.plus (K (AV.sc (Value.string (ByteArray.mk (Array.mk [(43 : UInt8)]))))) (iteP d.space (K (AV.sc (Value.string (ByteArray.mk (Array.mk [(32 : UInt8)]))))) (K (AV.sc (Value.string (ByteArray.mk (Array.mk [])))))))) :
 (fun (d : Dir) (q : Bool) (K : AV → Prop) => wpCall tab0 Door.cfg Tryz.prog 60 56 [.agg d.cells, aBool q] heapF fun r h' => wpBack h' r K) d q K :=
 Eq.mp (by kernel_rfl) h
theorem c45 (n : Int) (K : AV → Prop) (h :
 (0 ≤ max n 0 ∧ max n (0 : Int) ≤ 100000 ∧ (1 : Nat) ≤ 1000000) ∧ ∀ (x : List UInt8), x = (List.replicate (max n 0).toNat [(48 : UInt8)]).flatten → K (AV.sc (Value.string (ByteArray.mk (Array.mk x))))) :
 (fun (n : Int) (K : AV → Prop) => wpCall (tab0.addC 33 C42) Door.cfg Tryz.prog 60 36 [aK .i64 n] heapF fun r h' => wpBack h' r K) n K :=
 Eq.mp (by kernel_rfl) h
theorem c40 (d : Dir) (x : Int) (K : AV → Prop) (h :
 iteP (d.prec == (-1)) (True ∧ ∀ (x_1 : Int), x_1 = roundF x 4 → ∀ (m : Int), m = max x_1 (IntKind.i64.wrap (0 - x_1)) → (0 ≤ IntKind.i64.wrap (m.tdiv 10000) ∧ IntKind.i64.wrap (m.tdiv 10000) ≤ 4294967295 ∧ ((10 : Int) = 8 ∨ (10 : Int) = 10 ∨ (10 : Int) = 16)) ∧ ∀ (x_2 : List UInt8), x_2 = fmtN 10 (IntKind.i64.wrap (m.tdiv 10000)).toNat → (0 ≤ m.tmod 10000 ∧ m.tmod (10000 : Int) ≤ 4294967295 ∧
 ((10 : Int) = 8 ∨ (10 : Int) = 10 ∨ (10 : Int) = 16)) ∧ ∀ (x_3 : List UInt8), x_3 = fmtN 10 (m.tmod 10000).toNat → (1000 - IntKind.i64.wrap (4 - (↑x_3.length : Int))).NonNeg ∧ ∀ (x_4 : List UInt8), x_4 = zerosF (IntKind.i64.wrap (4 - (↑x_3.length : Int))) → Int.NonNeg 998 ∧ ∀ (x_5 : List UInt8), x_5 = zerosF 2 → (true = true ∧ [x_4, x_3, x_5].length ≤ 1000 ∧
 [x_4, x_3, x_5].flatten.length ≤ 10000000) ∧ ∀ (x_6 : List UInt8), x_6 = [x_4, x_3, x_5].flatten → iteP (true && decide (6 ≤ (↑x_6.length : Int))) ((true = true ∧ [x_2, [(46 : UInt8)], List.take 6 x_6].length ≤ 1000 ∧ [x_2, [(46 : UInt8)], List.take 6 x_6].flatten.length ≤ 10000000) ∧ ∀ (x_7 : List UInt8), x_7 = [x_2, [(46 : UInt8)], List.take 6 x_6].flatten → iteP (decide (x < 0)) (iteP (x_1 != 0)
 (True ∧ ∀ (x : List UInt8), x = signF (Dir.mk d.minus d.zero d.plus d.space d.width d.prec d.kind) true → K (AV.tup [AV.sc (Value.string (ByteArray.mk (Array.mk x))), AV.sc (Value.string (ByteArray.mk (Array.mk x_7)))])) (True ∧ ∀ (x : List UInt8), x = signF (Dir.mk d.minus d.zero d.plus d.space d.width d.prec d.kind) false → K (AV.tup [AV.sc (Value.string (ByteArray.mk (Array.mk x))),
 AV.sc (Value.string (ByteArray.mk (Array.mk x_7)))]))) (True ∧ ∀ (x : List UInt8), x = signF (Dir.mk d.minus d.zero d.plus d.space d.width d.prec d.kind) false → K (AV.tup [AV.sc (Value.string (ByteArray.mk (Array.mk x))), AV.sc (Value.string (ByteArray.mk (Array.mk x_7)))]))) False) (True ∧ ∀ (x_1 : Int), x_1 = roundF x (min d.prec 4) → ∀ (m : Int), m = max x_1 (IntKind.i64.wrap (0 - x_1)) →
 (0 ≤ IntKind.i64.wrap (m.tdiv 10000) ∧ IntKind.i64.wrap (m.tdiv 10000) ≤ 4294967295 ∧ ((10 : Int) = 8 ∨ (10 : Int) = 10 ∨ (10 : Int) = 16)) ∧ ∀ (x_2 : List UInt8), x_2 = fmtN 10 (IntKind.i64.wrap (m.tdiv 10000)).toNat → iteP (decide (0 < d.prec)) ((0 ≤ m.tmod 10000 ∧ m.tmod (10000 : Int) ≤ 4294967295 ∧ ((10 : Int) = 8 ∨ (10 : Int) = 10 ∨ (10 : Int) = 16)) ∧ ∀ (x_3 : List UInt8),
 x_3 = fmtN 10 (m.tmod 10000).toNat → (1000 - IntKind.i64.wrap (4 - (↑x_3.length : Int))).NonNeg ∧ ∀ (x_4 : List UInt8), x_4 = zerosF (IntKind.i64.wrap (4 - (↑x_3.length : Int))) → (1000 - IntKind.i64.wrap (d.prec - 4)).NonNeg ∧ ∀ (x_5 : List UInt8), x_5 = zerosF (IntKind.i64.wrap (d.prec - 4)) → (true = true ∧ [x_4, x_3, x_5].length ≤ 1000 ∧ [x_4, x_3, x_5].flatten.length ≤ 10000000) ∧
 ∀ (x_6 : List UInt8), x_6 = [x_4, x_3, x_5].flatten → iteP (decide (0 ≤ d.prec) && decide (d.prec ≤ (↑x_6.length : Int))) ((true = true ∧ [x_2, [(46 : UInt8)], List.take d.prec.toNat x_6].length ≤ 1000 ∧ [x_2, [(46 : UInt8)], List.take d.prec.toNat x_6].flatten.length ≤ 10000000) ∧ ∀ (x_7 : List UInt8), x_7 = [x_2, [(46 : UInt8)], List.take d.prec.toNat x_6].flatten → iteP (decide (x < 0))
 (iteP (x_1 != 0) (True ∧ ∀ (x : List UInt8), x = signF (Dir.mk d.minus d.zero d.plus d.space d.width d.prec d.kind) true → K (AV.tup [AV.sc (Value.string (ByteArray.mk (Array.mk x))), AV.sc (Value.string (ByteArray.mk (Array.mk x_7)))])) (True ∧ ∀ (x : List UInt8), x = signF (Dir.mk d.minus d.zero d.plus d.space d.width d.prec d.kind) false → K (AV.tup
 [AV.sc (Value.string (ByteArray.mk (Array.mk x))), AV.sc (Value.string (ByteArray.mk (Array.mk x_7)))]))) (True ∧ ∀ (x : List UInt8), x = signF (Dir.mk d.minus d.zero d.plus d.space d.width d.prec d.kind) false → K (AV.tup [AV.sc (Value.string (ByteArray.mk (Array.mk x))), AV.sc (Value.string (ByteArray.mk (Array.mk x_7)))]))) False) (iteP (decide (x < 0)) (iteP (x_1 != 0) (True ∧
 ∀ (x : List UInt8), x = signF (Dir.mk d.minus d.zero d.plus d.space d.width d.prec d.kind) true → K (AV.tup [AV.sc (Value.string (ByteArray.mk (Array.mk x))), AV.sc (Value.string (ByteArray.mk (Array.mk x_2)))])) (True ∧ ∀ (x : List UInt8), x = signF (Dir.mk d.minus d.zero d.plus d.space d.width d.prec d.kind) false → K (AV.tup [AV.sc (Value.string (ByteArray.mk (Array.mk x))),
 AV.sc (Value.string (ByteArray.mk (Array.mk x_2)))]))) (True ∧ ∀ (x : List UInt8), x = signF (Dir.mk d.minus d.zero d.plus d.space d.width d.prec d.kind) false → K (AV.tup [AV.sc (Value.string (ByteArray.mk (Array.mk x))), AV.sc (Value.string (ByteArray.mk (Array.mk x_2)))]))))) :
 (fun (d : Dir) (x : Int) (K : AV → Prop) => wpCall F2 Door.cfg Tryz.prog 60 31 [.agg d.cells, aK .i64 x] heapF fun r h' => wpBack h' r K) d x K :=
 Eq.mp (by kernel_rfl) h
theorem c55 (n : Int) (b : Int) (K : AV → Prop) (h :
 (0 ≤ n ∧ n ≤ 4294967295 ∧ (b = 8 ∨ b = 10 ∨ b = 16)) ∧ ∀ (x : List UInt8), x = fmtN b.toNat n.toNat → K (AV.sc (Value.string (ByteArray.mk (Array.mk x))))) :
 (fun (n b : Int) (K : AV → Prop) => wpCall (tab0.addC 74 C55) Door.cfg Tryz.prog 60 55 [aK .i64 n, aK .i64 b] heapF fun r h' => wpBack h' r K) n b K :=
 Eq.mp (by kernel_rfl) h
end
end Go.Proofs.Pr
namespace Go.Proofs.Pr
open Go Go.Ef
noncomputable section
def C85 (args : List AV) (h : Heap) : Option CSpec :=
 match args with
 | [.sc (.slice none 0 0), .sc (.int .u64 u), .sc (.int .i64 16), .sc (.bool false), .sc (.bool false)] => some (nspec (0 ≤ u ∧ u < 4294967296) (fmtN 16 u.toNat) (fun x => .tup [.sc (.slice none 0 0), aStr x]) h)
 | [.sc (.slice none 0 0), .sc (.int .u64 u), .sc (.int .i64 8), .sc (.bool false), .sc (.bool false)] => some (nspec (0 ≤ u ∧ u < 4294967296) (fmtN 8 u.toNat) (fun x => .tup [.sc (.slice none 0 0), aStr x]) h)
 | _ => some { pre := False, alts := [] }
def H2 : Tab := tab0.addC 97 C85
end
end Go.Proofs.Pr
namespace Go.Proofs.Pr
open Go Go.Ef
noncomputable section
set_option maxRecDepth 100000
theorem b67_16 (n : Int) (K : AV → Prop) (h :
 iteP (decide (n < 0)) (False ∧ True) ((0 ≤ IntKind.u64.wrap n ∧ IntKind.u64.wrap n < 4294967296) ∧ ∀ (x : List UInt8), x = fmtN 16 (IntKind.u64.wrap n).toNat → K (AV.sc (Value.string (ByteArray.mk (Array.mk x)))))) :
 (fun (n : Int) (K : AV → Prop) => wpCall H2 Door.cfg Tryz.prog 60 74 [aK .i64 n, aK .i64 16] heapF fun r h' => wpBack h' r K) n K :=
 Eq.mp (by kernel_rfl) h
theorem b67_8 (n : Int) (K : AV → Prop) (h :
 iteP (decide (n < 0)) (False ∧ True) ((0 ≤ IntKind.u64.wrap n ∧ IntKind.u64.wrap n < 4294967296) ∧ ∀ (x : List UInt8), x = fmtN 8 (IntKind.u64.wrap n).toNat → K (AV.sc (Value.string (ByteArray.mk (Array.mk x)))))) :
 (fun (n : Int) (K : AV → Prop) => wpCall H2 Door.cfg Tryz.prog 60 74 [aK .i64 n, aK .i64 8] heapF fun r h' => wpBack h' r K) n K :=
 Eq.mp (by kernel_rfl) h
end
end Go.Proofs.Pr
namespace Go.Proofs.Pr
open Go Go.Ef
noncomputable section
set_option maxRecDepth 100000
theorem ok85 {T : Tab} (O : TabOk Tryz.prog Door.cfg T) : TabOk Tryz.prog Door.cfg (T.addC 97 C85) := by
 refine addC_ok O fun args h s hs hp => ?_
 unfold C85 at hs
 split at hs
 ·exact nspec_ok (Option.some.inj hs) (fun hpre => bits16 _ hpre.1 hpre.2 h) hp
 ·exact nspec_ok (Option.some.inj hs) (fun hpre => bits8 _ hpre.1 hpre.2 h) hp
 ·cases Option.some.inj hs
  exact hp.elim
theorem okH2 : TabOk Tryz.prog Door.cfg H2 := ok85 tab0_ok
theorem fmt_16 (n : Int) (h1 : 0 ≤ n) (h2 : n ≤ 4294967295) (h : Heap) : EvP Door.cfg Tryz.prog 74 [aK .i64 n, aK .i64 16] h fun v h' => v = aStr (fmtN 16 n.toNat) ∧ h' = h := by
 refine EvP.freshV okH2 (n := 60) (by kernel_rfl) (by kernel_rfl) (args' := [aK .i64 n, aK .i64 16]) rfl (b67_16 n _ ?_)
 rw [decide_eq_false (show ¬ n < 0 by omega), iteP_f, w64_in h1 (by omega)]
 exact ⟨⟨h1, by omega⟩, fun x hx => by rw [hx]; rfl⟩
theorem fmt_8 (n : Int) (h1 : 0 ≤ n) (h2 : n ≤ 4294967295) (h : Heap) : EvP Door.cfg Tryz.prog 74 [aK .i64 n, aK .i64 8] h fun v h' => v = aStr (fmtN 8 n.toNat) ∧ h' = h := by
 refine EvP.freshV okH2 (n := 60) (by kernel_rfl) (by kernel_rfl) (args' := [aK .i64 n, aK .i64 8]) rfl (b67_8 n _ ?_)
 rw [decide_eq_false (show ¬ n < 0 by omega), iteP_f, w64_in h1 (by omega)]
 exact ⟨⟨h1, by omega⟩, fun x hx => by rw [hx]; rfl⟩
theorem ok67 {T : Tab} (O : TabOk Tryz.prog Door.cfg T) : TabOk Tryz.prog Door.cfg (T.addC 74 C55) := by
 refine addC_ok O fun args h s hs hp => ?_
 unfold C55 at hs
 split at hs
 ·rename_i n b
  refine nspec_ok (Option.some.inj hs) (fun hpre => ?_) hp
  obtain ⟨h1, h2, rfl | rfl | rfl⟩ := hpre
  ·exact fmt_8 n h1 h2 h
  ·exact dec_all n h1 h2 h
  ·exact fmt_16 n h1 h2 h
 ·cases hs
end
end Go.Proofs.Pr
namespace Go.Proofs.Pr
open Go Go.Ef
noncomputable section
set_option maxRecDepth 100000
theorem ok56 {T : Tab} (O : TabOk Tryz.prog Door.cfg T) : TabOk Tryz.prog Door.cfg (T.addC 56 C56) := by
 refine addC_ok O fun args h s hs hp => ?_
 unfold C56 at hs
 split at hs
 ·rename_i a b c e w p kd q
  refine nspec_ok (Option.some.inj hs) (fun _ => ?_) hp
  refine EvP.freshV tab0_ok (n := 60) (by kernel_rfl) (by kernel_rfl) (args' := [.agg (Dir.cells ⟨a, b, c, e, w, p, kd⟩), aBool q]) rfl (c56 ⟨a, b, c, e, w, p, kd⟩ q _ ?_)
  cases q <;> cases c <;> cases e <;> rfl
 ·cases hs
theorem ok45 {T : Tab} (O : TabOk Tryz.prog Door.cfg T) : TabOk Tryz.prog Door.cfg (T.addC 36 C45) := by
 refine addC_ok O fun args h s hs hp => ?_
 unfold C45 at hs
 split at hs
 ·rename_i n
  refine nspec_ok (Option.some.inj hs) (fun hpre => ?_) hp
  refine EvP.freshV (ok42 tab0_ok) (n := 60) (by kernel_rfl) (by kernel_rfl) (args' := [aK .i64 n]) rfl (c45 n _ ⟨⟨by omega, by omega, by decide⟩, fun x hx => ?_⟩)
  rw [rep_one] at hx
  show _ = aStr (zerosF n)
  rw [hx]
  unfold zerosF
  rw [show (max n 0).toNat = n.toNat by omega]; rfl
 ·cases hs
theorem ok55 {T : Tab} (O : TabOk Tryz.prog Door.cfg T) : TabOk Tryz.prog Door.cfg (T.addC 55 C55) := by
 refine addC_ok O fun args h s hs hp => ?_
 unfold C55 at hs
 split at hs
 ·rename_i n b
  refine nspec_ok (Option.some.inj hs) (fun hpre => ?_) hp
  exact EvP.freshV (ok67 tab0_ok) (n := 60) (by kernel_rfl) (by kernel_rfl) (args' := [aK .i64 n, aK .i64 b]) rfl (c55 n b _ ⟨hpre, fun x hx => by rw [hx]; rfl⟩)
 ·cases hs
def upOk (k : Nat) : Bool := Lib.upperB (UInt8.ofNat k) == upC (UInt8.ofNat k)
theorem up_all : (List.range 256).all upOk = true := by decide +kernel
theorem up_eq (c : UInt8) : Lib.upperB c = upC c := by
 have := List.all_eq_true.1 up_all c.toNat (by simpa using c.toNat_lt)
 unfold upOk at this
 have := eq_of_beq this
 simpa using this
theorem ok57 {T : Tab} (O : TabOk Tryz.prog Door.cfg T) : TabOk Tryz.prog Door.cfg (T.addC 57 C57) := by
 refine addC_ok O fun args h s hs hp => ?_
 unfold C57 at hs
 split at hs
 ·rename_i s0
  obtain ⟨⟨l⟩⟩ := s0
  refine nspec_ok (Option.some.inj hs) (fun hpre => ?_) hp
  obtain ⟨h1, h2⟩ := hpre
  replace h1 : l.length ≤ 1000 := h1
  replace h2 : l.all (fun b => decide (b.toNat < 128)) = true := h2
  refine EvP.prim (p := Door.upperP) rfl (v := aStr (Lib.toUpperA l)) (h' := h) ?_ ⟨?_, rfl⟩
  ·show (bif Nat.ble (ByteArray.size ⟨⟨l⟩⟩) maxRoom && l.all (fun b => decide (b.toNat < 128)) then _ else none) = _
   rw [h2, show Nat.ble (ByteArray.size ⟨⟨l⟩⟩) maxRoom = true from Nat.ble_eq_true_of_le (by show l.length ≤ _; unfold maxRoom; omega)]
   rfl
  ·show aStr (Lib.toUpperA l) = aStr (l.map upC)
   congr 1
   unfold Lib.toUpperA
   exact List.map_congr_left fun c _ => up_eq c
 ·cases hs
theorem okF1 : TabOk Tryz.prog Door.cfg F1 := ok56 (ok57 (ok54 (ok55 (ok45 (ok61 (ok42 tab0_ok))))))
theorem okF2 : TabOk Tryz.prog Door.cfg F2 := name_ok (name_ok (name_ok okF1 _ _) _ _) _ _
theorem unit_le (p : Int) : 1 ≤ unitF p ∧ unitF p ≤ 10000 ∧ 0 ≤ unitF p / 2 ∧ unitF p / 2 ≤ 5000 := by
 unfold unitF
 split
 ·omega
 ·split
  ·omega
  ·split
   ·omega
   ·split <;> omega
theorem round_le (x p : Int) : -10000000005000 ≤ roundF x p ∧ roundF x p ≤ 10000000005000 := by
 have hn := near_le x
 obtain ⟨u1, u2, u3, u4⟩ := unit_le p
 unfold roundF
 split
 ·obtain ⟨_, q2, q3⟩ := round_pos (-(nearF x)) (unitF p) (unitF p / 2) (by omega) (by omega) u1 u2 u3 u4
  omega
 ·obtain ⟨_, q2, q3⟩ := round_pos (nearF x) (unitF p) (unitF p / 2) (by omega) (by omega) u1 u2 u3 u4
  omega
theorem sign_end {d : Dir} {x r : Int} {K : List UInt8 → Prop} (hk : K (signF d (decide (x < 0) && decide (r ≠ 0)))) :
  iteP (decide (x < 0)) (iteP (r != 0) (True ∧ ∀ s : List UInt8, s = signF d true → K s) (True ∧ ∀ s : List UInt8, s = signF d false → K s)) (True ∧ ∀ s : List UInt8, s = signF d false → K s) := by
 by_cases h1 : x < 0
 ·rw [decide_eq_true h1] at hk ⊢
  by_cases h2 : r = 0
  ·rw [decide_eq_false (show ¬ r ≠ 0 by simpa using h2)] at hk
   rw [iteP_t, show (r != 0) = false by simpa using h2, iteP_f]
   exact ⟨trivial, fun s hs => by rw [hs]; exact hk⟩
  ·rw [decide_eq_true h2] at hk
   rw [iteP_t, show (r != 0) = true by simpa using h2, iteP_t]
   exact ⟨trivial, fun s hs => by rw [hs]; exact hk⟩
 ·rw [decide_eq_false h1] at hk ⊢
  rw [iteP_f]
  exact ⟨trivial, fun s hs => by rw [hs]; exact hk⟩
theorem zeros_len (n : Int) : (zerosF n).length = n.toNat := by unfold zerosF; rw [List.length_replicate]
theorem decimals_eq (d : Dir) (x r : Int) (hr : r = roundF x (min (placesF d) 4)) : decimalsF d x = (signF d (decide (x < 0) && decide (r ≠ 0)), fmtN 10 (r.natAbs / 10000) ++ (if placesF d > 0 then [46] ++ (zerosF (4 - (fmtN 10 (r.natAbs % 10000)).length) ++ fmtN 10 (r.natAbs % 10000) ++ zerosF (placesF d - 4)).take (placesF d).toNat else [])) := by
 subst hr
 rfl
def C40 (args : List AV) (h : Heap) : Option CSpec :=
 match args with
 | [.agg [.sc (.bool a), .sc (.bool b), .sc (.bool c), .sc (.bool e), .sc (.int .i64 w), .sc (.int .i64 p), .sc (.int .u8 kd)], .sc (.int .i64 x)] => some (nspec (-1 ≤ p ∧ p ≤ 255) (decimalsF ⟨a, b, c, e, w, p, kd⟩ x) (fun y => .tup [aStr y.1, aStr y.2]) h)
 | _ => none
theorem ok40 {T : Tab} (O : TabOk Tryz.prog Door.cfg T) : TabOk Tryz.prog Door.cfg (T.addC 31 C40) := by
 refine addC_ok O fun args h s hs hp => ?_
 unfold C40 at hs
 split at hs
 ·rename_i a b c e w p kd x
  refine nspec_ok (Option.some.inj hs) (fun hpre => ?_) hp
  obtain ⟨hp1, hp2⟩ := hpre
  refine EvP.freshV okF2 (n := 60) (by kernel_rfl) (by kernel_rfl) (args' := [.agg (Dir.cells ⟨a, b, c, e, w, p, kd⟩), aK .i64 x]) rfl (c40 ⟨a, b, c, e, w, p, kd⟩ x _ ?_)
  generalize hd : (⟨a, b, c, e, w, p, kd⟩ : Dir) = d
  have hdp : d.prec = p := by rw [← hd]
  have join3 : ∀ u v t : List UInt8, [u, v, t].flatten = u ++ v ++ t := fun u v t => by simp
  show iteP (d.prec == -1) _ _
  -- the part behind the point
  have tail : ∀ (r m : Int) (x2 : List UInt8) (pl : Int), m = (r.natAbs : Int) → r.natAbs ≤ 10000000005000 → x2.length ≤ 70 → 1 ≤ pl → pl ≤ 255 → ∀ (Q : List UInt8 → Prop), Q (x2 ++ ([46] ++ (zerosF (4 - (fmtN 10 (r.natAbs % 10000)).length) ++ fmtN 10 (r.natAbs % 10000) ++ zerosF (pl - 4)).take pl.toNat)) →
    ((0 : Int) ≤ m.tmod 10000 ∧ m.tmod 10000 ≤ 4294967295 ∧ ((10 : Int) = 8 ∨ (10 : Int) = 10 ∨ (10 : Int) = 16)) ∧ ∀ x3 : List UInt8, x3 = fmtN 10 (m.tmod 10000).toNat → IntKind.i64.wrap (4 - (x3.length : Int)) ≤ 1000 ∧ ∀ x4 : List UInt8, x4 = zerosF (IntKind.i64.wrap (4 - (x3.length : Int))) →
     IntKind.i64.wrap (pl - 4) ≤ 1000 ∧ ∀ x5 : List UInt8, x5 = zerosF (IntKind.i64.wrap (pl - 4)) → (true = true ∧ [x4, x3, x5].length ≤ 1000 ∧ [x4, x3, x5].flatten.length ≤ 10000000) ∧ ∀ x6 : List UInt8, x6 = [x4, x3, x5].flatten →
      iteP (decide (0 ≤ pl) && decide (pl ≤ (x6.length : Int))) ((true = true ∧ [x2, [46], List.take pl.toNat x6].length ≤ 1000 ∧ [x2, [46], List.take pl.toNat x6].flatten.length ≤ 10000000) ∧ ∀ x7 : List UInt8, x7 = [x2, [46], List.take pl.toNat x6].flatten → Q x7) False := by
   intro r m x2 pl hm hr hx2 h1 h2 Q hq
   have t2 : m.tmod 10000 = m % 10000 := tm (by omega)
   rw [t2]
   refine ⟨⟨by omega, by omega, .inr (.inl rfl)⟩, fun x3 h3 => ?_⟩
   have e3 : x3 = fmtN 10 (r.natAbs % 10000) := by rw [h3]; congr 1; omega
   have l3 : x3.length ≤ 70 := by rw [e3]; exact fmt_len _ _
   rw [wrap_in (x := 4 - (x3.length : Int)) (by omega) (by omega), wrap_in (x := pl - 4) (by omega) (by omega)]
   refine ⟨by omega, fun x4 h4 => ⟨by omega, fun x5 h5 => ?_⟩⟩
   have l4 := zeros_len (4 - (x3.length : Int))
   have l5 := zeros_len (pl - 4)
   rw [← h4] at l4
   rw [← h5] at l5
   refine ⟨⟨rfl, by show 3 ≤ 1000; decide, by rw [join3, List.length_append, List.length_append]; omega⟩, fun x6 h6 => ?_⟩
   rw [join3] at h6
   have l6 : x6.length = x4.length + x3.length + x5.length := by rw [h6, List.length_append, List.length_append]
   rw [show (decide (0 ≤ pl) && decide (pl ≤ (x6.length : Int))) = true by simp; omega, iteP_t]
   have l7 : (List.take pl.toNat x6).length ≤ 1000 := by rw [List.length_take]; omega
   refine ⟨⟨rfl, by show 3 ≤ 1000; decide, by rw [join3, List.length_append, List.length_append]; simp only [List.length_cons, List.length_nil]; omega⟩, fun x7 h7 => ?_⟩
   rw [join3] at h7
   rw [h7, h6, h4, h5, e3, List.append_assoc]
   exact hq
  have absr : ∀ r : Int, -10000000005000 ≤ r → r ≤ 10000000005000 → max r (IntKind.i64.wrap (0 - r)) = (r.natAbs : Int) ∧ r.natAbs ≤ 10000000005000 := by
   intro r h1 h2
   rw [wrap_in (by omega) (by omega)]
   omega
  have whole : ∀ (r : Int), r.natAbs ≤ 10000000005000 → ((0 : Int) ≤ IntKind.i64.wrap ((r.natAbs : Int).tdiv 10000) ∧ IntKind.i64.wrap ((r.natAbs : Int).tdiv 10000) ≤ 4294967295 ∧ ((10 : Int) = 8 ∨ (10 : Int) = 10 ∨ (10 : Int) = 16)) ∧ (IntKind.i64.wrap ((r.natAbs : Int).tdiv 10000)).toNat = r.natAbs / 10000 := by
   intro r h1
   rw [td (by omega), wrap_in (by omega) (by omega)]
   exact ⟨⟨by omega, by omega, .inr (.inl rfl)⟩, by omega⟩
  have K' : ∀ (r : Int) (pl : Int) (y : List UInt8), decimalsF d x = (signF d (decide (x < 0) && decide (r ≠ 0)), y) → (fun z : List UInt8 => AV.tup [AV.sc (.string ⟨⟨z⟩⟩), AV.sc (.string ⟨⟨y⟩⟩)] = AV.tup [aStr (decimalsF d x).1, aStr (decimalsF d x).2]) (signF d (decide (x < 0) && decide (r ≠ 0))) := by
   intro r pl y hy
   show _ = _
   rw [hy]; rfl
  by_cases hm : p = -1
  ·rw [show (d.prec == -1) = true by rw [hdp]; simpa using hm, iteP_t]
   refine ⟨trivial, fun r hr m hmm => ?_⟩
   have hb := round_le x 4
   rw [← hr] at hb
   obtain ⟨a1, a2⟩ := absr r hb.1 hb.2
   rw [a1] at hmm
   obtain ⟨w1, w2⟩ := whole r a2
   rw [hmm]
   refine ⟨w1, fun x2 h2 => ?_⟩
   rw [w2] at h2
   have l2 : x2.length ≤ 70 := by rw [h2]; exact fmt_len _ _
   have hpl : placesF d = 6 := by unfold placesF; rw [hdp, if_pos hm]
   have hd2 : decimalsF d x = (signF d (decide (x < 0) && decide (r ≠ 0)), x2 ++ ([46] ++ (zerosF (4 - (fmtN 10 (r.natAbs % 10000)).length) ++ fmtN 10 (r.natAbs % 10000) ++ zerosF (6 - 4)).take (6 : Int).toNat)) := by
    rw [decimals_eq d x r (by rw [hpl]; exact hr), hpl, if_pos (by decide), ← h2]
   exact tail r _ x2 6 rfl a2 l2 (by decide) (by decide) (fun x7 => iteP (decide (x < 0)) (iteP (r != 0) (True ∧ ∀ s : List UInt8, s = signF d true → AV.tup [AV.sc (.string ⟨⟨s⟩⟩), AV.sc (.string ⟨⟨x7⟩⟩)] = AV.tup [aStr (decimalsF d x).1, aStr (decimalsF d x).2]) (True ∧ ∀ s : List UInt8, s = signF d false → AV.tup [AV.sc (.string ⟨⟨s⟩⟩), AV.sc (.string ⟨⟨x7⟩⟩)] = AV.tup [aStr (decimalsF d x).1, aStr (decimalsF d x).2])) (True ∧ ∀ s : List UInt8, s = signF d false → AV.tup [AV.sc (.string ⟨⟨s⟩⟩), AV.sc (.string ⟨⟨x7⟩⟩)] = AV.tup [aStr (decimalsF d x).1, aStr (decimalsF d x).2])) (sign_end (K' r 6 _ hd2))
  ·rw [show (d.prec == -1) = false by rw [hdp]; simpa using hm, iteP_f]
   refine ⟨trivial, fun r hr m hmm => ?_⟩
   have hb := round_le x (min d.prec 4)
   rw [← hr] at hb
   obtain ⟨a1, a2⟩ := absr r hb.1 hb.2
   rw [a1] at hmm
   obtain ⟨w1, w2⟩ := whole r a2
   rw [hmm]
   refine ⟨w1, fun x2 h2 => ?_⟩
   rw [w2] at h2
   have l2 : x2.length ≤ 70 := by rw [h2]; exact fmt_len _ _
   have hpl : placesF d = d.prec := by unfold placesF; rw [if_neg (by rw [hdp]; exact hm)]
   by_cases h0 : (0 : Int) < d.prec
   ·have hd2 : decimalsF d x = (signF d (decide (x < 0) && decide (r ≠ 0)), x2 ++ ([46] ++ (zerosF (4 - (fmtN 10 (r.natAbs % 10000)).length) ++ fmtN 10 (r.natAbs % 10000) ++ zerosF (d.prec - 4)).take d.prec.toNat)) := by
     rw [decimals_eq d x r (by rw [hpl]; exact hr), hpl, if_pos h0, ← h2]
    rw [decide_eq_true h0, iteP_t]
    exact tail r _ x2 d.prec rfl a2 l2 (by omega) (by omega) (fun x7 => iteP (decide (x < 0)) (iteP (r != 0) (True ∧ ∀ s : List UInt8, s = signF d true → AV.tup [AV.sc (.string ⟨⟨s⟩⟩), AV.sc (.string ⟨⟨x7⟩⟩)] = AV.tup [aStr (decimalsF d x).1, aStr (decimalsF d x).2]) (True ∧ ∀ s : List UInt8, s = signF d false → AV.tup [AV.sc (.string ⟨⟨s⟩⟩), AV.sc (.string ⟨⟨x7⟩⟩)] = AV.tup [aStr (decimalsF d x).1, aStr (decimalsF d x).2])) (True ∧ ∀ s : List UInt8, s = signF d false → AV.tup [AV.sc (.string ⟨⟨s⟩⟩), AV.sc (.string ⟨⟨x7⟩⟩)] = AV.tup [aStr (decimalsF d x).1, aStr (decimalsF d x).2])) (sign_end (K' r d.prec _ hd2))
   ·have hd2 : decimalsF d x = (signF d (decide (x < 0) && decide (r ≠ 0)), x2) := by
     rw [decimals_eq d x r (by rw [hpl]; exact hr), hpl, if_neg h0, ← h2, List.append_nil]
    rw [decide_eq_false h0, iteP_f]
    exact sign_end (K' r d.prec _ hd2)
 ·cases hs
end
end Go.Proofs.Pr
namespace Go.Proofs.Pr
open Go Go.Ef
noncomputable section
set_option maxRecDepth 100000
theorem okF3 : TabOk Tryz.prog Door.cfg F3 := name_ok (name_ok (name_ok okF1 _ _) _ _) _ _
def intKind (k : Int) : Bool := k == 100 || k == 105 || k == 111 || k == 117 || k == 120 || k == 88
def C41 (args : List AV) (h : Heap) : Option CSpec :=
 match args with
 | [.agg [.sc (.bool a), .sc (.bool b), .sc (.bool c), .sc (.bool e), .sc (.int .i64 w), .sc (.int .i64 p), .sc (.int .u8 kd)], .sc (.int .i64 n)] => some (nspec (-1 ≤ p ∧ p ≤ 255 ∧ -1000000000 ≤ n ∧ n ≤ 1000000000 ∧ intKind kd = true) (integerF ⟨a, b, c, e, w, p, kd⟩ n) (fun y => .tup [aStr y.1, aStr y.2]) h)
 | _ => none
def layP (p : Int) (x : List UInt8) (Q : List UInt8 → Prop) : Prop :=
 ∀ m : Int, m = IntKind.i64.wrap (p - (x.length : Int)) → m ≤ 1000 ∧ ∀ z : List UInt8, z = zerosF m → (true = true ∧ [z, x].length ≤ 1000 ∧ [z, x].flatten.length ≤ 10000000) ∧ ∀ y : List UInt8, y = [z, x].flatten → Q y
def endI (n p : Int) (x : List UInt8) (Q : List UInt8 → Prop) : Prop := iteP (n == 0) (iteP (p == 0) (layP p [] Q) (layP p x Q)) (layP p x Q)
theorem lay_ok {p : Int} {x : List UInt8} {Q : List UInt8 → Prop} (h1 : -1 ≤ p) (h2 : p ≤ 255) (hx : x.length ≤ 100) (hq : Q (zerosF (p - x.length) ++ x)) : layP p x Q := by
 intro m hm
 rw [wrap_in (by omega) (by omega)] at hm
 refine ⟨by omega, fun z hz => ?_⟩
 have hl := zeros_len m
 rw [← hz] at hl
 have e : [z, x].flatten = z ++ x := by simp
 refine ⟨⟨rfl, by show 2 ≤ 1000; decide, by rw [e, List.length_append]; omega⟩, fun y hy => ?_⟩
 rw [hy, e, hz, hm]
 exact hq
theorem end_ok {n p : Int} {x : List UInt8} {Q : List UInt8 → Prop} (h1 : -1 ≤ p) (h2 : p ≤ 255) (hx : x.length ≤ 100) (y : List UInt8) (hy : y = if n = 0 ∧ p = 0 then [] else x) (hq : Q (zerosF (p - y.length) ++ y)) : endI n p x Q := by
 unfold endI
 by_cases hn : n = 0
 ·rw [show (n == 0) = true by simpa using hn, iteP_t]
  by_cases hp : p = 0
  ·rw [show (p == 0) = true by simpa using hp, iteP_t]
   rw [if_pos ⟨hn, hp⟩] at hy
   subst hy
   exact lay_ok h1 h2 (by decide) hq
  ·rw [show (p == 0) = false by simpa using hp, iteP_f]
   rw [if_neg (fun h => hp h.2)] at hy
   subst hy
   exact lay_ok h1 h2 hx hq
 ·rw [show (n == 0) = false by simpa using hn, iteP_f]
  rw [if_neg (fun h => hn h.1)] at hy
  subst hy
  exact lay_ok h1 h2 hx hq
theorem digit_128 {n : Nat} (h : n < 16) : (digitC n).toNat < 128 := by
 unfold digitC
 split
 ·simp; omega
 ·simp; omega
theorem digits_128 (b : Nat) (hb : b ≤ 16) (hb0 : 0 < b) : ∀ f n acc, (∀ c ∈ acc, UInt8.toNat c < 128) → ∀ c ∈ digitsL b f n acc, UInt8.toNat c < 128 := by
 intro f
 induction f with
 | zero => intro n acc h; exact h
 | succ f ih =>
  intro n acc h
  unfold digitsL
  split
  ·intro c hc
   rcases List.mem_cons.1 hc with rfl | hc
   ·exact digit_128 (by omega)
   ·exact h c hc
  ·refine ih _ _ fun c hc => ?_
   rcases List.mem_cons.1 hc with rfl | hc
   ·exact digit_128 (by have := Nat.mod_lt n hb0; omega)
   ·exact h c hc
theorem fmt_128 (b n : Nat) (hb : b ≤ 16) (hb0 : 0 < b) : (fmtN b n).all (fun c => decide (c.toNat < 128)) = true :=
 List.all_eq_true.2 fun c hc => by simpa using digits_128 b hb hb0 70 n [] (fun _ h => by cases h) c hc
abbrev tupS (x y : List UInt8) : AV := .tup [.sc (.string ⟨⟨x⟩⟩), .sc (.string ⟨⟨y⟩⟩)]
theorem int_100 (a b c e : Bool) (w p n : Int) (h1 : -1 ≤ p) (h2 : p ≤ 255) (h3 : -1000000000 ≤ n) (h4 : n ≤ 1000000000) : wpCall F3 Door.cfg Tryz.prog 60 32 [.agg [aBool a, aBool b, aBool c, aBool e, aK .i64 w, aK .i64 p, aK .u8 100], aK .i64 n] heapF fun r h' => wpBack h' r fun v => v = tupS (integerF ⟨a, b, c, e, w, p, 100⟩ n).1 (integerF ⟨a, b, c, e, w, p, 100⟩ n).2 := by
 refine c41_100 a b c e w p n _ ?_
 have hI : intDigits ⟨a, b, c, e, w, p, 100⟩ n = if n = 0 ∧ p = 0 then [] else fmtN 10 n.natAbs := rfl
 have hS : (integerF ⟨a, b, c, e, w, p, 100⟩ n).1 = signF ⟨a, b, c, e, w, p, 100⟩ (decide (n < 0)) := rfl
 have hR : (integerF ⟨a, b, c, e, w, p, 100⟩ n).2 = zerosF (p - (intDigits ⟨a, b, c, e, w, p, 100⟩ n).length) ++ intDigits ⟨a, b, c, e, w, p, 100⟩ n := rfl
 have part : ∀ x : List UInt8, x = signF ⟨a, b, c, e, w, p, 100⟩ (decide (n < 0)) → ∀ m : Int, m = max n (IntKind.i64.wrap (0 - n)) → ∀ A : Prop, iteP (decide (m < 0)) A (((0 : Int) ≤ m ∧ m ≤ 4294967295 ∧ ((10 : Int) = 8 ∨ (10 : Int) = 10 ∨ (10 : Int) = 16)) ∧ ∀ x1 : List UInt8, x1 = fmtN 10 m.toNat → endI n p x1 fun y => tupS x y = tupS (integerF ⟨a, b, c, e, w, p, 100⟩ n).1 (integerF ⟨a, b, c, e, w, p, 100⟩ n).2) := by
  intro x hx m hm A
  rw [wrap_in (by omega) (by omega)] at hm
  rw [decide_eq_false (show ¬ m < 0 by omega), iteP_f]
  refine ⟨⟨by omega, by omega, .inr (.inl rfl)⟩, fun x1 hx1 => ?_⟩
  have e1 : x1 = fmtN 10 n.natAbs := by rw [hx1]; congr 1; omega
  refine end_ok h1 h2 (by rw [hx1]; exact Nat.le_trans (fmt_len _ _) (by decide)) (intDigits ⟨a, b, c, e, w, p, 100⟩ n) (by rw [hI, e1]) ?_
  rw [hS, hR, hx]
 by_cases hn : n < 0
 ·rw [decide_eq_true hn] at part ⊢
  rw [iteP_t]
  exact ⟨trivial, fun x hx m hm => part x hx m hm _⟩
 ·rw [decide_eq_false hn] at part ⊢
  rw [iteP_f]
  exact ⟨trivial, fun x hx m hm => part x hx m hm _⟩
theorem int_105 (a b c e : Bool) (w p n : Int) (h1 : -1 ≤ p) (h2 : p ≤ 255) (h3 : -1000000000 ≤ n) (h4 : n ≤ 1000000000) : wpCall F3 Door.cfg Tryz.prog 60 32 [.agg [aBool a, aBool b, aBool c, aBool e, aK .i64 w, aK .i64 p, aK .u8 105], aK .i64 n] heapF fun r h' => wpBack h' r fun v => v = tupS (integerF ⟨a, b, c, e, w, p, 105⟩ n).1 (integerF ⟨a, b, c, e, w, p, 105⟩ n).2 := by
 refine c41_105 a b c e w p n _ ?_
 have hI : intDigits ⟨a, b, c, e, w, p, 105⟩ n = if n = 0 ∧ p = 0 then [] else fmtN 10 n.natAbs := rfl
 have hS : (integerF ⟨a, b, c, e, w, p, 105⟩ n).1 = signF ⟨a, b, c, e, w, p, 105⟩ (decide (n < 0)) := rfl
 have hR : (integerF ⟨a, b, c, e, w, p, 105⟩ n).2 = zerosF (p - (intDigits ⟨a, b, c, e, w, p, 105⟩ n).length) ++ intDigits ⟨a, b, c, e, w, p, 105⟩ n := rfl
 have part : ∀ x : List UInt8, x = signF ⟨a, b, c, e, w, p, 105⟩ (decide (n < 0)) → ∀ m : Int, m = max n (IntKind.i64.wrap (0 - n)) → ∀ A : Prop, iteP (decide (m < 0)) A (((0 : Int) ≤ m ∧ m ≤ 4294967295 ∧ ((10 : Int) = 8 ∨ (10 : Int) = 10 ∨ (10 : Int) = 16)) ∧ ∀ x1 : List UInt8, x1 = fmtN 10 m.toNat → endI n p x1 fun y => tupS x y = tupS (integerF ⟨a, b, c, e, w, p, 105⟩ n).1 (integerF ⟨a, b, c, e, w, p, 105⟩ n).2) := by
  intro x hx m hm A
  rw [wrap_in (by omega) (by omega)] at hm
  rw [decide_eq_false (show ¬ m < 0 by omega), iteP_f]
  refine ⟨⟨by omega, by omega, .inr (.inl rfl)⟩, fun x1 hx1 => ?_⟩
  have e1 : x1 = fmtN 10 n.natAbs := by rw [hx1]; congr 1; omega
  refine end_ok h1 h2 (by rw [hx1]; exact Nat.le_trans (fmt_len _ _) (by decide)) (intDigits ⟨a, b, c, e, w, p, 105⟩ n) (by rw [hI, e1]) ?_
  rw [hS, hR, hx]
 by_cases hn : n < 0
 ·rw [decide_eq_true hn] at part ⊢
  rw [iteP_t]
  exact ⟨trivial, fun x hx m hm => part x hx m hm _⟩
 ·rw [decide_eq_false hn] at part ⊢
  rw [iteP_f]
  exact ⟨trivial, fun x hx m hm => part x hx m hm _⟩
theorem int_111 (a b c e : Bool) (w p n : Int) (h1 : -1 ≤ p) (h2 : p ≤ 255) (h3 : -1000000000 ≤ n) (h4 : n ≤ 1000000000) : wpCall F3 Door.cfg Tryz.prog 60 32 [.agg [aBool a, aBool b, aBool c, aBool e, aK .i64 w, aK .i64 p, aK .u8 111], aK .i64 n] heapF fun r h' => wpBack h' r fun v => v = tupS (integerF ⟨a, b, c, e, w, p, 111⟩ n).1 (integerF ⟨a, b, c, e, w, p, 111⟩ n).2 := by
 refine c41_111 a b c e w p n _ ?_
 have hI : intDigits ⟨a, b, c, e, w, p, 111⟩ n = if n = 0 ∧ p = 0 then [] else (fmtN 8 (if n < 0 then n + 4294967296 else n).toNat) := rfl
 have hS : (integerF ⟨a, b, c, e, w, p, 111⟩ n).1 = [] := rfl
 have hR : (integerF ⟨a, b, c, e, w, p, 111⟩ n).2 = zerosF (p - (intDigits ⟨a, b, c, e, w, p, 111⟩ n).length) ++ intDigits ⟨a, b, c, e, w, p, 111⟩ n := rfl
 by_cases hn : n < 0
 ·rw [decide_eq_true hn, iteP_t]
  intro m hm
  rw [wrap_in (by omega) (by omega)] at hm
  refine ⟨⟨by omega, by omega, .inl rfl⟩, fun x hx => ?_⟩
  have lx : x.length ≤ 70 := by rw [hx]; exact fmt_len _ _
  refine end_ok h1 h2 (by omega) (intDigits ⟨a, b, c, e, w, p, 111⟩ n) (by rw [hI, hx, if_pos hn, hm]) ?_
  rw [hS, hR]
 ·rw [decide_eq_false hn, iteP_f]
  refine ⟨⟨by omega, by omega, .inl rfl⟩, fun x hx => ?_⟩
  have lx : x.length ≤ 70 := by rw [hx]; exact fmt_len _ _
  refine end_ok h1 h2 (by omega) (intDigits ⟨a, b, c, e, w, p, 111⟩ n) (by rw [hI, hx, if_neg hn]) ?_
  rw [hS, hR]
theorem int_117 (a b c e : Bool) (w p n : Int) (h1 : -1 ≤ p) (h2 : p ≤ 255) (h3 : -1000000000 ≤ n) (h4 : n ≤ 1000000000) : wpCall F3 Door.cfg Tryz.prog 60 32 [.agg [aBool a, aBool b, aBool c, aBool e, aK .i64 w, aK .i64 p, aK .u8 117], aK .i64 n] heapF fun r h' => wpBack h' r fun v => v = tupS (integerF ⟨a, b, c, e, w, p, 117⟩ n).1 (integerF ⟨a, b, c, e, w, p, 117⟩ n).2 := by
 refine c41_117 a b c e w p n _ ?_
 have hI : intDigits ⟨a, b, c, e, w, p, 117⟩ n = if n = 0 ∧ p = 0 then [] else (fmtN 10 (if n < 0 then n + 4294967296 else n).toNat) := rfl
 have hS : (integerF ⟨a, b, c, e, w, p, 117⟩ n).1 = [] := rfl
 have hR : (integerF ⟨a, b, c, e, w, p, 117⟩ n).2 = zerosF (p - (intDigits ⟨a, b, c, e, w, p, 117⟩ n).length) ++ intDigits ⟨a, b, c, e, w, p, 117⟩ n := rfl
 by_cases hn : n < 0
 ·rw [decide_eq_true hn, iteP_t]
  intro m hm
  rw [wrap_in (by omega) (by omega)] at hm
  refine ⟨⟨by omega, by omega, .inr (.inl rfl)⟩, fun x hx => ?_⟩
  have lx : x.length ≤ 70 := by rw [hx]; exact fmt_len _ _
  refine end_ok h1 h2 (by omega) (intDigits ⟨a, b, c, e, w, p, 117⟩ n) (by rw [hI, hx, if_pos hn, hm]) ?_
  rw [hS, hR]
 ·rw [decide_eq_false hn, iteP_f]
  refine ⟨⟨by omega, by omega, .inr (.inl rfl)⟩, fun x hx => ?_⟩
  have lx : x.length ≤ 70 := by rw [hx]; exact fmt_len _ _
  refine end_ok h1 h2 (by omega) (intDigits ⟨a, b, c, e, w, p, 117⟩ n) (by rw [hI, hx, if_neg hn]) ?_
  rw [hS, hR]
theorem int_120 (a b c e : Bool) (w p n : Int) (h1 : -1 ≤ p) (h2 : p ≤ 255) (h3 : -1000000000 ≤ n) (h4 : n ≤ 1000000000) : wpCall F3 Door.cfg Tryz.prog 60 32 [.agg [aBool a, aBool b, aBool c, aBool e, aK .i64 w, aK .i64 p, aK .u8 120], aK .i64 n] heapF fun r h' => wpBack h' r fun v => v = tupS (integerF ⟨a, b, c, e, w, p, 120⟩ n).1 (integerF ⟨a, b, c, e, w, p, 120⟩ n).2 := by
 refine c41_120 a b c e w p n _ ?_
 have hI : intDigits ⟨a, b, c, e, w, p, 120⟩ n = if n = 0 ∧ p = 0 then [] else (fmtN 16 (if n < 0 then n + 4294967296 else n).toNat) := rfl
 have hS : (integerF ⟨a, b, c, e, w, p, 120⟩ n).1 = [] := rfl
 have hR : (integerF ⟨a, b, c, e, w, p, 120⟩ n).2 = zerosF (p - (intDigits ⟨a, b, c, e, w, p, 120⟩ n).length) ++ intDigits ⟨a, b, c, e, w, p, 120⟩ n := rfl
 by_cases hn : n < 0
 ·rw [decide_eq_true hn, iteP_t]
  intro m hm
  rw [wrap_in (by omega) (by omega)] at hm
  refine ⟨⟨by omega, by omega, .inr (.inr rfl)⟩, fun x hx => ?_⟩
  have lx : x.length ≤ 70 := by rw [hx]; exact fmt_len _ _
  refine end_ok h1 h2 (by omega) (intDigits ⟨a, b, c, e, w, p, 120⟩ n) (by rw [hI, hx, if_pos hn, hm]) ?_
  rw [hS, hR]
 ·rw [decide_eq_false hn, iteP_f]
  refine ⟨⟨by omega, by omega, .inr (.inr rfl)⟩, fun x hx => ?_⟩
  have lx : x.length ≤ 70 := by rw [hx]; exact fmt_len _ _
  refine end_ok h1 h2 (by omega) (intDigits ⟨a, b, c, e, w, p, 120⟩ n) (by rw [hI, hx, if_neg hn]) ?_
  rw [hS, hR]
theorem int_88 (a b c e : Bool) (w p n : Int) (h1 : -1 ≤ p) (h2 : p ≤ 255) (h3 : -1000000000 ≤ n) (h4 : n ≤ 1000000000) : wpCall F3 Door.cfg Tryz.prog 60 32 [.agg [aBool a, aBool b, aBool c, aBool e, aK .i64 w, aK .i64 p, aK .u8 88], aK .i64 n] heapF fun r h' => wpBack h' r fun v => v = tupS (integerF ⟨a, b, c, e, w, p, 88⟩ n).1 (integerF ⟨a, b, c, e, w, p, 88⟩ n).2 := by
 refine c41_88 a b c e w p n _ ?_
 have hI : intDigits ⟨a, b, c, e, w, p, 88⟩ n = if n = 0 ∧ p = 0 then [] else (fmtN 16 (if n < 0 then n + 4294967296 else n).toNat).map upC := rfl
 have hS : (integerF ⟨a, b, c, e, w, p, 88⟩ n).1 = [] := rfl
 have hR : (integerF ⟨a, b, c, e, w, p, 88⟩ n).2 = zerosF (p - (intDigits ⟨a, b, c, e, w, p, 88⟩ n).length) ++ intDigits ⟨a, b, c, e, w, p, 88⟩ n := rfl
 by_cases hn : n < 0
 ·rw [decide_eq_true hn, iteP_t]
  intro m hm
  rw [wrap_in (by omega) (by omega)] at hm
  refine ⟨⟨by omega, by omega, .inr (.inr rfl)⟩, fun x hx => ?_⟩
  have lx : x.length ≤ 70 := by rw [hx]; exact fmt_len _ _
  refine ⟨⟨by omega, by rw [hx]; exact fmt_128 16 _ (by decide) (by decide)⟩, fun x1 hx1 => ?_⟩
  refine end_ok h1 h2 (by rw [hx1, List.length_map]; omega) (intDigits ⟨a, b, c, e, w, p, 88⟩ n) (by rw [hI, hx1, hx, if_pos hn, hm]) ?_
  rw [hS, hR]
 ·rw [decide_eq_false hn, iteP_f]
  refine ⟨⟨by omega, by omega, .inr (.inr rfl)⟩, fun x hx => ?_⟩
  have lx : x.length ≤ 70 := by rw [hx]; exact fmt_len _ _
  refine ⟨⟨by omega, by rw [hx]; exact fmt_128 16 _ (by decide) (by decide)⟩, fun x1 hx1 => ?_⟩
  refine end_ok h1 h2 (by rw [hx1, List.length_map]; omega) (intDigits ⟨a, b, c, e, w, p, 88⟩ n) (by rw [hI, hx1, hx, if_neg hn]) ?_
  rw [hS, hR]
theorem ok41 {T : Tab} (O : TabOk Tryz.prog Door.cfg T) : TabOk Tryz.prog Door.cfg (T.addC 32 C41) := by
 refine addC_ok O fun args h s hs hp => ?_
 unfold C41 at hs
 split at hs
 ·rename_i a b c e w p kd n
  refine nspec_ok (Option.some.inj hs) (fun hpre => ?_) hp
  obtain ⟨h1, h2, h3, h4, h5⟩ := hpre
  unfold intKind at h5
  simp only [Bool.or_eq_true, beq_iff_eq] at h5
  rcases h5 with ((((rfl | rfl) | rfl) | rfl) | rfl) | rfl
  ·exact EvP.freshV okF3 (n := 60) (by kernel_rfl) (by kernel_rfl) (args' := [.agg [aBool a, aBool b, aBool c, aBool e, aK .i64 w, aK .i64 p, aK .u8 100], aK .i64 n]) rfl (int_100 a b c e w p n h1 h2 h3 h4)
  ·exact EvP.freshV okF3 (n := 60) (by kernel_rfl) (by kernel_rfl) (args' := [.agg [aBool a, aBool b, aBool c, aBool e, aK .i64 w, aK .i64 p, aK .u8 105], aK .i64 n]) rfl (int_105 a b c e w p n h1 h2 h3 h4)
  ·exact EvP.freshV okF3 (n := 60) (by kernel_rfl) (by kernel_rfl) (args' := [.agg [aBool a, aBool b, aBool c, aBool e, aK .i64 w, aK .i64 p, aK .u8 111], aK .i64 n]) rfl (int_111 a b c e w p n h1 h2 h3 h4)
  ·exact EvP.freshV okF3 (n := 60) (by kernel_rfl) (by kernel_rfl) (args' := [.agg [aBool a, aBool b, aBool c, aBool e, aK .i64 w, aK .i64 p, aK .u8 117], aK .i64 n]) rfl (int_117 a b c e w p n h1 h2 h3 h4)
  ·exact EvP.freshV okF3 (n := 60) (by kernel_rfl) (by kernel_rfl) (args' := [.agg [aBool a, aBool b, aBool c, aBool e, aK .i64 w, aK .i64 p, aK .u8 120], aK .i64 n]) rfl (int_120 a b c e w p n h1 h2 h3 h4)
  ·exact EvP.freshV okF3 (n := 60) (by kernel_rfl) (by kernel_rfl) (args' := [.agg [aBool a, aBool b, aBool c, aBool e, aK .i64 w, aK .i64 p, aK .u8 88], aK .i64 n]) rfl (int_88 a b c e w p n h1 h2 h3 h4)
 ·cases hs
end
end Go.Proofs.Pr
namespace Go.Proofs.Pr
open Go Go.Ef
noncomputable section
def C39 (args : List AV) (h : Heap) : Option CSpec :=
 match args with
 | [.agg [.sc (.int .i64 k), .sc (.int .i64 n), .sc (.string s)]] => some (nspec True (textF k n s.data.toList) (fun x => aStr x) h)
 | _ => none
def M1 : Tab := Q1.addC 27 C36n
def M2 : Tab := ((M1.addC 30 C39).addC 31 C40).addC 32 C41
def M3 : Tab := tab0.addC 53 C53g
end
end Go.Proofs.Pr
namespace Go.Proofs.Pr
open Go Go.Ef
noncomputable section
set_option maxRecDepth 100000
theorem s39 (k : Int) (n : Int) (s : List UInt8) (K : AV → Prop) (h :
 iteP (k == 1) (True ∧ ∀ (x : List UInt8), x = decF (nearF (min (max n (-10000000000000)) 10000000000000)) → K (AV.sc (Value.string (ByteArray.mk (Array.mk x))))) (iteP (k == 2) (K (AV.sc (Value.string (ByteArray.mk (Array.mk s))))) (iteP (k == 3) (K (AV.sc (Value.string (ByteArray.mk (Array.mk s))))) (K (AV.sc (Value.string (ByteArray.mk (Array.mk [])))))))) :
 (fun (k n : Int) (s : List UInt8) (K : AV → Prop) => wpCall M3 Door.cfg Tryz.prog 40 30 [.agg [aK .i64 k, aK .i64 n, aStr s]] heapF fun r h' => wpBack h' r K) k n s K :=
 Eq.mp (by kernel_rfl) h
theorem s24_99 (a : Bool) (b : Bool) (c : Bool) (e : Bool) (w : Int) (p : Int) (k : Int) (n : Int) (s : List UInt8) (K : AV → Prop) (h :
 s.length.le 1000000 ∧ ∀ (x : Int), x = numberF k n s → iteP (k == 1) (True ∧ ∀ (x_1 : Int), x_1 = (nearF x).tdiv 10000 → K (AV.tup [AV.sc (Value.string (ByteArray.mk (Array.mk []))), AV.sc (Value.string (ByteArray.mk (Array.mk (List.map byteD [[AV.sc (Value.int IntKind.u8 (IntKind.u8.wrap ((IntKind.i64.wrap (x_1.tmod 256 + 256)).tmod 256)))]]))))])) (True ∧ ∀ (x : List UInt8), x = textF k n s →
 iteP (decide (0 ≤ min 1 (↑x.length : Int)) && decide (min 1 (↑x.length : Int) ≤ (↑x.length : Int))) (K (AV.tup [AV.sc (Value.string (ByteArray.mk (Array.mk []))), AV.sc (Value.string (ByteArray.mk (Array.mk (List.take (min 1 (↑x.length : Int)).toNat x))))])) False)) :
 (fun (a b c e : Bool) (w p k n : Int) (s : List UInt8) (K : AV → Prop) => wpCall M2 Door.cfg Tryz.prog 40 14 [.agg [aBool a, aBool b, aBool c, aBool e, aK .i64 w, aK .i64 p, aK .u8 99], .agg [aK .i64 k, aK .i64 n, aStr s]] heapF fun r h' => wpBack h' r K) a b c e w p k n s K :=
 Eq.mp (by kernel_rfl) h
theorem s24_115 (a : Bool) (b : Bool) (c : Bool) (e : Bool) (w : Int) (p : Int) (k : Int) (n : Int) (s : List UInt8) (K : AV → Prop) (h :
 s.length.le 1000000 ∧ ∀ (x : Int), x = numberF k n s → True ∧ ∀ (x : List UInt8), x = textF k n s → iteP (p != (-1)) (iteP (decide (0 ≤ min p (↑x.length : Int)) && decide (min p (↑x.length : Int) ≤ (↑x.length : Int))) (K (AV.tup [AV.sc (Value.string (ByteArray.mk (Array.mk []))), AV.sc (Value.string (ByteArray.mk (Array.mk (List.take (min p (↑x.length : Int)).toNat x))))])) False) (K (AV.tup
 [AV.sc (Value.string (ByteArray.mk (Array.mk []))), AV.sc (Value.string (ByteArray.mk (Array.mk x)))]))) :
 (fun (a b c e : Bool) (w p k n : Int) (s : List UInt8) (K : AV → Prop) => wpCall M2 Door.cfg Tryz.prog 40 14 [.agg [aBool a, aBool b, aBool c, aBool e, aK .i64 w, aK .i64 p, aK .u8 115], .agg [aK .i64 k, aK .i64 n, aStr s]] heapF fun r h' => wpBack h' r K) a b c e w p k n s K :=
 Eq.mp (by kernel_rfl) h
theorem s24_102 (a : Bool) (b : Bool) (c : Bool) (e : Bool) (w : Int) (p : Int) (k : Int) (n : Int) (s : List UInt8) (K : AV → Prop) (h :
 s.length.le 1000000 ∧ ∀ (x : Int), x = numberF k n s → ((-1) ≤ p ∧ p ≤ 255) ∧ ∀ (x_1 : List UInt8 × List UInt8), x_1 = (if (decide (x < 0) && decide ((if nearF x < 0 then -(((-nearF x + (if min (if p = (-1) then 6 else p) (4 : Int) ≤ 0 then 10000 else if min (if p = (-1) then 6 else p) (4 : Int) = 1 then 1000 else if min (if p = (-1) then 6 else p) (4 : Int) = 2 then 100 else if
 min (if p = (-1) then 6 else p) 4 = 3 then 10 else 1) / 2) / if min (if p = (-1) then 6 else p) (4 : Int) ≤ 0 then 10000 else if min (if p = (-1) then 6 else p) (4 : Int) = 1 then 1000 else if min (if p = (-1) then 6 else p) (4 : Int) = 2 then 100 else if min (if p = (-1) then 6 else p) (4 : Int) = 3 then 10 else 1) * if min (if p = (-1) then 6 else p) (4 : Int) ≤ 0 then 10000 else
 if min (if p = (-1) then 6 else p) (4 : Int) = 1 then 1000 else if min (if p = (-1) then 6 else p) (4 : Int) = 2 then 100 else if min (if p = (-1) then 6 else p) (4 : Int) = 3 then 10 else 1) else ((nearF x + (if min (if p = (-1) then 6 else p) (4 : Int) ≤ 0 then 10000 else if min (if p = (-1) then 6 else p) (4 : Int) = 1 then 1000 else if min (if p = (-1) then 6 else p) (4 : Int) = 2 then 100 else
 if min (if p = (-1) then 6 else p) (4 : Int) = 3 then 10 else 1) / 2) / if min (if p = (-1) then 6 else p) (4 : Int) ≤ 0 then 10000 else if min (if p = (-1) then 6 else p) (4 : Int) = 1 then 1000 else if min (if p = (-1) then 6 else p) (4 : Int) = 2 then 100 else if min (if p = (-1) then 6 else p) (4 : Int) = 3 then 10 else 1) * if min (if p = (-1) then 6 else p) (4 : Int) ≤ 0 then 10000 else
 if min (if p = (-1) then 6 else p) (4 : Int) = 1 then 1000 else if min (if p = (-1) then 6 else p) (4 : Int) = 2 then 100 else if min (if p = (-1) then 6 else p) (4 : Int) = 3 then 10 else 1) ≠ 0)) = true then [(45 : UInt8)] else if c = true then [(43 : UInt8)] else if e = true then [(32 : UInt8)] else [], digitsL 10 70 ((if nearF x < 0 then -(((-nearF x +
 (if min (if p = (-1) then 6 else p) (4 : Int) ≤ 0 then 10000 else if min (if p = (-1) then 6 else p) (4 : Int) = 1 then 1000 else if min (if p = (-1) then 6 else p) (4 : Int) = 2 then 100 else if min (if p = (-1) then 6 else p) (4 : Int) = 3 then 10 else 1) / 2) / if min (if p = (-1) then 6 else p) (4 : Int) ≤ 0 then 10000 else if min (if p = (-1) then 6 else p) (4 : Int) = 1 then 1000 else
 if min (if p = (-1) then 6 else p) (4 : Int) = 2 then 100 else if min (if p = (-1) then 6 else p) (4 : Int) = 3 then 10 else 1) * if min (if p = (-1) then 6 else p) (4 : Int) ≤ 0 then 10000 else if min (if p = (-1) then 6 else p) (4 : Int) = 1 then 1000 else if min (if p = (-1) then 6 else p) (4 : Int) = 2 then 100 else if min (if p = (-1) then 6 else p) (4 : Int) = 3 then 10 else 1) else
 ((nearF x + (if min (if p = (-1) then 6 else p) (4 : Int) ≤ 0 then 10000 else if min (if p = (-1) then 6 else p) (4 : Int) = 1 then 1000 else if min (if p = (-1) then 6 else p) (4 : Int) = 2 then 100 else if min (if p = (-1) then 6 else p) (4 : Int) = 3 then 10 else 1) / 2) / if min (if p = (-1) then 6 else p) (4 : Int) ≤ 0 then 10000 else if min (if p = (-1) then 6 else p) (4 : Int) = 1 then 1000
 else if min (if p = (-1) then 6 else p) (4 : Int) = 2 then 100 else if min (if p = (-1) then 6 else p) (4 : Int) = 3 then 10 else 1) * if min (if p = (-1) then 6 else p) (4 : Int) ≤ 0 then 10000 else if min (if p = (-1) then 6 else p) (4 : Int) = 1 then 1000 else if min (if p = (-1) then 6 else p) (4 : Int) = 2 then 100 else if min (if p = (-1) then 6 else p) (4 : Int) = 3 then 10 else 1).natAbs /
 10000) [] ++ if 0 < if p = (-1) then 6 else p then [(46 : UInt8)] ++ List.take (if p = (-1) then 6 else p).toNat (List.replicate (4 - (↑(digitsL 10 70 ((if nearF x < 0 then -(((-nearF x + (if min (if p = (-1) then 6 else p) 4 ≤ 0 then 10000 else if min (if p = (-1) then 6 else p) 4 = 1 then 1000 else if min (if p = (-1) then 6 else p) 4 = 2 then 100 else if min (if p = (-1) then 6 else p) 4 =
 3 then 10 else 1) / 2) / if min (if p = (-1) then 6 else p) 4 ≤ 0 then 10000 else if min (if p = (-1) then 6 else p) 4 = 1 then 1000 else if min (if p = (-1) then 6 else p) 4 = 2 then 100 else if min (if p = (-1) then 6 else p) 4 = 3 then 10 else 1) * if min (if p = (-1) then 6 else p) 4 ≤ 0 then 10000 else if min (if p = (-1) then 6 else p) 4 = 1 then 1000 else if
 min (if p = (-1) then 6 else p) 4 = 2 then 100 else if min (if p = (-1) then 6 else p) 4 = 3 then 10 else 1) else ((nearF x + (if min (if p = (-1) then 6 else p) 4 ≤ 0 then 10000 else if min (if p = (-1) then 6 else p) 4 = 1 then 1000 else if min (if p = (-1) then 6 else p) 4 = 2 then 100 else if min (if p = (-1) then 6 else p) 4 = 3 then 10 else 1) / 2) / if min (if p = (-1) then 6 else p) 4 ≤
 0 then 10000 else if min (if p = (-1) then 6 else p) 4 = 1 then 1000 else if min (if p = (-1) then 6 else p) 4 = 2 then 100 else if min (if p = (-1) then 6 else p) 4 = 3 then 10 else 1) * if min (if p = (-1) then 6 else p) 4 ≤ 0 then 10000 else if min (if p = (-1) then 6 else p) 4 = 1 then 1000 else if min (if p = (-1) then 6 else p) 4 = 2 then 100 else if min (if p = (-1) then 6 else p) 4 = 3 then
 10 else 1).natAbs % 10000) []).length : Int)).toNat (48 : UInt8) ++ digitsL 10 70 ((if nearF x < 0 then -(((-nearF x + (if min (if p = (-1) then 6 else p) (4 : Int) ≤ 0 then 10000 else if min (if p = (-1) then 6 else p) 4 = 1 then 1000 else if min (if p = (-1) then 6 else p) 4 = 2 then 100 else if min (if p = (-1) then 6 else p) 4 = 3 then 10 else 1) / 2) /
 if min (if p = (-1) then 6 else p) (4 : Int) ≤ 0 then 10000 else if min (if p = (-1) then 6 else p) (4 : Int) = 1 then 1000 else if min (if p = (-1) then 6 else p) 4 = 2 then 100 else if min (if p = (-1) then 6 else p) 4 = 3 then 10 else 1) * if min (if p = (-1) then 6 else p) (4 : Int) ≤ 0 then 10000 else if min (if p = (-1) then 6 else p) (4 : Int) = 1 then 1000 else
 if min (if p = (-1) then 6 else p) (4 : Int) = 2 then 100 else if min (if p = (-1) then 6 else p) 4 = 3 then 10 else 1) else ((nearF x + (if min (if p = (-1) then 6 else p) (4 : Int) ≤ 0 then 10000 else if min (if p = (-1) then 6 else p) 4 = 1 then 1000 else if min (if p = (-1) then 6 else p) 4 = 2 then 100 else if min (if p = (-1) then 6 else p) 4 = 3 then 10 else 1) / 2) /
 if min (if p = (-1) then 6 else p) (4 : Int) ≤ 0 then 10000 else if min (if p = (-1) then 6 else p) (4 : Int) = 1 then 1000 else if min (if p = (-1) then 6 else p) (4 : Int) = 2 then 100 else if min (if p = (-1) then 6 else p) 4 = 3 then 10 else 1) * if min (if p = (-1) then 6 else p) (4 : Int) ≤ 0 then 10000 else if min (if p = (-1) then 6 else p) (4 : Int) = 1 then 1000 else
 if min (if p = (-1) then 6 else p) (4 : Int) = 2 then 100 else if min (if p = (-1) then 6 else p) (4 : Int) = 3 then 10 else 1).natAbs % 10000) [] ++ List.replicate ((if p = (-1) then 6 else p) - 4).toNat (48 : UInt8)) else []) → K (AV.tup [AV.sc (Value.string (ByteArray.mk (Array.mk x_1.fst))), AV.sc (Value.string (ByteArray.mk (Array.mk x_1.snd)))])) :
 (fun (a b c e : Bool) (w p k n : Int) (s : List UInt8) (K : AV → Prop) => wpCall M2 Door.cfg Tryz.prog 40 14 [.agg [aBool a, aBool b, aBool c, aBool e, aK .i64 w, aK .i64 p, aK .u8 102], .agg [aK .i64 k, aK .i64 n, aStr s]] heapF fun r h' => wpBack h' r K) a b c e w p k n s K :=
 Eq.mp (by kernel_rfl) h
theorem s24_100 (a : Bool) (b : Bool) (c : Bool) (e : Bool) (w : Int) (p : Int) (k : Int) (n : Int) (s : List UInt8) (K : AV → Prop) (h :
 s.length.le 1000000 ∧ ∀ (x : Int), x = numberF k n s → True ∧ ∀ (x_1 : Int), x_1 = (nearF x).tdiv 10000 → ((-1) ≤ p ∧ p ≤ 255 ∧ (-1000000000) ≤ x_1 ∧ x_1 ≤ 1000000000 ∧ true = true) ∧ ∀ (x : List UInt8 × List UInt8), x = (if OfNat.ofNat (100 : Nat) = 100 ∨ OfNat.ofNat (100 : Nat) = 105 then if decide (x_1 < 0) = true then [(45 : UInt8)]
 else if c = true then [(43 : UInt8)] else if e = true then [(32 : UInt8)] else [] else [], List.replicate (p - (↑(if x_1 = 0 ∧ p = 0 then [] else if OfNat.ofNat (100 : Nat) = 100 ∨ OfNat.ofNat (100 : Nat) = 105 then digitsL 10 70 x_1.natAbs [] else if OfNat.ofNat (100 : Nat) = 111 then digitsL 8 70 (if x_1 < 0 then x_1 + 4294967296 else x_1).toNat [] else if OfNat.ofNat (100 : Nat) = 120 then
 digitsL 16 70 (if x_1 < 0 then x_1 + 4294967296 else x_1).toNat [] else if OfNat.ofNat (100 : Nat) = 88 then List.map upC (digitsL 16 70 (if x_1 < 0 then x_1 + 4294967296 else x_1).toNat []) else digitsL 10 70 (if x_1 < 0 then x_1 + 4294967296 else x_1).toNat []).length : Int)).toNat (48 : UInt8) ++ if x_1 = 0 ∧ p = 0 then [] else
 if OfNat.ofNat (100 : Nat) = 100 ∨ OfNat.ofNat (100 : Nat) = 105 then digitsL 10 70 x_1.natAbs [] else if OfNat.ofNat (100 : Nat) = 111 then digitsL 8 70 (if x_1 < 0 then x_1 + 4294967296 else x_1).toNat [] else if OfNat.ofNat (100 : Nat) = 120 then digitsL 16 70 (if x_1 < 0 then x_1 + 4294967296 else x_1).toNat [] else if OfNat.ofNat (100 : Nat) = 88 then List.map upC (digitsL 16 70
 (if x_1 < 0 then x_1 + 4294967296 else x_1).toNat []) else digitsL 10 70 (if x_1 < 0 then x_1 + 4294967296 else x_1).toNat []) → K (AV.tup [AV.sc (Value.string (ByteArray.mk (Array.mk x.fst))), AV.sc (Value.string (ByteArray.mk (Array.mk x.snd)))])) :
 (fun (a b c e : Bool) (w p k n : Int) (s : List UInt8) (K : AV → Prop) => wpCall M2 Door.cfg Tryz.prog 40 14 [.agg [aBool a, aBool b, aBool c, aBool e, aK .i64 w, aK .i64 p, aK .u8 100], .agg [aK .i64 k, aK .i64 n, aStr s]] heapF fun r h' => wpBack h' r K) a b c e w p k n s K :=
 Eq.mp (by kernel_rfl) h
theorem s24_105 (a : Bool) (b : Bool) (c : Bool) (e : Bool) (w : Int) (p : Int) (k : Int) (n : Int) (s : List UInt8) (K : AV → Prop) (h :
 s.length.le 1000000 ∧ ∀ (x : Int), x = numberF k n s → True ∧ ∀ (x_1 : Int), x_1 = (nearF x).tdiv 10000 → ((-1) ≤ p ∧ p ≤ 255 ∧ (-1000000000) ≤ x_1 ∧ x_1 ≤ 1000000000 ∧ true = true) ∧ ∀ (x : List UInt8 × List UInt8), x = (if OfNat.ofNat (105 : Nat) = 100 ∨ OfNat.ofNat (105 : Nat) = 105 then if decide (x_1 < 0) = true then [(45 : UInt8)]
 else if c = true then [(43 : UInt8)] else if e = true then [(32 : UInt8)] else [] else [], List.replicate (p - (↑(if x_1 = 0 ∧ p = 0 then [] else if OfNat.ofNat (105 : Nat) = 100 ∨ OfNat.ofNat (105 : Nat) = 105 then digitsL 10 70 x_1.natAbs [] else if OfNat.ofNat (105 : Nat) = 111 then digitsL 8 70 (if x_1 < 0 then x_1 + 4294967296 else x_1).toNat [] else if OfNat.ofNat (105 : Nat) = 120 then
 digitsL 16 70 (if x_1 < 0 then x_1 + 4294967296 else x_1).toNat [] else if OfNat.ofNat (105 : Nat) = 88 then List.map upC (digitsL 16 70 (if x_1 < 0 then x_1 + 4294967296 else x_1).toNat []) else digitsL 10 70 (if x_1 < 0 then x_1 + 4294967296 else x_1).toNat []).length : Int)).toNat (48 : UInt8) ++ if x_1 = 0 ∧ p = 0 then [] else
 if OfNat.ofNat (105 : Nat) = 100 ∨ OfNat.ofNat (105 : Nat) = 105 then digitsL 10 70 x_1.natAbs [] else if OfNat.ofNat (105 : Nat) = 111 then digitsL 8 70 (if x_1 < 0 then x_1 + 4294967296 else x_1).toNat [] else if OfNat.ofNat (105 : Nat) = 120 then digitsL 16 70 (if x_1 < 0 then x_1 + 4294967296 else x_1).toNat [] else if OfNat.ofNat (105 : Nat) = 88 then List.map upC (digitsL 16 70
 (if x_1 < 0 then x_1 + 4294967296 else x_1).toNat []) else digitsL 10 70 (if x_1 < 0 then x_1 + 4294967296 else x_1).toNat []) → K (AV.tup [AV.sc (Value.string (ByteArray.mk (Array.mk x.fst))), AV.sc (Value.string (ByteArray.mk (Array.mk x.snd)))])) :
 (fun (a b c e : Bool) (w p k n : Int) (s : List UInt8) (K : AV → Prop) => wpCall M2 Door.cfg Tryz.prog 40 14 [.agg [aBool a, aBool b, aBool c, aBool e, aK .i64 w, aK .i64 p, aK .u8 105], .agg [aK .i64 k, aK .i64 n, aStr s]] heapF fun r h' => wpBack h' r K) a b c e w p k n s K :=
 Eq.mp (by kernel_rfl) h
theorem s24_111 (a : Bool) (b : Bool) (c : Bool) (e : Bool) (w : Int) (p : Int) (k : Int) (n : Int) (s : List UInt8) (K : AV → Prop) (h :
 s.length.le 1000000 ∧ ∀ (x : Int), x = numberF k n s → True ∧ ∀ (x_1 : Int), x_1 = (nearF x).tdiv 10000 → ((-1) ≤ p ∧ p ≤ 255 ∧ (-1000000000) ≤ x_1 ∧ x_1 ≤ 1000000000 ∧ true = true) ∧ ∀ (x : List UInt8 × List UInt8), x = (if OfNat.ofNat (111 : Nat) = 100 ∨ OfNat.ofNat (111 : Nat) = 105 then if decide (x_1 < 0) = true then [(45 : UInt8)]
 else if c = true then [(43 : UInt8)] else if e = true then [(32 : UInt8)] else [] else [], List.replicate (p - (↑(if x_1 = 0 ∧ p = 0 then [] else if OfNat.ofNat (111 : Nat) = 100 ∨ OfNat.ofNat (111 : Nat) = 105 then digitsL 10 70 x_1.natAbs [] else if OfNat.ofNat (111 : Nat) = 111 then digitsL 8 70 (if x_1 < 0 then x_1 + 4294967296 else x_1).toNat [] else if OfNat.ofNat (111 : Nat) = 120 then
 digitsL 16 70 (if x_1 < 0 then x_1 + 4294967296 else x_1).toNat [] else if OfNat.ofNat (111 : Nat) = 88 then List.map upC (digitsL 16 70 (if x_1 < 0 then x_1 + 4294967296 else x_1).toNat []) else digitsL 10 70 (if x_1 < 0 then x_1 + 4294967296 else x_1).toNat []).length : Int)).toNat (48 : UInt8) ++ if x_1 = 0 ∧ p = 0 then [] else
 if OfNat.ofNat (111 : Nat) = 100 ∨ OfNat.ofNat (111 : Nat) = 105 then digitsL 10 70 x_1.natAbs [] else if OfNat.ofNat (111 : Nat) = 111 then digitsL 8 70 (if x_1 < 0 then x_1 + 4294967296 else x_1).toNat [] else if OfNat.ofNat (111 : Nat) = 120 then digitsL 16 70 (if x_1 < 0 then x_1 + 4294967296 else x_1).toNat [] else if OfNat.ofNat (111 : Nat) = 88 then List.map upC (digitsL 16 70
 (if x_1 < 0 then x_1 + 4294967296 else x_1).toNat []) else digitsL 10 70 (if x_1 < 0 then x_1 + 4294967296 else x_1).toNat []) → K (AV.tup [AV.sc (Value.string (ByteArray.mk (Array.mk x.fst))), AV.sc (Value.string (ByteArray.mk (Array.mk x.snd)))])) :
 (fun (a b c e : Bool) (w p k n : Int) (s : List UInt8) (K : AV → Prop) => wpCall M2 Door.cfg Tryz.prog 40 14 [.agg [aBool a, aBool b, aBool c, aBool e, aK .i64 w, aK .i64 p, aK .u8 111], .agg [aK .i64 k, aK .i64 n, aStr s]] heapF fun r h' => wpBack h' r K) a b c e w p k n s K :=
 Eq.mp (by kernel_rfl) h
theorem s24_117 (a : Bool) (b : Bool) (c : Bool) (e : Bool) (w : Int) (p : Int) (k : Int) (n : Int) (s : List UInt8) (K : AV → Prop) (h :
 s.length.le 1000000 ∧ ∀ (x : Int), x = numberF k n s → True ∧ ∀ (x_1 : Int), x_1 = (nearF x).tdiv 10000 → ((-1) ≤ p ∧ p ≤ 255 ∧ (-1000000000) ≤ x_1 ∧ x_1 ≤ 1000000000 ∧ true = true) ∧ ∀ (x : List UInt8 × List UInt8), x = (if OfNat.ofNat (117 : Nat) = 100 ∨ OfNat.ofNat (117 : Nat) = 105 then if decide (x_1 < 0) = true then [(45 : UInt8)]
 else if c = true then [(43 : UInt8)] else if e = true then [(32 : UInt8)] else [] else [], List.replicate (p - (↑(if x_1 = 0 ∧ p = 0 then [] else if OfNat.ofNat (117 : Nat) = 100 ∨ OfNat.ofNat (117 : Nat) = 105 then digitsL 10 70 x_1.natAbs [] else if OfNat.ofNat (117 : Nat) = 111 then digitsL 8 70 (if x_1 < 0 then x_1 + 4294967296 else x_1).toNat [] else if OfNat.ofNat (117 : Nat) = 120 then
 digitsL 16 70 (if x_1 < 0 then x_1 + 4294967296 else x_1).toNat [] else if OfNat.ofNat (117 : Nat) = 88 then List.map upC (digitsL 16 70 (if x_1 < 0 then x_1 + 4294967296 else x_1).toNat []) else digitsL 10 70 (if x_1 < 0 then x_1 + 4294967296 else x_1).toNat []).length : Int)).toNat (48 : UInt8) ++ if x_1 = 0 ∧ p = 0 then [] else
 if OfNat.ofNat (117 : Nat) = 100 ∨ OfNat.ofNat (117 : Nat) = 105 then digitsL 10 70 x_1.natAbs [] else if OfNat.ofNat (117 : Nat) = 111 then digitsL 8 70 (if x_1 < 0 then x_1 + 4294967296 else x_1).toNat [] else if OfNat.ofNat (117 : Nat) = 120 then digitsL 16 70 (if x_1 < 0 then x_1 + 4294967296 else x_1).toNat [] else if OfNat.ofNat (117 : Nat) = 88 then List.map upC (digitsL 16 70
 (if x_1 < 0 then x_1 + 4294967296 else x_1).toNat []) else digitsL 10 70 (if x_1 < 0 then x_1 + 4294967296 else x_1).toNat []) → K (AV.tup [AV.sc (Value.string (ByteArray.mk (Array.mk x.fst))), AV.sc (Value.string (ByteArray.mk (Array.mk x.snd)))])) :
 (fun (a b c e : Bool) (w p k n : Int) (s : List UInt8) (K : AV → Prop) => wpCall M2 Door.cfg Tryz.prog 40 14 [.agg [aBool a, aBool b, aBool c, aBool e, aK .i64 w, aK .i64 p, aK .u8 117], .agg [aK .i64 k, aK .i64 n, aStr s]] heapF fun r h' => wpBack h' r K) a b c e w p k n s K :=
 Eq.mp (by kernel_rfl) h
theorem s24_120 (a : Bool) (b : Bool) (c : Bool) (e : Bool) (w : Int) (p : Int) (k : Int) (n : Int) (s : List UInt8) (K : AV → Prop) (h :
 s.length.le 1000000 ∧ ∀ (x : Int), x = numberF k n s → True ∧ ∀ (x_1 : Int), x_1 = (nearF x).tdiv 10000 → ((-1) ≤ p ∧ p ≤ 255 ∧ (-1000000000) ≤ x_1 ∧ x_1 ≤ 1000000000 ∧ true = true) ∧ ∀ (x : List UInt8 × List UInt8), x = (if OfNat.ofNat (120 : Nat) = 100 ∨ OfNat.ofNat (120 : Nat) = 105 then if decide (x_1 < 0) = true then [(45 : UInt8)]
 else if c = true then [(43 : UInt8)] else if e = true then [(32 : UInt8)] else [] else [], List.replicate (p - (↑(if x_1 = 0 ∧ p = 0 then [] else if OfNat.ofNat (120 : Nat) = 100 ∨ OfNat.ofNat (120 : Nat) = 105 then digitsL 10 70 x_1.natAbs [] else if OfNat.ofNat (120 : Nat) = 111 then digitsL 8 70 (if x_1 < 0 then x_1 + 4294967296 else x_1).toNat [] else if OfNat.ofNat (120 : Nat) = 120 then
 digitsL 16 70 (if x_1 < 0 then x_1 + 4294967296 else x_1).toNat [] else if OfNat.ofNat (120 : Nat) = 88 then List.map upC (digitsL 16 70 (if x_1 < 0 then x_1 + 4294967296 else x_1).toNat []) else digitsL 10 70 (if x_1 < 0 then x_1 + 4294967296 else x_1).toNat []).length : Int)).toNat (48 : UInt8) ++ if x_1 = 0 ∧ p = 0 then [] else
 if OfNat.ofNat (120 : Nat) = 100 ∨ OfNat.ofNat (120 : Nat) = 105 then digitsL 10 70 x_1.natAbs [] else if OfNat.ofNat (120 : Nat) = 111 then digitsL 8 70 (if x_1 < 0 then x_1 + 4294967296 else x_1).toNat [] else if OfNat.ofNat (120 : Nat) = 120 then digitsL 16 70 (if x_1 < 0 then x_1 + 4294967296 else x_1).toNat [] else if OfNat.ofNat (120 : Nat) = 88 then List.map upC (digitsL 16 70
 (if x_1 < 0 then x_1 + 4294967296 else x_1).toNat []) else digitsL 10 70 (if x_1 < 0 then x_1 + 4294967296 else x_1).toNat []) → K (AV.tup [AV.sc (Value.string (ByteArray.mk (Array.mk x.fst))), AV.sc (Value.string (ByteArray.mk (Array.mk x.snd)))])) :
 (fun (a b c e : Bool) (w p k n : Int) (s : List UInt8) (K : AV → Prop) => wpCall M2 Door.cfg Tryz.prog 40 14 [.agg [aBool a, aBool b, aBool c, aBool e, aK .i64 w, aK .i64 p, aK .u8 120], .agg [aK .i64 k, aK .i64 n, aStr s]] heapF fun r h' => wpBack h' r K) a b c e w p k n s K :=
 Eq.mp (by kernel_rfl) h
theorem s24_88 (a : Bool) (b : Bool) (c : Bool) (e : Bool) (w : Int) (p : Int) (k : Int) (n : Int) (s : List UInt8) (K : AV → Prop) (h :
 s.length.le 1000000 ∧ ∀ (x : Int), x = numberF k n s → True ∧ ∀ (x_1 : Int), x_1 = (nearF x).tdiv 10000 → ((-1) ≤ p ∧ p ≤ 255 ∧ (-1000000000) ≤ x_1 ∧ x_1 ≤ 1000000000 ∧ true = true) ∧ ∀ (x : List UInt8 × List UInt8), x = (if OfNat.ofNat (88 : Nat) = 100 ∨ OfNat.ofNat (88 : Nat) = 105 then if decide (x_1 < 0) = true then [(45 : UInt8)]
 else if c = true then [(43 : UInt8)] else if e = true then [(32 : UInt8)] else [] else [], List.replicate (p - (↑(if x_1 = 0 ∧ p = 0 then [] else if OfNat.ofNat (88 : Nat) = 100 ∨ OfNat.ofNat (88 : Nat) = 105 then digitsL 10 70 x_1.natAbs [] else if OfNat.ofNat (88 : Nat) = 111 then digitsL 8 70 (if x_1 < 0 then x_1 + 4294967296 else x_1).toNat [] else if OfNat.ofNat (88 : Nat) = 120 then
 digitsL 16 70 (if x_1 < 0 then x_1 + 4294967296 else x_1).toNat [] else if OfNat.ofNat (88 : Nat) = 88 then List.map upC (digitsL 16 70 (if x_1 < 0 then x_1 + 4294967296 else x_1).toNat []) else digitsL 10 70 (if x_1 < 0 then x_1 + 4294967296 else x_1).toNat []).length : Int)).toNat (48 : UInt8) ++ if x_1 = 0 ∧ p = 0 then [] else if OfNat.ofNat (88 : Nat) = 100 ∨ OfNat.ofNat (88 : Nat) = 105 then
 digitsL 10 70 x_1.natAbs [] else if OfNat.ofNat (88 : Nat) = 111 then digitsL 8 70 (if x_1 < 0 then x_1 + 4294967296 else x_1).toNat [] else if OfNat.ofNat (88 : Nat) = 120 then digitsL 16 70 (if x_1 < 0 then x_1 + 4294967296 else x_1).toNat [] else if OfNat.ofNat (88 : Nat) = 88 then List.map upC (digitsL 16 70 (if x_1 < 0 then x_1 + 4294967296 else x_1).toNat []) else digitsL 10 70
 (if x_1 < 0 then x_1 + 4294967296 else x_1).toNat []) → K (AV.tup [AV.sc (Value.string (ByteArray.mk (Array.mk x.fst))), AV.sc (Value.string (ByteArray.mk (Array.mk x.snd)))])) :
 (fun (a b c e : Bool) (w p k n : Int) (s : List UInt8) (K : AV → Prop) => wpCall M2 Door.cfg Tryz.prog 40 14 [.agg [aBool a, aBool b, aBool c, aBool e, aK .i64 w, aK .i64 p, aK .u8 88], .agg [aK .i64 k, aK .i64 n, aStr s]] heapF fun r h' => wpBack h' r K) a b c e w p k n s K :=
 Eq.mp (by kernel_rfl) h
end
end Go.Proofs.Pr
namespace Go.Proofs.Pr
open Go Go.Ef
noncomputable section
set_option maxRecDepth 100000
theorem never_ok {T : Tab} (O : TabOk Tryz.prog Door.cfg T) (g : FuncId) : TabOk Tryz.prog Door.cfg (T.addC g C36n) := by
 refine addC_ok O fun args h s hs hp => ?_
 unfold C36n at hs
 cases hs
 exact hp.elim
theorem okM1 : TabOk Tryz.prog Door.cfg M1 := never_ok okQ1 _
theorem okM3 : TabOk Tryz.prog Door.cfg M3 := ok53g tab0_ok
theorem near_near (d : Int) : nearF (nearF d) = nearF d := by unfold nearF; omega
theorem ok39 {T : Tab} (O : TabOk Tryz.prog Door.cfg T) : TabOk Tryz.prog Door.cfg (T.addC 30 C39) := by
 refine addC_ok O fun args h s hs hp => ?_
 unfold C39 at hs
 split at hs
 ·rename_i k n s0
  obtain ⟨⟨u⟩⟩ := s0
  refine nspec_ok (Option.some.inj hs) (fun _ => ?_) hp
  refine EvP.freshV okM3 (n := 40) (by kernel_rfl) (by kernel_rfl) (args' := [.agg [aK .i64 k, aK .i64 n, aStr u]]) rfl (s39 k n u _ ?_)
  have ht : textF k n u = if k = 1 then decF (nearF n) else if k = 2 ∨ k = 3 then u else [] := rfl
  by_cases h1 : k = 1
  ·rw [show (k == 1) = true by simpa using h1, iteP_t]
   refine ⟨trivial, fun x hx => ?_⟩
   rw [show min (max n (-10000000000000 : Int)) 10000000000000 = nearF n by unfold nearF; omega, near_near] at hx
   show _ = aStr (textF k n u); rw [ht, if_pos h1, hx]; rfl
  ·rw [show (k == 1) = false by simpa using h1, iteP_f]
   by_cases h2 : k = 2
   ·rw [show (k == 2) = true by simpa using h2, iteP_t]
    show _ = aStr (textF k n u); rw [ht, if_neg h1, if_pos (.inl h2)]; rfl
   ·rw [show (k == 2) = false by simpa using h2, iteP_f]
    by_cases h3 : k = 3
    ·rw [show (k == 3) = true by simpa using h3, iteP_t]
     show _ = aStr (textF k n u); rw [ht, if_neg h1, if_pos (.inr h3)]; rfl
    ·rw [show (k == 3) = false by simpa using h3, iteP_f]
     show _ = aStr (textF k n u); rw [ht, if_neg h1, if_neg (by omega)]; rfl
 ·cases hs
theorem okM2 : TabOk Tryz.prog Door.cfg M2 := ok41 (ok40 (ok39 okM1))
theorem body_99 (a b c e : Bool) (w p k n : Int) (s : List UInt8) (hs : s.length ≤ 1000000) : wpCall M2 Door.cfg Tryz.prog 40 14 [.agg [aBool a, aBool b, aBool c, aBool e, aK .i64 w, aK .i64 p, aK .u8 99], .agg [aK .i64 k, aK .i64 n, aStr s]] heapF fun r h' => wpBack h' r fun v => v = tupS (bodyF ⟨a, b, c, e, w, p, 99⟩ k n s).1 (bodyF ⟨a, b, c, e, w, p, 99⟩ k n s).2 := by
 refine s24_99 a b c e w p k n s _ ⟨hs, fun x hx => ?_⟩
 have hb : bodyF ⟨a, b, c, e, w, p, 99⟩ k n s = if k = 1 then ([], [UInt8.ofNat (((nearF (numberF k n s)).tdiv 10000 % 256).toNat)]) else ([], (textF k n s).take 1) := rfl
 by_cases h1 : k = 1
 ·rw [show (k == 1) = true by simpa using h1, iteP_t]
  refine ⟨trivial, fun x1 hx1 => ?_⟩
  rw [hb, if_pos h1]
  have hn := near_le x
  have ht := tdiv_le hn.1 hn.2
  rw [← hx1] at ht
  have e1 : x1.tmod 256 = x1 % 256 ∨ x1.tmod 256 = x1 % 256 - 256 := by
   rcases Int.le_total 0 x1 with h | h
   ·exact .inl (tm h)
   ·have q : x1.tmod 256 = -((-x1) % 256) := by
     rw [show x1 = -(-x1) by omega, Int.neg_tmod, tm (by omega), Int.neg_neg]
    rw [q]
    omega
  have e2 : (IntKind.i64.wrap (x1.tmod 256 + 256)).tmod 256 = x1 % 256 := by
   have : x1.tmod 256 + 256 = x1 % 256 + 256 ∨ x1.tmod 256 + 256 = x1 % 256 := by omega
   rcases this with h | h <;> rw [h, wrap_in (by omega) (by omega), tm (by omega)] <;> omega
  rw [e2, wrap8_in (by omega) (by omega)]
  show AV.tup [AV.sc (.string ⟨⟨[]⟩⟩), AV.sc (.string ⟨⟨[(some (UInt8.ofNat (x1 % 256).toNat)).getD 0]⟩⟩)] = _
  rw [hx1, hx]
  rfl
 ·rw [show (k == 1) = false by simpa using h1, iteP_f]
  refine ⟨trivial, fun x1 hx1 => ?_⟩
  rw [hb, if_neg h1, show (decide ((0 : Int) ≤ min 1 (x1.length : Int)) && decide (min 1 (x1.length : Int) ≤ (x1.length : Int))) = true by simp; omega, iteP_t]
  have : x1.take (min (1 : Int) (x1.length : Int)).toNat = x1.take 1 := by
   cases x1 with
   | nil => rfl
   | cons y r => rw [show (min (1 : Int) ((y :: r).length : Int)).toNat = 1 by simp only [List.length_cons]; omega]
  rw [this, hx1]
theorem body_115 (a b c e : Bool) (w p k n : Int) (s : List UInt8) (hs : s.length ≤ 1000000) (hp1 : -1 ≤ p) : wpCall M2 Door.cfg Tryz.prog 40 14 [.agg [aBool a, aBool b, aBool c, aBool e, aK .i64 w, aK .i64 p, aK .u8 115], .agg [aK .i64 k, aK .i64 n, aStr s]] heapF fun r h' => wpBack h' r fun v => v = tupS (bodyF ⟨a, b, c, e, w, p, 115⟩ k n s).1 (bodyF ⟨a, b, c, e, w, p, 115⟩ k n s).2 := by
 refine s24_115 a b c e w p k n s _ ⟨hs, fun x _ => ⟨trivial, fun x hx => ?_⟩⟩
 have hb : bodyF ⟨a, b, c, e, w, p, 115⟩ k n s = ([], if p = -1 then textF k n s else (textF k n s).take p.toNat) := rfl
 rw [hb]
 subst hx
 by_cases hp2 : p = -1
 ·rw [show (p != -1) = false by simpa using hp2, iteP_f, if_pos hp2]
 ·rw [show (p != -1) = true by simpa using hp2, iteP_t, if_neg hp2, show (decide ((0 : Int) ≤ min p ((textF k n s).length : Int)) && decide (min p ((textF k n s).length : Int) ≤ ((textF k n s).length : Int))) = true by simp; omega, iteP_t]
  have : (textF k n s).take (min p ((textF k n s).length : Int)).toNat = (textF k n s).take p.toNat := by
   rcases Int.le_total p ((textF k n s).length : Int) with h | h
   ·rw [Int.min_eq_left h]
   ·rw [Int.min_eq_right h, Int.toNat_natCast, List.take_of_length_le (Nat.le_refl _), List.take_of_length_le (by omega)]
  rw [this]
theorem body_102 (a b c e : Bool) (w p k n : Int) (s : List UInt8) (hs : s.length ≤ 1000000) (hp1 : -1 ≤ p) (hp2 : p ≤ 255) : wpCall M2 Door.cfg Tryz.prog 40 14 [.agg [aBool a, aBool b, aBool c, aBool e, aK .i64 w, aK .i64 p, aK .u8 102], .agg [aK .i64 k, aK .i64 n, aStr s]] heapF fun r h' => wpBack h' r fun v => v = tupS (bodyF ⟨a, b, c, e, w, p, 102⟩ k n s).1 (bodyF ⟨a, b, c, e, w, p, 102⟩ k n s).2 := by
 refine s24_102 a b c e w p k n s _ ⟨hs, fun x hx => ⟨⟨hp1, hp2⟩, fun y hy => ?_⟩⟩
 have hb : bodyF ⟨a, b, c, e, w, p, 102⟩ k n s = decimalsF ⟨a, b, c, e, w, p, 102⟩ (numberF k n s) := rfl
 replace hy : y = decimalsF ⟨a, b, c, e, w, p, 102⟩ x := hy
 rw [hb, ← hx, ← hy]
theorem body_100 (a b c e : Bool) (w p k n : Int) (s : List UInt8) (hs : s.length ≤ 1000000) (hp1 : -1 ≤ p) (hp2 : p ≤ 255) : wpCall M2 Door.cfg Tryz.prog 40 14 [.agg [aBool a, aBool b, aBool c, aBool e, aK .i64 w, aK .i64 p, aK .u8 100], .agg [aK .i64 k, aK .i64 n, aStr s]] heapF fun r h' => wpBack h' r fun v => v = tupS (bodyF ⟨a, b, c, e, w, p, 100⟩ k n s).1 (bodyF ⟨a, b, c, e, w, p, 100⟩ k n s).2 := by
 refine s24_100 a b c e w p k n s _ ⟨hs, fun x hx => ⟨trivial, fun x1 hx1 => ?_⟩⟩
 have hn := near_le x
 have ht := tdiv_le hn.1 hn.2
 rw [← hx1] at ht
 refine ⟨⟨hp1, hp2, ht.1, ht.2, rfl⟩, fun y hy => ?_⟩
 have hb : bodyF ⟨a, b, c, e, w, p, 100⟩ k n s = integerF ⟨a, b, c, e, w, p, 100⟩ ((nearF (numberF k n s)).tdiv 10000) := rfl
 replace hy : y = integerF ⟨a, b, c, e, w, p, 100⟩ x1 := hy
 rw [hb, ← hx, ← hx1, ← hy]
theorem body_105 (a b c e : Bool) (w p k n : Int) (s : List UInt8) (hs : s.length ≤ 1000000) (hp1 : -1 ≤ p) (hp2 : p ≤ 255) : wpCall M2 Door.cfg Tryz.prog 40 14 [.agg [aBool a, aBool b, aBool c, aBool e, aK .i64 w, aK .i64 p, aK .u8 105], .agg [aK .i64 k, aK .i64 n, aStr s]] heapF fun r h' => wpBack h' r fun v => v = tupS (bodyF ⟨a, b, c, e, w, p, 105⟩ k n s).1 (bodyF ⟨a, b, c, e, w, p, 105⟩ k n s).2 := by
 refine s24_105 a b c e w p k n s _ ⟨hs, fun x hx => ⟨trivial, fun x1 hx1 => ?_⟩⟩
 have hn := near_le x
 have ht := tdiv_le hn.1 hn.2
 rw [← hx1] at ht
 refine ⟨⟨hp1, hp2, ht.1, ht.2, rfl⟩, fun y hy => ?_⟩
 have hb : bodyF ⟨a, b, c, e, w, p, 105⟩ k n s = integerF ⟨a, b, c, e, w, p, 105⟩ ((nearF (numberF k n s)).tdiv 10000) := rfl
 replace hy : y = integerF ⟨a, b, c, e, w, p, 105⟩ x1 := hy
 rw [hb, ← hx, ← hx1, ← hy]
theorem body_111 (a b c e : Bool) (w p k n : Int) (s : List UInt8) (hs : s.length ≤ 1000000) (hp1 : -1 ≤ p) (hp2 : p ≤ 255) : wpCall M2 Door.cfg Tryz.prog 40 14 [.agg [aBool a, aBool b, aBool c, aBool e, aK .i64 w, aK .i64 p, aK .u8 111], .agg [aK .i64 k, aK .i64 n, aStr s]] heapF fun r h' => wpBack h' r fun v => v = tupS (bodyF ⟨a, b, c, e, w, p, 111⟩ k n s).1 (bodyF ⟨a, b, c, e, w, p, 111⟩ k n s).2 := by
 refine s24_111 a b c e w p k n s _ ⟨hs, fun x hx => ⟨trivial, fun x1 hx1 => ?_⟩⟩
 have hn := near_le x
 have ht := tdiv_le hn.1 hn.2
 rw [← hx1] at ht
 refine ⟨⟨hp1, hp2, ht.1, ht.2, rfl⟩, fun y hy => ?_⟩
 have hb : bodyF ⟨a, b, c, e, w, p, 111⟩ k n s = integerF ⟨a, b, c, e, w, p, 111⟩ ((nearF (numberF k n s)).tdiv 10000) := rfl
 replace hy : y = integerF ⟨a, b, c, e, w, p, 111⟩ x1 := hy
 rw [hb, ← hx, ← hx1, ← hy]
theorem body_117 (a b c e : Bool) (w p k n : Int) (s : List UInt8) (hs : s.length ≤ 1000000) (hp1 : -1 ≤ p) (hp2 : p ≤ 255) : wpCall M2 Door.cfg Tryz.prog 40 14 [.agg [aBool a, aBool b, aBool c, aBool e, aK .i64 w, aK .i64 p, aK .u8 117], .agg [aK .i64 k, aK .i64 n, aStr s]] heapF fun r h' => wpBack h' r fun v => v = tupS (bodyF ⟨a, b, c, e, w, p, 117⟩ k n s).1 (bodyF ⟨a, b, c, e, w, p, 117⟩ k n s).2 := by
 refine s24_117 a b c e w p k n s _ ⟨hs, fun x hx => ⟨trivial, fun x1 hx1 => ?_⟩⟩
 have hn := near_le x
 have ht := tdiv_le hn.1 hn.2
 rw [← hx1] at ht
 refine ⟨⟨hp1, hp2, ht.1, ht.2, rfl⟩, fun y hy => ?_⟩
 have hb : bodyF ⟨a, b, c, e, w, p, 117⟩ k n s = integerF ⟨a, b, c, e, w, p, 117⟩ ((nearF (numberF k n s)).tdiv 10000) := rfl
 replace hy : y = integerF ⟨a, b, c, e, w, p, 117⟩ x1 := hy
 rw [hb, ← hx, ← hx1, ← hy]
theorem body_120 (a b c e : Bool) (w p k n : Int) (s : List UInt8) (hs : s.length ≤ 1000000) (hp1 : -1 ≤ p) (hp2 : p ≤ 255) : wpCall M2 Door.cfg Tryz.prog 40 14 [.agg [aBool a, aBool b, aBool c, aBool e, aK .i64 w, aK .i64 p, aK .u8 120], .agg [aK .i64 k, aK .i64 n, aStr s]] heapF fun r h' => wpBack h' r fun v => v = tupS (bodyF ⟨a, b, c, e, w, p, 120⟩ k n s).1 (bodyF ⟨a, b, c, e, w, p, 120⟩ k n s).2 := by
 refine s24_120 a b c e w p k n s _ ⟨hs, fun x hx => ⟨trivial, fun x1 hx1 => ?_⟩⟩
 have hn := near_le x
 have ht := tdiv_le hn.1 hn.2
 rw [← hx1] at ht
 refine ⟨⟨hp1, hp2, ht.1, ht.2, rfl⟩, fun y hy => ?_⟩
 have hb : bodyF ⟨a, b, c, e, w, p, 120⟩ k n s = integerF ⟨a, b, c, e, w, p, 120⟩ ((nearF (numberF k n s)).tdiv 10000) := rfl
 replace hy : y = integerF ⟨a, b, c, e, w, p, 120⟩ x1 := hy
 rw [hb, ← hx, ← hx1, ← hy]
theorem body_88 (a b c e : Bool) (w p k n : Int) (s : List UInt8) (hs : s.length ≤ 1000000) (hp1 : -1 ≤ p) (hp2 : p ≤ 255) : wpCall M2 Door.cfg Tryz.prog 40 14 [.agg [aBool a, aBool b, aBool c, aBool e, aK .i64 w, aK .i64 p, aK .u8 88], .agg [aK .i64 k, aK .i64 n, aStr s]] heapF fun r h' => wpBack h' r fun v => v = tupS (bodyF ⟨a, b, c, e, w, p, 88⟩ k n s).1 (bodyF ⟨a, b, c, e, w, p, 88⟩ k n s).2 := by
 refine s24_88 a b c e w p k n s _ ⟨hs, fun x hx => ⟨trivial, fun x1 hx1 => ?_⟩⟩
 have hn := near_le x
 have ht := tdiv_le hn.1 hn.2
 rw [← hx1] at ht
 refine ⟨⟨hp1, hp2, ht.1, ht.2, rfl⟩, fun y hy => ?_⟩
 have hb : bodyF ⟨a, b, c, e, w, p, 88⟩ k n s = integerF ⟨a, b, c, e, w, p, 88⟩ ((nearF (numberF k n s)).tdiv 10000) := rfl
 replace hy : y = integerF ⟨a, b, c, e, w, p, 88⟩ x1 := hy
 rw [hb, ← hx, ← hx1, ← hy]
theorem ok24 {T : Tab} (O : TabOk Tryz.prog Door.cfg T) : TabOk Tryz.prog Door.cfg (T.addC 14 C24) := by
 refine addC_ok O fun args h s hs hp => ?_
 unfold C24 at hs
 split at hs
 ·rename_i a b c e w p kd k n s0
  obtain ⟨⟨u⟩⟩ := s0
  refine nspec_ok (Option.some.inj hs) (fun hpre => ?_) hp
  obtain ⟨h1, h2⟩ := hpre
  replace h2 : u.length ≤ 1000000 := h2
  unfold bodyOk at h1
  simp only [Bool.and_eq_true, Bool.or_eq_true, beq_iff_eq, decide_eq_true_eq] at h1
  obtain ⟨⟨p1, p2⟩, hk⟩ := h1
  replace p1 : -1 ≤ p := p1
  replace p2 : p ≤ 255 := p2
  rcases hk with (((((((rfl | rfl) | rfl) | rfl) | rfl) | rfl) | rfl) | rfl) | rfl
  ·exact EvP.freshV okM2 (n := 40) (by kernel_rfl) (by kernel_rfl) (args' := [.agg [aBool a, aBool b, aBool c, aBool e, aK .i64 w, aK .i64 p, aK .u8 99], .agg [aK .i64 k, aK .i64 n, aStr u]]) rfl (body_99 a b c e w p k n u h2)
  ·exact EvP.freshV okM2 (n := 40) (by kernel_rfl) (by kernel_rfl) (args' := [.agg [aBool a, aBool b, aBool c, aBool e, aK .i64 w, aK .i64 p, aK .u8 115], .agg [aK .i64 k, aK .i64 n, aStr u]]) rfl (body_115 a b c e w p k n u h2 p1)
  ·exact EvP.freshV okM2 (n := 40) (by kernel_rfl) (by kernel_rfl) (args' := [.agg [aBool a, aBool b, aBool c, aBool e, aK .i64 w, aK .i64 p, aK .u8 102], .agg [aK .i64 k, aK .i64 n, aStr u]]) rfl (body_102 a b c e w p k n u h2 p1 p2)
  ·exact EvP.freshV okM2 (n := 40) (by kernel_rfl) (by kernel_rfl) (args' := [.agg [aBool a, aBool b, aBool c, aBool e, aK .i64 w, aK .i64 p, aK .u8 100], .agg [aK .i64 k, aK .i64 n, aStr u]]) rfl (body_100 a b c e w p k n u h2 p1 p2)
  ·exact EvP.freshV okM2 (n := 40) (by kernel_rfl) (by kernel_rfl) (args' := [.agg [aBool a, aBool b, aBool c, aBool e, aK .i64 w, aK .i64 p, aK .u8 105], .agg [aK .i64 k, aK .i64 n, aStr u]]) rfl (body_105 a b c e w p k n u h2 p1 p2)
  ·exact EvP.freshV okM2 (n := 40) (by kernel_rfl) (by kernel_rfl) (args' := [.agg [aBool a, aBool b, aBool c, aBool e, aK .i64 w, aK .i64 p, aK .u8 111], .agg [aK .i64 k, aK .i64 n, aStr u]]) rfl (body_111 a b c e w p k n u h2 p1 p2)
  ·exact EvP.freshV okM2 (n := 40) (by kernel_rfl) (by kernel_rfl) (args' := [.agg [aBool a, aBool b, aBool c, aBool e, aK .i64 w, aK .i64 p, aK .u8 117], .agg [aK .i64 k, aK .i64 n, aStr u]]) rfl (body_117 a b c e w p k n u h2 p1 p2)
  ·exact EvP.freshV okM2 (n := 40) (by kernel_rfl) (by kernel_rfl) (args' := [.agg [aBool a, aBool b, aBool c, aBool e, aK .i64 w, aK .i64 p, aK .u8 120], .agg [aK .i64 k, aK .i64 n, aStr u]]) rfl (body_120 a b c e w p k n u h2 p1 p2)
  ·exact EvP.freshV okM2 (n := 40) (by kernel_rfl) (by kernel_rfl) (args' := [.agg [aBool a, aBool b, aBool c, aBool e, aK .i64 w, aK .i64 p, aK .u8 88], .agg [aK .i64 k, aK .i64 n, aStr u]]) rfl (body_88 a b c e w p k n u h2 p1 p2)
 ·cases hs
theorem okY2s : TabOk Tryz.prog Door.cfg Y2 := okY2 ok24
end
end Go.Proofs.Pr
namespace Go.Proofs.Pr
open Go Go.Ef
noncomputable section
def Small (l : Cells) : Prop := ∀ e ∈ l, goodArg e ∧ shortArg e = true
theorem Small.drop {l : Cells} (h : Small l) (k : Nat) : Small (l.drop k) := fun e he => h e (List.mem_of_mem_drop he)
theorem Small.take {l : Cells} (h : Small l) (k : Nat) : Small (l.take k) := fun e he => h e (List.mem_of_mem_take he)
theorem Small.goods {l : Cells} (h : Small l) : goodsB l = true := by
 refine List.all_eq_true.2 fun e he => ?_
 obtain ⟨⟨k, n, s, rfl⟩, h2⟩ := h e he
 have : s.length ≤ 60 := of_decide_eq_true h2
 show decide (s.length ≤ 1000000) = true
 simp; omega
theorem Small.head {l : Cells} (h : Small l) : (headS l).length ≤ 60 := by
 cases l with
 | nil => show ([] : List UInt8).length ≤ 60; decide
 | cons e r =>
  obtain ⟨⟨k, n, s, rfl⟩, h2⟩ := h e (.head _)
  have : s.length ≤ 60 := of_decide_eq_true h2
  exact this
theorem strip_len (t : List UInt8) : (stripZ t).length ≤ t.length := by
 unfold stripZ
 rw [List.length_reverse]
 have := (List.dropWhile_sublist (l := t.reverse) (· == 48)).length_le
 rw [List.length_reverse] at this
 exact this
theorem dec_len (d : Int) : (decF d).length ≤ 142 := by
 have h1 := fmt_len 10 (d.natAbs / 10000)
 have h2 := fmt_len 10 (10000 + d.natAbs % 10000)
 have h3 := strip_len ((fmtN 10 (10000 + d.natAbs % 10000)).drop 1)
 rw [List.length_drop] at h3
 unfold decF
 rw [List.length_append, List.length_append]
 have a : (if d < 0 then [(45 : UInt8)] else []).length ≤ 1 := by split <;> simp
 have b : (if d.natAbs % 10000 = 0 then [] else [(46 : UInt8)] ++ stripZ ((fmtN 10 (10000 + d.natAbs % 10000)).drop 1)).length ≤ 71 := by
  split
  ·simp
  ·rw [List.length_append, List.length_singleton]; omega
 omega
theorem text_len {k n : Int} {s : List UInt8} (h : s.length ≤ 60) : (textF k n s).length ≤ 142 := by
 unfold textF
 split
 ·exact dec_len _
 ·split
  ·omega
  ·simp
theorem sign_len (d : Dir) (b : Bool) : (signF d b).length ≤ 1 := by
 unfold signF
 split
 ·simp
 ·split
  ·simp
  ·split <;> simp
theorem body_len {d : Dir} (hp : d.prec ≤ 255) (k n : Int) {s : List UInt8} (hs : s.length ≤ 60) : (bodyF d k n s).1.length + (bodyF d k n s).2.length ≤ 400 := by
 have ht := text_len (k := k) (n := n) hs
 unfold bodyF
 split
 ·split
  ·simp
  ·simp; omega
 ·split
  ·show ([] : List UInt8).length + (if d.prec = -1 then textF k n s else (textF k n s).take d.prec.toNat).length ≤ 400
   split
   ·simp; omega
   ·simp; omega
  ·split
   ·generalize numberF k n s = x
    have h1 := sign_len d (decide (x < 0) && decide (roundF x (min (placesF d) 4) ≠ 0))
    have h2 := fmt_len 10 ((roundF x (min (placesF d) 4)).natAbs / 10000)
    rw [decimals_eq d x _ rfl]
    show (signF _ _).length + (_ ++ _ : List UInt8).length ≤ 400
    rw [List.length_append]
    have hpl : placesF d ≤ 255 := by unfold placesF; split <;> omega
    split
    ·rw [List.length_append, List.length_take, List.length_singleton]
     omega
    ·rw [List.length_nil]; omega
   ·generalize (nearF (numberF k n s)).tdiv 10000 = x
    have hd : (intDigits d x).length ≤ 70 := by
     unfold intDigits
     split
     ·simp
     ·split
      ·exact fmt_len _ _
      ·dsimp only
       split
       ·exact fmt_len _ _
       ·split
        ·exact fmt_len _ _
        ·split
         ·rw [List.length_map]; exact fmt_len _ _
         ·exact fmt_len _ _
    unfold integerF
    show (if d.kind = 100 ∨ d.kind = 105 then signF d (decide (x < 0)) else []).length + (_ ++ _ : List UInt8).length ≤ 400
    rw [List.length_append, zeros_len]
    have h1 := sign_len d (decide (x < 0))
    split
    ·omega
    ·simp; omega
theorem end_kind {d : Dir} {w p : Int} {t : List UInt8} (h : (endF d w p t).2.2 = 0) : ∃ c ∈ kinds, (endF d w p t).1.kind = (c.toNat : Int) := by
 cases t with
 | nil => cases h
 | cons c r =>
  have he : endF d w p (c :: r) = if kinds.contains c then (if w > 255 ∨ p > 255 then (Dir.none, [], 2) else ({ d with width := w, prec := p, kind := c.toNat }, r, 0)) else (Dir.none, [], 1) := rfl
  rw [he] at h ⊢
  by_cases hc : kinds.contains c = true
  ·rw [if_pos hc] at h ⊢
   by_cases hw : w > 255 ∨ p > 255
   ·rw [if_pos hw] at h; cases h
   ·rw [if_neg hw]
    exact ⟨c, by simpa using hc, rfl⟩
  ·rw [if_neg hc] at h; cases h
theorem kind_body {d : Dir} {c : UInt8} (hc : c ∈ kinds) (h : d.kind = (c.toNat : Int)) (h1 : -1 ≤ d.prec) (h2 : d.prec ≤ 255) (h3 : d.kind ≠ 37) (k : Int) : bodyOk d k = true := by
 unfold bodyOk
 rw [decide_eq_true h1, decide_eq_true h2]
 have key : ∀ c ∈ kinds, ((c.toNat : Int) = 37 ∨ ((((c.toNat : Int) == 99 || (c.toNat : Int) == 115 || (c.toNat : Int) == 102 || (c.toNat : Int) == 100 || (c.toNat : Int) == 105 || (c.toNat : Int) == 111 || (c.toNat : Int) == 117 || (c.toNat : Int) == 120 || (c.toNat : Int) == 88)) = true)) := by decide
 have := (key c hc).resolve_left (by rw [← h]; exact h3)
 rw [← h] at this
 simpa using this
theorem pad_small (d : Dir) (u v : List UInt8) (h1 : d.width ≤ 255) (h2 : u.length + v.length ≤ 400) : (padF d u v).length ≤ 400 := by
 unfold padF
 split
 ·simp; omega
 ·split <;> simp <;> omega
theorem run_small : ∀ (n : Nat) (s : List UInt8), s.length < n → okS s → ∀ (l : Cells), Small l → runOk n s l ∧ ∀ o, (runF n s l o).2.2.length ≤ o.length + s.length * 200 := by
 intro n
 induction n with
 | zero => intro s h; omega
 | succ n ih =>
  intro s h hs l hl
  have bl := before_len s
  have hro : runOk (n + 1) s l = (hasPct s = true → (readF (after s)).2.2 = 0 ∧ ((resAt s l).2.1 = 0 → ((resAt s l).1.kind = 37 → runOk n (restAt s) (resAt s l).2.2) ∧
   ((resAt s l).1.kind ≠ 37 → bodyOk (resAt s l).1 (headK (resAt s l).2.2) = true ∧ (bodyAt (resAt s l)).1.length ≤ 1000 ∧ (bodyAt (resAt s l)).2.length ≤ 1000 ∧ runOk n (restAt s) ((resAt s l).2.2.drop 1)))) := rfl
  rw [hro]
  cases hp : hasPct s with
  | false =>
   refine ⟨fun h => (Bool.false_ne_true h).elim, fun o => ?_⟩
   rw [run_eq, hp]
   show (o ++ s).length ≤ _
   rw [List.length_append]; omega
  | true =>
   obtain ⟨g0, g1, g2⟩ := okS_step hs hp
   have rl := rest_len hp g0
   have hf := readF_le g0
   have rle : ∀ h0 : (resAt s l).2.1 = 0, _ := fun h0 => resolve_k (dirAt s) l h0 hf.1 hf.2.2.1
   obtain ⟨c, hc, hck⟩ := end_kind g0
   have body : (resAt s l).2.1 = 0 → (resAt s l).1.kind ≠ 37 → bodyOk (resAt s l).1 (headK (resAt s l).2.2) = true ∧ (bodyAt (resAt s l)).1.length + (bodyAt (resAt s l)).2.length ≤ 400 := by
    intro h0 hk
    obtain ⟨e1, e2, e3, e4, e5, ⟨j, hj⟩, _⟩ := rle h0
    have hsm : Small (resAt s l).2.2 := by rw [show (resAt s l).2.2 = l.drop j from hj]; exact hl.drop j
    exact ⟨kind_body hc (e1.trans hck) e4 e5 hk _, body_len e5 _ _ hsm.head⟩
   refine ⟨fun _ => ⟨g0, fun h0 => ⟨fun _ => ?_, fun hk => ?_⟩⟩, fun o => ?_⟩
   ·obtain ⟨_, _, _, _, _, ⟨j, hj⟩, _⟩ := rle h0
    rw [show (resAt s l).2.2 = l.drop j from hj]
    exact (ih _ (by omega) g1 _ (hl.drop j)).1
   ·obtain ⟨_, _, _, _, _, ⟨j, hj⟩, _⟩ := rle h0
    obtain ⟨b1, b2⟩ := body h0 hk
    refine ⟨b1, by omega, by omega, ?_⟩
    rw [show (resAt s l).2.2 = l.drop j from hj]
    exact (ih _ (by omega) g1 _ ((hl.drop j).drop 1)).1
   ·rw [run_eq, hp, if_pos rfl]
    by_cases h0 : (resAt s l).2.1 = 0
    ·rw [if_pos h0]
     obtain ⟨_, _, e3, _, _, ⟨j, hj⟩, _⟩ := rle h0
     have hsm : Small (resAt s l).2.2 := by rw [show (resAt s l).2.2 = l.drop j from hj]; exact hl.drop j
     by_cases hk : (resAt s l).1.kind = 37
     ·rw [if_pos hk]
      have pl := pad_small (resAt s l).1 [] [37] e3 (by decide)
      refine Nat.le_trans ((ih _ (by omega) g1 _ hsm).2 _) ?_
      rw [List.length_append, List.length_append]
      omega
     ·rw [if_neg hk]
      have pl := pad_small (resAt s l).1 (bodyAt (resAt s l)).1 (bodyAt (resAt s l)).2 e3 (body h0 hk).2
      refine Nat.le_trans ((ih _ (by omega) g1 _ (hsm.drop 1)).2 _) ?_
      rw [List.length_append, List.length_append]
      omega
    ·rw [if_neg h0]
     show (o ++ before s).length ≤ _
     rw [List.length_append]; omega
theorem run_ok {s : List UInt8} {l : Cells} (hl : Small l) (hs : s.length ≤ 10000) : RunOk s l := ⟨hs, hl.goods, fun h => (run_small _ s (Nat.lt_succ_self _) h l hl).1⟩
theorem sp_eq {s : List UInt8} {l : Cells} (h : okS s) (hl : Small l) (hs : s.length ≤ 60) : sprintfF s l = if (R s l []).1 ≠ 0 then ([], (R s l []).1) else ((R s l []).2.2, 0) := by
 have hb := (run_small _ s (Nat.lt_succ_self _) h l hl).2 []
 unfold sprintfF
 rw [if_neg (by rw [show checkF (s.length + 1) s = 0 from h]; decide)]
 show (if (R s l []).1 ≠ 0 then ([], (R s l []).1) else if (R s l []).2.2.length > 16384 then ([], 3) else ((R s l []).2.2, 0)) = _
 replace hb : (R s l []).2.2.length ≤ 0 + s.length * 200 := hb
 by_cases h0 : (R s l []).1 ≠ 0
 ·rw [if_pos h0, if_pos h0]
 ·rw [if_neg h0, if_neg h0, if_neg (by omega)]
end
end Go.Proofs.Pr
namespace Go.Proofs.Pr
open Go Go.Ef
noncomputable section
set_option maxRecDepth 100000
theorem okr67 {T : Tab} (O : TabOk Tryz.prog Door.cfg T) : TabOk Tryz.prog Door.cfg (T.addC 67 Cr67) := by
 refine addC_ok O fun args h s hs hp => ?_
 unfold Cr67 at hs
 split at hs
 ·rename_i n b t0
  obtain ⟨⟨t⟩⟩ := t0
  refine nspec_ok (Option.some.inj hs) (fun hp67 => ?_) hp
  obtain ⟨b, rfl⟩ := Int.eq_ofNat_of_zero_le (show 0 ≤ b by have := hp67.2.2.1; omega)
  have hbs : b = 8 ∨ b = 10 ∨ b = 16 := by have := hp67.2.2.2.2.2; omega
  obtain ⟨m, hm⟩ := Int.eq_ofNat_of_zero_le hp67.1
  have P := fun hb hb16 => p67 (b := b) hb hb16 (m := (m : Int)) (n := n) (t := t) hp67 (by omega)
  rcases hbs with rfl | rfl | rfl
  ·exact EvP.freshV (okKb m) (n := 40) (by kernel_rfl) (by kernel_rfl) (args' := [aK .i64 n, aK .i64 8, aStr t]) rfl (rc67_8 m n t _ (P (by decide) (by decide)))
  ·exact EvP.freshV (okKb m) (n := 40) (by kernel_rfl) (by kernel_rfl) (args' := [aK .i64 n, aK .i64 10, aStr t]) rfl (rc67_10 m n t _ (P (by decide) (by decide)))
  ·exact EvP.freshV (okKb m) (n := 40) (by kernel_rfl) (by kernel_rfl) (args' := [aK .i64 n, aK .i64 16, aStr t]) rfl (rc67_16 m n t _ (P (by decide) (by decide)))
 ·cases hs
theorem okr62 {T : Tab} (O : TabOk Tryz.prog Door.cfg T) : TabOk Tryz.prog Door.cfg (T.addC 62 Cr62) := by
 refine addC_ok O fun args h s hs hp => ?_
 unfold Cr62 at hs
 split at hs
 ·rename_i d
  refine nspec_ok (Option.some.inj hs) (fun _ => ?_) hp
  refine EvP.freshV tab0_ok (n := 40) (by kernel_rfl) (by kernel_rfl) (args' := [aK .i64 d]) rfl (rc62 d _ ?_)
  show iteP _ (_ = aK .i64 (nearF d)) (iteP _ (_ = aK .i64 (nearF d)) (_ = aK .i64 (nearF d)))
  by_cases h1 : d < (-10000000000000 : Int)
  ·rw [decide_eq_true h1, iteP_t, show nearF d = -10000000000000 by unfold nearF; omega]; rfl
  ·rw [decide_eq_false h1, iteP_f]
   by_cases h2 : (10000000000000 : Int) < d
   ·rw [decide_eq_true h2, iteP_t, show nearF d = 10000000000000 by unfold nearF; omega]; rfl
   ·rw [decide_eq_false h2, iteP_f, show nearF d = d by unfold nearF; omega]; rfl
 ·cases hs
theorem okr87 {T : Tab} (O : TabOk Tryz.prog Door.cfg T) : TabOk Tryz.prog Door.cfg (T.addC 87 Cr87) := by
 refine addC_ok O fun args h s hs hp => ?_
 unfold Cr87 at hs
 split at hs
 ·rename_i d
  refine nspec_ok (Option.some.inj hs) (fun hpre => ?_) hp
  obtain ⟨p1, p2⟩ := hpre
  refine EvP.freshV tab0_ok (n := 40) (by kernel_rfl) (by kernel_rfl) (args' := [aK .i64 d]) rfl (rc87 d _ ?_)
  show iteP _ (_ = aK .i64 ((d.natAbs : Nat) : Int)) (_ = aK .i64 ((d.natAbs : Nat) : Int))
  by_cases h1 : d < 0
  ·rw [decide_eq_true h1, iteP_t, show IntKind.i64.wrap (0 - d) = ((d.natAbs : Nat) : Int) by rw [wrap_in (by omega) (by omega)]; omega]; rfl
  ·rw [decide_eq_false h1, iteP_f, show ((d.natAbs : Nat) : Int) = d by omega]; rfl
 ·cases hs
theorem u66_ok {u d p : Int} (hu : unitF p = u) : u66 u d fun v => v = aK .i64 (roundF d p) := by
 obtain ⟨u1, u2, u3, u4⟩ := unit_le p
 rw [hu] at u1 u2 u3 u4
 have hn := near_le d
 refine ⟨trivial, fun x hx => ⟨by omega, fun y hy => ?_⟩⟩
 have hr : roundF d p = if x < 0 then -((-x + u / 2) / u * u) else (x + u / 2) / u * u := by
  unfold roundF; rw [hu, ← hx]
 have e1 : IntKind.i64.wrap (y + u / 2) = y + u / 2 := wrap_in (by omega) (by omega)
 have q1 : 0 ≤ (y + u / 2) / u := Int.ediv_nonneg (by omega) (by omega)
 have q2 : (y + u / 2) / u ≤ y + u / 2 := Int.ediv_le_self _ (by omega)
 have q3 : (y + u / 2) / u * u ≤ y + u / 2 := Int.ediv_mul_le _ (by omega)
 have q4 : 0 ≤ (y + u / 2) / u * u := Int.mul_nonneg q1 (by omega)
 rw [e1, td (by omega), wrap_in (x := (y + u / 2) / u) (by omega) (by omega), wrap_in (x := (y + u / 2) / u * u) (by omega) (by omega), hr]
 by_cases h : x < 0
 ·rw [decide_eq_true h, iteP_t, if_pos h, wrap_in (by omega) (by omega), show -x = y by omega]
  congr 2; omega
 ·rw [decide_eq_false h, iteP_f, if_neg h, show x = y by omega]
theorem okr66 {T : Tab} (O : TabOk Tryz.prog Door.cfg T) : TabOk Tryz.prog Door.cfg (T.addC 66 Cr66) := by
 refine addC_ok O fun args h s hs hp => ?_
 unfold Cr66 at hs
 split at hs
 ·rename_i d p
  refine nspec_ok (Option.some.inj hs) (fun _ => ?_) hp
  refine EvP.freshV (okr87 (okr62 tab0_ok)) (n := 40) (by kernel_rfl) (by kernel_rfl) (args' := [aK .i64 d, aK .i64 p]) rfl (rc66 d p _ ?_)
  unfold P66
  have hu : unitF p = if p ≤ 0 then 10000 else if p = 1 then 1000 else if p = 2 then 100 else if p = 3 then 10 else 1 := rfl
  by_cases h0 : (0 : Int) < p
  ·rw [decide_eq_true h0, iteP_t]
   rw [if_neg (by omega)] at hu
   by_cases h1 : (1 : Int) < p
   ·rw [decide_eq_true h1, iteP_t]
    rw [if_neg (by omega)] at hu
    by_cases h2 : (2 : Int) < p
    ·rw [decide_eq_true h2, iteP_t]
     rw [if_neg (by omega)] at hu
     by_cases h3 : (3 : Int) < p
     ·rw [decide_eq_true h3, iteP_t]
      rw [if_neg (by omega)] at hu
      cases decide ((4 : Int) < p) with
      | true => rw [iteP_t]; exact u66_ok hu
      | false => rw [iteP_f]; exact u66_ok hu
     ·rw [decide_eq_false h3, iteP_f]
      rw [if_pos (by omega)] at hu
      exact u66_ok hu
    ·rw [decide_eq_false h2, iteP_f]
     rw [if_pos (by omega)] at hu
     exact u66_ok hu
   ·rw [decide_eq_false h1, iteP_f]
    rw [if_pos (by omega)] at hu
    exact u66_ok hu
  ·rw [decide_eq_false h0, iteP_f]
   rw [if_pos (by omega)] at hu
   exact u66_ok hu
 ·cases hs
theorem okKi : TabOk Tryz.prog Door.cfg Ki := okr66 (okr40 (okr67 tab0_ok))
theorem sgP_ok {d : Dir} {q : Bool} {H : List UInt8 → Prop} (hk : H (signF d q)) : sgP d q H := by
 unfold sgP
 unfold signF at hk
 cases q with
 | true => exact hk
 | false =>
  rw [iteP_f]
  cases hp : d.plus with
  | true => rw [iteP_t]; rw [hp] at hk; exact hk
  | false =>
   rw [iteP_f]
   rw [hp] at hk
   cases hs : d.space with
   | true => rw [iteP_t]; rw [hs] at hk; exact hk
   | false => rw [iteP_f]; rw [hs] at hk; exact hk
theorem bsP_10 {n : Int} {H : List UInt8 → Prop} (h0 : 0 ≤ n) (h1 : n ≤ 4294967296) (hk : H (fmtN 10 n.toNat)) : bsP n 10 T10 H := ⟨⟨h0, h1, by decide, by decide, by decide, by decide⟩, fun y hy => by rw [hy]; show H (basedF T10 10 n.toNat); rw [based_10]; exact hk⟩
theorem bsP_8 {n : Int} {H : List UInt8 → Prop} (h0 : 0 ≤ n) (h1 : n ≤ 4294967296) (hk : H (fmtN 8 n.toNat)) : bsP n 8 T8 H := ⟨⟨h0, h1, by decide, by decide, by decide, by decide⟩, fun y hy => by rw [hy]; show H (basedF T8 8 n.toNat); rw [based_8]; exact hk⟩
theorem bsP_16 {n : Int} {H : List UInt8 → Prop} (h0 : 0 ≤ n) (h1 : n ≤ 4294967296) (hk : H (fmtN 16 n.toNat)) : bsP n 16 T16 H := ⟨⟨h0, h1, by decide, by decide, by decide, by decide⟩, fun y hy => by rw [hy]; show H (basedF T16 16 n.toNat); rw [based_16]; exact hk⟩
theorem bsP_16U {n : Int} {H : List UInt8 → Prop} (h0 : 0 ≤ n) (h1 : n ≤ 4294967296) (hk : H ((fmtN 16 n.toNat).map upC)) : bsP n 16 T16U H := ⟨⟨h0, h1, by decide, by decide, by decide, by decide⟩, fun y hy => by rw [hy]; show H (basedF T16U 16 n.toNat); rw [based_16U]; exact hk⟩
theorem zsP_ok {n : Int} {H : List UInt8 → Prop} (h : n ≤ 255) (hk : H (zerosF n)) : zsP n H := ⟨⟨.inr rfl, h⟩, fun z hz => by rw [hz]; exact hk⟩
theorem itE_ok {p : Int} {x y : List UInt8} {K : AV → Prop} (h1 : -1 ≤ p) (h2 : p ≤ 255) (hy : y.length ≤ 70) (hk : K (.tup [aStr x, aStr (zerosF (p - (y.length : Int)) ++ y)])) : itE p x y K := by
 unfold itE
 rw [wrap_in (by omega) (by omega)]
 refine zsP_ok (by omega) ?_
 rw [fits_sm2 (by rw [zeros_len]; omega) (by omega), iteP_t]
 exact hk
theorem itT_ok {p n : Int} {x y : List UInt8} {K : AV → Prop} (h1 : -1 ≤ p) (h2 : p ≤ 255) (hy : y.length ≤ 70) (hk : K (.tup [aStr x, aStr (zerosF (p - ((if n = 0 ∧ p = 0 then [] else y).length : Int)) ++ (if n = 0 ∧ p = 0 then [] else y))])) : itT p n x y K := by
 unfold itT
 by_cases hn : n = 0
 ·rw [show (n == 0) = true by simpa using hn, iteP_t]
  by_cases hp : p = 0
  ·rw [show (p == 0) = true by simpa using hp, iteP_t]
   rw [if_pos ⟨hn, hp⟩] at hk
   exact itE_ok h1 h2 (by simp) hk
  ·rw [show (p == 0) = false by simpa using hp, iteP_f]
   rw [if_neg (fun h => hp h.2)] at hk
   exact itE_ok h1 h2 hy hk
 ·rw [show (n == 0) = false by simpa using hn, iteP_f]
  rw [if_neg (fun h => hn h.1)] at hk
  exact itE_ok h1 h2 hy hk
theorem absW_eq {n : Int} (h1 : -10000000005000 ≤ n) (h2 : n ≤ 10000000005000) : absW n = ((n.natAbs : Nat) : Int) := by
 unfold absW
 rw [wrap_in (by omega) (by omega)]
 omega
theorem int_ok (d : Dir) (n : Int) (h1 : -1 ≤ d.prec) (h2 : d.prec ≤ 255) (h3 : -1000000000 ≤ n) (h4 : n ≤ 1000000000) : P45 d n fun v => v = .tup [aStr (integerF d n).1, aStr (integerF d n).2] := by
 have e1 : (integerF d n).1 = if d.kind = 100 ∨ d.kind = 105 then signF d (decide (n < 0)) else [] := rfl
 have e2 : (integerF d n).2 = zerosF (d.prec - ((intDigits d n).length : Int)) ++ intDigits d n := rfl
 have ei : intDigits d n = if n = 0 ∧ d.prec = 0 then [] else (if d.kind = 100 ∨ d.kind = 105 then fmtN 10 n.natAbs else if d.kind = 111 then fmtN 8 (if n < 0 then n + 4294967296 else n).toNat else if d.kind = 120 then fmtN 16 (if n < 0 then n + 4294967296 else n).toNat else if d.kind = 88 then (fmtN 16 (if n < 0 then n + 4294967296 else n).toNat).map upC else fmtN 10 (if n < 0 then n + 4294967296 else n).toNat) := rfl
 have dec : d.kind = 100 ∨ d.kind = 105 → ∀ q : Bool, q = decide (n < 0) → itD d n (fun v => v = .tup [aStr (integerF d n).1, aStr (integerF d n).2]) q := by
  intro hk q hq
  refine sgP_ok ?_
  rw [absW_eq (by omega) (by omega)]
  refine bsP_10 (by omega) (by omega) (itT_ok h1 h2 (fmt_len _ _) ?_)
  rw [if_pos hk] at e1 ei
  rw [e1, e2, ei, hq, Int.toNat_natCast]
 have oth : ¬ (d.kind = 100 ∨ d.kind = 105) → ∀ m : Int, m = (if n < 0 then n + 4294967296 else n) → itO d.kind d.prec n m (fun v => v = .tup [aStr (integerF d n).1, aStr (integerF d n).2]) := by
  intro hk m hm
  have m0 : 0 ≤ m ∧ m ≤ 4294967296 := by rw [hm]; split <;> omega
  rw [if_neg hk] at e1 ei
  rw [← hm] at ei
  unfold itO
  by_cases k1 : d.kind = 111
  ·rw [show (d.kind == 111) = true by simpa using k1, iteP_t]
   rw [if_pos k1] at ei
   exact bsP_8 m0.1 m0.2 (itT_ok h1 h2 (fmt_len _ _) (by rw [e1, e2, ei]))
  ·rw [show (d.kind == 111) = false by simpa using k1, iteP_f]
   rw [if_neg k1] at ei
   by_cases k2 : d.kind = 120
   ·rw [show (d.kind == 120) = true by simpa using k2, iteP_t]
    rw [if_pos k2] at ei
    exact bsP_16 m0.1 m0.2 (itT_ok h1 h2 (fmt_len _ _) (by rw [e1, e2, ei]))
   ·rw [show (d.kind == 120) = false by simpa using k2, iteP_f]
    rw [if_neg k2] at ei
    by_cases k3 : d.kind = 88
    ·rw [show (d.kind == 88) = true by simpa using k3, iteP_t]
     rw [if_pos k3] at ei
     exact bsP_16U m0.1 m0.2 (itT_ok h1 h2 (by rw [List.length_map]; exact fmt_len _ _) (by rw [e1, e2, ei]))
    ·rw [show (d.kind == 88) = false by simpa using k3, iteP_f]
     rw [if_neg k3] at ei
     exact bsP_10 m0.1 m0.2 (itT_ok h1 h2 (fmt_len _ _) (by rw [e1, e2, ei]))
 unfold P45
 have two : d.kind = 100 ∨ d.kind = 105 → iteP (decide (n < 0)) (itD d n (fun v => v = .tup [aStr (integerF d n).1, aStr (integerF d n).2]) true) (itD d n (fun v => v = .tup [aStr (integerF d n).1, aStr (integerF d n).2]) false) := by
  intro hk
  by_cases hn : n < 0
  ·have := dec hk true (decide_eq_true hn).symm
   rw [decide_eq_true hn, iteP_t]; exact this
  ·have := dec hk false (decide_eq_false hn).symm
   rw [decide_eq_false hn, iteP_f]; exact this
 by_cases k1 : d.kind = 100
 ·rw [show (d.kind == 100) = true by simpa using k1, iteP_t]; exact two (.inl k1)
 ·rw [show (d.kind == 100) = false by simpa using k1, iteP_f]
  by_cases k2 : d.kind = 105
  ·rw [show (d.kind == 105) = true by simpa using k2, iteP_t]; exact two (.inr k2)
  ·rw [show (d.kind == 105) = false by simpa using k2, iteP_f]
   have hk : ¬ (d.kind = 100 ∨ d.kind = 105) := by rintro (h | h); exact k1 h; exact k2 h
   by_cases hn : n < 0
   ·have := oth hk (n + 4294967296) (by rw [if_pos hn])
    rw [decide_eq_true hn, iteP_t, wrap_in (by omega) (by omega)]; exact this
   ·have := oth hk n (by rw [if_neg hn])
    rw [decide_eq_false hn, iteP_f]; exact this
theorem round_min (x q : Int) : roundF x (min q 4) = roundF x q := by
 have : unitF (min q 4) = unitF q := by
  by_cases h : q ≤ 4
  ·rw [show min q 4 = q by omega]
  ·rw [show min q 4 = 4 by omega]
   unfold unitF
   rw [if_neg (by omega), if_neg (by omega), if_neg (by omega), if_neg (by omega), if_neg (by omega), if_neg (by omega), if_neg (by omega), if_neg (by omega)]
 unfold roundF
 rw [this]
theorem deE_ok {d : Dir} {x r : Int} {y : List UInt8} {K : AV → Prop} (hk : K (.tup [aStr (signF d (decide (x < 0) && decide (r ≠ 0))), aStr y])) : deE d x r y K := by
 unfold deE
 by_cases h1 : x < 0
 ·rw [decide_eq_true h1] at hk ⊢
  rw [iteP_t]
  by_cases h2 : r = 0
  ·rw [decide_eq_false (show ¬ r ≠ 0 by simpa using h2)] at hk
   rw [show (r != 0) = false by simpa using h2, iteP_f]
   exact sgP_ok hk
  ·rw [decide_eq_true h2] at hk
   rw [show (r != 0) = true by simpa using h2, iteP_t]
   exact sgP_ok hk
 ·rw [decide_eq_false h1] at hk ⊢
  rw [iteP_f]
  exact sgP_ok hk
theorem dec_ok (d : Dir) (x : Int) (h1 : -1 ≤ d.prec) (h2 : d.prec ≤ 255) : P44 d x fun v => v = .tup [aStr (decimalsF d x).1, aStr (decimalsF d x).2] := by
 have main : ∀ q : Int, q = placesF d → 0 ≤ q → q ≤ 255 → deP d x q fun v => v = .tup [aStr (decimalsF d x).1, aStr (decimalsF d x).2] := by
  intro q hq q0 q1
  refine ⟨trivial, fun r hr => ?_⟩
  have hb := round_le x q
  rw [← hr] at hb
  have hr4 : r = roundF x (min (placesF d) 4) := by rw [← hq, round_min]; exact hr
  have hD := decimals_eq d x r hr4
  rw [← hq] at hD
  rw [absW_eq hb.1 hb.2, td (by omega), tm (by omega), wrap_in (by omega) (by omega)]
  refine bsP_10 (by omega) (by omega) ?_
  have t1 : (((r.natAbs : Nat) : Int) / 10000).toNat = r.natAbs / 10000 := by omega
  have t2 : (((r.natAbs : Nat) : Int) % 10000).toNat = r.natAbs % 10000 := by omega
  rw [t1]
  have lu := fmt_len 10 (r.natAbs / 10000)
  by_cases hq0 : 0 < q
  ·rw [decide_eq_true hq0, iteP_t]
   rw [if_pos hq0] at hD
   refine bsP_10 (by omega) (by omega) ?_
   rw [t2]
   have lv := fmt_len 10 (r.natAbs % 10000)
   rw [wrap_in (by omega) (by omega)]
   refine zsP_ok (by omega) ?_
   have lz := zeros_len (4 - ((fmtN 10 (r.natAbs % 10000)).length : Int))
   rw [fits_sm2 (by omega) (by omega), iteP_t, wrap_in (by omega) (by omega)]
   refine zsP_ok (by omega) ?_
   have lz2 := zeros_len (q - 4)
   have la : (zerosF (4 - ((fmtN 10 (r.natAbs % 10000)).length : Int)) ++ fmtN 10 (r.natAbs % 10000)).length ≤ 80 := by rw [List.length_append]; omega
   have lq : q ≤ ((zerosF (4 - ((fmtN 10 (r.natAbs % 10000)).length : Int)) ++ fmtN 10 (r.natAbs % 10000) ++ zerosF (q - 4)).length : Int) := by rw [List.length_append, List.length_append]; omega
   have lt : (List.take q.toNat (zerosF (4 - ((fmtN 10 (r.natAbs % 10000)).length : Int)) ++ fmtN 10 (r.natAbs % 10000) ++ zerosF (q - 4))).length ≤ 255 := by rw [List.length_take]; omega
   rw [fits_sm2 (by omega) (by omega), iteP_t, fits_sm2 (by omega) (Nat.le_trans (Nat.le_refl 1) (by decide)), iteP_t, decide_eq_true q0, decide_eq_true lq, fits_sm2 (by rw [List.length_append, List.length_singleton]; omega) (by omega)]
   show iteP true (iteP true _ _) _
   rw [iteP_t, iteP_t]
   refine deE_ok ?_
   rw [hD, List.append_assoc]
  ·rw [decide_eq_false hq0, iteP_f]
   rw [if_neg hq0, List.append_nil] at hD
   refine deE_ok ?_
   rw [hD]
 unfold P44
 by_cases hp : d.prec < 0
 ·rw [decide_eq_true hp, iteP_t]
  exact main 6 (by unfold placesF; rw [if_pos (by omega)]) (by decide) (by decide)
 ·rw [decide_eq_false hp, iteP_f]
  exact main d.prec (by unfold placesF; rw [if_neg (by omega)]) (by omega) h2
end
end Go.Proofs.Pr
namespace Go.Proofs.Pr
open Go Go.Ef
noncomputable section
def Cr45 (args : List AV) (h : Heap) : Option CSpec :=
 match args with
 | [.agg [.sc (.bool a), .sc (.bool b), .sc (.bool c), .sc (.bool e), .sc (.int .i64 w), .sc (.int .i64 p), .sc (.int .u8 kd)], .sc (.int .i64 n)] => some (nspec (-1 ≤ p ∧ p ≤ 255 ∧ -1000000000 ≤ n ∧ n ≤ 1000000000) (integerF ⟨a, b, c, e, w, p, kd⟩ n) (fun y => .tup [aStr y.1, aStr y.2]) h)
 | _ => none
def Cr44 (args : List AV) (h : Heap) : Option CSpec :=
 match args with
 | [.agg [.sc (.bool a), .sc (.bool b), .sc (.bool c), .sc (.bool e), .sc (.int .i64 w), .sc (.int .i64 p), .sc (.int .u8 kd)], .sc (.int .i64 x)] => some (nspec (-1 ≤ p ∧ p ≤ 255) (decimalsF ⟨a, b, c, e, w, p, kd⟩ x) (fun y => .tup [aStr y.1, aStr y.2]) h)
 | _ => none
def Cr22 (args : List AV) (h : Heap) : Option CSpec :=
 match args with
 | [.agg [.sc (.bool a), .sc (.bool b), .sc (.bool c), .sc (.bool e), .sc (.int .i64 w), .sc (.int .i64 p), .sc (.int .u8 kd)], .agg [.sc (.int .i64 k), .sc (.int .i64 n), .sc (.string s)]] => some (nspec (-1 ≤ p ∧ p ≤ 255 ∧ s.data.toList.length ≤ 1000000) (bodyF ⟨a, b, c, e, w, p, kd⟩ k n s.data.toList) (fun y => .tup [aStr y.1, aStr y.2]) h)
 | _ => none
def Cr21 (args : List AV) (h : Heap) : Option CSpec :=
 match args with
 | [.agg [.sc (.bool a), .sc (.bool b), .sc (.bool c), .sc (.bool e), .sc (.int .i64 w), .sc (.int .i64 p), .sc (.int .u8 kd)], .sc (.string s), .sc (.string r)] => some (nspec (-1 ≤ w ∧ w ≤ 255 ∧ -1 ≤ p ∧ 0 ≤ kd ∧ kd ≤ 255 ∧ s.data.toList.length ≤ 1000000 ∧ r.data.toList.length ≤ 1000000) (padF ⟨a, b, c, e, w, p, kd⟩ s.data.toList r.data.toList) (fun x => aStr x) h)
 | _ => none
def Kj : Tab := ((((tab0.addC 42 Cr42).addC 41 Cr41).addC 43 Cr43).addC 44 Cr44).addC 45 Cr45
def Kp : Tab := (tab0.addC 40 Cr40).addC 37 C33
end
end Go.Proofs.Pr
namespace Go.Proofs.Pr
open Go Go.Ef
noncomputable section
set_option maxRecDepth 100000
def P22 (d : Dir) (k n : Int) (s : List UInt8) (K : AV → Prop) : Prop :=
 s.length ≤ 1000000 ∧ ∀ x : Int, x = numberF k n s → True ∧ ∀ y : Int, y = (nearF x).tdiv 10000 → s.length ≤ 1000000 ∧ ∀ t : List UInt8, t = textF k n s →
  iteP (d.kind == 99) (iteP (k == 1) (K (.tup [aStr [], aStr (bC (IntKind.u8.wrap ((IntKind.i64.wrap (y.tmod 256 + 256)).tmod 256)))]))
    (iteP (decide (0 ≤ min (t.length : Int) 1) && decide (min (t.length : Int) 1 ≤ (t.length : Int))) (K (.tup [aStr [], aStr (List.take (min (t.length : Int) 1).toNat t)])) False))
   (iteP (d.kind == 115) (iteP (decide (0 ≤ d.prec)) (iteP (decide (0 ≤ min (t.length : Int) d.prec) && decide (min (t.length : Int) d.prec ≤ (t.length : Int))) (K (.tup [aStr [], aStr (List.take (min (t.length : Int) d.prec).toNat t)])) False) (K (.tup [aStr [], aStr t])))
    (iteP (d.kind == 102) (s.length ≤ 1000000 ∧ ∀ x : Int, x = numberF k n s → ((-1 : Int) ≤ d.prec ∧ d.prec ≤ 255) ∧ ∀ z : List UInt8 × List UInt8, z = decimalsF d x → K (.tup [aStr z.1, aStr z.2]))
     (((-1 : Int) ≤ d.prec ∧ d.prec ≤ 255 ∧ -1000000000 ≤ y ∧ y ≤ 1000000000) ∧ ∀ z : List UInt8 × List UInt8, z = integerF d y → K (.tup [aStr z.1, aStr z.2]))))
theorem rc22 (a b c e : Bool) (w p kd k n : Int) (s : List UInt8) (K : AV → Prop) (h : P22 ⟨a, b, c, e, w, p, kd⟩ k n s K) : wpCall Kj Door.cfg Tryz.prog 40 22 [.agg [aBool a, aBool b, aBool c, aBool e, aK .i64 w, aK .i64 p, aK .u8 kd], .agg [aK .i64 k, aK .i64 n, aStr s]] heapF fun r h' => wpBack h' r K := Eq.mp (by kernel_rfl) h
def wsP (c n : Int) (H : List UInt8 → Prop) : Prop := ((c = 32 ∨ c = 48) ∧ n ≤ 255) ∧ ∀ z : List UInt8, z = timesF c n → H z
def pdL (n : Int) (s r : List UInt8) (K : AV → Prop) : Prop := iteP (strFits s r) (wsP 32 n fun x => iteP (strFits (s ++ r) x) (K (aStr (s ++ r ++ x))) False) False
def pdZ (n : Int) (s r : List UInt8) (K : AV → Prop) : Prop := wsP 48 n fun x => iteP (strFits s x) (iteP (strFits (s ++ x) r) (K (aStr (s ++ x ++ r))) False) False
def pdR (n : Int) (s r : List UInt8) (K : AV → Prop) : Prop := wsP 32 n fun x => iteP (strFits x s) (iteP (strFits (x ++ s) r) (K (aStr (x ++ s ++ r))) False) False
def P21n (d : Dir) (n : Int) (s r : List UInt8) (K : AV → Prop) : Prop :=
 (6 : Nat) ≤ 1000000 ∧ ∀ q : Bool, (q = whole.any fun b => decide (((b.toNat : Nat) : Int) = d.kind)) → iteP q (iteP d.minus (pdL n s r K) (iteP d.zero (iteP (d.kind == 102) (pdZ n s r K) (iteP (decide (d.prec < 0)) (pdZ n s r K) (pdR n s r K))) (pdR n s r K)))
  (iteP d.minus (pdL n s r K) (iteP d.zero (iteP (d.kind == 102) (pdZ n s r K) (pdR n s r K)) (pdR n s r K)))
theorem rc21 (a b c e : Bool) (w p kd : Int) (s r : List UInt8) (K : AV → Prop) (h : P21n ⟨a, b, c, e, w, p, kd⟩ (IntKind.i64.wrap (IntKind.i64.wrap (w - (s.length : Int)) - (r.length : Int))) s r K) : wpCall Kp Door.cfg Tryz.prog 40 21 [.agg [aBool a, aBool b, aBool c, aBool e, aK .i64 w, aK .i64 p, aK .u8 kd], aStr s, aStr r] heapF fun r h' => wpBack h' r K := Eq.mp (by kernel_rfl) h
theorem okr45 {T : Tab} (O : TabOk Tryz.prog Door.cfg T) : TabOk Tryz.prog Door.cfg (T.addC 45 Cr45) := by
 refine addC_ok O fun args h s hs hp => ?_
 unfold Cr45 at hs
 split at hs
 ·rename_i a b c e w p kd n
  refine nspec_ok (Option.some.inj hs) (fun hpre => ?_) hp
  obtain ⟨h1, h2, h3, h4⟩ := hpre
  exact EvP.freshV okKi (n := 40) (by kernel_rfl) (by kernel_rfl) (args' := [.agg [aBool a, aBool b, aBool c, aBool e, aK .i64 w, aK .i64 p, aK .u8 kd], aK .i64 n]) rfl (rc45 a b c e w p kd n _ (int_ok ⟨a, b, c, e, w, p, kd⟩ n h1 h2 h3 h4))
 ·cases hs
theorem okr44 {T : Tab} (O : TabOk Tryz.prog Door.cfg T) : TabOk Tryz.prog Door.cfg (T.addC 44 Cr44) := by
 refine addC_ok O fun args h s hs hp => ?_
 unfold Cr44 at hs
 split at hs
 ·rename_i a b c e w p kd x
  refine nspec_ok (Option.some.inj hs) (fun hpre => ?_) hp
  exact EvP.freshV okKi (n := 40) (by kernel_rfl) (by kernel_rfl) (args' := [.agg [aBool a, aBool b, aBool c, aBool e, aK .i64 w, aK .i64 p, aK .u8 kd], aK .i64 x]) rfl (rc44 a b c e w p kd x _ (dec_ok ⟨a, b, c, e, w, p, kd⟩ x hpre.1 hpre.2))
 ·cases hs
theorem okKj : TabOk Tryz.prog Door.cfg Kj := okr45 (okr44 (okr43 (okr41 (okr42 tab0_ok))))
theorem take_min (t : List UInt8) (p : Int) (h : 0 ≤ p) : List.take (min (t.length : Int) p).toNat t = t.take p.toNat := by
 by_cases hp : p ≤ (t.length : Int)
 ·rw [show min (t.length : Int) p = p by omega]
 ·rw [show min (t.length : Int) p = (t.length : Int) by omega, Int.toNat_natCast, List.take_length, List.take_of_length_le (by omega)]
theorem byte_mod (y : Int) (h1 : -1000000000 ≤ y) (h2 : y ≤ 1000000000) : bC (IntKind.u8.wrap ((IntKind.i64.wrap (y.tmod 256 + 256)).tmod 256)) = [UInt8.ofNat ((y % 256).toNat)] := by
 have e : (IntKind.i64.wrap (y.tmod 256 + 256)).tmod 256 = y % 256 := by
  have hb : -256 < y.tmod 256 ∧ y.tmod 256 < 256 ∧ (y.tmod 256) % 256 = y % 256 := by
   rcases Int.le_total 0 y with h | h
   ·rw [Int.tmod_eq_emod_of_nonneg h]; omega
   ·obtain ⟨a, rfl⟩ : ∃ a : Nat, y = -(a : Int) := ⟨y.natAbs, by omega⟩
    rw [Int.neg_tmod, Int.tmod_eq_emod_of_nonneg (show (0 : Int) ≤ (a : Int) by omega)]
    omega
  obtain ⟨b1, b2, b3⟩ := hb
  rw [wrap_in (by omega) (by omega), Int.tmod_eq_emod_of_nonneg (by omega)]
  omega
 rw [e, wrap8_in (by omega) (by omega)]
 rfl
theorem okr22 {T : Tab} (O : TabOk Tryz.prog Door.cfg T) : TabOk Tryz.prog Door.cfg (T.addC 22 Cr22) := by
 refine addC_ok O fun args h s hs hp => ?_
 unfold Cr22 at hs
 split at hs
 ·rename_i a b c e w p kd k n s0
  obtain ⟨⟨u⟩⟩ := s0
  refine nspec_ok (Option.some.inj hs) (fun hpre => ?_) hp
  obtain ⟨h1, h2, h3⟩ := hpre
  replace h3 : u.length ≤ 1000000 := h3
  refine EvP.freshV okKj (n := 40) (by kernel_rfl) (by kernel_rfl) (args' := [.agg [aBool a, aBool b, aBool c, aBool e, aK .i64 w, aK .i64 p, aK .u8 kd], .agg [aK .i64 k, aK .i64 n, aStr u]]) rfl (rc22 a b c e w p kd k n u _ ?_)
  generalize hd : (⟨a, b, c, e, w, p, kd⟩ : Dir) = d
  have q1 : -1 ≤ d.prec := by rw [← hd]; exact h1
  have q2 : d.prec ≤ 255 := by rw [← hd]; exact h2
  have hB : bodyF d k n u = if d.kind = 99 then (if k = 1 then ([], [UInt8.ofNat (((nearF (numberF k n u)).tdiv 10000 % 256).toNat)]) else ([], (textF k n u).take 1)) else if d.kind = 115 then ([], if d.prec = -1 then textF k n u else (textF k n u).take d.prec.toNat) else if d.kind = 102 then decimalsF d (numberF k n u) else integerF d ((nearF (numberF k n u)).tdiv 10000) := rfl
  refine ⟨h3, fun x hx => ⟨trivial, fun y hy => ⟨h3, fun t ht => ?_⟩⟩⟩
  have hn := near_le x
  have hyb := tdiv_le hn.1 hn.2
  rw [← hy] at hyb
  rw [← hx, ← hy, ← ht] at hB
  by_cases k1 : d.kind = 99
  ·rw [show (d.kind == 99) = true by simpa using k1, iteP_t]
   rw [if_pos k1] at hB
   by_cases kk : k = 1
   ·rw [show (k == 1) = true by simpa using kk, iteP_t, byte_mod y hyb.1 hyb.2]
    rw [if_pos kk] at hB
    show _ = AV.tup [aStr (bodyF d k n u).1, aStr (bodyF d k n u).2]
    rw [hB]
   ·rw [show (k == 1) = false by simpa using kk, iteP_f, show (decide (0 ≤ min (t.length : Int) 1) && decide (min (t.length : Int) 1 ≤ (t.length : Int))) = true by simp; omega, iteP_t, take_min t 1 (by decide)]
    rw [if_neg kk] at hB
    show _ = AV.tup [aStr (bodyF d k n u).1, aStr (bodyF d k n u).2]
    rw [hB]; rfl
  ·rw [show (d.kind == 99) = false by simpa using k1, iteP_f]
   rw [if_neg k1] at hB
   by_cases k2 : d.kind = 115
   ·rw [show (d.kind == 115) = true by simpa using k2, iteP_t]
    rw [if_pos k2] at hB
    by_cases hp : 0 ≤ d.prec
    ·rw [decide_eq_true hp, iteP_t, show (decide (0 ≤ min (t.length : Int) d.prec) && decide (min (t.length : Int) d.prec ≤ (t.length : Int))) = true by simp; omega, iteP_t, take_min t _ hp]
     rw [if_neg (by omega)] at hB
     show _ = AV.tup [aStr (bodyF d k n u).1, aStr (bodyF d k n u).2]
     rw [hB]
    ·rw [decide_eq_false hp, iteP_f]
     rw [if_pos (by omega)] at hB
     show _ = AV.tup [aStr (bodyF d k n u).1, aStr (bodyF d k n u).2]
     rw [hB]
   ·rw [show (d.kind == 115) = false by simpa using k2, iteP_f]
    rw [if_neg k2] at hB
    by_cases k3 : d.kind = 102
    ·rw [show (d.kind == 102) = true by simpa using k3, iteP_t]
     rw [if_pos k3] at hB
     refine ⟨h3, fun x2 hx2 => ⟨⟨q1, q2⟩, fun z hz => ?_⟩⟩
     show _ = AV.tup [aStr (bodyF d k n u).1, aStr (bodyF d k n u).2]
     rw [hB, hz, hx2, ← hx]
    ·rw [show (d.kind == 102) = false by simpa using k3, iteP_f]
     rw [if_neg k3] at hB
     refine ⟨⟨q1, q2, hyb.1, hyb.2⟩, fun z hz => ?_⟩
     show _ = AV.tup [aStr (bodyF d k n u).1, aStr (bodyF d k n u).2]
     rw [hB, hz]
 ·cases hs
theorem whole_all : (List.range 256).all (fun k => (whole.any fun b => decide (((b.toNat : Nat) : Int) = (k : Int))) == whole.contains (UInt8.ofNat k)) = true := by decide +kernel
theorem whole_has {k : Int} (h0 : 0 ≤ k) (h1 : k ≤ 255) : (whole.any fun b => decide (((b.toNat : Nat) : Int) = k)) = whole.contains (UInt8.ofNat k.toNat) := by
 obtain ⟨m, rfl⟩ := Int.eq_ofNat_of_zero_le h0
 exact eq_of_beq (List.all_eq_true.1 whole_all m (by simp; omega))
theorem wsP_ok {c n : Int} {H : List UInt8 → Prop} (hc : c = 32 ∨ c = 48) (h : n ≤ 255) (hk : H (timesF c n)) : wsP c n H := ⟨⟨hc, h⟩, fun z hz => by rw [hz]; exact hk⟩
theorem times_len (c n : Int) : (timesF c n).length = n.toNat := by unfold timesF; rw [List.length_replicate]
theorem fits_big {a b : List UInt8} (h1 : a.length ≤ 3000000) (h2 : b.length ≤ 3000000) : strFits a b = true := by rw [strFits_iff]; omega
theorem okr21 {T : Tab} (O : TabOk Tryz.prog Door.cfg T) : TabOk Tryz.prog Door.cfg (T.addC 21 Cr21) := by
 refine addC_ok O fun args h s hs hp => ?_
 unfold Cr21 at hs
 split at hs
 ·rename_i a b c e w p kd s0 r0
  obtain ⟨⟨u⟩⟩ := s0
  obtain ⟨⟨v⟩⟩ := r0
  refine nspec_ok (Option.some.inj hs) (fun hpre => ?_) hp
  obtain ⟨h1, h2, h3, h4, h5, h6, h7⟩ := hpre
  replace h6 : u.length ≤ 1000000 := h6
  replace h7 : v.length ≤ 1000000 := h7
  have oK : TabOk Tryz.prog Door.cfg Kp := copy_ok (okr40 tab0_ok) okR6 (g := 37) (t := C33) rfl
  refine EvP.freshV oK (n := 40) (by kernel_rfl) (by kernel_rfl) (args' := [.agg [aBool a, aBool b, aBool c, aBool e, aK .i64 w, aK .i64 p, aK .u8 kd], aStr u, aStr v]) rfl (rc21 a b c e w p kd u v _ ?_)
  generalize hd : (⟨a, b, c, e, w, p, kd⟩ : Dir) = d
  have q1 : w = d.width := by rw [← hd]
  have q2 : -1 ≤ d.prec := by rw [← hd]; exact h3
  have q3 : 0 ≤ d.kind ∧ d.kind ≤ 255 := by rw [← hd]; exact ⟨h4, h5⟩
  rw [wrap_in (x := w - (u.length : Int)) (by omega) (by omega), wrap_in (by omega) (by omega)]
  generalize hn : w - (u.length : Int) - (v.length : Int) = n
  have hw : n ≤ 255 := by omega
  have hP : padF d u v = if d.minus then u ++ v ++ timesF 32 n else if d.zero ∧ (d.kind = 102 ∨ whole.contains (UInt8.ofNat d.kind.toNat) = true ∧ d.prec = -1) then u ++ timesF 48 n ++ v else timesF 32 n ++ u ++ v := by
   rw [← hn, q1]; rfl
  have l1 := times_len 32 n
  have l2 := times_len 48 n
  have L : d.minus = true → pdL n u v fun y => y = aStr (padF d u v) := by
   intro hm
   unfold pdL
   rw [fits_big (by omega) (by omega), iteP_t]
   refine wsP_ok (.inl rfl) hw ?_
   rw [fits_big (by rw [List.length_append]; omega) (by omega), iteP_t, hP, if_pos hm]
  have Z : d.minus = false → d.zero ∧ (d.kind = 102 ∨ whole.contains (UInt8.ofNat d.kind.toNat) = true ∧ d.prec = -1) → pdZ n u v fun y => y = aStr (padF d u v) := by
   intro hm hz
   refine wsP_ok (.inr rfl) hw ?_
   rw [fits_big (by omega) (by omega), iteP_t, fits_big (by rw [List.length_append]; omega) (by omega), iteP_t, hP, if_neg (by rw [hm]; decide), if_pos hz]
  have R : d.minus = false → ¬ (d.zero ∧ (d.kind = 102 ∨ whole.contains (UInt8.ofNat d.kind.toNat) = true ∧ d.prec = -1)) → pdR n u v fun y => y = aStr (padF d u v) := by
   intro hm hz
   refine wsP_ok (.inl rfl) hw ?_
   rw [fits_big (by omega) (by omega), iteP_t, fits_big (by rw [List.length_append]; omega) (by omega), iteP_t, hP, if_neg (by rw [hm]; decide), if_neg hz]
  refine ⟨by decide, fun q hq => ?_⟩
  rw [whole_has q3.1 q3.2] at hq
  cases hm : d.minus with
  | true =>
   rw [iteP_t]
   cases q with
   | true => rw [iteP_t]; exact L hm
   | false => rw [iteP_f, iteP_t]; exact L hm
  | false =>
   rw [iteP_f]
   cases hz : d.zero with
   | false =>
    have := R hm (fun h => by rw [hz] at h; exact absurd h.1 (by decide))
    cases q with
    | true => rw [iteP_t, iteP_f]; exact this
    | false => rw [iteP_f, iteP_f, iteP_f]; exact this
   | true =>
    by_cases k1 : d.kind = 102
    ·rw [show (d.kind == 102) = true by simpa using k1]
     have := Z hm ⟨hz, .inl k1⟩
     cases q with
     | true => rw [iteP_t, iteP_t, iteP_t]; exact this
     | false => rw [iteP_f, iteP_f, iteP_t, iteP_t]; exact this
    ·rw [show (d.kind == 102) = false by simpa using k1]
     cases q with
     | true =>
      rw [iteP_t, iteP_t, iteP_f]
      by_cases hp : d.prec < 0
      ·rw [decide_eq_true hp, iteP_t]
       exact Z hm ⟨hz, .inr ⟨hq.symm, by omega⟩⟩
      ·rw [decide_eq_false hp, iteP_f]
       exact R hm (fun h => by rcases h.2 with h | h; exact k1 h; omega)
     | false =>
      rw [iteP_f, iteP_f, iteP_t, iteP_f]
      exact R hm (fun h => by rcases h.2 with h | h; exact k1 h; rw [← hq] at h; exact absurd h.1 (by decide))
 ·cases hs
end
end Go.Proofs.Pr
namespace Go.Proofs.Pr
open Go Go.Ef
noncomputable section
def tkF (n : Int) (l : Cells) : Int × Cells := if n = -2 then (takeF l, l.drop 1) else (n, l)
def Cr39 (args : List AV) (h : Heap) : Option CSpec :=
 match args with
 | [.sc (.int .i64 n), .sl l 0] => some (nspec ((n = -2 → 1 ≤ l.length) ∧ goodsB l = true) (tkF n l) (fun x => .tup [aK .i64 x.1, .sl x.2 0, aK .i64 0]) h)
 | [.sc (.int .i64 n), .sc (.slice none 0 0)] => some (nspec (n ≠ -2) n (fun x => .tup [aK .i64 x, nilA, aK .i64 0]) h)
 | _ => none
def Kk : Tab := (tab0.addC 41 Cr41).addC 42 Cr42
def Kr : Tab := tab0.addC 39 Cr39
end
end Go.Proofs.Pr
namespace Go.Proofs.Pr
open Go Go.Ef
noncomputable section
set_option maxRecDepth 100000
def P39 (n : Int) (l : Cells) (K : AV → Prop) : Prop :=
 iteP (n != (-2 : Int)) (K (.tup [aK .i64 n, .sl l 0, aK .i64 0])) (iteP ((l.length : Int) == 0) (K (.tup [aK .i64 0, nilA, aK .i64 18])) (iteP (inRange 0 l.length)
  (getI 0 l = some [aK .i64 (headK l), aK .i64 (headN l), aStr (headS l)] ∧ (headS l).length ≤ 1000000 ∧ ∀ x : Int, x = numberF (headK l) (headN l) (headS l) → True ∧ ∀ y : Int, y = (nearF x).tdiv 10000 →
   iteP (headLen 3 l) (iteP (true && decide ((1 : Int) ≤ (l.length : Int))) (K (.tup [aK .i64 y, .sl (l.drop 1) 0, aK .i64 0])) False) False) False))
theorem rc39 (n : Int) (l : Cells) (K : AV → Prop) (h : P39 n l K) : wpCall Kk Door.cfg Tryz.prog 40 39 [aK .i64 n, .sl l 0] heapF fun r h' => wpBack h' r K := Eq.mp (by kernel_rfl) h
theorem rc39n (n : Int) (K : AV → Prop) (h : iteP (n != (-2 : Int)) (K (.tup [aK .i64 n, nilA, aK .i64 0])) (K (.tup [aK .i64 0, nilA, aK .i64 18]))) : wpCall Kk Door.cfg Tryz.prog 40 39 [aK .i64 n, nilA] heapF fun r h' => wpBack h' r K := Eq.mp (by kernel_rfl) h
def rbad (d : Dir) (e : Int) (K : AV → Prop) : Prop := K (.tup [.agg d.cells, nilA, aK .i64 e])
def reE (d : Dir) (sl : AV) (K : AV → Prop) : Prop := iteP (decide (255 < d.width)) (rbad d 2 K) (iteP (decide (255 < d.prec)) (rbad d 2 K) (K (.tup [.agg d.cells, sl, aK .i64 0])))
def reA (ex : Bool) (d : Dir) (y : Int) (sl : AV) (K : AV → Prop) : Prop := iteP ex (iteP (decide (y < 0)) (reE { d with prec := -1 } sl K) (reE { d with prec := y } sl K)) (reE { d with prec := y } sl K)
def reW (gv ex : Bool) (d : Dir) (x y : Int) (sl : AV) (K : AV → Prop) : Prop := iteP gv (iteP (decide (x < 0)) (reA ex { d with minus := true, width := IntKind.i64.wrap (0 - x) } y sl K) (reA ex { d with width := x } y sl K)) (reA ex { d with width := x } y sl K)
def reT (gv ex : Bool) (d : Dir) (l : Cells) (K : AV → Prop) : Prop := ((d.width = -2 → 1 ≤ l.length) ∧ goodsB l = true) ∧ ∀ x : Int × Cells, x = tkF d.width l → ((d.prec = -2 → 1 ≤ x.2.length) ∧ goodsB x.2 = true) ∧ ∀ y : Int × Cells, y = tkF d.prec x.2 → reW gv ex d x.1 y.1 (.sl y.2 0) K
def reS (d : Dir) (l : Cells) (K : AV → Prop) : Prop := iteP (d.width == -2) (iteP (d.prec == -2) (reT true true d l K) (reT true false d l K)) (iteP (d.prec == -2) (reT false true d l K) (reT false false d l K))
def reN (n : Int) (d : Dir) (l : Cells) (K : AV → Prop) : Prop := iteP (decide ((l.length : Int) < n)) (rbad d 18 K) (reS d l K)
def P20 (d : Dir) (l : Cells) (K : AV → Prop) : Prop :=
 iteP (d.width == -2) (iteP (d.prec == -2) (iteP (d.kind != 37) (reN 3 d l K) (reN 2 d l K)) (iteP (d.kind != 37) (reN 2 d l K) (reN 1 d l K))) (iteP (d.prec == -2) (iteP (d.kind != 37) (reN 2 d l K) (reN 1 d l K)) (iteP (d.kind != 37) (reN 1 d l K) (reN 0 d l K)))
theorem rc20 (a b c e : Bool) (w p kd : Int) (l : Cells) (K : AV → Prop) (h : P20 ⟨a, b, c, e, w, p, kd⟩ l K) : wpCall Kr Door.cfg Tryz.prog 40 20 [.agg [aBool a, aBool b, aBool c, aBool e, aK .i64 w, aK .i64 p, aK .u8 kd], .sl l 0] heapF fun r h' => wpBack h' r K := Eq.mp (by kernel_rfl) h
def reTn (gv ex : Bool) (d : Dir) (K : AV → Prop) : Prop := d.width ≠ -2 ∧ ∀ x : Int, x = d.width → d.prec ≠ -2 ∧ ∀ y : Int, y = d.prec → reW gv ex d x y nilA K
def reSn (d : Dir) (K : AV → Prop) : Prop := iteP (d.width == -2) (iteP (d.prec == -2) (reTn true true d K) (reTn true false d K)) (iteP (d.prec == -2) (reTn false true d K) (reTn false false d K))
def P20n (d : Dir) (K : AV → Prop) : Prop :=
 iteP (d.width == -2) (iteP (d.prec == -2) (iteP (d.kind != 37) (rbad d 18 K) (rbad d 18 K)) (iteP (d.kind != 37) (rbad d 18 K) (rbad d 18 K))) (iteP (d.prec == -2) (iteP (d.kind != 37) (rbad d 18 K) (rbad d 18 K)) (iteP (d.kind != 37) (rbad d 18 K) (reSn d K)))
theorem rc20n (a b c e : Bool) (w p kd : Int) (K : AV → Prop) (h : P20n ⟨a, b, c, e, w, p, kd⟩ K) : wpCall Kr Door.cfg Tryz.prog 40 20 [.agg [aBool a, aBool b, aBool c, aBool e, aK .i64 w, aK .i64 p, aK .u8 kd], nilA] heapF fun r h' => wpBack h' r K := Eq.mp (by kernel_rfl) h
end
end Go.Proofs.Pr
namespace Go.Proofs.Pr
open Go Go.Ef
noncomputable section
set_option maxRecDepth 100000
theorem okr39 {T : Tab} (O : TabOk Tryz.prog Door.cfg T) : TabOk Tryz.prog Door.cfg (T.addC 39 Cr39) := by
 have oK : TabOk Tryz.prog Door.cfg Kk := okr42 (okr41 tab0_ok)
 refine addC_ok O fun args h s hs hp => ?_
 unfold Cr39 at hs
 split at hs
 ·rename_i n l
  refine nspec_ok (Option.some.inj hs) (fun hpre => ?_) hp
  obtain ⟨h1, h2⟩ := hpre
  refine EvP.freshV oK (n := 40) (by kernel_rfl) (by kernel_rfl) (args' := [aK .i64 n, .sl l 0]) rfl (rc39 n l _ ?_)
  unfold P39
  by_cases hn : n = -2
  ·have hl := h1 hn
   obtain ⟨g1, g2, g3, g4, g5⟩ := head_ok h2 hl
   rw [show (n != (-2 : Int)) = false by rw [hn]; rfl, iteP_f, show ((l.length : Int) == 0) = false from beq_false_of_ne (by omega), iteP_f, g1, iteP_t]
   refine ⟨g2, g5, fun x hx => ⟨trivial, fun y hy => ?_⟩⟩
   rw [g3, iteP_t, g4]
   show iteP true _ _
   rw [iteP_t]
   unfold tkF
   rw [if_pos hn, hy, hx]; rfl
  ·rw [show (n != (-2 : Int)) = true by simpa using hn, iteP_t]
   unfold tkF
   rw [if_neg hn]
 ·rename_i n
  refine nspec_ok (Option.some.inj hs) (fun hpre => ?_) hp
  refine EvP.freshV oK (n := 40) (by kernel_rfl) (by kernel_rfl) (args' := [aK .i64 n, nilA]) rfl (rc39n n _ ?_)
  rw [show (n != (-2 : Int)) = true by simpa using hpre, iteP_t]
 ·cases hs
theorem okKr : TabOk Tryz.prog Door.cfg Kr := okr39 tab0_ok
def goodEnd (d : Dir) (l : Cells) (x : Dir × Int × Cells) : Prop := x = resolveF d l ∧ x.2.1 = 0
def badEnd (d : Dir) (l : Cells) (x : Dir × Int) : Prop := x.2 = (resolveF d l).2.1 ∧ x.2 ≠ 0
def Kq (d : Dir) (l : Cells) (v : AV) : Prop := (∃ x : Dir × Int × Cells, goodEnd d l x ∧ v = .tup [.agg x.1.cells, .sl x.2.2 0, aK .i64 0]) ∨ (∃ x : Dir × Int, badEnd d l x ∧ v = .tup [.agg x.1.cells, nilA, aK .i64 x.2])
def Kqn (d : Dir) (v : AV) : Prop := (∃ x : Dir × Int × Cells, goodEnd d [] x ∧ v = .tup [.agg x.1.cells, nilA, aK .i64 0]) ∨ (∃ x : Dir × Int, badEnd d [] x ∧ v = .tup [.agg x.1.cells, nilA, aK .i64 x.2])
def Cr20 (args : List AV) (h : Heap) : Option CSpec :=
 match args with
 | [.agg [.sc (.bool a), .sc (.bool b), .sc (.bool c), .sc (.bool e), .sc (.int .i64 w), .sc (.int .i64 p), .sc (.int .u8 kd)], .sl l 0] => some { pre := goodsB l = true ∧ -2 ≤ w ∧ -2 ≤ p, alts := [{ α := Dir × Int × Cells, post := goodEnd ⟨a, b, c, e, w, p, kd⟩ l, val := fun x => .tup [.agg x.1.cells, .sl x.2.2 0, aK .i64 0], heap := fun _ => h }, { α := Dir × Int, post := badEnd ⟨a, b, c, e, w, p, kd⟩ l, val := fun x => .tup [.agg x.1.cells, nilA, aK .i64 x.2], heap := fun _ => h }] }
 | [.agg [.sc (.bool a), .sc (.bool b), .sc (.bool c), .sc (.bool e), .sc (.int .i64 w), .sc (.int .i64 p), .sc (.int .u8 kd)], .sc (.slice none 0 0)] => some { pre := True, alts := [{ α := Dir × Int × Cells, post := goodEnd ⟨a, b, c, e, w, p, kd⟩ [], val := fun x => .tup [.agg x.1.cells, nilA, aK .i64 0], heap := fun _ => h }, { α := Dir × Int, post := badEnd ⟨a, b, c, e, w, p, kd⟩ [], val := fun x => .tup [.agg x.1.cells, nilA, aK .i64 x.2], heap := fun _ => h }] }
 | _ => none
theorem reE_ok {d0 d : Dir} {l0 l : Cells} {sl : AV} {K : AV → Prop} (hR : resolveF d0 l0 = resE (d, l)) (hbad : ∀ x, badEnd d0 l0 x → K (.tup [.agg x.1.cells, nilA, aK .i64 x.2])) (hgood : goodEnd d0 l0 (d, 0, l) → K (.tup [.agg d.cells, sl, aK .i64 0])) : reE d sl K := by
 have hE : resE (d, l) = if d.width > 255 ∨ d.prec > 255 then (d, 2, l) else (d, 0, l) := rfl
 unfold reE
 by_cases h1 : 255 < d.width
 ·rw [decide_eq_true h1, iteP_t]
  exact hbad (d, 2) ⟨by rw [hR, hE, if_pos (.inl h1)], (by decide : (2 : Int) ≠ 0)⟩
 ·rw [decide_eq_false h1, iteP_f]
  by_cases h2 : 255 < d.prec
  ·rw [decide_eq_true h2, iteP_t]
   exact hbad (d, 2) ⟨by rw [hR, hE, if_pos (.inr h2)], (by decide : (2 : Int) ≠ 0)⟩
  ·rw [decide_eq_false h2, iteP_f]
   exact hgood ⟨by rw [hR, hE, if_neg (by rintro (h | h); exact h1 h; exact h2 h)], rfl⟩
theorem reA_ok {d0 d : Dir} {l0 l : Cells} {ex : Bool} (hR : resolveF d0 l0 = resE (resP (d, l))) (hex : ex = decide (d.prec = -2)) {y : Int × Cells} (hy : y = tkF d.prec l) : reA ex d y.1 (.sl y.2 0) (Kq d0 l0) := by
 have fin : ∀ (d' : Dir) (l' : Cells), resolveF d0 l0 = resE (d', l') → reE d' (.sl l' 0) (Kq d0 l0) := fun d' l' h => reE_ok h (fun x hx => .inr ⟨x, hx, rfl⟩) (fun hx => .inl ⟨(d', 0, l'), hx, rfl⟩)
 unfold reA
 by_cases hp : d.prec = -2
 ·rw [resP_yes (x := (d, l)) hp] at hR
  unfold tkF at hy
  rw [if_pos hp] at hy
  subst hy
  rw [hex, decide_eq_true hp, iteP_t]
  replace hR : resolveF d0 l0 = resE ({ d with prec := max (takeF l) (-1) }, l.drop 1) := hR
  by_cases ht : takeF l < 0
  ·rw [decide_eq_true ht, iteP_t]
   refine fin _ _ ?_
   rw [hR, show max (takeF l) (-1) = -1 by omega]
  ·rw [decide_eq_false ht, iteP_f]
   refine fin _ _ ?_
   rw [hR, show max (takeF l) (-1) = takeF l by omega]
 ·have hP : resP (d, l) = (d, l) := if_neg hp
  rw [hP] at hR
  unfold tkF at hy
  rw [if_neg hp] at hy
  subst hy
  rw [hex, decide_eq_false hp, iteP_f]
  exact fin _ _ hR
theorem take_bnd (l : Cells) : -1000000000 ≤ takeF l ∧ takeF l ≤ 1000000000 := by
 have := near_le (numberF (headK l) (headN l) (headS l))
 exact tdiv_le this.1 this.2
theorem reT_ok {d : Dir} {l : Cells} (hg : goodsB l = true) (hn : needF d ≤ l.length) {gv ex : Bool} (hgv : gv = decide (d.width = -2)) (hex : ex = decide (d.prec = -2)) : reT gv ex d l (Kq d l) := by
 have hR : resolveF d l = resE (resP (resW d l)) := if_neg (by omega)
 unfold needF at hn
 refine ⟨⟨fun hw => by rw [if_pos hw] at hn; omega, hg⟩, fun x hx => ?_⟩
 unfold tkF at hx
 have hb := take_bnd l
 by_cases hw : d.width = -2
 ·rw [if_pos hw] at hx hn
  subst hx
  refine ⟨⟨fun hp => by rw [if_pos hp] at hn; show 1 ≤ (l.drop 1).length; rw [List.length_drop]; omega, goods_drop hg 1⟩, fun y hy => ?_⟩
  unfold reW
  rw [hgv, decide_eq_true hw, iteP_t]
  by_cases ht : takeF l < 0
  ·rw [resW_neg hw ht] at hR
   rw [decide_eq_true ht, iteP_t, wrap_in (by omega) (by omega), show 0 - takeF l = -takeF l by omega]
   exact reA_ok hR hex hy
  ·rw [resW_pos hw ht] at hR
   rw [decide_eq_false ht, iteP_f]
   exact reA_ok hR hex hy
 ·have hW : resW d l = (d, l) := if_neg hw
  rw [hW] at hR
  rw [if_neg hw] at hx hn
  subst hx
  refine ⟨⟨fun hp => by rw [if_pos hp] at hn; show 1 ≤ l.length; omega, hg⟩, fun y hy => ?_⟩
  unfold reW
  rw [hgv, decide_eq_false hw, iteP_f]
  exact reA_ok hR hex hy
theorem reN_ok {d : Dir} {l : Cells} (hg : goodsB l = true) {n : Int} (hn : n = (needF d : Nat)) : reN n d l (Kq d l) := by
 unfold reN
 by_cases h : (l.length : Int) < n
 ·rw [decide_eq_true h, iteP_t]
  have hR : resolveF d l = (d, 18, l) := if_pos (by omega)
  exact .inr ⟨(d, 18), ⟨by rw [hR], (by decide : (18 : Int) ≠ 0)⟩, rfl⟩
 ·rw [decide_eq_false h, iteP_f]
  have hl : needF d ≤ l.length := by omega
  unfold reS
  by_cases hw : d.width = -2
  ·rw [show (d.width == -2) = true by simpa using hw, iteP_t]
   by_cases hp : d.prec = -2
   ·rw [show (d.prec == -2) = true by simpa using hp, iteP_t]
    exact reT_ok hg hl (decide_eq_true hw).symm (decide_eq_true hp).symm
   ·rw [show (d.prec == -2) = false by simpa using hp, iteP_f]
    exact reT_ok hg hl (decide_eq_true hw).symm (decide_eq_false hp).symm
  ·rw [show (d.width == -2) = false by simpa using hw, iteP_f]
   by_cases hp : d.prec = -2
   ·rw [show (d.prec == -2) = true by simpa using hp, iteP_t]
    exact reT_ok hg hl (decide_eq_false hw).symm (decide_eq_true hp).symm
   ·rw [show (d.prec == -2) = false by simpa using hp, iteP_f]
    exact reT_ok hg hl (decide_eq_false hw).symm (decide_eq_false hp).symm
theorem p20_ok {d : Dir} {l : Cells} (hg : goodsB l = true) : P20 d l (Kq d l) := by
 unfold P20
 have hN : needF d = (if d.width = -2 then 1 else 0) + (if d.prec = -2 then 1 else 0) + (if d.kind = 37 then 0 else 1) := rfl
 have kd : ∀ (A B : Prop), (d.kind ≠ 37 → A) → (d.kind = 37 → B) → iteP (d.kind != 37) A B := by
  intro A B ha hb
  by_cases hk : d.kind = 37
  ·rw [show (d.kind != 37) = false by rw [hk]; rfl, iteP_f]; exact hb hk
  ·rw [show (d.kind != 37) = true by simpa using hk, iteP_t]; exact ha hk
 by_cases hw : d.width = -2
 ·rw [show (d.width == -2) = true by simpa using hw, iteP_t]
  rw [if_pos hw] at hN
  by_cases hp : d.prec = -2
  ·rw [show (d.prec == -2) = true by simpa using hp, iteP_t]
   rw [if_pos hp] at hN
   exact kd _ _ (fun hk => reN_ok hg (by rw [hN, if_neg hk]; rfl)) (fun hk => reN_ok hg (by rw [hN, if_pos hk]; rfl))
  ·rw [show (d.prec == -2) = false by simpa using hp, iteP_f]
   rw [if_neg hp] at hN
   exact kd _ _ (fun hk => reN_ok hg (by rw [hN, if_neg hk]; rfl)) (fun hk => reN_ok hg (by rw [hN, if_pos hk]; rfl))
 ·rw [show (d.width == -2) = false by simpa using hw, iteP_f]
  rw [if_neg hw] at hN
  by_cases hp : d.prec = -2
  ·rw [show (d.prec == -2) = true by simpa using hp, iteP_t]
   rw [if_pos hp] at hN
   exact kd _ _ (fun hk => reN_ok hg (by rw [hN, if_neg hk]; rfl)) (fun hk => reN_ok hg (by rw [hN, if_pos hk]; rfl))
  ·rw [show (d.prec == -2) = false by simpa using hp, iteP_f]
   rw [if_neg hp] at hN
   exact kd _ _ (fun hk => reN_ok hg (by rw [hN, if_neg hk]; rfl)) (fun hk => reN_ok hg (by rw [hN, if_pos hk]; rfl))
theorem p20n_ok (d : Dir) : P20n d (Kqn d) := by
 unfold P20n
 have bad : 1 ≤ needF d → rbad d 18 (Kqn d) := by
  intro h
  have hR : resolveF d [] = (d, 18, []) := if_pos h
  exact .inr ⟨(d, 18), ⟨by rw [hR], (by decide : (18 : Int) ≠ 0)⟩, rfl⟩
 have hN : needF d = (if d.width = -2 then 1 else 0) + (if d.prec = -2 then 1 else 0) + (if d.kind = 37 then 0 else 1) := rfl
 have same : ∀ (q : Bool) (A : Prop), A → iteP q A A := by intro q A h; cases q <;> exact h
 by_cases hw : d.width = -2
 ·rw [show (d.width == -2) = true by simpa using hw, iteP_t]
  rw [if_pos hw] at hN
  have B := bad (by omega)
  exact same _ _ (same _ _ B)
 ·rw [show (d.width == -2) = false by simpa using hw, iteP_f]
  by_cases hp : d.prec = -2
  ·rw [show (d.prec == -2) = true by simpa using hp, iteP_t]
   rw [if_pos hp] at hN
   have B := bad (by omega)
   exact same _ _ B
  ·rw [show (d.prec == -2) = false by simpa using hp, iteP_f]
   by_cases hk : d.kind = 37
   ·rw [show (d.kind != 37) = false by rw [hk]; rfl, iteP_f]
    unfold reSn
    rw [show (d.width == -2) = false by simpa using hw, iteP_f, show (d.prec == -2) = false by simpa using hp, iteP_f]
    refine ⟨hw, fun x hx => ⟨hp, fun y hy => ?_⟩⟩
    have hR : resolveF d [] = resE (resP (resW d [])) := if_neg (by rw [hN, if_neg hw, if_neg hp, if_pos hk]; decide)
    rw [show resW d [] = (d, []) from if_neg hw, show resP (d, []) = (d, []) from if_neg hp] at hR
    unfold reW reA
    rw [iteP_f, iteP_f, hx, hy]
    exact reE_ok hR (fun x hx => .inr ⟨x, hx, rfl⟩) (fun hx => .inl ⟨(d, 0, []), hx, rfl⟩)
   ·rw [show (d.kind != 37) = true by simpa using hk, iteP_t]
    rw [if_neg hk] at hN
    exact bad (by omega)
theorem okr20 {T : Tab} (O : TabOk Tryz.prog Door.cfg T) : TabOk Tryz.prog Door.cfg (T.addC 20 Cr20) := by
 refine addC_ok O fun args h s hs hp => ?_
 unfold Cr20 at hs
 split at hs
 ·rename_i a b c e w p kd l
  cases Option.some.inj hs
  obtain ⟨m, v, h', g1, g2, rfl⟩ := EvP.freshK okKr (n := 40) (h := h) (by kernel_rfl) (by kernel_rfl) (args := [.agg [aBool a, aBool b, aBool c, aBool e, aK .i64 w, aK .i64 p, aK .u8 kd], .sl l 0]) (args' := [.agg [aBool a, aBool b, aBool c, aBool e, aK .i64 w, aK .i64 p, aK .u8 kd], .sl l 0]) rfl (rc20 a b c e w p kd l _ (p20_ok hp.1))
  rcases g2 with ⟨x, hx, rfl⟩ | ⟨x, hx, rfl⟩
  ·exact ⟨_, .head _, x, m, hx, g1⟩
  ·exact ⟨_, .tail _ (.head _), x, m, hx, g1⟩
 ·rename_i a b c e w p kd
  cases Option.some.inj hs
  obtain ⟨m, v, h', g1, g2, rfl⟩ := EvP.freshK okKr (n := 40) (h := h) (by kernel_rfl) (by kernel_rfl) (args := [.agg [aBool a, aBool b, aBool c, aBool e, aK .i64 w, aK .i64 p, aK .u8 kd], nilA]) (args' := [.agg [aBool a, aBool b, aBool c, aBool e, aK .i64 w, aK .i64 p, aK .u8 kd], nilA]) rfl (rc20n a b c e w p kd _ (p20n_ok _))
  rcases g2 with ⟨x, hx, rfl⟩ | ⟨x, hx, rfl⟩
  ·exact ⟨_, .head _, x, m, hx, g1⟩
  ·exact ⟨_, .tail _ (.head _), x, m, hx, g1⟩
 ·cases hs
end
end Go.Proofs.Pr
namespace Go.Proofs.Pr
open Go Go.Ef
noncomputable section
structure ROk (f : List UInt8) (l : Cells) : Prop where
 hf : okS f
 hfl : f.length ≤ 60
 hl : Small l
def Ir7 (f : List UInt8) (a : AV) (out : List UInt8) (i : Int) : St := stOf 85 [(0, sStr f), (1, .v a), (7, sStr out), (8, sInt i)] [] heapF
def Er7 (out : List UInt8) : St := stOf 85 [(4, .unk), (5, .unk), (7, sStr out)] [] heapF
def Jr7 (e : Int) (out : List UInt8) : St := stOf 85 [(4, sStr []), (5, sInt e), (7, sStr out)] [] heapF
def rdSl (τ : St) (K : Cells → Prop) : Prop :=
 match τ.at 1 with
 | .v (.sl l 0) => K l
 | _ => False
def qR7 (X : Int → Prop) (Y : List UInt8 → Prop) (e : Ex) (τ : St) : Prop :=
 match e with
 | .ret => τ = Jr7 (slI τ 5) (slS τ 7) ∧ X (slI τ 5)
 | .exit 0 => τ = Er7 (slS τ 7) ∧ Y (slS τ 7)
 | _ => False
def altsR7 (f : List UInt8) (l : Cells) : List LAlt := [{ α := Int × List UInt8, post := fun x => x.1 = (R f l []).1 ∧ x.1 ≠ 0, ex := .ret, st := fun x => Jr7 x.1 x.2 }, { α := List UInt8, post := fun x => (R f l []).1 = 0 ∧ x = (R f l []).2.2, ex := .exit 0, st := fun x => Er7 x }]
def Lr7 (σ : St) : Option LSpec :=
 match σ.at 0, σ.at 1, σ.at 7, σ.at 8 with
 | .v (.sc (.string f)), .v (.sl l 0), .v (.sc (.string out)), .v (.sc (.int .i64 i)) => some { pre := σ.tidy [0, 1, 7, 8] 0 = Ir7 f.data.toList (.sl l 0) out.data.toList i ∧ out.data.toList.isEmpty = true ∧ i = 0 ∧ ROk f.data.toList l, alts := altsR7 f.data.toList l }
 | .v (.sc (.string f)), .v (.sc (.slice none 0 0)), .v (.sc (.string out)), .v (.sc (.int .i64 i)) => some { pre := σ.tidy [0, 1, 7, 8] 0 = Ir7 f.data.toList nilA out.data.toList i ∧ out.data.toList.isEmpty = true ∧ i = 0 ∧ ROk f.data.toList [], alts := altsR7 f.data.toList [] }
 | _, _, _, _ => none
def Ks : Tab := (((tab0.addC 19 C20).addC 20 Cr20).addC 21 Cr21).addC 22 Cr22
def Kv : Tab := (tab0.addC 18 C9).addL 7 7 Lr7
end
end Go.Proofs.Pr
namespace Go.Proofs.Pr
open Go Go.Ef
noncomputable section
set_option maxRecDepth 100000
theorem rv7 (f : List UInt8) (l : Cells) (out : List UInt8) (i : Int) (N : Cells → List UInt8 → Int → Prop) (X : Int → Prop) (Y : List UInt8 → Prop) (h :
 iteP (decide (i < (↑f.length : Int)))
 (iteP (inRange i f.length)
 (iteP (byteAt f i != (37 : Int))
 (iteP
 (decide ((0 : Int) ≤ i) &&
 (decide (i ≤ IntKind.i64.wrap (i + (1 : Int))) &&
 decide (IntKind.i64.wrap (i + (1 : Int)) ≤ (↑f.length : Int))))
 (iteP (strFits out (cutL f i (IntKind.i64.wrap (i + (1 : Int)))))
 (Ir7 f (AV.sl l (0 : Nat)) (out ++ cutL f i (IntKind.i64.wrap (i + (1 : Int))))
 (IntKind.i64.wrap (i + (1 : Int))) =
 Ir7 f (AV.sl l (0 : Nat)) (out ++ cutL f i (IntKind.i64.wrap (i + (1 : Int))))
 (IntKind.i64.wrap (i + (1 : Int))) ∧
 N l (out ++ cutL f i (IntKind.i64.wrap (i + (1 : Int)))) (IntKind.i64.wrap (i + (1 : Int))))
 False)
 False)
 ((f.length ≤ (1000000 : Nat) ∧
 (0 : Int) ≤ IntKind.i64.wrap (i + (1 : Int)) ∧ IntKind.i64.wrap (i + (1 : Int)) ≤ (↑f.length : Int)) ∧
 ∀ (x : Dir × Int × Int),
 x.snd.snd = (0 : Int) ∧
 (0 : Int) ≤ x.snd.fst ∧
 x.snd.fst ≤ (↑f.length : Int) ∧
 readR (List.drop (IntKind.i64.wrap (i + (1 : Int))).toNat f) =
 (x.fst, List.drop x.snd.fst.toNat f, (0 : Int)) ∨
 x.snd.snd ≠ (0 : Int) ∧
 (readR (List.drop (IntKind.i64.wrap (i + (1 : Int))).toNat f)).snd.snd = x.snd.snd →
 (goodsB l = true ∧ (-2 : Int) ≤ x.fst.width ∧ (-2 : Int) ≤ x.fst.prec) ∧
 (∀ (x_1 : Dir × Int × Cells),
 goodEnd (Dir.mk x.fst.minus x.fst.zero x.fst.plus x.fst.space x.fst.width x.fst.prec x.fst.kind) l
 x_1 →
 iteP (x_1.fst.kind == (37 : Int))
 (((-1 : Int) ≤ x_1.fst.width ∧
 x_1.fst.width ≤ (255 : Int) ∧
 (-1 : Int) ≤ x_1.fst.prec ∧
 (0 : Int) ≤ x_1.fst.kind ∧
 x_1.fst.kind ≤ (255 : Int) ∧
 (0 : Nat) ≤ (1000000 : Nat) ∧ (1 : Nat) ≤ (1000000 : Nat)) ∧
 ∀ (x_2 : List UInt8),
 x_2 =
 padF
 (Dir.mk x_1.fst.minus x_1.fst.zero x_1.fst.plus x_1.fst.space x_1.fst.width x_1.fst.prec
 x_1.fst.kind)
 [] [(37 : UInt8)] →
 iteP (strFits out x_2)
 (Ir7 f (AV.sl x_1.snd.snd (0 : Nat)) (out ++ x_2) x.snd.fst =
 Ir7 f (AV.sl x_1.snd.snd (0 : Nat)) (out ++ x_2) x.snd.fst ∧
 N x_1.snd.snd (out ++ x_2) x.snd.fst)
 False)
 (iteP (inRange (0 : Int) (List.length x_1.snd.snd))
 (getI (0 : Nat) x_1.snd.snd =
 some
 [AV.sc (Value.int IntKind.i64 (cellInt x_1.snd.snd (0 : Int) (0 : Nat))),
 AV.sc (Value.int IntKind.i64 (cellInt x_1.snd.snd (0 : Int) (1 : Nat))),
 AV.sc
 (Value.string (ByteArray.mk (Array.mk (cellStr x_1.snd.snd (0 : Int) (2 : Nat)))))] ∧
 ((-1 : Int) ≤ x_1.fst.prec ∧
 x_1.fst.prec ≤ (255 : Int) ∧
 (cellStr x_1.snd.snd (0 : Int) (2 : Nat)).length ≤ (1000000 : Nat)) ∧
 ∀ (x_2 : List UInt8 × List UInt8),
 x_2 =
 bodyF
 (Dir.mk x_1.fst.minus x_1.fst.zero x_1.fst.plus x_1.fst.space x_1.fst.width
 x_1.fst.prec x_1.fst.kind)
 (cellInt x_1.snd.snd (0 : Int) (0 : Nat)) (cellInt x_1.snd.snd (0 : Int) (1 : Nat))
 (cellStr x_1.snd.snd (0 : Int) (2 : Nat)) →
 iteP (headLen (3 : Nat) x_1.snd.snd)
 (iteP (true && decide ((1 : Int) ≤ (↑(List.length x_1.snd.snd) : Int)))
 (((-1 : Int) ≤ x_1.fst.width ∧
 x_1.fst.width ≤ (255 : Int) ∧
 (-1 : Int) ≤ x_1.fst.prec ∧
 (0 : Int) ≤ x_1.fst.kind ∧
 x_1.fst.kind ≤ (255 : Int) ∧
 x_2.fst.length ≤ (1000000 : Nat) ∧ x_2.snd.length ≤ (1000000 : Nat)) ∧
 ∀ (x_3 : List UInt8),
 x_3 =
 padF
 (Dir.mk x_1.fst.minus x_1.fst.zero x_1.fst.plus x_1.fst.space
 x_1.fst.width x_1.fst.prec x_1.fst.kind)
 x_2.fst x_2.snd →
 iteP (strFits out x_3)
 (Ir7 f (AV.sl (List.drop (1 : Nat) x_1.snd.snd) (0 : Nat)) (out ++ x_3)
 x.snd.fst =
 Ir7 f (AV.sl (List.drop (1 : Nat) x_1.snd.snd) (0 : Nat)) (out ++ x_3)
 x.snd.fst ∧
 N (List.drop (1 : Nat) x_1.snd.snd) (out ++ x_3) x.snd.fst)
 False)
 False)
 False)
 False)) ∧
 ∀ (x_1 : Dir × Int),
 badEnd (Dir.mk x.fst.minus x.fst.zero x.fst.plus x.fst.space x.fst.width x.fst.prec x.fst.kind) l
 x_1 →
 iteP (x_1.snd != (0 : Int)) (Jr7 x_1.snd out = Jr7 x_1.snd out ∧ X x_1.snd)
 (iteP (x_1.fst.kind == (37 : Int))
 (((-1 : Int) ≤ x_1.fst.width ∧
 x_1.fst.width ≤ (255 : Int) ∧
 (-1 : Int) ≤ x_1.fst.prec ∧
 (0 : Int) ≤ x_1.fst.kind ∧
 x_1.fst.kind ≤ (255 : Int) ∧
 (0 : Nat) ≤ (1000000 : Nat) ∧ (1 : Nat) ≤ (1000000 : Nat)) ∧
 ∀ (x : List UInt8),
 x =
 padF
 (Dir.mk x_1.fst.minus x_1.fst.zero x_1.fst.plus x_1.fst.space x_1.fst.width
 x_1.fst.prec x_1.fst.kind)
 [] [(37 : UInt8)] →
 iteP (strFits out x) False False)
 False)))
 False)
 (Er7 out = Er7 out ∧ Y out)) :
 (fun (f : List UInt8) (l : Cells) (out : List UInt8) (i : Int) (N : Cells → List UInt8 → Int → Prop) (X : Int → Prop) (Y : List UInt8 → Prop) => wpRound Ks Door.cfg Tryz.prog 40 7 7 (Ir7 f (.sl l 0) out i) (fun τ => rdSl τ fun l' => τ = Ir7 f (.sl l' 0) (slS τ 7) (slI τ 8) ∧ N l' (slS τ 7) (slI τ 8)) (qR7 X Y)) f l out i N X Y :=
 Eq.mp (by kernel_rfl) h
theorem rv7n (f : List UInt8) (out : List UInt8) (i : Int) (N : List UInt8 → Int → Prop) (X : Int → Prop) (Y : List UInt8 → Prop) (h :
 iteP (decide (i < (↑f.length : Int)))
 (iteP (inRange i f.length)
 (iteP (byteAt f i != (37 : Int))
 (iteP
 (decide ((0 : Int) ≤ i) &&
 (decide (i ≤ IntKind.i64.wrap (i + (1 : Int))) &&
 decide (IntKind.i64.wrap (i + (1 : Int)) ≤ (↑f.length : Int))))
 (iteP (strFits out (cutL f i (IntKind.i64.wrap (i + (1 : Int)))))
 (Ir7 f (AV.sc (Value.slice none (0 : Nat) (0 : Nat))) (out ++ cutL f i (IntKind.i64.wrap (i + (1 : Int))))
 (IntKind.i64.wrap (i + (1 : Int))) =
 Ir7 f (AV.sc (Value.slice none (0 : Nat) (0 : Nat))) (out ++ cutL f i (IntKind.i64.wrap (i + (1 : Int))))
 (IntKind.i64.wrap (i + (1 : Int))) ∧
 N (out ++ cutL f i (IntKind.i64.wrap (i + (1 : Int)))) (IntKind.i64.wrap (i + (1 : Int))))
 False)
 False)
 ((f.length ≤ (1000000 : Nat) ∧
 (0 : Int) ≤ IntKind.i64.wrap (i + (1 : Int)) ∧ IntKind.i64.wrap (i + (1 : Int)) ≤ (↑f.length : Int)) ∧
 ∀ (x : Dir × Int × Int),
 x.snd.snd = (0 : Int) ∧
 (0 : Int) ≤ x.snd.fst ∧
 x.snd.fst ≤ (↑f.length : Int) ∧
 readR (List.drop (IntKind.i64.wrap (i + (1 : Int))).toNat f) =
 (x.fst, List.drop x.snd.fst.toNat f, (0 : Int)) ∨
 x.snd.snd ≠ (0 : Int) ∧
 (readR (List.drop (IntKind.i64.wrap (i + (1 : Int))).toNat f)).snd.snd = x.snd.snd →
 True ∧
 (∀ (x_1 : Dir × Int × Cells),
 goodEnd (Dir.mk x.fst.minus x.fst.zero x.fst.plus x.fst.space x.fst.width x.fst.prec x.fst.kind) []
 x_1 →
 iteP (x_1.fst.kind == (37 : Int))
 (((-1 : Int) ≤ x_1.fst.width ∧
 x_1.fst.width ≤ (255 : Int) ∧
 (-1 : Int) ≤ x_1.fst.prec ∧
 (0 : Int) ≤ x_1.fst.kind ∧
 x_1.fst.kind ≤ (255 : Int) ∧
 (0 : Nat) ≤ (1000000 : Nat) ∧ (1 : Nat) ≤ (1000000 : Nat)) ∧
 ∀ (x_2 : List UInt8),
 x_2 =
 padF
 (Dir.mk x_1.fst.minus x_1.fst.zero x_1.fst.plus x_1.fst.space x_1.fst.width x_1.fst.prec
 x_1.fst.kind)
 [] [(37 : UInt8)] →
 iteP (strFits out x_2)
 (Ir7 f (AV.sc (Value.slice none (0 : Nat) (0 : Nat))) (out ++ x_2) x.snd.fst =
 Ir7 f (AV.sc (Value.slice none (0 : Nat) (0 : Nat))) (out ++ x_2) x.snd.fst ∧
 N (out ++ x_2) x.snd.fst)
 False)
 False) ∧
 ∀ (x_1 : Dir × Int),
 badEnd (Dir.mk x.fst.minus x.fst.zero x.fst.plus x.fst.space x.fst.width x.fst.prec x.fst.kind) []
 x_1 →
 iteP (x_1.snd != (0 : Int)) (Jr7 x_1.snd out = Jr7 x_1.snd out ∧ X x_1.snd)
 (iteP (x_1.fst.kind == (37 : Int))
 (((-1 : Int) ≤ x_1.fst.width ∧
 x_1.fst.width ≤ (255 : Int) ∧
 (-1 : Int) ≤ x_1.fst.prec ∧
 (0 : Int) ≤ x_1.fst.kind ∧
 x_1.fst.kind ≤ (255 : Int) ∧
 (0 : Nat) ≤ (1000000 : Nat) ∧ (1 : Nat) ≤ (1000000 : Nat)) ∧
 ∀ (x_2 : List UInt8),
 x_2 =
 padF
 (Dir.mk x_1.fst.minus x_1.fst.zero x_1.fst.plus x_1.fst.space x_1.fst.width
 x_1.fst.prec x_1.fst.kind)
 [] [(37 : UInt8)] →
 iteP (strFits out x_2)
 (Ir7 f (AV.sc (Value.slice none (0 : Nat) (0 : Nat))) (out ++ x_2) x.snd.fst =
 Ir7 f (AV.sc (Value.slice none (0 : Nat) (0 : Nat))) (out ++ x_2) x.snd.fst ∧
 N (out ++ x_2) x.snd.fst)
 False)
 False)))
 False)
 (Er7 out = Er7 out ∧ Y out)) :
 (fun (f : List UInt8) (out : List UInt8) (i : Int) (N : List UInt8 → Int → Prop) (X : Int → Prop) (Y : List UInt8 → Prop) => wpRound Ks Door.cfg Tryz.prog 40 7 7 (Ir7 f nilA out i) (fun τ => τ = Ir7 f nilA (slS τ 7) (slI τ 8) ∧ N (slS τ 7) (slI τ 8)) (qR7 X Y)) f out i N X Y :=
 Eq.mp (by kernel_rfl) h
theorem rc7 (f : List UInt8) (l : Cells) (K : AV → Prop) (h :
 f.length.le (1000000 : Nat) ∧
 ∀ (x : Int),
 x = checkR (f.length + (1 : Nat)) f →
 iteP (x != (0 : Int))
 (K (AV.tup [AV.sc (Value.string (ByteArray.mk (Array.mk []))), AV.sc (Value.int IntKind.i64 x)]))
 (loopAt Tryz.prog (7 : Nat) (7 : Nat) = loopAt Tryz.prog (7 : Nat) (7 : Nat) ∧
 (Ir7 f (AV.sl l (0 : Nat)) [] (0 : Int) = Ir7 f (AV.sl l (0 : Nat)) [] (0 : Int) ∧
 true = true ∧ (0 : Int) = (0 : Int) ∧ ROk f l) ∧
 (∀ (x : Int × List UInt8),
 x.fst = (R f l []).fst ∧ x.fst ≠ (0 : Int) →
 K (AV.tup [AV.sc (Value.string (ByteArray.mk (Array.mk []))), AV.sc (Value.int IntKind.i64 x.fst)])) ∧
 ∀ (x : List UInt8),
 (R f l []).fst = (0 : Int) ∧ x = (R f l []).snd.snd →
 iteP (decide ((16384 : Int) < (↑x.length : Int)))
 (K
 (AV.tup
 [AV.sc (Value.string (ByteArray.mk (Array.mk []))), AV.sc (Value.int IntKind.i64 (3 : Int))]))
 (K
 (AV.tup
 [AV.sc (Value.string (ByteArray.mk (Array.mk x))), AV.sc (Value.int IntKind.i64 (0 : Int))])))) :
 (fun (f : List UInt8) (l : Cells) (K : AV → Prop) => wpCall Kv Door.cfg Tryz.prog 40 7 [aStr f, .sl l 0] heapF fun r h' => wpBack h' r K) f l K :=
 Eq.mp (by kernel_rfl) h
theorem rc7n (f : List UInt8) (K : AV → Prop) (h :
 f.length.le (1000000 : Nat) ∧
 ∀ (x : Int),
 x = checkR (f.length + (1 : Nat)) f →
 iteP (x != (0 : Int))
 (K (AV.tup [AV.sc (Value.string (ByteArray.mk (Array.mk []))), AV.sc (Value.int IntKind.i64 x)]))
 (loopAt Tryz.prog (7 : Nat) (7 : Nat) = loopAt Tryz.prog (7 : Nat) (7 : Nat) ∧
 (Ir7 f (AV.sc (Value.slice none (0 : Nat) (0 : Nat))) [] (0 : Int) =
 Ir7 f (AV.sc (Value.slice none (0 : Nat) (0 : Nat))) [] (0 : Int) ∧
 true = true ∧ (0 : Int) = (0 : Int) ∧ ROk f []) ∧
 (∀ (x : Int × List UInt8),
 x.fst = (R f [] []).fst ∧ x.fst ≠ (0 : Int) →
 K (AV.tup [AV.sc (Value.string (ByteArray.mk (Array.mk []))), AV.sc (Value.int IntKind.i64 x.fst)])) ∧
 ∀ (x : List UInt8),
 (R f [] []).fst = (0 : Int) ∧ x = (R f [] []).snd.snd →
 iteP (decide ((16384 : Int) < (↑x.length : Int)))
 (K
 (AV.tup
 [AV.sc (Value.string (ByteArray.mk (Array.mk []))), AV.sc (Value.int IntKind.i64 (3 : Int))]))
 (K
 (AV.tup
 [AV.sc (Value.string (ByteArray.mk (Array.mk x))), AV.sc (Value.int IntKind.i64 (0 : Int))])))) :
 (fun (f : List UInt8) (K : AV → Prop) => wpCall Kv Door.cfg Tryz.prog 40 7 [aStr f, nilA] heapF fun r h' => wpBack h' r K) f K :=
 Eq.mp (by kernel_rfl) h
end
end Go.Proofs.Pr
namespace Go.Proofs.Pr
open Go Go.Ef
noncomputable section
set_option maxRecDepth 100000
theorem skip_facts {c : UInt8} {r : List UInt8} (hc : c ≠ 37) : hasPct (c :: r) = hasPct r ∧ before (c :: r) = c :: before r ∧ after (c :: r) = after r := by
 have hp : (c != 37) = true := by simpa using hc
 refine ⟨?_, ?_, ?_⟩
 ·unfold hasPct
  rw [List.contains_cons, show ((37 : UInt8) == c) = false by simpa using fun h : (37 : UInt8) = c => hc h.symm]; rfl
 ·unfold before
  rw [List.takeWhile_cons, hp]; rfl
 ·unfold after
  rw [List.dropWhile_cons, hp]; rfl
theorem okS_skip {c : UInt8} {r : List UInt8} (hc : c ≠ 37) (h : okS (c :: r)) : okS r := by
 obtain ⟨s1, s2, s3⟩ := skip_facts (r := r) hc
 unfold okS
 rw [check_succ]
 cases hp : hasPct r with
 | false => rfl
 | true =>
  obtain ⟨h0, h1, h2⟩ := okS_step h (s1.trans hp)
  unfold restAt at h1
  rw [s3] at h0 h1
  have hl := rest_len hp h0
  rw [if_pos rfl, if_pos h0]
  unfold okS at h1
  exact (checkF_more _ _ (Nat.lt_succ_self _) _ (by show (restAt r).length < r.length; omega)).symm.trans h1
theorem R_skip {c : UInt8} {r : List UInt8} (hc : c ≠ 37) (h : okS (c :: r)) (l : Cells) (o : List UInt8) : R (c :: r) l o = R r l (o ++ [c]) := by
 obtain ⟨s1, s2, s3⟩ := skip_facts (r := r) hc
 have hd : dirAt (c :: r) = dirAt r := by unfold dirAt; rw [s3]
 have hr : restAt (c :: r) = restAt r := by unfold restAt; rw [s3]
 have hs : resAt (c :: r) l = resAt r l := by unfold resAt; rw [hd]
 rw [R_eq h, R_eq (okS_skip hc h), s1, s2, hr, hs]
 simp
theorem pct_facts (t : List UInt8) : hasPct (37 :: t) = true ∧ before (37 :: t) = [] ∧ after (37 :: t) = t := by
 refine ⟨?_, rfl, rfl⟩
 unfold hasPct
 rw [List.contains_cons]; rfl
theorem R_pct {t : List UInt8} (h : okS (37 :: t)) (l : Cells) (o : List UInt8) : R (37 :: t) l o = if (resolveF (readF t).1 l).2.1 = 0 then (if (resolveF (readF t).1 l).1.kind = 37 then R (readF t).2.1 (resolveF (readF t).1 l).2.2 (o ++ padF (resolveF (readF t).1 l).1 [] [37]) else R (readF t).2.1 ((resolveF (readF t).1 l).2.2.drop 1) (o ++ padF (resolveF (readF t).1 l).1 (bodyAt (resolveF (readF t).1 l)).1 (bodyAt (resolveF (readF t).1 l)).2)) else ((resolveF (readF t).1 l).2.1, (resolveF (readF t).1 l).2.2, o) := by
 obtain ⟨s1, s2, s3⟩ := pct_facts t
 have hd : dirAt (37 :: t) = (readF t).1 := by unfold dirAt; rw [s3]
 have hr : restAt (37 :: t) = (readF t).2.1 := by unfold restAt; rw [s3]
 have hs : resAt (37 :: t) l = resolveF (readF t).1 l := by unfold resAt; rw [hd]
 rw [R_eq h, s1, s2, hr, hs, if_pos rfl, List.append_nil]
def endR7 (T : Int × Cells × List UInt8) (e : Ex) (τ : St) : Prop := (e = .ret ∧ (∃ o, τ = Jr7 T.1 o) ∧ T.1 ≠ 0) ∨ (e = .exit 0 ∧ T.1 = 0 ∧ τ = Er7 T.2.2)
theorem qR7_end {T : Int × Cells × List UInt8} {e : Ex} {τ : St} (h : qR7 (fun x => x = T.1 ∧ x ≠ 0) (fun y => T.1 = 0 ∧ y = T.2.2) e τ) : endR7 T e τ := by
 unfold qR7 at h
 split at h
 ·obtain ⟨h1, h2, h3⟩ := h
  rw [h2] at h1 h3
  exact .inl ⟨rfl, ⟨_, h1⟩, h3⟩
 ·obtain ⟨h1, h2, h3⟩ := h
  rw [h3] at h1
  exact .inr ⟨rfl, h2, h1⟩
 ·exact h.elim
theorem canr7 (f : List UInt8) (a : AV) (out : List UInt8) (i : Int) : (Ir7 f a out i).tidy [0, 1, 7, 8] 0 = Ir7 f a out i := by kernel_rfl
theorem okKs : TabOk Tryz.prog Door.cfg Ks := okr22 (okr21 (okr20 (copy_ok tab0_ok okR6 (g := 19) (t := C20) rfl)))
theorem cut_byte {f : List UInt8} {i : Nat} {c : UInt8} {r : List UInt8} (h : f.drop i = c :: r) : cutL f (i : Int) ((i + 1 : Nat) : Int) = [c] := by
 have : cutL f (i : Int) ((i : Int) + ((1 : Nat) : Int)) = (f.drop i).take 1 := take_cut f i 1
 rw [show ((i + 1 : Nat) : Int) = (i : Int) + ((1 : Nat) : Int) by omega, this, h]; rfl
structure Dr (f t : List UInt8) (l : Cells) (i : Nat) (x : Dir × Int × Int) : Prop where
 d : x.1 = (readF t).1
 r : f.drop x.2.1.toNat = (readF t).2.1
 j0 : 0 ≤ x.2.1
 j : i + 2 ≤ x.2.1.toNat
 jl : x.2.1.toNat ≤ f.length
 ok : okS (readF t).2.1
 w : -2 ≤ x.1.width ∧ x.1.width ≤ 255 ∧ -2 ≤ x.1.prec ∧ x.1.prec ≤ 255 ∧ 0 ≤ x.1.kind ∧ x.1.kind ≤ 255
theorem dr_of {f t : List UInt8} {l : Cells} {i : Nat} (hd : f.drop i = 37 :: t) (h : okS (37 :: t)) {x : Dir × Int × Int}
  (hx : (x.2.2 = 0 ∧ 0 ≤ x.2.1 ∧ x.2.1 ≤ (f.length : Int) ∧ readR t = (x.1, f.drop x.2.1.toNat, 0)) ∨ (x.2.2 ≠ 0 ∧ (readR t).2.2 = x.2.2)) : Dr f t l i x := by
 obtain ⟨s1, s2, s3⟩ := pct_facts t
 obtain ⟨h0, h1, h2⟩ := okS_step h s1
 have hl := rest_len s1 h0
 unfold restAt at h1 hl
 rw [s3] at h0 h1 hl
 rw [readRF] at hx
 rcases hx with ⟨_, q1, q2, q3⟩ | ⟨q1, q2⟩
 ·have e1 : x.1 = (readF t).1 := by rw [q3]
  have e2 : f.drop x.2.1.toNat = (readF t).2.1 := by rw [q3]
  have hfl : (f.drop i).length = f.length - i := List.length_drop
  have hjl : (f.drop x.2.1.toNat).length = f.length - x.2.1.toNat := List.length_drop
  rw [hd] at hfl
  rw [e2] at hjl
  rw [s2, List.length_nil] at hl
  refine ⟨e1, e2, q1, by omega, by omega, h1, ?_⟩
  rw [e1]
  exact readF_le h0
 ·rw [h0] at q2
  exact absurd q2.symm q1
theorem loopr7 {f : List UInt8} (hf60 : f.length ≤ 60) : ∀ (n i : Nat) (l : Cells) (out : List UInt8), f.length - i < n → i ≤ f.length → okS (f.drop i) → Small l → out.length ≤ 400 * i →
  Ev Door.cfg Tryz.prog 7 (.loop (loopAt Tryz.prog 7 7)) (Ir7 f (.sl l 0) out i) (endR7 (R (f.drop i) l out)) := by
 intro n
 induction n with
 | zero => intro i l out h; omega
 | succ n ih =>
  intro i l out hn hi hok hl hout
  refine Ev.round (t := ⟨[0, 1, 7, 8], [4, 5, 7], 0⟩) okKs (by kernel_rfl) rfl (canr7 _ _ _ _) (rv7 f l out i (fun l' o j => ∃ k : Nat, j = k ∧ f.length - k < n ∧ k ≤ f.length ∧ okS (f.drop k) ∧ Small l' ∧ o.length ≤ 400 * k ∧ R (f.drop k) l' o = R (f.drop i) l out) (fun x => x = (R (f.drop i) l out).1 ∧ x ≠ 0) (fun y => (R (f.drop i) l out).1 = 0 ∧ y = (R (f.drop i) l out).2.2) ?_) (fun τ h => ?_) (fun e τ h => qR7_end h)
  ·have hj : IntKind.i64.wrap ((i : Int) + 1) = ((i + 1 : Nat) : Int) := by rw [wrap_in (by omega) (by omega)]; rfl
   rw [hj]
   rcases hr : f.drop i with _ | ⟨c, r⟩
   ·have := drop_end (k := (i : Int)) (by rw [Int.toNat_natCast]; exact hr)
    rw [decide_eq_false (by omega), iteP_f]
    have hR : R [] l out = (0, l, out ++ []) := by rw [hr] at hok; rw [R_eq hok]; rfl
    refine ⟨rfl, by rw [hR], by rw [hR, List.append_nil]⟩
   ·obtain ⟨e1, e2, e3⟩ := byteAt_drop (l := f) (k := (i : Int)) (by rw [Int.toNat_natCast]; exact hr)
    rw [Int.toNat_natCast] at e2 e3
    rw [hr] at hok
    rw [decide_eq_true (by omega), iteP_t, show inRange (i : Int) f.length = true by rw [inRange_iff]; omega, iteP_t, e1]
    by_cases hc : c = 37
    ·subst hc
     rw [show ((((37 : UInt8).toNat : Nat) : Int) != 37) = false from by decide, iteP_f]
     refine ⟨⟨by omega, by omega, by omega⟩, fun x hx => ?_⟩
     rw [Int.toNat_natCast, e3] at hx
     have D : Dr f r l i x := dr_of hr hok hx
     obtain ⟨w1, w2, w3, w4, w5, w6⟩ := D.w
     have hRp := R_pct hok l out
     rw [← D.d, ← D.r] at hRp
     have hjj : (x.2.1.toNat : Int) = x.2.1 := Int.toNat_of_nonneg D.j0
     have hj2 := D.j
     have hjl := D.jl
     have hokj : okS (f.drop x.2.1.toNat) := by rw [D.r]; exact D.ok
     refine ⟨⟨hl.goods, w1, w3⟩, fun y hy => ?_, fun y hy => ?_⟩
     ·obtain ⟨y1, y2⟩ := hy
      replace y1 : y = resolveF x.1 l := y1
      rw [← y1] at hRp
      rw [if_pos y2] at hRp
      obtain ⟨k1, k2, k3, k4, k5, ⟨k, k6⟩, k7⟩ := resolve_k x.1 l (by rw [← y1]; exact y2) w1 w3
      rw [← y1] at k1 k2 k3 k4 k5 k6 k7
      have hsm : Small y.2.2 := by rw [k6]; exact hl.drop k
      have next : ∀ (l' : Cells) (p : List UInt8), Small l' → p.length ≤ 400 → R (f.drop x.2.1.toNat) l' (out ++ p) = R (37 :: r) l out → iteP (strFits out p) (Ir7 f (.sl l' 0) (out ++ p) x.2.1 = Ir7 f (.sl l' 0) (out ++ p) x.2.1 ∧ ∃ k : Nat, x.2.1 = k ∧ f.length - k < n ∧ k ≤ f.length ∧ okS (f.drop k) ∧ Small l' ∧ (out ++ p).length ≤ 400 * k ∧ R (f.drop k) l' (out ++ p) = R (37 :: r) l out) False := by
       intro l' p h1 h2 h3
       rw [fits_big (by omega) (by omega), iteP_t]
       exact ⟨rfl, x.2.1.toNat, hjj.symm, by omega, hjl, hokj, h1, by rw [List.length_append]; omega, h3⟩
      by_cases hk : y.1.kind = 37
      ·rw [show (y.1.kind == 37) = true by simpa using hk, iteP_t]
       rw [if_pos hk] at hRp
       refine ⟨⟨k2, k3, k4, by omega, by omega, by decide, by decide⟩, fun p hp => ?_⟩
       replace hp : p = padF y.1 [] [37] := hp
       exact next _ p hsm (by rw [hp]; exact pad_small y.1 [] [37] k3 (by decide)) (by rw [hp]; exact hRp.symm)
      ·rw [show (y.1.kind == 37) = false by simpa using hk, iteP_f]
       rw [if_neg hk] at hRp
       obtain ⟨g1, g2, g3, g4, g5⟩ := head_ok hsm.goods (k7 (by rw [← k1]; exact hk))
       have hbl := body_len (d := y.1) k5 (headK y.2.2) (headN y.2.2) hsm.head
       rw [g1, iteP_t]
       refine ⟨g2, ⟨k4, k5, g5⟩, fun z hz => ?_⟩
       replace hz : z = bodyAt y := hz
       have hzl : z.1.length + z.2.length ≤ 400 := by rw [hz]; exact hbl
       rw [g3, iteP_t, g4]
       show iteP true _ _
       rw [iteP_t]
       refine ⟨⟨k2, k3, k4, by omega, by omega, by omega, by omega⟩, fun p hp => ?_⟩
       replace hp : p = padF y.1 z.1 z.2 := hp
       exact next _ p (hsm.drop 1) (by rw [hp]; exact pad_small y.1 _ _ k3 hzl) (by rw [hp, hz]; exact hRp.symm)
     ·obtain ⟨y1, y2⟩ := hy
      replace y1 : y.2 = (resolveF x.1 l).2.1 := y1
      rw [← y1, if_neg y2] at hRp
      rw [show (y.2 != 0) = true by simpa using y2, iteP_t]
      exact ⟨rfl, by rw [hRp], y2⟩
    ·rw [show ((c.toNat : Int) != 37) = true by
      have := beq_byte c 37 (by decide)
      rw [bne, show ((c.toNat : Int) == 37) = (c == 37) from this]
      simpa using hc, iteP_t]
     rw [show (decide ((0 : Int) ≤ (i : Int)) && (decide ((i : Int) ≤ ((i + 1 : Nat) : Int)) && decide (((i + 1 : Nat) : Int) ≤ (f.length : Int)))) = true by rw [decide_eq_true (by omega), decide_eq_true (by omega), decide_eq_true (by omega)]; rfl, iteP_t, cut_byte hr, fits_big (by omega) (Nat.le_trans (Nat.le_refl 1) (by decide)), iteP_t]
     refine ⟨rfl, i + 1, rfl, by omega, by omega, by rw [e3]; exact okS_skip hc hok, hl, by rw [List.length_append, List.length_singleton]; omega, ?_⟩
     rw [e3]
     exact (R_skip hc hok l out).symm
  ·unfold rdSl at h
   split at h
   ·obtain ⟨h1, k, h2, h3, h4, h5, h6, h7, h8⟩ := h
    rw [h1, h2, ← h8]
    exact ih k _ _ h3 h4 h5 h6 h7
   ·exact h.elim
end
end Go.Proofs.Pr
