/- A part of the proof: definitions and lemmas. -/
import Derived.Test.YtfgocjmkefeeeaaGreatDoorFormatsG
import Derived.Test.YtfgocjmkefeeeaaGreatDoorRows
import Derived.Lib.LaidTab
import Derived.Stop.LaidErr
import Derived.DataReads
import GoSem.ClaimChange
import Derived.WalkKit
import Derived.ProofKit
import Derived.Handy
import Derived.Lay
import Derived.Carry
import Derived.ChangeOld
namespace Go.Proofs.Pr
open Go Go.Ef
noncomputable section
set_option maxRecDepth 100000
theorem loopr7n {f : List UInt8} (hf60 : f.length ≤ 60) : ∀ (n i : Nat) (out : List UInt8), f.length - i < n → i ≤ f.length → okS (f.drop i) → out.length ≤ 400 * i →
  Ev Door.cfg Tryz.prog 7 (.loop (loopAt Tryz.prog 7 7)) (Ir7 f nilA out i) (endR7 (R (f.drop i) [] out)) := by
 intro n
 induction n with
 | zero => intro i out h; omega
 | succ n ih =>
  intro i out hn hi hok hout
  refine Ev.round (t := ⟨[0, 1, 7, 8], [4, 5, 7], 0⟩) okKs (by kernel_rfl) rfl (canr7 _ _ _ _) (rv7n f out i (fun o j => ∃ k : Nat, j = k ∧ f.length - k < n ∧ k ≤ f.length ∧ okS (f.drop k) ∧ o.length ≤ 400 * k ∧ R (f.drop k) [] o = R (f.drop i) [] out) (fun x => x = (R (f.drop i) [] out).1 ∧ x ≠ 0) (fun y => (R (f.drop i) [] out).1 = 0 ∧ y = (R (f.drop i) [] out).2.2) ?_) (fun τ h => ?_) (fun e τ h => qR7_end h)
  ·have hj : IntKind.i64.wrap ((i : Int) + 1) = ((i + 1 : Nat) : Int) := by rw [wrap_in (by omega) (by omega)]; rfl
   rw [hj]
   rcases hr : f.drop i with _ | ⟨c, r⟩
   ·have := drop_end (k := (i : Int)) (by rw [Int.toNat_natCast]; exact hr)
    rw [decide_eq_false (by omega), iteP_f]
    have hR : R [] [] out = (0, [], out ++ []) := by rw [hr] at hok; rw [R_eq hok]; rfl
    refine ⟨rfl, by rw [hR], by rw [hR, List.append_nil]⟩
   ·obtain ⟨e1, e2, e3⟩ := byteAt_drop (l := f) (k := (i : Int)) (by rw [Int.toNat_natCast]; exact hr)
    rw [Int.toNat_natCast] at e2 e3
    rw [hr] at hok
    rw [decide_eq_true (by omega), iteP_t, show inRange (i : Int) f.length = true by rw [inRange_iff]; omega, iteP_t, e1]
    by_cases hc : c = 37
    ·subst hc
     rw [show ((((37 : UInt8).toNat : Nat) : Int) != 37) = false from by decide, iteP_f]
     refine ⟨⟨by omega, by omega, by omega⟩, fun x hx => ?_⟩
     rw [Int.toNat_natCast, e3] at hx
     have D : Dr f r [] i x := dr_of hr hok hx
     obtain ⟨w1, w2, w3, w4, w5, w6⟩ := D.w
     have hRp := R_pct hok [] out
     rw [← D.d, ← D.r] at hRp
     have hjj : (x.2.1.toNat : Int) = x.2.1 := Int.toNat_of_nonneg D.j0
     have hj2 := D.j
     have hjl := D.jl
     have hokj : okS (f.drop x.2.1.toNat) := by rw [D.r]; exact D.ok
     refine ⟨trivial, fun y hy => ?_, fun y hy => ?_⟩
     ·obtain ⟨y1, y2⟩ := hy
      replace y1 : y = resolveF x.1 [] := y1
      rw [← y1] at hRp
      rw [if_pos y2] at hRp
      obtain ⟨k1, k2, k3, k4, k5, ⟨k, k6⟩, k7⟩ := resolve_k x.1 [] (by rw [← y1]; exact y2) w1 w3
      rw [← y1] at k1 k2 k3 k4 k5 k6 k7
      have hnil : y.2.2 = [] := by rw [k6, List.drop_nil]
      have hk : y.1.kind = 37 := by
       apply Classical.byContradiction
       intro hk
       have := k7 (by rw [← k1]; exact hk)
       rw [hnil] at this
       exact absurd this (by decide)
      rw [show (y.1.kind == 37) = true by simpa using hk, iteP_t]
      rw [if_pos hk, hnil] at hRp
      refine ⟨⟨k2, k3, k4, by omega, by omega, by decide, by decide⟩, fun p hp => ?_⟩
      replace hp : p = padF y.1 [] [37] := hp
      have hpl : p.length ≤ 400 := by rw [hp]; exact pad_small y.1 [] [37] k3 (by decide)
      rw [fits_big (by omega) (by omega), iteP_t]
      exact ⟨rfl, x.2.1.toNat, hjj.symm, by omega, hjl, hokj, by rw [List.length_append]; omega, by rw [hp]; exact hRp.symm⟩
     ·obtain ⟨y1, y2⟩ := hy
      replace y1 : y.2 = (resolveF x.1 []).2.1 := y1
      rw [← y1, if_neg y2] at hRp
      rw [show (y.2 != 0) = true by simpa using y2, iteP_t]
      exact ⟨rfl, by rw [hRp], y2⟩
    ·rw [show ((c.toNat : Int) != 37) = true by
      have := beq_byte c 37 (by decide)
      rw [bne, show ((c.toNat : Int) == 37) = (c == 37) from this]
      simpa using hc, iteP_t]
     rw [show (decide ((0 : Int) ≤ (i : Int)) && (decide ((i : Int) ≤ ((i + 1 : Nat) : Int)) && decide (((i + 1 : Nat) : Int) ≤ (f.length : Int)))) = true by rw [decide_eq_true (by omega), decide_eq_true (by omega), decide_eq_true (by omega)]; rfl, iteP_t, cut_byte hr, fits_big (by omega) (Nat.le_trans (Nat.le_refl 1) (by decide)), iteP_t]
     refine ⟨rfl, i + 1, rfl, by omega, by omega, by rw [e3]; exact okS_skip hc hok, by rw [List.length_append, List.length_singleton]; omega, ?_⟩
     rw [e3]
     exact (R_skip hc hok [] out).symm
  ·obtain ⟨h1, k, h2, h3, h4, h5, h6, h7⟩ := h
   rw [h1, h2, ← h7]
   exact ih k _ h3 h4 h5 h6
theorem alts_of {f : List UInt8} {l : Cells} {σ : St} (h : Ev Door.cfg Tryz.prog 7 (.loop (loopAt Tryz.prog 7 7)) σ (endR7 (R f l []))) : ∃ a ∈ altsR7 f l, ∃ x, a.post x ∧ ∃ m, evCode Door.cfg Tryz.prog m 7 (.loop (loopAt Tryz.prog 7 7)) σ = some (a.ex, a.st x) := by
 obtain ⟨m, e, τ, g1, g2 | g2⟩ := h
 ·obtain ⟨rfl, ⟨o, rfl⟩, h3⟩ := g2
  exact ⟨_, .head _, ((R f l []).1, o), ⟨rfl, h3⟩, m, g1⟩
 ·obtain ⟨rfl, h2, rfl⟩ := g2
  exact ⟨_, .tail _ (.head _), (R f l []).2.2, ⟨h2, rfl⟩, m, g1⟩
theorem okKv : TabOk Tryz.prog Door.cfg Kv := by
 refine addL_ok (copy_ok tab0_ok okR6 (g := 18) (t := C9) rfl) fun σ s hs hp => ?_
 unfold Lr7 at hs
 split at hs
 ·rename_i f l out i _ _ _ _
  cases Option.some.inj hs
  obtain ⟨h1, h2, h3, h4⟩ := hp
  have h2' : out.data.toList = [] := by simpa using h2
  refine alts_of (Ev.tidied (t := ⟨[0, 1, 7, 8], [4, 5, 7], 0⟩) (τ := Ir7 f.data.toList (.sl l 0) [] ((0 : Nat) : Int)) (by kernel_rfl) (by rw [h1, h2', h3]; exact (canr7 _ _ _ _).symm) ?_)
  have := loopr7 h4.hfl (f.data.toList.length + 1) 0 l [] (by omega) (Nat.zero_le _) (by rw [List.drop_zero]; exact h4.hf) h4.hl (Nat.le_refl _)
  rw [List.drop_zero] at this
  exact this
 ·rename_i f out i _ _ _ _
  cases Option.some.inj hs
  obtain ⟨h1, h2, h3, h4⟩ := hp
  have h2' : out.data.toList = [] := by simpa using h2
  refine alts_of (Ev.tidied (t := ⟨[0, 1, 7, 8], [4, 5, 7], 0⟩) (τ := Ir7 f.data.toList nilA [] ((0 : Nat) : Int)) (by kernel_rfl) (by rw [h1, h2', h3]; exact (canr7 _ _ _ _).symm) ?_)
  have := loopr7n h4.hfl (f.data.toList.length + 1) 0 [] (by omega) (Nat.zero_le _) (by rw [List.drop_zero]; exact h4.hf) (Nat.le_refl _)
  rw [List.drop_zero] at this
  exact this
 ·cases hs
structure RIn (f : List UInt8) (l : Cells) : Prop where
 hfl : f.length ≤ 60
 hl : Small l
def Cr7 (args : List AV) (h : Heap) : Option CSpec :=
 match args with
 | [.sc (.string s), .sl l 0] => some (nspec (RIn s.data.toList l) (sprintfF s.data.toList l) (fun x => .tup [aStr x.1, aK .i64 x.2]) h)
 | [.sc (.string s), .sc (.slice none 0 0)] => some (nspec (RIn s.data.toList []) (sprintfF s.data.toList []) (fun x => .tup [aStr x.1, aK .i64 x.2]) h)
 | _ => none
theorem spf {f : List UInt8} {l : Cells} (h : RIn f l) (A : Prop) (K : AV → Prop) (ha : okS f → A) (hk : K (.tup [aStr (sprintfF f l).1, aK .i64 (sprintfF f l).2])) :
  f.length.le (1000000 : Nat) ∧ ∀ x : Int, x = checkR (f.length + 1) f → iteP (x != 0) (K (.tup [aStr [], aK .i64 x])) (loopAt Tryz.prog 7 7 = loopAt Tryz.prog 7 7 ∧ A ∧ (∀ y : Int × List UInt8, y.1 = (R f l []).1 ∧ y.1 ≠ 0 → K (.tup [aStr [], aK .i64 y.1])) ∧
   ∀ y : List UInt8, (R f l []).1 = 0 ∧ y = (R f l []).2.2 → iteP (decide ((16384 : Int) < (y.length : Int))) (K (.tup [aStr [], aK .i64 3])) (K (.tup [aStr y, aK .i64 0]))) := by
 have hfl := h.hfl
 refine ⟨Nat.le_trans hfl (by decide), fun x hx => ?_⟩
 rw [← checks_agree _ _ (Nat.lt_succ_self _)] at hx
 by_cases h0 : x = 0
 ·rw [show (x != 0) = false by rw [h0]; rfl, iteP_f]
  have hok : okS f := hx.symm.trans h0
  have hs := sp_eq hok h.hl hfl
  refine ⟨rfl, ha hok, fun y hy => ?_, fun y hy => ?_⟩
  ·obtain ⟨y1, y2⟩ := hy
   rw [if_pos (by rw [← y1]; exact y2)] at hs
   rw [hs, ← y1] at hk
   exact hk
  ·obtain ⟨y1, y2⟩ := hy
   rw [if_neg (fun h => h y1)] at hs
   rw [hs, ← y2] at hk
   have hb := (run_small _ f (Nat.lt_succ_self _) hok l h.hl).2 []
   replace hb : (R f l []).2.2.length ≤ 0 + f.length * 200 := hb
   rw [← y2] at hb
   rw [decide_eq_false (by omega), iteP_f]
   exact hk
 ·rw [show (x != 0) = true by simpa using h0, iteP_t]
  have hs : sprintfF f l = ([], x) := by
   unfold sprintfF
   rw [← hx, if_pos h0]
  rw [hs] at hk
  exact hk
theorem okr7 {T : Tab} (O : TabOk Tryz.prog Door.cfg T) : TabOk Tryz.prog Door.cfg (T.addC 7 Cr7) := by
 refine addC_ok O fun args h s hs hp => ?_
 unfold Cr7 at hs
 split at hs
 ·rename_i s0 l
  obtain ⟨⟨f⟩⟩ := s0
  refine nspec_ok (Option.some.inj hs) (fun hpre => ?_) hp
  exact EvP.freshV okKv (n := 40) (by kernel_rfl) (by kernel_rfl) (args' := [aStr f, .sl l 0]) rfl (rc7 f l _ (spf (f := f) (l := l) hpre (Ir7 f (.sl l 0) [] 0 = Ir7 f (.sl l 0) [] 0 ∧ true = true ∧ (0 : Int) = 0 ∧ ROk f l) (fun v => v = .tup [aStr (sprintfF f l).1, aK .i64 (sprintfF f l).2]) (fun hok => ⟨rfl, rfl, rfl, hok, hpre.hfl, hpre.hl⟩) rfl))
 ·rename_i s0
  obtain ⟨⟨f⟩⟩ := s0
  refine nspec_ok (Option.some.inj hs) (fun hpre => ?_) hp
  exact EvP.freshV okKv (n := 40) (by kernel_rfl) (by kernel_rfl) (args' := [aStr f, nilA]) rfl (rc7n f _ (spf (f := f) (l := []) hpre (Ir7 f nilA [] 0 = Ir7 f nilA [] 0 ∧ true = true ∧ (0 : Int) = 0 ∧ ROk f []) (fun v => v = .tup [aStr (sprintfF f []).1, aK .i64 (sprintfF f []).2]) (fun hok => ⟨rfl, rfl, rfl, hok, hpre.hfl, hpre.hl⟩) rfl))
 ·cases hs
end
end Go.Proofs.Pr
namespace Go.Proofs.Pr
open Go Go.Ef
noncomputable section
set_option maxRecDepth 100000
theorem v14 (s : List UInt8) (l : Cells) (k : Int) (N : Int → Prop) (X : Prop) (E : Ex → Prop) (h :
 iteP (decide (k < (↑(List.length l) : Int))) (iteP (decide (10 ≤ k)) (J14 s = J14 s ∧ X) (iteP (inRange k (List.length l)) (getI k.toNat l = some [AV.sc (Value.int IntKind.i64 (cellInt l k 0)), AV.sc (Value.int IntKind.i64 (cellInt l k 1)), AV.sc (Value.string (ByteArray.mk (Array.mk (cellStr l k 2))))] ∧ iteP (decide (60 < (↑(cellStr l k 2).length : Int))) (J14 s = J14 s ∧ X)
 (I14 s l (IntKind.i64.wrap (k + 1)) = I14 s l (IntKind.i64.wrap (k + 1)) ∧ N (IntKind.i64.wrap (k + 1)))) False)) (E14 s = E14 s ∧ E (Ex.exit 0))) :
 (fun (s : List UInt8) (l : Cells) (k : Int) (N : Int → Prop) (X : Prop) (E : Ex → Prop) => wpRound tab0 Door.cfg Tryz.prog 40 4 3 (I14 s l k) (fun τ => τ = I14 s l (slI τ 5) ∧ N (slI τ 5)) (fun e τ => match e with | .ret => τ = J14 s ∧ X | e => τ = E14 s ∧ E e)) s l k N X E :=
 Eq.mp (by kernel_rfl) h
theorem c14 (s : List UInt8) (l : Cells) (K : AV → Prop) (h :
 loopAt Tryz.prog 4 3 = loopAt Tryz.prog 4 3 ∧ (I14 s l 0 = I14 s l 0 ∧ (0 : Int) = 0 ∧ ∀ (e : List AV), List.Mem e l → ∃ (k : Int), ∃ (n : Int), ∃ (s : List UInt8), e = [AV.sc (Value.int IntKind.i64 k), AV.sc (Value.int IntKind.i64 n), AV.sc (Value.string (ByteArray.mk (Array.mk s)))]) ∧ (∀ (_ : Unit), fewL l = true →
 iteP (decide ((↑s.length : Int) ≤ 60)) (K (AV.sc (Value.bool true))) (K (AV.sc (Value.bool false)))) ∧ ∀ (_ : Unit), fewL l = false → K (AV.sc (Value.bool false))) :
 (fun (s : List UInt8) (l : Cells) (K : AV → Prop) => wpCall X1 Door.cfg Tryz.prog 40 4 [aStr s, .sl l 0] heapF fun r h' => wpBack h' r K) s l K :=
 Eq.mp (by kernel_rfl) h
theorem c14n (s : List UInt8) (K : AV → Prop) (h :
 iteP (decide ((↑s.length : Int) ≤ 60)) (K (AV.sc (Value.bool true))) (K (AV.sc (Value.bool false)))) :
 (fun (s : List UInt8) (K : AV → Prop) => wpCall tab0 Door.cfg Tryz.prog 40 4 [aStr s, nilA] heapF fun r h' => wpBack h' r K) s K :=
 Eq.mp (by kernel_rfl) h
end
end Go.Proofs.Pr
namespace Go.Proofs.Pr
open Go Go.Ef
noncomputable section
set_option maxRecDepth 100000
theorem can14 (s : List UInt8) (l : Cells) (k : Int) : (I14 s l k).tidy [0, 1, 5] 0 = I14 s l k := by kernel_rfl
theorem cell_good {l : Cells} {k : Nat} {e : List AV} (h : l[k]? = some e) (g : goodArg e) : getI k l = some [aK .i64 (cellInt l k 0), aK .i64 (cellInt l k 1), aStr (cellStr l k 2)] ∧ shortArg e = decide ((cellStr l k 2).length ≤ 60) := by
 obtain ⟨a, b, c, rfl⟩ := g
 have hg : getI (k : Int).toNat l = some [aK .i64 a, aK .i64 b, aStr c] := by rw [getI_eq]; exact h
 have ca : ∀ j, cellAt l k j = getI j [aK .i64 a, aK .i64 b, aStr c] := fun j => by unfold cellAt; rw [hg]
 have c0 : cellInt l k 0 = a := by unfold cellInt; rw [ca]; rfl
 have c1 : cellInt l k 1 = b := by unfold cellInt; rw [ca]; rfl
 have c2 : cellStr l k 2 = c := by unfold cellStr; rw [ca]; rfl
 rw [c0, c1, c2]
 exact ⟨hg, rfl⟩
theorem few_split (l : Cells) (k : Nat) : fewL l = (decide (l.length ≤ 10) && (l.take k).all shortArg && (l.drop k).all shortArg) := by
 unfold fewL
 conv => lhs; rw [← List.take_append_drop k l]
 rw [List.all_append, List.take_append_drop, Bool.and_assoc]
theorem loop14 (s : List UInt8) (l : Cells) (hl : ∀ e ∈ l, goodArg e) :
  Ev Door.cfg Tryz.prog 4 (.loop (loopAt Tryz.prog 4 3)) (I14 s l 0) fun e τ => (fewL l = true ∧ e = .exit 0 ∧ τ = E14 s) ∨ (fewL l = false ∧ e = .ret ∧ τ = J14 s) := by
 have main := loop_rd (C := Door.cfg) (P := Tryz.prog) tab0_ok (f := 4) (i := 3) (n := 40) (fun x : Int => I14 s l x) (fun τ => slI τ 5) (fun x => 0 ≤ x ∧ x ≤ l.length ∧ x ≤ 10 ∧ (l.take x.toNat).all shortArg = true) (fun x => l.length - x.toNat)
  (K := fun e τ => match e with
   | .ret => τ = J14 s ∧ fewL l = false
   | e => τ = E14 s ∧ (e = .exit 0 ∧ fewL l = true)) (by kernel_rfl)
  (fun x t ht => ?_) (fun x hx => ?_) 0 ⟨Int.le_refl _, by omega, by omega, rfl⟩
 ·refine main.mono fun e τ h => ?_
  cases e with
  | ret => exact .inr ⟨h.2, rfl, h.1⟩
  | normal => cases h.2.1
  | exit j => exact .inl ⟨h.2.2, h.2.1, h.1⟩
 ·replace ht : Door.tidy 4 3 = some t := ht
  cases ht
  exact can14 s l x
 ·obtain ⟨q1, q2, q3, q4⟩ := hx
  obtain ⟨k, rfl⟩ := Int.eq_ofNat_of_zero_le q1
  rw [Int.toNat_natCast] at q4
  refine v14 s l k (fun y => (0 ≤ y ∧ y ≤ l.length ∧ y ≤ 10 ∧ (l.take y.toNat).all shortArg = true) ∧ l.length - y.toNat < l.length - k) (fewL l = false) (fun e => e = .exit 0 ∧ fewL l = true) ?_
  rcases Nat.lt_or_ge k l.length with hk | hk
  ·rw [show decide ((k : Int) < (l.length : Int)) = true by simp; omega, iteP_t]
   by_cases h10 : (10 : Int) ≤ k
   ·rw [decide_eq_true h10, iteP_t]
    refine ⟨rfl, ?_⟩
    unfold fewL
    rw [show decide (l.length ≤ 10) = false by simp; omega]; rfl
   ·rw [decide_eq_false h10, iteP_f, show inRange (k : Int) (List.length l) = true by rw [inRange_iff]; omega, iteP_t]
    have he : l[k]? = some l[k] := List.getElem?_eq_getElem hk
    obtain ⟨g1, g2⟩ := cell_good he (hl _ (List.getElem_mem hk))
    refine ⟨g1, ?_⟩
    have hd : l.drop k = l[k] :: l.drop (k + 1) := List.drop_eq_getElem_cons hk
    by_cases h60 : (60 : Int) < ((cellStr l k 2).length : Int)
    ·rw [decide_eq_true h60, iteP_t]
     refine ⟨rfl, ?_⟩
     rw [few_split l k, hd, List.all_cons, g2, show decide ((cellStr l k 2).length ≤ 60) = false by simp; omega]
     simp
    ·rw [decide_eq_false h60, iteP_f]
     have hj : IntKind.i64.wrap ((k : Int) + 1) = ((k + 1 : Nat) : Int) := by rw [wrap_in (by omega) (by omega)]; rfl
     rw [hj]
     refine ⟨rfl, ⟨by omega, by omega, by omega, ?_⟩, by rw [Int.toNat_natCast]; omega⟩
     rw [Int.toNat_natCast, List.take_add_one, he]
     rw [List.all_append, q4]
     show (true && (shortArg l[k] && true)) = true
     rw [g2]; simp; omega
  ·rw [show decide ((k : Int) < (l.length : Int)) = false by simp; omega, iteP_f]
   refine ⟨rfl, rfl, ?_⟩
   unfold fewL
   rw [List.take_of_length_le hk] at q4
   rw [q4, show decide (l.length ≤ 10) = true by simp; omega]; rfl
theorem okX1 : TabOk Tryz.prog Door.cfg X1 := by
 refine addL_ok tab0_ok fun σ s hs hp => ?_
 unfold L14 at hs
 split at hs
 ·rename_i s0 l k _ _ _
  cases Option.some.inj hs
  obtain ⟨e, h1, h5⟩ := hp
  have := Ev.tidied (C := Door.cfg) (P := Tryz.prog) (b := loopAt Tryz.prog 4 3) (f := 4) (σ := σ) (t := ⟨[0, 1, 5], [0, 4], 0⟩) (τ := I14 s0.data.toList l 0) (by kernel_rfl) (by rw [e, h1]; exact (can14 _ _ _).symm) (loop14 s0.data.toList l h5)
  obtain ⟨m, ex, τ, h2, h3⟩ := this
  rcases h3 with ⟨q1, rfl, rfl⟩ | ⟨q1, rfl, rfl⟩
  ·exact ⟨_, .head _, (), q1, m, h2⟩
  ·exact ⟨_, .tail _ (.head _), (), q1, m, h2⟩
 ·cases hs
theorem ok14 {T : Tab} (O : TabOk Tryz.prog Door.cfg T) : TabOk Tryz.prog Door.cfg (T.addC 4 C14) := by
 refine addC_ok O fun args h s hs hp => ?_
 unfold C14 at hs
 split at hs
 ·rename_i s0 a
  obtain ⟨⟨u⟩⟩ := s0
  refine nspec_ok (Option.some.inj hs) (fun hpre => ?_) hp
  rcases hpre with ⟨l, rfl, hl⟩ | rfl
  ·refine EvP.freshV okX1 (n := 40) (by kernel_rfl) (by kernel_rfl) (args' := [aStr u, .sl l 0]) rfl (c14 u l _ ?_)
   refine ⟨rfl, ⟨rfl, rfl, hl⟩, fun _ h1 => ?_, fun _ h1 => ?_⟩
   ·show iteP _ (_ = aBool (fewL l && decide (u.length ≤ 60))) (_ = aBool (fewL l && decide (u.length ≤ 60)))
    rw [h1]
    by_cases h2 : (u.length : Int) ≤ 60
    ·rw [decide_eq_true h2, iteP_t, show decide (u.length ≤ 60) = true by simp; omega]; rfl
    ·rw [decide_eq_false h2, iteP_f, show decide (u.length ≤ 60) = false by simp; omega]; rfl
   ·show _ = aBool (fewL l && decide (u.length ≤ 60))
    rw [h1]; rfl
  ·refine EvP.freshV tab0_ok (n := 40) (by kernel_rfl) (by kernel_rfl) (args' := [aStr u, nilA]) rfl (c14n u _ ?_)
   show iteP _ (_ = aBool (true && decide (u.length ≤ 60))) (_ = aBool (true && decide (u.length ≤ 60)))
   by_cases h2 : (u.length : Int) ≤ 60
   ·rw [decide_eq_true h2, iteP_t, show decide (u.length ≤ 60) = true by simp; omega]; rfl
   ·rw [decide_eq_false h2, iteP_f, show decide (u.length ≤ 60) = false by simp; omega]; rfl
 ·cases hs
end
end Go.Proofs.Pr
namespace Go.Proofs.Pr
open Go Go.Ef
noncomputable section
def Kz : Tab := (((tab0.addC 4 C14).addC 5 C10).addC 6 C12g).addC 7 Cr7
end
end Go.Proofs.Pr
namespace Go.Proofs.Pr
open Go Go.Ef
noncomputable section
set_option maxRecDepth 100000
theorem rc3 (f : List UInt8) (l : Cells) (K : AV → Prop) (h :
 ((∃ (l_1 : List (List AV)),
 AV.sl l (0 : Nat) = AV.sl l_1 (0 : Nat) ∧
 ∀ (e : List AV),
 List.Mem e l_1 →
 ∃ (k : Int),
 ∃ (n : Int),
 ∃ (s : List UInt8),
 e =
 [AV.sc (Value.int IntKind.i64 k), AV.sc (Value.int IntKind.i64 n),
 AV.sc (Value.string (ByteArray.mk (Array.mk s)))]) ∨
 AV.sl l (0 : Nat) = AV.sc (Value.slice none (0 : Nat) (0 : Nat))) ∧
 ∀ (x : Bool),
 x = (fewA (AV.sl l (0 : Nat)) && decide (f.length ≤ (60 : Nat))) →
 iteP x
 (RunOk f l ∧
 ∀ (x : List UInt8 × Int),
 x = sprintfF f l →
 RIn f l ∧
 ∀ (x_1 : List UInt8 × Int),
 x_1 = sprintfF f l →
 iteP (decide (x.fst = x_1.fst))
 (iteP (x.snd == x_1.snd)
 (True ∧
 ∀ (x : Bool), x = true → iteP x (K (AV.sc (Value.bool true))) (K (AV.sc (Value.bool false))))
 (K (AV.sc (Value.bool false))))
 (K (AV.sc (Value.bool false))))
 (True ∧ ∀ (x : Bool), x = true → iteP x (K (AV.sc (Value.bool true))) (K (AV.sc (Value.bool false))))) :
 (fun (f : List UInt8) (l : Cells) (K : AV → Prop) => wpCall Kz Door.cfg Tryz.prog 40 3 [aStr f, .sl l 0] heap0 fun r _ => K r) f l K :=
 Eq.mp (by kernel_rfl) h
theorem rc3n (f : List UInt8) (K : AV → Prop) (h :
 ((∃ (l : List (List AV)),
 AV.sc (Value.slice none (0 : Nat) (0 : Nat)) = AV.sl l (0 : Nat) ∧
 ∀ (e : List AV),
 List.Mem e l →
 ∃ (k : Int),
 ∃ (n : Int),
 ∃ (s : List UInt8),
 e =
 [AV.sc (Value.int IntKind.i64 k), AV.sc (Value.int IntKind.i64 n),
 AV.sc (Value.string (ByteArray.mk (Array.mk s)))]) ∨
 AV.sc (Value.slice none (0 : Nat) (0 : Nat)) = AV.sc (Value.slice none (0 : Nat) (0 : Nat))) ∧
 ∀ (x : Bool),
 x = (true && decide (f.length ≤ (60 : Nat))) →
 iteP x
 (RunOk f [] ∧
 ∀ (x : List UInt8 × Int),
 x = sprintfF f [] →
 RIn f [] ∧
 ∀ (x_1 : List UInt8 × Int),
 x_1 = sprintfF f [] →
 iteP (decide (x.fst = x_1.fst))
 (iteP (x.snd == x_1.snd)
 (True ∧
 ∀ (x : Bool), x = true → iteP x (K (AV.sc (Value.bool true))) (K (AV.sc (Value.bool false))))
 (K (AV.sc (Value.bool false))))
 (K (AV.sc (Value.bool false))))
 (True ∧ ∀ (x : Bool), x = true → iteP x (K (AV.sc (Value.bool true))) (K (AV.sc (Value.bool false))))) :
 (fun (f : List UInt8) (K : AV → Prop) => wpCall Kz Door.cfg Tryz.prog 40 3 [aStr f, nilA] heap0 fun r _ => K r) f K :=
 Eq.mp (by kernel_rfl) h
end
end Go.Proofs.Pr
namespace Go.Proofs.Pr
open Go Go.Ef
noncomputable section
set_option maxRecDepth 100000
theorem awake_evZ : Door.yes (evCall Door.cfg Tryz.prog 1000 5 [] heapF) = true := by decide +kernel
theorem ok10z {T : Tab} (O : TabOk Tryz.prog Door.cfg T) : TabOk Tryz.prog Door.cfg (T.addC 5 C10) := by
 refine addC_ok O fun args h s hs hp => ?_
 unfold C10 at hs
 split at hs
 ·refine nspec_ok (Option.some.inj hs) (fun _ => ?_) hp
  obtain ⟨h', he⟩ := Door.yes_spec awake_evZ
  exact EvP.fresh (by kernel_rfl) (by kernel_rfl) (args' := []) rfl ⟨1000, _, h', he, rfl, rfl⟩
 ·cases hs
theorem okKz : TabOk Tryz.prog Door.cfg Kz := okr7 (ok12g (ok10z (ok14 tab0_ok)) okY2s)
theorem law3 (f : List UInt8) (a : AV) (ha : goodA a) : ∃ m h', evCall Door.cfg Tryz.prog m 3 [aStr f, a] heap0 = some (.sc (.bool true), h') := by
 have tail : ∀ (K : AV → Prop), K (.sc (.bool true)) → True ∧ ∀ x : Bool, x = true → iteP x (K (.sc (.bool true))) (K (.sc (.bool false))) := fun K hk => ⟨trivial, fun x hx => by subst hx; exact hk⟩
 have core : ∀ l : Cells, Small l → f.length ≤ 60 → RunOk f l ∧ ∀ x : List UInt8 × Int, x = sprintfF f l → RIn f l ∧ ∀ y : List UInt8 × Int, y = sprintfF f l → iteP (decide (x.1 = y.1)) (iteP (x.2 == y.2) (True ∧ ∀ x : Bool, x = true → iteP x (AV.sc (.bool true) = .sc (.bool true)) (AV.sc (.bool false) = .sc (.bool true))) (AV.sc (.bool false) = .sc (.bool true))) (AV.sc (.bool false) = .sc (.bool true)) := by
  intro l hl hf
  refine ⟨run_ok hl (by omega), fun x hx => ⟨⟨hf, hl⟩, fun y hy => ?_⟩⟩
  have e : x = y := hx.trans hy.symm
  subst e
  rw [decide_eq_true rfl, iteP_t, show (x.2 == x.2) = true by simp, iteP_t]
  exact tail (fun v => v = .sc (.bool true)) rfl
 have main : wpCall Kz Door.cfg Tryz.prog 40 3 [aStr f, a] heap0 fun v _ => v = .sc (.bool true) := by
  rcases ha with ⟨l, rfl, hl⟩ | rfl
  ·refine rc3 f l (fun v => v = .sc (.bool true)) ?_
   refine ⟨.inl ⟨l, rfl, hl⟩, fun x hx => ?_⟩
   cases hq : x with
   | false => rw [iteP_f]; exact tail (fun v => v = .sc (.bool true)) rfl
   | true =>
    rw [iteP_t]
    rw [hq] at hx
    obtain ⟨hfew, hlen⟩ : fewL l = true ∧ decide (f.length ≤ 60) = true := by
     have := hx.symm
     rwa [Bool.and_eq_true] at this
    unfold fewL at hfew
    obtain ⟨w1, w2⟩ := (Bool.and_eq_true _ _).mp hfew
    exact core l (fun e he => ⟨hl e he, List.all_eq_true.1 w2 e he⟩) (of_decide_eq_true hlen)
  ·refine rc3n f (fun v => v = .sc (.bool true)) ?_
   refine ⟨.inr rfl, fun x hx => ?_⟩
   cases hq : x with
   | false => rw [iteP_f]; exact tail (fun v => v = .sc (.bool true)) rfl
   | true =>
    rw [iteP_t]
    rw [hq] at hx
    have hlen : decide (f.length ≤ 60) = true := by
     have := hx.symm
     rw [Bool.and_eq_true] at this
     exact this.2
    exact core [] (fun e he => by cases he) (of_decide_eq_true hlen)
 obtain ⟨m, v, h', h1, h2⟩ := call_okW okKz 40 3 _ _ _ main
 exact ⟨m, h', by rw [h1, h2]⟩
end
end Go.Proofs.Pr
namespace Go.Proofs
open Go Go.Ef Go.RowKit
namespace Door
theorem tab_glob {W : World} {name : String} {k : IntKind} {zs : List Int} {g : Nat} {cs : List AV} (h : Lib.TabIs Tryz.prog W name k zs) (hg : Tryz.prog.globalNamed name = some g) (hcs : cs = zs.map fun z => AV.sc (.int k z)) :
  ∀ (i : Nat) (x : AV), cs[i]? = some x → ∃ c, W.cell? ⟨g, i, none⟩ = some c ∧ V (imm0 W) x c := by
 intro i x hx
 subst hcs
 rw [List.getElem?_map] at hx
 have hi : i < zs.length := by
  rcases Nat.lt_or_ge i zs.length with h' | h'
  ·exact h'
  ·simp [List.getElem?_eq_none h'] at hx
 rw [List.getElem?_eq_getElem hi] at hx
 simp only [Option.map_some, Option.some.injEq] at hx
 subst hx
 refine ⟨_, h.cell hg i hi, ?_⟩
 have : zs.getD i 0 = zs[i] := by simp [List.getD, hi]
 rw [this]
 exact .sc rfl
def deb32 : List Int := [0, 1, 28, 2, 29, 14, 24, 3, 30, 22, 20, 15, 25, 17, 4, 8, 31, 27, 13, 23, 21, 19, 16, 7, 26, 12, 18, 6, 11, 5, 10, 9]
def deb64 : List Int := [0, 1, 56, 2, 57, 49, 28, 3, 61, 58, 42, 50, 38, 29, 17, 4, 62, 47, 59, 36, 45, 43, 51, 22, 53, 39, 33, 30, 24, 18, 12, 5, 63, 55, 48, 27, 60, 41, 37, 16, 46, 35, 44, 21, 52, 32, 23, 11, 54, 26, 40, 15, 34, 20, 31, 10, 25, 14, 19, 9, 13, 8, 7, 6]
def pow10 : List Int := [1, 10, 100, 1000, 10000, 100000, 1000000, 10000000, 100000000, 1000000000, 10000000000, 100000000000, 1000000000000, 10000000000000, 100000000000000, 1000000000000000, 10000000000000000, 100000000000000000, 1000000000000000000, 10000000000000000000]
def units : List Int := [10000, 1000, 100, 10, 1]
theorem glob_ok {W : World} {rest : List (String × DataW Unit)} {a : String × DataW Unit}
  (h : laidMet Tryz.prog (("math/bits.deBruijn32tab", Lib.tabData .u8 deb32) :: ("math/bits.deBruijn64tab", Lib.tabData .u8 deb64) :: ("internal/strconv.uint64pow10", Lib.tabData .u64 pow10) :: a :: ("texttools/decimal.units", Lib.tabData .i64 units) :: rest) W) : GlobOk cfg W := by
 have t6 : Lib.TabIs Tryz.prog W "math/bits.deBruijn32tab" .u8 deb32 := Lib.tabIs_of_head (g := 6) (by kernel_rfl) (by kernel_rfl) Tryz.underlying154 Tryz.underlying5 (by kernel_rfl) (by kernel_rfl) h
 have t7 : Lib.TabIs Tryz.prog W "math/bits.deBruijn64tab" .u8 deb64 := Lib.tabIs_of_head (g := 7) (by kernel_rfl) (by kernel_rfl) Tryz.underlying155 Tryz.underlying5 (by kernel_rfl) (by kernel_rfl) h.tail
 have t2 : Lib.TabIs Tryz.prog W "internal/strconv.uint64pow10" .u64 pow10 := Lib.tabIs_of_head (g := 2) (by kernel_rfl) (by kernel_rfl) Tryz.underlying138 Tryz.underlying113 (by kernel_rfl) (by kernel_rfl) h.tail.tail
 have t0 : Lib.TabIs Tryz.prog W "texttools/decimal.units" .i64 units := Lib.tabIs_of_head (g := 0) (by kernel_rfl) (by kernel_rfl) Tryz.underlying106 Tryz.underlying3 (by kernel_rfl) (by kernel_rfl) h.tail.tail.tail.tail
 intro g cs hg
 replace hg : globs g = some cs := hg
 unfold globs at hg
 split at hg
 ·cases hg; exact tab_glob t0 (by kernel_rfl) rfl
 ·cases hg; exact tab_glob t2 (by kernel_rfl) rfl
 ·cases hg; exact tab_glob t6 (by kernel_rfl) rfl
 ·cases hg; exact tab_glob t7 (by kernel_rfl) rfl
 ·cases hg
end Door
end Go.Proofs
namespace Go.Ef
open Go
theorem build_list {α : Type} {Q : Nat → α → Prop} : ∀ n : Nat, (∀ i, i < n → ∃ x, Q i x) → ∃ l : List α, l.length = n ∧ ∀ (i : Nat) (x : α), l[i]? = some x → Q i x := by
 intro n
 induction n with
 | zero => intro _; exact ⟨[], rfl, fun i x h => by simp at h⟩
 | succ n ih =>
  intro h
  obtain ⟨l, h1, h2⟩ := ih fun i hi => h i (by omega)
  obtain ⟨x, hx⟩ := h n (by omega)
  refine ⟨l ++ [x], by simp [h1], fun i y hy => ?_⟩
  rcases Nat.lt_trichotomy i n with hi | hi | hi
  ·rw [List.getElem?_append_left (by omega)] at hy; exact h2 i y hy
  ·subst hi
   rw [List.getElem?_append_right (by omega), h1] at hy
   simp at hy; subst hy; exact hx
  ·have := lt_of_get? hy
   simp [h1] at this; omega
def CellsV (w : World) (avs : List AV) (cs : List Value) : Prop := avs.length = cs.length ∧ ∀ (i : Nat) (x : AV) (y : Value), avs[i]? = some x → cs[i]? = some y → V (imm0 w) x y
theorem trod_slice {H : Type} {enc : TypeId × Value → H} {P : Program} {w : World} {base : Nat} {spare : Nat → Bool} {held : Bool} {t e : TypeId} {k : Nat} (ht : P.underlying t = some (.slice e)) (hk : P.cellsOf e = k) (Good : List AV → Prop)
  (each : ∀ (fuel : Nat) (cs : List Value) (d : DataW H) (ps : List MemPlace), DataW.trod enc P w base spare held fuel e cs = some (d, ps) → cs.length = k → ∃ avs, Good avs ∧ CellsV w avs cs)
  {fuel b o len cap : Nat} {d : DataW H} {ps : List MemPlace} (h : DataW.trod enc P w base spare held fuel t [.slice (some ⟨b, o, none⟩) len cap] = some (d, ps)) :
  ∃ els : List (List AV), els.length = len ∧ (∀ a ∈ els, Good a ∧ a.length = k) ∧ V (imm0 w) (.sl els 0) (.slice (some ⟨b, o, none⟩) len cap) := by
 cases fuel with
 | zero => cases h
 | succ fuel =>
  simp only [DataW.trod, ht] at h
  split at h
  ·rename_i hc
   rw [Option.bind_eq_some_iff] at h
   obtain ⟨elems, hel, _⟩ := h
   have hlen : elems.length = len := by simpa using mapM_some_length hel
   have hcell : ∀ i, i < len → ∃ (avs : List AV), Good avs ∧ avs.length = k ∧ ∃ cs : List Value, (∀ j, j < k → w.cell? ⟨b, o + i * k + j, none⟩ = cs[j]?) ∧ CellsV w avs cs := by
    intro i hi
    have := mapM_some_get hel i i (by simp [hi])
    rw [List.getElem?_eq_getElem (by omega)] at this
    rw [Option.bind_eq_some_iff] at this
    obtain ⟨cs, h1, h2⟩ := this
    obtain ⟨_, h4, h5⟩ := World.cells?_some h1
    rw [hk] at h4 h5
    obtain ⟨avs, g1, g2⟩ := each fuel cs _ _ h2 h4
    refine ⟨avs, g1, by rw [g2.1, h4], cs, fun j hj => ?_, g2⟩
    rw [← h5 j hj]
    congr 1
    unfold Addr.add
    split
    ·split
     ·rename_i q1 q2; simp_all
     ·rename_i q1 q2; simp [q1]
    ·split
     ·rename_i q1 q2; simp [q2]
     ·simp
   obtain ⟨els, e1, e2⟩ := build_list len hcell
   refine ⟨els, e1, fun a ha => ?_, ?_⟩
   ·obtain ⟨i, hi, rfl⟩ := List.getElem_of_mem ha
    obtain ⟨g1, g2, _⟩ := e2 i _ (List.getElem?_eq_getElem hi)
    exact ⟨g1, g2⟩
   ·refine .sl0 (k := k) (c := fun i j => (w.cell? ⟨b, o + i * k + j, none⟩).getD undef) e1.symm hc.2.1 (fun a ha => ?_) (fun i a j x hx hy => ?_) (fun i a j x hx hy => ?_)
    ·obtain ⟨i, hi, rfl⟩ := List.getElem_of_mem ha
     exact (e2 i _ (List.getElem?_eq_getElem hi)).2.1
    ·obtain ⟨_, g2, cs, g3, g4⟩ := e2 i a hx
     have hj : j < k := g2 ▸ lt_of_get? hy
     have hjc : j < cs.length := by rw [← g4.1, g2]; exact hj
     show w.cell? _ = _
     rw [g3 j hj, List.getElem?_eq_getElem hjc]; rfl
    ·obtain ⟨_, g2, cs, g3, g4⟩ := e2 i a hx
     have hj : j < k := g2 ▸ lt_of_get? hy
     have hjc : j < cs.length := by rw [← g4.1, g2]; exact hj
     rw [imm0_bare, g3 j hj, List.getElem?_eq_getElem hjc]
     exact g4.2 j x _ hy (List.getElem?_eq_getElem hjc)
  ·cases h
end Go.Ef
namespace Go.Proofs.Pr
open Go Go.Ef Go.ChangeShapes Go.WideShapes Go.ChangeAt Go.RowKit
theorem trod_int1 {H : Type} {enc : TypeId × Value → H} {P : Program} {w : World} {base : Nat} {spare : Nat → Bool} {held : Bool} {t : TypeId} {k : IntKind} (ht : P.underlying t = some (.int k)) {fuel : Nat} {c : Value} {x : DataW H × List MemPlace}
  (h : DataW.trod enc P w base spare held fuel t [c] = some x) : ∃ n, c = .int k n := by
 cases fuel with
 | zero => cases h
 | succ fuel =>
  simp only [DataW.trod, ht] at h
  split at h <;> simp_all
theorem trod_str1 {H : Type} {enc : TypeId × Value → H} {P : Program} {w : World} {base : Nat} {spare : Nat → Bool} {held : Bool} {t : TypeId} (ht : P.underlying t = some .string) {fuel : Nat} {c : Value} {x : DataW H × List MemPlace}
  (h : DataW.trod enc P w base spare held fuel t [c] = some x) : ∃ s, c = .string s := by
 cases fuel with
 | zero => cases h
 | succ fuel =>
  simp only [DataW.trod, ht] at h
  split at h <;> simp_all
set_option maxRecDepth 100000 in
theorem value_reads {H : Type} {enc : TypeId × Value → H} {w : World} {base : Nat} {spare : Nat → Bool} {held : Bool} {fuel : Nat} {cs : List Value} {d : DataW H} {ps : List MemPlace}
  (h : DataW.trod enc Tryz.prog w base spare held fuel 30 cs = some (d, ps)) (hl : cs.length = 3) : ∃ avs, goodArg avs ∧ CellsV w avs cs := by
 cases fuel with
 | zero => cases h
 | succ fuel =>
  have e3 : Tryz.prog.cellsOf 3 = 1 := by kernel_rfl
  have e26 : Tryz.prog.cellsOf 28 = 1 := by kernel_rfl
  have e9 : Tryz.prog.cellsOf 9 = 1 := by kernel_rfl
  match cs, hl with
  | [c0, c1, c2], _ =>
   simp only [DataW.trod, Tryz.underlying30] at h
   split at h
   ·rw [Option.map_eq_some_iff] at h
    obtain ⟨xs, hm, _⟩ := h
    have g0 := mapM_some_get hm 0 _ rfl
    have g1 := mapM_some_get hm 1 _ rfl
    have g2 := mapM_some_get hm 2 _ rfl
    have hlen := mapM_some_length hm
    replace hlen : xs.length = 3 := hlen
    match xs, hlen with
    | [x0, x1, x2], _ =>
     simp only [e3, e26, e9] at g0 g1 g2
     obtain ⟨n0, rfl⟩ := trod_int1 Tryz.underlying3 g0
     obtain ⟨n1, rfl⟩ := trod_int1 Tryz.underlying28 g1
     obtain ⟨s, rfl⟩ := trod_str1 Tryz.underlying9 g2
     obtain ⟨⟨l⟩⟩ := s
     refine ⟨[aK .i64 n0, aK .i64 n1, aStr l], ⟨n0, n1, l, rfl⟩, rfl, fun i x y hx hy => ?_⟩
     match i with
     | 0 => simp at hx hy; subst hx; subst hy; exact .sc rfl
     | 1 => simp at hx hy; subst hx; subst hy; exact .sc rfl
     | 2 => simp at hx hy; subst hx; subst hy; exact .sc rfl
     | i + 3 => simp at hx
   ·cases h
set_option maxRecDepth 100000 in
theorem values_read {H : Type} {enc : TypeId × Value → H} {W : World} {r : Reach} {base : Nat} {v : Value} {d : DataW H} {p : List MemPlace} (hv : Value.okWide Tryz.prog W r base 22 v) (h : DataW.Trod enc Tryz.prog W 0 (fun _ => true) true 22 v d p) :
  ∃ a, goodA a ∧ V (imm0 W) a v := by
 obtain ⟨fuel, hf⟩ := h
 have hv' := hv
 obtain ⟨a, len, cap, rfl⟩ := okWide_slice Tryz.underlying22 hv
 simp only [Value.okWide, Tryz.underlying22, Cell.okWide, Cell.ok] at hv'
 cases a with
 | none =>
  have h0 : len = 0 ∧ cap = 0 := by
   split at hv'
   all_goals first | exact hv'.elim | skip
   all_goals rename_i q
   all_goals cases q
   all_goals first | exact ⟨rfl, rfl⟩ | exact hv'.elim
  obtain ⟨rfl, rfl⟩ := h0
  exact ⟨nilA, .inr rfl, .sc rfl⟩
 | some a =>
  obtain ⟨b, o, sp⟩ := a
  have hsp : sp = none := (show len ≤ cap ∧ (cap : Int) ≤ IntKind.i64.max ∧ World.has Tryz.prog W r base ⟨b, o, sp⟩ 30 cap from hv').2.2.2.1
  subst hsp
  obtain ⟨els, h1, h2, h3⟩ := trod_slice (k := 3) Tryz.underlying22 (by kernel_rfl) goodArg (fun fuel cs d ps h hl => value_reads h hl) hf
  exact ⟨.sl els 0, .inl ⟨els, rfl, fun e he => (h2 e he).1⟩, h3⟩
end Go.Proofs.Pr
