/- A part of the proof: definitions and lemmas. -/
import Derived.Test.YtciidohmobfciaaGreatDoorPrintsA
import Derived.Test.YtciidohmobfciaaGreatDoorPrintsB
import Derived.Test.YtciidohmobfciaaGreatDoorPrintsC
import Derived.Test.YtciidohmobfciaaGreatDoorPrintsD
import Derived.Test.YtciidohmobfciaaGreatDoorPrintsE
import Derived.Test.YtciidohmobfciaaGreatDoorPrintsF
import Derived.Test.YtciidohmobfciaaGreatDoorPrintsG
namespace Go.Proofs.Sp
open Go Go.Ef Go.Proofs.Pt
noncomputable section
set_option maxRecDepth 100000
variable {M : Int}
theorem ev_names (h : Heap) : callP (cfg M) (evCall (cfg M) Tryz.prog 2000) 56 [aStr namesL] h = some (.sl (rowS namesR) 0, h) := by kernel_rfl
theorem ev_uses (h : Heap) : callP (cfg M) (evCall (cfg M) Tryz.prog 2000) 56 [aStr usesL] h = some (.sl (rowS usesR) 0, h) := by kernel_rfl
theorem tab_names : tabR namesL = namesR := by kernel_rfl
theorem tab_uses : tabR usesL = usesR := by kernel_rfl
theorem ok56 {T : Tab} (O : Ok M T) : Ok M (T.addC 56 C56) := by
 refine addC_ok O fun args h s hs hp => ?_
 unfold C56 at hs
 split at hs
 ·rename_i s
  cases hs
  obtain ⟨⟨l⟩⟩ := s
  rcases hp.is with h1 | h1
  ·replace h1 : l = namesL := h1
   subst h1
   exact ⟨_, List.mem_singleton.2 rfl, rowS namesR, 2000, ⟨by rw [show (ByteArray.mk (Array.mk namesL)).data.toList = namesL from rfl, tab_names]⟩, ev_names h⟩
  ·replace h1 : l = usesL := h1
   subst h1
   exact ⟨_, List.mem_singleton.2 rfl, rowS usesR, 2000, ⟨by rw [show (ByteArray.mk (Array.mk usesL)).data.toList = usesL from rfl, tab_uses]⟩, ev_uses h⟩
 ·cases hs
theorem tab_len (s : List UInt8) : (tabR s).length = 49 := by
 unfold tabR
 generalize Nat.beq s.length 308 = b
 cases b <;> rfl
theorem ok27 {T : Tab} (O : Ok M T) : Ok M (T.addC 27 C27) := by
 refine fresh_ok O (ok56 ok0) (by kernel_rfl) rfl fun args h s hs hp => ?_
 unfold C27 at hs
 split at hs
 ·rename_i s k
  cases hs
  obtain ⟨h1, h2⟩ := hp
  have l0 := h2.lo
  have l1 := h2.hi
  refine ⟨rfl, _, _, wordAt s.data.toList k, aStr, rfl, v27 M s.data.toList k _ ⟨h1, fun x hx => ?_⟩⟩
  have hx := hx.is
  subst hx
  have hl : (rowS (tabR s.data.toList)).length = 49 := by unfold rowS; rw [List.length_map, tab_len]
  have hk : k.toNat < (tabR s.data.toList).length := by rw [tab_len]; omega
  have hg : getI k.toNat (rowS (tabR s.data.toList)) = some [aStr (wordAt s.data.toList k)] := by
   rw [getI_eq]
   unfold rowS wordAt
   rw [List.getElem?_map, List.getElem?_eq_getElem hk]
   rfl
  have hc : cellStr (rowS (tabR s.data.toList)) k 0 = wordAt s.data.toList k := by
   unfold cellStr cellAt
   rw [hg]
   rfl
  refine it (by rw [inRange_iff, hl]; omega) ?_
  rw [hc]
  exact ⟨hg, rfl⟩
 ·cases hs
theorem ok28r : Ok M T28r := ok25 (ok57 (ok24 ok0))
theorem byte_eq (c : UInt8) (n : Nat) (hn : n < 256) : ((c.toNat : Int) == (n : Int)) = decide (c = UInt8.ofNat n) := eq_nat hn
theorem opR_len {op x y n : Int} {t : List UInt8} (hp : InstOk op x y n t) (c : UInt8) : (opR x y n t c).length ≤ 10000000 := by
 have lx := itoa_len hp.x
 have ly := itoa_len hp.y
 have ln := decT_len n
 have lt := quoT_len t
 have ls := hp.t.le
 unfold opR
 split
 ·simp; omega
 ·split
  ·simp; omega
  ·split
   ·simp; omega
   ·split
    ·simp; omega
    ·simp
theorem opsR_take {x y n : Int} {t l : List UInt8} (i : Nat) (h : i < l.length) : opsR x y n t (l.take (i + 1)) = opsR x y n t (l.take i) ++ opR x y n t l[i] := by
 rw [List.take_succ_eq_append_getElem h]
 unfold opsR
 rw [List.flatMap_append]
 simp
theorem loop28 {op x y n : Int} {t : List UInt8} {a : Int} {l : List UInt8} (hp : InstOk op x y n t) (hl : l.length ≤ 1000) : ∀ k i : Nat, i + k = l.length → (opsR x y n t (l.take i)).length ≤ 10000000 * i →
  Ev (cfg M) Tryz.prog 28 (.loop (loopAt Tryz.prog 28 4)) (I28 op x y n t a l (opsR x y n t (l.take i)) i) fun e τ => e = .exit 0 ∧ τ = X28 op x y n t a (opsR x y n t l) := by
 have lx := itoa_len hp.x
 have ly := itoa_len hp.y
 have ln := decT_len n
 have lt := quoT_len t
 have ls := hp.t.le
 intro k
 induction k with
 | zero =>
  intro i hi _
  refine Ev.round (O := ok28r) (n := 60) (t := ⟨[1, 2, 5, 6], [5], 1⟩) (by kernel_rfl) (by kernel_rfl) rfl (r28 M op x y n t a l _ i (fun _ _ => False) True (ie (df (by omega)) ⟨rfl, rfl, trivial⟩)) (fun _ h => h.2.elim) (fun e τ hx => ?_)
  unfold q28 at hx
  split at hx
  ·refine ⟨hx.1, ?_⟩
   rw [hx.2.1, List.take_of_length_le (by omega)]
  ·exact hx.elim
 | succ k ih =>
  intro i hi ho
  have hlt : i < l.length := by omega
  have hw : IntKind.i64.wrap ((i : Int) + 1) = ((i + 1 : Nat) : Int) := by rw [wrap_in (by omega) (by omega)]; omega
  have hr := inR (s := l) (i := (i : Int)) (by omega) (by omega)
  obtain ⟨o, hoe⟩ : ∃ o, opsR x y n t (l.take i) = o := ⟨_, rfl⟩
  obtain ⟨c, hc⟩ : ∃ c, l[i] = c := ⟨_, rfl⟩
  have ht := opsR_take (x := x) (y := y) (n := n) (t := t) i hlt
  rw [hoe, hc] at ht
  rw [hoe] at ho ⊢
  have e88 : ((c.toNat : Int) == (88 : Int)) = decide (c = 88) := byte_eq c 88 (by decide)
  have e89 : ((c.toNat : Int) == (89 : Int)) = decide (c = 89) := byte_eq c 89 (by decide)
  have e78 : ((c.toNat : Int) == (78 : Int)) = decide (c = 78) := byte_eq c 78 (by decide)
  have e84 : ((c.toNat : Int) == (84 : Int)) = decide (c = 84) := byte_eq c 84 (by decide)
  refine Ev.round (O := ok28r) (n := 60) (t := ⟨[1, 2, 5, 6], [5], 1⟩) (by kernel_rfl) (by kernel_rfl) rfl
   (r28 M op x y n t a l o i (fun u v => u = o ++ opR x y n t c ∧ v = ((i + 1 : Nat) : Int)) False (it (dt (by omega)) (it hr ?_))) (fun τ h => ?_) (fun e τ hx => ?_)
  ·rw [byteAt_nat l i hlt, hw, hc, e88, e89, e78, e84]
   refine iti (fun q => ?_) (fun q1 => iti (fun q => ?_) (fun q2 => iti (fun q => ?_) (fun q3 => iti (fun q => ?_) (fun q4 => ?_))))
   ·have q := of_decide_eq_true q
    refine it (fitsS (by simp; omega)) ⟨hp.x, fun z hz => it (fitsS (by rw [hz]; simp; omega)) ⟨rfl, ?_, rfl⟩⟩
    rw [hz, q]; simp [opR]
   ·have q := of_decide_eq_true q
    refine it (fitsS (by simp; omega)) ⟨hp.y, fun z hz => it (fitsS (by rw [hz]; simp; omega)) ⟨rfl, ?_, rfl⟩⟩
    rw [hz, q]; simp [opR]
   ·have q := of_decide_eq_true q
    refine it (fitsS (by simp; omega)) ⟨hp.n, fun z hz => it (fitsS (by rw [hz]; simp; omega)) ⟨rfl, ?_, rfl⟩⟩
    rw [hz, q]; simp [opR]
   ·have q := of_decide_eq_true q
    refine it (fitsS (by simp; omega)) ⟨hp.t, fun z hz => it (fitsS (by rw [hz]; simp; omega)) ⟨rfl, ?_, rfl⟩⟩
    rw [hz, q]; simp [opR]
   ·refine ⟨rfl, ?_, rfl⟩
    unfold opR
    rw [if_neg (of_decide_eq_false q1), if_neg (of_decide_eq_false q2), if_neg (of_decide_eq_false q3), if_neg (of_decide_eq_false q4), List.append_nil]
  ·obtain ⟨h1, h2, h3⟩ := h
   rw [h1, h2, h3, ← ht]
   refine ih (i + 1) (by omega) ?_
   have := opR_len hp c
   rw [ht, List.length_append]
   omega
  ·unfold q28 at hx
   split at hx
   ·exact hx.2.2.elim
   ·exact hx.elim
theorem okL28 {T : Tab} (O : Ok M T) : Ok M (T.addL 28 4 L28) := by
 refine addL_ok O fun σ s hs hp => ?_
 refine lspec_ok (Option.some.inj hs) (fun ⟨h1, h2, h3⟩ => ?_) hp
 obtain ⟨m, e, τ, g1, g2, g3⟩ := Ev.tidied (t := ⟨[1, 2, 5, 6], [5], 1⟩) (by kernel_rfl) h1 (loop28 h2 h3.le (slS σ 1).length 0 (by omega) (by simp [opsR]))
 exact ⟨m, e, τ, g1, _, rfl, g2, g3⟩
theorem ok28 {T : Tab} (O : Ok M T) : Ok M (T.addC 28 C28) := by
 refine fresh_ok O (okL28 ok28r) (by kernel_rfl) rfl fun args h s hs hp => ?_
 unfold C28 at hs
 split at hs
 ·rename_i op x y n t a l
  cases hs
  exact ⟨rfl, _, _, _, aStr, rfl, v28 M op x y n t.data.toList a l.data.toList _ ⟨rfl, ⟨rfl, hp.1, hp.2⟩, fun z hz => by rw [hz]; rfl⟩⟩
 ·cases hs
def lineR (op x y n : Int) (t : List UInt8) : List UInt8 := if 1 ≤ op ∧ op ≤ 49 then wordAt namesL (op - 1) ++ opsR x y n t (wordAt usesL (op - 1)) else [111, 112, 32] ++ Lib.itoa op
def upB (c : UInt8) : UInt8 := if c = 120 then 88 else if c = 121 then 89 else if c = 110 then 78 else 84
theorem words_all : ∀ k : Fin 49, wordAt namesL (k.val : Int) = (descW ((k.val : Int) + 1)).1 ∧ (wordAt usesL (k.val : Int)).filter (fun c => c != 45) = (descW ((k.val : Int) + 1)).2.map upB ∧
  (descW ((k.val : Int) + 1)).2.all (fun c => c == 120 || c == 121 || c == 110 || c == 116) = true ∧ (wordAt usesL (k.val : Int)).length ≤ 3 ∧ (wordAt namesL (k.val : Int)).length ≤ 10 := by
 intro k
 unfold descW
 rw [if_pos (by omega)]
 revert k
 decide +kernel
theorem ops_filter (x y n : Int) (t : List UInt8) : ∀ l : List UInt8, opsR x y n t (l.filter fun c => c != 45) = opsR x y n t l := by
 intro l
 induction l with
 | nil => rfl
 | cons c l ih =>
  unfold opsR at ih ⊢
  by_cases h : c = 45
  ·subst h
   rw [List.filter_cons_of_neg (by simp), ih, List.flatMap_cons]
   simp [opR]
  ·rw [List.filter_cons_of_pos (by simpa using h), List.flatMap_cons, List.flatMap_cons, ih]
theorem ops_map (x y n : Int) (t : List UInt8) : ∀ l : List UInt8, l.all (fun c => c == 120 || c == 121 || c == 110 || c == 116) = true → opsR x y n t (l.map upB) = l.flatMap (opP x y n t) := by
 intro l
 induction l with
 | nil => intro _; rfl
 | cons c l ih =>
  intro h
  rw [List.all_cons, Bool.and_eq_true] at h
  have ih := ih h.2
  have h1 := h.1
  unfold opsR at ih ⊢
  rw [List.map_cons, List.flatMap_cons, List.flatMap_cons, ih]
  congr 1
  simp only [Bool.or_eq_true, beq_iff_eq] at h1
  rcases h1 with ((rfl | rfl) | rfl) | rfl <;> simp [upB, opR, opP]
theorem line_eq (op x y n : Int) (t : List UInt8) : lineR op x y n t = shownT op x y n t := by
 unfold lineR shownT
 by_cases h : 1 ≤ op ∧ op ≤ 49
 ·rw [if_pos h]
  obtain ⟨h1, h2, h3, _⟩ := words_all ⟨(op - 1).toNat, by omega⟩
  have e : (((op - 1).toNat : Nat) : Int) = op - 1 := by omega
  have e' : op - 1 + 1 = op := by omega
  simp only [e, e'] at h1 h2 h3
  rw [h1, ← ops_filter, h2, ops_map _ _ _ _ _ h3]
 ·rw [if_neg h]
  unfold descW
  rw [if_neg h]
  simp
end
end Go.Proofs.Sp
