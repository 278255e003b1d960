/- A part of the proof: definitions and lemmas. -/
import Derived.Test.YtijnmcodipdioaaGreatDoorLiteralsA
import Derived.Test.YtijnmcodipdioaaGreatDoorLiteralsB
import Derived.Test.YtijnmcodipdioaaGreatDoorLiteralsC
import Derived.Test.YtijnmcodipdioaaGreatDoorLiteralsD
import Derived.Test.YtijnmcodipdioaaGreatDoorLiteralsE
import Derived.Test.YtijnmcodipdioaaGreatDoorLiteralsF
import Derived.Test.YtijnmcodipdioaaGreatDoorLiteralsG
import Derived.Test.YtijnmcodipdioaaGreatDoorLiteralsH
import Derived.Test.YtijnmcodipdioaaGreatDoorLiteralsI
import Derived.Test.YtijnmcodipdioaaGreatDoorLiteralsJ
import Derived.Test.YtijnmcodipdioaaGreatDoorLiteralsK
import Derived.Test.YtijnmcodipdioaaGreatDoorLiteralsL
import Derived.Test.YtijnmcodipdioaaGreatDoorLiteralsM
import Derived.Test.YtijnmcodipdioaaGreatDoorLiteralsN
namespace Go.Proofs.Rl
open Go Go.Ef
noncomputable section
set_option maxRecDepth 1000000
theorem ok15 {T : Tab} (O : Ok T) : Ok (T.addC 15 C15) := by
 refine addC_ok O fun args h s hs hp => ?_
 cases hs
 obtain ⟨l, f, H, hf, rfl⟩ := IsX.is hp
 rcases hf with rfl | rfl
 ·obtain ⟨m, e⟩ := RunF.deep tab0_ok (all_R15_0 l H.pos H.le) (fun _ hq => by cases hq) rfl rfl h
  exact ⟨_, List.mem_singleton.2 rfl, (), m, trivial, e⟩
 ·obtain ⟨m, e⟩ := RunF.deep tab0_ok (all_R15_1 l H.pos H.le) (fun _ hq => by cases hq) rfl rfl h
  exact ⟨_, List.mem_singleton.2 rfl, (), m, trivial, e⟩
theorem okTCo : Ok TCo := ok15 (ok14 (ok13 (ok12 (ok11 tab0_ok))))
def C6 (args : List AV) (h : Heap) : Option CSpec :=
 match args with
 | [.sc (.string ⟨⟨l⟩⟩), .sc (.int .i64 f), .agg [.sc (.string ⟨⟨n⟩⟩), .sl o 0, .sc (.string ⟨⟨lo⟩⟩), .sc (.string ⟨⟨up⟩⟩), .sc (.slice none 0 0), .sc (.slice none 0 0)]] => some (fspec (P11 l f [aStr l, iA f, locV n o lo up]) (compV l f) h)
 | _ => none
theorem ok6 {T : Tab} (O : Ok T) : Ok (T.addC 6 C6) := by
 refine addC_ok O fun args h s hs hp => ?_
 unfold C6 at hs
 split at hs
 ·rename_i l f n o lo up
  cases hs
  have H : P11 l f [aStr l, iA f, locV n o lo up] := hp
  have L := H.lit
  have hx : IsX [.agg (xV l f)] := ⟨l, f, L, H.fl, rfl⟩
  have ht : IsTree (treeR l) := ⟨l, L, rfl⟩
  have hc : ∀ p ∈ [P11 l f [aStr l, iA f, locV n o lo up], IsTree (treeR l), IsTree (treeR l), IsX [.agg (xV l f)], IsTree (treeR l)], p := by
   intro p hm
   simp only [List.mem_cons, List.not_mem_nil, or_false] at hm
   rcases hm with rfl | rfl | rfl | rfl | rfl
   ·exact H
   ·exact ht
   ·exact ht
   ·exact hx
   ·exact ht
  have hr : Run TCo 6 [aStr l, iA f, locV n o lo up] (compV l f) [P11 l f [aStr l, iA f, locV n o lo up], IsTree (treeR l), IsTree (treeR l), IsX [.agg (xV l f)], IsTree (treeR l)] := by
   rcases H.fl with rfl | rfl
   ·exact all_R6_0 l L.pos L.le n o lo up
   ·exact all_R6_1 l L.pos L.le n o lo up
  obtain ⟨m, e⟩ := Run.deep okTCo hr H.flat hc rfl rfl h
  exact ⟨_, List.mem_singleton.2 rfl, (), m, trivial, e⟩
 ·cases hs
end
end Go.Proofs.Rl
namespace Go.Proofs.Rl
abbrev B := List UInt8
def occ (t s : B) (f : Nat) : Bool := decide (f + t.length ≤ s.length) && (s.drop f).take t.length == t
def stepT (t s : B) (i : Nat) (l : List (Nat × Nat)) : List (Nat × Nat) :=
 (l.filter fun p => decide (p.1 < t.length) && t[p.1]? == s[i]?).map fun p => (p.1 + 1, p.2)
def thr (t s : B) : Nat → List (Nat × Nat)
 | 0 => []
 | i + 1 => stepT t s i (thr t s i ++ [(0, i)])
theorem take_succ_eq (t : B) (s : B) (f j : Nat) (hj : j < t.length) (hi : f + j < s.length) :
  (s.drop f).take (j + 1) = t.take (j + 1) ↔ (s.drop f).take j = t.take j ∧ t[j]? = s[f + j]? := by
 rw [List.take_add_one, List.take_add_one, List.getElem?_drop]
 have h1 : t[j]? = some t[j] := List.getElem?_eq_getElem hj
 have h2 : s[f + j]? = some s[f + j] := List.getElem?_eq_getElem hi
 rw [h1, h2]
 constructor
 ·intro h
  have hl : ((s.drop f).take j).length = (t.take j).length := by
   simp only [List.length_take, List.length_drop]; omega
  have := List.append_inj h hl
  refine ⟨this.1, ?_⟩
  have h3 := this.2
  simp only [Option.toList_some, List.cons.injEq, and_true] at h3
  rw [h3]
 ·rintro ⟨a, b⟩
  rw [a, ← b]
theorem mem_thr (t s : B) : ∀ (i : Nat), i ≤ s.length → ∀ (j f : Nat), (j, f) ∈ thr t s i ↔ 1 ≤ j ∧ j ≤ t.length ∧ f + j = i ∧ (s.drop f).take j = t.take j
 | 0, _, j, f => by
  constructor
  ·intro h; cases h
  ·rintro ⟨a, _, b, _⟩; omega
 | i + 1, hi, j, f => by
  show (j, f) ∈ stepT t s i (thr t s i ++ [(0, i)]) ↔ _
  have ih := mem_thr t s i (by omega)
  rw [stepT, List.mem_map]
  constructor
  ·rintro ⟨p, hp, he⟩
   obtain ⟨k, g⟩ := p
   rw [List.mem_filter, List.mem_append] at hp
   obtain ⟨hm, hc⟩ := hp
   simp only [Bool.and_eq_true, decide_eq_true_eq, beq_iff_eq] at hc
   simp only [Prod.mk.injEq] at he
   obtain ⟨rfl, rfl⟩ := he
   rcases hm with hm | hm
   ·obtain ⟨a, b, c, d⟩ := (ih k g).1 hm
    subst c
    exact ⟨by omega, by omega, by omega, (take_succ_eq t s g k hc.1 (by omega)).2 ⟨d, hc.2⟩⟩
   ·simp only [List.mem_singleton, Prod.mk.injEq] at hm
    obtain ⟨rfl, rfl⟩ := hm
    exact ⟨by omega, by omega, by omega, (take_succ_eq t s g 0 hc.1 (by omega)).2 ⟨rfl, hc.2⟩⟩
  ·rintro ⟨a, b, c, d⟩
   obtain ⟨k, rfl⟩ : ∃ k, j = k + 1 := ⟨j - 1, by omega⟩
   obtain ⟨d1, d2⟩ := (take_succ_eq t s f k (by omega) (by omega)).1 d
   refine ⟨(k, f), ?_, rfl⟩
   rw [List.mem_filter, List.mem_append]
   have hfk : f + k = i := by omega
   refine ⟨?_, ?_⟩
   ·cases k with
    | zero => right; simp only [List.mem_singleton, Prod.mk.injEq, true_and]; omega
    | succ m => left; exact (ih _ _).2 ⟨by omega, by omega, hfk, d1⟩
   ·simp only [Bool.and_eq_true, decide_eq_true_eq, beq_iff_eq]
    exact ⟨by omega, by rw [d2, hfk]⟩
theorem desc_thr (t s : B) : ∀ i, (thr t s i ++ [(0, i)]).Pairwise (fun (p q : Nat × Nat) => q.1 < p.1)
 | 0 => List.pairwise_singleton _ _
 | i + 1 => by
  have ih := desc_thr t s i
  rw [List.pairwise_append]
  refine ⟨?_, List.pairwise_singleton _ _, ?_⟩
  ·show (stepT t s i _).Pairwise _
   rw [stepT, List.pairwise_map]
   exact (ih.filter _).imp (by intro a b h; omega)
  ·intro p hp q hq
   simp only [List.mem_singleton] at hq
   subst hq
   have hp' : p ∈ stepT t s i (thr t s i ++ [(0, i)]) := hp
   rw [stepT, List.mem_map] at hp'
   obtain ⟨r, _, rfl⟩ := hp'
   exact Nat.succ_pos _
theorem end_thr (t s : B) (i : Nat) (hi : i ≤ s.length) (ht : t ≠ []) (f : Nat) : (t.length, f) ∈ thr t s i ++ [(0, i)] ↔ f + t.length = i ∧ occ t s f = true := by
 have hl : 0 < t.length := List.length_pos_iff.2 ht
 rw [List.mem_append, mem_thr t s i hi]
 have hn : ¬ (t.length, f) ∈ [((0 : Nat), i)] := by
  simp only [List.mem_singleton, Prod.mk.injEq]; omega
 constructor
 ·rintro (⟨_, _, a, b⟩ | h)
  ·refine ⟨a, ?_⟩
   rw [List.take_length] at b
   simp only [occ, Bool.and_eq_true, decide_eq_true_eq, beq_iff_eq]
   exact ⟨by omega, b⟩
  ·exact absurd h hn
 ·rintro ⟨a, b⟩
  simp only [occ, Bool.and_eq_true, decide_eq_true_eq, beq_iff_eq] at b
  left
  exact ⟨by omega, by omega, a, by rw [List.take_length]; exact b.2⟩
def srch (t s : B) : Nat → Nat → Option Nat
 | 0, _ => none
 | n + 1, i => if decide (t.length ≤ i) && occ t s (i - t.length) then some (i - t.length) else srch t s n (i + 1)
def frst (t s : B) : Nat → Nat → Option Nat
 | 0, _ => none
 | n + 1, i => if occ t s i then some i else frst t s n (i + 1)
theorem srch_frst (t s : B) : ∀ (n i : Nat), srch t s n (i + t.length) = frst t s n i
 | 0, _ => rfl
 | n + 1, i => by
  rw [srch, frst]
  have h : decide (t.length ≤ i + t.length) = true := decide_eq_true (by omega)
  rw [h, Bool.true_and, Nat.add_sub_cancel]
  have := srch_frst t s n (i + 1)
  rw [show i + 1 + t.length = i + t.length + 1 by omega] at this
  rw [this]
theorem srch_low (t s : B) : ∀ (k i n : Nat), i + k = t.length → srch t s (k + n) i = srch t s n t.length
 | 0, i, n, h => by rw [Nat.zero_add]; rw [show i = t.length by omega]
 | k + 1, i, n, h => by
  rw [show k + 1 + n = (k + n) + 1 by omega, srch]
  have h' : decide (t.length ≤ i) = false := decide_eq_false (by omega)
  rw [h', Bool.false_and, if_neg (by decide)]
  exact srch_low t s k (i + 1) n (by omega)
theorem srch_eq (t s : B) (h : t.length ≤ s.length) : srch t s (s.length + 1) 0 = frst t s (s.length + 1 - t.length) 0 := by
 have := srch_low t s t.length 0 (s.length + 1 - t.length) (by omega)
 rw [show t.length + (s.length + 1 - t.length) = s.length + 1 by omega] at this
 rw [this]
 have := srch_frst t s (s.length + 1 - t.length) 0
 rw [Nat.zero_add] at this
 exact this
theorem srch_short (t s : B) : ∀ (n i : Nat), i + n ≤ t.length → srch t s n i = none
 | 0, _, _ => rfl
 | n + 1, i, h => by
  have h' : decide (t.length ≤ i) = false := decide_eq_false (by omega)
  rw [srch, h', Bool.false_and, if_neg (by decide)]
  exact srch_short t s n (i + 1) (by omega)
end Go.Proofs.Rl
namespace Go.Proofs.Rl
open Go Go.Ef
noncomputable section
structure S142 (els : List (List AV)) (s : List UInt8) (k : Int) : Prop where
 is : ∃ l, Lit l ∧ els = progR l
 le : s.length ≤ 60
 z : k = 0
structure Ans (els : List (List AV)) (s : List UInt8) (r : Int × Int × Bool) : Prop where
 is : ∀ l, Lit l → els = progR l → r = match srch l s (s.length + 1) 0 with
  | some i => ((i : Int), (i : Int) + l.length, true)
  | none => (0, 0, false)
def C142 (args : List AV) (h : Heap) : Option CSpec :=
 match args with
 | [.agg [.sl els 0, .sc (.bool q)], .sc (.string ⟨⟨s⟩⟩), .sc (.int .i64 k)] => some { pre := bif q then False else S142 els s k, alts := [{ α := Int × Int × Bool, post := fun r => Ans els s r, val := fun r => .tup [.agg [iA r.1, iA r.2.1], bA r.2.2], heap := fun _ => h }] }
 | _ => none
def TFi : Tab := (((((tab0.addC 25 C12).addC 12 C12).addC 13 C13).addC 14 C14).addC 15 C15).addC 142 C142
def limV : AV := .tup [.agg [nilA], bA false, iA 3]
def rngV : AV := .tup [.agg [nilA], bA false, iA 2]
def noV : AV := .tup [.agg [nilA], bA false, iA 0]
def yesV (i j : Int) : AV := .tup [.agg [.sl [[iA i, iA j]] 0], bA true, iA 0]
def fndK (els : List (List AV)) (s : List UInt8) (k : Int) (K : AV → Prop) : Prop :=
 iteP (decide ((65536 : Int) < s.length)) (K limV) (iteP (decide (k < 0)) (K rngV) (iteP (decide ((s.length : Int) < k)) (K rngV)
  (S142 els s k ∧ ∀ x : Int × Int × Bool, Ans els s x → iteP x.2.2 (K (yesV x.1 x.2.1)) (K noV))))
def preF (l : List UInt8) (f : Int) : List Prop := [IsTree (treeR l), IsTree (treeR l), IsTree (treeR l), IsX [.agg (xV l f)], IsTree (treeR l), IsX [.agg (xV l f)]]
def R8 (f : Int) (l : List UInt8) : Prop := ∀ (s : List UInt8) (k : Int) (K : AV → Prop), chain (preF l f) (fndK (progR l) s k K) → wpCall TFi cfg Tryz.prog 60 8 [.agg (xV l f), aStr s, iA k] heapF fun r h' => wpDeepB h' r K
def LNo (_ : St) : Option LSpec := some { pre := False, alts := [] }
def TAl : Tab := TFi.addL 9 8 LNo
def R9 (f : Int) (l : List UInt8) : Prop := ∀ (s : List UInt8) (K : AV → Prop), chain (preF l f) (iteP (decide ((65536 : Int) < s.length)) (K (.tup [nilA, iA 3])) (iteP (decide ((s.length : Int) < 0)) (K (.tup [nilA, iA 2])) (loopAt Tryz.prog 9 8 = loopAt Tryz.prog 9 8 ∧ False ∧ True))) → wpCall TAl cfg Tryz.prog 60 9 [.agg (xV l f), aStr s] heapF fun r h' => wpDeepB h' r K
end
end Go.Proofs.Rl
