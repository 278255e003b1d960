/- A part of the proof: definitions and lemmas. -/
import Derived.Test.YtciidohmobfciaaGreatDoorPrintsA
import Derived.Test.YtciidohmobfciaaGreatDoorPrintsB
import Derived.Test.YtciidohmobfciaaGreatDoorPrintsC
import Derived.Test.YtciidohmobfciaaGreatDoorPrintsD
import Derived.Test.YtciidohmobfciaaGreatDoorPrintsE
import Derived.Lib.ItoaNum
import Derived.Lib.Replace
import Derived.Lib.CountLaws
namespace Go.Proofs.Pt
open Go.Proofs
def digF (u : Nat) (s : List UInt8) : List UInt8 := if h : u = 0 then s else digF (u / 10) (UInt8.ofNat (48 + u % 10) :: s)
termination_by u
decreasing_by omega
theorem digF_eq (u : Nat) : ∀ (s : List UInt8), 0 < u → digF u s = Lib.decDigits u ++ s := by
 induction u using Nat.strongRecOn with
 | _ u ih =>
  intro s h
  rw [digF, dif_neg (by omega), Lib.decDigits]
  by_cases h1 : u < 10
  ·rw [dif_pos h1, Nat.div_eq_of_lt h1, Nat.mod_eq_of_lt h1, digF, dif_pos rfl]; rfl
  ·rw [dif_neg h1, ih (u / 10) (by omega) _ (by omega)]; simp
def escAt (tabs lets : List UInt8) (c : UInt8) : List UInt8 :=
 match (tabs.zip lets).find? (fun p => p.1 == c) with
 | some p => [92, p.2]
 | none => if c == 92 then [92, 92] else if 32 ≤ c ∧ c ≤ 126 then [c] else [92, 48 + c / 64, 48 + c / 8 % 8, 48 + c % 8]
def quoF (s : List UInt8) : List UInt8 := s.flatMap fun c => if c == 34 then [92, c] else [c]
theorem quoF_nil : quoF [] = [] := rfl
theorem quoF_cons (c : UInt8) (s : List UInt8) : quoF (c :: s) = (if c == 34 then [92, c] else [c]) ++ quoF s := rfl
end Go.Proofs.Pt
namespace Go.Proofs.Pt
open Go.Proofs
theorem index_quote (l : List UInt8) : Lib.index (34 :: l) [34] = 0 := by simp [Lib.index]
theorem index_other {b : UInt8} (h : b ≠ 34) (l : List UInt8) : Lib.index (b :: l) [34] = if Lib.index l [34] = -1 then -1 else Lib.index l [34] + 1 := by
 have h' : ¬ (34 : UInt8) = b := fun e => h e.symm
 simp [Lib.index, h']
theorem rep_other {b : UInt8} (h : b ≠ 34) (l n : List UInt8) : ∀ k, Lib.replaceK [34] n k (b :: l) = b :: Lib.replaceK [34] n k l
 | 0 => rfl
 | k + 1 => by
  by_cases m : Lib.index l [34] = -1
  ·rw [Lib.replaceK, Lib.replaceK, if_pos (by rw [index_other h, if_pos m]; rfl), if_pos (by rw [m]; rfl)]
  ·have g := Lib.index_ge l [34]
   obtain ⟨i, e⟩ : ∃ i : Nat, Lib.index l [34] = i := ⟨(Lib.index l [34]).toNat, by omega⟩
   have e' : Lib.index (b :: l) [34] = ((i + 1 : Nat) : Int) := by rw [index_other h, if_neg m, e]; rfl
   rw [Lib.replaceK_hit _ _ _ _ _ e', Lib.replaceK_hit _ _ _ _ _ e]
   rfl
theorem count_other {b : UInt8} (h : b ≠ 34) (l : List UInt8) : Lib.count (b :: l) [34] = Lib.count l [34] := by
 by_cases m : Lib.index l [34] = -1
 ·rw [Lib.count_miss m, Lib.count_miss (by rw [index_other h, if_pos m])]
 ·have g := Lib.index_ge l [34]
  obtain ⟨i, e⟩ : ∃ i : Nat, Lib.index l [34] = i := ⟨(Lib.index l [34]).toNat, by omega⟩
  have e' : Lib.index (b :: l) [34] = ((i + 1 : Nat) : Int) := by rw [index_other h, if_neg m, e]; rfl
  rw [Lib.count_hit (by simp) e', Lib.count_hit (by simp) e]
  rfl
theorem rep_quo : ∀ s : List UInt8, Lib.replaceK [34] [92, 34] (Lib.count s [34]) s = quoF s
 | [] => by rw [Lib.count_miss (by rfl)]; rfl
 | b :: l => by
  by_cases h : b = 34
  ·subst h
   have e : Lib.index (34 :: l) [34] = ((0 : Nat) : Int) := index_quote l
   rw [Lib.count_hit (by simp) e, Nat.add_comm, Lib.replaceK_hit _ _ _ _ _ e]
   show [] ++ [92, 34] ++ Lib.replaceK [34] [92, 34] (Lib.count l [34]) l = _
   rw [rep_quo l]; rfl
  ·rw [count_other h, rep_other h, rep_quo l, quoF_cons, if_neg (by simpa using h)]; rfl
theorem replaceAll_quo (s : List UInt8) : Lib.replaceAll s [34] [92, 34] = quoF s := by
 rw [Lib.replaceAll, Lib.replace, if_neg (by decide), Lib.replaceNum, if_pos (Or.inl (by decide)), rep_quo]
end Go.Proofs.Pt
namespace Go.Proofs.Pt
open Go.Proofs
def escP (c : UInt8) : List UInt8 := escAt [10, 9, 13, 7, 8, 12, 11] [110, 116, 114, 97, 98, 102, 118] c
def letR (c : UInt8) : UInt8 :=
 if c = 7 then 97 else if c = 8 then 98 else if c = 9 then 116 else if c = 10 then 110 else if c = 11 then 118 else if c = 12 then 102 else if c = 13 then 114 else if c = 92 then 92 else 0
def escR (c : UInt8) : List UInt8 :=
 if letR c ≠ 0 then [92, letR c] else if c < 32 ∨ 126 < c then [92, 48 + c / 64, 48 + c / 8 % 8, 48 + c % 8] else [c]
set_option maxRecDepth 100000 in
theorem esc_all : ∀ n : Fin 256, escP (UInt8.ofNat n.val) = escR (UInt8.ofNat n.val) := by decide +kernel
theorem esc_eq (c : UInt8) : escP c = escR c := by
 have h := esc_all ⟨c.toNat, c.toNat_lt⟩
 rwa [UInt8.ofNat_toNat] at h
def escF (s : List UInt8) : List UInt8 := s.flatMap escP
end Go.Proofs.Pt
namespace Go.Proofs.Pt
open Go.Proofs
def fmtR (n : Int) : List UInt8 := if n = 0 then [48] else if n < 0 then 45 :: digF n.natAbs [] else digF n.natAbs []
theorem fmtR_eq (n : Int) : fmtR n = Lib.itoa n := by
 unfold fmtR Lib.itoa
 by_cases h0 : n = 0
 ·subst h0; rw [if_pos rfl, if_neg (by omega), show (0 : Int).toNat = 0 from rfl, Lib.decDigits_one (by omega)]; rfl
 ·rw [if_neg h0]
  by_cases h : n < 0
  ·rw [if_pos h, if_pos h, digF_eq _ _ (by omega), List.append_nil]
  ·rw [if_neg h, if_neg h, digF_eq _ _ (by omega), List.append_nil, show n.natAbs = n.toNat by omega]
def leastF : Nat → Nat → List UInt8 → List UInt8
 | 0, u, s => digF u s
 | k + 1, u, s => leastF k (u / 10) (UInt8.ofNat (48 + u % 10) :: s)
theorem leastF_one (u : Nat) : leastF 1 u [] = Lib.decDigits u := by
 show digF (u / 10) [UInt8.ofNat (48 + u % 10)] = _
 by_cases h : u < 10
 ·rw [Nat.div_eq_of_lt h, digF, dif_pos rfl, Nat.mod_eq_of_lt h, Lib.decDigits_one h]
 ·rw [digF_eq _ _ (by omega), Lib.decDigits.eq_1 u, dif_neg h]
theorem leastF_four {f : Nat} (h : f < 10000) : leastF 4 f [] = (Lib.decDigits (10000 + f)).drop 1 := by
 have e0 : digF 0 = id := by funext s; rw [digF, dif_pos rfl]; rfl
 have e : leastF 4 f [] = [UInt8.ofNat (48 + f / 10 / 10 / 10 % 10), UInt8.ofNat (48 + f / 10 / 10 % 10), UInt8.ofNat (48 + f / 10 % 10), UInt8.ofNat (48 + f % 10)] := by
  show digF (f / 10 / 10 / 10 / 10) _ = _
  rw [show f / 10 / 10 / 10 / 10 = 0 by omega, e0]; rfl
 rw [e, Lib.decDigits.eq_1 (10000 + f), dif_neg (by omega), Lib.decDigits.eq_1 ((10000 + f) / 10), dif_neg (by omega), Lib.decDigits.eq_1 ((10000 + f) / 10 / 10), dif_neg (by omega), Lib.decDigits.eq_1 ((10000 + f) / 10 / 10 / 10), dif_neg (by omega), Lib.decDigits_one (by omega)]
 simp only [List.cons_append, List.nil_append, List.drop_succ_cons, List.drop_zero]
 congr 1
 ·congr 1; omega
 ·congr 1
  ·congr 1; omega
  ·congr 1
   ·congr 1; omega
   ·congr 2; omega
end Go.Proofs.Pt
namespace Go.Proofs.Pt
open Go.Proofs
def nearM (m d : Int) : Int := if d < -m then -m else if d > m then m else d
theorem near_minmax (m d : Int) (h : 0 ≤ m) : max (-m) (min m d) = nearM m d := by
 unfold nearM; split
 ·omega
 ·split <;> omega
def trimZ (s : List UInt8) : List UInt8 := (s.reverse.dropWhile (· == 48)).reverse
def decP (n : Nat) : List UInt8 := Lib.decDigits (n / 10000) ++ (if n % 10000 = 0 then [] else 46 :: trimZ ((Lib.decDigits (10000 + n % 10000)).drop 1))
end Go.Proofs.Pt
namespace Go.Proofs.Sp
open Go Go.Ef Go.Proofs.Pt
noncomputable section
abbrev Cells := List (List AV)
def nilA : AV := .sc (.slice none 0 0)
def iA (n : Int) : AV := .sc (.int .i64 n)
def uA (n : Int) : AV := .sc (.int .u8 n)
def bA (b : Bool) : AV := .sc (.bool b)
structure I64 (n : Int) : Prop where
 lo : -9223372036854775808 ≤ n
 hi : n ≤ 9223372036854775807
structure Small (s : List UInt8) : Prop where
 le : s.length ≤ 1048576
structure Mid (s : List UInt8) : Prop where
 le : s.length ≤ 4194304
structure Lot (s : List UInt8) : Prop where
 le : s.length ≤ 1099511627776
structure IsNo (s : List UInt8) : Prop where
 is : s = []
def C117 (args : List AV) (h : Heap) : Option CSpec :=
 match args with
 | [.sc (.int .i64 n), .sc (.int .i64 10)] => some (nspec (I64 n) (Lib.itoa n) aStr h)
 | _ => none
def C20 (args : List AV) (h : Heap) : Option CSpec :=
 match args with
 | [.sc (.int .i64 n)] => some (nspec (I64 n) (Lib.itoa n) aStr h)
 | _ => none
def I24 (n : Int) (s : List UInt8) (m : Int) : St := stOf 31 [(0, sInt n), (3, sStr s), (4, sInt m)] [] heapF
def X24 (n : Int) (s : List UInt8) : St := stOf 31 [(0, sInt n), (3, sStr s)] [] heapF
def q24 (n : Int) (s : List UInt8) (X : Prop) (e : Ex) (τ : St) : Prop :=
 match e with
 | .exit _ => e = .exit 0 ∧ τ = X24 n s ∧ X
 | _ => False
def L24 (σ : St) : Option LSpec := some { pre := σ.tidy [0, 3, 4] 0 = I24 (slI σ 0) (slS σ 3) (slI σ 4) ∧ IsNo (slS σ 3) ∧ I64 (slI σ 4), alts := [{ α := List UInt8, post := fun x => x = digF (slI σ 4).natAbs [], ex := .exit 0, st := X24 (slI σ 0) }] }
def T24 : Tab := tab0.addL 24 6 L24
structure Dec (n : Int) : Prop where
 lo : -10000000000000 ≤ n
 hi : n ≤ 10000000000000
structure Deci (n : Int) : Prop where
 lo : 0 ≤ n
 hi : n ≤ 10000000000000
def C89 (args : List AV) (h : Heap) : Option CSpec :=
 match args with
 | [.sc (.int .i64 n), .sc (.int .i64 k)] => some (nspec (Deci n ∧ Deci k) (leastF k.toNat n.toNat []) aStr h)
 | _ => none
def I89 (n k : Int) (s : List UInt8) (i : Int) : St := stOf 27 [(0, sInt n), (1, sInt k), (5, sStr s), (6, sInt i)] [] heapF
def X89 (s : List UInt8) : St := stOf 27 [(5, sStr s)] [] heapF
def q89 (s : List UInt8) (X : Prop) (e : Ex) (τ : St) : Prop :=
 match e with
 | .exit _ => e = .exit 0 ∧ τ = X89 s ∧ X
 | _ => False
structure Zero (n : Int) : Prop where
 is : n = 0
def L89 (σ : St) : Option LSpec := some { pre := σ.tidy [0, 1, 5, 6] 0 = I89 (slI σ 0) (slI σ 1) (slS σ 5) (slI σ 6) ∧ IsNo (slS σ 5) ∧ Zero (slI σ 6) ∧ Deci (slI σ 0) ∧ Deci (slI σ 1), alts := [{ α := List UInt8, post := fun x => x = leastF (slI σ 1).toNat (slI σ 0).toNat [], ex := .exit 0, st := X89 }] }
def T89 : Tab := tab0.addL 89 4 L89
structure Ends (s : List UInt8) : Prop where
 some : s.any (fun b => b != 48) = true
 le : s.length ≤ 1048576
def I54 (a s : List UInt8) : St := stOf 42 [(4, sStr a), (6, sStr s)] [] heapF
def I57 (n : Int) (a s : List UInt8) : St := stOf 39 [(0, sInt n), (4, sStr a), (5, sStr s)] [] heapF
def q54 (a s : List UInt8) (X : Prop) (e : Ex) (τ : St) : Prop :=
 match e with
 | .exit _ => e = .exit 0 ∧ τ = I54 a s ∧ X
 | _ => False
def q57 (n : Int) (a s : List UInt8) (X : Prop) (e : Ex) (τ : St) : Prop :=
 match e with
 | .exit _ => e = .exit 0 ∧ τ = I57 n a s ∧ X
 | _ => False
def L54 (σ : St) : Option LSpec := some { pre := σ.tidy [4, 6] 0 = I54 (slS σ 4) (slS σ 6) ∧ Ends (slS σ 6), alts := [{ α := List UInt8, post := fun x => x = trimZ (slS σ 6), ex := .exit 0, st := I54 (slS σ 4) }] }
def L57 (σ : St) : Option LSpec := some { pre := σ.tidy [0, 4, 5] 0 = I57 (slI σ 0) (slS σ 4) (slS σ 5) ∧ Ends (slS σ 5), alts := [{ α := List UInt8, post := fun x => x = trimZ (slS σ 5), ex := .exit 0, st := I57 (slI σ 0) (slS σ 4) }] }
def decT (n : Int) : List UInt8 := (if nearM 10000000000000 n < 0 then [45] else []) ++ decP (nearM 10000000000000 n).natAbs
def C54 (args : List AV) (h : Heap) : Option CSpec :=
 match args with
 | [.sc (.int .i64 n)] => some (nspec (I64 n) (decT n) aStr h)
 | _ => none
def C24 := C20
def C57 := C54
def C88 (args : List AV) (h : Heap) : Option CSpec :=
 match args with
 | [.sc (.int .i64 n)] => some (nspec (I64 n) (nearM 10000000000000 n) iA h)
 | _ => none
def T54 : Tab := (((tab0.addC 20 C20).addC 84 C88).addL 54 11 L54)
def T57 : Tab := (((tab0.addC 89 C89).addC 87 C88).addL 57 7 L57)
def letN (c : Int) : Int := (letR (UInt8.ofNat c.toNat)).toNat
def C85 (args : List AV) (h : Heap) : Option CSpec :=
 match args with
 | [.sc (.int .u8 c)] => some (nspec (0 ≤ c ∧ c < 256) (letN c) uA h)
 | _ => none
def rowB (s : List UInt8) : Cells := s.map fun b => [AV.sc (.int .u8 b.toNat)]
def hU (n : Nat) : Heap := { next := 2, objs := (Tr.leaf : Tr AObj).set 1 (.own 1 5 n), ro := 1, ty := .leaf }
def ownN (h : Heap) : Nat :=
 match h.get 1 with
 | some (.own _ _ n) => n
 | _ => 0
structure RowOf (s : List UInt8) (q : Cells × Nat) : Prop where
 els : q.1 = rowB s
 n : q.2 = s.length
def Z55 (s : List UInt8) (i : Int) : St := stOf 48 [(0, sStr s), (3, .v nilA), (4, sInt i)] [] heapF
def I55 (s : List UInt8) (i : Int) (els : Cells) (n : Nat) : St := stOf 48 [(0, sStr s), (3, .v (.sl els 2)), (4, sInt i)] [] (hU n)
def Y55 : St := stOf 48 [(3, .v nilA)] [] heapF
def X55 (els : Cells) (n : Nat) : St := stOf 48 [(3, .v (.sl els 2))] [] (hU n)
def qz55 (X : Prop) (e : Ex) (τ : St) : Prop :=
 match e with
 | .exit _ => e = .exit 0 ∧ τ = Y55 ∧ X
 | _ => False
def q55 (els : Cells) (n : Nat) (X : Prop) (e : Ex) (τ : St) : Prop :=
 match e with
 | .exit _ => e = .exit 0 ∧ τ = X55 els n ∧ X
 | _ => False
structure NotNo (s : List UInt8) : Prop where
 is : s ≠ []
def L55 (σ : St) : Option LSpec := some { pre := σ.tidy [0, 3, 4] 0 = Z55 (slS σ 0) 0 ∧ Small (slS σ 0), alts := [{ α := Unit, post := fun _ => IsNo (slS σ 0), ex := .exit 0, st := fun _ => Y55 }, { α := Cells × Nat, post := fun q => RowOf (escF (slS σ 0)) q, ex := .exit 0, st := fun q => X55 q.1 q.2 }] }
def T85 : Tab := tab0.addC 85 C85
def T55 : Tab := T85.addL 55 4 L55
def C55 (args : List AV) (h : Heap) : Option CSpec :=
 match args with
 | [.sc (.string s)] => some (nspec (Small s.data.toList) (escF s.data.toList) aStr h)
 | _ => none
def I25 (s : List UInt8) (els : Cells) (i : Int) (n : Nat) : St := stOf 33 [(3, sStr s), (4, .v (.sl els 2)), (5, sInt i)] [] (hU n)
def X25 (els : Cells) (n : Nat) : St := stOf 33 [(4, .v (.sl els 2))] [] (hU n)
def q25 (els : Cells) (n : Nat) (X : Prop) (e : Ex) (τ : St) : Prop :=
 match e with
 | .exit _ => e = .exit 0 ∧ τ = X25 els n ∧ X
 | _ => False
def L25 (σ : St) : Option LSpec := some { pre := σ.tidy [3, 4, 5] 0 = I25 (slS σ 3) (rowB [34]) (slI σ 5) 1 ∧ Zero (slI σ 5) ∧ Mid (slS σ 3), alts := [{ α := Cells × Nat, post := fun q => RowOf (34 :: quoF (slS σ 3)) q, ex := .exit 0, st := fun q => X25 q.1 q.2 }] }
def T25 : Tab := (tab0.addC 55 C55).addL 25 5 L25
def quoT (s : List UInt8) : List UInt8 := 34 :: (quoF (escF s) ++ [34])
def C25 (args : List AV) (h : Heap) : Option CSpec :=
 match args with
 | [.sc (.string s)] => some (nspec (Small s.data.toList) (quoT s.data.toList) aStr h)
 | _ => none
end
end Go.Proofs.Sp
namespace Go.Proofs.Sp
open Go Go.Ef Go.Proofs.Pt
noncomputable section
set_option maxRecDepth 100000
theorem v20 (M : Int) (n : Int) (K : AV → Prop) (h :
 I64 n ∧ ∀ (x : List UInt8), x = Lib.itoa n → K (AV.sc (Value.string (ByteArray.mk (Array.mk x))))) :
 (fun (M : Int) (n : Int) (K : AV → Prop) => wpCall (tab0.addC 117 C117) (cfg M) Tryz.prog 60 20 [iA n] heapF fun r h' => wpBack h' r K) M n K :=
 Eq.mp (by kernel_rfl) h
theorem r24 (M : Int) (n : Int) (s : List UInt8) (m : Int) (N : List UInt8 → Int → Prop) (X : Prop) (h :
 iteP (m != (0 : Int))
 (iteP (decide (m.tmod (10 : Int) < (0 : Int)))
 (iteP
 (strFits
 (List.map byteD
 [[AV.sc
 (Value.int IntKind.u8
 (IntKind.u8.wrap
 (IntKind.i64.wrap ((48 : Int) + IntKind.i64.wrap ((0 : Int) - m.tmod (10 : Int))))))]])
 s)
 (I24 n
 (List.map byteD
 [[AV.sc
 (Value.int IntKind.u8
 (IntKind.u8.wrap
 (IntKind.i64.wrap ((48 : Int) + IntKind.i64.wrap ((0 : Int) - m.tmod (10 : Int))))))]] ++
 s)
 (IntKind.i64.wrap (m.tdiv (10 : Int))) =
 I24 n
 (List.map byteD
 [[AV.sc
 (Value.int IntKind.u8
 (IntKind.u8.wrap
 (IntKind.i64.wrap ((48 : Int) + IntKind.i64.wrap ((0 : Int) - m.tmod (10 : Int))))))]] ++
 s)
 (IntKind.i64.wrap (m.tdiv (10 : Int))) ∧
 N
 (List.map byteD
 [[AV.sc
 (Value.int IntKind.u8
 (IntKind.u8.wrap
 (IntKind.i64.wrap ((48 : Int) + IntKind.i64.wrap ((0 : Int) - m.tmod (10 : Int))))))]] ++
 s)
 (IntKind.i64.wrap (m.tdiv (10 : Int))))
 False)
 (iteP
 (strFits
 (List.map byteD
 [[AV.sc (Value.int IntKind.u8 (IntKind.u8.wrap (IntKind.i64.wrap ((48 : Int) + m.tmod (10 : Int)))))]])
 s)
 (I24 n
 (List.map byteD
 [[AV.sc
 (Value.int IntKind.u8 (IntKind.u8.wrap (IntKind.i64.wrap ((48 : Int) + m.tmod (10 : Int)))))]] ++
 s)
 (IntKind.i64.wrap (m.tdiv (10 : Int))) =
 I24 n
 (List.map byteD
 [[AV.sc
 (Value.int IntKind.u8 (IntKind.u8.wrap (IntKind.i64.wrap ((48 : Int) + m.tmod (10 : Int)))))]] ++
 s)
 (IntKind.i64.wrap (m.tdiv (10 : Int))) ∧
 N
 (List.map byteD
 [[AV.sc (Value.int IntKind.u8 (IntKind.u8.wrap (IntKind.i64.wrap ((48 : Int) + m.tmod (10 : Int)))))]] ++
 s)
 (IntKind.i64.wrap (m.tdiv (10 : Int))))
 False))
 (Ex.exit (0 : Nat) = Ex.exit (0 : Nat) ∧ X24 n s = X24 n s ∧ X)) :
 (fun (M : Int) (n : Int) (s : List UInt8) (m : Int) (N : List UInt8 → Int → Prop) (X : Prop) => wpRound tab0 (cfg M) Tryz.prog 60 24 6 (I24 n s m) (fun τ => τ = I24 n (slS τ 3) (slI τ 4) ∧ N (slS τ 3) (slI τ 4)) (q24 n s X)) M n s m N X :=
 Eq.mp (by kernel_rfl) h
theorem v24 (M : Int) (n : Int) (K : AV → Prop) (h :
 iteP (n == (0 : Int)) (K (AV.sc (Value.string (ByteArray.mk (Array.mk [(48 : UInt8)])))))
 (loopAt Tryz.prog (24 : Nat) (6 : Nat) = loopAt Tryz.prog (24 : Nat) (6 : Nat) ∧
 (I24 n [] n = I24 n [] n ∧ IsNo [] ∧ I64 n) ∧
 ∀ (x : List UInt8),
 x = digF n.natAbs [] →
 iteP (decide (n < (0 : Int)))
 (iteP (strFits [(45 : UInt8)] x) (K (AV.sc (Value.string (ByteArray.mk (Array.mk ([(45 : UInt8)] ++ x))))))
 False)
 (K (AV.sc (Value.string (ByteArray.mk (Array.mk x))))))) :
 (fun (M : Int) (n : Int) (K : AV → Prop) => wpCall T24 (cfg M) Tryz.prog 60 24 [iA n] heapF fun r h' => wpBack h' r K) M n K :=
 Eq.mp (by kernel_rfl) h
theorem r89 (M : Int) (n : Int) (k : Int) (s : List UInt8) (i : Int) (N : Int → List UInt8 → Int → Prop) (X : Prop) (h :
 iteP (decide (i < k))
 (iteP
 (strFits
 (List.map byteD
 [[AV.sc (Value.int IntKind.u8 (IntKind.u8.wrap (IntKind.i64.wrap ((48 : Int) + n.tmod (10 : Int)))))]])
 s)
 (I89 (IntKind.i64.wrap (n.tdiv (10 : Int))) k
 (List.map byteD
 [[AV.sc (Value.int IntKind.u8 (IntKind.u8.wrap (IntKind.i64.wrap ((48 : Int) + n.tmod (10 : Int)))))]] ++
 s)
 (IntKind.i64.wrap (i + (1 : Int))) =
 I89 (IntKind.i64.wrap (n.tdiv (10 : Int))) k
 (List.map byteD
 [[AV.sc (Value.int IntKind.u8 (IntKind.u8.wrap (IntKind.i64.wrap ((48 : Int) + n.tmod (10 : Int)))))]] ++
 s)
 (IntKind.i64.wrap (i + (1 : Int))) ∧
 N (IntKind.i64.wrap (n.tdiv (10 : Int)))
 (List.map byteD
 [[AV.sc (Value.int IntKind.u8 (IntKind.u8.wrap (IntKind.i64.wrap ((48 : Int) + n.tmod (10 : Int)))))]] ++
 s)
 (IntKind.i64.wrap (i + (1 : Int))))
 False)
 (iteP (decide ((0 : Int) < n))
 (iteP
 (strFits
 (List.map byteD
 [[AV.sc (Value.int IntKind.u8 (IntKind.u8.wrap (IntKind.i64.wrap ((48 : Int) + n.tmod (10 : Int)))))]])
 s)
 (I89 (IntKind.i64.wrap (n.tdiv (10 : Int))) k
 (List.map byteD
 [[AV.sc
 (Value.int IntKind.u8 (IntKind.u8.wrap (IntKind.i64.wrap ((48 : Int) + n.tmod (10 : Int)))))]] ++
 s)
 (IntKind.i64.wrap (i + (1 : Int))) =
 I89 (IntKind.i64.wrap (n.tdiv (10 : Int))) k
 (List.map byteD
 [[AV.sc
 (Value.int IntKind.u8 (IntKind.u8.wrap (IntKind.i64.wrap ((48 : Int) + n.tmod (10 : Int)))))]] ++
 s)
 (IntKind.i64.wrap (i + (1 : Int))) ∧
 N (IntKind.i64.wrap (n.tdiv (10 : Int)))
 (List.map byteD
 [[AV.sc (Value.int IntKind.u8 (IntKind.u8.wrap (IntKind.i64.wrap ((48 : Int) + n.tmod (10 : Int)))))]] ++
 s)
 (IntKind.i64.wrap (i + (1 : Int))))
 False)
 (Ex.exit (0 : Nat) = Ex.exit (0 : Nat) ∧ X89 s = X89 s ∧ X))) :
 (fun (M : Int) (n k : Int) (s : List UInt8) (i : Int) (N : Int → List UInt8 → Int → Prop) (X : Prop) => wpRound tab0 (cfg M) Tryz.prog 60 89 4 (I89 n k s i) (fun τ => τ = I89 (slI τ 0) k (slS τ 5) (slI τ 6) ∧ N (slI τ 0) (slS τ 5) (slI τ 6)) (q89 s X)) M n k s i N X :=
 Eq.mp (by kernel_rfl) h
theorem v89 (M : Int) (n : Int) (k : Int) (K : AV → Prop) (h :
 loopAt Tryz.prog (89 : Nat) (4 : Nat) = loopAt Tryz.prog (89 : Nat) (4 : Nat) ∧
 (I89 n k [] (0 : Int) = I89 n k [] (0 : Int) ∧ IsNo [] ∧ Zero (0 : Int) ∧ Deci n ∧ Deci k) ∧
 ∀ (x : List UInt8), x = leastF k.toNat n.toNat [] → K (AV.sc (Value.string (ByteArray.mk (Array.mk x))))) :
 (fun (M : Int) (n k : Int) (K : AV → Prop) => wpCall T89 (cfg M) Tryz.prog 60 89 [iA n, iA k] heapF fun r h' => wpBack h' r K) M n k K :=
 Eq.mp (by kernel_rfl) h
theorem r54 (M : Int) (a : List UInt8) (s : List UInt8) (N : List UInt8 → Prop) (X : Prop) (h :
 iteP (inRange (IntKind.i64.wrap ((↑s.length : Int) - (1 : Int))) s.length)
 (iteP (byteAt s (IntKind.i64.wrap ((↑s.length : Int) - (1 : Int))) == (48 : Int))
 (iteP
 (decide ((0 : Int) ≤ IntKind.i64.wrap ((↑s.length : Int) - (1 : Int))) &&
 decide (IntKind.i64.wrap ((↑s.length : Int) - (1 : Int)) ≤ (↑s.length : Int)))
 (I54 a (List.take (IntKind.i64.wrap ((↑s.length : Int) - (1 : Int))).toNat s) =
 I54 a (List.take (IntKind.i64.wrap ((↑s.length : Int) - (1 : Int))).toNat s) ∧
 N (List.take (IntKind.i64.wrap ((↑s.length : Int) - (1 : Int))).toNat s))
 False)
 (Ex.exit (0 : Nat) = Ex.exit (0 : Nat) ∧ I54 a s = I54 a s ∧ X))
 False) :
 (fun (M : Int) (a s : List UInt8) (N : List UInt8 → Prop) (X : Prop) => wpRound tab0 (cfg M) Tryz.prog 60 54 11 (I54 a s) (fun τ => τ = I54 a (slS τ 6) ∧ N (slS τ 6)) (q54 a s X)) M a s N X :=
 Eq.mp (by kernel_rfl) h
theorem r57 (M : Int) (n : Int) (a : List UInt8) (s : List UInt8) (N : List UInt8 → Prop) (X : Prop) (h :
 iteP (inRange (IntKind.i64.wrap ((↑s.length : Int) - (1 : Int))) s.length)
 (iteP (byteAt s (IntKind.i64.wrap ((↑s.length : Int) - (1 : Int))) == (48 : Int))
 (iteP
 (decide ((0 : Int) ≤ IntKind.i64.wrap ((↑s.length : Int) - (1 : Int))) &&
 decide (IntKind.i64.wrap ((↑s.length : Int) - (1 : Int)) ≤ (↑s.length : Int)))
 (I57 n a (List.take (IntKind.i64.wrap ((↑s.length : Int) - (1 : Int))).toNat s) =
 I57 n a (List.take (IntKind.i64.wrap ((↑s.length : Int) - (1 : Int))).toNat s) ∧
 N (List.take (IntKind.i64.wrap ((↑s.length : Int) - (1 : Int))).toNat s))
 False)
 (Ex.exit (0 : Nat) = Ex.exit (0 : Nat) ∧ I57 n a s = I57 n a s ∧ X))
 False) :
 (fun (M : Int) (n : Int) (a s : List UInt8) (N : List UInt8 → Prop) (X : Prop) => wpRound tab0 (cfg M) Tryz.prog 60 57 7 (I57 n a s) (fun τ => τ = I57 n a (slS τ 5) ∧ N (slS τ 5)) (q57 n a s X)) M n a s N X :=
 Eq.mp (by kernel_rfl) h
theorem v84 (M : Int) (n : Int) (K : AV → Prop) (h :
 K (AV.sc (Value.int IntKind.i64 (max (-10000000000000 : Int) (min (10000000000000 : Int) n))))) :
 (fun (M : Int) (n : Int) (K : AV → Prop) => wpCall tab0 (cfg M) Tryz.prog 60 84 [iA n] heapF fun r h' => wpBack h' r K) M n K :=
 Eq.mp (by kernel_rfl) h
theorem v87 (M : Int) (n : Int) (K : AV → Prop) (h :
 iteP (decide (n < (-10000000000000 : Int))) (K (AV.sc (Value.int IntKind.i64 (-10000000000000 : Int))))
 (iteP (decide ((10000000000000 : Int) < n)) (K (AV.sc (Value.int IntKind.i64 (10000000000000 : Int))))
 (K (AV.sc (Value.int IntKind.i64 n))))) :
 (fun (M : Int) (n : Int) (K : AV → Prop) => wpCall tab0 (cfg M) Tryz.prog 60 87 [iA n] heapF fun r h' => wpBack h' r K) M n K :=
 Eq.mp (by kernel_rfl) h
theorem v54 (M : Int) (n : Int) (K : AV → Prop) (h :
 I64 n ∧
 ∀ (x : Int),
 x = nearM (10000000000000 : Int) n →
 iteP (decide (x < (0 : Int)))
 (I64 (IntKind.i64.wrap ((IntKind.i64.wrap ((0 : Int) - x)).tdiv (10000 : Int))) ∧
 ∀ (x_1 : List UInt8),
 x_1 = Lib.itoa (IntKind.i64.wrap ((IntKind.i64.wrap ((0 : Int) - x)).tdiv (10000 : Int))) →
 iteP (strFits [(45 : UInt8)] x_1)
 (iteP ((IntKind.i64.wrap ((0 : Int) - x)).tmod (10000 : Int) == (0 : Int))
 (K (AV.sc (Value.string (ByteArray.mk (Array.mk ([(45 : UInt8)] ++ x_1))))))
 (I64 (IntKind.i64.wrap ((10000 : Int) + (IntKind.i64.wrap ((0 : Int) - x)).tmod (10000 : Int))) ∧
 ∀ (x_2 : List UInt8),
 x_2 =
 Lib.itoa
 (IntKind.i64.wrap ((10000 : Int) + (IntKind.i64.wrap ((0 : Int) - x)).tmod (10000 : Int))) →
 iteP (true && decide ((1 : Int) ≤ (↑x_2.length : Int)))
 (loopAt Tryz.prog (54 : Nat) (11 : Nat) = loopAt Tryz.prog (54 : Nat) (11 : Nat) ∧
 (I54 ([(45 : UInt8)] ++ x_1) (List.drop (1 : Nat) x_2) =
 I54 ([(45 : UInt8)] ++ x_1) (List.drop (1 : Nat) x_2) ∧
 Ends (List.drop (1 : Nat) x_2)) ∧
 ∀ (x : List UInt8),
 x = trimZ (List.drop (1 : Nat) x_2) →
 iteP (strFits ([(45 : UInt8)] ++ x_1) [(46 : UInt8)])
 (iteP (strFits ([(45 : UInt8)] ++ x_1 ++ [(46 : UInt8)]) x)
 (K
 (AV.sc
 (Value.string
 (ByteArray.mk (Array.mk ([(45 : UInt8)] ++ x_1 ++ [(46 : UInt8)] ++ x))))))
 False)
 False)
 False))
 False)
 (I64 (IntKind.i64.wrap (x.tdiv (10000 : Int))) ∧
 ∀ (x_1 : List UInt8),
 x_1 = Lib.itoa (IntKind.i64.wrap (x.tdiv (10000 : Int))) →
 iteP (strFits [] x_1)
 (iteP (x.tmod (10000 : Int) == (0 : Int))
 (K (AV.sc (Value.string (ByteArray.mk (Array.mk ([] ++ x_1))))))
 (I64 (IntKind.i64.wrap ((10000 : Int) + x.tmod (10000 : Int))) ∧
 ∀ (x_2 : List UInt8),
 x_2 = Lib.itoa (IntKind.i64.wrap ((10000 : Int) + x.tmod (10000 : Int))) →
 iteP (true && decide ((1 : Int) ≤ (↑x_2.length : Int)))
 (loopAt Tryz.prog (54 : Nat) (11 : Nat) = loopAt Tryz.prog (54 : Nat) (11 : Nat) ∧
 (I54 ([] ++ x_1) (List.drop (1 : Nat) x_2) = I54 ([] ++ x_1) (List.drop (1 : Nat) x_2) ∧
 Ends (List.drop (1 : Nat) x_2)) ∧
 ∀ (x : List UInt8),
 x = trimZ (List.drop (1 : Nat) x_2) →
 iteP (strFits ([] ++ x_1) [(46 : UInt8)])
 (iteP (strFits ([] ++ x_1 ++ [(46 : UInt8)]) x)
 (K
 (AV.sc
 (Value.string (ByteArray.mk (Array.mk ([] ++ x_1 ++ [(46 : UInt8)] ++ x))))))
 False)
 False)
 False))
 False)) :
 (fun (M : Int) (n : Int) (K : AV → Prop) => wpCall T54 (cfg M) Tryz.prog 60 54 [iA n] heapF fun r h' => wpBack h' r K) M n K :=
 Eq.mp (by kernel_rfl) h
theorem v57 (M : Int) (n : Int) (K : AV → Prop) (h :
 I64 n ∧
 ∀ (x : Int),
 x = nearM (10000000000000 : Int) n →
 iteP (decide (x < (0 : Int)))
 ((Deci (IntKind.i64.wrap ((IntKind.i64.wrap ((0 : Int) - x)).tdiv (10000 : Int))) ∧ Deci (1 : Int)) ∧
 ∀ (x_1 : List UInt8),
 x_1 = leastF (1 : Nat) (IntKind.i64.wrap ((IntKind.i64.wrap ((0 : Int) - x)).tdiv (10000 : Int))).toNat [] →
 iteP ((IntKind.i64.wrap ((0 : Int) - x)).tmod (10000 : Int) != (0 : Int))
 ((Deci ((IntKind.i64.wrap ((0 : Int) - x)).tmod (10000 : Int)) ∧ Deci (4 : Int)) ∧
 ∀ (x_2 : List UInt8),
 x_2 = leastF (4 : Nat) ((IntKind.i64.wrap ((0 : Int) - x)).tmod (10000 : Int)).toNat [] →
 loopAt Tryz.prog (57 : Nat) (7 : Nat) = loopAt Tryz.prog (57 : Nat) (7 : Nat) ∧
 (I57 x x_1 x_2 = I57 x x_1 x_2 ∧ Ends x_2) ∧
 ∀ (x_3 : List UInt8),
 x_3 = trimZ x_2 →
 iteP (strFits x_1 [(46 : UInt8)])
 (iteP (strFits (x_1 ++ [(46 : UInt8)]) x_3)
 (iteP (decide (x < (0 : Int)))
 (iteP (strFits [(45 : UInt8)] (x_1 ++ [(46 : UInt8)] ++ x_3))
 (K
 (AV.sc
 (Value.string
 (ByteArray.mk
 (Array.mk ([(45 : UInt8)] ++ (x_1 ++ [(46 : UInt8)] ++ x_3)))))))
 False)
 (K (AV.sc (Value.string (ByteArray.mk (Array.mk (x_1 ++ [(46 : UInt8)] ++ x_3)))))))
 False)
 False)
 (iteP (decide (x < (0 : Int)))
 (iteP (strFits [(45 : UInt8)] x_1)
 (K (AV.sc (Value.string (ByteArray.mk (Array.mk ([(45 : UInt8)] ++ x_1)))))) False)
 (K (AV.sc (Value.string (ByteArray.mk (Array.mk x_1)))))))
 ((Deci (IntKind.i64.wrap (x.tdiv (10000 : Int))) ∧ Deci (1 : Int)) ∧
 ∀ (x_1 : List UInt8),
 x_1 = leastF (1 : Nat) (IntKind.i64.wrap (x.tdiv (10000 : Int))).toNat [] →
 iteP (x.tmod (10000 : Int) != (0 : Int))
 ((Deci (x.tmod (10000 : Int)) ∧ Deci (4 : Int)) ∧
 ∀ (x_2 : List UInt8),
 x_2 = leastF (4 : Nat) (x.tmod (10000 : Int)).toNat [] →
 loopAt Tryz.prog (57 : Nat) (7 : Nat) = loopAt Tryz.prog (57 : Nat) (7 : Nat) ∧
 (I57 x x_1 x_2 = I57 x x_1 x_2 ∧ Ends x_2) ∧
 ∀ (x_3 : List UInt8),
 x_3 = trimZ x_2 →
 iteP (strFits x_1 [(46 : UInt8)])
 (iteP (strFits (x_1 ++ [(46 : UInt8)]) x_3)
 (iteP (decide (x < (0 : Int)))
 (iteP (strFits [(45 : UInt8)] (x_1 ++ [(46 : UInt8)] ++ x_3))
 (K
 (AV.sc
 (Value.string
 (ByteArray.mk
 (Array.mk ([(45 : UInt8)] ++ (x_1 ++ [(46 : UInt8)] ++ x_3)))))))
 False)
 (K (AV.sc (Value.string (ByteArray.mk (Array.mk (x_1 ++ [(46 : UInt8)] ++ x_3)))))))
 False)
 False)
 (iteP (decide (x < (0 : Int)))
 (iteP (strFits [(45 : UInt8)] x_1)
 (K (AV.sc (Value.string (ByteArray.mk (Array.mk ([(45 : UInt8)] ++ x_1)))))) False)
 (K (AV.sc (Value.string (ByteArray.mk (Array.mk x_1)))))))) :
 (fun (M : Int) (n : Int) (K : AV → Prop) => wpCall T57 (cfg M) Tryz.prog 60 57 [iA n] heapF fun r h' => wpBack h' r K) M n K :=
 Eq.mp (by kernel_rfl) h
theorem v85 (M : Int) (c : Int) (K : AV → Prop) (h :
 iteP (c == (7 : Int)) (K (AV.sc (Value.int IntKind.u8 (97 : Int))))
 (iteP (c == (8 : Int)) (K (AV.sc (Value.int IntKind.u8 (98 : Int))))
 (iteP (c == (9 : Int)) (K (AV.sc (Value.int IntKind.u8 (116 : Int))))
 (iteP (c == (10 : Int)) (K (AV.sc (Value.int IntKind.u8 (110 : Int))))
 (iteP (c == (11 : Int)) (K (AV.sc (Value.int IntKind.u8 (118 : Int))))
 (iteP (c == (12 : Int)) (K (AV.sc (Value.int IntKind.u8 (102 : Int))))
 (iteP (c == (13 : Int)) (K (AV.sc (Value.int IntKind.u8 (114 : Int))))
 (iteP (c == (92 : Int)) (K (AV.sc (Value.int IntKind.u8 (92 : Int))))
 (K (AV.sc (Value.int IntKind.u8 (0 : Int)))))))))))) :
 (fun (M : Int) (c : Int) (K : AV → Prop) => wpCall tab0 (cfg M) Tryz.prog 60 85 [uA c] heapF fun r h' => wpBack h' r K) M c K :=
 Eq.mp (by kernel_rfl) h
theorem rz55 (M : Int) (s : List UInt8) (i : Int) (N : Cells → Nat → Int → Prop) (X : Prop) (h :
 iteP (decide (i < (↑s.length : Int)))
 (iteP (inRange i s.length)
 (((0 : Int) ≤ byteAt s i ∧ byteAt s i < (256 : Int)) ∧
 ∀ (x : Int),
 x = letN (byteAt s i) →
 iteP (x != (0 : Int))
 (((0 : Int) ≤ byteAt s i ∧ byteAt s i < (256 : Int)) ∧
 ∀ (x : Int),
 x = letN (byteAt s i) →
 I55 s (IntKind.i64.wrap (i + (1 : Int)))
 [[AV.sc (Value.int IntKind.u8 (92 : Int))], [AV.sc (Value.int IntKind.u8 x)]]
 [[AV.sc (Value.int IntKind.u8 (92 : Int))], [AV.sc (Value.int IntKind.u8 x)]].length =
 I55 s (IntKind.i64.wrap (i + (1 : Int)))
 [[AV.sc (Value.int IntKind.u8 (92 : Int))], [AV.sc (Value.int IntKind.u8 x)]]
 [[AV.sc (Value.int IntKind.u8 (92 : Int))], [AV.sc (Value.int IntKind.u8 x)]].length ∧
 N [[AV.sc (Value.int IntKind.u8 (92 : Int))], [AV.sc (Value.int IntKind.u8 x)]]
 [[AV.sc (Value.int IntKind.u8 (92 : Int))], [AV.sc (Value.int IntKind.u8 x)]].length
 (IntKind.i64.wrap (i + (1 : Int))))
 (iteP (decide (byteAt s i < (32 : Int)))
 (I55 s (IntKind.i64.wrap (i + (1 : Int)))
 [[AV.sc (Value.int IntKind.u8 (92 : Int))],
 [AV.sc
 (Value.int IntKind.u8
 (IntKind.u8.wrap ((48 : Int) + IntKind.u8.wrap ((byteAt s i).tdiv (64 : Int)))))],
 [AV.sc
 (Value.int IntKind.u8
 (IntKind.u8.wrap
 ((48 : Int) + (IntKind.u8.wrap ((byteAt s i).tdiv (8 : Int))).tmod (8 : Int))))],
 [AV.sc (Value.int IntKind.u8 (IntKind.u8.wrap ((48 : Int) + (byteAt s i).tmod (8 : Int))))]]
 [[AV.sc (Value.int IntKind.u8 (92 : Int))],
 [AV.sc
 (Value.int IntKind.u8
 (IntKind.u8.wrap ((48 : Int) + IntKind.u8.wrap ((byteAt s i).tdiv (64 : Int)))))],
 [AV.sc
 (Value.int IntKind.u8
 (IntKind.u8.wrap
 ((48 : Int) + (IntKind.u8.wrap ((byteAt s i).tdiv (8 : Int))).tmod (8 : Int))))],
 [AV.sc
 (Value.int IntKind.u8
 (IntKind.u8.wrap ((48 : Int) + (byteAt s i).tmod (8 : Int))))]].length =
 I55 s (IntKind.i64.wrap (i + (1 : Int)))
 [[AV.sc (Value.int IntKind.u8 (92 : Int))],
 [AV.sc
 (Value.int IntKind.u8
 (IntKind.u8.wrap ((48 : Int) + IntKind.u8.wrap ((byteAt s i).tdiv (64 : Int)))))],
 [AV.sc
 (Value.int IntKind.u8
 (IntKind.u8.wrap
 ((48 : Int) + (IntKind.u8.wrap ((byteAt s i).tdiv (8 : Int))).tmod (8 : Int))))],
 [AV.sc (Value.int IntKind.u8 (IntKind.u8.wrap ((48 : Int) + (byteAt s i).tmod (8 : Int))))]]
 [[AV.sc (Value.int IntKind.u8 (92 : Int))],
 [AV.sc
 (Value.int IntKind.u8
 (IntKind.u8.wrap ((48 : Int) + IntKind.u8.wrap ((byteAt s i).tdiv (64 : Int)))))],
 [AV.sc
 (Value.int IntKind.u8
 (IntKind.u8.wrap
 ((48 : Int) + (IntKind.u8.wrap ((byteAt s i).tdiv (8 : Int))).tmod (8 : Int))))],
 [AV.sc
 (Value.int IntKind.u8
 (IntKind.u8.wrap ((48 : Int) + (byteAt s i).tmod (8 : Int))))]].length ∧
 N
 [[AV.sc (Value.int IntKind.u8 (92 : Int))],
 [AV.sc
 (Value.int IntKind.u8
 (IntKind.u8.wrap ((48 : Int) + IntKind.u8.wrap ((byteAt s i).tdiv (64 : Int)))))],
 [AV.sc
 (Value.int IntKind.u8
 (IntKind.u8.wrap
 ((48 : Int) + (IntKind.u8.wrap ((byteAt s i).tdiv (8 : Int))).tmod (8 : Int))))],
 [AV.sc (Value.int IntKind.u8 (IntKind.u8.wrap ((48 : Int) + (byteAt s i).tmod (8 : Int))))]]
 [[AV.sc (Value.int IntKind.u8 (92 : Int))],
 [AV.sc
 (Value.int IntKind.u8
 (IntKind.u8.wrap ((48 : Int) + IntKind.u8.wrap ((byteAt s i).tdiv (64 : Int)))))],
 [AV.sc
 (Value.int IntKind.u8
 (IntKind.u8.wrap
 ((48 : Int) + (IntKind.u8.wrap ((byteAt s i).tdiv (8 : Int))).tmod (8 : Int))))],
 [AV.sc
 (Value.int IntKind.u8 (IntKind.u8.wrap ((48 : Int) + (byteAt s i).tmod (8 : Int))))]].length
 (IntKind.i64.wrap (i + (1 : Int))))
 (iteP (decide ((126 : Int) < byteAt s i))
 (I55 s (IntKind.i64.wrap (i + (1 : Int)))
 [[AV.sc (Value.int IntKind.u8 (92 : Int))],
 [AV.sc
 (Value.int IntKind.u8
 (IntKind.u8.wrap ((48 : Int) + IntKind.u8.wrap ((byteAt s i).tdiv (64 : Int)))))],
 [AV.sc
 (Value.int IntKind.u8
 (IntKind.u8.wrap
 ((48 : Int) + (IntKind.u8.wrap ((byteAt s i).tdiv (8 : Int))).tmod (8 : Int))))],
 [AV.sc (Value.int IntKind.u8 (IntKind.u8.wrap ((48 : Int) + (byteAt s i).tmod (8 : Int))))]]
 [[AV.sc (Value.int IntKind.u8 (92 : Int))],
 [AV.sc
 (Value.int IntKind.u8
 (IntKind.u8.wrap ((48 : Int) + IntKind.u8.wrap ((byteAt s i).tdiv (64 : Int)))))],
 [AV.sc
 (Value.int IntKind.u8
 (IntKind.u8.wrap
 ((48 : Int) + (IntKind.u8.wrap ((byteAt s i).tdiv (8 : Int))).tmod (8 : Int))))],
 [AV.sc
 (Value.int IntKind.u8
 (IntKind.u8.wrap ((48 : Int) + (byteAt s i).tmod (8 : Int))))]].length =
 I55 s (IntKind.i64.wrap (i + (1 : Int)))
 [[AV.sc (Value.int IntKind.u8 (92 : Int))],
 [AV.sc
 (Value.int IntKind.u8
 (IntKind.u8.wrap ((48 : Int) + IntKind.u8.wrap ((byteAt s i).tdiv (64 : Int)))))],
 [AV.sc
 (Value.int IntKind.u8
 (IntKind.u8.wrap
 ((48 : Int) + (IntKind.u8.wrap ((byteAt s i).tdiv (8 : Int))).tmod (8 : Int))))],
 [AV.sc (Value.int IntKind.u8 (IntKind.u8.wrap ((48 : Int) + (byteAt s i).tmod (8 : Int))))]]
 [[AV.sc (Value.int IntKind.u8 (92 : Int))],
 [AV.sc
 (Value.int IntKind.u8
 (IntKind.u8.wrap ((48 : Int) + IntKind.u8.wrap ((byteAt s i).tdiv (64 : Int)))))],
 [AV.sc
 (Value.int IntKind.u8
 (IntKind.u8.wrap
 ((48 : Int) + (IntKind.u8.wrap ((byteAt s i).tdiv (8 : Int))).tmod (8 : Int))))],
 [AV.sc
 (Value.int IntKind.u8
 (IntKind.u8.wrap ((48 : Int) + (byteAt s i).tmod (8 : Int))))]].length ∧
 N
 [[AV.sc (Value.int IntKind.u8 (92 : Int))],
 [AV.sc
 (Value.int IntKind.u8
 (IntKind.u8.wrap ((48 : Int) + IntKind.u8.wrap ((byteAt s i).tdiv (64 : Int)))))],
 [AV.sc
 (Value.int IntKind.u8
 (IntKind.u8.wrap
 ((48 : Int) + (IntKind.u8.wrap ((byteAt s i).tdiv (8 : Int))).tmod (8 : Int))))],
 [AV.sc (Value.int IntKind.u8 (IntKind.u8.wrap ((48 : Int) + (byteAt s i).tmod (8 : Int))))]]
 [[AV.sc (Value.int IntKind.u8 (92 : Int))],
 [AV.sc
 (Value.int IntKind.u8
 (IntKind.u8.wrap ((48 : Int) + IntKind.u8.wrap ((byteAt s i).tdiv (64 : Int)))))],
 [AV.sc
 (Value.int IntKind.u8
 (IntKind.u8.wrap
 ((48 : Int) + (IntKind.u8.wrap ((byteAt s i).tdiv (8 : Int))).tmod (8 : Int))))],
 [AV.sc
 (Value.int IntKind.u8 (IntKind.u8.wrap ((48 : Int) + (byteAt s i).tmod (8 : Int))))]].length
 (IntKind.i64.wrap (i + (1 : Int))))
 (I55 s (IntKind.i64.wrap (i + (1 : Int))) [[AV.sc (Value.int IntKind.u8 (byteAt s i))]]
 [[AV.sc (Value.int IntKind.u8 (byteAt s i))]].length =
 I55 s (IntKind.i64.wrap (i + (1 : Int))) [[AV.sc (Value.int IntKind.u8 (byteAt s i))]]
 [[AV.sc (Value.int IntKind.u8 (byteAt s i))]].length ∧
 N [[AV.sc (Value.int IntKind.u8 (byteAt s i))]] [[AV.sc (Value.int IntKind.u8 (byteAt s i))]].length
 (IntKind.i64.wrap (i + (1 : Int)))))))
 False)
 (Ex.exit (0 : Nat) = Ex.exit (0 : Nat) ∧ Y55 = Y55 ∧ X)) :
 (fun (M : Int) (s : List UInt8) (i : Int) (N : Cells → Nat → Int → Prop) (X : Prop) => wpRound T85 (cfg M) Tryz.prog 60 55 4 (Z55 s i) (fun τ => τ = I55 s (slI τ 4) (slEls τ 3) (ownN τ.h) ∧ N (slEls τ 3) (ownN τ.h) (slI τ 4)) (qz55 X)) M s i N X :=
 Eq.mp (by kernel_rfl) h
theorem r55 (M : Int) (s : List UInt8) (i : Int) (els : Cells) (n : Nat) (N : Cells → Nat → Int → Prop) (X : Prop) (h :
 iteP (decide (i < (↑s.length : Int)))
 (iteP (inRange i s.length)
 (((0 : Int) ≤ byteAt s i ∧ byteAt s i < (256 : Int)) ∧
 ∀ (x : Int),
 x = letN (byteAt s i) →
 iteP (x != (0 : Int))
 (((0 : Int) ≤ byteAt s i ∧ byteAt s i < (256 : Int)) ∧
 ∀ (x : Int),
 x = letN (byteAt s i) →
 iteP
 (allLen (1 : Nat) els &&
 fits
 (List.length els +
 [[AV.sc (Value.int IntKind.u8 (92 : Int))], [AV.sc (Value.int IntKind.u8 x)]].length)
 (1 : Nat))
 (iteP (decide (List.length els = n))
 (I55 s (IntKind.i64.wrap (i + (1 : Int)))
 (els ++ [[AV.sc (Value.int IntKind.u8 (92 : Int))], [AV.sc (Value.int IntKind.u8 x)]])
 (n + [[AV.sc (Value.int IntKind.u8 (92 : Int))], [AV.sc (Value.int IntKind.u8 x)]].length) =
 I55 s (IntKind.i64.wrap (i + (1 : Int)))
 (els ++ [[AV.sc (Value.int IntKind.u8 (92 : Int))], [AV.sc (Value.int IntKind.u8 x)]])
 (n + [[AV.sc (Value.int IntKind.u8 (92 : Int))], [AV.sc (Value.int IntKind.u8 x)]].length) ∧
 N (els ++ [[AV.sc (Value.int IntKind.u8 (92 : Int))], [AV.sc (Value.int IntKind.u8 x)]])
 (n + [[AV.sc (Value.int IntKind.u8 (92 : Int))], [AV.sc (Value.int IntKind.u8 x)]].length)
 (IntKind.i64.wrap (i + (1 : Int))))
 False)
 False)
 (iteP (decide (byteAt s i < (32 : Int)))
 (iteP
 (allLen (1 : Nat) els &&
 fits
 (List.length els +
 [[AV.sc (Value.int IntKind.u8 (92 : Int))],
 [AV.sc
 (Value.int IntKind.u8
 (IntKind.u8.wrap ((48 : Int) + IntKind.u8.wrap ((byteAt s i).tdiv (64 : Int)))))],
 [AV.sc
 (Value.int IntKind.u8
 (IntKind.u8.wrap
 ((48 : Int) + (IntKind.u8.wrap ((byteAt s i).tdiv (8 : Int))).tmod (8 : Int))))],
 [AV.sc
 (Value.int IntKind.u8
 (IntKind.u8.wrap ((48 : Int) + (byteAt s i).tmod (8 : Int))))]].length)
 (1 : Nat))
 (iteP (decide (List.length els = n))
 (I55 s (IntKind.i64.wrap (i + (1 : Int)))
 (els ++
 [[AV.sc (Value.int IntKind.u8 (92 : Int))],
 [AV.sc
 (Value.int IntKind.u8
 (IntKind.u8.wrap ((48 : Int) + IntKind.u8.wrap ((byteAt s i).tdiv (64 : Int)))))],
 [AV.sc
 (Value.int IntKind.u8
 (IntKind.u8.wrap
 ((48 : Int) + (IntKind.u8.wrap ((byteAt s i).tdiv (8 : Int))).tmod (8 : Int))))],
 [AV.sc
 (Value.int IntKind.u8 (IntKind.u8.wrap ((48 : Int) + (byteAt s i).tmod (8 : Int))))]])
 (n +
 [[AV.sc (Value.int IntKind.u8 (92 : Int))],
 [AV.sc
 (Value.int IntKind.u8
 (IntKind.u8.wrap ((48 : Int) + IntKind.u8.wrap ((byteAt s i).tdiv (64 : Int)))))],
 [AV.sc
 (Value.int IntKind.u8
 (IntKind.u8.wrap
 ((48 : Int) + (IntKind.u8.wrap ((byteAt s i).tdiv (8 : Int))).tmod (8 : Int))))],
 [AV.sc
 (Value.int IntKind.u8
 (IntKind.u8.wrap ((48 : Int) + (byteAt s i).tmod (8 : Int))))]].length) =
 I55 s (IntKind.i64.wrap (i + (1 : Int)))
 (els ++
 [[AV.sc (Value.int IntKind.u8 (92 : Int))],
 [AV.sc
 (Value.int IntKind.u8
 (IntKind.u8.wrap ((48 : Int) + IntKind.u8.wrap ((byteAt s i).tdiv (64 : Int)))))],
 [AV.sc
 (Value.int IntKind.u8
 (IntKind.u8.wrap
 ((48 : Int) + (IntKind.u8.wrap ((byteAt s i).tdiv (8 : Int))).tmod (8 : Int))))],
 [AV.sc
 (Value.int IntKind.u8 (IntKind.u8.wrap ((48 : Int) + (byteAt s i).tmod (8 : Int))))]])
 (n +
 [[AV.sc (Value.int IntKind.u8 (92 : Int))],
 [AV.sc
 (Value.int IntKind.u8
 (IntKind.u8.wrap ((48 : Int) + IntKind.u8.wrap ((byteAt s i).tdiv (64 : Int)))))],
 [AV.sc
 (Value.int IntKind.u8
 (IntKind.u8.wrap
 ((48 : Int) + (IntKind.u8.wrap ((byteAt s i).tdiv (8 : Int))).tmod (8 : Int))))],
 [AV.sc
 (Value.int IntKind.u8
 (IntKind.u8.wrap ((48 : Int) + (byteAt s i).tmod (8 : Int))))]].length) ∧
 N
 (els ++
 [[AV.sc (Value.int IntKind.u8 (92 : Int))],
 [AV.sc
 (Value.int IntKind.u8
 (IntKind.u8.wrap ((48 : Int) + IntKind.u8.wrap ((byteAt s i).tdiv (64 : Int)))))],
 [AV.sc
 (Value.int IntKind.u8
 (IntKind.u8.wrap
 ((48 : Int) + (IntKind.u8.wrap ((byteAt s i).tdiv (8 : Int))).tmod (8 : Int))))],
 [AV.sc (Value.int IntKind.u8 (IntKind.u8.wrap ((48 : Int) + (byteAt s i).tmod (8 : Int))))]])
 (n +
 [[AV.sc (Value.int IntKind.u8 (92 : Int))],
 [AV.sc
 (Value.int IntKind.u8
 (IntKind.u8.wrap ((48 : Int) + IntKind.u8.wrap ((byteAt s i).tdiv (64 : Int)))))],
 [AV.sc
 (Value.int IntKind.u8
 (IntKind.u8.wrap
 ((48 : Int) + (IntKind.u8.wrap ((byteAt s i).tdiv (8 : Int))).tmod (8 : Int))))],
 [AV.sc
 (Value.int IntKind.u8
 (IntKind.u8.wrap ((48 : Int) + (byteAt s i).tmod (8 : Int))))]].length)
 (IntKind.i64.wrap (i + (1 : Int))))
 False)
 False)
 (iteP (decide ((126 : Int) < byteAt s i))
 (iteP
 (allLen (1 : Nat) els &&
 fits
 (List.length els +
 [[AV.sc (Value.int IntKind.u8 (92 : Int))],
 [AV.sc
 (Value.int IntKind.u8
 (IntKind.u8.wrap ((48 : Int) + IntKind.u8.wrap ((byteAt s i).tdiv (64 : Int)))))],
 [AV.sc
 (Value.int IntKind.u8
 (IntKind.u8.wrap
 ((48 : Int) + (IntKind.u8.wrap ((byteAt s i).tdiv (8 : Int))).tmod (8 : Int))))],
 [AV.sc
 (Value.int IntKind.u8
 (IntKind.u8.wrap ((48 : Int) + (byteAt s i).tmod (8 : Int))))]].length)
 (1 : Nat))
 (iteP (decide (List.length els = n))
 (I55 s (IntKind.i64.wrap (i + (1 : Int)))
 (els ++
 [[AV.sc (Value.int IntKind.u8 (92 : Int))],
 [AV.sc
 (Value.int IntKind.u8
 (IntKind.u8.wrap ((48 : Int) + IntKind.u8.wrap ((byteAt s i).tdiv (64 : Int)))))],
 [AV.sc
 (Value.int IntKind.u8
 (IntKind.u8.wrap
 ((48 : Int) + (IntKind.u8.wrap ((byteAt s i).tdiv (8 : Int))).tmod (8 : Int))))],
 [AV.sc
 (Value.int IntKind.u8 (IntKind.u8.wrap ((48 : Int) + (byteAt s i).tmod (8 : Int))))]])
 (n +
 [[AV.sc (Value.int IntKind.u8 (92 : Int))],
 [AV.sc
 (Value.int IntKind.u8
 (IntKind.u8.wrap ((48 : Int) + IntKind.u8.wrap ((byteAt s i).tdiv (64 : Int)))))],
 [AV.sc
 (Value.int IntKind.u8
 (IntKind.u8.wrap
 ((48 : Int) +
 (IntKind.u8.wrap ((byteAt s i).tdiv (8 : Int))).tmod (8 : Int))))],
 [AV.sc
 (Value.int IntKind.u8
 (IntKind.u8.wrap ((48 : Int) + (byteAt s i).tmod (8 : Int))))]].length) =
 I55 s (IntKind.i64.wrap (i + (1 : Int)))
 (els ++
 [[AV.sc (Value.int IntKind.u8 (92 : Int))],
 [AV.sc
 (Value.int IntKind.u8
 (IntKind.u8.wrap ((48 : Int) + IntKind.u8.wrap ((byteAt s i).tdiv (64 : Int)))))],
 [AV.sc
 (Value.int IntKind.u8
 (IntKind.u8.wrap
 ((48 : Int) + (IntKind.u8.wrap ((byteAt s i).tdiv (8 : Int))).tmod (8 : Int))))],
 [AV.sc
 (Value.int IntKind.u8 (IntKind.u8.wrap ((48 : Int) + (byteAt s i).tmod (8 : Int))))]])
 (n +
 [[AV.sc (Value.int IntKind.u8 (92 : Int))],
 [AV.sc
 (Value.int IntKind.u8
 (IntKind.u8.wrap ((48 : Int) + IntKind.u8.wrap ((byteAt s i).tdiv (64 : Int)))))],
 [AV.sc
 (Value.int IntKind.u8
 (IntKind.u8.wrap
 ((48 : Int) +
 (IntKind.u8.wrap ((byteAt s i).tdiv (8 : Int))).tmod (8 : Int))))],
 [AV.sc
 (Value.int IntKind.u8
 (IntKind.u8.wrap ((48 : Int) + (byteAt s i).tmod (8 : Int))))]].length) ∧
 N
 (els ++
 [[AV.sc (Value.int IntKind.u8 (92 : Int))],
 [AV.sc
 (Value.int IntKind.u8
 (IntKind.u8.wrap ((48 : Int) + IntKind.u8.wrap ((byteAt s i).tdiv (64 : Int)))))],
 [AV.sc
 (Value.int IntKind.u8
 (IntKind.u8.wrap
 ((48 : Int) + (IntKind.u8.wrap ((byteAt s i).tdiv (8 : Int))).tmod (8 : Int))))],
 [AV.sc
 (Value.int IntKind.u8 (IntKind.u8.wrap ((48 : Int) + (byteAt s i).tmod (8 : Int))))]])
 (n +
 [[AV.sc (Value.int IntKind.u8 (92 : Int))],
 [AV.sc
 (Value.int IntKind.u8
 (IntKind.u8.wrap ((48 : Int) + IntKind.u8.wrap ((byteAt s i).tdiv (64 : Int)))))],
 [AV.sc
 (Value.int IntKind.u8
 (IntKind.u8.wrap
 ((48 : Int) + (IntKind.u8.wrap ((byteAt s i).tdiv (8 : Int))).tmod (8 : Int))))],
 [AV.sc
 (Value.int IntKind.u8
 (IntKind.u8.wrap ((48 : Int) + (byteAt s i).tmod (8 : Int))))]].length)
 (IntKind.i64.wrap (i + (1 : Int))))
 False)
 False)
 (iteP
 (allLen (1 : Nat) els &&
 fits (List.length els + [[AV.sc (Value.int IntKind.u8 (byteAt s i))]].length) (1 : Nat))
 (iteP (decide (List.length els = n))
 (I55 s (IntKind.i64.wrap (i + (1 : Int))) (els ++ [[AV.sc (Value.int IntKind.u8 (byteAt s i))]])
 (n + [[AV.sc (Value.int IntKind.u8 (byteAt s i))]].length) =
 I55 s (IntKind.i64.wrap (i + (1 : Int))) (els ++ [[AV.sc (Value.int IntKind.u8 (byteAt s i))]])
 (n + [[AV.sc (Value.int IntKind.u8 (byteAt s i))]].length) ∧
 N (els ++ [[AV.sc (Value.int IntKind.u8 (byteAt s i))]])
 (n + [[AV.sc (Value.int IntKind.u8 (byteAt s i))]].length) (IntKind.i64.wrap (i + (1 : Int))))
 False)
 False))))
 False)
 (Ex.exit (0 : Nat) = Ex.exit (0 : Nat) ∧ X55 els n = X55 els n ∧ X)) :
 (fun (M : Int) (s : List UInt8) (i : Int) (els : Cells) (n : Nat) (N : Cells → Nat → Int → Prop) (X : Prop) => wpRound T85 (cfg M) Tryz.prog 60 55 4 (I55 s i els n) (fun τ => τ = I55 s (slI τ 4) (slEls τ 3) (ownN τ.h) ∧ N (slEls τ 3) (ownN τ.h) (slI τ 4)) (q55 els n X)) M s i els n N X :=
 Eq.mp (by kernel_rfl) h
theorem v55 (M : Int) (s : List UInt8) (K : AV → Prop) (h :
 loopAt Tryz.prog (55 : Nat) (4 : Nat) = loopAt Tryz.prog (55 : Nat) (4 : Nat) ∧
 (Z55 s (0 : Int) = Z55 s (0 : Int) ∧ Small s) ∧
 (∀ (_ : Unit), IsNo s → K (AV.sc (Value.string (ByteArray.mk (Array.mk []))))) ∧
 ∀ (x : Cells × Nat),
 RowOf (escF s) x →
 iteP (List.all x.fst isByteCell) (K (AV.sc (Value.string (ByteArray.mk (Array.mk (List.map byteD x.fst))))))
 False) :
 (fun (M : Int) (s : List UInt8) (K : AV → Prop) => wpCall T55 (cfg M) Tryz.prog 60 55 [aStr s] heapF fun r h' => wpBack h' r K) M s K :=
 Eq.mp (by kernel_rfl) h
theorem r25 (M : Int) (s : List UInt8) (els : Cells) (i : Int) (n : Nat) (N : Cells → Nat → Int → Prop) (X : Prop) (h :
 iteP (decide (i < (↑s.length : Int)))
 (iteP (inRange i s.length)
 (iteP (byteAt s i == (34 : Int))
 (iteP (allLen (1 : Nat) els && fits (List.length els + (1 : Nat)) (1 : Nat))
 (iteP (decide (List.length els = n))
 (iteP (inRange i s.length)
 (iteP
 (allLen (1 : Nat) (els ++ [[AV.sc (Value.int IntKind.u8 (92 : Int))]]) &&
 fits
 ((els ++ [[AV.sc (Value.int IntKind.u8 (92 : Int))]]).length +
 [[AV.sc (Value.int IntKind.u8 (byteAt s i))]].length)
 (1 : Nat))
 (iteP (decide ((els ++ [[AV.sc (Value.int IntKind.u8 (92 : Int))]]).length = n + (1 : Nat)))
 (I25 s
 (els ++ [[AV.sc (Value.int IntKind.u8 (92 : Int))]] ++
 [[AV.sc (Value.int IntKind.u8 (byteAt s i))]])
 (IntKind.i64.wrap (i + (1 : Int)))
 (n + (1 : Nat) + [[AV.sc (Value.int IntKind.u8 (byteAt s i))]].length) =
 I25 s
 (els ++ [[AV.sc (Value.int IntKind.u8 (92 : Int))]] ++
 [[AV.sc (Value.int IntKind.u8 (byteAt s i))]])
 (IntKind.i64.wrap (i + (1 : Int)))
 (n + (1 : Nat) + [[AV.sc (Value.int IntKind.u8 (byteAt s i))]].length) ∧
 N
 (els ++ [[AV.sc (Value.int IntKind.u8 (92 : Int))]] ++
 [[AV.sc (Value.int IntKind.u8 (byteAt s i))]])
 (n + (1 : Nat) + [[AV.sc (Value.int IntKind.u8 (byteAt s i))]].length)
 (IntKind.i64.wrap (i + (1 : Int))))
 False)
 False)
 False)
 False)
 False)
 (iteP (inRange i s.length)
 (iteP
 (allLen (1 : Nat) els &&
 fits (List.length els + [[AV.sc (Value.int IntKind.u8 (byteAt s i))]].length) (1 : Nat))
 (iteP (decide (List.length els = n))
 (I25 s (els ++ [[AV.sc (Value.int IntKind.u8 (byteAt s i))]]) (IntKind.i64.wrap (i + (1 : Int)))
 (n + [[AV.sc (Value.int IntKind.u8 (byteAt s i))]].length) =
 I25 s (els ++ [[AV.sc (Value.int IntKind.u8 (byteAt s i))]]) (IntKind.i64.wrap (i + (1 : Int)))
 (n + [[AV.sc (Value.int IntKind.u8 (byteAt s i))]].length) ∧
 N (els ++ [[AV.sc (Value.int IntKind.u8 (byteAt s i))]])
 (n + [[AV.sc (Value.int IntKind.u8 (byteAt s i))]].length) (IntKind.i64.wrap (i + (1 : Int))))
 False)
 False)
 False))
 False)
 (Ex.exit (0 : Nat) = Ex.exit (0 : Nat) ∧ X25 els n = X25 els n ∧ X)) :
 (fun (M : Int) (s : List UInt8) (els : Cells) (i : Int) (n : Nat) (N : Cells → Nat → Int → Prop) (X : Prop) => wpRound tab0 (cfg M) Tryz.prog 60 25 5 (I25 s els i n) (fun τ => τ = I25 s (slEls τ 4) (slI τ 5) (ownN τ.h) ∧ N (slEls τ 4) (ownN τ.h) (slI τ 5)) (q25 els n X)) M s els i n N X :=
 Eq.mp (by kernel_rfl) h
theorem v25 (M : Int) (s : List UInt8) (K : AV → Prop) (h :
 Small s ∧
 ∀ (x : List UInt8),
 x = escF s →
 loopAt Tryz.prog (25 : Nat) (5 : Nat) = loopAt Tryz.prog (25 : Nat) (5 : Nat) ∧
 (I25 x [[AV.sc (Value.int IntKind.u8 (34 : Int))]] (0 : Int) (1 : Nat) =
 I25 x [[AV.sc (Value.int IntKind.u8 (34 : Int))]] (0 : Int) (1 : Nat) ∧
 Zero (0 : Int) ∧ Mid x) ∧
 ∀ (x_1 : Cells × Nat),
 RowOf ((34 : UInt8) :: quoF x) x_1 →
 iteP (allLen (1 : Nat) x_1.fst && fits (List.length x_1.fst + (1 : Nat)) (1 : Nat))
 (iteP (decide (List.length x_1.fst = x_1.snd))
 (iteP ((x_1.fst ++ [[AV.sc (Value.int IntKind.u8 (34 : Int))]]).all isByteCell)
 (K
 (AV.sc
 (Value.string
 (ByteArray.mk
 (Array.mk (List.map byteD (x_1.fst ++ [[AV.sc (Value.int IntKind.u8 (34 : Int))]])))))))
 False)
 False)
 False) :
 (fun (M : Int) (s : List UInt8) (K : AV → Prop) => wpCall T25 (cfg M) Tryz.prog 60 25 [aStr s] heapF fun r h' => wpBack h' r K) M s K :=
 Eq.mp (by kernel_rfl) h
end
end Go.Proofs.Sp
namespace Go.Proofs.Sp
open Go Go.Ef Go.Proofs.Pt
noncomputable section
set_option maxRecDepth 100000
variable {M : Int}
abbrev Ok (M : Int) (T : Tab) : Prop := TabOk Tryz.prog (cfg M) T
theorem ok0 : Ok M tab0 := tab0_ok
theorem it {q : Bool} {A B : Prop} (h : q = true) (k : A) : iteP q A B := by rw [h]; exact k
theorem ie {q : Bool} {A B : Prop} (h : q = false) (k : B) : iteP q A B := by rw [h]; exact k
theorem iti {q : Bool} {A B : Prop} (h : q = true → A) (k : q = false → B) : iteP q A B := by
 cases q with
 | true => exact h rfl
 | false => exact k rfl
theorem dt {p : Prop} [Decidable p] (h : p) : decide p = true := decide_eq_true h
theorem df {p : Prop} [Decidable p] (h : ¬p) : decide p = false := decide_eq_false h
theorem inR {s : List UInt8} {i : Int} (h0 : 0 ≤ i) (h1 : i < s.length) : inRange i s.length = true := by rw [inRange_iff]; exact ⟨h0, h1⟩
theorem byteAt_nat (s : List UInt8) (i : Nat) (h : i < s.length) : byteAt s i = (s[i].toNat : Int) := by
 unfold byteAt
 rw [Int.toNat_natCast, List.getElem?_eq_getElem h]
 rfl
theorem eq_nat {c : UInt8} {n : Nat} (hn : n < 256) : ((c.toNat : Int) == (n : Int)) = decide (c = UInt8.ofNat n) := by
 rw [Bool.eq_iff_iff]
 simp only [beq_iff_eq, decide_eq_true_eq]
 constructor
 ·intro h
  apply UInt8.toNat_inj.1
  rw [UInt8.toNat_ofNat']
  omega
 ·intro h
  rw [h, UInt8.toNat_ofNat']
  omega
theorem fitsS {a b : List UInt8} (h : (a.length : Int) + b.length ≤ 9223372036854775807) : strFits a b = true := by rw [strFits_iff]; exact h
theorem fresh_ok {T T' : Tab} (O : Ok M T) (O' : Ok M T') {g : FuncId} {C : List AV → Heap → Option CSpec} (hf : (cfg M).fresh g = true) (hp : (cfg M).prim g = none)
  (H : ∀ args h s, C args h = some s → s.pre → mapO (stripA 8) args = some args ∧ ∃ (α : Type) (pre : Prop) (r : α) (val : α → AV), s = nspec pre r val h ∧ wpCall T' (cfg M) Tryz.prog 60 g args heapF fun r' h' => wpBack h' r' fun v => v = val r) : Ok M (T.addC g C) := by
 refine addC_ok O fun args h s hs hpre => ?_
 obtain ⟨ha, α, pre, r, val, rfl, hw⟩ := H args h s hs hpre
 obtain ⟨m, v, h', e, rfl, rfl⟩ := EvP.freshV (g := g) (args := args) (h := h) (v := val r) O' (n := 60) hf hp (args' := args) ha hw
 exact ⟨_, List.mem_singleton.2 rfl, r, m, rfl, e⟩
theorem ok117 {T : Tab} (O : Ok M T) : Ok M (T.addC 117 C117) := by
 refine addC_ok O fun args h s hs hp => ?_
 unfold C117 at hs
 split at hs
 ·rename_i n
  cases hs
  refine ⟨_, List.mem_singleton.2 rfl, Lib.itoa n, 0, rfl, ?_⟩
  show (bif decide (-9223372036854775808 ≤ n) && decide (n ≤ 9223372036854775807) then some (AV.sc (.string ⟨(Lib.itoa n).toArray⟩), h) else none) = _
  rw [show (decide (-9223372036854775808 ≤ n) && decide (n ≤ 9223372036854775807)) = true by simp [hp.lo, hp.hi]]
  rfl
 ·cases hs
theorem ok20 {T : Tab} (O : Ok M T) : Ok M (T.addC 20 C20) := by
 refine fresh_ok O (ok117 ok0) (by kernel_rfl) rfl fun args h s hs hp => ?_
 unfold C20 at hs
 split at hs
 ·rename_i n
  cases hs
  exact ⟨rfl, _, _, Lib.itoa n, aStr, rfl, v20 M n _ ⟨hp, fun x hx => by rw [hx]; rfl⟩⟩
 ·cases hs
theorem digB {c : Int} {d : Nat} (h : c = 48 + (d : Int)) (hd : d < 10) : List.map byteD [[AV.sc (Value.int IntKind.u8 (IntKind.u8.wrap (IntKind.i64.wrap c)))]] = [UInt8.ofNat (48 + d)] := by
 subst h
 have e1 : IntKind.i64.wrap (48 + (d : Int)) = 48 + (d : Int) := wrap_in (by omega) (by omega)
 have e2 : IntKind.u8.wrap (48 + (d : Int)) = 48 + (d : Int) := by rw [wrap8]; omega
 rw [e1, e2]
 have : (48 + (d : Int)).toNat = 48 + d := by omega
 show [UInt8.ofNat (48 + (d : Int)).toNat] = _
 rw [this]
theorem tm_pos (u : Nat) : (u : Int).tmod 10 = ((u % 10 : Nat) : Int) := (Int.ofNat_tmod u 10).symm
theorem tm_neg (u : Nat) : (-(u : Int)).tmod 10 = -((u % 10 : Nat) : Int) := by rw [Int.neg_tmod, tm_pos]
theorem td_pos (u : Nat) : (u : Int).tdiv 10 = ((u / 10 : Nat) : Int) := (Int.ofNat_tdiv u 10).symm
theorem td_neg (u : Nat) : (-(u : Int)).tdiv 10 = -((u / 10 : Nat) : Int) := by rw [Int.neg_tdiv, td_pos]
theorem digF_zero (s : List UInt8) : digF 0 s = s := by rw [digF, dif_pos rfl]
theorem digF_step {u : Nat} (h : u ≠ 0) (s : List UInt8) : digF u s = digF (u / 10) (UInt8.ofNat (48 + u % 10) :: s) := by rw [digF, dif_neg h]
theorem loop24 (n : Int) : ∀ (k u : Nat) (m : Int) (s : List UInt8), u < 10 ^ k → (m = u ∨ m = -(u : Int)) → u ≤ 9223372036854775808 → m ≤ 9223372036854775807 → s.length + k ≤ 100 →
  Ev (cfg M) Tryz.prog 24 (.loop (loopAt Tryz.prog 24 6)) (I24 n s m) fun e τ => e = .exit 0 ∧ τ = X24 n (digF u s) := by
 intro k
 induction k with
 | zero =>
  intro u m s hu hm _ _ _
  have hm0 : m = 0 := by omega
  have hu0 : u = 0 := by omega
  subst hm0; subst hu0
  refine Ev.round (O := ok0) (n := 60) (t := ⟨[0, 3, 4], [0, 3], 0⟩) (by kernel_rfl) (by kernel_rfl) rfl (r24 M n s 0 (fun _ _ => False) True (ie rfl ⟨rfl, rfl, trivial⟩)) (fun _ h => h.2.elim) (fun e τ hx => ?_)
  unfold q24 at hx
  split at hx
  ·exact ⟨hx.1, by rw [digF_zero]; exact hx.2.1⟩
  ·exact hx.elim
 | succ k ih =>
  intro u m s hu hm hb hb' hl
  by_cases hu0 : u = 0
  ·have hm0 : m = 0 := by omega
   subst hm0; subst hu0
   refine Ev.round (O := ok0) (n := 60) (t := ⟨[0, 3, 4], [0, 3], 0⟩) (by kernel_rfl) (by kernel_rfl) rfl (r24 M n s 0 (fun _ _ => False) True (ie rfl ⟨rfl, rfl, trivial⟩)) (fun _ h => h.2.elim) (fun e τ hx => ?_)
   unfold q24 at hx
   split at hx
   ·exact ⟨hx.1, by rw [digF_zero]; exact hx.2.1⟩
   ·exact hx.elim
  ·have hd : u % 10 < 10 := Nat.mod_lt _ (by omega)
   have hne : (m != (0 : Int)) = true := by simp; omega
   have hf : ∀ c : UInt8, strFits [c] s = true := fun c => fitsS (by simp; omega)
   have hp : 10 ^ (k + 1) = 10 * 10 ^ k := by rw [Nat.pow_succ, Nat.mul_comm]
   refine Ev.round (O := ok0) (n := 60) (t := ⟨[0, 3, 4], [0, 3], 0⟩) (by kernel_rfl) (by kernel_rfl) rfl
    (r24 M n s m (fun x j => x = UInt8.ofNat (48 + u % 10) :: s ∧ (j = ((u / 10 : Nat) : Int) ∨ j = -((u / 10 : Nat) : Int))) False (it hne ?_)) (fun τ h => ?_) (fun e τ hx => ?_)
   ·rcases hm with rfl | rfl
    ·rw [tm_pos, td_pos]
     have hw : IntKind.i64.wrap ((u / 10 : Nat) : Int) = ((u / 10 : Nat) : Int) := wrap_in (by omega) (by omega)
     refine ie (df (by omega)) ?_
     rw [digB rfl hd, hw]
     exact it (hf _) ⟨rfl, rfl, .inl rfl⟩
    ·rw [tm_neg, td_neg]
     have hw : IntKind.i64.wrap (-((u / 10 : Nat) : Int)) = -((u / 10 : Nat) : Int) := wrap_in (by omega) (by omega)
     have hw2 : IntKind.i64.wrap ((0 : Int) - -((u % 10 : Nat) : Int)) = ((u % 10 : Nat) : Int) := by rw [wrap_in (by omega) (by omega)]; omega
     refine iti (fun q => ?_) (fun q => ?_)
     ·rw [hw2, digB rfl hd, hw]
      exact it (hf _) ⟨rfl, rfl, .inr rfl⟩
     ·have q := of_decide_eq_false q
      have h0 : u % 10 = 0 := by omega
      rw [digB (c := 48 + -((u % 10 : Nat) : Int)) (d := u % 10) (by rw [h0]; rfl) hd, hw]
      exact it (hf _) ⟨rfl, rfl, .inr rfl⟩
   ·obtain ⟨h1, h2, h3⟩ := h
    rw [h1, h2, digF_step hu0]
    exact ih (u / 10) _ _ (by rw [hp] at hu; omega) h3 (by omega) (by rcases h3 with h3 | h3 <;> rw [h3] <;> omega) (by simp; omega)
   ·unfold q24 at hx
    split at hx
    ·exact hx.2.2.elim
    ·exact hx.elim
theorem okL24 {T : Tab} (O : Ok M T) : Ok M (T.addL 24 6 L24) := by
 refine addL_ok O fun σ s hs hp => ?_
 refine lspec_ok (Option.some.inj hs) (fun ⟨h1, h2, h3⟩ => ?_) hp
 rw [h2.is] at h1
 have l1 := h3.lo
 have l2 := h3.hi
 obtain ⟨m, e, τ, g1, g2, g3⟩ := Ev.tidied (t := ⟨[0, 3, 4], [0, 3], 0⟩) (by kernel_rfl) h1 (loop24 (slI σ 0) 20 (slI σ 4).natAbs (slI σ 4) [] (by omega) (by omega) (by omega) (by omega) (by simp))
 exact ⟨m, e, τ, g1, _, rfl, g2, g3⟩
theorem ok24 {T : Tab} (O : Ok M T) : Ok M (T.addC 24 C24) := by
 refine fresh_ok O (okL24 ok0) (by kernel_rfl) rfl fun args h s hs hp => ?_
 unfold C24 C20 at hs
 split at hs
 ·rename_i n
  cases hs
  refine ⟨rfl, _, _, Lib.itoa n, aStr, rfl, v24 M n _ (iti (fun q => ?_) (fun q => ⟨rfl, ⟨rfl, ⟨rfl⟩, hp⟩, fun x hx => ?_⟩))⟩
  ·have q : n = 0 := by simpa using q
   rw [← fmtR_eq]; unfold fmtR; rw [if_pos q]; rfl
  ·have q : ¬ n = 0 := by simpa using q
   have hl : x.length ≤ 30 := by
    rw [hx]
    have e : ∀ (k u : Nat) (s : List UInt8), u < 10 ^ k → (digF u s).length ≤ s.length + k := by
     intro k
     induction k with
     | zero =>
      intro u s hu
      have : u = 0 := by omega
      subst this; rw [digF_zero]; omega
     | succ k ih =>
      intro u s hu
      by_cases h0 : u = 0
      ·subst h0; rw [digF_zero]; omega
      ·rw [digF_step h0]
       have := ih (u / 10) (UInt8.ofNat (48 + u % 10) :: s) (by rw [Nat.pow_succ] at hu; omega)
       simp only [List.length_cons] at this; omega
    have l1 := hp.lo
    have l2 := hp.hi
    have := e 20 n.natAbs [] (by omega)
    simp at this; omega
   refine iti (fun r => it (fitsS (by simp; omega)) ?_) (fun r => ?_)
   ·have r := of_decide_eq_true r
    rw [← fmtR_eq]; unfold fmtR; rw [if_neg q, if_pos r, hx]; rfl
   ·have r := of_decide_eq_false r
    rw [← fmtR_eq]; unfold fmtR; rw [if_neg q, if_neg r, hx]; rfl
 ·cases hs
end
end Go.Proofs.Sp
namespace Go.Proofs.Sp
open Go Go.Ef Go.Proofs.Pt
noncomputable section
set_option maxRecDepth 100000
variable {M : Int}
theorem loop89 (k : Int) : ∀ (f u : Nat) (s : List UInt8) (i : Int), u < 10 ^ f → (k - i).toNat ≤ f → u ≤ 10000000000000 → 0 ≤ i → i + f ≤ 100000000000000 → s.length + f ≤ 100000000000000 →
  Ev (cfg M) Tryz.prog 89 (.loop (loopAt Tryz.prog 89 4)) (I89 u k s i) fun e τ => e = .exit 0 ∧ τ = X89 (leastF (k - i).toNat u s) := by
 intro f
 induction f with
 | zero =>
  intro u s i hu hk _ _ _ _
  have hu0 : u = 0 := by omega
  have hk0 : (k - i).toNat = 0 := by omega
  subst hu0
  refine Ev.round (O := ok0) (n := 60) (t := ⟨[0, 1, 5, 6], [5], 0⟩) (by kernel_rfl) (by kernel_rfl) rfl (r89 M _ k s i (fun _ _ _ => False) True (ie (df (by omega)) (ie rfl ⟨rfl, rfl, trivial⟩))) (fun _ h => h.2.elim) (fun e τ hx => ?_)
  unfold q89 at hx
  split at hx
  ·refine ⟨hx.1, ?_⟩
   rw [hk0]; show τ = X89 (digF 0 s)
   rw [digF_zero]; exact hx.2.1
  ·exact hx.elim
 | succ f ih =>
  intro u s i hu hk hb hi hif hl
  have hp : 10 ^ (f + 1) = 10 * 10 ^ f := by rw [Nat.pow_succ, Nat.mul_comm]
  have hd : u % 10 < 10 := Nat.mod_lt _ (by omega)
  have hw : IntKind.i64.wrap ((u / 10 : Nat) : Int) = ((u / 10 : Nat) : Int) := wrap_in (by omega) (by omega)
  have hw2 : IntKind.i64.wrap (i + 1) = i + 1 := wrap_in (by omega) (by omega)
  have hf : strFits [UInt8.ofNat (48 + u % 10)] s = true := fitsS (by simp; omega)
  have step : ∀ τ : St, τ = I89 ((u / 10 : Nat) : Int) k (UInt8.ofNat (48 + u % 10) :: s) (i + 1) →
    Ev (cfg M) Tryz.prog 89 (.loop (loopAt Tryz.prog 89 4)) τ fun e τ => e = .exit 0 ∧ τ = X89 (leastF (k - (i + 1)).toNat (u / 10) (UInt8.ofNat (48 + u % 10) :: s)) := by
   intro τ h
   rw [h]
   exact ih (u / 10) _ (i + 1) (by rw [hp] at hu; omega) (by omega) (by omega) (by omega) (by omega) (by simp; omega)
  by_cases hik : i < k
  ·refine Ev.round (O := ok0) (n := 60) (t := ⟨[0, 1, 5, 6], [5], 0⟩) (by kernel_rfl) (by kernel_rfl) rfl
    (r89 M _ k s i (fun x y z => x = ((u / 10 : Nat) : Int) ∧ y = UInt8.ofNat (48 + u % 10) :: s ∧ z = i + 1) False (it (dt hik) ?_)) (fun τ h => ?_) (fun e τ hx => ?_)
   ·rw [tm_pos, td_pos, digB rfl hd, hw, hw2]
    exact it hf ⟨rfl, rfl, rfl, rfl⟩
   ·obtain ⟨h1, h2, h3, h4⟩ := h
    rw [h2, h3, h4] at h1
    have e : (k - i).toNat = (k - (i + 1)).toNat + 1 := by omega
    rw [e]
    exact step τ h1
   ·unfold q89 at hx
    split at hx
    ·exact hx.2.2.elim
    ·exact hx.elim
  ·have hk0 : (k - i).toNat = 0 := by omega
   have hk1 : (k - (i + 1)).toNat = 0 := by omega
   by_cases hu0 : u = 0
   ·subst hu0
    refine Ev.round (O := ok0) (n := 60) (t := ⟨[0, 1, 5, 6], [5], 0⟩) (by kernel_rfl) (by kernel_rfl) rfl (r89 M _ k s i (fun _ _ _ => False) True (ie (df (by omega)) (ie rfl ⟨rfl, rfl, trivial⟩))) (fun _ h => h.2.elim) (fun e τ hx => ?_)
    unfold q89 at hx
    split at hx
    ·refine ⟨hx.1, ?_⟩
     rw [hk0]; show τ = X89 (digF 0 s)
     rw [digF_zero]; exact hx.2.1
    ·exact hx.elim
   ·refine Ev.round (O := ok0) (n := 60) (t := ⟨[0, 1, 5, 6], [5], 0⟩) (by kernel_rfl) (by kernel_rfl) rfl
     (r89 M _ k s i (fun x y z => x = ((u / 10 : Nat) : Int) ∧ y = UInt8.ofNat (48 + u % 10) :: s ∧ z = i + 1) False (ie (df hik) (it (dt (by omega)) ?_))) (fun τ h => ?_) (fun e τ hx => ?_)
    ·rw [tm_pos, td_pos, digB rfl hd, hw, hw2]
     exact it hf ⟨rfl, rfl, rfl, rfl⟩
    ·obtain ⟨h1, h2, h3, h4⟩ := h
     rw [h2, h3, h4] at h1
     have := step τ h1
     rw [hk1] at this
     rw [hk0]
     refine this.mono fun e τ' hq => ⟨hq.1, ?_⟩
     rw [hq.2]
     show X89 (digF (u / 10) _) = X89 (digF u s)
     rw [digF_step hu0]
    ·unfold q89 at hx
     split at hx
     ·exact hx.2.2.elim
     ·exact hx.elim
theorem okL89 {T : Tab} (O : Ok M T) : Ok M (T.addL 89 4 L89) := by
 refine addL_ok O fun σ s hs hp => ?_
 refine lspec_ok (Option.some.inj hs) (fun ⟨h1, h2, h3, h4, h5⟩ => ?_) hp
 rw [h2.is, h3.is] at h1
 have l1 := h4.lo
 have l2 := h4.hi
 have l3 := h5.lo
 have l4 := h5.hi
 have e1 : slI σ 0 = ((slI σ 0).toNat : Int) := by omega
 rw [e1] at h1
 have hpow : (slI σ 0).toNat < 10 ^ ((slI σ 1).toNat + 20) := by
  have : (10 : Nat) ^ 20 ≤ 10 ^ ((slI σ 1).toNat + 20) := Nat.pow_le_pow_right (by omega) (by omega)
  omega
 obtain ⟨m, e, τ, g1, g2, g3⟩ := Ev.tidied (t := ⟨[0, 1, 5, 6], [5], 0⟩) (by kernel_rfl) h1 (loop89 (slI σ 1) ((slI σ 1).toNat + 20) (slI σ 0).toNat [] 0 hpow (by omega) (by omega) (by omega) (by omega) (by simp; omega))
 rw [Int.sub_zero] at g3
 exact ⟨m, e, τ, g1, _, rfl, g2, g3⟩
theorem ok89 {T : Tab} (O : Ok M T) : Ok M (T.addC 89 C89) := by
 refine fresh_ok O (okL89 ok0) (by kernel_rfl) rfl fun args h s hs hp => ?_
 unfold C89 at hs
 split at hs
 ·rename_i n k
  cases hs
  exact ⟨rfl, _, _, _, aStr, rfl, v89 M n k _ ⟨rfl, ⟨rfl, ⟨rfl⟩, ⟨rfl⟩, hp.1, hp.2⟩, fun x hx => by rw [hx]; rfl⟩⟩
 ·cases hs
theorem ok84 {T : Tab} (O : Ok M T) : Ok M (T.addC 84 C88) := by
 refine fresh_ok O ok0 (by kernel_rfl) rfl fun args h s hs hp => ?_
 unfold C88 at hs
 split at hs
 ·rename_i n
  cases hs
  exact ⟨rfl, _, _, _, iA, rfl, v84 M n _ (by rw [near_minmax _ _ (by omega)]; rfl)⟩
 ·cases hs
theorem ok87 {T : Tab} (O : Ok M T) : Ok M (T.addC 87 C88) := by
 refine fresh_ok O ok0 (by kernel_rfl) rfl fun args h s hs hp => ?_
 unfold C88 at hs
 split at hs
 ·rename_i n
  cases hs
  refine ⟨rfl, _, _, _, iA, rfl, v87 M n _ (iti (fun q => ?_) (fun q => iti (fun r => ?_) (fun r => ?_)))⟩
  ·unfold nearM; rw [if_pos (of_decide_eq_true q)]; rfl
  ·unfold nearM; rw [if_neg (of_decide_eq_false q), if_pos (of_decide_eq_true r)]; rfl
  ·unfold nearM; rw [if_neg (of_decide_eq_false q), if_neg (fun h => of_decide_eq_false r h)]; rfl
 ·cases hs
theorem trimZ_zero (l : List UInt8) : trimZ (l ++ [48]) = trimZ l := by unfold trimZ; simp
theorem trimZ_other {c : UInt8} (h : c ≠ 48) (l : List UInt8) : trimZ (l ++ [c]) = l ++ [c] := by unfold trimZ; simp [h]
theorem snoc_of {s : List UInt8} (h : 0 < s.length) : ∃ l c, s = l ++ [c] := by
 rcases List.eq_nil_or_concat s with rfl | ⟨l, c, rfl⟩
 ·simp at h
 ·exact ⟨l, c, by simp⟩
theorem last_at (l : List UInt8) (c : UInt8) : byteAt (l ++ [c]) (l.length : Int) = (c.toNat : Int) := by
 rw [byteAt_nat _ _ (by simp)]; simp
theorem trim_round {l : List UInt8} {c : UInt8} (hl : (l ++ [c]).length ≤ 1048576) {A B : Prop} (hA : c = 48 → A) (hB : c ≠ 48 → B) :
  iteP (inRange (IntKind.i64.wrap (((l ++ [c]).length : Int) - (1 : Int))) (l ++ [c]).length)
   (iteP (byteAt (l ++ [c]) (IntKind.i64.wrap (((l ++ [c]).length : Int) - (1 : Int))) == (48 : Int))
    (iteP (decide ((0 : Int) ≤ IntKind.i64.wrap (((l ++ [c]).length : Int) - (1 : Int))) && decide (IntKind.i64.wrap (((l ++ [c]).length : Int) - (1 : Int)) ≤ ((l ++ [c]).length : Int))) A False) B) False := by
 have e : ((l ++ [c]).length : Int) = l.length + 1 := by simp
 have hw : IntKind.i64.wrap (((l ++ [c]).length : Int) - (1 : Int)) = l.length := by rw [wrap_in (by omega) (by omega)]; omega
 rw [hw]
 refine it (inR (by omega) (by omega)) ?_
 rw [last_at, show ((c.toNat : Int) == (48 : Int)) = decide (c = 48) from eq_nat (n := 48) (by decide)]
 exact iti (fun q => it (by simp; omega) (hA (of_decide_eq_true q))) (fun q => hB (of_decide_eq_false q))
theorem take_round {l : List UInt8} {c : UInt8} (hl : (l ++ [c]).length ≤ 1048576) : List.take (IntKind.i64.wrap (((l ++ [c]).length : Int) - (1 : Int))).toNat (l ++ [c]) = l := by
 have e : ((l ++ [c]).length : Int) = l.length + 1 := by simp
 have hw : IntKind.i64.wrap (((l ++ [c]).length : Int) - (1 : Int)) = l.length := by rw [wrap_in (by omega) (by omega)]; omega
 rw [hw]; simp
theorem ends_init {l : List UInt8} (h : Ends (l ++ [48])) : Ends l := ⟨by have := h.some; simpa using this, by have := h.le; simp at this; omega⟩
theorem loop54 (a : List UInt8) : ∀ (k : Nat) (s : List UInt8), s.length = k → Ends s → Ev (cfg M) Tryz.prog 54 (.loop (loopAt Tryz.prog 54 11)) (I54 a s) fun e τ => e = .exit 0 ∧ τ = I54 a (trimZ s) := by
 intro k
 induction k with
 | zero =>
  intro s hs he
  have : s = [] := List.length_eq_zero_iff.1 hs
  have h1 := he.some
  subst this
  cases h1
 | succ k ih =>
  intro s hs he
  obtain ⟨l, c, rfl⟩ := snoc_of (s := s) (by omega)
  have hl := he.le
  refine Ev.round (O := ok0) (n := 60) (t := ⟨[4, 6], [4, 6], 0⟩) (by kernel_rfl) (by kernel_rfl) rfl (r54 M a (l ++ [c]) (fun x => x = l ∧ c = 48) (c ≠ 48) (trim_round hl (fun q => ?_) (fun q => ⟨rfl, rfl, q⟩))) (fun τ h => ?_) (fun e τ hx => ?_)
  ·rw [take_round hl]; exact ⟨rfl, rfl, q⟩
  ·obtain ⟨h1, h2, rfl⟩ := h
   rw [h1, h2, trimZ_zero]
   exact ih l (by simpa using hs) (ends_init he)
  ·unfold q54 at hx
   split at hx
   ·exact ⟨hx.1, by rw [trimZ_other hx.2.2]; exact hx.2.1⟩
   ·exact hx.elim
theorem loop57 (n : Int) (a : List UInt8) : ∀ (k : Nat) (s : List UInt8), s.length = k → Ends s → Ev (cfg M) Tryz.prog 57 (.loop (loopAt Tryz.prog 57 7)) (I57 n a s) fun e τ => e = .exit 0 ∧ τ = I57 n a (trimZ s) := by
 intro k
 induction k with
 | zero =>
  intro s hs he
  have : s = [] := List.length_eq_zero_iff.1 hs
  have h1 := he.some
  subst this
  cases h1
 | succ k ih =>
  intro s hs he
  obtain ⟨l, c, rfl⟩ := snoc_of (s := s) (by omega)
  have hl := he.le
  refine Ev.round (O := ok0) (n := 60) (t := ⟨[0, 4, 5], [0, 4, 5], 0⟩) (by kernel_rfl) (by kernel_rfl) rfl (r57 M n a (l ++ [c]) (fun x => x = l ∧ c = 48) (c ≠ 48) (trim_round hl (fun q => ?_) (fun q => ⟨rfl, rfl, q⟩))) (fun τ h => ?_) (fun e τ hx => ?_)
  ·rw [take_round hl]; exact ⟨rfl, rfl, q⟩
  ·obtain ⟨h1, h2, rfl⟩ := h
   rw [h1, h2, trimZ_zero]
   exact ih l (by simpa using hs) (ends_init he)
  ·unfold q57 at hx
   split at hx
   ·exact ⟨hx.1, by rw [trimZ_other hx.2.2]; exact hx.2.1⟩
   ·exact hx.elim
theorem okL54 {T : Tab} (O : Ok M T) : Ok M (T.addL 54 11 L54) := by
 refine addL_ok O fun σ s hs hp => ?_
 refine lspec_ok (Option.some.inj hs) (fun ⟨h1, h2⟩ => ?_) hp
 obtain ⟨m, e, τ, g1, g2, g3⟩ := Ev.tidied (t := ⟨[4, 6], [4, 6], 0⟩) (by kernel_rfl) h1 (loop54 (slS σ 4) _ (slS σ 6) rfl h2)
 exact ⟨m, e, τ, g1, _, rfl, g2, g3⟩
theorem okL57 {T : Tab} (O : Ok M T) : Ok M (T.addL 57 7 L57) := by
 refine addL_ok O fun σ s hs hp => ?_
 refine lspec_ok (Option.some.inj hs) (fun ⟨h1, h2⟩ => ?_) hp
 obtain ⟨m, e, τ, g1, g2, g3⟩ := Ev.tidied (t := ⟨[0, 4, 5], [0, 4, 5], 0⟩) (by kernel_rfl) h1 (loop57 (slI σ 0) (slS σ 4) _ (slS σ 5) rfl h2)
 exact ⟨m, e, τ, g1, _, rfl, g2, g3⟩
theorem least_four (f : Nat) (hf : f < 10000) : leastF 4 f [] = [UInt8.ofNat (48 + f / 10 / 10 / 10 % 10), UInt8.ofNat (48 + f / 10 / 10 % 10), UInt8.ofNat (48 + f / 10 % 10), UInt8.ofNat (48 + f % 10)] := by
 show digF (f / 10 / 10 / 10 / 10) _ = _
 rw [show f / 10 / 10 / 10 / 10 = 0 by omega, digF_zero]
theorem dig_ne {d : Nat} (h : d < 10) (h0 : d ≠ 0) : (UInt8.ofNat (48 + d) != 48) = true := by
 simp only [bne_iff_ne, ne_eq]
 intro e
 have := congrArg UInt8.toNat e
 rw [UInt8.toNat_ofNat'] at this
 have e48 : (48 : UInt8).toNat = 48 := rfl
 rw [e48] at this
 omega
theorem ends_four {f : Nat} (hf : f < 10000) (h0 : f ≠ 0) : Ends (leastF 4 f []) := by
 rw [least_four f hf]
 refine ⟨?_, by simp⟩
 simp only [List.any_cons, List.any_nil, Bool.or_false]
 by_cases h1 : f % 10 = 0
 ·by_cases h2 : f / 10 % 10 = 0
  ·by_cases h3 : f / 10 / 10 % 10 = 0
   ·rw [dig_ne (d := f / 10 / 10 / 10 % 10) (by omega) (by omega)]; rfl
   ·rw [dig_ne (d := f / 10 / 10 % 10) (by omega) h3]; simp
  ·rw [dig_ne (d := f / 10 % 10) (by omega) h2]; simp
 ·rw [dig_ne (d := f % 10) (by omega) h1]; simp
theorem digF_len : ∀ (k u : Nat) (s : List UInt8), u < 10 ^ k → (digF u s).length ≤ s.length + k := by
 intro k
 induction k with
 | zero =>
  intro u s hu
  have : u = 0 := by omega
  subst this; rw [digF_zero]; omega
 | succ k ih =>
  intro u s hu
  by_cases h0 : u = 0
  ·subst h0; rw [digF_zero]; omega
  ·rw [digF_step h0]
   have := ih (u / 10) (UInt8.ofNat (48 + u % 10) :: s) (by rw [Nat.pow_succ] at hu; omega)
   simp only [List.length_cons] at this; omega
theorem dec_len {u : Nat} (h : u < 10 ^ 20) : (Lib.decDigits u).length ≤ 20 ∧ 1 ≤ (Lib.decDigits u).length := by
 by_cases h0 : u = 0
 ·subst h0; rw [Lib.decDigits_one (by omega)]; decide
 ·have := digF_len 20 u [] h
  rw [digF_eq _ _ (by omega), List.append_nil] at this
  refine ⟨by simpa using this, ?_⟩
  have := Lib.decDigits.eq_1 u
  rw [this]
  split <;> simp
theorem itoa_nat (k : Nat) : Lib.itoa (k : Int) = Lib.decDigits k := by
 unfold Lib.itoa; rw [if_neg (by omega)]; rfl
theorem near_le (n : Int) : -10000000000000 ≤ nearM 10000000000000 n ∧ nearM 10000000000000 n ≤ 10000000000000 := by
 unfold nearM; split
 ·omega
 ·split <;> omega
theorem tm4 (u : Nat) : (u : Int).tmod 10000 = ((u % 10000 : Nat) : Int) := (Int.ofNat_tmod u 10000).symm
theorem td4 (u : Nat) : (u : Int).tdiv 10000 = ((u / 10000 : Nat) : Int) := (Int.ofNat_tdiv u 10000).symm
theorem four_len (f : Nat) (hf : f < 10000) : (trimZ (leastF 4 f [])).length ≤ 4 := by
 rw [least_four f hf]
 unfold trimZ
 rw [List.length_reverse]
 exact Nat.le_trans (List.dropWhile_sublist _).length_le (by simp)
theorem str_eq {a b : List UInt8} (h : a = b) : AV.sc (Value.string (ByteArray.mk (Array.mk a))) = aStr b := by rw [h]; rfl
theorem ok54 {T : Tab} (O : Ok M T) : Ok M (T.addC 54 C54) := by
 refine fresh_ok O (okL54 (ok84 (ok20 ok0))) (by kernel_rfl) rfl fun args h s hs hp => ?_
 unfold C54 at hs
 split at hs
 ·rename_i n
  cases hs
  refine ⟨rfl, _, _, decT n, aStr, rfl, v54 M n _ ⟨hp, fun x hx => ?_⟩⟩
  obtain ⟨b1, b2⟩ := near_le n
  rw [← hx] at b1 b2
  have hd : decT n = (if x < 0 then [45] else []) ++ decP x.natAbs := by rw [hx]; rfl
  rw [hd]
  obtain ⟨u, hu⟩ : ∃ u, x.natAbs = u := ⟨_, rfl⟩
  have hq : u / 10000 ≤ 1000000000 := by omega
  have hm : u % 10000 < 10000 := Nat.mod_lt _ (by omega)
  have w1 : IntKind.i64.wrap ((u / 10000 : Nat) : Int) = ((u / 10000 : Nat) : Int) := wrap_in (by omega) (by omega)
  have w2 : IntKind.i64.wrap ((10000 : Int) + ((u % 10000 : Nat) : Int)) = ((10000 + u % 10000 : Nat) : Int) := by rw [wrap_in (by omega) (by omega)]; omega
  have l1 := dec_len (u := u / 10000) (by omega)
  have l2 := dec_len (u := 10000 + u % 10000) (by omega)
  have l4 := four_len (u % 10000) hm
  refine iti (fun r => ?_) (fun r => ?_)
  ·have r := of_decide_eq_true r
   have hw : IntKind.i64.wrap ((0 : Int) - x) = (u : Int) := by rw [wrap_in (by omega) (by omega)]; omega
   rw [if_pos r, hw, tm4, td4, w1, w2, hu]
   refine ⟨⟨by omega, by omega⟩, fun y hy => ?_⟩
   rw [itoa_nat] at hy
   subst hy
   refine it (fitsS (by simp; omega)) (iti (fun q => ?_) (fun q => ?_))
   ·have q : u % 10000 = 0 := by
     have : ((u % 10000 : Nat) : Int) = 0 := by simpa using q
     omega
    exact str_eq (by unfold decP; rw [if_pos q, List.append_nil])
   ·have q : u % 10000 ≠ 0 := by intro e; rw [e] at q; simp at q
    refine ⟨⟨by omega, by omega⟩, fun z hz => ?_⟩
    rw [itoa_nat] at hz
    subst hz
    refine it (by simp; omega) ⟨rfl, ⟨rfl, by rw [← leastF_four hm]; exact ends_four hm q⟩, fun t ht => ?_⟩
    rw [← leastF_four hm] at ht
    subst ht
    refine it (fitsS (by simp; omega)) (it (fitsS (by simp; omega)) (str_eq ?_))
    unfold decP; rw [if_neg q, ← leastF_four hm]; simp
  ·have r := of_decide_eq_false r
   have hw : x = (u : Int) := by omega
   rw [if_neg r, hu, hw, tm4, td4, w1, w2]
   refine ⟨⟨by omega, by omega⟩, fun y hy => ?_⟩
   rw [itoa_nat] at hy
   subst hy
   refine it (fitsS (by simp; omega)) (iti (fun q => ?_) (fun q => ?_))
   ·have q : u % 10000 = 0 := by
     have : ((u % 10000 : Nat) : Int) = 0 := by simpa using q
     omega
    exact str_eq (by unfold decP; rw [if_pos q, List.append_nil])
   ·have q : u % 10000 ≠ 0 := by intro e; rw [e] at q; simp at q
    refine ⟨⟨by omega, by omega⟩, fun z hz => ?_⟩
    rw [itoa_nat] at hz
    subst hz
    refine it (by simp; omega) ⟨rfl, ⟨rfl, by rw [← leastF_four hm]; exact ends_four hm q⟩, fun t ht => ?_⟩
    rw [← leastF_four hm] at ht
    subst ht
    refine it (fitsS (by simp; omega)) (it (fitsS (by simp; omega)) (str_eq ?_))
    unfold decP; rw [if_neg q, ← leastF_four hm]; simp
 ·cases hs
theorem ok57 {T : Tab} (O : Ok M T) : Ok M (T.addC 57 C57) := by
 refine fresh_ok O (okL57 (ok87 (ok89 ok0))) (by kernel_rfl) rfl fun args h s hs hp => ?_
 unfold C57 C54 at hs
 split at hs
 ·rename_i n
  cases hs
  refine ⟨rfl, _, _, decT n, aStr, rfl, v57 M n _ ⟨hp, fun x hx => ?_⟩⟩
  obtain ⟨b1, b2⟩ := near_le n
  rw [← hx] at b1 b2
  have hd : decT n = (if x < 0 then [45] else []) ++ decP x.natAbs := by rw [hx]; rfl
  rw [hd]
  obtain ⟨u, hu⟩ : ∃ u, x.natAbs = u := ⟨_, rfl⟩
  have hm : u % 10000 < 10000 := Nat.mod_lt _ (by omega)
  have w1 : IntKind.i64.wrap ((u / 10000 : Nat) : Int) = ((u / 10000 : Nat) : Int) := wrap_in (by omega) (by omega)
  have l1 := dec_len (u := u / 10000) (by omega)
  have l4 := four_len (u % 10000) hm
  refine iti (fun r => ?_) (fun r => ?_)
  ·have r' := of_decide_eq_true r
   have hw : IntKind.i64.wrap ((0 : Int) - x) = (u : Int) := by rw [wrap_in (by omega) (by omega)]; omega
   rw [if_pos r', hw, tm4, td4, w1, hu]
   refine ⟨⟨⟨by omega, by omega⟩, ⟨by omega, by omega⟩⟩, fun y hy => ?_⟩
   rw [show ((u / 10000 : Nat) : Int).toNat = u / 10000 from rfl, leastF_one] at hy
   subst hy
   refine iti (fun q => ?_) (fun q => ?_)
   ·have q : u % 10000 ≠ 0 := by intro e; rw [e] at q; simp at q
    refine ⟨⟨⟨by omega, by omega⟩, ⟨by omega, by omega⟩⟩, fun z hz => ?_⟩
    rw [show ((u % 10000 : Nat) : Int).toNat = u % 10000 from rfl] at hz
    subst hz
    refine ⟨rfl, ⟨rfl, ends_four hm q⟩, fun t ht => ?_⟩
    subst ht
    refine it (fitsS (by simp; omega)) (it (fitsS (by simp; omega)) (it r (it (fitsS (by simp; omega)) (str_eq ?_))))
    unfold decP; rw [if_neg q, ← leastF_four hm]; simp
   ·have q : u % 10000 = 0 := by
     have : ((u % 10000 : Nat) : Int) = 0 := by simpa using q
     omega
    exact it r (it (fitsS (by simp; omega)) (str_eq (by unfold decP; rw [if_pos q, List.append_nil])))
  ·have r' := of_decide_eq_false r
   have hw : x = (u : Int) := by omega
   rw [if_neg r', hu]
   have ru : decide ((u : Int) < (0 : Int)) = false := df (by omega)
   rw [hw, tm4, td4, w1]
   refine ⟨⟨⟨by omega, by omega⟩, ⟨by omega, by omega⟩⟩, fun y hy => ?_⟩
   rw [show ((u / 10000 : Nat) : Int).toNat = u / 10000 from rfl, leastF_one] at hy
   subst hy
   refine iti (fun q => ?_) (fun q => ?_)
   ·have q : u % 10000 ≠ 0 := by intro e; rw [e] at q; simp at q
    refine ⟨⟨⟨by omega, by omega⟩, ⟨by omega, by omega⟩⟩, fun z hz => ?_⟩
    rw [show ((u % 10000 : Nat) : Int).toNat = u % 10000 from rfl] at hz
    subst hz
    refine ⟨rfl, ⟨rfl, ends_four hm q⟩, fun t ht => ?_⟩
    subst ht
    refine it (fitsS (by simp; omega)) (it (fitsS (by simp; omega)) (ie ru (str_eq ?_)))
    unfold decP; rw [if_neg q, ← leastF_four hm]; simp
   ·have q : u % 10000 = 0 := by
     have : ((u % 10000 : Nat) : Int) = 0 := by simpa using q
     omega
    exact ie ru (str_eq (by unfold decP; rw [if_pos q, List.append_nil]; rfl))
 ·cases hs
end
end Go.Proofs.Sp
namespace Go.Proofs.Sp
open Go Go.Ef Go.Proofs.Pt
noncomputable section
set_option maxRecDepth 100000
variable {M : Int}
theorem let_all : ∀ n : Fin 256, letN n.val = (if (n.val : Int) = 7 then 97 else if (n.val : Int) = 8 then 98 else if (n.val : Int) = 9 then 116 else if (n.val : Int) = 10 then 110 else if (n.val : Int) = 11 then 118 else if (n.val : Int) = 12 then 102 else if (n.val : Int) = 13 then 114 else if (n.val : Int) = 92 then 92 else 0 : Int) := by decide +kernel
theorem int_eq {a b : Int} : (a == b) = decide (a = b) := by
 by_cases h : a = b <;> simp [h]
theorem ok85 {T : Tab} (O : Ok M T) : Ok M (T.addC 85 C85) := by
 refine fresh_ok O ok0 (by kernel_rfl) rfl fun args h s hs hp => ?_
 unfold C85 at hs
 split at hs
 ·rename_i c
  cases hs
  obtain ⟨h0, h1⟩ := hp
  have hl := let_all ⟨c.toNat, by omega⟩
  have hc : ((c.toNat : Nat) : Int) = c := by omega
  simp only [hc] at hl
  refine ⟨rfl, _, _, letN c, uA, rfl, v85 M c _ ?_⟩
  rw [hl]
  simp only [int_eq]
  refine iti (fun q => ?_) (fun q => iti (fun q => ?_) (fun q => iti (fun q => ?_) (fun q => iti (fun q => ?_) (fun q => iti (fun q => ?_) (fun q => iti (fun q => ?_) (fun q => iti (fun q => ?_) (fun q => iti (fun q => ?_) (fun q => ?_))))))))
  all_goals simp only [decide_eq_true_eq, decide_eq_false_iff_not] at *
  all_goals simp [*, uA]
 ·cases hs
theorem oct_all : ∀ n : Fin 256, IntKind.u8.wrap (48 + IntKind.u8.wrap ((n.val : Int).tdiv 64)) = (((48 + (UInt8.ofNat n.val) / 64 : UInt8).toNat : Nat) : Int) ∧
  IntKind.u8.wrap (48 + (IntKind.u8.wrap ((n.val : Int).tdiv 8)).tmod 8) = (((48 + (UInt8.ofNat n.val) / 8 % 8 : UInt8).toNat : Nat) : Int) ∧
  IntKind.u8.wrap (48 + (n.val : Int).tmod 8) = (((48 + (UInt8.ofNat n.val) % 8 : UInt8).toNat : Nat) : Int) := by decide +kernel
theorem oct_at (c : UInt8) : IntKind.u8.wrap (48 + IntKind.u8.wrap ((c.toNat : Int).tdiv 64)) = (((48 + c / 64 : UInt8).toNat : Nat) : Int) ∧
  IntKind.u8.wrap (48 + (IntKind.u8.wrap ((c.toNat : Int).tdiv 8)).tmod 8) = (((48 + c / 8 % 8 : UInt8).toNat : Nat) : Int) ∧
  IntKind.u8.wrap (48 + (c.toNat : Int).tmod 8) = (((48 + c % 8 : UInt8).toNat : Nat) : Int) := by
 have h := oct_all ⟨c.toNat, c.toNat_lt⟩
 simpa using h
theorem letN_at (c : UInt8) : letN (c.toNat : Int) = ((letR c).toNat : Int) := by
 unfold letN; simp
theorem rowB_len (s : List UInt8) : (rowB s).length = s.length := by simp [rowB]
theorem rowB_all (s : List UInt8) : allLen 1 (rowB s) = true := by simp [allLen, rowB]
theorem byteD_row (c : UInt8) : byteD [AV.sc (.int .u8 c.toNat)] = c := by
 show UInt8.ofNat ((c.toNat : Int).toNat) = c
 simp
theorem rowB_bytes (s : List UInt8) : (rowB s).map byteD = s := by
 unfold rowB
 rw [List.map_map]
 conv => rhs; rw [← List.map_id s]
 exact List.map_congr_left fun c _ => byteD_row c
theorem rowB_cells (s : List UInt8) : (rowB s).all isByteCell = true := by
 rw [List.all_eq_true]
 intro e he
 unfold rowB at he
 obtain ⟨c, _, rfl⟩ := List.mem_map.1 he
 rfl
theorem rowB_app (s t : List UInt8) : rowB (s ++ t) = rowB s ++ rowB t := by simp [rowB]
theorem escR_len : ∀ n : Fin 256, (escR (UInt8.ofNat n.val)).length ≤ 4 ∧ (escR (UInt8.ofNat n.val)) ≠ [] := by decide +kernel
theorem esc_len1 (c : UInt8) : (escP c).length ≤ 4 ∧ escP c ≠ [] := by
 have h := escR_len ⟨c.toNat, c.toNat_lt⟩
 rw [esc_eq]
 simpa using h
theorem escF_nil : escF [] = [] := rfl
theorem escF_app (s t : List UInt8) : escF (s ++ t) = escF s ++ escF t := by unfold escF; simp
theorem escF_one (c : UInt8) : escF [c] = escP c := by unfold escF; simp
theorem escF_len (s : List UInt8) : (escF s).length ≤ 4 * s.length := by
 induction s with
 | nil => simp [escF_nil]
 | cons c s ih =>
  have := (esc_len1 c).1
  rw [show c :: s = [c] ++ s from rfl, escF_app, escF_one]
  simp; omega
theorem escF_take (s : List UInt8) (i : Nat) (h : i < s.length) : escF (s.take (i + 1)) = escF (s.take i) ++ escR s[i] := by
 rw [List.take_succ_eq_append_getElem h, escF_app, escF_one, esc_eq]
theorem fits1 {n : Nat} (h : n ≤ 100000000) : fits n 1 = true := by
 unfold fits
 have e : maxRoom = 140737488355328 := rfl
 simp only [e, Bool.and_eq_true]
 refine ⟨?_, ?_⟩ <;> exact Nat.ble_eq_true_of_le (by omega)
theorem esc_round {c : UInt8} {F : Cells → Prop} (hF : F (rowB (escR c))) :
  (0 ≤ (c.toNat : Int) ∧ (c.toNat : Int) < 256) ∧ ∀ x : Int, x = letN (c.toNat : Int) → iteP (x != (0 : Int))
   ((0 ≤ (c.toNat : Int) ∧ (c.toNat : Int) < 256) ∧ ∀ x : Int, x = letN (c.toNat : Int) → F [[AV.sc (Value.int IntKind.u8 (92 : Int))], [AV.sc (Value.int IntKind.u8 x)]])
   (iteP (decide ((c.toNat : Int) < (32 : Int)))
    (F [[AV.sc (Value.int IntKind.u8 (92 : Int))], [AV.sc (Value.int IntKind.u8 (IntKind.u8.wrap ((48 : Int) + IntKind.u8.wrap ((c.toNat : Int).tdiv (64 : Int)))))], [AV.sc (Value.int IntKind.u8 (IntKind.u8.wrap ((48 : Int) + (IntKind.u8.wrap ((c.toNat : Int).tdiv (8 : Int))).tmod (8 : Int))))], [AV.sc (Value.int IntKind.u8 (IntKind.u8.wrap ((48 : Int) + (c.toNat : Int).tmod (8 : Int))))]])
    (iteP (decide ((126 : Int) < (c.toNat : Int)))
     (F [[AV.sc (Value.int IntKind.u8 (92 : Int))], [AV.sc (Value.int IntKind.u8 (IntKind.u8.wrap ((48 : Int) + IntKind.u8.wrap ((c.toNat : Int).tdiv (64 : Int)))))], [AV.sc (Value.int IntKind.u8 (IntKind.u8.wrap ((48 : Int) + (IntKind.u8.wrap ((c.toNat : Int).tdiv (8 : Int))).tmod (8 : Int))))], [AV.sc (Value.int IntKind.u8 (IntKind.u8.wrap ((48 : Int) + (c.toNat : Int).tmod (8 : Int))))]])
     (F [[AV.sc (Value.int IntKind.u8 (c.toNat : Int))]]))) := by
 have hc := c.toNat_lt
 have hb : 0 ≤ (c.toNat : Int) ∧ (c.toNat : Int) < 256 := ⟨by omega, by omega⟩
 obtain ⟨o1, o2, o3⟩ := oct_at c
 have lt32 : ((c.toNat : Int) < 32) ↔ c < 32 := by rw [UInt8.lt_iff_toNat_lt]; show _ ↔ c.toNat < 32; omega
 have gt126 : ((126 : Int) < (c.toNat : Int)) ↔ 126 < c := by rw [UInt8.lt_iff_toNat_lt]; show _ ↔ 126 < c.toNat; omega
 refine ⟨hb, fun x hx => iti (fun q => ⟨hb, fun y hy => ?_⟩) (fun q => ?_)⟩
 ·have hn : letR c ≠ 0 := by
   intro e
   rw [hx, letN_at, e] at q
   simp at q
  rw [hy, letN_at]
  have e : escR c = [92, letR c] := by unfold escR; rw [if_pos hn]
  rw [e] at hF
  exact hF
 ·have hn : ¬ letR c ≠ 0 := by
   intro e
   apply e
   have : ((letR c).toNat : Int) = 0 := by rw [hx, letN_at] at q; simpa using q
   exact UInt8.toNat_inj.1 (by show (letR c).toNat = 0; omega)
  rw [o1, o2, o3]
  refine iti (fun q1 => ?_) (fun q1 => iti (fun q2 => ?_) (fun q2 => ?_))
  ·have e : escR c = [92, 48 + c / 64, 48 + c / 8 % 8, 48 + c % 8] := by unfold escR; rw [if_neg hn, if_pos (.inl (lt32.1 (of_decide_eq_true q1)))]
   rw [e] at hF
   exact hF
  ·have e : escR c = [92, 48 + c / 64, 48 + c / 8 % 8, 48 + c % 8] := by unfold escR; rw [if_neg hn, if_pos (.inr (gt126.1 (of_decide_eq_true q2)))]
   rw [e] at hF
   exact hF
  ·have e : escR c = [c] := by
    unfold escR
    rw [if_neg hn, if_neg]
    rintro (h | h)
    ·exact of_decide_eq_false q1 (lt32.2 h)
    ·exact of_decide_eq_false q2 (gt126.2 h)
   rw [e] at hF
   exact hF
theorem loop55 (s : List UInt8) (hs : s.length ≤ 1048576) : ∀ k i : Nat, i + 1 + k = s.length → Ev (cfg M) Tryz.prog 55 (.loop (loopAt Tryz.prog 55 4)) (I55 s ((i + 1 : Nat) : Int) (rowB (escF (s.take (i + 1)))) (escF (s.take (i + 1))).length) fun e τ => e = .exit 0 ∧ τ = X55 (rowB (escF s)) (escF s).length := by
 intro k
 induction k with
 | zero =>
  intro i hi
  refine Ev.round (O := ok85 ok0) (n := 60) (t := ⟨[0, 3, 4], [3], 0⟩) (by kernel_rfl) (by kernel_rfl) rfl (r55 M s _ _ _ (fun _ _ _ => False) True (ie (df (by omega)) ⟨rfl, rfl, trivial⟩)) (fun _ h => h.2.elim) (fun e τ hx => ?_)
  unfold q55 at hx
  split at hx
  ·refine ⟨hx.1, ?_⟩
   rw [hx.2.1, List.take_of_length_le (by omega)]
  ·exact hx.elim
 | succ k ih =>
  intro i hi
  have hlt : i + 1 < s.length := by omega
  have hl : (s.take (i + 1)).length ≤ 1048576 := by simp; omega
  have hw : IntKind.i64.wrap (((i + 1 : Nat) : Int) + 1) = ((i + 1 + 1 : Nat) : Int) := by rw [wrap_in (by omega) (by omega)]; omega
  have hr := inR (s := s) (i := ((i + 1 : Nat) : Int)) (by omega) (by omega)
  have he := escF_len (s.take (i + 1))
  have hel := (esc_len1 s[i + 1]).1
  rw [esc_eq] at hel
  refine Ev.round (O := ok85 ok0) (n := 60) (t := ⟨[0, 3, 4], [3], 0⟩) (by kernel_rfl) (by kernel_rfl) rfl
   (r55 M s _ _ _ (fun x y z => x = rowB (escF (s.take (i + 1 + 1))) ∧ y = (escF (s.take (i + 1 + 1))).length ∧ z = ((i + 1 + 1 : Nat) : Int)) False (it (dt (by omega)) (it hr ?_))) (fun τ h => ?_) (fun e τ hx => ?_)
  ·rw [byteAt_nat s (i + 1) hlt, hw]
   refine esc_round (c := s[i + 1]) (F := fun row => iteP (allLen 1 (rowB (escF (s.take (i + 1)))) && fits ((rowB (escF (s.take (i + 1)))).length + row.length) 1) (iteP (decide ((rowB (escF (s.take (i + 1)))).length = (escF (s.take (i + 1))).length)) (I55 s ((i + 1 + 1 : Nat) : Int) (rowB (escF (s.take (i + 1))) ++ row) ((escF (s.take (i + 1))).length + row.length) = I55 s ((i + 1 + 1 : Nat) : Int) (rowB (escF (s.take (i + 1))) ++ row) ((escF (s.take (i + 1))).length + row.length) ∧ (rowB (escF (s.take (i + 1))) ++ row = rowB (escF (s.take (i + 1 + 1))) ∧ (escF (s.take (i + 1))).length + row.length = (escF (s.take (i + 1 + 1))).length ∧ ((i + 1 + 1 : Nat) : Int) = ((i + 1 + 1 : Nat) : Int))) False) False) ?_
   refine it ?_ (it (dt (rowB_len _)) ⟨rfl, ?_, ?_, rfl⟩)
   ·rw [rowB_all, Bool.true_and]
    exact fits1 (by rw [rowB_len, rowB_len]; omega)
   ·rw [escF_take s (i + 1) hlt, rowB_app]
   ·rw [escF_take s (i + 1) hlt, rowB_len, List.length_append]
  ·obtain ⟨h1, h2, h3, h4⟩ := h
   rw [h1, h2, h3, h4]
   exact ih (i + 1) (by omega)
  ·unfold q55 at hx
   split at hx
   ·exact hx.2.2.elim
   ·exact hx.elim
theorem okL55 {T : Tab} (O : Ok M T) : Ok M (T.addL 55 4 L55) := by
 refine addL_ok O fun σ s hs hp => ?_
 cases hs
 obtain ⟨h1, h2⟩ := hp
 have hle := h2.le
 have key : Ev (cfg M) Tryz.prog 55 (.loop (loopAt Tryz.prog 55 4)) (Z55 (slS σ 0) 0) fun e τ => (slS σ 0 = [] ∧ e = .exit 0 ∧ τ = Y55) ∨ (slS σ 0 ≠ [] ∧ e = .exit 0 ∧ τ = X55 (rowB (escF (slS σ 0))) (escF (slS σ 0)).length) := by
  obtain ⟨s, hs⟩ : ∃ s, slS σ 0 = s := ⟨_, rfl⟩
  rw [hs] at hle ⊢
  by_cases h0 : s = []
  ·subst h0
   refine Ev.round (O := ok85 ok0) (n := 60) (t := ⟨[0, 3, 4], [3], 0⟩) (by kernel_rfl) (by kernel_rfl) rfl (rz55 M [] 0 (fun _ _ _ => False) True (ie rfl ⟨rfl, rfl, trivial⟩)) (fun _ h => h.2.elim) (fun e τ hx => ?_)
   unfold qz55 at hx
   split at hx
   ·exact .inl ⟨rfl, hx.1, hx.2.1⟩
   ·exact hx.elim
  ·have hlt : 0 < s.length := List.length_pos_iff.2 h0
   have hw : IntKind.i64.wrap ((0 : Int) + 1) = ((0 + 1 : Nat) : Int) := by rw [wrap_in (by omega) (by omega)]; omega
   have hr := inR (s := s) (i := (0 : Int)) (by omega) (by omega)
   have hb : byteAt s 0 = (s[0].toNat : Int) := byteAt_nat s 0 hlt
   have h1 : escF (s.take (0 + 1)) = escR s[0] := by rw [escF_take s 0 hlt]; simp [escF_nil]
   refine Ev.round (O := ok85 ok0) (n := 60) (t := ⟨[0, 3, 4], [3], 0⟩) (by kernel_rfl) (by kernel_rfl) rfl
    (rz55 M s 0 (fun x y z => x = rowB (escF (s.take (0 + 1))) ∧ y = (escF (s.take (0 + 1))).length ∧ z = ((0 + 1 : Nat) : Int)) False (it (dt (by omega)) (it hr ?_))) (fun τ h => ?_) (fun e τ hx => ?_)
   ·rw [hb, hw]
    refine esc_round (c := s[0]) (F := fun row => I55 s ((0 + 1 : Nat) : Int) row row.length = I55 s ((0 + 1 : Nat) : Int) row row.length ∧ row = rowB (escF (s.take (0 + 1))) ∧ row.length = (escF (s.take (0 + 1))).length ∧ ((0 + 1 : Nat) : Int) = ((0 + 1 : Nat) : Int)) ?_
    rw [h1]
    exact ⟨rfl, rfl, rowB_len _, rfl⟩
   ·obtain ⟨h1, h2, h3, h4⟩ := h
    rw [h1, h2, h3, h4]
    refine (loop55 s hle (s.length - 1) 0 (by omega)).mono fun e τ' hq => .inr ⟨h0, hq.1, hq.2⟩
   ·unfold qz55 at hx
    split at hx
    ·exact hx.2.2.elim
    ·exact hx.elim
 obtain ⟨m, e, τ, g1, g2⟩ := Ev.tidied (t := ⟨[0, 3, 4], [3], 0⟩) (by kernel_rfl) h1 key
 rcases g2 with ⟨k1, rfl, rfl⟩ | ⟨k1, rfl, rfl⟩
 ·exact ⟨_, List.mem_cons_self, (), ⟨k1⟩, m, g1⟩
 ·exact ⟨_, List.mem_cons_of_mem _ (List.mem_singleton.2 rfl), (rowB (escF (slS σ 0)), (escF (slS σ 0)).length), ⟨rfl, rfl⟩, m, g1⟩
theorem ok55 {T : Tab} (O : Ok M T) : Ok M (T.addC 55 C55) := by
 refine fresh_ok O (okL55 (ok85 ok0)) (by kernel_rfl) rfl fun args h s hs hp => ?_
 unfold C55 at hs
 split at hs
 ·rename_i s
  cases hs
  refine ⟨rfl, _, _, escF s.data.toList, aStr, rfl, v55 M s.data.toList _ ⟨rfl, ⟨rfl, hp⟩, fun _ hx => ?_, fun x hx => ?_⟩⟩
  ·rw [hx.is]; rfl
  ·rw [hx.els]
   refine it (rowB_cells _) ?_
   rw [rowB_bytes]; rfl
 ·cases hs
theorem quoF_app (s t : List UInt8) : quoF (s ++ t) = quoF s ++ quoF t := by unfold quoF; simp
theorem quoF_len (s : List UInt8) : (quoF s).length ≤ 2 * s.length := by
 induction s with
 | nil => simp [quoF_nil]
 | cons c s ih =>
  rw [quoF_cons]
  split <;> simp <;> omega
theorem quoF_take (s : List UInt8) (i : Nat) (h : i < s.length) : quoF (s.take (i + 1)) = quoF (s.take i) ++ (if s[i] == 34 then [92, s[i]] else [s[i]]) := by
 rw [List.take_succ_eq_append_getElem h, quoF_app]
 congr 1
 rw [show [s[i]] = s[i] :: [] from rfl, quoF_cons, quoF_nil, List.append_nil]
theorem loop25 (s : List UInt8) (hs : s.length ≤ 4194304) : ∀ k i : Nat, i + k = s.length → Ev (cfg M) Tryz.prog 25 (.loop (loopAt Tryz.prog 25 5)) (I25 s (rowB (34 :: quoF (s.take i))) (i : Int) (34 :: quoF (s.take i)).length) fun e τ => e = .exit 0 ∧ τ = X25 (rowB (34 :: quoF s)) (34 :: quoF s).length := by
 intro k
 induction k with
 | zero =>
  intro i hi
  refine Ev.round (O := ok0) (n := 60) (t := ⟨[3, 4, 5], [4], 0⟩) (by kernel_rfl) (by kernel_rfl) rfl (r25 M s _ _ _ (fun _ _ _ => False) True (ie (df (by omega)) ⟨rfl, rfl, trivial⟩)) (fun _ h => h.2.elim) (fun e τ hx => ?_)
  unfold q25 at hx
  split at hx
  ·refine ⟨hx.1, ?_⟩
   rw [hx.2.1, List.take_of_length_le (by omega)]
  ·exact hx.elim
 | succ k ih =>
  intro i hi
  have hlt : i < s.length := by omega
  have hw : IntKind.i64.wrap ((i : Int) + 1) = ((i + 1 : Nat) : Int) := by rw [wrap_in (by omega) (by omega)]; omega
  have hr := inR (s := s) (i := (i : Int)) (by omega) (by omega)
  have hq := quoF_len (s.take i)
  have hl : (s.take i).length ≤ 4194304 := by simp; omega
  refine Ev.round (O := ok0) (n := 60) (t := ⟨[3, 4, 5], [4], 0⟩) (by kernel_rfl) (by kernel_rfl) rfl
   (r25 M s _ _ _ (fun x y z => x = rowB (34 :: quoF (s.take (i + 1))) ∧ y = (34 :: quoF (s.take (i + 1))).length ∧ z = ((i + 1 : Nat) : Int)) False (it (dt (by omega)) (it hr ?_))) (fun τ h => ?_) (fun e τ hx => ?_)
  ·rw [byteAt_nat s i hlt, hw, show ((s[i].toNat : Int) == (34 : Int)) = decide (s[i] = 34) from eq_nat (n := 34) (by decide)]
   have r92 : ([[AV.sc (Value.int IntKind.u8 (92 : Int))]] : Cells) = rowB [92] := rfl
   have rc : ([[AV.sc (Value.int IntKind.u8 (s[i].toNat : Int))]] : Cells) = rowB [s[i]] := rfl
   rw [r92, rc]
   refine iti (fun q => ?_) (fun q => ?_)
   ·have q := of_decide_eq_true q
    have e : 34 :: quoF (s.take (i + 1)) = (34 :: quoF (s.take i)) ++ [92] ++ [s[i]] := by rw [quoF_take s i hlt, q]; simp
    refine it ?_ (it (dt (rowB_len _)) (it hr (it ?_ (it (dt ?_) ⟨rfl, ?_, ?_, rfl⟩))))
    ·rw [rowB_all, Bool.true_and]
     exact fits1 (by rw [rowB_len]; simp; omega)
    ·rw [← rowB_app, rowB_all, Bool.true_and]
     exact fits1 (by rw [rowB_len, rowB_len]; simp; omega)
    ·rw [← rowB_app, rowB_len]; simp
    ·rw [e, rowB_app, rowB_app]
    ·rw [e]; simp [rowB_len]
   ·have q := of_decide_eq_false q
    have e : 34 :: quoF (s.take (i + 1)) = (34 :: quoF (s.take i)) ++ [s[i]] := by rw [quoF_take s i hlt]; simp [q]
    refine it hr (it ?_ (it (dt (rowB_len _)) ⟨rfl, ?_, ?_, rfl⟩))
    ·rw [rowB_all, Bool.true_and]
     exact fits1 (by rw [rowB_len, rowB_len]; simp; omega)
    ·rw [e, rowB_app]
    ·rw [e]; simp [rowB_len]
  ·obtain ⟨h1, h2, h3, h4⟩ := h
   rw [h1, h2, h3, h4]
   exact ih (i + 1) (by omega)
  ·unfold q25 at hx
   split at hx
   ·exact hx.2.2.elim
   ·exact hx.elim
theorem okL25 {T : Tab} (O : Ok M T) : Ok M (T.addL 25 5 L25) := by
 refine addL_ok O fun σ s hs hp => ?_
 cases hs
 obtain ⟨h1, h2, h3⟩ := hp
 rw [h2.is] at h1
 obtain ⟨m, e, τ, g1, rfl, rfl⟩ := Ev.tidied (t := ⟨[3, 4, 5], [4], 0⟩) (by kernel_rfl) h1 (loop25 (slS σ 3) h3.le (slS σ 3).length 0 (by omega))
 exact ⟨_, List.mem_singleton.2 rfl, (rowB (34 :: quoF (slS σ 3)), (34 :: quoF (slS σ 3)).length), ⟨rfl, rfl⟩, m, g1⟩
theorem ok25 {T : Tab} (O : Ok M T) : Ok M (T.addC 25 C25) := by
 refine fresh_ok O (okL25 (ok55 ok0)) (by kernel_rfl) rfl fun args h s hs hp => ?_
 unfold C25 at hs
 split at hs
 ·rename_i s
  cases hs
  have h1 := hp.le
  have h2 := escF_len s.data.toList
  have h3 := quoF_len (escF s.data.toList)
  refine ⟨rfl, _, _, quoT s.data.toList, aStr, rfl, v25 M s.data.toList _ ⟨hp, fun x hx => ?_⟩⟩
  subst hx
  refine ⟨rfl, ⟨rfl, ⟨rfl⟩, ⟨by omega⟩⟩, fun y hy => ?_⟩
  rw [hy.els, hy.n, show ([[AV.sc (Value.int IntKind.u8 (34 : Int))]] : Cells) = rowB [34] from rfl, ← rowB_app]
  refine it ?_ (it (dt (rowB_len _)) (it (rowB_cells _) ?_))
  ·rw [rowB_all, Bool.true_and]
   exact fits1 (by rw [rowB_len]; simp; omega)
  ·rw [rowB_bytes]; rfl
 ·cases hs
end
end Go.Proofs.Sp
namespace Go.Proofs.Sp
open Go Go.Ef Go.Proofs.Pt
noncomputable section
def hb0 : Heap := { next := 2, objs := (Tr.leaf : Tr AObj).set 1 (.cells [.sc (.pointer none), .sc (.slice none 0 0)]), ro := 1, ty := (Tr.leaf : Tr (Nat × Nat)).set 1 (63, 2) }
def hbC (b : Cells) (n : Nat) : Heap := { next := 3, objs := ((Tr.leaf : Tr AObj).set 1 (.cells [.ptr 1 0, .sl b 3])).set 2 (.own 1 5 n), ro := 1, ty := (Tr.leaf : Tr (Nat × Nat)).set 1 (63, 2) }
def hBytes (h : Heap) : Cells :=
 match h.objs.get 1 with
 | some (.cells [_, .sl l _]) => l
 | _ => []
def hN (h : Heap) : Nat :=
 match h.objs.get 2 with
 | some (.own _ _ n) => n
 | _ => 0
structure Row (b : Cells) (n : Nat) : Prop where
 len : b.length = n
 all : allLen 1 b = true
 le : n ≤ 1099511627776
structure Text (s : List UInt8) : Prop where
 ne : s ≠ []
 le : s.length ≤ 1099511627776
def C18 (args : List AV) (h : Heap) : Option CSpec :=
 match args with
 | [.ptr 1 0, .sc (.string s)] => match h.objs.get 1 with
  | some (.cells (.sc _ :: _)) => some { pre := h = hb0 ∧ Text s.data.toList, alts := [{ α := Cells × Nat, post := fun q => q = (rowB s.data.toList, s.data.toList.length), val := fun _ => .tup [iA s.data.toList.length, .sc .nilIface], heap := fun q => hbC q.1 q.2 }] }
  | some (.cells (.ptr _ _ :: _)) => some { pre := h = hbC (hBytes h) (hN h) ∧ Row (hBytes h) (hN h) ∧ Text s.data.toList, alts := [{ α := Cells × Nat, post := fun q => q = (hBytes h ++ rowB s.data.toList, hN h + s.data.toList.length), val := fun _ => .tup [iA s.data.toList.length, .sc .nilIface], heap := fun q => hbC q.1 q.2 }] }
  | _ => none
 | _ => none
def C81 (args : List AV) (h : Heap) : Option CSpec :=
 match args with
 | [.ptr 1 0, .sc (.int .u8 c)] => match h.objs.get 1 with
  | some (.cells (.sc _ :: _)) => some { pre := h = hb0, alts := [{ α := Cells × Nat, post := fun q => q = ([[uA c]], 1), val := fun _ => .sc .nilIface, heap := fun q => hbC q.1 q.2 }] }
  | some (.cells (.ptr _ _ :: _)) => some { pre := h = hbC (hBytes h) (hN h) ∧ Row (hBytes h) (hN h), alts := [{ α := Cells × Nat, post := fun q => q = (hBytes h ++ [[uA c]], hN h + 1), val := fun _ => .sc .nilIface, heap := fun q => hbC q.1 q.2 }] }
  | _ => none
 | _ => none
def tabs : List UInt8 := [10, 9, 13, 7, 8, 12, 11]
def lets : List UInt8 := [110, 116, 114, 97, 98, 102, 118]
def placeN (c : Int) : Int := placeOf c.toNat.toUInt8 tabs 0
def C158 (args : List AV) (h : Heap) : Option CSpec :=
 match args with
 | [.sc (.string s), .sc (.int .u8 c)] => some (nspec (s.data.toList = tabs) (placeN c) iA h)
 | _ => none
def I52 (s : List UInt8) (i : Int) (b : Cells) (n : Nat) : St := stOf 43 [(0, sStr s), (3, .v (.ptr 1 0)), (8, sInt s.length), (9, sInt i)] [] (hbC b n)
def Z52 (s : List UInt8) (i : Int) : St := stOf 43 [(0, sStr s), (3, .v (.ptr 1 0)), (8, sInt s.length), (9, sInt i)] [] hb0
def X52 (b : Cells) (n : Nat) : St := stOf 43 [(3, .v (.ptr 1 0))] [] (hbC b n)
def Y52 : St := stOf 43 [(3, .v (.ptr 1 0))] [] hb0
def q52 (b : Cells) (n : Nat) (X : Prop) (e : Ex) (τ : St) : Prop :=
 match e with
 | .exit _ => e = .exit 0 ∧ τ = X52 b n ∧ X
 | _ => False
def qz52 (X : Prop) (e : Ex) (τ : St) : Prop :=
 match e with
 | .exit _ => e = .exit 0 ∧ τ = Y52 ∧ X
 | _ => False
def L52 (σ : St) : Option LSpec := some { pre := σ.tidy [0, 3, 8, 9] 0 = Z52 (slS σ 0) 0 ∧ Small (slS σ 0), alts := [{ α := Unit, post := fun _ => IsNo (slS σ 0), ex := .exit 0, st := fun _ => Y52 }, { α := Cells × Nat, post := fun q => RowOf (escF (slS σ 0)) q ∧ NotNo (slS σ 0), ex := .exit 0, st := fun q => X52 q.1 q.2 }] }
def T52 : Tab := ((tab0.addC 18 C18).addC 81 C81).addC 158 C158
structure HasRow (b : Cells) (n : Nat) : Prop where
 is : ∃ q, b = rowB q ∧ n = q.length ∧ q ≠ [] ∧ q.length ≤ 1099511627776
structure IsRow (b : Cells) (q : List UInt8) : Prop where
 is : b = rowB q
def hbD (b : Cells) (n : Nat) : Heap := { hbC b n with objs := (hbC b n).objs.set 2 .dead }
def C23 (args : List AV) (h : Heap) : Option CSpec :=
 match args with
 | [.ptr 1 0] => match h.objs.get 1 with
  | some (.cells (.sc _ :: _)) => some (fspec (h = hb0) (aStr []) h)
  | some (.cells (.ptr _ _ :: _)) => some { pre := h = hbC (hBytes h) (hN h) ∧ HasRow (hBytes h) (hN h), alts := [{ α := List UInt8, post := fun q => IsRow (hBytes h) q, val := aStr, heap := fun _ => hbD (hBytes h) (hN h) }] }
  | _ => none
 | _ => none
def T52b : Tab := (tab0.addC 23 C23).addL 52 4 L52
def C52 := C55
structure Quote (old new : List UInt8) : Prop where
 o : old = [34]
 n : new = [92, 34]
def C51 (args : List AV) (h : Heap) : Option CSpec :=
 match args with
 | [.sc (.string s), .sc (.string o), .sc (.string n)] => some (nspec (Mid s.data.toList ∧ Quote o.data.toList n.data.toList) (quoF s.data.toList) aStr h)
 | _ => none
def T21 : Tab := (tab0.addC 51 C51).addC 52 C52
def C21 := C25
end
end Go.Proofs.Sp
namespace Go.Proofs.Sp
open Go Go.Ef Go.Proofs.Pt
noncomputable section
set_option maxRecDepth 100000
theorem v18 (M : Int) (s : List UInt8) (b : Cells) (n : Nat) (K : AV → Heap → Prop) (h :
 iteP
 ((List.map (fun (b : UInt8) => [AV.sc (Value.int IntKind.u8 (↑b.toNat : Int))]) s).all fun (e : List AV) =>
 e.all AV.one)
 (iteP (List.map (fun (b : UInt8) => [AV.sc (Value.int IntKind.u8 (↑b.toNat : Int))]) s).isEmpty
 (K (AV.tup [AV.sc (Value.int IntKind.i64 (↑s.length : Int)), AV.sc Value.nilIface])
 (Heap.mk (3 : Nat)
 ((Tr.leaf.node (some (AObj.cells [AV.ptr (1 : Nat) (0 : Nat), AV.sl b (3 : Nat)])) Tr.leaf).node none
 (Tr.leaf.node (some (AObj.own (1 : Nat) (5 : Nat) n)) Tr.leaf))
 (1 : Nat) ((Tr.leaf.node (some ((63 : Nat), (2 : Nat))) Tr.leaf).node none Tr.leaf)))
 (iteP
 (allLen (1 : Nat) b &&
 fits (List.length b + (List.map (fun (b : UInt8) => [AV.sc (Value.int IntKind.u8 (↑b.toNat : Int))]) s).length)
 (1 : Nat))
 (iteP (decide (List.length b = n))
 (K (AV.tup [AV.sc (Value.int IntKind.i64 (↑s.length : Int)), AV.sc Value.nilIface])
 (Heap.mk (3 : Nat)
 ((Tr.leaf.node
 (some
 (AObj.cells
 [AV.ptr (1 : Nat) (0 : Nat),
 AV.sl (b ++ List.map (fun (b : UInt8) => [AV.sc (Value.int IntKind.u8 (↑b.toNat : Int))]) s)
 (3 : Nat)]))
 Tr.leaf).node
 none
 (Tr.leaf.node
 (some
 (AObj.own (1 : Nat) (5 : Nat)
 (n + (List.map (fun (b : UInt8) => [AV.sc (Value.int IntKind.u8 (↑b.toNat : Int))]) s).length)))
 Tr.leaf))
 (1 : Nat) ((Tr.leaf.node (some ((63 : Nat), (2 : Nat))) Tr.leaf).node none Tr.leaf)))
 False)
 False))
 False) :
 (fun (M : Int) (s : List UInt8) (b : Cells) (n : Nat) (K : AV → Heap → Prop) => wpCall tab0 (cfg M) Tryz.prog 60 18 [.ptr 1 0, aStr s] (hbC b n) K) M s b n K :=
 Eq.mp (by kernel_rfl) h
theorem z18 (M : Int) (s : List UInt8) (K : AV → Heap → Prop) (h :
 iteP
 ((List.map (fun (b : UInt8) => [AV.sc (Value.int IntKind.u8 (↑b.toNat : Int))]) s).all fun (e : List AV) =>
 e.all AV.one)
 (iteP (List.map (fun (b : UInt8) => [AV.sc (Value.int IntKind.u8 (↑b.toNat : Int))]) s).isEmpty
 (K (AV.tup [AV.sc (Value.int IntKind.i64 (↑s.length : Int)), AV.sc Value.nilIface])
 (Heap.mk (2 : Nat)
 ((Tr.leaf.node (some (AObj.cells [AV.ptr (1 : Nat) (0 : Nat), AV.sc (Value.slice none (0 : Nat) (0 : Nat))]))
 Tr.leaf).node
 none Tr.leaf)
 (1 : Nat) ((Tr.leaf.node (some ((63 : Nat), (2 : Nat))) Tr.leaf).node none Tr.leaf)))
 (iteP (fits (List.map (fun (b : UInt8) => [AV.sc (Value.int IntKind.u8 (↑b.toNat : Int))]) s).length (1 : Nat))
 (K (AV.tup [AV.sc (Value.int IntKind.i64 (↑s.length : Int)), AV.sc Value.nilIface])
 (Heap.mk (3 : Nat)
 ((Tr.leaf.node
 (some
 (AObj.cells
 [AV.ptr (1 : Nat) (0 : Nat),
 AV.sl (List.map (fun (b : UInt8) => [AV.sc (Value.int IntKind.u8 (↑b.toNat : Int))]) s)
 (OfNat.ofNat (2 : Nat) + (1 : Nat))]))
 Tr.leaf).node
 none
 (Tr.leaf.node
 (some
 (AObj.own (1 : Nat) (5 : Nat)
 (List.map (fun (b : UInt8) => [AV.sc (Value.int IntKind.u8 (↑b.toNat : Int))]) s).length))
 Tr.leaf))
 (1 : Nat) ((Tr.leaf.node (some ((63 : Nat), (2 : Nat))) Tr.leaf).node none Tr.leaf)))
 False))
 False) :
 (fun (M : Int) (s : List UInt8) (K : AV → Heap → Prop) => wpCall tab0 (cfg M) Tryz.prog 60 18 [.ptr 1 0, aStr s] hb0 K) M s K :=
 Eq.mp (by kernel_rfl) h
theorem v81 (M : Int) (c : Int) (b : Cells) (n : Nat) (K : AV → Heap → Prop) (h :
 iteP (allLen (1 : Nat) b && fits (List.length b + [[AV.sc (Value.int IntKind.u8 c)]].length) (1 : Nat))
 (iteP (decide (List.length b = n))
 (K (AV.sc Value.nilIface)
 (Heap.mk (3 : Nat)
 ((Tr.leaf.node
 (some
 (AObj.cells [AV.ptr (1 : Nat) (0 : Nat), AV.sl (b ++ [[AV.sc (Value.int IntKind.u8 c)]]) (3 : Nat)]))
 Tr.leaf).node
 none
 (Tr.leaf.node (some (AObj.own (1 : Nat) (5 : Nat) (n + [[AV.sc (Value.int IntKind.u8 c)]].length))) Tr.leaf))
 (1 : Nat) ((Tr.leaf.node (some ((63 : Nat), (2 : Nat))) Tr.leaf).node none Tr.leaf)))
 False)
 False) :
 (fun (M : Int) (c : Int) (b : Cells) (n : Nat) (K : AV → Heap → Prop) => wpCall tab0 (cfg M) Tryz.prog 60 81 [.ptr 1 0, uA c] (hbC b n) K) M c b n K :=
 Eq.mp (by kernel_rfl) h
theorem z81 (M : Int) (c : Int) (K : AV → Heap → Prop) (h :
 K (AV.sc Value.nilIface)
 (Heap.mk (3 : Nat)
 ((Tr.leaf.node
 (some
 (AObj.cells
 [AV.ptr (1 : Nat) (0 : Nat),
 AV.sl [[AV.sc (Value.int IntKind.u8 c)]] (OfNat.ofNat (2 : Nat) + (1 : Nat))]))
 Tr.leaf).node
 none (Tr.leaf.node (some (AObj.own (1 : Nat) (5 : Nat) [[AV.sc (Value.int IntKind.u8 c)]].length)) Tr.leaf))
 (1 : Nat) ((Tr.leaf.node (some ((63 : Nat), (2 : Nat))) Tr.leaf).node none Tr.leaf))) :
 (fun (M : Int) (c : Int) (K : AV → Heap → Prop) => wpCall tab0 (cfg M) Tryz.prog 60 81 [.ptr 1 0, uA c] hb0 K) M c K :=
 Eq.mp (by kernel_rfl) h
theorem rz52 (M : Int) (s : List UInt8) (i : Int) (N : Cells → Nat → Int → Prop) (X : Prop) (h :
 iteP (decide (i < (↑s.length : Int)))
 (iteP (inRange i s.length)
 ([(10 : UInt8), (9 : UInt8), (13 : UInt8), (7 : UInt8), (8 : UInt8), (12 : UInt8), (11 : UInt8)] =
 [(10 : UInt8), (9 : UInt8), (13 : UInt8), (7 : UInt8), (8 : UInt8), (12 : UInt8), (11 : UInt8)] ∧
 ∀ (x : Int),
 x = placeN (byteAt s i) →
 iteP (decide ((0 : Int) ≤ x))
 (Heap.mk (2 : Nat)
 ((Tr.leaf.node
 (some (AObj.cells [AV.sc (Value.pointer none), AV.sc (Value.slice none (0 : Nat) (0 : Nat))]))
 Tr.leaf).node
 none Tr.leaf)
 (1 : Nat) ((Tr.leaf.node (some ((63 : Nat), (2 : Nat))) Tr.leaf).node none Tr.leaf) =
 Heap.mk (2 : Nat)
 ((Tr.leaf.node
 (some (AObj.cells [AV.sc (Value.pointer none), AV.sc (Value.slice none (0 : Nat) (0 : Nat))]))
 Tr.leaf).node
 none Tr.leaf)
 (1 : Nat) ((Tr.leaf.node (some ((63 : Nat), (2 : Nat))) Tr.leaf).node none Tr.leaf) ∧
 ∀ (x_1 : Cells × Nat),
 x_1 = ([[AV.sc (Value.int IntKind.u8 (92 : Int))]], (1 : Nat)) →
 iteP (inRange x (7 : Nat))
 ((Heap.mk (3 : Nat)
 ((Tr.leaf.node (some (AObj.cells [AV.ptr (1 : Nat) (0 : Nat), AV.sl x_1.fst (3 : Nat)]))
 Tr.leaf).node
 none (Tr.leaf.node (some (AObj.own (1 : Nat) (5 : Nat) x_1.snd)) Tr.leaf))
 (1 : Nat) ((Tr.leaf.node (some ((63 : Nat), (2 : Nat))) Tr.leaf).node none Tr.leaf) =
 Heap.mk (3 : Nat)
 ((Tr.leaf.node (some (AObj.cells [AV.ptr (1 : Nat) (0 : Nat), AV.sl x_1.fst (3 : Nat)]))
 Tr.leaf).node
 none (Tr.leaf.node (some (AObj.own (1 : Nat) (5 : Nat) x_1.snd)) Tr.leaf))
 (1 : Nat) ((Tr.leaf.node (some ((63 : Nat), (2 : Nat))) Tr.leaf).node none Tr.leaf) ∧
 Row x_1.fst x_1.snd) ∧
 ∀ (x_2 : Cells × Nat),
 x_2 =
 (x_1.fst ++
 [[AV.sc
 (Value.int IntKind.u8
 (byteAt
 [(110 : UInt8), (116 : UInt8), (114 : UInt8), (97 : UInt8), (98 : UInt8),
 (102 : UInt8), (118 : UInt8)]
 x))]],
 x_1.snd + (1 : Nat)) →
 I52 s (IntKind.i64.wrap (i + (1 : Int))) x_2.fst x_2.snd =
 I52 s (IntKind.i64.wrap (i + (1 : Int))) x_2.fst x_2.snd ∧
 N x_2.fst x_2.snd (IntKind.i64.wrap (i + (1 : Int))))
 False)
 (iteP (byteAt s i == (92 : Int))
 ((Heap.mk (2 : Nat)
 ((Tr.leaf.node
 (some
 (AObj.cells [AV.sc (Value.pointer none), AV.sc (Value.slice none (0 : Nat) (0 : Nat))]))
 Tr.leaf).node
 none Tr.leaf)
 (1 : Nat) ((Tr.leaf.node (some ((63 : Nat), (2 : Nat))) Tr.leaf).node none Tr.leaf) =
 Heap.mk (2 : Nat)
 ((Tr.leaf.node
 (some
 (AObj.cells [AV.sc (Value.pointer none), AV.sc (Value.slice none (0 : Nat) (0 : Nat))]))
 Tr.leaf).node
 none Tr.leaf)
 (1 : Nat) ((Tr.leaf.node (some ((63 : Nat), (2 : Nat))) Tr.leaf).node none Tr.leaf) ∧
 Text [(92 : UInt8), (92 : UInt8)]) ∧
 ∀ (x : Cells × Nat),
 x =
 ([[AV.sc (Value.int IntKind.u8 (92 : Int))], [AV.sc (Value.int IntKind.u8 (92 : Int))]],
 (2 : Nat)) →
 I52 s (IntKind.i64.wrap (i + (1 : Int))) x.fst x.snd =
 I52 s (IntKind.i64.wrap (i + (1 : Int))) x.fst x.snd ∧
 N x.fst x.snd (IntKind.i64.wrap (i + (1 : Int))))
 (iteP (decide ((32 : Int) ≤ byteAt s i))
 (iteP (decide (byteAt s i ≤ (126 : Int)))
 (Heap.mk (2 : Nat)
 ((Tr.leaf.node
 (some
 (AObj.cells [AV.sc (Value.pointer none), AV.sc (Value.slice none (0 : Nat) (0 : Nat))]))
 Tr.leaf).node
 none Tr.leaf)
 (1 : Nat) ((Tr.leaf.node (some ((63 : Nat), (2 : Nat))) Tr.leaf).node none Tr.leaf) =
 Heap.mk (2 : Nat)
 ((Tr.leaf.node
 (some
 (AObj.cells [AV.sc (Value.pointer none), AV.sc (Value.slice none (0 : Nat) (0 : Nat))]))
 Tr.leaf).node
 none Tr.leaf)
 (1 : Nat) ((Tr.leaf.node (some ((63 : Nat), (2 : Nat))) Tr.leaf).node none Tr.leaf) ∧
 ∀ (x : Cells × Nat),
 x = ([[AV.sc (Value.int IntKind.u8 (byteAt s i))]], (1 : Nat)) →
 I52 s (IntKind.i64.wrap (i + (1 : Int))) x.fst x.snd =
 I52 s (IntKind.i64.wrap (i + (1 : Int))) x.fst x.snd ∧
 N x.fst x.snd (IntKind.i64.wrap (i + (1 : Int))))
 (Heap.mk (2 : Nat)
 ((Tr.leaf.node
 (some
 (AObj.cells [AV.sc (Value.pointer none), AV.sc (Value.slice none (0 : Nat) (0 : Nat))]))
 Tr.leaf).node
 none Tr.leaf)
 (1 : Nat) ((Tr.leaf.node (some ((63 : Nat), (2 : Nat))) Tr.leaf).node none Tr.leaf) =
 Heap.mk (2 : Nat)
 ((Tr.leaf.node
 (some
 (AObj.cells [AV.sc (Value.pointer none), AV.sc (Value.slice none (0 : Nat) (0 : Nat))]))
 Tr.leaf).node
 none Tr.leaf)
 (1 : Nat) ((Tr.leaf.node (some ((63 : Nat), (2 : Nat))) Tr.leaf).node none Tr.leaf) ∧
 ∀ (x : Cells × Nat),
 x = ([[AV.sc (Value.int IntKind.u8 (92 : Int))]], (1 : Nat)) →
 (Heap.mk (3 : Nat)
 ((Tr.leaf.node (some (AObj.cells [AV.ptr (1 : Nat) (0 : Nat), AV.sl x.fst (3 : Nat)]))
 Tr.leaf).node
 none (Tr.leaf.node (some (AObj.own (1 : Nat) (5 : Nat) x.snd)) Tr.leaf))
 (1 : Nat) ((Tr.leaf.node (some ((63 : Nat), (2 : Nat))) Tr.leaf).node none Tr.leaf) =
 Heap.mk (3 : Nat)
 ((Tr.leaf.node (some (AObj.cells [AV.ptr (1 : Nat) (0 : Nat), AV.sl x.fst (3 : Nat)]))
 Tr.leaf).node
 none (Tr.leaf.node (some (AObj.own (1 : Nat) (5 : Nat) x.snd)) Tr.leaf))
 (1 : Nat) ((Tr.leaf.node (some ((63 : Nat), (2 : Nat))) Tr.leaf).node none Tr.leaf) ∧
 Row x.fst x.snd ∧
 Text
 (List.map byteD
 [[AV.sc
 (Value.int IntKind.u8
 (IntKind.u8.wrap
 ((48 : Int) + IntKind.u8.wrap ((byteAt s i).tdiv (64 : Int)))))],
 [AV.sc
 (Value.int IntKind.u8
 (IntKind.u8.wrap
 ((48 : Int) +
 (IntKind.u8.wrap ((byteAt s i).tdiv (8 : Int))).tmod (8 : Int))))],
 [AV.sc
 (Value.int IntKind.u8
 (IntKind.u8.wrap ((48 : Int) + (byteAt s i).tmod (8 : Int))))]])) ∧
 ∀ (x_1 : Cells × Nat),
 x_1 =
 (x.fst ++
 [[AV.sc
 (Value.int IntKind.u8
 (↑(byteD
 [AV.sc
 (Value.int IntKind.u8
 (IntKind.u8.wrap
 ((48 : Int) +
 IntKind.u8.wrap
 ((byteAt s i).tdiv (64 : Int)))))]).toNat :
 Int))],
 [AV.sc
 (Value.int IntKind.u8
 (↑(byteD
 [AV.sc
 (Value.int IntKind.u8
 (IntKind.u8.wrap
 ((48 : Int) +
 (IntKind.u8.wrap ((byteAt s i).tdiv (8 : Int))).tmod
 (8 : Int))))]).toNat :
 Int))],
 [AV.sc
 (Value.int IntKind.u8
 (↑(byteD
 [AV.sc
 (Value.int IntKind.u8
 (IntKind.u8.wrap
 ((48 : Int) + (byteAt s i).tmod (8 : Int))))]).toNat :
 Int))]],
 x.snd +
 (List.map byteD
 [[AV.sc
 (Value.int IntKind.u8
 (IntKind.u8.wrap
 ((48 : Int) + IntKind.u8.wrap ((byteAt s i).tdiv (64 : Int)))))],
 [AV.sc
 (Value.int IntKind.u8
 (IntKind.u8.wrap
 ((48 : Int) +
 (IntKind.u8.wrap ((byteAt s i).tdiv (8 : Int))).tmod (8 : Int))))],
 [AV.sc
 (Value.int IntKind.u8
 (IntKind.u8.wrap
 ((48 : Int) + (byteAt s i).tmod (8 : Int))))]]).length) →
 I52 s (IntKind.i64.wrap (i + (1 : Int))) x_1.fst x_1.snd =
 I52 s (IntKind.i64.wrap (i + (1 : Int))) x_1.fst x_1.snd ∧
 N x_1.fst x_1.snd (IntKind.i64.wrap (i + (1 : Int)))))
 (Heap.mk (2 : Nat)
 ((Tr.leaf.node
 (some
 (AObj.cells [AV.sc (Value.pointer none), AV.sc (Value.slice none (0 : Nat) (0 : Nat))]))
 Tr.leaf).node
 none Tr.leaf)
 (1 : Nat) ((Tr.leaf.node (some ((63 : Nat), (2 : Nat))) Tr.leaf).node none Tr.leaf) =
 Heap.mk (2 : Nat)
 ((Tr.leaf.node
 (some
 (AObj.cells [AV.sc (Value.pointer none), AV.sc (Value.slice none (0 : Nat) (0 : Nat))]))
 Tr.leaf).node
 none Tr.leaf)
 (1 : Nat) ((Tr.leaf.node (some ((63 : Nat), (2 : Nat))) Tr.leaf).node none Tr.leaf) ∧
 ∀ (x : Cells × Nat),
 x = ([[AV.sc (Value.int IntKind.u8 (92 : Int))]], (1 : Nat)) →
 (Heap.mk (3 : Nat)
 ((Tr.leaf.node (some (AObj.cells [AV.ptr (1 : Nat) (0 : Nat), AV.sl x.fst (3 : Nat)]))
 Tr.leaf).node
 none (Tr.leaf.node (some (AObj.own (1 : Nat) (5 : Nat) x.snd)) Tr.leaf))
 (1 : Nat) ((Tr.leaf.node (some ((63 : Nat), (2 : Nat))) Tr.leaf).node none Tr.leaf) =
 Heap.mk (3 : Nat)
 ((Tr.leaf.node (some (AObj.cells [AV.ptr (1 : Nat) (0 : Nat), AV.sl x.fst (3 : Nat)]))
 Tr.leaf).node
 none (Tr.leaf.node (some (AObj.own (1 : Nat) (5 : Nat) x.snd)) Tr.leaf))
 (1 : Nat) ((Tr.leaf.node (some ((63 : Nat), (2 : Nat))) Tr.leaf).node none Tr.leaf) ∧
 Row x.fst x.snd ∧
 Text
 (List.map byteD
 [[AV.sc
 (Value.int IntKind.u8
 (IntKind.u8.wrap
 ((48 : Int) + IntKind.u8.wrap ((byteAt s i).tdiv (64 : Int)))))],
 [AV.sc
 (Value.int IntKind.u8
 (IntKind.u8.wrap
 ((48 : Int) +
 (IntKind.u8.wrap ((byteAt s i).tdiv (8 : Int))).tmod (8 : Int))))],
 [AV.sc
 (Value.int IntKind.u8
 (IntKind.u8.wrap ((48 : Int) + (byteAt s i).tmod (8 : Int))))]])) ∧
 ∀ (x_1 : Cells × Nat),
 x_1 =
 (x.fst ++
 [[AV.sc
 (Value.int IntKind.u8
 (↑(byteD
 [AV.sc
 (Value.int IntKind.u8
 (IntKind.u8.wrap
 ((48 : Int) +
 IntKind.u8.wrap ((byteAt s i).tdiv (64 : Int)))))]).toNat :
 Int))],
 [AV.sc
 (Value.int IntKind.u8
 (↑(byteD
 [AV.sc
 (Value.int IntKind.u8
 (IntKind.u8.wrap
 ((48 : Int) +
 (IntKind.u8.wrap ((byteAt s i).tdiv (8 : Int))).tmod
 (8 : Int))))]).toNat :
 Int))],
 [AV.sc
 (Value.int IntKind.u8
 (↑(byteD
 [AV.sc
 (Value.int IntKind.u8
 (IntKind.u8.wrap
 ((48 : Int) + (byteAt s i).tmod (8 : Int))))]).toNat :
 Int))]],
 x.snd +
 (List.map byteD
 [[AV.sc
 (Value.int IntKind.u8
 (IntKind.u8.wrap
 ((48 : Int) + IntKind.u8.wrap ((byteAt s i).tdiv (64 : Int)))))],
 [AV.sc
 (Value.int IntKind.u8
 (IntKind.u8.wrap
 ((48 : Int) +
 (IntKind.u8.wrap ((byteAt s i).tdiv (8 : Int))).tmod (8 : Int))))],
 [AV.sc
 (Value.int IntKind.u8
 (IntKind.u8.wrap ((48 : Int) + (byteAt s i).tmod (8 : Int))))]]).length) →
 I52 s (IntKind.i64.wrap (i + (1 : Int))) x_1.fst x_1.snd =
 I52 s (IntKind.i64.wrap (i + (1 : Int))) x_1.fst x_1.snd ∧
 N x_1.fst x_1.snd (IntKind.i64.wrap (i + (1 : Int)))))))
 False)
 (Ex.exit (0 : Nat) = Ex.exit (0 : Nat) ∧ Y52 = Y52 ∧ X)) :
 (fun (M : Int) (s : List UInt8) (i : Int) (N : Cells → Nat → Int → Prop) (X : Prop) => wpRound T52 (cfg M) Tryz.prog 60 52 4 (Z52 s i) (fun τ => τ = I52 s (slI τ 9) (hBytes τ.h) (hN τ.h) ∧ N (hBytes τ.h) (hN τ.h) (slI τ 9)) (qz52 X)) M s i N X :=
 Eq.mp (by kernel_rfl) h
theorem r52 (M : Int) (s : List UInt8) (i : Int) (b : Cells) (n : Nat) (N : Cells → Nat → Int → Prop) (X : Prop) (h :
 iteP (decide (i < (↑s.length : Int)))
 (iteP (inRange i s.length)
 ([(10 : UInt8), (9 : UInt8), (13 : UInt8), (7 : UInt8), (8 : UInt8), (12 : UInt8), (11 : UInt8)] =
 [(10 : UInt8), (9 : UInt8), (13 : UInt8), (7 : UInt8), (8 : UInt8), (12 : UInt8), (11 : UInt8)] ∧
 ∀ (x : Int),
 x = placeN (byteAt s i) →
 iteP (decide ((0 : Int) ≤ x))
 ((Heap.mk (3 : Nat)
 ((Tr.leaf.node (some (AObj.cells [AV.ptr (1 : Nat) (0 : Nat), AV.sl b (3 : Nat)])) Tr.leaf).node
 none (Tr.leaf.node (some (AObj.own (1 : Nat) (5 : Nat) n)) Tr.leaf))
 (1 : Nat) ((Tr.leaf.node (some ((63 : Nat), (2 : Nat))) Tr.leaf).node none Tr.leaf) =
 Heap.mk (3 : Nat)
 ((Tr.leaf.node (some (AObj.cells [AV.ptr (1 : Nat) (0 : Nat), AV.sl b (3 : Nat)])) Tr.leaf).node
 none (Tr.leaf.node (some (AObj.own (1 : Nat) (5 : Nat) n)) Tr.leaf))
 (1 : Nat) ((Tr.leaf.node (some ((63 : Nat), (2 : Nat))) Tr.leaf).node none Tr.leaf) ∧
 Row b n) ∧
 ∀ (x_1 : Cells × Nat),
 x_1 = (b ++ [[AV.sc (Value.int IntKind.u8 (92 : Int))]], n + (1 : Nat)) →
 iteP (inRange x (7 : Nat))
 ((Heap.mk (3 : Nat)
 ((Tr.leaf.node (some (AObj.cells [AV.ptr (1 : Nat) (0 : Nat), AV.sl x_1.fst (3 : Nat)]))
 Tr.leaf).node
 none (Tr.leaf.node (some (AObj.own (1 : Nat) (5 : Nat) x_1.snd)) Tr.leaf))
 (1 : Nat) ((Tr.leaf.node (some ((63 : Nat), (2 : Nat))) Tr.leaf).node none Tr.leaf) =
 Heap.mk (3 : Nat)
 ((Tr.leaf.node (some (AObj.cells [AV.ptr (1 : Nat) (0 : Nat), AV.sl x_1.fst (3 : Nat)]))
 Tr.leaf).node
 none (Tr.leaf.node (some (AObj.own (1 : Nat) (5 : Nat) x_1.snd)) Tr.leaf))
 (1 : Nat) ((Tr.leaf.node (some ((63 : Nat), (2 : Nat))) Tr.leaf).node none Tr.leaf) ∧
 Row x_1.fst x_1.snd) ∧
 ∀ (x_2 : Cells × Nat),
 x_2 =
 (x_1.fst ++
 [[AV.sc
 (Value.int IntKind.u8
 (byteAt
 [(110 : UInt8), (116 : UInt8), (114 : UInt8), (97 : UInt8), (98 : UInt8),
 (102 : UInt8), (118 : UInt8)]
 x))]],
 x_1.snd + (1 : Nat)) →
 I52 s (IntKind.i64.wrap (i + (1 : Int))) x_2.fst x_2.snd =
 I52 s (IntKind.i64.wrap (i + (1 : Int))) x_2.fst x_2.snd ∧
 N x_2.fst x_2.snd (IntKind.i64.wrap (i + (1 : Int))))
 False)
 (iteP (byteAt s i == (92 : Int))
 ((Heap.mk (3 : Nat)
 ((Tr.leaf.node (some (AObj.cells [AV.ptr (1 : Nat) (0 : Nat), AV.sl b (3 : Nat)])) Tr.leaf).node
 none (Tr.leaf.node (some (AObj.own (1 : Nat) (5 : Nat) n)) Tr.leaf))
 (1 : Nat) ((Tr.leaf.node (some ((63 : Nat), (2 : Nat))) Tr.leaf).node none Tr.leaf) =
 Heap.mk (3 : Nat)
 ((Tr.leaf.node (some (AObj.cells [AV.ptr (1 : Nat) (0 : Nat), AV.sl b (3 : Nat)])) Tr.leaf).node
 none (Tr.leaf.node (some (AObj.own (1 : Nat) (5 : Nat) n)) Tr.leaf))
 (1 : Nat) ((Tr.leaf.node (some ((63 : Nat), (2 : Nat))) Tr.leaf).node none Tr.leaf) ∧
 Row b n ∧ Text [(92 : UInt8), (92 : UInt8)]) ∧
 ∀ (x : Cells × Nat),
 x =
 (b ++ [[AV.sc (Value.int IntKind.u8 (92 : Int))], [AV.sc (Value.int IntKind.u8 (92 : Int))]],
 n + (2 : Nat)) →
 I52 s (IntKind.i64.wrap (i + (1 : Int))) x.fst x.snd =
 I52 s (IntKind.i64.wrap (i + (1 : Int))) x.fst x.snd ∧
 N x.fst x.snd (IntKind.i64.wrap (i + (1 : Int))))
 (iteP (decide ((32 : Int) ≤ byteAt s i))
 (iteP (decide (byteAt s i ≤ (126 : Int)))
 ((Heap.mk (3 : Nat)
 ((Tr.leaf.node (some (AObj.cells [AV.ptr (1 : Nat) (0 : Nat), AV.sl b (3 : Nat)]))
 Tr.leaf).node
 none (Tr.leaf.node (some (AObj.own (1 : Nat) (5 : Nat) n)) Tr.leaf))
 (1 : Nat) ((Tr.leaf.node (some ((63 : Nat), (2 : Nat))) Tr.leaf).node none Tr.leaf) =
 Heap.mk (3 : Nat)
 ((Tr.leaf.node (some (AObj.cells [AV.ptr (1 : Nat) (0 : Nat), AV.sl b (3 : Nat)]))
 Tr.leaf).node
 none (Tr.leaf.node (some (AObj.own (1 : Nat) (5 : Nat) n)) Tr.leaf))
 (1 : Nat) ((Tr.leaf.node (some ((63 : Nat), (2 : Nat))) Tr.leaf).node none Tr.leaf) ∧
 Row b n) ∧
 ∀ (x : Cells × Nat),
 x = (b ++ [[AV.sc (Value.int IntKind.u8 (byteAt s i))]], n + (1 : Nat)) →
 I52 s (IntKind.i64.wrap (i + (1 : Int))) x.fst x.snd =
 I52 s (IntKind.i64.wrap (i + (1 : Int))) x.fst x.snd ∧
 N x.fst x.snd (IntKind.i64.wrap (i + (1 : Int))))
 ((Heap.mk (3 : Nat)
 ((Tr.leaf.node (some (AObj.cells [AV.ptr (1 : Nat) (0 : Nat), AV.sl b (3 : Nat)]))
 Tr.leaf).node
 none (Tr.leaf.node (some (AObj.own (1 : Nat) (5 : Nat) n)) Tr.leaf))
 (1 : Nat) ((Tr.leaf.node (some ((63 : Nat), (2 : Nat))) Tr.leaf).node none Tr.leaf) =
 Heap.mk (3 : Nat)
 ((Tr.leaf.node (some (AObj.cells [AV.ptr (1 : Nat) (0 : Nat), AV.sl b (3 : Nat)]))
 Tr.leaf).node
 none (Tr.leaf.node (some (AObj.own (1 : Nat) (5 : Nat) n)) Tr.leaf))
 (1 : Nat) ((Tr.leaf.node (some ((63 : Nat), (2 : Nat))) Tr.leaf).node none Tr.leaf) ∧
 Row b n) ∧
 ∀ (x : Cells × Nat),
 x = (b ++ [[AV.sc (Value.int IntKind.u8 (92 : Int))]], n + (1 : Nat)) →
 (Heap.mk (3 : Nat)
 ((Tr.leaf.node (some (AObj.cells [AV.ptr (1 : Nat) (0 : Nat), AV.sl x.fst (3 : Nat)]))
 Tr.leaf).node
 none (Tr.leaf.node (some (AObj.own (1 : Nat) (5 : Nat) x.snd)) Tr.leaf))
 (1 : Nat) ((Tr.leaf.node (some ((63 : Nat), (2 : Nat))) Tr.leaf).node none Tr.leaf) =
 Heap.mk (3 : Nat)
 ((Tr.leaf.node (some (AObj.cells [AV.ptr (1 : Nat) (0 : Nat), AV.sl x.fst (3 : Nat)]))
 Tr.leaf).node
 none (Tr.leaf.node (some (AObj.own (1 : Nat) (5 : Nat) x.snd)) Tr.leaf))
 (1 : Nat) ((Tr.leaf.node (some ((63 : Nat), (2 : Nat))) Tr.leaf).node none Tr.leaf) ∧
 Row x.fst x.snd ∧
 Text
 (List.map byteD
 [[AV.sc
 (Value.int IntKind.u8
 (IntKind.u8.wrap
 ((48 : Int) + IntKind.u8.wrap ((byteAt s i).tdiv (64 : Int)))))],
 [AV.sc
 (Value.int IntKind.u8
 (IntKind.u8.wrap
 ((48 : Int) +
 (IntKind.u8.wrap ((byteAt s i).tdiv (8 : Int))).tmod (8 : Int))))],
 [AV.sc
 (Value.int IntKind.u8
 (IntKind.u8.wrap ((48 : Int) + (byteAt s i).tmod (8 : Int))))]])) ∧
 ∀ (x_1 : Cells × Nat),
 x_1 =
 (x.fst ++
 [[AV.sc
 (Value.int IntKind.u8
 (↑(byteD
 [AV.sc
 (Value.int IntKind.u8
 (IntKind.u8.wrap
 ((48 : Int) +
 IntKind.u8.wrap
 ((byteAt s i).tdiv (64 : Int)))))]).toNat :
 Int))],
 [AV.sc
 (Value.int IntKind.u8
 (↑(byteD
 [AV.sc
 (Value.int IntKind.u8
 (IntKind.u8.wrap
 ((48 : Int) +
 (IntKind.u8.wrap ((byteAt s i).tdiv (8 : Int))).tmod
 (8 : Int))))]).toNat :
 Int))],
 [AV.sc
 (Value.int IntKind.u8
 (↑(byteD
 [AV.sc
 (Value.int IntKind.u8
 (IntKind.u8.wrap
 ((48 : Int) + (byteAt s i).tmod (8 : Int))))]).toNat :
 Int))]],
 x.snd +
 (List.map byteD
 [[AV.sc
 (Value.int IntKind.u8
 (IntKind.u8.wrap
 ((48 : Int) + IntKind.u8.wrap ((byteAt s i).tdiv (64 : Int)))))],
 [AV.sc
 (Value.int IntKind.u8
 (IntKind.u8.wrap
 ((48 : Int) +
 (IntKind.u8.wrap ((byteAt s i).tdiv (8 : Int))).tmod (8 : Int))))],
 [AV.sc
 (Value.int IntKind.u8
 (IntKind.u8.wrap
 ((48 : Int) + (byteAt s i).tmod (8 : Int))))]]).length) →
 I52 s (IntKind.i64.wrap (i + (1 : Int))) x_1.fst x_1.snd =
 I52 s (IntKind.i64.wrap (i + (1 : Int))) x_1.fst x_1.snd ∧
 N x_1.fst x_1.snd (IntKind.i64.wrap (i + (1 : Int)))))
 ((Heap.mk (3 : Nat)
 ((Tr.leaf.node (some (AObj.cells [AV.ptr (1 : Nat) (0 : Nat), AV.sl b (3 : Nat)])) Tr.leaf).node
 none (Tr.leaf.node (some (AObj.own (1 : Nat) (5 : Nat) n)) Tr.leaf))
 (1 : Nat) ((Tr.leaf.node (some ((63 : Nat), (2 : Nat))) Tr.leaf).node none Tr.leaf) =
 Heap.mk (3 : Nat)
 ((Tr.leaf.node (some (AObj.cells [AV.ptr (1 : Nat) (0 : Nat), AV.sl b (3 : Nat)])) Tr.leaf).node
 none (Tr.leaf.node (some (AObj.own (1 : Nat) (5 : Nat) n)) Tr.leaf))
 (1 : Nat) ((Tr.leaf.node (some ((63 : Nat), (2 : Nat))) Tr.leaf).node none Tr.leaf) ∧
 Row b n) ∧
 ∀ (x : Cells × Nat),
 x = (b ++ [[AV.sc (Value.int IntKind.u8 (92 : Int))]], n + (1 : Nat)) →
 (Heap.mk (3 : Nat)
 ((Tr.leaf.node (some (AObj.cells [AV.ptr (1 : Nat) (0 : Nat), AV.sl x.fst (3 : Nat)]))
 Tr.leaf).node
 none (Tr.leaf.node (some (AObj.own (1 : Nat) (5 : Nat) x.snd)) Tr.leaf))
 (1 : Nat) ((Tr.leaf.node (some ((63 : Nat), (2 : Nat))) Tr.leaf).node none Tr.leaf) =
 Heap.mk (3 : Nat)
 ((Tr.leaf.node (some (AObj.cells [AV.ptr (1 : Nat) (0 : Nat), AV.sl x.fst (3 : Nat)]))
 Tr.leaf).node
 none (Tr.leaf.node (some (AObj.own (1 : Nat) (5 : Nat) x.snd)) Tr.leaf))
 (1 : Nat) ((Tr.leaf.node (some ((63 : Nat), (2 : Nat))) Tr.leaf).node none Tr.leaf) ∧
 Row x.fst x.snd ∧
 Text
 (List.map byteD
 [[AV.sc
 (Value.int IntKind.u8
 (IntKind.u8.wrap
 ((48 : Int) + IntKind.u8.wrap ((byteAt s i).tdiv (64 : Int)))))],
 [AV.sc
 (Value.int IntKind.u8
 (IntKind.u8.wrap
 ((48 : Int) +
 (IntKind.u8.wrap ((byteAt s i).tdiv (8 : Int))).tmod (8 : Int))))],
 [AV.sc
 (Value.int IntKind.u8
 (IntKind.u8.wrap ((48 : Int) + (byteAt s i).tmod (8 : Int))))]])) ∧
 ∀ (x_1 : Cells × Nat),
 x_1 =
 (x.fst ++
 [[AV.sc
 (Value.int IntKind.u8
 (↑(byteD
 [AV.sc
 (Value.int IntKind.u8
 (IntKind.u8.wrap
 ((48 : Int) +
 IntKind.u8.wrap ((byteAt s i).tdiv (64 : Int)))))]).toNat :
 Int))],
 [AV.sc
 (Value.int IntKind.u8
 (↑(byteD
 [AV.sc
 (Value.int IntKind.u8
 (IntKind.u8.wrap
 ((48 : Int) +
 (IntKind.u8.wrap ((byteAt s i).tdiv (8 : Int))).tmod
 (8 : Int))))]).toNat :
 Int))],
 [AV.sc
 (Value.int IntKind.u8
 (↑(byteD
 [AV.sc
 (Value.int IntKind.u8
 (IntKind.u8.wrap
 ((48 : Int) + (byteAt s i).tmod (8 : Int))))]).toNat :
 Int))]],
 x.snd +
 (List.map byteD
 [[AV.sc
 (Value.int IntKind.u8
 (IntKind.u8.wrap
 ((48 : Int) + IntKind.u8.wrap ((byteAt s i).tdiv (64 : Int)))))],
 [AV.sc
 (Value.int IntKind.u8
 (IntKind.u8.wrap
 ((48 : Int) +
 (IntKind.u8.wrap ((byteAt s i).tdiv (8 : Int))).tmod (8 : Int))))],
 [AV.sc
 (Value.int IntKind.u8
 (IntKind.u8.wrap ((48 : Int) + (byteAt s i).tmod (8 : Int))))]]).length) →
 I52 s (IntKind.i64.wrap (i + (1 : Int))) x_1.fst x_1.snd =
 I52 s (IntKind.i64.wrap (i + (1 : Int))) x_1.fst x_1.snd ∧
 N x_1.fst x_1.snd (IntKind.i64.wrap (i + (1 : Int)))))))
 False)
 (Ex.exit (0 : Nat) = Ex.exit (0 : Nat) ∧ X52 b n = X52 b n ∧ X)) :
 (fun (M : Int) (s : List UInt8) (i : Int) (b : Cells) (n : Nat) (N : Cells → Nat → Int → Prop) (X : Prop) => wpRound T52 (cfg M) Tryz.prog 60 52 4 (I52 s i b n) (fun τ => τ = I52 s (slI τ 9) (hBytes τ.h) (hN τ.h) ∧ N (hBytes τ.h) (hN τ.h) (slI τ 9)) (q52 b n X)) M s i b n N X :=
 Eq.mp (by kernel_rfl) h
theorem v52 (M : Int) (s : List UInt8) (K : AV → Prop) (h :
 loopAt Tryz.prog (52 : Nat) (4 : Nat) = loopAt Tryz.prog (52 : Nat) (4 : Nat) ∧
 (Z52 s (0 : Int) = Z52 s (0 : Int) ∧ Small s) ∧
 (∀ (_ : Unit),
 IsNo s →
 Heap.mk (2 : Nat)
 ((Tr.leaf.node
 (some (AObj.cells [AV.sc (Value.pointer none), AV.sc (Value.slice none (0 : Nat) (0 : Nat))]))
 Tr.leaf).node
 none Tr.leaf)
 (1 : Nat) ((Tr.leaf.node (some ((63 : Nat), (2 : Nat))) Tr.leaf).node none Tr.leaf) =
 Heap.mk (2 : Nat)
 ((Tr.leaf.node
 (some (AObj.cells [AV.sc (Value.pointer none), AV.sc (Value.slice none (0 : Nat) (0 : Nat))]))
 Tr.leaf).node
 none Tr.leaf)
 (1 : Nat) ((Tr.leaf.node (some ((63 : Nat), (2 : Nat))) Tr.leaf).node none Tr.leaf) ∧
 ∀ (_ : Unit), True → K (AV.sc (Value.string (ByteArray.mk (Array.mk []))))) ∧
 ∀ (x : Cells × Nat),
 RowOf (escF s) x ∧ NotNo s →
 (Heap.mk (3 : Nat)
 ((Tr.leaf.node (some (AObj.cells [AV.ptr (1 : Nat) (0 : Nat), AV.sl x.fst (3 : Nat)])) Tr.leaf).node
 none (Tr.leaf.node (some (AObj.own (1 : Nat) (5 : Nat) x.snd)) Tr.leaf))
 (1 : Nat) ((Tr.leaf.node (some ((63 : Nat), (2 : Nat))) Tr.leaf).node none Tr.leaf) =
 Heap.mk (3 : Nat)
 ((Tr.leaf.node (some (AObj.cells [AV.ptr (1 : Nat) (0 : Nat), AV.sl x.fst (3 : Nat)])) Tr.leaf).node
 none (Tr.leaf.node (some (AObj.own (1 : Nat) (5 : Nat) x.snd)) Tr.leaf))
 (1 : Nat) ((Tr.leaf.node (some ((63 : Nat), (2 : Nat))) Tr.leaf).node none Tr.leaf) ∧
 HasRow x.fst x.snd) ∧
 ∀ (x_1 : List UInt8), IsRow x.fst x_1 → K (AV.sc (Value.string (ByteArray.mk (Array.mk x_1))))) :
 (fun (M : Int) (s : List UInt8) (K : AV → Prop) => wpCall T52b (cfg M) Tryz.prog 60 52 [aStr s] heapF fun r h' => wpBack h' r K) M s K :=
 Eq.mp (by kernel_rfl) h
theorem v21 (M : Int) (s : List UInt8) (K : AV → Prop) (h :
 Small s ∧
 ∀ (x : List UInt8),
 x = escF s →
 (Mid x ∧ Quote [(34 : UInt8)] [(92 : UInt8), (34 : UInt8)]) ∧
 ∀ (x_1 : List UInt8),
 x_1 = quoF x →
 iteP (strFits [(34 : UInt8)] x_1)
 (iteP (strFits ([(34 : UInt8)] ++ x_1) [(34 : UInt8)])
 (K (AV.sc (Value.string (ByteArray.mk (Array.mk ([(34 : UInt8)] ++ x_1 ++ [(34 : UInt8)])))))) False)
 False) :
 (fun (M : Int) (s : List UInt8) (K : AV → Prop) => wpCall T21 (cfg M) Tryz.prog 60 21 [aStr s] heapF fun r h' => wpBack h' r K) M s K :=
 Eq.mp (by kernel_rfl) h
end
end Go.Proofs.Sp
namespace Go.Proofs.Sp
open Go Go.Ef Go.Proofs.Pt
noncomputable section
set_option maxRecDepth 100000
variable {M : Int}
theorem rowB_one (s : List UInt8) : (rowB s).all (fun e => e.all AV.one) = true := by
 rw [List.all_eq_true]
 intro e he
 unfold rowB at he
 obtain ⟨c, _, rfl⟩ := List.mem_map.1 he
 rfl
theorem fits2 {n : Nat} (h : n ≤ 100000000000000) : fits n 1 = true := by
 unfold fits
 have e : maxRoom = 140737488355328 := rfl
 simp only [e, Bool.and_eq_true]
 refine ⟨?_, ?_⟩ <;> exact Nat.ble_eq_true_of_le (by omega)
theorem call_ok' {T : Tab} (O : Ok M T) {g : FuncId} {args : List AV} {h : Heap} {r : AV} {h1 : Heap} (hp : (cfg M).prim g = none) (hf : (cfg M).fresh g = false) (hi : (cfg M).imp g = false)
  (H : wpCall T (cfg M) Tryz.prog 60 g args h fun v h' => v = r ∧ h' = h1) : ∃ m, callP (cfg M) (evCall (cfg M) Tryz.prog m) g args h = some (r, h1) := by
 obtain ⟨m, v, h', e, rfl, rfl⟩ := call_okW O 60 g args h _ H
 refine ⟨m, ?_⟩
 unfold callP
 rw [hp]
 simp only []
 rw [hf, hi]
 exact e
theorem ok18 {T : Tab} (O : Ok M T) : Ok M (T.addC 18 C18) := by
 refine addC_ok O fun args h s hs hp => ?_
 unfold C18 at hs
 split at hs
 ·rename_i s
  split at hs
  ·cases hs
   obtain ⟨rfl, ht⟩ := hp
   have hne : (rowB s.data.toList).isEmpty = false := by
    have := ht.ne
    cases hq : s.data.toList with
    | nil => exact absurd hq this
    | cons a r => rfl
   obtain ⟨m, e⟩ := call_ok' (g := 18) (args := [.ptr 1 0, .sc (.string s)]) (h := hb0) (r := .tup [iA s.data.toList.length, .sc .nilIface]) (h1 := hbC (rowB s.data.toList) s.data.toList.length) (M := M) ok0 rfl (by kernel_rfl) rfl
    (z18 M s.data.toList _ (it (rowB_one _) (ie hne (it (fits2 (by have := ht.le; have := rowB_len s.data.toList; unfold rowB at this; omega)) ⟨rfl, by have := rowB_len s.data.toList; unfold rowB at this; rw [this]; rfl⟩))))
   exact ⟨_, List.mem_singleton.2 rfl, _, m, rfl, e⟩
  ·cases hs
   obtain ⟨he, hr, ht⟩ := hp
   have hne : (rowB s.data.toList).isEmpty = false := by
    have := ht.ne
    cases hq : s.data.toList with
    | nil => exact absurd hq this
    | cons a r => rfl
   have hlen := rowB_len s.data.toList
   unfold rowB at hlen
   have := ht.le
   have := hr.le
   have := hr.len
   obtain ⟨m, e⟩ := call_ok' (g := 18) (args := [.ptr 1 0, .sc (.string s)]) (h := h) (r := .tup [iA s.data.toList.length, .sc .nilIface]) (h1 := hbC (hBytes h ++ rowB s.data.toList) (hN h + s.data.toList.length)) (M := M) ok0 rfl (by kernel_rfl) rfl (by
     rw [he]
     refine v18 M s.data.toList _ _ _ (it (rowB_one _) (ie hne (it ?_ (it (dt hr.len) ⟨rfl, ?_⟩))))
     ·rw [hr.all, Bool.true_and]; exact fits2 (by omega)
     ·rw [hlen]; rfl)
   exact ⟨_, List.mem_singleton.2 rfl, _, m, rfl, e⟩
  ·cases hs
 ·cases hs
theorem ok81 {T : Tab} (O : Ok M T) : Ok M (T.addC 81 C81) := by
 refine addC_ok O fun args h s hs hp => ?_
 unfold C81 at hs
 split at hs
 ·rename_i c
  split at hs
  ·cases hs
   obtain rfl := hp
   obtain ⟨m, e⟩ := call_ok' (g := 81) (args := [.ptr 1 0, .sc (.int .u8 c)]) (h := hb0) (r := .sc .nilIface) (h1 := hbC [[uA c]] 1) (M := M) ok0 rfl (by kernel_rfl) rfl (z81 M c _ ⟨rfl, rfl⟩)
   exact ⟨_, List.mem_singleton.2 rfl, _, m, rfl, e⟩
  ·cases hs
   obtain ⟨he, hr⟩ := hp
   have := hr.le
   have := hr.len
   obtain ⟨m, e⟩ := call_ok' (g := 81) (args := [.ptr 1 0, .sc (.int .u8 c)]) (h := h) (r := .sc .nilIface) (h1 := hbC (hBytes h ++ [[uA c]]) (hN h + 1)) (M := M) ok0 rfl (by kernel_rfl) rfl (by
     rw [he]
     refine v81 M c _ _ _ (it ?_ (it (dt hr.len) ⟨rfl, rfl⟩))
     rw [hr.all, Bool.true_and]; exact fits2 (by simp; omega))
   exact ⟨_, List.mem_singleton.2 rfl, _, m, rfl, e⟩
  ·cases hs
 ·cases hs
theorem ok158 {T : Tab} (O : Ok M T) : Ok M (T.addC 158 C158) := by
 refine addC_ok O fun args h s hs hp => ?_
 unfold C158 at hs
 split at hs
 ·rename_i s c
  cases hs
  have hp : s.data.toList = tabs := hp
  refine ⟨_, List.mem_singleton.2 rfl, placeN c, 0, rfl, ?_⟩
  show some (AV.sc (.int .i64 (placeOf c.toNat.toUInt8 s.data.toList 0)), h) = _
  rw [hp]; rfl
 ·cases hs
theorem place_all : ∀ n : Fin 256, (0 ≤ placeN n.val → placeN n.val < 7 ∧ escP (UInt8.ofNat n.val) = [92, UInt8.ofNat (byteAt lets (placeN n.val)).toNat] ∧ byteAt lets (placeN n.val) = (((UInt8.ofNat (byteAt lets (placeN n.val)).toNat).toNat : Nat) : Int)) ∧
  (¬ 0 ≤ placeN n.val → (n.val = 92 → escP (UInt8.ofNat n.val) = [92, 92]) ∧ (n.val ≠ 92 → (32 ≤ n.val ∧ n.val ≤ 126 → escP (UInt8.ofNat n.val) = [UInt8.ofNat n.val]) ∧
   (¬ (32 ≤ n.val ∧ n.val ≤ 126) → escP (UInt8.ofNat n.val) = [92, 48 + UInt8.ofNat n.val / 64, 48 + UInt8.ofNat n.val / 8 % 8, 48 + UInt8.ofNat n.val % 8]))) := by decide +kernel
theorem place_at (c : UInt8) : (0 ≤ placeN c.toNat → placeN c.toNat < 7 ∧ escP c = [92, UInt8.ofNat (byteAt lets (placeN c.toNat)).toNat] ∧ byteAt lets (placeN c.toNat) = (((UInt8.ofNat (byteAt lets (placeN c.toNat)).toNat).toNat : Nat) : Int)) ∧
  (¬ 0 ≤ placeN c.toNat → (c.toNat = 92 → escP c = [92, 92]) ∧ (c.toNat ≠ 92 → (32 ≤ c.toNat ∧ c.toNat ≤ 126 → escP c = [c]) ∧
   (¬ (32 ≤ c.toNat ∧ c.toNat ≤ 126) → escP c = [92, 48 + c / 64, 48 + c / 8 % 8, 48 + c % 8]))) := by
 have h := place_all ⟨c.toNat, c.toNat_lt⟩
 simp only [UInt8.ofNat_toNat] at h
 exact h
theorem row_grow {b : Cells} {n : Nat} (h : Row b n) (t : List UInt8) (hl : n + t.length ≤ 1099511627776) : Row (b ++ rowB t) (n + t.length) :=
 ⟨by rw [List.length_append, rowB_len, h.len], by
  have h1 := h.all
  have h2 := rowB_all t
  unfold allLen at h1 h2 ⊢
  rw [List.all_append, h1, h2]; rfl, hl⟩
theorem row_B (t : List UInt8) (hl : t.length ≤ 1099511627776) : Row (rowB t) t.length := ⟨rowB_len t, rowB_all t, hl⟩
theorem oct_row (c : UInt8) : (List.map byteD [[AV.sc (Value.int IntKind.u8 (IntKind.u8.wrap ((48 : Int) + IntKind.u8.wrap ((c.toNat : Int).tdiv (64 : Int)))))], [AV.sc (Value.int IntKind.u8 (IntKind.u8.wrap ((48 : Int) + (IntKind.u8.wrap ((c.toNat : Int).tdiv (8 : Int))).tmod (8 : Int))))], [AV.sc (Value.int IntKind.u8 (IntKind.u8.wrap ((48 : Int) + (c.toNat : Int).tmod (8 : Int))))]]) = [48 + c / 64, 48 + c / 8 % 8, 48 + c % 8] ∧
  ([[AV.sc (Value.int IntKind.u8 ((byteD [AV.sc (Value.int IntKind.u8 (IntKind.u8.wrap ((48 : Int) + IntKind.u8.wrap ((c.toNat : Int).tdiv (64 : Int)))))]).toNat : Int))], [AV.sc (Value.int IntKind.u8 ((byteD [AV.sc (Value.int IntKind.u8 (IntKind.u8.wrap ((48 : Int) + (IntKind.u8.wrap ((c.toNat : Int).tdiv (8 : Int))).tmod (8 : Int))))]).toNat : Int))], [AV.sc (Value.int IntKind.u8 ((byteD [AV.sc (Value.int IntKind.u8 (IntKind.u8.wrap ((48 : Int) + (c.toNat : Int).tmod (8 : Int))))]).toNat : Int))]] : Cells) = rowB [48 + c / 64, 48 + c / 8 % 8, 48 + c % 8] := by
 obtain ⟨o1, o2, o3⟩ := oct_at c
 rw [o1, o2, o3]
 simp only [List.map_cons, List.map_nil, byteD_row]
 exact ⟨trivial, rfl⟩
theorem q92 (c : UInt8) : ((c.toNat : Int) == (92 : Int)) = decide (c.toNat = 92) := by
 rw [Bool.eq_iff_iff]; simp only [beq_iff_eq, decide_eq_true_eq]; omega
theorem loop52 (s : List UInt8) (hs : s.length ≤ 1048576) : ∀ k i : Nat, i + 1 + k = s.length → Ev (cfg M) Tryz.prog 52 (.loop (loopAt Tryz.prog 52 4)) (I52 s ((i + 1 : Nat) : Int) (rowB (escF (s.take (i + 1)))) (escF (s.take (i + 1))).length) fun e τ => e = .exit 0 ∧ τ = X52 (rowB (escF s)) (escF s).length := by
 intro k
 induction k with
 | zero =>
  intro i hi
  refine Ev.round (O := ok158 (ok81 (ok18 ok0))) (n := 60) (t := ⟨[0, 3, 8, 9], [3], 0⟩) (by kernel_rfl) (by kernel_rfl) rfl (r52 M s _ _ _ (fun _ _ _ => False) True (ie (df (by omega)) ⟨rfl, rfl, trivial⟩)) (fun _ h => h.2.elim) (fun e τ hx => ?_)
  unfold q52 at hx
  split at hx
  ·refine ⟨hx.1, ?_⟩
   rw [hx.2.1, List.take_of_length_le (by omega)]
  ·exact hx.elim
 | succ k ih =>
  intro i hi
  have hlt : i + 1 < s.length := by omega
  have hl : (s.take (i + 1)).length ≤ 1048576 := by simp; omega
  have hw : IntKind.i64.wrap (((i + 1 : Nat) : Int) + 1) = ((i + 1 + 1 : Nat) : Int) := by rw [wrap_in (by omega) (by omega)]; omega
  have hr := inR (s := s) (i := ((i + 1 : Nat) : Int)) (by omega) (by omega)
  have he := escF_len (s.take (i + 1))
  obtain ⟨acc, hacc⟩ : ∃ acc, escF (s.take (i + 1)) = acc := ⟨_, rfl⟩
  have ht : escF (s.take (i + 1 + 1)) = acc ++ escP s[i + 1] := by rw [escF_take s (i + 1) hlt, ← esc_eq, hacc]
  rw [hacc] at he ⊢
  obtain ⟨c, hc⟩ : ∃ c, s[i + 1] = c := ⟨_, rfl⟩
  rw [hc] at ht
  have R0 := row_B acc (by omega)
  obtain ⟨p1, p2⟩ := place_at c
  refine Ev.round (O := ok158 (ok81 (ok18 ok0))) (n := 60) (t := ⟨[0, 3, 8, 9], [3], 0⟩) (by kernel_rfl) (by kernel_rfl) rfl
   (r52 M s _ _ _ (fun x y z => x = rowB (acc ++ escP c) ∧ y = (acc ++ escP c).length ∧ z = ((i + 1 + 1 : Nat) : Int)) False (it (dt (by omega)) (it hr ?_))) (fun τ h => ?_) (fun e τ hx => ?_)
  ·rw [byteAt_nat s (i + 1) hlt, hw, hc]
   refine ⟨rfl, fun x hx => iti (fun q => ⟨⟨rfl, R0⟩, fun y hy => ?_⟩) (fun q => ?_)⟩
   ·have q := of_decide_eq_true q
    rw [hx] at q ⊢
    obtain ⟨u1, u2, u3⟩ := p1 q
    refine it (by rw [inRange_iff]; exact ⟨q, u1⟩) ?_
    subst hy
    refine ⟨⟨rfl, row_grow R0 [92] (by simp; omega)⟩, fun z hz => ⟨rfl, ?_, ?_, rfl⟩⟩
    ·rw [hz, show byteAt [110, 116, 114, 97, 98, 102, 118] (placeN c.toNat) = _ from u3, u2, rowB_app]
     show rowB acc ++ _ ++ _ = _
     rw [List.append_assoc]; rfl
    ·rw [hz, u2]; simp
   ·have q := of_decide_eq_false q
    rw [hx] at q
    obtain ⟨v1, v2⟩ := p2 q
    rw [q92]
    refine iti (fun r => ?_) (fun r => ?_)
    ·have r := of_decide_eq_true r
     refine ⟨⟨rfl, R0, ⟨by simp, by simp⟩⟩, fun z hz => ⟨rfl, ?_, ?_, rfl⟩⟩
     ·rw [hz, v1 r, rowB_app]; rfl
     ·rw [hz, v1 r]; simp
    ·have r := of_decide_eq_false r
     obtain ⟨w1, w2⟩ := v2 r
     have oct : ∀ (h : ¬ (32 ≤ c.toNat ∧ c.toNat ≤ 126)) (y : Cells × Nat), y = (rowB acc ++ rowB [92], acc.length + 1) → ∀ z : Cells × Nat, z = (y.1 ++ rowB [48 + c / 64, 48 + c / 8 % 8, 48 + c % 8], y.2 + ([48 + c / 64, 48 + c / 8 % 8, 48 + c % 8] : List UInt8).length) → z.1 = rowB (acc ++ escP c) ∧ z.2 = (acc ++ escP c).length := by
      intro h y hy z hz
      subst hy; subst hz
      rw [w2 h]
      constructor
      ·simp [rowB]
      ·simp
     obtain ⟨m1, m2⟩ := oct_row c
     rw [m1, m2]
     refine iti (fun a1 => iti (fun a2 => ?_) (fun a2 => ?_)) (fun a1 => ?_)
     ·have a1 := of_decide_eq_true a1
      have a2 := of_decide_eq_true a2
      refine ⟨⟨rfl, R0⟩, fun z hz => ⟨rfl, ?_, ?_, rfl⟩⟩
      ·rw [hz, w1 ⟨by omega, by omega⟩, rowB_app]; rfl
      ·rw [hz, w1 ⟨by omega, by omega⟩]; simp
     ·have a2 := of_decide_eq_false a2
      refine ⟨⟨rfl, R0⟩, fun y hy => ⟨⟨rfl, by rw [hy]; exact row_grow R0 [92] (by simp; omega), ⟨by simp, by simp⟩⟩, fun z hz => ⟨rfl, ?_, ?_, rfl⟩⟩⟩
      ·exact (oct (by omega) y hy z hz).1
      ·exact (oct (by omega) y hy z hz).2
     ·have a1 := of_decide_eq_false a1
      refine ⟨⟨rfl, R0⟩, fun y hy => ⟨⟨rfl, by rw [hy]; exact row_grow R0 [92] (by simp; omega), ⟨by simp, by simp⟩⟩, fun z hz => ⟨rfl, ?_, ?_, rfl⟩⟩⟩
      ·exact (oct (by omega) y hy z hz).1
      ·exact (oct (by omega) y hy z hz).2
  ·obtain ⟨h1, h2, h3, h4⟩ := h
   rw [h1, h2, h3, h4, ← ht]
   exact ih (i + 1) (by omega)
  ·unfold q52 at hx
   split at hx
   ·exact hx.2.2.elim
   ·exact hx.elim
theorem okL52 {T : Tab} (O : Ok M T) : Ok M (T.addL 52 4 L52) := by
 refine addL_ok O fun σ s hs hp => ?_
 cases hs
 obtain ⟨h1, h2⟩ := hp
 have hle := h2.le
 have key : Ev (cfg M) Tryz.prog 52 (.loop (loopAt Tryz.prog 52 4)) (Z52 (slS σ 0) 0) fun e τ => (slS σ 0 = [] ∧ e = .exit 0 ∧ τ = Y52) ∨ (slS σ 0 ≠ [] ∧ e = .exit 0 ∧ τ = X52 (rowB (escF (slS σ 0))) (escF (slS σ 0)).length) := by
  obtain ⟨s, hs⟩ : ∃ s, slS σ 0 = s := ⟨_, rfl⟩
  rw [hs] at hle ⊢
  by_cases h0 : s = []
  ·subst h0
   refine Ev.round (O := ok158 (ok81 (ok18 ok0))) (n := 60) (t := ⟨[0, 3, 8, 9], [3], 0⟩) (by kernel_rfl) (by kernel_rfl) rfl (rz52 M [] 0 (fun _ _ _ => False) True (ie rfl ⟨rfl, rfl, trivial⟩)) (fun _ h => h.2.elim) (fun e τ hx => ?_)
   unfold qz52 at hx
   split at hx
   ·exact .inl ⟨rfl, hx.1, hx.2.1⟩
   ·exact hx.elim
  ·have hlt : 0 < s.length := List.length_pos_iff.2 h0
   have hw : IntKind.i64.wrap ((0 : Int) + 1) = ((0 + 1 : Nat) : Int) := by rw [wrap_in (by omega) (by omega)]; omega
   have hr := inR (s := s) (i := (0 : Int)) (by omega) (by omega)
   have hb : byteAt s 0 = (s[0].toNat : Int) := byteAt_nat s 0 hlt
   have h1 : escF (s.take (0 + 1)) = escP s[0] := by rw [escF_take s 0 hlt, ← esc_eq]; simp [escF_nil]
   obtain ⟨c, hc⟩ : ∃ c, s[0] = c := ⟨_, rfl⟩
   rw [hc] at h1
   obtain ⟨p1, p2⟩ := place_at c
   refine Ev.round (O := ok158 (ok81 (ok18 ok0))) (n := 60) (t := ⟨[0, 3, 8, 9], [3], 0⟩) (by kernel_rfl) (by kernel_rfl) rfl
    (rz52 M s 0 (fun x y z => x = rowB (escP c) ∧ y = (escP c).length ∧ z = ((0 + 1 : Nat) : Int)) False (it (dt (by omega)) (it hr ?_))) (fun τ h => ?_) (fun e τ hx => ?_)
   ·rw [hb, hw, hc]
    refine ⟨rfl, fun x hx => iti (fun q => ⟨rfl, fun y hy => ?_⟩) (fun q => ?_)⟩
    ·have q := of_decide_eq_true q
     rw [hx] at q ⊢
     obtain ⟨u1, u2, u3⟩ := p1 q
     refine it (by rw [inRange_iff]; exact ⟨q, u1⟩) ?_
     subst hy
     refine ⟨⟨rfl, row_B [92] (by simp)⟩, fun z hz => ⟨rfl, ?_, ?_, rfl⟩⟩
     ·rw [hz, show byteAt [110, 116, 114, 97, 98, 102, 118] (placeN c.toNat) = _ from u3, u2]; rfl
     ·rw [hz, u2]; rfl
    ·have q := of_decide_eq_false q
     rw [hx] at q
     obtain ⟨v1, v2⟩ := p2 q
     rw [q92]
     refine iti (fun r => ?_) (fun r => ?_)
     ·have r := of_decide_eq_true r
      refine ⟨⟨rfl, ⟨by simp, by simp⟩⟩, fun z hz => ⟨rfl, ?_, ?_, rfl⟩⟩
      ·rw [hz, v1 r]; rfl
      ·rw [hz, v1 r]; rfl
     ·have r := of_decide_eq_false r
      obtain ⟨w1, w2⟩ := v2 r
      have oct : ∀ (h : ¬ (32 ≤ c.toNat ∧ c.toNat ≤ 126)) (y : Cells × Nat), y = (rowB [92], 1) → ∀ z : Cells × Nat, z = (y.1 ++ rowB [48 + c / 64, 48 + c / 8 % 8, 48 + c % 8], y.2 + ([48 + c / 64, 48 + c / 8 % 8, 48 + c % 8] : List UInt8).length) → z.1 = rowB (escP c) ∧ z.2 = (escP c).length := by
       intro h y hy z hz
       subst hy; subst hz
       rw [w2 h]
       exact ⟨rfl, rfl⟩
      obtain ⟨m1, m2⟩ := oct_row c
      rw [m1, m2]
      refine iti (fun a1 => iti (fun a2 => ?_) (fun a2 => ?_)) (fun a1 => ?_)
      ·have a1 := of_decide_eq_true a1
       have a2 := of_decide_eq_true a2
       refine ⟨rfl, fun z hz => ⟨rfl, ?_, ?_, rfl⟩⟩
       ·rw [hz, w1 ⟨by omega, by omega⟩]; rfl
       ·rw [hz, w1 ⟨by omega, by omega⟩]; rfl
      ·have a2 := of_decide_eq_false a2
       refine ⟨rfl, fun y hy => ⟨⟨rfl, by rw [hy]; exact row_B [92] (by simp), ⟨by simp, by simp⟩⟩, fun z hz => ⟨rfl, ?_, ?_, rfl⟩⟩⟩
       ·exact (oct (by omega) y hy z hz).1
       ·exact (oct (by omega) y hy z hz).2
      ·have a1 := of_decide_eq_false a1
       refine ⟨rfl, fun y hy => ⟨⟨rfl, by rw [hy]; exact row_B [92] (by simp), ⟨by simp, by simp⟩⟩, fun z hz => ⟨rfl, ?_, ?_, rfl⟩⟩⟩
       ·exact (oct (by omega) y hy z hz).1
       ·exact (oct (by omega) y hy z hz).2
   ·obtain ⟨g1, g2, g3, g4⟩ := h
    rw [g1, g2, g3, g4, ← h1]
    refine (loop52 s hle (s.length - 1) 0 (by omega)).mono fun e τ' hq => .inr ⟨h0, hq.1, hq.2⟩
   ·unfold qz52 at hx
    split at hx
    ·exact hx.2.2.elim
    ·exact hx.elim
 obtain ⟨m, e, τ, g1, g2⟩ := Ev.tidied (t := ⟨[0, 3, 8, 9], [3], 0⟩) (by kernel_rfl) h1 key
 rcases g2 with ⟨k1, rfl, rfl⟩ | ⟨k1, rfl, rfl⟩
 ·exact ⟨_, List.mem_cons_self, (), ⟨k1⟩, m, g1⟩
 ·exact ⟨_, List.mem_cons_of_mem _ (List.mem_singleton.2 rfl), (rowB (escF (slS σ 0)), (escF (slS σ 0)).length), ⟨⟨rfl, rfl⟩, ⟨k1⟩⟩, m, g1⟩
theorem byteS_row (q : List UInt8) : mapO byteS (rowB q) = some q := by
 induction q with
 | nil => rfl
 | cons c q ih =>
  show mapO byteS ([AV.sc (.int .u8 c.toNat)] :: rowB q) = _
  rw [mapO_cons, ih]
  have : byteS [AV.sc (.int .u8 c.toNat)] = some c := by
   unfold byteS
   simp
  rw [this]; rfl
theorem rowB_inj {a b : List UInt8} (h : rowB a = rowB b) : a = b := by
 have := congrArg (List.map byteD) h
 rwa [rowB_bytes, rowB_bytes] at this
theorem ok23 {T : Tab} (O : Ok M T) : Ok M (T.addC 23 C23) := by
 refine addC_ok O fun args h s hs hp => ?_
 unfold C23 at hs
 split at hs
 ·split at hs
  ·cases hs
   obtain rfl : h = hb0 := hp
   exact ⟨_, List.mem_singleton.2 rfl, (), 0, trivial, by show stringP 63 5 [.ptr 1 0] hb0 = _; rfl⟩
  ·cases hs
   obtain ⟨he, hr⟩ := hp
   obtain ⟨q, q1, q2, q3, q4⟩ := hr.is
   refine ⟨_, List.mem_singleton.2 rfl, q, 0, ⟨q1⟩, ?_⟩
   show stringP 63 5 [.ptr 1 0] h = some (aStr q, hbD (hBytes h) (hN h))
   rw [he]
   have hb : hBytes (hbC (hBytes h) (hN h)) = hBytes h := rfl
   have hn : hN (hbC (hBytes h) (hN h)) = hN h := rfl
   rw [hb, hn, q1, q2]
   show (bif (Nat.beq 1 1 && Nat.beq 5 5 && !(rowB q).isEmpty && Nat.ble (rowB q).length maxRoom) && Nat.beq (rowB q).length q.length then
        (match mapO byteS (rowB q), (hbC (rowB q) q.length).put 2 .dead with
        | some bs, some h' => some (AV.sc (.string ⟨⟨bs⟩⟩), h')
        | _, _ => none) else none) = _
   have h1 : (rowB q).isEmpty = false := by
    cases q with
    | nil => exact absurd rfl q3
    | cons a r => rfl
   have h2 : Nat.ble (rowB q).length maxRoom = true := by
    rw [rowB_len]
    have e : maxRoom = 140737488355328 := rfl
    exact Nat.ble_eq_true_of_le (by omega)
   have h3 : Nat.beq (rowB q).length q.length = true := by rw [rowB_len]; exact Nat.beq_refl _
   rw [h1, h2, h3, byteS_row]
   rfl
  ·cases hs
 ·cases hs
theorem ok52 {T : Tab} (O : Ok M T) : Ok M (T.addC 52 C52) := by
 refine fresh_ok O (okL52 (ok23 ok0)) (by kernel_rfl) rfl fun args h s hs hp => ?_
 unfold C52 C55 at hs
 split at hs
 ·rename_i s
  cases hs
  have h1 := hp.le
  have h2 := escF_len s.data.toList
  refine ⟨rfl, _, _, escF s.data.toList, aStr, rfl, v52 M s.data.toList _ ⟨rfl, ⟨rfl, hp⟩, fun _ hx => ⟨rfl, fun _ _ => ?_⟩, fun x hx => ?_⟩⟩
  ·rw [hx.is]; rfl
  ·obtain ⟨g1, g2⟩ := hx
   have hne : escF s.data.toList ≠ [] := by
    intro e
    cases hq : s.data.toList with
    | nil => exact g2.is hq
    | cons c r =>
     rw [hq, show c :: r = [c] ++ r from rfl, escF_app, escF_one] at e
     exact (esc_len1 c).2 (List.append_eq_nil_iff.1 e).1
   refine ⟨⟨rfl, ⟨_, g1.els, g1.n, hne, by omega⟩⟩, fun y hy => ?_⟩
   have := hy.is
   rw [g1.els] at this
   rw [rowB_inj this]; rfl
 ·cases hs
theorem ok51 {T : Tab} (O : Ok M T) : Ok M (T.addC 51 C51) := by
 refine addC_ok O fun args h s hs hp => ?_
 unfold C51 at hs
 split at hs
 ·rename_i s o n
  cases hs
  obtain ⟨h1, h2⟩ := hp
  have ho : o = ⟨#[34]⟩ := by
   obtain ⟨⟨l⟩⟩ := o
   have := h2.o
   simp at this
   rw [this]
  have hn : n = ⟨#[92, 34]⟩ := by
   obtain ⟨⟨l⟩⟩ := n
   have := h2.n
   simp at this
   rw [this]
  subst ho; subst hn
  have hle := h1.le
  have hsz : s.size = s.data.toList.length := Lib.size_eq s
  have hcb := Lib.countB_mul_le (⟨#[34]⟩ : ByteArray) (by decide) s.size s (Nat.le_refl _)
  have e1 : (⟨#[34]⟩ : ByteArray).size = 1 := rfl
  have e2 : (⟨#[92, 34]⟩ : ByteArray).size = 2 := rfl
  rw [e1] at hcb
  refine ⟨_, List.mem_singleton.2 rfl, quoF s.data.toList, 0, rfl, ?_⟩
  show (bif Nat.blt s.size 4294967281 && Nat.ble 1 (⟨#[34]⟩ : ByteArray).size && Nat.ble (s.size + Lib.countB s ⟨#[34]⟩ * (⟨#[92, 34]⟩ : ByteArray).size) 140737488355328 then
   some (AV.sc (.string ⟨(Lib.replaceAll s.data.toList [34] [92, 34]).toArray⟩), h) else none) = _
  have b1 : Nat.blt s.size 4294967281 = true := Nat.ble_eq_true_of_le (by omega)
  have b2 : Nat.ble 1 (⟨#[34]⟩ : ByteArray).size = true := rfl
  have b3 : Nat.ble (s.size + Lib.countB s ⟨#[34]⟩ * (⟨#[92, 34]⟩ : ByteArray).size) 140737488355328 = true := Nat.ble_eq_true_of_le (by rw [e2]; omega)
  rw [b1, b2, b3, replaceAll_quo]
  rfl
 ·cases hs
theorem ok21 {T : Tab} (O : Ok M T) : Ok M (T.addC 21 C21) := by
 refine fresh_ok O (ok52 (ok51 ok0)) (by kernel_rfl) rfl fun args h s hs hp => ?_
 unfold C21 C25 at hs
 split at hs
 ·rename_i s
  cases hs
  have h1 := hp.le
  have h2 := escF_len s.data.toList
  have h3 := quoF_len (escF s.data.toList)
  refine ⟨rfl, _, _, quoT s.data.toList, aStr, rfl, v21 M s.data.toList _ ⟨hp, fun x hx => ?_⟩⟩
  subst hx
  refine ⟨⟨⟨by omega⟩, ⟨rfl, rfl⟩⟩, fun y hy => ?_⟩
  subst hy
  exact it (fitsS (by simp; omega)) (it (fitsS (by simp; omega)) (str_eq (by unfold quoT; simp)))
 ·cases hs
end
end Go.Proofs.Sp
namespace Go.Proofs.Sp
open Go Go.Ef Go.Proofs.Pt
noncomputable section
def progTab : List (List UInt8 × List UInt8) := [([115, 116, 101, 112], []), ([110, 117, 109, 98, 101, 114], [110]), ([115, 116, 114, 105, 110, 103], [116]), ([110, 111, 110, 101], []), ([114, 101, 99, 111, 114, 100], [116]), ([118, 97, 114], [120, 116]), ([102, 105, 101, 108, 100], []), ([107, 101, 121], [121]), ([101, 108, 101, 109], [120, 116]), ([105, 110], [120, 116]), ([115, 101, 116, 118, 97, 114], [120, 121, 116]), ([115, 101, 116, 102, 105, 101, 108, 100], [121]), ([115, 101, 116, 101, 108, 101, 109], [120, 121, 116]), ([115, 116, 101, 112, 118, 97, 114], [120, 121, 116]), ([115, 116, 101, 112, 102, 105, 101, 108, 100], [121]), ([115, 116, 101, 112, 101, 108, 101, 109], [120, 121, 116]), ([109, 97, 116, 99, 104], [121]), ([98, 105, 110, 97, 114, 121], [121]), ([99, 111, 110, 99, 97, 116], []), ([117, 110, 97, 114, 121], [121]), ([116, 114, 117, 116, 104], []), ([106, 117, 109, 112], [120]), ([106, 117, 109, 112, 102, 97, 108, 115, 101], [120]), ([106, 117, 109, 112, 116, 114, 117, 101], [120]), ([112, 111, 112], []), ([97, 114, 114, 97, 121], [120, 116]), ([110, 101, 119, 97, 114, 114, 97, 121], []), ([99, 97, 108, 108], [120]), ([114, 101, 116, 117, 114, 110], []), ([103, 101, 116], [120, 121, 116]), ([112, 117, 114, 101], [121, 116]), ([115, 112, 108, 105, 116], [120, 116]), ([115, 117, 98], [120, 121, 116]), ([102, 105, 110, 100], []), ([106, 111, 105, 110], [121]), ([115, 112, 114, 105, 110, 116, 102], [121]), ([119, 114, 105, 116, 101], [120]), ([108, 105, 115, 116], [120, 116]), ([110, 101, 120, 116], [120]), ([100, 114, 111, 112, 108, 105, 115, 116], []), ([100, 101, 108, 101, 116, 101], [120, 116]), ([99, 108, 101, 97, 114], [120, 116]), ([110, 101, 120, 116, 114, 101, 99, 111, 114, 100], []), ([101, 120, 105, 116], [121]), ([114, 97, 110, 103, 101], [120, 121]), ([111, 112, 101, 110], [121]), ([99, 108, 111, 115, 101], [121]), ([100, 111, 110, 101], []), ([113, 117, 105, 116], [])]
def descW (op : Int) : List UInt8 × List UInt8 := if 1 ≤ op ∧ op ≤ 49 then (progTab[op.toNat - 1]?).getD ([], []) else ([111, 112, 32] ++ Lib.itoa op, [])
def opP (x y n : Int) (t : List UInt8) (c : UInt8) : List UInt8 := 32 :: (if c = 120 then Lib.itoa x else if c = 121 then Lib.itoa y else if c = 110 then decT n else quoT t)
def shownT (op x y n : Int) (t : List UInt8) : List UInt8 := (descW op).1 ++ (descW op).2.flatMap (opP x y n t)
structure InstOk (op x y n : Int) (t : List UInt8) : Prop where
 op : I64 op
 x : I64 x
 y : I64 y
 n : I64 n
 t : Small t
def instA (op x y n : Int) (t : List UInt8) (a : Int) : AV := .agg [iA op, iA x, iA y, iA n, aStr t, iA a]
def C22 (args : List AV) (h : Heap) : Option CSpec :=
 match args with
 | [.agg [.sc (.int .i64 op), .sc (.int .i64 x), .sc (.int .i64 y), .sc (.int .i64 n), .sc (.string t), .sc (.int .i64 _)]] => some (nspec (InstOk op x y n t.data.toList) (shownT op x y n t.data.toList) aStr h)
 | _ => none
def T22 : Tab := ((tab0.addC 20 C20).addC 54 C54).addC 21 C21
end
end Go.Proofs.Sp
namespace Go.Proofs.Sp
open Go Go.Ef Go.Proofs.Pt
noncomputable section
set_option maxRecDepth 100000
theorem v22 (M : Int) (op : Int) (x : Int) (y : Int) (n : Int) (t : List UInt8) (a : Int) (K : AV → Prop) (h :
 iteP (op == (1 : Int))
 (K (AV.sc (Value.string (ByteArray.mk (Array.mk [(115 : UInt8), (116 : UInt8), (101 : UInt8), (112 : UInt8)])))))
 (iteP (op == (2 : Int))
 (I64 n ∧
 ∀ (x : List UInt8),
 x = decT n →
 iteP (strFits [(32 : UInt8)] x)
 (iteP
 (strFits [(110 : UInt8), (117 : UInt8), (109 : UInt8), (98 : UInt8), (101 : UInt8), (114 : UInt8)]
 ([(32 : UInt8)] ++ x))
 (K
 (AV.sc
 (Value.string
 (ByteArray.mk
 (Array.mk
 ([(110 : UInt8), (117 : UInt8), (109 : UInt8), (98 : UInt8), (101 : UInt8), (114 : UInt8)] ++
 ([(32 : UInt8)] ++ x)))))))
 False)
 False)
 (iteP (op == (3 : Int))
 (Small t ∧
 ∀ (x : List UInt8),
 x = quoT t →
 iteP (strFits [(32 : UInt8)] x)
 (iteP
 (strFits [(115 : UInt8), (116 : UInt8), (114 : UInt8), (105 : UInt8), (110 : UInt8), (103 : UInt8)]
 ([(32 : UInt8)] ++ x))
 (K
 (AV.sc
 (Value.string
 (ByteArray.mk
 (Array.mk
 ([(115 : UInt8), (116 : UInt8), (114 : UInt8), (105 : UInt8), (110 : UInt8), (103 : UInt8)] ++
 ([(32 : UInt8)] ++ x)))))))
 False)
 False)
 (iteP (op == (4 : Int))
 (K
 (AV.sc (Value.string (ByteArray.mk (Array.mk [(110 : UInt8), (111 : UInt8), (110 : UInt8), (101 : UInt8)])))))
 (iteP (op == (5 : Int))
 (Small t ∧
 ∀ (x : List UInt8),
 x = quoT t →
 iteP (strFits [(32 : UInt8)] x)
 (iteP
 (strFits [(114 : UInt8), (101 : UInt8), (99 : UInt8), (111 : UInt8), (114 : UInt8), (100 : UInt8)]
 ([(32 : UInt8)] ++ x))
 (K
 (AV.sc
 (Value.string
 (ByteArray.mk
 (Array.mk
 ([(114 : UInt8), (101 : UInt8), (99 : UInt8), (111 : UInt8), (114 : UInt8),
 (100 : UInt8)] ++
 ([(32 : UInt8)] ++ x)))))))
 False)
 False)
 (iteP (op == (6 : Int))
 (I64 x ∧
 ∀ (x_1 : List UInt8),
 x_1 = Lib.itoa x →
 iteP (strFits [(32 : UInt8)] x_1)
 (iteP (strFits [(118 : UInt8), (97 : UInt8), (114 : UInt8)] ([(32 : UInt8)] ++ x_1))
 (Small t ∧
 ∀ (x : List UInt8),
 x = quoT t →
 iteP (strFits [(32 : UInt8)] x)
 (iteP
 (strFits ([(118 : UInt8), (97 : UInt8), (114 : UInt8)] ++ ([(32 : UInt8)] ++ x_1))
 ([(32 : UInt8)] ++ x))
 (K
 (AV.sc
 (Value.string
 (ByteArray.mk
 (Array.mk
 ([(118 : UInt8), (97 : UInt8), (114 : UInt8)] ++ ([(32 : UInt8)] ++ x_1) ++
 ([(32 : UInt8)] ++ x)))))))
 False)
 False)
 False)
 False)
 (iteP (op == (7 : Int))
 (K
 (AV.sc
 (Value.string
 (ByteArray.mk
 (Array.mk [(102 : UInt8), (105 : UInt8), (101 : UInt8), (108 : UInt8), (100 : UInt8)])))))
 (iteP (op == (8 : Int))
 (I64 y ∧
 ∀ (x : List UInt8),
 x = Lib.itoa y →
 iteP (strFits [(32 : UInt8)] x)
 (iteP (strFits [(107 : UInt8), (101 : UInt8), (121 : UInt8)] ([(32 : UInt8)] ++ x))
 (K
 (AV.sc
 (Value.string
 (ByteArray.mk
 (Array.mk
 ([(107 : UInt8), (101 : UInt8), (121 : UInt8)] ++ ([(32 : UInt8)] ++ x)))))))
 False)
 False)
 (iteP (op == (9 : Int))
 (I64 x ∧
 ∀ (x_1 : List UInt8),
 x_1 = Lib.itoa x →
 iteP (strFits [(32 : UInt8)] x_1)
 (iteP
 (strFits [(101 : UInt8), (108 : UInt8), (101 : UInt8), (109 : UInt8)]
 ([(32 : UInt8)] ++ x_1))
 (Small t ∧
 ∀ (x : List UInt8),
 x = quoT t →
 iteP (strFits [(32 : UInt8)] x)
 (iteP
 (strFits
 ([(101 : UInt8), (108 : UInt8), (101 : UInt8), (109 : UInt8)] ++
 ([(32 : UInt8)] ++ x_1))
 ([(32 : UInt8)] ++ x))
 (K
 (AV.sc
 (Value.string
 (ByteArray.mk
 (Array.mk
 ([(101 : UInt8), (108 : UInt8), (101 : UInt8), (109 : UInt8)] ++
 ([(32 : UInt8)] ++ x_1) ++
 ([(32 : UInt8)] ++ x)))))))
 False)
 False)
 False)
 False)
 (iteP (op == (10 : Int))
 (I64 x ∧
 ∀ (x_1 : List UInt8),
 x_1 = Lib.itoa x →
 iteP (strFits [(32 : UInt8)] x_1)
 (iteP (strFits [(105 : UInt8), (110 : UInt8)] ([(32 : UInt8)] ++ x_1))
 (Small t ∧
 ∀ (x : List UInt8),
 x = quoT t →
 iteP (strFits [(32 : UInt8)] x)
 (iteP
 (strFits ([(105 : UInt8), (110 : UInt8)] ++ ([(32 : UInt8)] ++ x_1))
 ([(32 : UInt8)] ++ x))
 (K
 (AV.sc
 (Value.string
 (ByteArray.mk
 (Array.mk
 ([(105 : UInt8), (110 : UInt8)] ++ ([(32 : UInt8)] ++ x_1) ++
 ([(32 : UInt8)] ++ x)))))))
 False)
 False)
 False)
 False)
 (iteP (op == (11 : Int))
 (I64 x ∧
 ∀ (x_1 : List UInt8),
 x_1 = Lib.itoa x →
 iteP (strFits [(32 : UInt8)] x_1)
 (iteP
 (strFits
 [(115 : UInt8), (101 : UInt8), (116 : UInt8), (118 : UInt8), (97 : UInt8),
 (114 : UInt8)]
 ([(32 : UInt8)] ++ x_1))
 (I64 y ∧
 ∀ (x : List UInt8),
 x = Lib.itoa y →
 iteP (strFits [(32 : UInt8)] x)
 (iteP
 (strFits
 ([(115 : UInt8), (101 : UInt8), (116 : UInt8), (118 : UInt8), (97 : UInt8),
 (114 : UInt8)] ++
 ([(32 : UInt8)] ++ x_1))
 ([(32 : UInt8)] ++ x))
 (Small t ∧
 ∀ (x_2 : List UInt8),
 x_2 = quoT t →
 iteP (strFits [(32 : UInt8)] x_2)
 (iteP
 (strFits
 ([(115 : UInt8), (101 : UInt8), (116 : UInt8), (118 : UInt8),
 (97 : UInt8), (114 : UInt8)] ++
 ([(32 : UInt8)] ++ x_1) ++
 ([(32 : UInt8)] ++ x))
 ([(32 : UInt8)] ++ x_2))
 (K
 (AV.sc
 (Value.string
 (ByteArray.mk
 (Array.mk
 ([(115 : UInt8), (101 : UInt8), (116 : UInt8),
 (118 : UInt8), (97 : UInt8), (114 : UInt8)] ++
 ([(32 : UInt8)] ++ x_1) ++
 ([(32 : UInt8)] ++ x) ++
 ([(32 : UInt8)] ++ x_2)))))))
 False)
 False)
 False)
 False)
 False)
 False)
 (iteP (op == (12 : Int))
 (I64 y ∧
 ∀ (x : List UInt8),
 x = Lib.itoa y →
 iteP (strFits [(32 : UInt8)] x)
 (iteP
 (strFits
 [(115 : UInt8), (101 : UInt8), (116 : UInt8), (102 : UInt8), (105 : UInt8),
 (101 : UInt8), (108 : UInt8), (100 : UInt8)]
 ([(32 : UInt8)] ++ x))
 (K
 (AV.sc
 (Value.string
 (ByteArray.mk
 (Array.mk
 ([(115 : UInt8), (101 : UInt8), (116 : UInt8), (102 : UInt8), (105 : UInt8),
 (101 : UInt8), (108 : UInt8), (100 : UInt8)] ++
 ([(32 : UInt8)] ++ x)))))))
 False)
 False)
 (iteP (op == (13 : Int))
 (I64 x ∧
 ∀ (x_1 : List UInt8),
 x_1 = Lib.itoa x →
 iteP (strFits [(32 : UInt8)] x_1)
 (iteP
 (strFits
 [(115 : UInt8), (101 : UInt8), (116 : UInt8), (101 : UInt8), (108 : UInt8),
 (101 : UInt8), (109 : UInt8)]
 ([(32 : UInt8)] ++ x_1))
 (I64 y ∧
 ∀ (x : List UInt8),
 x = Lib.itoa y →
 iteP (strFits [(32 : UInt8)] x)
 (iteP
 (strFits
 ([(115 : UInt8), (101 : UInt8), (116 : UInt8), (101 : UInt8),
 (108 : UInt8), (101 : UInt8), (109 : UInt8)] ++
 ([(32 : UInt8)] ++ x_1))
 ([(32 : UInt8)] ++ x))
 (Small t ∧
 ∀ (x_2 : List UInt8),
 x_2 = quoT t →
 iteP (strFits [(32 : UInt8)] x_2)
 (iteP
 (strFits
 ([(115 : UInt8), (101 : UInt8), (116 : UInt8), (101 : UInt8),
 (108 : UInt8), (101 : UInt8), (109 : UInt8)] ++
 ([(32 : UInt8)] ++ x_1) ++
 ([(32 : UInt8)] ++ x))
 ([(32 : UInt8)] ++ x_2))
 (K
 (AV.sc
 (Value.string
 (ByteArray.mk
 (Array.mk
 ([(115 : UInt8), (101 : UInt8), (116 : UInt8),
 (101 : UInt8), (108 : UInt8), (101 : UInt8),
 (109 : UInt8)] ++
 ([(32 : UInt8)] ++ x_1) ++
 ([(32 : UInt8)] ++ x) ++
 ([(32 : UInt8)] ++ x_2)))))))
 False)
 False)
 False)
 False)
 False)
 False)
 (iteP (op == (14 : Int))
 (I64 x ∧
 ∀ (x_1 : List UInt8),
 x_1 = Lib.itoa x →
 iteP (strFits [(32 : UInt8)] x_1)
 (iteP
 (strFits
 [(115 : UInt8), (116 : UInt8), (101 : UInt8), (112 : UInt8), (118 : UInt8),
 (97 : UInt8), (114 : UInt8)]
 ([(32 : UInt8)] ++ x_1))
 (I64 y ∧
 ∀ (x : List UInt8),
 x = Lib.itoa y →
 iteP (strFits [(32 : UInt8)] x)
 (iteP
 (strFits
 ([(115 : UInt8), (116 : UInt8), (101 : UInt8), (112 : UInt8),
 (118 : UInt8), (97 : UInt8), (114 : UInt8)] ++
 ([(32 : UInt8)] ++ x_1))
 ([(32 : UInt8)] ++ x))
 (Small t ∧
 ∀ (x_2 : List UInt8),
 x_2 = quoT t →
 iteP (strFits [(32 : UInt8)] x_2)
 (iteP
 (strFits
 ([(115 : UInt8), (116 : UInt8), (101 : UInt8),
 (112 : UInt8), (118 : UInt8), (97 : UInt8),
 (114 : UInt8)] ++
 ([(32 : UInt8)] ++ x_1) ++
 ([(32 : UInt8)] ++ x))
 ([(32 : UInt8)] ++ x_2))
 (K
 (AV.sc
 (Value.string
 (ByteArray.mk
 (Array.mk
 ([(115 : UInt8), (116 : UInt8), (101 : UInt8),
 (112 : UInt8), (118 : UInt8), (97 : UInt8),
 (114 : UInt8)] ++
 ([(32 : UInt8)] ++ x_1) ++
 ([(32 : UInt8)] ++ x) ++
 ([(32 : UInt8)] ++ x_2)))))))
 False)
 False)
 False)
 False)
 False)
 False)
 (iteP (op == (15 : Int))
 (I64 y ∧
 ∀ (x : List UInt8),
 x = Lib.itoa y →
 iteP (strFits [(32 : UInt8)] x)
 (iteP
 (strFits
 [(115 : UInt8), (116 : UInt8), (101 : UInt8), (112 : UInt8), (102 : UInt8),
 (105 : UInt8), (101 : UInt8), (108 : UInt8), (100 : UInt8)]
 ([(32 : UInt8)] ++ x))
 (K
 (AV.sc
 (Value.string
 (ByteArray.mk
 (Array.mk
 ([(115 : UInt8), (116 : UInt8), (101 : UInt8), (112 : UInt8),
 (102 : UInt8), (105 : UInt8), (101 : UInt8), (108 : UInt8),
 (100 : UInt8)] ++
 ([(32 : UInt8)] ++ x)))))))
 False)
 False)
 (iteP (op == (16 : Int))
 (I64 x ∧
 ∀ (x_1 : List UInt8),
 x_1 = Lib.itoa x →
 iteP (strFits [(32 : UInt8)] x_1)
 (iteP
 (strFits
 [(115 : UInt8), (116 : UInt8), (101 : UInt8), (112 : UInt8), (101 : UInt8),
 (108 : UInt8), (101 : UInt8), (109 : UInt8)]
 ([(32 : UInt8)] ++ x_1))
 (I64 y ∧
 ∀ (x : List UInt8),
 x = Lib.itoa y →
 iteP (strFits [(32 : UInt8)] x)
 (iteP
 (strFits
 ([(115 : UInt8), (116 : UInt8), (101 : UInt8), (112 : UInt8),
 (101 : UInt8), (108 : UInt8), (101 : UInt8), (109 : UInt8)] ++
 ([(32 : UInt8)] ++ x_1))
 ([(32 : UInt8)] ++ x))
 (Small t ∧
 ∀ (x_2 : List UInt8),
 x_2 = quoT t →
 iteP (strFits [(32 : UInt8)] x_2)
 (iteP
 (strFits
 ([(115 : UInt8), (116 : UInt8), (101 : UInt8),
 (112 : UInt8), (101 : UInt8), (108 : UInt8),
 (101 : UInt8), (109 : UInt8)] ++
 ([(32 : UInt8)] ++ x_1) ++
 ([(32 : UInt8)] ++ x))
 ([(32 : UInt8)] ++ x_2))
 (K
 (AV.sc
 (Value.string
 (ByteArray.mk
 (Array.mk
 ([(115 : UInt8), (116 : UInt8), (101 : UInt8),
 (112 : UInt8), (101 : UInt8),
 (108 : UInt8), (101 : UInt8),
 (109 : UInt8)] ++
 ([(32 : UInt8)] ++ x_1) ++
 ([(32 : UInt8)] ++ x) ++
 ([(32 : UInt8)] ++ x_2)))))))
 False)
 False)
 False)
 False)
 False)
 False)
 (iteP (op == (17 : Int))
 (I64 y ∧
 ∀ (x : List UInt8),
 x = Lib.itoa y →
 iteP (strFits [(32 : UInt8)] x)
 (iteP
 (strFits
 [(109 : UInt8), (97 : UInt8), (116 : UInt8), (99 : UInt8), (104 : UInt8)]
 ([(32 : UInt8)] ++ x))
 (K
 (AV.sc
 (Value.string
 (ByteArray.mk
 (Array.mk
 ([(109 : UInt8), (97 : UInt8), (116 : UInt8), (99 : UInt8),
 (104 : UInt8)] ++
 ([(32 : UInt8)] ++ x)))))))
 False)
 False)
 (iteP (op == (18 : Int))
 (I64 y ∧
 ∀ (x : List UInt8),
 x = Lib.itoa y →
 iteP (strFits [(32 : UInt8)] x)
 (iteP
 (strFits
 [(98 : UInt8), (105 : UInt8), (110 : UInt8), (97 : UInt8),
 (114 : UInt8), (121 : UInt8)]
 ([(32 : UInt8)] ++ x))
 (K
 (AV.sc
 (Value.string
 (ByteArray.mk
 (Array.mk
 ([(98 : UInt8), (105 : UInt8), (110 : UInt8), (97 : UInt8),
 (114 : UInt8), (121 : UInt8)] ++
 ([(32 : UInt8)] ++ x)))))))
 False)
 False)
 (iteP (op == (19 : Int))
 (K
 (AV.sc
 (Value.string
 (ByteArray.mk
 (Array.mk
 [(99 : UInt8), (111 : UInt8), (110 : UInt8), (99 : UInt8), (97 : UInt8),
 (116 : UInt8)])))))
 (iteP (op == (20 : Int))
 (I64 y ∧
 ∀ (x : List UInt8),
 x = Lib.itoa y →
 iteP (strFits [(32 : UInt8)] x)
 (iteP
 (strFits
 [(117 : UInt8), (110 : UInt8), (97 : UInt8), (114 : UInt8),
 (121 : UInt8)]
 ([(32 : UInt8)] ++ x))
 (K
 (AV.sc
 (Value.string
 (ByteArray.mk
 (Array.mk
 ([(117 : UInt8), (110 : UInt8), (97 : UInt8), (114 : UInt8),
 (121 : UInt8)] ++
 ([(32 : UInt8)] ++ x)))))))
 False)
 False)
 (iteP (op == (21 : Int))
 (K
 (AV.sc
 (Value.string
 (ByteArray.mk
 (Array.mk
 [(116 : UInt8), (114 : UInt8), (117 : UInt8), (116 : UInt8),
 (104 : UInt8)])))))
 (iteP (op == (22 : Int))
 (I64 x ∧
 ∀ (x_1 : List UInt8),
 x_1 = Lib.itoa x →
 iteP (strFits [(32 : UInt8)] x_1)
 (iteP
 (strFits
 [(106 : UInt8), (117 : UInt8), (109 : UInt8), (112 : UInt8)]
 ([(32 : UInt8)] ++ x_1))
 (K
 (AV.sc
 (Value.string
 (ByteArray.mk
 (Array.mk
 ([(106 : UInt8), (117 : UInt8), (109 : UInt8),
 (112 : UInt8)] ++
 ([(32 : UInt8)] ++ x_1)))))))
 False)
 False)
 (iteP (op == (23 : Int))
 (I64 x ∧
 ∀ (x_1 : List UInt8),
 x_1 = Lib.itoa x →
 iteP (strFits [(32 : UInt8)] x_1)
 (iteP
 (strFits
 [(106 : UInt8), (117 : UInt8), (109 : UInt8), (112 : UInt8),
 (102 : UInt8), (97 : UInt8), (108 : UInt8), (115 : UInt8),
 (101 : UInt8)]
 ([(32 : UInt8)] ++ x_1))
 (K
 (AV.sc
 (Value.string
 (ByteArray.mk
 (Array.mk
 ([(106 : UInt8), (117 : UInt8), (109 : UInt8),
 (112 : UInt8), (102 : UInt8), (97 : UInt8),
 (108 : UInt8), (115 : UInt8), (101 : UInt8)] ++
 ([(32 : UInt8)] ++ x_1)))))))
 False)
 False)
 (iteP (op == (24 : Int))
 (I64 x ∧
 ∀ (x_1 : List UInt8),
 x_1 = Lib.itoa x →
 iteP (strFits [(32 : UInt8)] x_1)
 (iteP
 (strFits
 [(106 : UInt8), (117 : UInt8), (109 : UInt8), (112 : UInt8),
 (116 : UInt8), (114 : UInt8), (117 : UInt8),
 (101 : UInt8)]
 ([(32 : UInt8)] ++ x_1))
 (K
 (AV.sc
 (Value.string
 (ByteArray.mk
 (Array.mk
 ([(106 : UInt8), (117 : UInt8), (109 : UInt8),
 (112 : UInt8), (116 : UInt8), (114 : UInt8),
 (117 : UInt8), (101 : UInt8)] ++
 ([(32 : UInt8)] ++ x_1)))))))
 False)
 False)
 (iteP (op == (25 : Int))
 (K
 (AV.sc
 (Value.string
 (ByteArray.mk
 (Array.mk [(112 : UInt8), (111 : UInt8), (112 : UInt8)])))))
 (iteP (op == (26 : Int))
 (I64 x ∧
 ∀ (x_1 : List UInt8),
 x_1 = Lib.itoa x →
 iteP (strFits [(32 : UInt8)] x_1)
 (iteP
 (strFits
 [(97 : UInt8), (114 : UInt8), (114 : UInt8),
 (97 : UInt8), (121 : UInt8)]
 ([(32 : UInt8)] ++ x_1))
 (Small t ∧
 ∀ (x : List UInt8),
 x = quoT t →
 iteP (strFits [(32 : UInt8)] x)
 (iteP
 (strFits
 ([(97 : UInt8), (114 : UInt8), (114 : UInt8),
 (97 : UInt8), (121 : UInt8)] ++
 ([(32 : UInt8)] ++ x_1))
 ([(32 : UInt8)] ++ x))
 (K
 (AV.sc
 (Value.string
 (ByteArray.mk
 (Array.mk
 ([(97 : UInt8), (114 : UInt8),
 (114 : UInt8), (97 : UInt8),
 (121 : UInt8)] ++
 ([(32 : UInt8)] ++ x_1) ++
 ([(32 : UInt8)] ++ x)))))))
 False)
 False)
 False)
 False)
 (iteP (op == (27 : Int))
 (K
 (AV.sc
 (Value.string
 (ByteArray.mk
 (Array.mk
 [(110 : UInt8), (101 : UInt8), (119 : UInt8),
 (97 : UInt8), (114 : UInt8), (114 : UInt8),
 (97 : UInt8), (121 : UInt8)])))))
 (iteP (op == (28 : Int))
 (I64 x ∧
 ∀ (x_1 : List UInt8),
 x_1 = Lib.itoa x →
 iteP (strFits [(32 : UInt8)] x_1)
 (iteP
 (strFits
 [(99 : UInt8), (97 : UInt8), (108 : UInt8),
 (108 : UInt8)]
 ([(32 : UInt8)] ++ x_1))
 (K
 (AV.sc
 (Value.string
 (ByteArray.mk
 (Array.mk
 ([(99 : UInt8), (97 : UInt8), (108 : UInt8),
 (108 : UInt8)] ++
 ([(32 : UInt8)] ++ x_1)))))))
 False)
 False)
 (iteP (op == (29 : Int))
 (K
 (AV.sc
 (Value.string
 (ByteArray.mk
 (Array.mk
 [(114 : UInt8), (101 : UInt8), (116 : UInt8),
 (117 : UInt8), (114 : UInt8), (110 : UInt8)])))))
 (iteP (op == (30 : Int))
 (I64 x ∧
 ∀ (x_1 : List UInt8),
 x_1 = Lib.itoa x →
 iteP (strFits [(32 : UInt8)] x_1)
 (iteP
 (strFits
 [(103 : UInt8), (101 : UInt8), (116 : UInt8)]
 ([(32 : UInt8)] ++ x_1))
 (I64 y ∧
 ∀ (x : List UInt8),
 x = Lib.itoa y →
 iteP (strFits [(32 : UInt8)] x)
 (iteP
 (strFits
 ([(103 : UInt8), (101 : UInt8),
 (116 : UInt8)] ++
 ([(32 : UInt8)] ++ x_1))
 ([(32 : UInt8)] ++ x))
 (Small t ∧
 ∀ (x_2 : List UInt8),
 x_2 = quoT t →
 iteP (strFits [(32 : UInt8)] x_2)
 (iteP
 (strFits
 ([(103 : UInt8),
 (101 : UInt8),
 (116 : UInt8)] ++
 ([(32 : UInt8)] ++
 x_1) ++
 ([(32 : UInt8)] ++ x))
 ([(32 : UInt8)] ++ x_2))
 (K
 (AV.sc
 (Value.string
 (ByteArray.mk
 (Array.mk
 ([(103 : UInt8),
 (101 :
 UInt8),
 (116 :
 UInt8)] ++
 ([(32 :
 UInt8)] ++
 x_1) ++
 ([(32 :
 UInt8)] ++
 x) ++
 ([(32 : UInt8)] ++
 x_2)))))))
 False)
 False)
 False)
 False)
 False)
 False)
 (iteP (op == (31 : Int))
 (I64 y ∧
 ∀ (x : List UInt8),
 x = Lib.itoa y →
 iteP (strFits [(32 : UInt8)] x)
 (iteP
 (strFits
 [(112 : UInt8), (117 : UInt8), (114 : UInt8),
 (101 : UInt8)]
 ([(32 : UInt8)] ++ x))
 (Small t ∧
 ∀ (x_1 : List UInt8),
 x_1 = quoT t →
 iteP (strFits [(32 : UInt8)] x_1)
 (iteP
 (strFits
 ([(112 : UInt8), (117 : UInt8),
 (114 : UInt8), (101 : UInt8)] ++
 ([(32 : UInt8)] ++ x))
 ([(32 : UInt8)] ++ x_1))
 (K
 (AV.sc
 (Value.string
 (ByteArray.mk
 (Array.mk
 ([(112 : UInt8),
 (117 : UInt8),
 (114 : UInt8),
 (101 : UInt8)] ++
 ([(32 : UInt8)] ++ x) ++
 ([(32 : UInt8)] ++
 x_1)))))))
 False)
 False)
 False)
 False)
 (iteP (op == (32 : Int))
 (I64 x ∧
 ∀ (x_1 : List UInt8),
 x_1 = Lib.itoa x →
 iteP (strFits [(32 : UInt8)] x_1)
 (iteP
 (strFits
 [(115 : UInt8), (112 : UInt8),
 (108 : UInt8), (105 : UInt8),
 (116 : UInt8)]
 ([(32 : UInt8)] ++ x_1))
 (Small t ∧
 ∀ (x : List UInt8),
 x = quoT t →
 iteP (strFits [(32 : UInt8)] x)
 (iteP
 (strFits
 ([(115 : UInt8), (112 : UInt8),
 (108 : UInt8), (105 : UInt8),
 (116 : UInt8)] ++
 ([(32 : UInt8)] ++ x_1))
 ([(32 : UInt8)] ++ x))
 (K
 (AV.sc
 (Value.string
 (ByteArray.mk
 (Array.mk
 ([(115 : UInt8),
 (112 : UInt8),
 (108 : UInt8),
 (105 : UInt8),
 (116 : UInt8)] ++
 ([(32 : UInt8)] ++
 x_1) ++
 ([(32 : UInt8)] ++
 x)))))))
 False)
 False)
 False)
 False)
 (iteP (op == (33 : Int))
 (I64 x ∧
 ∀ (x_1 : List UInt8),
 x_1 = Lib.itoa x →
 iteP (strFits [(32 : UInt8)] x_1)
 (iteP
 (strFits
 [(115 : UInt8), (117 : UInt8),
 (98 : UInt8)]
 ([(32 : UInt8)] ++ x_1))
 (I64 y ∧
 ∀ (x : List UInt8),
 x = Lib.itoa y →
 iteP (strFits [(32 : UInt8)] x)
 (iteP
 (strFits
 ([(115 : UInt8), (117 : UInt8),
 (98 : UInt8)] ++
 ([(32 : UInt8)] ++ x_1))
 ([(32 : UInt8)] ++ x))
 (Small t ∧
 ∀ (x_2 : List UInt8),
 x_2 = quoT t →
 iteP
 (strFits [(32 : UInt8)]
 x_2)
 (iteP
 (strFits
 ([(115 : UInt8),
 (117 : UInt8),
 (98 : UInt8)] ++
 ([(32 : UInt8)] ++
 x_1) ++
 ([(32 : UInt8)] ++
 x))
 ([(32 : UInt8)] ++
 x_2))
 (K
 (AV.sc
 (Value.string
 (ByteArray.mk
 (Array.mk
 ([(115 :
 UInt8),
 (117 :
 UInt8),
 (98 :
 UInt8)] ++
 ([(32 :
 UInt8)] ++
 x_1) ++
 ([(32 :
 UInt8)] ++
 x) ++
 ([(32 :
 UInt8)] ++
 x_2)))))))
 False)
 False)
 False)
 False)
 False)
 False)
 (iteP (op == (34 : Int))
 (K
 (AV.sc
 (Value.string
 (ByteArray.mk
 (Array.mk
 [(102 : UInt8), (105 : UInt8),
 (110 : UInt8), (100 : UInt8)])))))
 (iteP (op == (35 : Int))
 (I64 y ∧
 ∀ (x : List UInt8),
 x = Lib.itoa y →
 iteP (strFits [(32 : UInt8)] x)
 (iteP
 (strFits
 [(106 : UInt8), (111 : UInt8),
 (105 : UInt8), (110 : UInt8)]
 ([(32 : UInt8)] ++ x))
 (K
 (AV.sc
 (Value.string
 (ByteArray.mk
 (Array.mk
 ([(106 : UInt8),
 (111 : UInt8),
 (105 : UInt8),
 (110 : UInt8)] ++
 ([(32 : UInt8)] ++ x)))))))
 False)
 False)
 (iteP (op == (36 : Int))
 (I64 y ∧
 ∀ (x : List UInt8),
 x = Lib.itoa y →
 iteP (strFits [(32 : UInt8)] x)
 (iteP
 (strFits
 [(115 : UInt8), (112 : UInt8),
 (114 : UInt8), (105 : UInt8),
 (110 : UInt8), (116 : UInt8),
 (102 : UInt8)]
 ([(32 : UInt8)] ++ x))
 (K
 (AV.sc
 (Value.string
 (ByteArray.mk
 (Array.mk
 ([(115 : UInt8),
 (112 : UInt8),
 (114 : UInt8),
 (105 : UInt8),
 (110 : UInt8),
 (116 : UInt8),
 (102 : UInt8)] ++
 ([(32 : UInt8)] ++
 x)))))))
 False)
 False)
 (iteP (op == (37 : Int))
 (I64 x ∧
 ∀ (x_1 : List UInt8),
 x_1 = Lib.itoa x →
 iteP (strFits [(32 : UInt8)] x_1)
 (iteP
 (strFits
 [(119 : UInt8), (114 : UInt8),
 (105 : UInt8), (116 : UInt8),
 (101 : UInt8)]
 ([(32 : UInt8)] ++ x_1))
 (K
 (AV.sc
 (Value.string
 (ByteArray.mk
 (Array.mk
 ([(119 : UInt8),
 (114 : UInt8),
 (105 : UInt8),
 (116 : UInt8),
 (101 : UInt8)] ++
 ([(32 : UInt8)] ++
 x_1)))))))
 False)
 False)
 (iteP (op == (38 : Int))
 (I64 x ∧
 ∀ (x_1 : List UInt8),
 x_1 = Lib.itoa x →
 iteP (strFits [(32 : UInt8)] x_1)
 (iteP
 (strFits
 [(108 : UInt8), (105 : UInt8),
 (115 : UInt8), (116 : UInt8)]
 ([(32 : UInt8)] ++ x_1))
 (Small t ∧
 ∀ (x : List UInt8),
 x = quoT t →
 iteP
 (strFits [(32 : UInt8)] x)
 (iteP
 (strFits
 ([(108 : UInt8),
 (105 : UInt8),
 (115 : UInt8),
 (116 : UInt8)] ++
 ([(32 : UInt8)] ++
 x_1))
 ([(32 : UInt8)] ++ x))
 (K
 (AV.sc
 (Value.string
 (ByteArray.mk
 (Array.mk
 ([(108 :
 UInt8),
 (105 :
 UInt8),
 (115 :
 UInt8),
 (116 :
 UInt8)] ++
 ([(32 :
 UInt8)] ++
 x_1) ++
 ([(32 :
 UInt8)] ++
 x)))))))
 False)
 False)
 False)
 False)
 (iteP (op == (39 : Int))
 (I64 x ∧
 ∀ (x_1 : List UInt8),
 x_1 = Lib.itoa x →
 iteP (strFits [(32 : UInt8)] x_1)
 (iteP
 (strFits
 [(110 : UInt8), (101 : UInt8),
 (120 : UInt8),
 (116 : UInt8)]
 ([(32 : UInt8)] ++ x_1))
 (K
 (AV.sc
 (Value.string
 (ByteArray.mk
 (Array.mk
 ([(110 : UInt8),
 (101 : UInt8),
 (120 : UInt8),
 (116 : UInt8)] ++
 ([(32 : UInt8)] ++
 x_1)))))))
 False)
 False)
 (iteP (op == (40 : Int))
 (K
 (AV.sc
 (Value.string
 (ByteArray.mk
 (Array.mk
 [(100 : UInt8), (114 : UInt8),
 (111 : UInt8),
 (112 : UInt8),
 (108 : UInt8),
 (105 : UInt8),
 (115 : UInt8),
 (116 : UInt8)])))))
 (iteP (op == (41 : Int))
 (I64 x ∧
 ∀ (x_1 : List UInt8),
 x_1 = Lib.itoa x →
 iteP
 (strFits [(32 : UInt8)] x_1)
 (iteP
 (strFits
 [(100 : UInt8),
 (101 : UInt8),
 (108 : UInt8),
 (101 : UInt8),
 (116 : UInt8),
 (101 : UInt8)]
 ([(32 : UInt8)] ++ x_1))
 (Small t ∧
 ∀ (x : List UInt8),
 x = quoT t →
 iteP
 (strFits
 [(32 : UInt8)] x)
 (iteP
 (strFits
 ([(100 : UInt8),
 (101 :
 UInt8),
 (108 :
 UInt8),
 (101 :
 UInt8),
 (116 :
 UInt8),
 (101 :
 UInt8)] ++
 ([(32 :
 UInt8)] ++
 x_1))
 ([(32 :
 UInt8)] ++
 x))
 (K
 (AV.sc
 (Value.string
 (ByteArray.mk
 (Array.mk
 ([(100 :
 UInt8),
 (101 :
 UInt8),
 (108 :
 UInt8),
 (101 :
 UInt8),
 (116 :
 UInt8),
 (101 :
 UInt8)] ++
 ([(32 :
 UInt8)] ++
 x_1) ++
 ([(32 :
 UInt8)] ++
 x)))))))
 False)
 False)
 False)
 False)
 (iteP (op == (42 : Int))
 (I64 x ∧
 ∀ (x_1 : List UInt8),
 x_1 = Lib.itoa x →
 iteP
 (strFits [(32 : UInt8)] x_1)
 (iteP
 (strFits
 [(99 : UInt8),
 (108 : UInt8),
 (101 : UInt8),
 (97 : UInt8),
 (114 : UInt8)]
 ([(32 : UInt8)] ++ x_1))
 (Small t ∧
 ∀ (x : List UInt8),
 x = quoT t →
 iteP
 (strFits
 [(32 : UInt8)]
 x)
 (iteP
 (strFits
 ([(99 :
 UInt8),
 (108 :
 UInt8),
 (101 :
 UInt8),
 (97 :
 UInt8),
 (114 :
 UInt8)] ++
 ([(32 :
 UInt8)] ++
 x_1))
 ([(32 :
 UInt8)] ++
 x))
 (K
 (AV.sc
 (Value.string
 (ByteArray.mk
 (Array.mk
 ([(99 :
 UInt8),
 (108 :
 UInt8),
 (101 :
 UInt8),
 (97 :
 UInt8),
 (114 :
 UInt8)] ++
 ([(32 :
 UInt8)] ++
 x_1) ++
 ([(32 :
 UInt8)] ++
 x)))))))
 False)
 False)
 False)
 False)
 (iteP (op == (43 : Int))
 (K
 (AV.sc
 (Value.string
 (ByteArray.mk
 (Array.mk
 [(110 : UInt8),
 (101 : UInt8),
 (120 : UInt8),
 (116 : UInt8),
 (114 : UInt8),
 (101 : UInt8),
 (99 : UInt8),
 (111 : UInt8),
 (114 : UInt8),
 (100 : UInt8)])))))
 (iteP (op == (44 : Int))
 (I64 y ∧
 ∀ (x : List UInt8),
 x = Lib.itoa y →
 iteP
 (strFits [(32 : UInt8)]
 x)
 (iteP
 (strFits
 [(101 : UInt8),
 (120 : UInt8),
 (105 : UInt8),
 (116 : UInt8)]
 ([(32 : UInt8)] ++
 x))
 (K
 (AV.sc
 (Value.string
 (ByteArray.mk
 (Array.mk
 ([(101 :
 UInt8),
 (120 :
 UInt8),
 (105 :
 UInt8),
 (116 :
 UInt8)] ++
 ([(32 :
 UInt8)] ++
 x)))))))
 False)
 False)
 (iteP (op == (45 : Int))
 (I64 x ∧
 ∀ (x_1 : List UInt8),
 x_1 = Lib.itoa x →
 iteP
 (strFits
 [(32 : UInt8)] x_1)
 (iteP
 (strFits
 [(114 : UInt8),
 (97 : UInt8),
 (110 : UInt8),
 (103 : UInt8),
 (101 : UInt8)]
 ([(32 : UInt8)] ++
 x_1))
 (I64 y ∧
 ∀
 (x :
 List UInt8),
 x = Lib.itoa y →
 iteP
 (strFits
 [(32 :
 UInt8)]
 x)
 (iteP
 (strFits
 ([(114 :
 UInt8),
 (97 :
 UInt8),
 (110 :
 UInt8),
 (103 :
 UInt8),
 (101 :
 UInt8)] ++
 ([(32 :
 UInt8)] ++
 x_1))
 ([(32 :
 UInt8)] ++
 x))
 (K
 (AV.sc
 (Value.string
 (ByteArray.mk
 (Array.mk
 ([(114 :
 UInt8),
 (97 :
 UInt8),
 (110 :
 UInt8),
 (103 :
 UInt8),
 (101 :
 UInt8)] ++
 ([(32 :
 UInt8)] ++
 x_1) ++
 ([(32 :
 UInt8)] ++
 x)))))))
 False)
 False)
 False)
 False)
 (iteP (op == (46 : Int))
 (I64 y ∧
 ∀ (x : List UInt8),
 x = Lib.itoa y →
 iteP
 (strFits
 [(32 : UInt8)] x)
 (iteP
 (strFits
 [(111 : UInt8),
 (112 : UInt8),
 (101 : UInt8),
 (110 : UInt8)]
 ([(32 :
 UInt8)] ++
 x))
 (K
 (AV.sc
 (Value.string
 (ByteArray.mk
 (Array.mk
 ([(111 :
 UInt8),
 (112 :
 UInt8),
 (101 :
 UInt8),
 (110 :
 UInt8)] ++
 ([(32 :
 UInt8)] ++
 x)))))))
 False)
 False)
 (iteP (op == (47 : Int))
 (I64 y ∧
 ∀ (x : List UInt8),
 x = Lib.itoa y →
 iteP
 (strFits
 [(32 : UInt8)]
 x)
 (iteP
 (strFits
 [(99 : UInt8),
 (108 :
 UInt8),
 (111 :
 UInt8),
 (115 :
 UInt8),
 (101 :
 UInt8)]
 ([(32 :
 UInt8)] ++
 x))
 (K
 (AV.sc
 (Value.string
 (ByteArray.mk
 (Array.mk
 ([(99 :
 UInt8),
 (108 :
 UInt8),
 (111 :
 UInt8),
 (115 :
 UInt8),
 (101 :
 UInt8)] ++
 ([(32 :
 UInt8)] ++
 x)))))))
 False)
 False)
 (iteP (op == (48 : Int))
 (K
 (AV.sc
 (Value.string
 (ByteArray.mk
 (Array.mk
 [(100 :
 UInt8),
 (111 :
 UInt8),
 (110 :
 UInt8),
 (101 :
 UInt8)])))))
 (iteP (op == (49 : Int))
 (K
 (AV.sc
 (Value.string
 (ByteArray.mk
 (Array.mk
 [(113 :
 UInt8),
 (117 :
 UInt8),
 (105 :
 UInt8),
 (116 :
 UInt8)])))))
 (I64 op ∧
 ∀ (x : List UInt8),
 x = Lib.itoa op →
 iteP
 (strFits
 [(111 :
 UInt8),
 (112 :
 UInt8),
 (32 :
 UInt8)]
 x)
 (K
 (AV.sc
 (Value.string
 (ByteArray.mk
 (Array.mk
 ([(111 :
 UInt8),
 (112 :
 UInt8),
 (32 :
 UInt8)] ++
 x))))))
 False)))))))))))))))))))))))))))))))))))))))))))))))))) :
 (fun (M : Int) (op x y n : Int) (t : List UInt8) (a : Int) (K : AV → Prop) => wpCall T22 (cfg M) Tryz.prog 80 22 [instA op x y n t a] heapF fun r h' => wpBack h' r K) M op x y n t a K :=
 Eq.mp (by kernel_rfl) h
end
end Go.Proofs.Sp
namespace Go.Proofs.Sp
open Go Go.Ef Go.Proofs.Pt
noncomputable section
set_option maxRecDepth 100000
variable {M : Int}
theorem itoa_len {n : Int} (h : I64 n) : (Lib.itoa n).length ≤ 21 := by
 have l1 := h.lo
 have l2 := h.hi
 unfold Lib.itoa
 split
 ·have := (dec_len (u := n.natAbs) (by omega)).1
  simp; omega
 ·have := (dec_len (u := n.toNat) (by omega)).1
  omega
theorem decT_len (n : Int) : (decT n).length ≤ 30 := by
 obtain ⟨b1, b2⟩ := near_le n
 unfold decT decP
 have l1 := (dec_len (u := (nearM 10000000000000 n).natAbs / 10000) (by omega)).1
 have hm : (nearM 10000000000000 n).natAbs % 10000 < 10000 := Nat.mod_lt _ (by omega)
 have l4 := four_len ((nearM 10000000000000 n).natAbs % 10000) hm
 rw [← leastF_four hm]
 split <;> split <;> simp <;> omega
theorem quoT_len (t : List UInt8) : (quoT t).length ≤ 8 * t.length + 2 := by
 have h2 := escF_len t
 have h3 := quoF_len (escF t)
 unfold quoT
 simp; omega
theorem op_text {op x y n : Int} {t : List UInt8} {a : Int} {K : AV → Prop} (hp : InstOk op x y n t) (hK : K (aStr (shownT op x y n t))) : wpCall T22 (cfg M) Tryz.prog 80 22 [instA op x y n t a] heapF fun r h' => wpBack h' r K := by
 obtain ⟨ho, hx, hy, hn, ht⟩ := hp
 have lo := itoa_len ho
 have lx := itoa_len hx
 have ly := itoa_len hy
 have ln := decT_len n
 have lt := quoT_len t
 have ls := ht.le
 have key : ∀ {s : List UInt8}, s = shownT op x y n t → K (AV.sc (Value.string (ByteArray.mk (Array.mk s)))) := fun h => by rw [h]; exact hK
 refine v22 M op x y n t a K ?_
 refine iti (fun q => ?_) (fun q => ?_)
 ·have q : op = 1 := by simpa using q
  exact key (by rw [q]; unfold shownT; rw [show descW 1 = ([115, 116, 101, 112], []) from rfl]; simp)
 refine iti (fun q => ?_) (fun q => ?_)
 ·have q : op = 2 := by simpa using q
  refine ⟨hn, fun z hz => ?_⟩
  subst hz
  refine it (fitsS (by simp; omega)) (it (fitsS (by simp; omega)) ?_)
  exact key (by rw [q]; unfold shownT; rw [show descW 2 = ([110, 117, 109, 98, 101, 114], [110]) from rfl]; simp [opP])
 refine iti (fun q => ?_) (fun q => ?_)
 ·have q : op = 3 := by simpa using q
  refine ⟨ht, fun z hz => ?_⟩
  subst hz
  refine it (fitsS (by simp; omega)) (it (fitsS (by simp; omega)) ?_)
  exact key (by rw [q]; unfold shownT; rw [show descW 3 = ([115, 116, 114, 105, 110, 103], [116]) from rfl]; simp [opP])
 refine iti (fun q => ?_) (fun q => ?_)
 ·have q : op = 4 := by simpa using q
  exact key (by rw [q]; unfold shownT; rw [show descW 4 = ([110, 111, 110, 101], []) from rfl]; simp)
 refine iti (fun q => ?_) (fun q => ?_)
 ·have q : op = 5 := by simpa using q
  refine ⟨ht, fun z hz => ?_⟩
  subst hz
  refine it (fitsS (by simp; omega)) (it (fitsS (by simp; omega)) ?_)
  exact key (by rw [q]; unfold shownT; rw [show descW 5 = ([114, 101, 99, 111, 114, 100], [116]) from rfl]; simp [opP])
 refine iti (fun q => ?_) (fun q => ?_)
 ·have q : op = 6 := by simpa using q
  refine ⟨hx, fun z hz => ?_⟩
  subst hz
  refine it (fitsS (by simp; omega)) (it (fitsS (by simp; omega)) ?_)
  refine ⟨ht, fun z hz => ?_⟩
  subst hz
  refine it (fitsS (by simp; omega)) (it (fitsS (by simp; omega)) ?_)
  exact key (by rw [q]; unfold shownT; rw [show descW 6 = ([118, 97, 114], [120, 116]) from rfl]; simp [opP])
 refine iti (fun q => ?_) (fun q => ?_)
 ·have q : op = 7 := by simpa using q
  exact key (by rw [q]; unfold shownT; rw [show descW 7 = ([102, 105, 101, 108, 100], []) from rfl]; simp)
 refine iti (fun q => ?_) (fun q => ?_)
 ·have q : op = 8 := by simpa using q
  refine ⟨hy, fun z hz => ?_⟩
  subst hz
  refine it (fitsS (by simp; omega)) (it (fitsS (by simp; omega)) ?_)
  exact key (by rw [q]; unfold shownT; rw [show descW 8 = ([107, 101, 121], [121]) from rfl]; simp [opP])
 refine iti (fun q => ?_) (fun q => ?_)
 ·have q : op = 9 := by simpa using q
  refine ⟨hx, fun z hz => ?_⟩
  subst hz
  refine it (fitsS (by simp; omega)) (it (fitsS (by simp; omega)) ?_)
  refine ⟨ht, fun z hz => ?_⟩
  subst hz
  refine it (fitsS (by simp; omega)) (it (fitsS (by simp; omega)) ?_)
  exact key (by rw [q]; unfold shownT; rw [show descW 9 = ([101, 108, 101, 109], [120, 116]) from rfl]; simp [opP])
 refine iti (fun q => ?_) (fun q => ?_)
 ·have q : op = 10 := by simpa using q
  refine ⟨hx, fun z hz => ?_⟩
  subst hz
  refine it (fitsS (by simp; omega)) (it (fitsS (by simp; omega)) ?_)
  refine ⟨ht, fun z hz => ?_⟩
  subst hz
  refine it (fitsS (by simp; omega)) (it (fitsS (by simp; omega)) ?_)
  exact key (by rw [q]; unfold shownT; rw [show descW 10 = ([105, 110], [120, 116]) from rfl]; simp [opP])
 refine iti (fun q => ?_) (fun q => ?_)
 ·have q : op = 11 := by simpa using q
  refine ⟨hx, fun z hz => ?_⟩
  subst hz
  refine it (fitsS (by simp; omega)) (it (fitsS (by simp; omega)) ?_)
  refine ⟨hy, fun z hz => ?_⟩
  subst hz
  refine it (fitsS (by simp; omega)) (it (fitsS (by simp; omega)) ?_)
  refine ⟨ht, fun z hz => ?_⟩
  subst hz
  refine it (fitsS (by simp; omega)) (it (fitsS (by simp; omega)) ?_)
  exact key (by rw [q]; unfold shownT; rw [show descW 11 = ([115, 101, 116, 118, 97, 114], [120, 121, 116]) from rfl]; simp [opP])
 refine iti (fun q => ?_) (fun q => ?_)
 ·have q : op = 12 := by simpa using q
  refine ⟨hy, fun z hz => ?_⟩
  subst hz
  refine it (fitsS (by simp; omega)) (it (fitsS (by simp; omega)) ?_)
  exact key (by rw [q]; unfold shownT; rw [show descW 12 = ([115, 101, 116, 102, 105, 101, 108, 100], [121]) from rfl]; simp [opP])
 refine iti (fun q => ?_) (fun q => ?_)
 ·have q : op = 13 := by simpa using q
  refine ⟨hx, fun z hz => ?_⟩
  subst hz
  refine it (fitsS (by simp; omega)) (it (fitsS (by simp; omega)) ?_)
  refine ⟨hy, fun z hz => ?_⟩
  subst hz
  refine it (fitsS (by simp; omega)) (it (fitsS (by simp; omega)) ?_)
  refine ⟨ht, fun z hz => ?_⟩
  subst hz
  refine it (fitsS (by simp; omega)) (it (fitsS (by simp; omega)) ?_)
  exact key (by rw [q]; unfold shownT; rw [show descW 13 = ([115, 101, 116, 101, 108, 101, 109], [120, 121, 116]) from rfl]; simp [opP])
 refine iti (fun q => ?_) (fun q => ?_)
 ·have q : op = 14 := by simpa using q
  refine ⟨hx, fun z hz => ?_⟩
  subst hz
  refine it (fitsS (by simp; omega)) (it (fitsS (by simp; omega)) ?_)
  refine ⟨hy, fun z hz => ?_⟩
  subst hz
  refine it (fitsS (by simp; omega)) (it (fitsS (by simp; omega)) ?_)
  refine ⟨ht, fun z hz => ?_⟩
  subst hz
  refine it (fitsS (by simp; omega)) (it (fitsS (by simp; omega)) ?_)
  exact key (by rw [q]; unfold shownT; rw [show descW 14 = ([115, 116, 101, 112, 118, 97, 114], [120, 121, 116]) from rfl]; simp [opP])
 refine iti (fun q => ?_) (fun q => ?_)
 ·have q : op = 15 := by simpa using q
  refine ⟨hy, fun z hz => ?_⟩
  subst hz
  refine it (fitsS (by simp; omega)) (it (fitsS (by simp; omega)) ?_)
  exact key (by rw [q]; unfold shownT; rw [show descW 15 = ([115, 116, 101, 112, 102, 105, 101, 108, 100], [121]) from rfl]; simp [opP])
 refine iti (fun q => ?_) (fun q => ?_)
 ·have q : op = 16 := by simpa using q
  refine ⟨hx, fun z hz => ?_⟩
  subst hz
  refine it (fitsS (by simp; omega)) (it (fitsS (by simp; omega)) ?_)
  refine ⟨hy, fun z hz => ?_⟩
  subst hz
  refine it (fitsS (by simp; omega)) (it (fitsS (by simp; omega)) ?_)
  refine ⟨ht, fun z hz => ?_⟩
  subst hz
  refine it (fitsS (by simp; omega)) (it (fitsS (by simp; omega)) ?_)
  exact key (by rw [q]; unfold shownT; rw [show descW 16 = ([115, 116, 101, 112, 101, 108, 101, 109], [120, 121, 116]) from rfl]; simp [opP])
 refine iti (fun q => ?_) (fun q => ?_)
 ·have q : op = 17 := by simpa using q
  refine ⟨hy, fun z hz => ?_⟩
  subst hz
  refine it (fitsS (by simp; omega)) (it (fitsS (by simp; omega)) ?_)
  exact key (by rw [q]; unfold shownT; rw [show descW 17 = ([109, 97, 116, 99, 104], [121]) from rfl]; simp [opP])
 refine iti (fun q => ?_) (fun q => ?_)
 ·have q : op = 18 := by simpa using q
  refine ⟨hy, fun z hz => ?_⟩
  subst hz
  refine it (fitsS (by simp; omega)) (it (fitsS (by simp; omega)) ?_)
  exact key (by rw [q]; unfold shownT; rw [show descW 18 = ([98, 105, 110, 97, 114, 121], [121]) from rfl]; simp [opP])
 refine iti (fun q => ?_) (fun q => ?_)
 ·have q : op = 19 := by simpa using q
  exact key (by rw [q]; unfold shownT; rw [show descW 19 = ([99, 111, 110, 99, 97, 116], []) from rfl]; simp)
 refine iti (fun q => ?_) (fun q => ?_)
 ·have q : op = 20 := by simpa using q
  refine ⟨hy, fun z hz => ?_⟩
  subst hz
  refine it (fitsS (by simp; omega)) (it (fitsS (by simp; omega)) ?_)
  exact key (by rw [q]; unfold shownT; rw [show descW 20 = ([117, 110, 97, 114, 121], [121]) from rfl]; simp [opP])
 refine iti (fun q => ?_) (fun q => ?_)
 ·have q : op = 21 := by simpa using q
  exact key (by rw [q]; unfold shownT; rw [show descW 21 = ([116, 114, 117, 116, 104], []) from rfl]; simp)
 refine iti (fun q => ?_) (fun q => ?_)
 ·have q : op = 22 := by simpa using q
  refine ⟨hx, fun z hz => ?_⟩
  subst hz
  refine it (fitsS (by simp; omega)) (it (fitsS (by simp; omega)) ?_)
  exact key (by rw [q]; unfold shownT; rw [show descW 22 = ([106, 117, 109, 112], [120]) from rfl]; simp [opP])
 refine iti (fun q => ?_) (fun q => ?_)
 ·have q : op = 23 := by simpa using q
  refine ⟨hx, fun z hz => ?_⟩
  subst hz
  refine it (fitsS (by simp; omega)) (it (fitsS (by simp; omega)) ?_)
  exact key (by rw [q]; unfold shownT; rw [show descW 23 = ([106, 117, 109, 112, 102, 97, 108, 115, 101], [120]) from rfl]; simp [opP])
 refine iti (fun q => ?_) (fun q => ?_)
 ·have q : op = 24 := by simpa using q
  refine ⟨hx, fun z hz => ?_⟩
  subst hz
  refine it (fitsS (by simp; omega)) (it (fitsS (by simp; omega)) ?_)
  exact key (by rw [q]; unfold shownT; rw [show descW 24 = ([106, 117, 109, 112, 116, 114, 117, 101], [120]) from rfl]; simp [opP])
 refine iti (fun q => ?_) (fun q => ?_)
 ·have q : op = 25 := by simpa using q
  exact key (by rw [q]; unfold shownT; rw [show descW 25 = ([112, 111, 112], []) from rfl]; simp)
 refine iti (fun q => ?_) (fun q => ?_)
 ·have q : op = 26 := by simpa using q
  refine ⟨hx, fun z hz => ?_⟩
  subst hz
  refine it (fitsS (by simp; omega)) (it (fitsS (by simp; omega)) ?_)
  refine ⟨ht, fun z hz => ?_⟩
  subst hz
  refine it (fitsS (by simp; omega)) (it (fitsS (by simp; omega)) ?_)
  exact key (by rw [q]; unfold shownT; rw [show descW 26 = ([97, 114, 114, 97, 121], [120, 116]) from rfl]; simp [opP])
 refine iti (fun q => ?_) (fun q => ?_)
 ·have q : op = 27 := by simpa using q
  exact key (by rw [q]; unfold shownT; rw [show descW 27 = ([110, 101, 119, 97, 114, 114, 97, 121], []) from rfl]; simp)
 refine iti (fun q => ?_) (fun q => ?_)
 ·have q : op = 28 := by simpa using q
  refine ⟨hx, fun z hz => ?_⟩
  subst hz
  refine it (fitsS (by simp; omega)) (it (fitsS (by simp; omega)) ?_)
  exact key (by rw [q]; unfold shownT; rw [show descW 28 = ([99, 97, 108, 108], [120]) from rfl]; simp [opP])
 refine iti (fun q => ?_) (fun q => ?_)
 ·have q : op = 29 := by simpa using q
  exact key (by rw [q]; unfold shownT; rw [show descW 29 = ([114, 101, 116, 117, 114, 110], []) from rfl]; simp)
 refine iti (fun q => ?_) (fun q => ?_)
 ·have q : op = 30 := by simpa using q
  refine ⟨hx, fun z hz => ?_⟩
  subst hz
  refine it (fitsS (by simp; omega)) (it (fitsS (by simp; omega)) ?_)
  refine ⟨hy, fun z hz => ?_⟩
  subst hz
  refine it (fitsS (by simp; omega)) (it (fitsS (by simp; omega)) ?_)
  refine ⟨ht, fun z hz => ?_⟩
  subst hz
  refine it (fitsS (by simp; omega)) (it (fitsS (by simp; omega)) ?_)
  exact key (by rw [q]; unfold shownT; rw [show descW 30 = ([103, 101, 116], [120, 121, 116]) from rfl]; simp [opP])
 refine iti (fun q => ?_) (fun q => ?_)
 ·have q : op = 31 := by simpa using q
  refine ⟨hy, fun z hz => ?_⟩
  subst hz
  refine it (fitsS (by simp; omega)) (it (fitsS (by simp; omega)) ?_)
  refine ⟨ht, fun z hz => ?_⟩
  subst hz
  refine it (fitsS (by simp; omega)) (it (fitsS (by simp; omega)) ?_)
  exact key (by rw [q]; unfold shownT; rw [show descW 31 = ([112, 117, 114, 101], [121, 116]) from rfl]; simp [opP])
 refine iti (fun q => ?_) (fun q => ?_)
 ·have q : op = 32 := by simpa using q
  refine ⟨hx, fun z hz => ?_⟩
  subst hz
  refine it (fitsS (by simp; omega)) (it (fitsS (by simp; omega)) ?_)
  refine ⟨ht, fun z hz => ?_⟩
  subst hz
  refine it (fitsS (by simp; omega)) (it (fitsS (by simp; omega)) ?_)
  exact key (by rw [q]; unfold shownT; rw [show descW 32 = ([115, 112, 108, 105, 116], [120, 116]) from rfl]; simp [opP])
 refine iti (fun q => ?_) (fun q => ?_)
 ·have q : op = 33 := by simpa using q
  refine ⟨hx, fun z hz => ?_⟩
  subst hz
  refine it (fitsS (by simp; omega)) (it (fitsS (by simp; omega)) ?_)
  refine ⟨hy, fun z hz => ?_⟩
  subst hz
  refine it (fitsS (by simp; omega)) (it (fitsS (by simp; omega)) ?_)
  refine ⟨ht, fun z hz => ?_⟩
  subst hz
  refine it (fitsS (by simp; omega)) (it (fitsS (by simp; omega)) ?_)
  exact key (by rw [q]; unfold shownT; rw [show descW 33 = ([115, 117, 98], [120, 121, 116]) from rfl]; simp [opP])
 refine iti (fun q => ?_) (fun q => ?_)
 ·have q : op = 34 := by simpa using q
  exact key (by rw [q]; unfold shownT; rw [show descW 34 = ([102, 105, 110, 100], []) from rfl]; simp)
 refine iti (fun q => ?_) (fun q => ?_)
 ·have q : op = 35 := by simpa using q
  refine ⟨hy, fun z hz => ?_⟩
  subst hz
  refine it (fitsS (by simp; omega)) (it (fitsS (by simp; omega)) ?_)
  exact key (by rw [q]; unfold shownT; rw [show descW 35 = ([106, 111, 105, 110], [121]) from rfl]; simp [opP])
 refine iti (fun q => ?_) (fun q => ?_)
 ·have q : op = 36 := by simpa using q
  refine ⟨hy, fun z hz => ?_⟩
  subst hz
  refine it (fitsS (by simp; omega)) (it (fitsS (by simp; omega)) ?_)
  exact key (by rw [q]; unfold shownT; rw [show descW 36 = ([115, 112, 114, 105, 110, 116, 102], [121]) from rfl]; simp [opP])
 refine iti (fun q => ?_) (fun q => ?_)
 ·have q : op = 37 := by simpa using q
  refine ⟨hx, fun z hz => ?_⟩
  subst hz
  refine it (fitsS (by simp; omega)) (it (fitsS (by simp; omega)) ?_)
  exact key (by rw [q]; unfold shownT; rw [show descW 37 = ([119, 114, 105, 116, 101], [120]) from rfl]; simp [opP])
 refine iti (fun q => ?_) (fun q => ?_)
 ·have q : op = 38 := by simpa using q
  refine ⟨hx, fun z hz => ?_⟩
  subst hz
  refine it (fitsS (by simp; omega)) (it (fitsS (by simp; omega)) ?_)
  refine ⟨ht, fun z hz => ?_⟩
  subst hz
  refine it (fitsS (by simp; omega)) (it (fitsS (by simp; omega)) ?_)
  exact key (by rw [q]; unfold shownT; rw [show descW 38 = ([108, 105, 115, 116], [120, 116]) from rfl]; simp [opP])
 refine iti (fun q => ?_) (fun q => ?_)
 ·have q : op = 39 := by simpa using q
  refine ⟨hx, fun z hz => ?_⟩
  subst hz
  refine it (fitsS (by simp; omega)) (it (fitsS (by simp; omega)) ?_)
  exact key (by rw [q]; unfold shownT; rw [show descW 39 = ([110, 101, 120, 116], [120]) from rfl]; simp [opP])
 refine iti (fun q => ?_) (fun q => ?_)
 ·have q : op = 40 := by simpa using q
  exact key (by rw [q]; unfold shownT; rw [show descW 40 = ([100, 114, 111, 112, 108, 105, 115, 116], []) from rfl]; simp)
 refine iti (fun q => ?_) (fun q => ?_)
 ·have q : op = 41 := by simpa using q
  refine ⟨hx, fun z hz => ?_⟩
  subst hz
  refine it (fitsS (by simp; omega)) (it (fitsS (by simp; omega)) ?_)
  refine ⟨ht, fun z hz => ?_⟩
  subst hz
  refine it (fitsS (by simp; omega)) (it (fitsS (by simp; omega)) ?_)
  exact key (by rw [q]; unfold shownT; rw [show descW 41 = ([100, 101, 108, 101, 116, 101], [120, 116]) from rfl]; simp [opP])
 refine iti (fun q => ?_) (fun q => ?_)
 ·have q : op = 42 := by simpa using q
  refine ⟨hx, fun z hz => ?_⟩
  subst hz
  refine it (fitsS (by simp; omega)) (it (fitsS (by simp; omega)) ?_)
  refine ⟨ht, fun z hz => ?_⟩
  subst hz
  refine it (fitsS (by simp; omega)) (it (fitsS (by simp; omega)) ?_)
  exact key (by rw [q]; unfold shownT; rw [show descW 42 = ([99, 108, 101, 97, 114], [120, 116]) from rfl]; simp [opP])
 refine iti (fun q => ?_) (fun q => ?_)
 ·have q : op = 43 := by simpa using q
  exact key (by rw [q]; unfold shownT; rw [show descW 43 = ([110, 101, 120, 116, 114, 101, 99, 111, 114, 100], []) from rfl]; simp)
 refine iti (fun q => ?_) (fun q => ?_)
 ·have q : op = 44 := by simpa using q
  refine ⟨hy, fun z hz => ?_⟩
  subst hz
  refine it (fitsS (by simp; omega)) (it (fitsS (by simp; omega)) ?_)
  exact key (by rw [q]; unfold shownT; rw [show descW 44 = ([101, 120, 105, 116], [121]) from rfl]; simp [opP])
 refine iti (fun q => ?_) (fun q => ?_)
 ·have q : op = 45 := by simpa using q
  refine ⟨hx, fun z hz => ?_⟩
  subst hz
  refine it (fitsS (by simp; omega)) (it (fitsS (by simp; omega)) ?_)
  refine ⟨hy, fun z hz => ?_⟩
  subst hz
  refine it (fitsS (by simp; omega)) (it (fitsS (by simp; omega)) ?_)
  exact key (by rw [q]; unfold shownT; rw [show descW 45 = ([114, 97, 110, 103, 101], [120, 121]) from rfl]; simp [opP])
 refine iti (fun q => ?_) (fun q => ?_)
 ·have q : op = 46 := by simpa using q
  refine ⟨hy, fun z hz => ?_⟩
  subst hz
  refine it (fitsS (by simp; omega)) (it (fitsS (by simp; omega)) ?_)
  exact key (by rw [q]; unfold shownT; rw [show descW 46 = ([111, 112, 101, 110], [121]) from rfl]; simp [opP])
 refine iti (fun q => ?_) (fun q => ?_)
 ·have q : op = 47 := by simpa using q
  refine ⟨hy, fun z hz => ?_⟩
  subst hz
  refine it (fitsS (by simp; omega)) (it (fitsS (by simp; omega)) ?_)
  exact key (by rw [q]; unfold shownT; rw [show descW 47 = ([99, 108, 111, 115, 101], [121]) from rfl]; simp [opP])
 refine iti (fun q => ?_) (fun q => ?_)
 ·have q : op = 48 := by simpa using q
  exact key (by rw [q]; unfold shownT; rw [show descW 48 = ([100, 111, 110, 101], []) from rfl]; simp)
 refine iti (fun q => ?_) (fun q => ?_)
 ·have q : op = 49 := by simpa using q
  exact key (by rw [q]; unfold shownT; rw [show descW 49 = ([113, 117, 105, 116], []) from rfl]; simp)
 refine ⟨ho, fun z hz => ?_⟩
 subst hz
 refine it (fitsS (by simp; omega)) (key ?_)
 unfold shownT descW
 rw [if_neg]
 ·simp
 ·intro h
  simp only [int_eq, decide_eq_false_iff_not] at *
  omega
theorem ok22 {T : Tab} (O : Ok M T) : Ok M (T.addC 22 C22) := by
 refine addC_ok O fun args h s hs hp => ?_
 unfold C22 at hs
 split at hs
 ·rename_i op x y n t a
  cases hs
  obtain ⟨m, v, h', e, rfl, rfl⟩ := EvP.freshV (g := 22) (args := [instA op x y n t.data.toList a]) (h := h) (v := aStr (shownT op x y n t.data.toList)) (ok21 (ok54 (ok20 (M := M) ok0))) (n := 80) (by kernel_rfl) rfl (args' := [instA op x y n t.data.toList a]) rfl (op_text hp rfl)
  exact ⟨_, List.mem_singleton.2 rfl, _, m, rfl, e⟩
 ·cases hs
end
end Go.Proofs.Sp
