/- Printf: the law in every world, and its card. -/
import Derived.Test.YtfgocjmkefeeeaaDoorPrF
import Derived.Test.YtfgocjmkefeeeaaDoorPrC
import Derived.Test.YtfgocjmkefeeeaaDoorEfP
import Derived.Test.YtfgocjmkefeeeaaDoorEfD
import Derived.WalkKit
import Derived.ProofKit
import Derived.Handy
import Derived.Lay
import Derived.Carry
import Derived.ChangeOld
import Derived.Test.YtfgocjmkefeeeaaDoorCards
import Derived.Test.YtfgocjmkefeeeaaDoorTie
import Derived.SevenTiedAt
/- Printf: Few, and the law on plain formats: tables. -/
namespace Go.Proofs.Pr
open Go Go.Ef
noncomputable section

def shortArg (e : List AV) : Bool :=
  match e with
  | [_, _, .sc (.string s)] => decide (s.data.toList.length ≤ 60)
  | _ => false
def fewL (l : Cells) : Bool := decide (l.length ≤ 10) && l.all shortArg
def fewA : AV → Bool
  | .sl l _ => fewL l
  | _ => true
def goodArg (e : List AV) : Prop := ∃ (k n : Int) (s : List UInt8), e = [aK .i64 k, aK .i64 n, aStr s]
def goodA (a : AV) : Prop := (∃ l, a = .sl l 0 ∧ ∀ e ∈ l, goodArg e) ∨ a = nilA
def I14 (s : List UInt8) (l : Cells) (k : Int) : St := stOf 26 [(0, sStr s), (1, .v (.sl l 0)), (5, sInt k)] [] heapF
def E14 (s : List UInt8) : St := stOf 26 [(0, sStr s), (4, .unk)] [] heapF
def J14 (s : List UInt8) : St := stOf 26 [(0, sStr s), (4, sBool false)] [] heapF
def I5 (s : List UInt8) (a : AV) (k : Int) : St := stOf 62 [(0, sStr s), (1, .v a), (5, sInt k)] [] heap0
def E5 (s : List UInt8) (a : AV) : St := stOf 62 [(0, sStr s), (1, .v a), (4, .unk)] [] heap0
def J5 (s : List UInt8) (a : AV) (b : Bool) : St := stOf 62 [(0, sStr s), (1, .v a), (4, sBool b)] [] heap0

def L14 (σ : St) : Option LSpec :=
  match σ.at 0, σ.at 1, σ.at 5 with
  | .v (.sc (.string s)), .v (.sl l 0), .v (.sc (.int .i64 k)) => some { pre := σ.tidy [0, 1, 5] 0 = I14 s.data.toList l k ∧ k = 0 ∧ (∀ e ∈ l, goodArg e), alts := [{ α := Unit, post := fun _ => fewL l = true, ex := .exit 0, st := fun _ => E14 s.data.toList }, { α := Unit, post := fun _ => fewL l = false, ex := .ret, st := fun _ => J14 s.data.toList }] }
  | _, _, _ => none
def C14 (args : List AV) (h : Heap) : Option CSpec :=
  match args with
  | [.sc (.string s), a] => some (nspec (goodA a) (fewA a && decide (s.data.toList.length ≤ 60)) (fun x => aBool x) h)
  | _ => none
def L5 (σ : St) : Option LSpec :=
  match σ.at 0, σ.at 1, σ.at 5 with
  | .v (.sc (.string s)), .v a, .v (.sc (.int .i64 k)) => some { pre := σ.tidy [0, 1, 5] 0 = I5 s.data.toList a k ∧ k = 0 ∧ s.data.toList.length ≤ 1000000 ∧ isArgs a, alts := [{ α := Unit, post := fun _ => hasPct s.data.toList = false, ex := .exit 0, st := fun _ => E5 s.data.toList a }, { α := Unit, post := fun _ => hasPct s.data.toList = true, ex := .ret, st := fun _ => J5 s.data.toList a true }] }
  | _, _, _ => none
def X1 : Tab := tab0.addL 14 3 L14
def X2 : Tab := (tab0.addC 14 C14).addC 10 C10
def X3 : Tab := (X2.addC 12 C12).addL 5 5 L5
end
end Go.Proofs.Pr

/- Printf: conditions of Few and of the law on plain formats, printed by a program from the evaluation. -/
namespace Go.Proofs.Pr
open Go Go.Ef
noncomputable section
set_option maxRecDepth 100000

theorem v14 (s : List UInt8) (l : Cells) (k : Int) (N : Int → Prop) (X : Prop) (E : Ex → Prop) (h :
    iteP (decide (k < (↑(List.length l) : Int)))
  (iteP (decide ((10 : Int) ≤ k)) (J14 s = J14 s ∧ X)
    (iteP (inRange k (List.length l))
      (getI k.toNat l =
          some
            [AV.sc (Value.int IntKind.i64 (cellInt l k (0 : Nat))),
              AV.sc (Value.int IntKind.i64 (cellInt l k (1 : Nat))),
              AV.sc (Value.string (ByteArray.mk (Array.mk (cellStr l k (2 : Nat)))))] ∧
        iteP (decide ((60 : Int) < (↑(cellStr l k (2 : Nat)).length : Int))) (J14 s = J14 s ∧ X)
          (I14 s l (IntKind.i64.wrap (k + (1 : Int))) = I14 s l (IntKind.i64.wrap (k + (1 : Int))) ∧
            N (IntKind.i64.wrap (k + (1 : Int)))))
      False))
  (E14 s = E14 s ∧ E (Ex.exit (0 : Nat)))) :
    (fun (s : List UInt8) (l : Cells) (k : Int) (N : Int → Prop) (X : Prop) (E : Ex → Prop) => wpRound tab0 Door.cfg Tryd.prog 40 14 3 (I14 s l k) (fun τ => τ = I14 s l (slI τ 5) ∧ N (slI τ 5)) (fun e τ => match e with | .ret => τ = J14 s ∧ X | e => τ = E14 s ∧ E e)) s l k N X E :=
  Eq.mp (by kernel_rfl) h

theorem c14 (s : List UInt8) (l : Cells) (K : AV → Prop) (h :
    loopAt Tryd.prog (14 : Nat) (3 : Nat) = loopAt Tryd.prog (14 : Nat) (3 : Nat) ∧
  (I14 s l (0 : Int) = I14 s l (0 : Int) ∧
      (0 : Int) = (0 : Int) ∧
        ∀ (e : List AV),
          List.Mem e l →
            ∃ (k : Int),
              ∃ (n : Int),
                ∃ (s : List UInt8),
                  e =
                    [AV.sc (Value.int IntKind.i64 k), AV.sc (Value.int IntKind.i64 n),
                      AV.sc (Value.string (ByteArray.mk (Array.mk s)))]) ∧
    (∀ (_ : Unit),
        fewL l = true →
          iteP (decide ((↑s.length : Int) ≤ (60 : Int))) (K (AV.sc (Value.bool true))) (K (AV.sc (Value.bool false)))) ∧
      ∀ (_ : Unit), fewL l = false → K (AV.sc (Value.bool false))) :
    (fun (s : List UInt8) (l : Cells) (K : AV → Prop) => wpCall X1 Door.cfg Tryd.prog 40 14 [aStr s, .sl l 0] heapF fun r h' => wpBack h' r K) s l K :=
  Eq.mp (by kernel_rfl) h

theorem c14n (s : List UInt8) (K : AV → Prop) (h :
    iteP (decide ((↑s.length : Int) ≤ (60 : Int))) (K (AV.sc (Value.bool true))) (K (AV.sc (Value.bool false)))) :
    (fun (s : List UInt8) (K : AV → Prop) => wpCall tab0 Door.cfg Tryd.prog 40 14 [aStr s, nilA] heapF fun r h' => wpBack h' r K) s K :=
  Eq.mp (by kernel_rfl) h

theorem v5 (s : List UInt8) (l : Cells) (k : Int) (N : Int → Prop) (X : Bool → Prop) (E : Ex → Prop) (h :
    iteP (decide (k < (↑s.length : Int)))
  (iteP (inRange k s.length)
    (iteP (byteAt s k == (37 : Int))
      (True ∧
        ∀ (x : Bool),
          x = true →
            iteP x (J5 s (AV.sl l (0 : Nat)) true = J5 s (AV.sl l (0 : Nat)) true ∧ X true)
              (J5 s (AV.sl l (0 : Nat)) false = J5 s (AV.sl l (0 : Nat)) false ∧ X false))
      (I5 s (AV.sl l (0 : Nat)) (IntKind.i64.wrap (k + (1 : Int))) =
          I5 s (AV.sl l (0 : Nat)) (IntKind.i64.wrap (k + (1 : Int))) ∧
        N (IntKind.i64.wrap (k + (1 : Int)))))
    False)
  (E5 s (AV.sl l (0 : Nat)) = E5 s (AV.sl l (0 : Nat)) ∧ E (Ex.exit (0 : Nat)))) :
    (fun (s : List UInt8) (l : Cells) (k : Int) (N : Int → Prop) (X : Bool → Prop) (E : Ex → Prop) => wpRound X2 Door.cfg Tryd.prog 40 5 5 (I5 s (.sl l 0) k) (fun τ => τ = I5 s (.sl l 0) (slI τ 5) ∧ N (slI τ 5)) (fun e τ => match e with | .ret => τ = J5 s (.sl l 0) (slB τ 4) ∧ X (slB τ 4) | e => τ = E5 s (.sl l 0) ∧ E e)) s l k N X E :=
  Eq.mp (by kernel_rfl) h

theorem v5n (s : List UInt8) (k : Int) (N : Int → Prop) (X : Bool → Prop) (E : Ex → Prop) (h :
    iteP (decide (k < (↑s.length : Int)))
  (iteP (inRange k s.length)
    (iteP (byteAt s k == (37 : Int))
      (True ∧
        ∀ (x : Bool),
          x = true →
            iteP x
              (J5 s (AV.sc (Value.slice none (0 : Nat) (0 : Nat))) true =
                  J5 s (AV.sc (Value.slice none (0 : Nat) (0 : Nat))) true ∧
                X true)
              (J5 s (AV.sc (Value.slice none (0 : Nat) (0 : Nat))) false =
                  J5 s (AV.sc (Value.slice none (0 : Nat) (0 : Nat))) false ∧
                X false))
      (I5 s (AV.sc (Value.slice none (0 : Nat) (0 : Nat))) (IntKind.i64.wrap (k + (1 : Int))) =
          I5 s (AV.sc (Value.slice none (0 : Nat) (0 : Nat))) (IntKind.i64.wrap (k + (1 : Int))) ∧
        N (IntKind.i64.wrap (k + (1 : Int)))))
    False)
  (E5 s (AV.sc (Value.slice none (0 : Nat) (0 : Nat))) = E5 s (AV.sc (Value.slice none (0 : Nat) (0 : Nat))) ∧
    E (Ex.exit (0 : Nat)))) :
    (fun (s : List UInt8) (k : Int) (N : Int → Prop) (X : Bool → Prop) (E : Ex → Prop) => wpRound X2 Door.cfg Tryd.prog 40 5 5 (I5 s nilA k) (fun τ => τ = I5 s nilA (slI τ 5) ∧ N (slI τ 5)) (fun e τ => match e with | .ret => τ = J5 s nilA (slB τ 4) ∧ X (slB τ 4) | e => τ = E5 s nilA ∧ E e)) s k N X E :=
  Eq.mp (by kernel_rfl) h

theorem c5 (s : List UInt8) (l : Cells) (K : AV → Prop) (h :
    ((∃ (l_1 : List (List AV)),
      AV.sl l (0 : Nat) = AV.sl l_1 (0 : Nat) ∧
        ∀ (e : List AV),
          List.Mem e l_1 →
            ∃ (k : Int),
              ∃ (n : Int),
                ∃ (s : List UInt8),
                  e =
                    [AV.sc (Value.int IntKind.i64 k), AV.sc (Value.int IntKind.i64 n),
                      AV.sc (Value.string (ByteArray.mk (Array.mk s)))]) ∨
    AV.sl l (0 : Nat) = AV.sc (Value.slice none (0 : Nat) (0 : Nat))) ∧
  ∀ (x : Bool),
    x = (fewA (AV.sl l (0 : Nat)) && decide (s.length ≤ (60 : Nat))) →
      iteP x
        (loopAt Tryd.prog (5 : Nat) (5 : Nat) = loopAt Tryd.prog (5 : Nat) (5 : Nat) ∧
          (I5 s (AV.sl l (0 : Nat)) (0 : Int) = I5 s (AV.sl l (0 : Nat)) (0 : Int) ∧
              (0 : Int) = (0 : Int) ∧
                s.length ≤ (1000000 : Nat) ∧
                  ((∃ (l_1 : List (List AV)), AV.sl l (0 : Nat) = AV.sl l_1 (0 : Nat)) ∨
                    AV.sl l (0 : Nat) = AV.sc (Value.slice none (0 : Nat) (0 : Nat)))) ∧
            (∀ (_ : Unit),
                hasPct s = false →
                  (((∃ (l_1 : List (List AV)), AV.sl l (0 : Nat) = AV.sl l_1 (0 : Nat)) ∨
                        AV.sl l (0 : Nat) = AV.sc (Value.slice none (0 : Nat) (0 : Nat))) ∧
                      s.length ≤ (100000 : Nat) ∧
                        (outF s).length ≤ (16384 : Nat) ∧
                          (hasPct s = false ∨
                            AV.sl l (0 : Nat) = AV.sc (Value.slice none (0 : Nat) (0 : Nat)) ∧
                              ∃ (u : List UInt8), s = u ++ [(37 : UInt8), (37 : UInt8)] ++ u ∧ hasPct u = false)) ∧
                    ∀ (x : List UInt8),
                      x = outF s →
                        iteP (strFits s [(37 : UInt8), (37 : UInt8)])
                          (iteP (strFits (s ++ [(37 : UInt8), (37 : UInt8)]) s)
                            ((((∃ (l : List (List AV)),
                                    AV.sc (Value.slice none (0 : Nat) (0 : Nat)) = AV.sl l (0 : Nat)) ∨
                                  AV.sc (Value.slice none (0 : Nat) (0 : Nat)) =
                                    AV.sc (Value.slice none (0 : Nat) (0 : Nat))) ∧
                                (s ++ [(37 : UInt8), (37 : UInt8)] ++ s).length ≤ (100000 : Nat) ∧
                                  (outF (s ++ [(37 : UInt8), (37 : UInt8)] ++ s)).length ≤ (16384 : Nat) ∧
                                    (hasPct (s ++ [(37 : UInt8), (37 : UInt8)] ++ s) = false ∨
                                      AV.sc (Value.slice none (0 : Nat) (0 : Nat)) =
                                          AV.sc (Value.slice none (0 : Nat) (0 : Nat)) ∧
                                        ∃ (u : List UInt8),
                                          s ++ [(37 : UInt8), (37 : UInt8)] ++ s =
                                              u ++ [(37 : UInt8), (37 : UInt8)] ++ u ∧
                                            hasPct u = false)) ∧
                              ∀ (x_1 : List UInt8),
                                x_1 = outF (s ++ [(37 : UInt8), (37 : UInt8)] ++ s) →
                                  iteP (decide (x = s))
                                    (iteP (strFits s [(37 : UInt8)])
                                      (iteP (strFits (s ++ [(37 : UInt8)]) s)
                                        (iteP (decide (x_1 = s ++ [(37 : UInt8)] ++ s))
                                          (True ∧
                                            ∀ (x : Bool),
                                              x = true →
                                                iteP x (K (AV.sc (Value.bool true))) (K (AV.sc (Value.bool false))))
                                          (K (AV.sc (Value.bool false))))
                                        False)
                                      False)
                                    (K (AV.sc (Value.bool false))))
                            False)
                          False) ∧
              ∀ (_ : Unit), hasPct s = true → K (AV.sc (Value.bool true)))
        (True ∧ ∀ (x : Bool), x = true → iteP x (K (AV.sc (Value.bool true))) (K (AV.sc (Value.bool false))))) :
    (fun (s : List UInt8) (l : Cells) (K : AV → Prop) => wpCall X3 Door.cfg Tryd.prog 40 5 [aStr s, .sl l 0] heap0 fun r _ => K r) s l K :=
  Eq.mp (by kernel_rfl) h

theorem c5n (s : List UInt8) (K : AV → Prop) (h :
    ((∃ (l : List (List AV)),
      AV.sc (Value.slice none (0 : Nat) (0 : Nat)) = AV.sl l (0 : Nat) ∧
        ∀ (e : List AV),
          List.Mem e l →
            ∃ (k : Int),
              ∃ (n : Int),
                ∃ (s : List UInt8),
                  e =
                    [AV.sc (Value.int IntKind.i64 k), AV.sc (Value.int IntKind.i64 n),
                      AV.sc (Value.string (ByteArray.mk (Array.mk s)))]) ∨
    AV.sc (Value.slice none (0 : Nat) (0 : Nat)) = AV.sc (Value.slice none (0 : Nat) (0 : Nat))) ∧
  ∀ (x : Bool),
    x = (true && decide (s.length ≤ (60 : Nat))) →
      iteP x
        (loopAt Tryd.prog (5 : Nat) (5 : Nat) = loopAt Tryd.prog (5 : Nat) (5 : Nat) ∧
          (I5 s (AV.sc (Value.slice none (0 : Nat) (0 : Nat))) (0 : Int) =
                I5 s (AV.sc (Value.slice none (0 : Nat) (0 : Nat))) (0 : Int) ∧
              (0 : Int) = (0 : Int) ∧
                s.length ≤ (1000000 : Nat) ∧
                  ((∃ (l : List (List AV)), AV.sc (Value.slice none (0 : Nat) (0 : Nat)) = AV.sl l (0 : Nat)) ∨
                    AV.sc (Value.slice none (0 : Nat) (0 : Nat)) = AV.sc (Value.slice none (0 : Nat) (0 : Nat)))) ∧
            (∀ (_ : Unit),
                hasPct s = false →
                  (((∃ (l : List (List AV)), AV.sc (Value.slice none (0 : Nat) (0 : Nat)) = AV.sl l (0 : Nat)) ∨
                        AV.sc (Value.slice none (0 : Nat) (0 : Nat)) = AV.sc (Value.slice none (0 : Nat) (0 : Nat))) ∧
                      s.length ≤ (100000 : Nat) ∧
                        (outF s).length ≤ (16384 : Nat) ∧
                          (hasPct s = false ∨
                            AV.sc (Value.slice none (0 : Nat) (0 : Nat)) =
                                AV.sc (Value.slice none (0 : Nat) (0 : Nat)) ∧
                              ∃ (u : List UInt8), s = u ++ [(37 : UInt8), (37 : UInt8)] ++ u ∧ hasPct u = false)) ∧
                    ∀ (x : List UInt8),
                      x = outF s →
                        iteP (strFits s [(37 : UInt8), (37 : UInt8)])
                          (iteP (strFits (s ++ [(37 : UInt8), (37 : UInt8)]) s)
                            ((((∃ (l : List (List AV)),
                                    AV.sc (Value.slice none (0 : Nat) (0 : Nat)) = AV.sl l (0 : Nat)) ∨
                                  AV.sc (Value.slice none (0 : Nat) (0 : Nat)) =
                                    AV.sc (Value.slice none (0 : Nat) (0 : Nat))) ∧
                                (s ++ [(37 : UInt8), (37 : UInt8)] ++ s).length ≤ (100000 : Nat) ∧
                                  (outF (s ++ [(37 : UInt8), (37 : UInt8)] ++ s)).length ≤ (16384 : Nat) ∧
                                    (hasPct (s ++ [(37 : UInt8), (37 : UInt8)] ++ s) = false ∨
                                      AV.sc (Value.slice none (0 : Nat) (0 : Nat)) =
                                          AV.sc (Value.slice none (0 : Nat) (0 : Nat)) ∧
                                        ∃ (u : List UInt8),
                                          s ++ [(37 : UInt8), (37 : UInt8)] ++ s =
                                              u ++ [(37 : UInt8), (37 : UInt8)] ++ u ∧
                                            hasPct u = false)) ∧
                              ∀ (x_1 : List UInt8),
                                x_1 = outF (s ++ [(37 : UInt8), (37 : UInt8)] ++ s) →
                                  iteP (decide (x = s))
                                    (iteP (strFits s [(37 : UInt8)])
                                      (iteP (strFits (s ++ [(37 : UInt8)]) s)
                                        (iteP (decide (x_1 = s ++ [(37 : UInt8)] ++ s))
                                          (True ∧
                                            ∀ (x : Bool),
                                              x = true →
                                                iteP x (K (AV.sc (Value.bool true))) (K (AV.sc (Value.bool false))))
                                          (K (AV.sc (Value.bool false))))
                                        False)
                                      False)
                                    (K (AV.sc (Value.bool false))))
                            False)
                          False) ∧
              ∀ (_ : Unit), hasPct s = true → K (AV.sc (Value.bool true)))
        (True ∧ ∀ (x : Bool), x = true → iteP x (K (AV.sc (Value.bool true))) (K (AV.sc (Value.bool false))))) :
    (fun (s : List UInt8) (K : AV → Prop) => wpCall X3 Door.cfg Tryd.prog 40 5 [aStr s, nilA] heap0 fun r _ => K r) s K :=
  Eq.mp (by kernel_rfl) h

end
end Go.Proofs.Pr

/- Printf: the law on plain formats. -/
namespace Go.Proofs.Pr
open Go Go.Ef
noncomputable section
set_option maxRecDepth 100000

theorem can14 (s : List UInt8) (l : Cells) (k : Int) : (I14 s l k).tidy [0, 1, 5] 0 = I14 s l k := by kernel_rfl
theorem can5 (s : List UInt8) (l : Cells) (k : Int) : (I5 s (.sl l 0) k).tidy [0, 1, 5] 0 = I5 s (.sl l 0) k := by kernel_rfl
theorem can5n (s : List UInt8) (k : Int) : (I5 s nilA k).tidy [0, 1, 5] 0 = I5 s nilA k := by kernel_rfl

theorem cell_good {l : Cells} {k : Nat} {e : List AV} (h : l[k]? = some e) (g : goodArg e) : getI k l = some [aK .i64 (cellInt l k 0), aK .i64 (cellInt l k 1), aStr (cellStr l k 2)] ∧ shortArg e = decide ((cellStr l k 2).length ≤ 60) := by
  obtain ⟨a, b, c, rfl⟩ := g
  have hg : getI (k : Int).toNat l = some [aK .i64 a, aK .i64 b, aStr c] := by rw [getI_eq]; exact h
  have ca : ∀ j, cellAt l k j = getI j [aK .i64 a, aK .i64 b, aStr c] := fun j => by unfold cellAt; rw [hg]
  have c0 : cellInt l k 0 = a := by unfold cellInt; rw [ca]; rfl
  have c1 : cellInt l k 1 = b := by unfold cellInt; rw [ca]; rfl
  have c2 : cellStr l k 2 = c := by unfold cellStr; rw [ca]; rfl
  rw [c0, c1, c2]
  exact ⟨hg, rfl⟩

theorem few_split (l : Cells) (k : Nat) : fewL l = (decide (l.length ≤ 10) && (l.take k).all shortArg && (l.drop k).all shortArg) := by
  unfold fewL
  conv => lhs; rw [← List.take_append_drop k l]
  rw [List.all_append, List.take_append_drop, Bool.and_assoc]

theorem loop14 (s : List UInt8) (l : Cells) (hl : ∀ e ∈ l, goodArg e) :
    Ev Door.cfg Tryd.prog 14 (.loop (loopAt Tryd.prog 14 3)) (I14 s l 0) fun e τ => (fewL l = true ∧ e = .exit 0 ∧ τ = E14 s) ∨ (fewL l = false ∧ e = .ret ∧ τ = J14 s) := by
  have main := loop_rd (C := Door.cfg) (P := Tryd.prog) tab0_ok (f := 14) (i := 3) (n := 40) (fun x : Int => I14 s l x) (fun τ => slI τ 5) (fun x => 0 ≤ x ∧ x ≤ l.length ∧ x ≤ 10 ∧ (l.take x.toNat).all shortArg = true) (fun x => l.length - x.toNat)
    (K := fun e τ => match e with
      | .ret => τ = J14 s ∧ fewL l = false
      | e => τ = E14 s ∧ (e = .exit 0 ∧ fewL l = true)) (by kernel_rfl)
    (fun x t ht => ?_) (fun x hx => ?_) 0 ⟨Int.le_refl _, by omega, by omega, rfl⟩
  · refine main.mono fun e τ h => ?_
    cases e with
    | ret => exact .inr ⟨h.2, rfl, h.1⟩
    | normal => cases h.2.1
    | exit j => exact .inl ⟨h.2.2, h.2.1, h.1⟩
  · replace ht : Door.tidy 14 3 = some t := ht
    cases ht
    exact can14 s l x
  · obtain ⟨q1, q2, q3, q4⟩ := hx
    obtain ⟨k, rfl⟩ := Int.eq_ofNat_of_zero_le q1
    rw [Int.toNat_natCast] at q4
    refine v14 s l k (fun y => (0 ≤ y ∧ y ≤ l.length ∧ y ≤ 10 ∧ (l.take y.toNat).all shortArg = true) ∧ l.length - y.toNat < l.length - k) (fewL l = false) (fun e => e = .exit 0 ∧ fewL l = true) ?_
    rcases Nat.lt_or_ge k l.length with hk | hk
    · rw [show decide ((k : Int) < (l.length : Int)) = true by simp; omega, iteP_t]
      by_cases h10 : (10 : Int) ≤ k
      · rw [decide_eq_true h10, iteP_t]
        refine ⟨rfl, ?_⟩
        unfold fewL
        rw [show decide (l.length ≤ 10) = false by simp; omega]; rfl
      · rw [decide_eq_false h10, iteP_f, show inRange (k : Int) (List.length l) = true by rw [inRange_iff]; omega, iteP_t]
        have he : l[k]? = some l[k] := List.getElem?_eq_getElem hk
        obtain ⟨g1, g2⟩ := cell_good he (hl _ (List.getElem_mem hk))
        refine ⟨g1, ?_⟩
        have hd : l.drop k = l[k] :: l.drop (k + 1) := List.drop_eq_getElem_cons hk
        by_cases h60 : (60 : Int) < ((cellStr l k 2).length : Int)
        · rw [decide_eq_true h60, iteP_t]
          refine ⟨rfl, ?_⟩
          rw [few_split l k, hd, List.all_cons, g2, show decide ((cellStr l k 2).length ≤ 60) = false by simp; omega]
          simp
        · rw [decide_eq_false h60, iteP_f]
          have hj : IntKind.i64.wrap ((k : Int) + 1) = ((k + 1 : Nat) : Int) := by rw [wrap_in (by omega) (by omega)]; rfl
          rw [hj]
          refine ⟨rfl, ⟨by omega, by omega, by omega, ?_⟩, by rw [Int.toNat_natCast]; omega⟩
          rw [Int.toNat_natCast, List.take_add_one, he]
          rw [List.all_append, q4]
          show (true && (shortArg l[k] && true)) = true
          rw [g2]; simp; omega
    · rw [show decide ((k : Int) < (l.length : Int)) = false by simp; omega, iteP_f]
      refine ⟨rfl, rfl, ?_⟩
      unfold fewL
      rw [List.take_of_length_le hk] at q4
      rw [q4, show decide (l.length ≤ 10) = true by simp; omega]; rfl

theorem okX1 : TabOk Tryd.prog Door.cfg X1 := by
  refine addL_ok tab0_ok fun σ s hs hp => ?_
  unfold L14 at hs
  split at hs
  · rename_i s0 l k _ _ _
    cases Option.some.inj hs
    obtain ⟨e, h1, h5⟩ := hp
    have := Ev.tidied (C := Door.cfg) (P := Tryd.prog) (b := loopAt Tryd.prog 14 3) (f := 14) (σ := σ) (t := ⟨[0, 1, 5], [0, 4], 0⟩) (τ := I14 s0.data.toList l 0) (by kernel_rfl) (by rw [e, h1]; exact (can14 _ _ _).symm) (loop14 s0.data.toList l h5)
    obtain ⟨m, ex, τ, h2, h3⟩ := this
    rcases h3 with ⟨q1, rfl, rfl⟩ | ⟨q1, rfl, rfl⟩
    · exact ⟨_, .head _, (), q1, m, h2⟩
    · exact ⟨_, .tail _ (.head _), (), q1, m, h2⟩
  · cases hs
theorem ok14 {T : Tab} (O : TabOk Tryd.prog Door.cfg T) : TabOk Tryd.prog Door.cfg (T.addC 14 C14) := by
  refine addC_ok O fun args h s hs hp => ?_
  unfold C14 at hs
  split at hs
  · rename_i s0 a
    obtain ⟨⟨u⟩⟩ := s0
    refine nspec_ok (Option.some.inj hs) (fun hpre => ?_) hp
    rcases hpre with ⟨l, rfl, hl⟩ | rfl
    · refine EvP.freshV okX1 (n := 40) (by kernel_rfl) (by kernel_rfl) (args' := [aStr u, .sl l 0]) rfl (c14 u l _ ?_)
      refine ⟨rfl, ⟨rfl, rfl, hl⟩, fun _ h1 => ?_, fun _ h1 => ?_⟩
      · show iteP _ (_ = aBool (fewL l && decide (u.length ≤ 60))) (_ = aBool (fewL l && decide (u.length ≤ 60)))
        rw [h1]
        by_cases h2 : (u.length : Int) ≤ 60
        · rw [decide_eq_true h2, iteP_t, show decide (u.length ≤ 60) = true by simp; omega]; rfl
        · rw [decide_eq_false h2, iteP_f, show decide (u.length ≤ 60) = false by simp; omega]; rfl
      · show _ = aBool (fewL l && decide (u.length ≤ 60))
        rw [h1]; rfl
    · refine EvP.freshV tab0_ok (n := 40) (by kernel_rfl) (by kernel_rfl) (args' := [aStr u, nilA]) rfl (c14n u _ ?_)
      show iteP _ (_ = aBool (true && decide (u.length ≤ 60))) (_ = aBool (true && decide (u.length ≤ 60)))
      by_cases h2 : (u.length : Int) ≤ 60
      · rw [decide_eq_true h2, iteP_t, show decide (u.length ≤ 60) = true by simp; omega]; rfl
      · rw [decide_eq_false h2, iteP_f, show decide (u.length ≤ 60) = false by simp; omega]; rfl
  · cases hs
theorem ok10 {T : Tab} (O : TabOk Tryd.prog Door.cfg T) : TabOk Tryd.prog Door.cfg (T.addC 10 C10) := by
  refine copy_ok O okR6 (g := 10) (t := C10) rfl
theorem okX2 : TabOk Tryd.prog Door.cfg X2 := ok10 (ok14 tab0_ok)

theorem pct_cons (c : UInt8) (r : List UInt8) : hasPct (c :: r) = (c == 37 || hasPct r) := by
  unfold hasPct
  rw [List.contains_cons]
  congr 1
  exact Bool.beq_comm
theorem loop5 (s : List UInt8) (a : AV) (ha : isArgs a) (hs : s.length ≤ 1000000) :
    Ev Door.cfg Tryd.prog 5 (.loop (loopAt Tryd.prog 5 5)) (I5 s a 0) fun e τ => (hasPct s = false ∧ e = .exit 0 ∧ τ = E5 s a) ∨ (hasPct s = true ∧ e = .ret ∧ τ = J5 s a true) := by
  have main := loop_rd (C := Door.cfg) (P := Tryd.prog) okX2 (f := 5) (i := 5) (n := 40) (fun x : Int => I5 s a x) (fun τ => slI τ 5) (fun x => 0 ≤ x ∧ x ≤ s.length ∧ hasPct s = hasPct (s.drop x.toNat)) (fun x => s.length - x.toNat)
    (K := fun e τ => match e with
      | .ret => τ = J5 s a (slB τ 4) ∧ (slB τ 4 = true ∧ hasPct s = true)
      | e => τ = E5 s a ∧ (e = .exit 0 ∧ hasPct s = false)) (by kernel_rfl)
    (fun x t ht => ?_) (fun x hx => ?_) 0 ⟨Int.le_refl _, by omega, rfl⟩
  · refine main.mono fun e τ h => ?_
    cases e with
    | ret => exact .inr ⟨h.2.2, rfl, by rw [← h.2.1]; exact h.1⟩
    | normal => cases h.2.1
    | exit j => exact .inl ⟨h.2.2, h.2.1, h.1⟩
  · replace ht : Door.tidy 5 5 = some t := ht
    cases ht
    rcases ha with ⟨l, rfl⟩ | rfl
    · exact can5 s l x
    · exact can5n s x
  · obtain ⟨q1, q2, q3⟩ := hx
    have key : ∀ (I : Int → St) (JB : Bool → St) (E0 : St), iteP (decide (x < (s.length : Int)))
        (iteP (inRange x s.length)
          (iteP (byteAt s x == (37 : Int))
            (True ∧ ∀ (y : Bool), y = true → iteP y (JB true = JB true ∧ true = true ∧ hasPct s = true) (JB false = JB false ∧ false = true ∧ hasPct s = true))
            (I (IntKind.i64.wrap (x + 1)) = I (IntKind.i64.wrap (x + 1)) ∧ (0 ≤ IntKind.i64.wrap (x + 1) ∧ IntKind.i64.wrap (x + 1) ≤ s.length ∧ hasPct s = hasPct (s.drop (IntKind.i64.wrap (x + 1)).toNat)) ∧ s.length - (IntKind.i64.wrap (x + 1)).toNat < s.length - x.toNat)) False)
        (E0 = E0 ∧ Ex.exit 0 = Ex.exit 0 ∧ hasPct s = false) := by
      intro I JB E0
      rw [q3]
      rcases hr : s.drop x.toNat with _ | ⟨c, r⟩
      · have := drop_end hr
        rw [show decide (x < (s.length : Int)) = false by simp; omega, iteP_f]
        exact ⟨rfl, rfl, rfl⟩
      · obtain ⟨e1, e2, e3⟩ := byteAt_drop hr
        have hj : IntKind.i64.wrap (x + 1) = x + 1 := wrap_in (by omega) (by omega)
        rw [show decide (x < (s.length : Int)) = true by simp; omega, iteP_t, show inRange x s.length = true by rw [inRange_iff]; omega, iteP_t, e1, hj, toNat_succ q1, e3, pct_cons]
        by_cases hc : c = 37
        · subst hc
          refine ⟨trivial, fun y hy => ?_⟩
          subst hy
          exact ⟨rfl, rfl, rfl⟩
        · rw [show ((c.toNat : Int) == 37) = (c == 37) from beq_byte c 37 (by decide), show (c == 37) = false by simpa using hc, iteP_f]
          exact ⟨rfl, ⟨by omega, by omega, rfl⟩, by omega⟩
    rcases ha with ⟨l, rfl⟩ | rfl
    · exact v5 s l x (fun y => (0 ≤ y ∧ y ≤ s.length ∧ hasPct s = hasPct (s.drop y.toNat)) ∧ s.length - y.toNat < s.length - x.toNat) (fun b => b = true ∧ hasPct s = true) (fun e => e = .exit 0 ∧ hasPct s = false) (key (I5 s (.sl l 0)) (J5 s (.sl l 0)) (E5 s (.sl l 0)))
    · exact v5n s x (fun y => (0 ≤ y ∧ y ≤ s.length ∧ hasPct s = hasPct (s.drop y.toNat)) ∧ s.length - y.toNat < s.length - x.toNat) (fun b => b = true ∧ hasPct s = true) (fun e => e = .exit 0 ∧ hasPct s = false) (key (I5 s nilA) (J5 s nilA) (E5 s nilA))

theorem okX3 : TabOk Tryd.prog Door.cfg X3 := by
  refine addL_ok (ok12 okX2) fun σ s hs hp => ?_
  unfold L5 at hs
  split at hs
  · rename_i s0 a k _ _ _
    cases Option.some.inj hs
    obtain ⟨e, h1, h5, ha⟩ := hp
    have hc : (I5 s0.data.toList a 0).tidy [0, 1, 5] 0 = I5 s0.data.toList a 0 := by
      rcases ha with ⟨l, rfl⟩ | rfl
      · exact can5 _ _ _
      · exact can5n _ _
    have := Ev.tidied (C := Door.cfg) (P := Tryd.prog) (b := loopAt Tryd.prog 5 5) (f := 5) (σ := σ) (t := ⟨[0, 1, 5], [0, 1, 4], 0⟩) (τ := I5 s0.data.toList a 0) (by kernel_rfl) (by rw [e, h1]; exact hc.symm) (loop5 s0.data.toList a ha h5)
    obtain ⟨m, ex, τ, h2, h3⟩ := this
    rcases h3 with ⟨q1, rfl, rfl⟩ | ⟨q1, rfl, rfl⟩
    · exact ⟨_, .head _, (), q1, m, h2⟩
    · exact ⟨_, .tail _ (.head _), (), q1, m, h2⟩
  · cases hs

theorem fits_small {a b : List UInt8} (h1 : a.length ≤ 1000) (h2 : b.length ≤ 1000) : strFits a b = true := by
  rw [strFits_iff]; omega
theorem law5 (s : List UInt8) (a : AV) (ha : goodA a) : ∃ m h', evCall Door.cfg Tryd.prog m 5 [aStr s, a] heap0 = some (.sc (.bool true), h') := by
  have hA : isArgs a := by
    rcases ha with ⟨l, rfl, _⟩ | rfl
    · exact .inl ⟨l, rfl⟩
    · exact .inr rfl
  have plain : hasPct s = false → s.length ≤ 60 → okCall s a := fun hp hl => ⟨hA, by omega, by rw [outF_plain hp]; omega, .inl hp⟩
  have twice : hasPct s = false → s.length ≤ 60 → okCall (s ++ [37, 37] ++ s) nilA := fun hp hl => ⟨.inr rfl, by simp; omega, by rw [show s ++ [37, 37] ++ s = pct2 s from rfl, outF_pct hp]; simp; omega, .inr ⟨rfl, s, rfl, hp⟩⟩
  have tail : ∀ (K : AV → Prop), K (.sc (.bool true)) → True ∧ ∀ x : Bool, x = true → iteP x (K (.sc (.bool true))) (K (.sc (.bool false))) := fun K hk => ⟨trivial, fun x hx => by subst hx; exact hk⟩
  have body : hasPct s = false → s.length ≤ 60 → ∀ (K : AV → Prop), K (.sc (.bool true)) → ∀ (x : List UInt8), x = outF s → iteP (strFits s [37, 37]) (iteP (strFits (s ++ [37, 37]) s) (okCall (s ++ [37, 37] ++ s) nilA ∧ ∀ x1 : List UInt8, x1 = outF (s ++ [37, 37] ++ s) →
      iteP (decide (x = s)) (iteP (strFits s [37]) (iteP (strFits (s ++ [37]) s) (iteP (decide (x1 = s ++ [37] ++ s)) (True ∧ ∀ x : Bool, x = true → iteP x (K (.sc (.bool true))) (K (.sc (.bool false)))) (K (.sc (.bool false)))) False) False) (K (.sc (.bool false)))) False) False := by
    intro hp hl K hk x hx
    rw [outF_plain hp] at hx
    subst hx
    have l1 : ([37, 37] : List UInt8).length ≤ 1000 := by decide
    have l2 : ([37] : List UInt8).length ≤ 1000 := by decide
    rw [fits_small (by omega) l1, iteP_t, fits_small (by simp; omega) (by omega), iteP_t]
    refine ⟨twice hp hl, fun x1 h1 => ?_⟩
    rw [show x ++ [37, 37] ++ x = pct2 x from rfl, outF_pct hp] at h1
    rw [decide_eq_true rfl, iteP_t, fits_small (by omega) l2, iteP_t, fits_small (by simp; omega) (by omega), iteP_t, decide_eq_true h1, iteP_t]
    exact tail K hk
  have main : wpCall X3 Door.cfg Tryd.prog 40 5 [aStr s, a] heap0 fun v _ => v = .sc (.bool true) := by
    rcases ha with ⟨l, rfl, hl⟩ | rfl
    · refine c5 s l _ ⟨.inl ⟨l, rfl, hl⟩, fun x hx => ?_⟩
      cases hq : x with
      | false => rw [iteP_f]; exact tail (fun v => v = .sc (.bool true)) rfl
      | true =>
        rw [iteP_t]
        have h60 : s.length ≤ 60 := by
          rw [hq] at hx
          have := (Bool.and_eq_true _ _ ▸ hx.symm : _ ∧ _).2
          simpa using this
        exact ⟨rfl, ⟨rfl, rfl, by show s.length ≤ 1000000; omega, hA⟩, fun _ hp => ⟨plain hp h60, body hp h60 (fun v => v = .sc (.bool true)) rfl⟩, fun _ _ => rfl⟩
    · refine c5n s _ ⟨.inr rfl, fun x hx => ?_⟩
      cases hq : x with
      | false => rw [iteP_f]; exact tail (fun v => v = .sc (.bool true)) rfl
      | true =>
        rw [iteP_t]
        have h60 : s.length ≤ 60 := by
          rw [hq] at hx
          have := (Bool.and_eq_true _ _ ▸ hx.symm : _ ∧ _).2
          simpa using this
        exact ⟨rfl, ⟨rfl, rfl, by show s.length ≤ 1000000; omega, hA⟩, fun _ hp => ⟨plain hp h60, body hp h60 (fun v => v = .sc (.bool true)) rfl⟩, fun _ _ => rfl⟩
  obtain ⟨m, v, h', h1, h2⟩ := call_okW okX3 40 5 _ _ _ main
  exact ⟨m, h', by rw [h1, h2]⟩
end
end Go.Proofs.Pr

/- Printf: what the slice of values that a law is given is in the evaluation. -/
namespace Go.Proofs.Pr
open Go Go.Ef Go.ChangeShapes Go.WideShapes Go.ChangeAt Go.RowKit

theorem trod_int1 {H : Type} {enc : TypeId × Value → H} {P : Program} {w : World} {base : Nat} {spare : Nat → Bool} {held : Bool} {t : TypeId} {k : IntKind} (ht : P.underlying t = some (.int k)) {fuel : Nat} {c : Value} {x : DataW H × List MemPlace}
    (h : DataW.trod enc P w base spare held fuel t [c] = some x) : ∃ n, c = .int k n := by
  cases fuel with
  | zero => cases h
  | succ fuel =>
    simp only [DataW.trod, ht] at h
    split at h <;> simp_all
theorem trod_str1 {H : Type} {enc : TypeId × Value → H} {P : Program} {w : World} {base : Nat} {spare : Nat → Bool} {held : Bool} {t : TypeId} (ht : P.underlying t = some .string) {fuel : Nat} {c : Value} {x : DataW H × List MemPlace}
    (h : DataW.trod enc P w base spare held fuel t [c] = some x) : ∃ s, c = .string s := by
  cases fuel with
  | zero => cases h
  | succ fuel =>
    simp only [DataW.trod, ht] at h
    split at h <;> simp_all

set_option maxRecDepth 100000 in
theorem value_reads {H : Type} {enc : TypeId × Value → H} {w : World} {base : Nat} {spare : Nat → Bool} {held : Bool} {fuel : Nat} {cs : List Value} {d : DataW H} {ps : List MemPlace}
    (h : DataW.trod enc Tryd.prog w base spare held fuel 28 cs = some (d, ps)) (hl : cs.length = 3) : ∃ avs, goodArg avs ∧ CellsV w avs cs := by
  cases fuel with
  | zero => cases h
  | succ fuel =>
    have e3 : Tryd.prog.cellsOf 3 = 1 := by kernel_rfl
    have e26 : Tryd.prog.cellsOf 26 = 1 := by kernel_rfl
    have e9 : Tryd.prog.cellsOf 9 = 1 := by kernel_rfl
    match cs, hl with
    | [c0, c1, c2], _ =>
      simp only [DataW.trod, Tryd.underlying28] at h
      split at h
      · rw [Option.map_eq_some_iff] at h
        obtain ⟨xs, hm, _⟩ := h
        have g0 := mapM_some_get hm 0 _ rfl
        have g1 := mapM_some_get hm 1 _ rfl
        have g2 := mapM_some_get hm 2 _ rfl
        have hlen := mapM_some_length hm
        replace hlen : xs.length = 3 := hlen
        match xs, hlen with
        | [x0, x1, x2], _ =>
          simp only [e3, e26, e9] at g0 g1 g2
          obtain ⟨n0, rfl⟩ := trod_int1 Tryd.underlying3 g0
          obtain ⟨n1, rfl⟩ := trod_int1 Tryd.underlying26 g1
          obtain ⟨s, rfl⟩ := trod_str1 Tryd.underlying9 g2
          obtain ⟨⟨l⟩⟩ := s
          refine ⟨[aK .i64 n0, aK .i64 n1, aStr l], ⟨n0, n1, l, rfl⟩, rfl, fun i x y hx hy => ?_⟩
          match i with
          | 0 => simp at hx hy; subst hx; subst hy; exact .sc rfl
          | 1 => simp at hx hy; subst hx; subst hy; exact .sc rfl
          | 2 => simp at hx hy; subst hx; subst hy; exact .sc rfl
          | i + 3 => simp at hx
      · cases h

set_option maxRecDepth 100000 in
theorem values_read {H : Type} {enc : TypeId × Value → H} {W : World} {r : Reach} {base : Nat} {v : Value} {d : DataW H} {p : List MemPlace} (hv : Value.okWide Tryd.prog W r base 29 v) (h : DataW.Trod enc Tryd.prog W 0 (fun _ => true) true 29 v d p) :
    ∃ a, goodA a ∧ V (imm0 W) a v := by
  obtain ⟨fuel, hf⟩ := h
  have hv' := hv
  obtain ⟨a, len, cap, rfl⟩ := okWide_slice Tryd.underlying29 hv
  simp only [Value.okWide, Tryd.underlying29, Cell.okWide, Cell.ok] at hv'
  cases a with
  | none =>
    have h0 : len = 0 ∧ cap = 0 := by
      split at hv'
      all_goals first | exact hv'.elim | skip
      all_goals rename_i q
      all_goals cases q
      all_goals first | exact ⟨rfl, rfl⟩ | exact hv'.elim
    obtain ⟨rfl, rfl⟩ := h0
    exact ⟨nilA, .inr rfl, .sc rfl⟩
  | some a =>
    obtain ⟨b, o, sp⟩ := a
    have hsp : sp = none := (show len ≤ cap ∧ (cap : Int) ≤ IntKind.i64.max ∧ World.has Tryd.prog W r base ⟨b, o, sp⟩ 28 cap from hv').2.2.2.1
    subst hsp
    obtain ⟨els, h1, h2, h3⟩ := trod_slice (k := 3) Tryd.underlying29 (by kernel_rfl) goodArg (fun fuel cs d ps h hl => value_reads h hl) hf
    exact ⟨.sl els 0, .inl ⟨els, rfl, fun e he => (h2 e he).1⟩, h3⟩
end Go.Proofs.Pr

/- Printf: from the evaluation of a law to its card: PrintfPlain. -/
namespace Go.Proofs.YtfgocjmkefeeeaaDoor
open Go Go.Ef Go.ChangeShapes Go.WideShapes Go.ChangeAt Go.RowKit
open Go.ChangeMaps (open_string shut_string)

namespace plain
theorem law (s : ByteArray) (a : AV) (v : Value) (w : World) (ha : Pr.goodA a) (hv : V (imm0 w) a v) (hg : GlobOk Door.cfg w) : Calls Tryd.prog 5 #[.string s, v] w fun e w' => e = .returned (.bool true) ∧ Below w.heap.size w w' := by
  obtain ⟨⟨l⟩⟩ := s
  obtain ⟨m, h', he⟩ := Pr.law5 l a ha
  refine law_of_ev Door.fit m hg (args := [aStr l, a]) ⟨rfl, fun i x y hx hy => ?_⟩ he
  match i with
  | 0 => simp at hx hy; subst hx; subst hy; exact .sc rfl
  | 1 => simp at hx hy; subst hx; subst hy; exact hv
  | i + 2 => simp at hx

theorem own : ownKnob Tryd.prog.godebug = none := by kernel_rfl
theorem laidOut : laidOutB Tryd.prog = true := by kernel_rfl
set_option maxRecDepth 100000 in
theorem lifted (os : Os) (started : os.Started) (H : Type) (enc : TypeId × Value → H) :
    ReturnsInHanded {} Tryd.checked os 5 .any (fun w args => (Rows.printfPlainSpec.pre enc Tryd.prog Tryd.f5 [] false w args ∧ laidMetH Tryd.prog Rows.printfPlainRow.laid w) ∧ sizedMet enc Tryd.prog Tryd.f5 (OpenSpec.ofChange Rows.printfPlainSpec) false w args)
      (Rows.printfPlainSpec.post enc Tryd.prog Tryd.f5 false true false false) := by
  refine returnsInHanded_of_change_and (C := Tryd.checked) (X := fun w _ => laidMetH Tryd.prog Rows.printfPlainRow.laid w) (fun _ _ _ hh h => h.of_heap hh) own started (by kernel_rfl) Tryd.func5
    (ChangeSpec.witness_shaped (enc := enc) (C := Tryd.checked) (os := os) (X := fun w _ => laidMetH Tryd.prog Rows.printfPlainRow.laid w) false (World.laidAll Tryd.prog os Rows.printfPlainRow.laid) #[.string .empty, .slice none 0 0] 8 (World.laidAll_os _ _ _)
      (World.shaped_of_ZipB (by kernel_rfl) (by kernel_rfl)) (by kernel_rfl) (by kernel_rfl) (by kernel_rfl)
      (by rw [MakeChecks.laidMetH_plain _ _ _ (by kernel_rfl)]; exact laidMet_laidAll _ (by kernel_rfl) (by kernel_rfl))) ?_
  intro W base args ds gs before hval0 hW _ _ hL _
  have hval : ∀ (j : Nat) t v, Tryd.f5.params[j]? = some t → args[j]? = some v → Value.okWide Tryd.prog W .any base t v := hval0
  have hW' := hW
  obtain ⟨p, q, hA0, hV, rfl, _, _⟩ := hW
  have hA : DataW.TrodAll enc Tryd.prog W 0 (fun _ => true) true Tryd.f5.params.toList args.toList ds p := hA0
  rw [Tryd.params5] at hA hval
  obtain ⟨v0, vs0, d0, ds0, p0, q0, hargs, rfl, rfl, h0, r0⟩ := trodAll_cons hA
  obtain ⟨v1, vs1, d1, ds1, p1, q1, rfl, rfl, rfl, h1, r1⟩ := trodAll_cons r0
  obtain ⟨rfl, rfl, rfl⟩ := trodAll_nil r1
  obtain rfl : args = #[v0, v1] := by cases args; simp_all
  obtain ⟨rfl, rfl⟩ := trodVars_none hV
  obtain ⟨s, rfl, rfl, rfl, hmax⟩ := open_string Tryd.underlying9 (hval 0 9 v0 rfl rfl) h0
  have k1 := h1
  have lt1 : ∀ x ∈ p1, x.block < W.heap.size := by obtain ⟨m, hm⟩ := k1; exact DataW.trod_lt m _ _ _ hm
  obtain ⟨a, ha, hva⟩ := Pr.values_read (hval 1 29 v1 rfl rfl) h1
  refine (law s a v1 W ha hva (Door.glob_ok hL)).mono fun e W' ⟨he, hb⟩ => ?_
  subst he
  exact ⟨_, rfl, _, _, _, [], _, [], hW', trodAll_mk1 (shut_bool Tryd.underlying4 _), trodAll_mk2 (shut_string Tryd.underlying9 hmax) (Below.trod laidOut (by kernel_rfl) (of_decide_eq_true (by kernel_rfl)) k1 hb lt1), rfl, hb.frame _, fun h => by cases h⟩
theorem said : Rows.PrintfPlainSaid :=
  OpenClaim.holds_of_wide 5 Tryd.f5 rfl rfl rfl rfl rfl rfl rfl ⟨rfl, rfl, rfl, rfl, rfl⟩ rfl rfl rfl rfl rfl (by kernel_rfl) Tryd.func5 (by kernel_rfl)
    (of_decide_eq_true (by kernel_rfl)) (by unfold Func.isWrapper; first | (rw [if_pos (by decide +kernel)]; kernel_rfl) | (rw [if_neg (by decide +kernel)]; exact ⟨rfl, rfl⟩))
    (fun os started H enc _ => lifted os started H enc)
theorem plain (f : FuncId) (fn : Func) (hf : Tryd.pinned.checked.prog.funcNamed "texttools/texttoolslaw43.PrintfPlain" = some f) (hfn : Tryd.pinned.checked.prog.funcs[f]? = some fn) :
    false = Tryd.pinned.checked.prog.looks [] ∧ ∀ (j : Nat) t, fn.params[j]? = some t → Tryd.pinned.checked.prog.wantsStandIn t = false := by
  obtain rfl : f = 5 := Option.some.inj ((show Tryd.prog.funcNamed "texttools/texttoolslaw43.PrintfPlain" = some 5 by kernel_rfl).symm.trans hf) |>.symm
  obtain rfl : fn = Tryd.f5 := (Option.some.inj (Tryd.func5.symm.trans hfn)).symm
  refine ⟨by kernel_rfl, fun j t ht => ?_⟩
  rw [Tryd.params5] at ht
  have : t = 9 ∨ t = 29 := by simpa using Array.mem_of_getElem? ht
  rcases this with rfl | rfl
  · exact (show Tryd.prog.wantsStandIn 9 = false by kernel_rfl)
  · exact (show Tryd.prog.wantsStandIn 29 = false by kernel_rfl)
theorem card : Rows.PrintfPlainCardSaid :=
  Claim7.holds_tied_plain_at .later [] _ _ _ _ said (fun _ h => by cases h) (by kernel_rfl) (fun _ h => by cases h) printfPlain_row_tie rfl ⟨rfl, rfl⟩ (by kernel_rfl) rfl plain (by kernel_rfl)
end plain
end Go.Proofs.YtfgocjmkefeeeaaDoor

