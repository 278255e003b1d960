/- A part of the proof: definitions and lemmas. -/
import Derived.Test.YtfgocjmkefeeeaaDoorJoinsF
namespace Go.Proofs.Pr
open Go Go.Ef
noncomputable section
set_option maxRecDepth 100000
theorem x0 (u : Int) (N : Int → List AV → Prop) (X : Int → List AV → Prop) (h : iteP (decide (16 ≤ u)) (∀ (m : Int), m = IntKind.u64.wrap (↑(BitVec.ofInt (64 :
 Nat) u &&& BitVec.ofInt 64 15).toNat : Int) → iteP (inRange m 36) (∀ (m_1 : Int), m_1 = byteAt digTab m → ∀ (m : Int), m = u.fdiv 16 → S85 16 4 15 m 64 (List.replicate 64 z8 ++ [AV.sc (Value.int IntKind.u8 m_1)]) = S85 16 4 15 m 64 (List.replicate 64 z8 ++ [AV.sc (Value.int IntKind.u8 m_1)]) ∧ N m (List.replicate 64 z8 ++ [AV.sc (Value.int IntKind.u8 m_1)])) False) (E85 u 65 (List.replicate
 65 z8 ++ []) = E85 u 65 (List.replicate 65 z8 ++ []) ∧ X u (List.replicate 65 z8 ++ []))) : (fun (u : Int) (N X : Int → List AV → Prop) => wpRound H0 Door.cfg Tryd.prog 40 85 12 (S85 16 4 15 u 65 (List.replicate 65 z8 ++ [])) (fun τ => τ = S85 16 4 15 (slI τ 1) 64 (hCs τ.h) ∧ N (slI τ 1) (hCs τ.h)) (qE85 65 X)) u N X :=
 Eq.mp (by kernel_rfl) h
theorem x1 (u : Int) (d0 : Int) (N : Int → List AV → Prop) (X : Int → List AV → Prop) (h : iteP (decide (16 ≤ u)) (∀ (m : Int), m = IntKind.u64.wrap
 (↑(BitVec.ofInt 64 u &&& BitVec.ofInt 64 15).toNat : Int) → iteP (inRange m 36) (∀ (m_1 : Int), m_1 = byteAt digTab m → ∀ (m : Int), m = u.fdiv 16 → S85 16 4 15 m 63 (List.replicate 63 z8 ++ [AV.sc (Value.int IntKind.u8 m_1), AV.sc (Value.int IntKind.u8 d0)]) = S85
 16 4 15 m 63 (List.replicate 63 z8 ++ [AV.sc (Value.int IntKind.u8 m_1), AV.sc (Value.int IntKind.u8 d0)]) ∧ N m (List.replicate 63 z8 ++ [AV.sc (Value.int IntKind.u8 m_1), AV.sc (Value.int IntKind.u8 d0)])) False) (E85 u 64 (List.replicate 64 z8 ++ [AV.sc (Value.int IntKind.u8 d0)]) = E85 u (64 :
 Int) (List.replicate 64 z8 ++ [AV.sc (Value.int IntKind.u8 d0)]) ∧ X u (List.replicate 64 z8 ++ [AV.sc (Value.int IntKind.u8 d0)]))) : (fun (u d0 : Int) (N X : Int → List AV → Prop) => wpRound H0 Door.cfg Tryd.prog 40 85 12 (S85 16 4 15 u 64 (List.replicate 64 z8 ++ [aK .u8 d0])) (fun τ => τ = S85 16 4 15 (slI τ 1) 63 (hCs τ.h) ∧ N (slI τ 1) (hCs τ.h)) (qE85 64 X)) u d0 N X :=
 Eq.mp (by kernel_rfl) h
theorem x2 (u : Int) (d0 : Int) (d1 : Int) (N : Int → List AV → Prop) (X : Int → List AV → Prop) (h : iteP (decide (16 ≤ u)) (∀ (m : Int), m = IntKind.u64.wrap
 (↑(BitVec.ofInt 64 u &&& BitVec.ofInt 64 15).toNat : Int) → iteP (inRange m 36) (∀ (m_1 : Int), m_1 = byteAt digTab m → ∀ (m : Int), m = u.fdiv 16 → S85 16 4 15 m 62 (List.replicate 62 z8 ++ [AV.sc (Value.int IntKind.u8 m_1), AV.sc (Value.int IntKind.u8 d0), AV.sc
 (Value.int IntKind.u8 d1)]) = S85 16 4 15 m 62 (List.replicate 62 z8 ++ [AV.sc (Value.int IntKind.u8 m_1), AV.sc (Value.int IntKind.u8 d0), AV.sc (Value.int IntKind.u8 d1)]) ∧ N m (List.replicate 62 z8 ++ [AV.sc (Value.int IntKind.u8 m_1), AV.sc (Value.int IntKind.u8 d0), AV.sc (Value.int IntKind.u8 d1)]))
 False) (E85 u 63 (List.replicate 63 z8 ++ [AV.sc (Value.int IntKind.u8 d0), AV.sc (Value.int IntKind.u8 d1)]) = E85 u 63 (List.replicate 63 z8 ++ [AV.sc (Value.int IntKind.u8 d0), AV.sc (Value.int IntKind.u8 d1)]) ∧ X u (List.replicate 63 z8 ++ [AV.sc (Value.int IntKind.u8 d0), AV.sc (Value.int IntKind.u8 d1)]))) : (fun (u
 d0 d1 : Int) (N X : Int → List AV → Prop) => wpRound H0 Door.cfg Tryd.prog 40 85 12 (S85 16 4 15 u 63 (List.replicate 63 z8 ++ [aK .u8 d0, aK .u8 d1])) (fun τ => τ = S85 16 4 15 (slI τ 1) 62 (hCs τ.h) ∧ N (slI τ 1) (hCs τ.h)) (qE85 63 X)) u d0 d1 N X :=
 Eq.mp (by kernel_rfl) h
theorem x3 (u : Int) (d0 : Int) (d1 : Int) (d2 : Int) (N : Int → List AV → Prop) (X : Int → List AV → Prop) (h : iteP (decide (16 ≤ u)) (∀ (m : Int), m =
 IntKind.u64.wrap (↑(BitVec.ofInt 64 u &&& BitVec.ofInt 64 15).toNat : Int) → iteP (inRange m 36) (∀ (m_1 : Int), m_1 = byteAt digTab m → ∀ (m : Int), m = u.fdiv 16 → S85 16 4 15 m 61 (List.replicate 61 z8 ++ [AV.sc (Value.int IntKind.u8 m_1), AV.sc (Value.int IntKind.u8
 d0), AV.sc (Value.int IntKind.u8 d1), AV.sc (Value.int IntKind.u8 d2)]) = S85 16 4 15 m 61 (List.replicate 61 z8 ++ [AV.sc (Value.int IntKind.u8 m_1), AV.sc (Value.int IntKind.u8 d0), AV.sc (Value.int IntKind.u8 d1), AV.sc (Value.int IntKind.u8 d2)]) ∧ N m (List.replicate 61 z8 ++ [AV.sc (Value.int
 IntKind.u8 m_1), AV.sc (Value.int IntKind.u8 d0), AV.sc (Value.int IntKind.u8 d1), AV.sc (Value.int IntKind.u8 d2)])) False) (E85 u 62 (List.replicate 62 z8 ++ [AV.sc (Value.int IntKind.u8 d0), AV.sc (Value.int IntKind.u8 d1), AV.sc (Value.int IntKind.u8 d2)]) = E85 u 62 (List.replicate 62 z8 ++ [AV.sc (Value.int
 IntKind.u8 d0), AV.sc (Value.int IntKind.u8 d1), AV.sc (Value.int IntKind.u8 d2)]) ∧ X u (List.replicate 62 z8 ++ [AV.sc (Value.int IntKind.u8 d0), AV.sc (Value.int IntKind.u8 d1), AV.sc (Value.int IntKind.u8 d2)]))) : (fun (u d0 d1 d2 : Int) (N X : Int → List AV → Prop) => wpRound H0 Door.cfg Tryd.prog 40 85 12 (S85 16 4 15 u 62
 (List.replicate 62 z8 ++ [aK .u8 d0, aK .u8 d1, aK .u8 d2])) (fun τ => τ = S85 16 4 15 (slI τ 1) 61 (hCs τ.h) ∧ N (slI τ 1) (hCs τ.h)) (qE85 62 X)) u d0 d1 d2 N X :=
 Eq.mp (by kernel_rfl) h
theorem x4 (u : Int) (d0 : Int) (d1 : Int) (d2 : Int) (d3 : Int) (N : Int → List AV → Prop) (X : Int → List AV → Prop) (h : iteP (decide (16 ≤ u)) (∀ (m : Int), m
 = IntKind.u64.wrap (↑(BitVec.ofInt 64 u &&& BitVec.ofInt 64 15).toNat : Int) → iteP (inRange m 36) (∀ (m_1 : Int), m_1 = byteAt digTab m → ∀ (m : Int), m = u.fdiv 16 → S85 16 4 15 m 60 (List.replicate 60 z8 ++ [AV.sc (Value.int IntKind.u8 m_1), AV.sc (Value.int IntKind.u8 d0), AV.sc (Value.int IntKind.u8 d1), AV.sc (Value.int IntKind.u8 d2), AV.sc (Value.int IntKind.u8 d3)]) = S85 16 4 15 m 60
 (List.replicate 60 z8 ++ [AV.sc (Value.int IntKind.u8 m_1), AV.sc (Value.int IntKind.u8 d0), AV.sc (Value.int IntKind.u8 d1), AV.sc (Value.int IntKind.u8 d2), AV.sc (Value.int IntKind.u8 d3)]) ∧ N m (List.replicate 60 z8 ++ [AV.sc (Value.int IntKind.u8 m_1), AV.sc (Value.int IntKind.u8 d0), AV.sc (Value.int IntKind.u8 d1), AV.sc
 (Value.int IntKind.u8 d2), AV.sc (Value.int IntKind.u8 d3)])) False) (E85 u 61 (List.replicate 61 z8 ++ [AV.sc (Value.int IntKind.u8 d0), AV.sc (Value.int IntKind.u8 d1), AV.sc (Value.int IntKind.u8 d2), AV.sc (Value.int IntKind.u8 d3)]) = E85 u 61 (List.replicate 61 z8 ++ [AV.sc (Value.int IntKind.u8 d0), AV.sc
 (Value.int IntKind.u8 d1), AV.sc (Value.int IntKind.u8 d2), AV.sc (Value.int IntKind.u8 d3)]) ∧ X u (List.replicate 61 z8 ++ [AV.sc (Value.int IntKind.u8 d0), AV.sc (Value.int IntKind.u8 d1), AV.sc (Value.int IntKind.u8 d2), AV.sc (Value.int IntKind.u8 d3)]))) : (fun (u d0 d1 d2 d3 : Int) (N X : Int → List AV → Prop) => wpRound H0
 Door.cfg Tryd.prog 40 85 12 (S85 16 4 15 u 61 (List.replicate 61 z8 ++ [aK .u8 d0, aK .u8 d1, aK .u8 d2, aK .u8 d3])) (fun τ => τ = S85 16 4 15 (slI τ 1) 60 (hCs τ.h) ∧ N (slI τ 1) (hCs τ.h)) (qE85 61 X)) u d0 d1 d2 d3 N X :=
 Eq.mp (by kernel_rfl) h
theorem x5 (u : Int) (d0 : Int) (d1 : Int) (d2 : Int) (d3 : Int) (d4 : Int) (N : Int → List AV → Prop) (X : Int → List AV → Prop) (h : iteP (decide (16 ≤ u)) (∀ (m
 : Int), m = IntKind.u64.wrap (↑(BitVec.ofInt 64 u &&& BitVec.ofInt 64 15).toNat : Int) → iteP (inRange m 36) (∀ (m_1 : Int), m_1 = byteAt digTab m → ∀ (m : Int), m = u.fdiv 16 → S85 16 4 15 m 59 (List.replicate 59 z8 ++ [AV.sc (Value.int IntKind.u8 m_1), AV.sc
 (Value.int IntKind.u8 d0), AV.sc (Value.int IntKind.u8 d1), AV.sc (Value.int IntKind.u8 d2), AV.sc (Value.int IntKind.u8 d3), AV.sc (Value.int IntKind.u8 d4)]) = S85 (16 : Int) 4 15 m 59 (List.replicate 59 z8 ++ [AV.sc (Value.int IntKind.u8 m_1), AV.sc (Value.int IntKind.u8 d0), AV.sc (Value.int IntKind.u8 d1), AV.sc
 (Value.int IntKind.u8 d2), AV.sc (Value.int IntKind.u8 d3), AV.sc (Value.int IntKind.u8 d4)]) ∧ N m (List.replicate 59 z8 ++ [AV.sc (Value.int IntKind.u8 m_1), AV.sc (Value.int IntKind.u8 d0), AV.sc (Value.int IntKind.u8 d1), AV.sc (Value.int IntKind.u8 d2), AV.sc (Value.int IntKind.u8 d3), AV.sc (Value.int IntKind.u8 d4)])) False)
 (E85 u 60 (List.replicate 60 z8 ++ [AV.sc (Value.int IntKind.u8 d0), AV.sc (Value.int IntKind.u8 d1), AV.sc (Value.int IntKind.u8 d2), AV.sc (Value.int IntKind.u8 d3), AV.sc (Value.int IntKind.u8 d4)]) = E85 u 60 (List.replicate 60 z8 ++ [AV.sc (Value.int IntKind.u8 d0), AV.sc (Value.int IntKind.u8 d1), AV.sc (Value.int
 IntKind.u8 d2), AV.sc (Value.int IntKind.u8 d3), AV.sc (Value.int IntKind.u8 d4)]) ∧ X u (List.replicate 60 z8 ++ [AV.sc (Value.int IntKind.u8 d0), AV.sc (Value.int IntKind.u8 d1), AV.sc (Value.int IntKind.u8 d2), AV.sc (Value.int IntKind.u8 d3), AV.sc (Value.int IntKind.u8 d4)]))) : (fun (u d0 d1 d2 d3 d4 : Int) (N X : Int → List AV
 → Prop) => wpRound H0 Door.cfg Tryd.prog 40 85 12 (S85 16 4 15 u 60 (List.replicate 60 z8 ++ [aK .u8 d0, aK .u8 d1, aK .u8 d2, aK .u8 d3, aK .u8 d4])) (fun τ => τ = S85 16 4 15 (slI τ 1) 59 (hCs τ.h) ∧ N (slI τ 1) (hCs τ.h)) (qE85 60 X)) u d0 d1 d2 d3 d4 N X :=
 Eq.mp (by kernel_rfl) h
theorem x6 (u : Int) (d0 : Int) (d1 : Int) (d2 : Int) (d3 : Int) (d4 : Int) (d5 : Int) (N : Int → List AV → Prop) (X : Int → List AV → Prop) (h : iteP (decide (16
 ≤ u)) (∀ (m : Int), m = IntKind.u64.wrap (↑(BitVec.ofInt 64 u &&& BitVec.ofInt 64 15).toNat : Int) → iteP (inRange m 36) (∀ (m_1 : Int), m_1 = byteAt digTab m → ∀ (m : Int), m = u.fdiv 16 → S85 16 4 15 m 58 (List.replicate 58 z8 ++ [AV.sc (Value.int IntKind.u8 m_1),
 AV.sc (Value.int IntKind.u8 d0), AV.sc (Value.int IntKind.u8 d1), AV.sc (Value.int IntKind.u8 d2), AV.sc (Value.int IntKind.u8 d3), AV.sc (Value.int IntKind.u8 d4), AV.sc (Value.int IntKind.u8 d5)]) = S85 16 4 15 m 58 (List.replicate 58 z8 ++ [AV.sc (Value.int IntKind.u8 m_1), AV.sc (Value.int IntKind.u8 d0),
 AV.sc (Value.int IntKind.u8 d1), AV.sc (Value.int IntKind.u8 d2), AV.sc (Value.int IntKind.u8 d3), AV.sc (Value.int IntKind.u8 d4), AV.sc (Value.int IntKind.u8 d5)]) ∧ N m (List.replicate 58 z8 ++ [AV.sc (Value.int IntKind.u8 m_1), AV.sc (Value.int IntKind.u8 d0), AV.sc (Value.int IntKind.u8 d1), AV.sc (Value.int IntKind.u8 d2), AV.sc
 (Value.int IntKind.u8 d3), AV.sc (Value.int IntKind.u8 d4), AV.sc (Value.int IntKind.u8 d5)])) False) (E85 u 59 (List.replicate 59 z8 ++ [AV.sc (Value.int IntKind.u8 d0), AV.sc (Value.int IntKind.u8 d1), AV.sc (Value.int IntKind.u8 d2), AV.sc (Value.int IntKind.u8 d3), AV.sc (Value.int IntKind.u8 d4), AV.sc (Value.int
 IntKind.u8 d5)]) = E85 u 59 (List.replicate 59 z8 ++ [AV.sc (Value.int IntKind.u8 d0), AV.sc (Value.int IntKind.u8 d1), AV.sc (Value.int IntKind.u8 d2), AV.sc (Value.int IntKind.u8 d3), AV.sc (Value.int IntKind.u8 d4), AV.sc (Value.int IntKind.u8 d5)]) ∧ X u (List.replicate 59 z8 ++ [AV.sc (Value.int IntKind.u8 d0), AV.sc
 (Value.int IntKind.u8 d1), AV.sc (Value.int IntKind.u8 d2), AV.sc (Value.int IntKind.u8 d3), AV.sc (Value.int IntKind.u8 d4), AV.sc (Value.int IntKind.u8 d5)]))) : (fun (u d0 d1 d2 d3 d4 d5 : Int) (N X : Int → List AV → Prop) => wpRound H0 Door.cfg Tryd.prog 40 85 12 (S85 16 4 15 u 59 (List.replicate 59 z8 ++ [aK .u8 d0, aK .u8 d1, aK .u8
 d2, aK .u8 d3, aK .u8 d4, aK .u8 d5])) (fun τ => τ = S85 16 4 15 (slI τ 1) 58 (hCs τ.h) ∧ N (slI τ 1) (hCs τ.h)) (qE85 59 X)) u d0 d1 d2 d3 d4 d5 N X :=
 Eq.mp (by kernel_rfl) h
theorem x7 (u : Int) (d0 : Int) (d1 : Int) (d2 : Int) (d3 : Int) (d4 : Int) (d5 : Int) (d6 : Int) (N : Int → List AV → Prop) (X : Int → List AV → Prop) (h : iteP (decide
 (16 ≤ u)) (∀ (m : Int), m = IntKind.u64.wrap (↑(BitVec.ofInt 64 u &&& BitVec.ofInt 64 15).toNat : Int) → iteP (inRange m 36) (∀ (m_1 : Int), m_1 = byteAt digTab m → ∀ (m : Int), m = u.fdiv 16 → S85 16 4 15 m 57 (List.replicate 57 z8 ++ [AV.sc (Value.int
 IntKind.u8 m_1), AV.sc (Value.int IntKind.u8 d0), AV.sc (Value.int IntKind.u8 d1), AV.sc (Value.int IntKind.u8 d2), AV.sc (Value.int IntKind.u8 d3), AV.sc (Value.int IntKind.u8 d4), AV.sc (Value.int IntKind.u8 d5), AV.sc (Value.int IntKind.u8 d6)]) = S85 16 4 15 m 57 (List.replicate 57 z8 ++ [AV.sc
 (Value.int IntKind.u8 m_1), AV.sc (Value.int IntKind.u8 d0), AV.sc (Value.int IntKind.u8 d1), AV.sc (Value.int IntKind.u8 d2), AV.sc (Value.int IntKind.u8 d3), AV.sc (Value.int IntKind.u8 d4), AV.sc (Value.int IntKind.u8 d5), AV.sc (Value.int IntKind.u8 d6)]) ∧ N m (List.replicate 57 z8 ++ [AV.sc (Value.int IntKind.u8 m_1), AV.sc
 (Value.int IntKind.u8 d0), AV.sc (Value.int IntKind.u8 d1), AV.sc (Value.int IntKind.u8 d2), AV.sc (Value.int IntKind.u8 d3), AV.sc (Value.int IntKind.u8 d4), AV.sc (Value.int IntKind.u8 d5), AV.sc (Value.int IntKind.u8 d6)])) False) (E85 u 58 (List.replicate 58 z8 ++ [AV.sc (Value.int IntKind.u8 d0), AV.sc (Value.int
 IntKind.u8 d1), AV.sc (Value.int IntKind.u8 d2), AV.sc (Value.int IntKind.u8 d3), AV.sc (Value.int IntKind.u8 d4), AV.sc (Value.int IntKind.u8 d5), AV.sc (Value.int IntKind.u8 d6)]) = E85 u 58 (List.replicate 58 z8 ++ [AV.sc (Value.int IntKind.u8 d0), AV.sc (Value.int IntKind.u8 d1), AV.sc (Value.int IntKind.u8 d2), AV.sc
 (Value.int IntKind.u8 d3), AV.sc (Value.int IntKind.u8 d4), AV.sc (Value.int IntKind.u8 d5), AV.sc (Value.int IntKind.u8 d6)]) ∧ X u (List.replicate 58 z8 ++ [AV.sc (Value.int IntKind.u8 d0), AV.sc (Value.int IntKind.u8 d1), AV.sc (Value.int IntKind.u8 d2), AV.sc (Value.int IntKind.u8 d3), AV.sc (Value.int IntKind.u8 d4), AV.sc
 (Value.int IntKind.u8 d5), AV.sc (Value.int IntKind.u8 d6)]))) : (fun (u d0 d1 d2 d3 d4 d5 d6 : Int) (N X : Int → List AV → Prop) => wpRound H0 Door.cfg Tryd.prog 40 85 12 (S85 16 4 15 u 58 (List.replicate 58 z8 ++ [aK .u8 d0, aK .u8 d1, aK .u8 d2, aK .u8 d3, aK .u8 d4, aK .u8 d5, aK .u8 d6])) (fun τ => τ = S85 16 4 15 (slI τ 1) 57 (hCs τ.h)
 ∧ N (slI τ 1) (hCs τ.h)) (qE85 58 X)) u d0 d1 d2 d3 d4 d5 d6 N X :=
 Eq.mp (by kernel_rfl) h
theorem o0 (u : Int) (N : Int → List AV → Prop) (X : Int → List AV → Prop) (h : iteP (decide (8 ≤ u)) (∀ (m : Int), m = IntKind.u64.wrap (↑(BitVec.ofInt 64
 u &&& BitVec.ofInt 64 7).toNat : Int) → iteP (inRange m 36) (∀ (m_1 : Int), m_1 = byteAt digTab m → ∀ (m : Int), m = u.fdiv 8 → S85 (8 : Int) 3 7 m 64 (List.replicate 64 z8 ++ [AV.sc (Value.int IntKind.u8 m_1)]) = S85 8 3 7 m 64 (List.replicate 64 z8
 ++ [AV.sc (Value.int IntKind.u8 m_1)]) ∧ N m (List.replicate 64 z8 ++ [AV.sc (Value.int IntKind.u8 m_1)])) False) (E85 u 65 (List.replicate 65 z8 ++ []) = E85 u 65 (List.replicate 65 z8 ++ []) ∧ X u (List.replicate 65 z8 ++ []))) : (fun (u : Int) (N X : Int → List AV → Prop) => wpRound H0 Door.cfg Tryd.prog 40 85 12 (S85 8
 3 7 u 65 (List.replicate 65 z8 ++ [])) (fun τ => τ = S85 8 3 7 (slI τ 1) 64 (hCs τ.h) ∧ N (slI τ 1) (hCs τ.h)) (qE85 65 X)) u N X :=
 Eq.mp (by kernel_rfl) h
theorem o1 (u : Int) (d0 : Int) (N : Int → List AV → Prop) (X : Int → List AV → Prop) (h : iteP (decide (8 ≤ u)) (∀ (m : Int), m = IntKind.u64.wrap (↑(BitVec.ofInt
 64 u &&& BitVec.ofInt 64 7).toNat : Int) → iteP (inRange m 36) (∀ (m_1 : Int), m_1 = byteAt digTab m → ∀ (m : Int), m = u.fdiv 8 → S85 8 3 7 m 63 (List.replicate 63 z8 ++ [AV.sc (Value.int IntKind.u8 m_1), AV.sc (Value.int IntKind.u8 d0)]) = S85 8 3 (7 :
 Int) m 63 (List.replicate 63 z8 ++ [AV.sc (Value.int IntKind.u8 m_1), AV.sc (Value.int IntKind.u8 d0)]) ∧ N m (List.replicate 63 z8 ++ [AV.sc (Value.int IntKind.u8 m_1), AV.sc (Value.int IntKind.u8 d0)])) False) (E85 u 64 (List.replicate 64 z8 ++ [AV.sc (Value.int IntKind.u8 d0)]) = E85 u 64 (List.replicate 64 z8 ++
 [AV.sc (Value.int IntKind.u8 d0)]) ∧ X u (List.replicate 64 z8 ++ [AV.sc (Value.int IntKind.u8 d0)]))) : (fun (u d0 : Int) (N X : Int → List AV → Prop) => wpRound H0 Door.cfg Tryd.prog 40 85 12 (S85 8 3 7 u 64 (List.replicate 64 z8 ++ [aK .u8 d0])) (fun τ => τ = S85 8 3 7 (slI τ 1) 63 (hCs τ.h) ∧ N (slI τ 1) (hCs τ.h)) (qE85 64 X)) u d0 N X :=
 Eq.mp (by kernel_rfl) h
theorem o2 (u : Int) (d0 : Int) (d1 : Int) (N : Int → List AV → Prop) (X : Int → List AV → Prop) (h : iteP (decide (8 ≤ u)) (∀ (m : Int), m = IntKind.u64.wrap
 (↑(BitVec.ofInt 64 u &&& BitVec.ofInt 64 7).toNat : Int) → iteP (inRange m 36) (∀ (m_1 : Int), m_1 = byteAt digTab m → ∀ (m : Int), m = u.fdiv 8 → S85 8 3 7 m 62 (List.replicate 62 z8 ++ [AV.sc (Value.int IntKind.u8 m_1), AV.sc (Value.int IntKind.u8 d0), AV.sc (Value.int IntKind.u8 d1)]) = S85 8 3 7 m 62 (List.replicate 62 z8 ++ [AV.sc (Value.int IntKind.u8 m_1), AV.sc (Value.int IntKind.u8 d0),
 AV.sc (Value.int IntKind.u8 d1)]) ∧ N m (List.replicate 62 z8 ++ [AV.sc (Value.int IntKind.u8 m_1), AV.sc (Value.int IntKind.u8 d0), AV.sc (Value.int IntKind.u8 d1)])) False) (E85 u 63 (List.replicate 63 z8 ++ [AV.sc (Value.int IntKind.u8 d0), AV.sc (Value.int IntKind.u8 d1)]) = E85 u 63 (List.replicate 63 z8 ++ [AV.sc
 (Value.int IntKind.u8 d0), AV.sc (Value.int IntKind.u8 d1)]) ∧ X u (List.replicate 63 z8 ++ [AV.sc (Value.int IntKind.u8 d0), AV.sc (Value.int IntKind.u8 d1)]))) : (fun (u d0 d1 : Int) (N X : Int → List AV → Prop) => wpRound H0 Door.cfg Tryd.prog 40 85 12 (S85 8 3 7 u 63 (List.replicate 63 z8 ++ [aK .u8 d0, aK .u8 d1])) (fun τ => τ = S85 8 3
 7 (slI τ 1) 62 (hCs τ.h) ∧ N (slI τ 1) (hCs τ.h)) (qE85 63 X)) u d0 d1 N X :=
 Eq.mp (by kernel_rfl) h
theorem o3 (u : Int) (d0 : Int) (d1 : Int) (d2 : Int) (N : Int → List AV → Prop) (X : Int → List AV → Prop) (h : iteP (decide (8 ≤ u)) (∀ (m : Int), m =
 IntKind.u64.wrap (↑(BitVec.ofInt 64 u &&& BitVec.ofInt 64 7).toNat : Int) → iteP (inRange m 36) (∀ (m_1 : Int), m_1 = byteAt digTab m → ∀ (m : Int), m = u.fdiv 8 → S85 8 3 7 m 61 (List.replicate 61 z8 ++ [AV.sc (Value.int IntKind.u8 m_1), AV.sc (Value.int IntKind.u8 d0), AV.sc (Value.int IntKind.u8 d1), AV.sc (Value.int IntKind.u8 d2)]) = S85 8 3 7 m 61 (List.replicate 61 z8 ++ [AV.sc (Value.int
 IntKind.u8 m_1), AV.sc (Value.int IntKind.u8 d0), AV.sc (Value.int IntKind.u8 d1), AV.sc (Value.int IntKind.u8 d2)]) ∧ N m (List.replicate 61 z8 ++ [AV.sc (Value.int IntKind.u8 m_1), AV.sc (Value.int IntKind.u8 d0), AV.sc (Value.int IntKind.u8 d1), AV.sc (Value.int IntKind.u8 d2)])) False) (E85 u 62 (List.replicate 62 z8 ++
 [AV.sc (Value.int IntKind.u8 d0), AV.sc (Value.int IntKind.u8 d1), AV.sc (Value.int IntKind.u8 d2)]) = E85 u 62 (List.replicate 62 z8 ++ [AV.sc (Value.int IntKind.u8 d0), AV.sc (Value.int IntKind.u8 d1), AV.sc (Value.int IntKind.u8 d2)]) ∧ X u (List.replicate 62 z8 ++ [AV.sc (Value.int IntKind.u8 d0), AV.sc (Value.int
 IntKind.u8 d1), AV.sc (Value.int IntKind.u8 d2)]))) : (fun (u d0 d1 d2 : Int) (N X : Int → List AV → Prop) => wpRound H0 Door.cfg Tryd.prog 40 85 12 (S85 8 3 7 u 62 (List.replicate 62 z8 ++ [aK .u8 d0, aK .u8 d1, aK .u8 d2])) (fun τ => τ = S85 8 3 7 (slI τ 1) 61 (hCs τ.h) ∧ N (slI τ 1) (hCs τ.h)) (qE85 62 X)) u d0 d1 d2 N X :=
 Eq.mp (by kernel_rfl) h
theorem o4 (u : Int) (d0 : Int) (d1 : Int) (d2 : Int) (d3 : Int) (N : Int → List AV → Prop) (X : Int → List AV → Prop) (h : iteP (decide (8 ≤ u)) (∀ (m : Int), m =
 IntKind.u64.wrap (↑(BitVec.ofInt 64 u &&& BitVec.ofInt 64 7).toNat : Int) → iteP (inRange m 36) (∀ (m_1 : Int), m_1 = byteAt digTab m → ∀ (m : Int), m = u.fdiv 8 → S85 8 3 7 m 60 (List.replicate 60 z8 ++ [AV.sc (Value.int IntKind.u8 m_1), AV.sc (Value.int IntKind.u8
 d0), AV.sc (Value.int IntKind.u8 d1), AV.sc (Value.int IntKind.u8 d2), AV.sc (Value.int IntKind.u8 d3)]) = S85 8 3 7 m 60 (List.replicate 60 z8 ++ [AV.sc (Value.int IntKind.u8 m_1), AV.sc (Value.int IntKind.u8 d0), AV.sc (Value.int IntKind.u8 d1), AV.sc (Value.int IntKind.u8 d2), AV.sc (Value.int IntKind.u8
 d3)]) ∧ N m (List.replicate 60 z8 ++ [AV.sc (Value.int IntKind.u8 m_1), AV.sc (Value.int IntKind.u8 d0), AV.sc (Value.int IntKind.u8 d1), AV.sc (Value.int IntKind.u8 d2), AV.sc (Value.int IntKind.u8 d3)])) False) (E85 u 61 (List.replicate 61 z8 ++ [AV.sc (Value.int IntKind.u8 d0), AV.sc (Value.int IntKind.u8 d1), AV.sc (Value.int
 IntKind.u8 d2), AV.sc (Value.int IntKind.u8 d3)]) = E85 u 61 (List.replicate 61 z8 ++ [AV.sc (Value.int IntKind.u8 d0), AV.sc (Value.int IntKind.u8 d1), AV.sc (Value.int IntKind.u8 d2), AV.sc (Value.int IntKind.u8 d3)]) ∧ X u (List.replicate 61 z8 ++ [AV.sc (Value.int IntKind.u8 d0), AV.sc (Value.int IntKind.u8 d1), AV.sc
 (Value.int IntKind.u8 d2), AV.sc (Value.int IntKind.u8 d3)]))) : (fun (u d0 d1 d2 d3 : Int) (N X : Int → List AV → Prop) => wpRound H0 Door.cfg Tryd.prog 40 85 12 (S85 8 3 7 u 61 (List.replicate 61 z8 ++ [aK .u8 d0, aK .u8 d1, aK .u8 d2, aK .u8 d3])) (fun τ => τ = S85 8 3 7 (slI τ 1) 60 (hCs τ.h) ∧ N (slI τ 1) (hCs τ.h)) (qE85 61 X)) u d0 d1 d2 d3 N X :=
 Eq.mp (by kernel_rfl) h
theorem o5 (u : Int) (d0 : Int) (d1 : Int) (d2 : Int) (d3 : Int) (d4 : Int) (N : Int → List AV → Prop) (X : Int → List AV → Prop) (h : iteP (decide (8 ≤ u)) (∀ (m
 : Int), m = IntKind.u64.wrap (↑(BitVec.ofInt 64 u &&& BitVec.ofInt 64 7).toNat : Int) → iteP (inRange m 36) (∀ (m_1 : Int), m_1 = byteAt digTab m → ∀ (m : Int), m = u.fdiv 8 → S85 8 3 7 m 59 (List.replicate 59 z8 ++ [AV.sc (Value.int IntKind.u8 m_1), AV.sc (Value.int
 IntKind.u8 d0), AV.sc (Value.int IntKind.u8 d1), AV.sc (Value.int IntKind.u8 d2), AV.sc (Value.int IntKind.u8 d3), AV.sc (Value.int IntKind.u8 d4)]) = S85 8 (3 : Int) 7 m 59 (List.replicate 59 z8 ++ [AV.sc (Value.int IntKind.u8 m_1), AV.sc (Value.int IntKind.u8 d0), AV.sc (Value.int IntKind.u8 d1), AV.sc (Value.int
 IntKind.u8 d2), AV.sc (Value.int IntKind.u8 d3), AV.sc (Value.int IntKind.u8 d4)]) ∧ N m (List.replicate 59 z8 ++ [AV.sc (Value.int IntKind.u8 m_1), AV.sc (Value.int IntKind.u8 d0), AV.sc (Value.int IntKind.u8 d1), AV.sc (Value.int IntKind.u8 d2), AV.sc (Value.int IntKind.u8 d3), AV.sc (Value.int IntKind.u8 d4)])) False) (E85 u (60 :
 Int) (List.replicate 60 z8 ++ [AV.sc (Value.int IntKind.u8 d0), AV.sc (Value.int IntKind.u8 d1), AV.sc (Value.int IntKind.u8 d2), AV.sc (Value.int IntKind.u8 d3), AV.sc (Value.int IntKind.u8 d4)]) = E85 u 60 (List.replicate 60 z8 ++ [AV.sc (Value.int IntKind.u8 d0), AV.sc (Value.int IntKind.u8 d1), AV.sc (Value.int IntKind.u8 d2),
 AV.sc (Value.int IntKind.u8 d3), AV.sc (Value.int IntKind.u8 d4)]) ∧ X u (List.replicate 60 z8 ++ [AV.sc (Value.int IntKind.u8 d0), AV.sc (Value.int IntKind.u8 d1), AV.sc (Value.int IntKind.u8 d2), AV.sc (Value.int IntKind.u8 d3), AV.sc (Value.int IntKind.u8 d4)]))) : (fun (u d0 d1 d2 d3 d4 : Int) (N X : Int → List AV → Prop) => wpRound H0
 Door.cfg Tryd.prog 40 85 12 (S85 8 3 7 u 60 (List.replicate 60 z8 ++ [aK .u8 d0, aK .u8 d1, aK .u8 d2, aK .u8 d3, aK .u8 d4])) (fun τ => τ = S85 8 3 7 (slI τ 1) 59 (hCs τ.h) ∧ N (slI τ 1) (hCs τ.h)) (qE85 60 X)) u d0 d1 d2 d3 d4 N X :=
 Eq.mp (by kernel_rfl) h
theorem o6 (u : Int) (d0 : Int) (d1 : Int) (d2 : Int) (d3 : Int) (d4 : Int) (d5 : Int) (N : Int → List AV → Prop) (X : Int → List AV → Prop) (h : iteP (decide (8 ≤
 u)) (∀ (m : Int), m = IntKind.u64.wrap (↑(BitVec.ofInt 64 u &&& BitVec.ofInt 64 7).toNat : Int) → iteP (inRange m 36) (∀ (m_1 : Int), m_1 = byteAt digTab m → ∀ (m : Int), m = u.fdiv 8 → S85 8 3 7 m 58 (List.replicate 58 z8 ++ [AV.sc (Value.int IntKind.u8 m_1), AV.sc
 (Value.int IntKind.u8 d0), AV.sc (Value.int IntKind.u8 d1), AV.sc (Value.int IntKind.u8 d2), AV.sc (Value.int IntKind.u8 d3), AV.sc (Value.int IntKind.u8 d4), AV.sc (Value.int IntKind.u8 d5)]) = S85 8 3 7 m 58 (List.replicate 58 z8 ++ [AV.sc (Value.int IntKind.u8 m_1), AV.sc (Value.int IntKind.u8 d0),
 AV.sc (Value.int IntKind.u8 d1), AV.sc (Value.int IntKind.u8 d2), AV.sc (Value.int IntKind.u8 d3), AV.sc (Value.int IntKind.u8 d4), AV.sc (Value.int IntKind.u8 d5)]) ∧ N m (List.replicate 58 z8 ++ [AV.sc (Value.int IntKind.u8 m_1), AV.sc (Value.int IntKind.u8 d0), AV.sc (Value.int IntKind.u8 d1), AV.sc (Value.int IntKind.u8 d2), AV.sc
 (Value.int IntKind.u8 d3), AV.sc (Value.int IntKind.u8 d4), AV.sc (Value.int IntKind.u8 d5)])) False) (E85 u 59 (List.replicate 59 z8 ++ [AV.sc (Value.int IntKind.u8 d0), AV.sc (Value.int IntKind.u8 d1), AV.sc (Value.int IntKind.u8 d2), AV.sc (Value.int IntKind.u8 d3), AV.sc (Value.int IntKind.u8 d4), AV.sc (Value.int
 IntKind.u8 d5)]) = E85 u 59 (List.replicate 59 z8 ++ [AV.sc (Value.int IntKind.u8 d0), AV.sc (Value.int IntKind.u8 d1), AV.sc (Value.int IntKind.u8 d2), AV.sc (Value.int IntKind.u8 d3), AV.sc (Value.int IntKind.u8 d4), AV.sc (Value.int IntKind.u8 d5)]) ∧ X u (List.replicate 59 z8 ++ [AV.sc (Value.int IntKind.u8 d0), AV.sc
 (Value.int IntKind.u8 d1), AV.sc (Value.int IntKind.u8 d2), AV.sc (Value.int IntKind.u8 d3), AV.sc (Value.int IntKind.u8 d4), AV.sc (Value.int IntKind.u8 d5)]))) : (fun (u d0 d1 d2 d3 d4 d5 : Int) (N X : Int → List AV → Prop) => wpRound H0 Door.cfg Tryd.prog 40 85 12 (S85 8 3 7 u 59 (List.replicate 59 z8 ++ [aK .u8 d0, aK .u8 d1, aK .u8 d2,
 aK .u8 d3, aK .u8 d4, aK .u8 d5])) (fun τ => τ = S85 8 3 7 (slI τ 1) 58 (hCs τ.h) ∧ N (slI τ 1) (hCs τ.h)) (qE85 59 X)) u d0 d1 d2 d3 d4 d5 N X :=
 Eq.mp (by kernel_rfl) h
theorem o7 (u : Int) (d0 : Int) (d1 : Int) (d2 : Int) (d3 : Int) (d4 : Int) (d5 : Int) (d6 : Int) (N : Int → List AV → Prop) (X : Int → List AV → Prop) (h : iteP (decide
 (8 ≤ u)) (∀ (m : Int), m = IntKind.u64.wrap (↑(BitVec.ofInt 64 u &&& BitVec.ofInt 64 7).toNat : Int) → iteP (inRange m 36) (∀ (m_1 : Int), m_1 = byteAt digTab m → ∀ (m : Int), m = u.fdiv 8 → S85 8 3 7 m 57 (List.replicate 57 z8 ++ [AV.sc (Value.int IntKind.u8
 m_1), AV.sc (Value.int IntKind.u8 d0), AV.sc (Value.int IntKind.u8 d1), AV.sc (Value.int IntKind.u8 d2), AV.sc (Value.int IntKind.u8 d3), AV.sc (Value.int IntKind.u8 d4), AV.sc (Value.int IntKind.u8 d5), AV.sc (Value.int IntKind.u8 d6)]) = S85 8 3 7 m 57 (List.replicate 57 z8 ++ [AV.sc (Value.int IntKind.u8
 m_1), AV.sc (Value.int IntKind.u8 d0), AV.sc (Value.int IntKind.u8 d1), AV.sc (Value.int IntKind.u8 d2), AV.sc (Value.int IntKind.u8 d3), AV.sc (Value.int IntKind.u8 d4), AV.sc (Value.int IntKind.u8 d5), AV.sc (Value.int IntKind.u8 d6)]) ∧ N m (List.replicate 57 z8 ++ [AV.sc (Value.int IntKind.u8 m_1), AV.sc (Value.int IntKind.u8 d0), AV.sc
 (Value.int IntKind.u8 d1), AV.sc (Value.int IntKind.u8 d2), AV.sc (Value.int IntKind.u8 d3), AV.sc (Value.int IntKind.u8 d4), AV.sc (Value.int IntKind.u8 d5), AV.sc (Value.int IntKind.u8 d6)])) False) (E85 u 58 (List.replicate 58 z8 ++ [AV.sc (Value.int IntKind.u8 d0), AV.sc (Value.int IntKind.u8 d1), AV.sc (Value.int
 IntKind.u8 d2), AV.sc (Value.int IntKind.u8 d3), AV.sc (Value.int IntKind.u8 d4), AV.sc (Value.int IntKind.u8 d5), AV.sc (Value.int IntKind.u8 d6)]) = E85 u 58 (List.replicate 58 z8 ++ [AV.sc (Value.int IntKind.u8 d0), AV.sc (Value.int IntKind.u8 d1), AV.sc (Value.int IntKind.u8 d2), AV.sc (Value.int IntKind.u8 d3), AV.sc
 (Value.int IntKind.u8 d4), AV.sc (Value.int IntKind.u8 d5), AV.sc (Value.int IntKind.u8 d6)]) ∧ X u (List.replicate 58 z8 ++ [AV.sc (Value.int IntKind.u8 d0), AV.sc (Value.int IntKind.u8 d1), AV.sc (Value.int IntKind.u8 d2), AV.sc (Value.int IntKind.u8 d3), AV.sc (Value.int IntKind.u8 d4), AV.sc (Value.int IntKind.u8 d5), AV.sc
 (Value.int IntKind.u8 d6)]))) : (fun (u d0 d1 d2 d3 d4 d5 d6 : Int) (N X : Int → List AV → Prop) => wpRound H0 Door.cfg Tryd.prog 40 85 12 (S85 8 3 7 u 58 (List.replicate 58 z8 ++ [aK .u8 d0, aK .u8 d1, aK .u8 d2, aK .u8 d3, aK .u8 d4, aK .u8 d5, aK .u8 d6])) (fun τ => τ = S85 8 3 7 (slI τ 1) 57 (hCs τ.h) ∧ N (slI τ 1) (hCs τ.h)) (qE85 58 X)) u d0 d1 d2 d3 d4 d5 d6 N X :=
 Eq.mp (by kernel_rfl) h
theorem o8 (u : Int) (d0 : Int) (d1 : Int) (d2 : Int) (d3 : Int) (d4 : Int) (d5 : Int) (d6 : Int) (d7 : Int) (N : Int → List AV → Prop) (X : Int → List AV → Prop) (h :
 iteP (decide (8 ≤ u)) (∀ (m : Int), m = IntKind.u64.wrap (↑(BitVec.ofInt 64 u &&& BitVec.ofInt 64 7).toNat : Int) → iteP (inRange m (36 : Nat)) (∀ (m_1 : Int), m_1 = byteAt digTab m → ∀ (m : Int), m = u.fdiv 8 → S85 8 3 7 m 56 (List.replicate 56 z8 ++ [AV.sc (Value.int
 IntKind.u8 m_1), AV.sc (Value.int IntKind.u8 d0), AV.sc (Value.int IntKind.u8 d1), AV.sc (Value.int IntKind.u8 d2), AV.sc (Value.int IntKind.u8 d3), AV.sc (Value.int IntKind.u8 d4), AV.sc (Value.int IntKind.u8 d5), AV.sc (Value.int IntKind.u8 d6), AV.sc (Value.int IntKind.u8 d7)]) = S85 8 3 7 m 56
 (List.replicate 56 z8 ++ [AV.sc (Value.int IntKind.u8 m_1), AV.sc (Value.int IntKind.u8 d0), AV.sc (Value.int IntKind.u8 d1), AV.sc (Value.int IntKind.u8 d2), AV.sc (Value.int IntKind.u8 d3), AV.sc (Value.int IntKind.u8 d4), AV.sc (Value.int IntKind.u8 d5), AV.sc (Value.int IntKind.u8 d6), AV.sc (Value.int IntKind.u8 d7)]) ∧ N m
 (List.replicate 56 z8 ++ [AV.sc (Value.int IntKind.u8 m_1), AV.sc (Value.int IntKind.u8 d0), AV.sc (Value.int IntKind.u8 d1), AV.sc (Value.int IntKind.u8 d2), AV.sc (Value.int IntKind.u8 d3), AV.sc (Value.int IntKind.u8 d4), AV.sc (Value.int IntKind.u8 d5), AV.sc (Value.int IntKind.u8 d6), AV.sc (Value.int IntKind.u8 d7)])) False)
 (E85 u 57 (List.replicate 57 z8 ++ [AV.sc (Value.int IntKind.u8 d0), AV.sc (Value.int IntKind.u8 d1), AV.sc (Value.int IntKind.u8 d2), AV.sc (Value.int IntKind.u8 d3), AV.sc (Value.int IntKind.u8 d4), AV.sc (Value.int IntKind.u8 d5), AV.sc (Value.int IntKind.u8 d6), AV.sc (Value.int IntKind.u8 d7)]) = E85 u 57
 (List.replicate 57 z8 ++ [AV.sc (Value.int IntKind.u8 d0), AV.sc (Value.int IntKind.u8 d1), AV.sc (Value.int IntKind.u8 d2), AV.sc (Value.int IntKind.u8 d3), AV.sc (Value.int IntKind.u8 d4), AV.sc (Value.int IntKind.u8 d5), AV.sc (Value.int IntKind.u8 d6), AV.sc (Value.int IntKind.u8 d7)]) ∧ X u (List.replicate 57 z8 ++ [AV.sc
 (Value.int IntKind.u8 d0), AV.sc (Value.int IntKind.u8 d1), AV.sc (Value.int IntKind.u8 d2), AV.sc (Value.int IntKind.u8 d3), AV.sc (Value.int IntKind.u8 d4), AV.sc (Value.int IntKind.u8 d5), AV.sc (Value.int IntKind.u8 d6), AV.sc (Value.int IntKind.u8 d7)]))) : (fun (u d0 d1 d2 d3 d4 d5 d6 d7 : Int) (N X : Int → List AV → Prop) =>
 wpRound H0 Door.cfg Tryd.prog 40 85 12 (S85 8 3 7 u 57 (List.replicate 57 z8 ++ [aK .u8 d0, aK .u8 d1, aK .u8 d2, aK .u8 d3, aK .u8 d4, aK .u8 d5, aK .u8 d6, aK .u8 d7]))
 (fun τ => τ = S85 8 3 7 (slI τ 1) 56 (hCs τ.h) ∧ N (slI τ 1) (hCs τ.h)) (qE85 57 X)) u d0 d1 d2 d3 d4 d5 d6 d7 N X :=
 Eq.mp (by kernel_rfl) h
theorem o9 (u : Int) (d0 : Int) (d1 : Int) (d2 : Int) (d3 : Int) (d4 : Int) (d5 : Int) (d6 : Int) (d7 : Int) (d8 : Int) (N : Int → List AV → Prop) (X : Int → List AV →
 Prop) (h : iteP (decide (8 ≤ u)) (∀ (m : Int), m = IntKind.u64.wrap (↑(BitVec.ofInt 64 u &&& BitVec.ofInt 64 7).toNat : Int) → iteP (inRange m 36) (∀ (m_1 : Int), m_1 = byteAt digTab m → ∀ (m : Int), m = u.fdiv 8 → S85 8 3 7 m 55 (List.replicate 55 z8 ++
 [AV.sc (Value.int IntKind.u8 m_1), AV.sc (Value.int IntKind.u8 d0), AV.sc (Value.int IntKind.u8 d1), AV.sc (Value.int IntKind.u8 d2), AV.sc (Value.int IntKind.u8 d3), AV.sc (Value.int IntKind.u8 d4), AV.sc (Value.int IntKind.u8 d5), AV.sc (Value.int IntKind.u8 d6), AV.sc (Value.int IntKind.u8 d7), AV.sc (Value.int IntKind.u8 d8)]) = S85
 8 3 7 m 55 (List.replicate 55 z8 ++ [AV.sc (Value.int IntKind.u8 m_1), AV.sc (Value.int IntKind.u8 d0), AV.sc (Value.int IntKind.u8 d1), AV.sc (Value.int IntKind.u8 d2), AV.sc (Value.int IntKind.u8 d3), AV.sc (Value.int IntKind.u8 d4), AV.sc (Value.int IntKind.u8 d5), AV.sc (Value.int IntKind.u8 d6), AV.sc
 (Value.int IntKind.u8 d7), AV.sc (Value.int IntKind.u8 d8)]) ∧ N m (List.replicate 55 z8 ++ [AV.sc (Value.int IntKind.u8 m_1), AV.sc (Value.int IntKind.u8 d0), AV.sc (Value.int IntKind.u8 d1), AV.sc (Value.int IntKind.u8 d2), AV.sc (Value.int IntKind.u8 d3), AV.sc (Value.int IntKind.u8 d4), AV.sc (Value.int IntKind.u8 d5), AV.sc
 (Value.int IntKind.u8 d6), AV.sc (Value.int IntKind.u8 d7), AV.sc (Value.int IntKind.u8 d8)])) False) (E85 u 56 (List.replicate 56 z8 ++ [AV.sc (Value.int IntKind.u8 d0), AV.sc (Value.int IntKind.u8 d1), AV.sc (Value.int IntKind.u8 d2), AV.sc (Value.int IntKind.u8 d3), AV.sc (Value.int IntKind.u8 d4), AV.sc (Value.int
 IntKind.u8 d5), AV.sc (Value.int IntKind.u8 d6), AV.sc (Value.int IntKind.u8 d7), AV.sc (Value.int IntKind.u8 d8)]) = E85 u 56 (List.replicate 56 z8 ++ [AV.sc (Value.int IntKind.u8 d0), AV.sc (Value.int IntKind.u8 d1), AV.sc (Value.int IntKind.u8 d2), AV.sc (Value.int IntKind.u8 d3), AV.sc (Value.int IntKind.u8 d4), AV.sc
 (Value.int IntKind.u8 d5), AV.sc (Value.int IntKind.u8 d6), AV.sc (Value.int IntKind.u8 d7), AV.sc (Value.int IntKind.u8 d8)]) ∧ X u (List.replicate 56 z8 ++ [AV.sc (Value.int IntKind.u8 d0), AV.sc (Value.int IntKind.u8 d1), AV.sc (Value.int IntKind.u8 d2), AV.sc (Value.int IntKind.u8 d3), AV.sc (Value.int IntKind.u8 d4), AV.sc
 (Value.int IntKind.u8 d5), AV.sc (Value.int IntKind.u8 d6), AV.sc (Value.int IntKind.u8 d7), AV.sc (Value.int IntKind.u8 d8)]))) : (fun (u d0 d1 d2 d3 d4 d5 d6 d7 d8 : Int) (N X : Int → List AV → Prop) => wpRound H0 Door.cfg Tryd.prog 40 85 12 (S85 8 3 7 u 56 (List.replicate 56 z8 ++ [aK .u8 d0, aK .u8 d1, aK .u8 d2, aK .u8 d3, aK .u8
 d4, aK .u8 d5, aK .u8 d6, aK .u8 d7, aK .u8 d8])) (fun τ => τ = S85 8 3 7 (slI τ 1) 55 (hCs τ.h) ∧ N (slI τ 1) (hCs τ.h)) (qE85 56 X)) u d0 d1 d2 d3 d4 d5 d6 d7 d8 N X :=
 Eq.mp (by kernel_rfl) h
theorem o10 (u : Int) (d0 : Int) (d1 : Int) (d2 : Int) (d3 : Int) (d4 : Int) (d5 : Int) (d6 : Int) (d7 : Int) (d8 : Int) (d9 : Int) (N : Int → List AV → Prop) (X : Int →
 List AV → Prop) (h : iteP (decide (8 ≤ u)) (∀ (m : Int), m = IntKind.u64.wrap (↑(BitVec.ofInt 64 u &&& BitVec.ofInt 64 7).toNat : Int) → iteP (inRange m 36) (∀ (m_1 : Int), m_1 = byteAt digTab m → ∀ (m : Int), m = u.fdiv 8 → S85 8 3 7 m 54 (List.replicate 54
 z8 ++ [AV.sc (Value.int IntKind.u8 m_1), AV.sc (Value.int IntKind.u8 d0), AV.sc (Value.int IntKind.u8 d1), AV.sc (Value.int IntKind.u8 d2), AV.sc (Value.int IntKind.u8 d3), AV.sc (Value.int IntKind.u8 d4), AV.sc (Value.int IntKind.u8 d5), AV.sc (Value.int IntKind.u8 d6), AV.sc (Value.int IntKind.u8 d7), AV.sc (Value.int IntKind.u8 d8),
 AV.sc (Value.int IntKind.u8 d9)]) = S85 8 3 7 m 54 (List.replicate 54 z8 ++ [AV.sc (Value.int IntKind.u8 m_1), AV.sc (Value.int IntKind.u8 d0), AV.sc (Value.int IntKind.u8 d1), AV.sc (Value.int IntKind.u8 d2), AV.sc (Value.int IntKind.u8 d3), AV.sc (Value.int IntKind.u8 d4), AV.sc (Value.int IntKind.u8 d5),
 AV.sc (Value.int IntKind.u8 d6), AV.sc (Value.int IntKind.u8 d7), AV.sc (Value.int IntKind.u8 d8), AV.sc (Value.int IntKind.u8 d9)]) ∧ N m (List.replicate 54 z8 ++ [AV.sc (Value.int IntKind.u8 m_1), AV.sc (Value.int IntKind.u8 d0), AV.sc (Value.int IntKind.u8 d1), AV.sc (Value.int IntKind.u8 d2), AV.sc (Value.int IntKind.u8 d3), AV.sc
 (Value.int IntKind.u8 d4), AV.sc (Value.int IntKind.u8 d5), AV.sc (Value.int IntKind.u8 d6), AV.sc (Value.int IntKind.u8 d7), AV.sc (Value.int IntKind.u8 d8), AV.sc (Value.int IntKind.u8 d9)])) False) (E85 u 55 (List.replicate 55 z8 ++ [AV.sc (Value.int IntKind.u8 d0), AV.sc (Value.int IntKind.u8 d1), AV.sc (Value.int
 IntKind.u8 d2), AV.sc (Value.int IntKind.u8 d3), AV.sc (Value.int IntKind.u8 d4), AV.sc (Value.int IntKind.u8 d5), AV.sc (Value.int IntKind.u8 d6), AV.sc (Value.int IntKind.u8 d7), AV.sc (Value.int IntKind.u8 d8), AV.sc (Value.int IntKind.u8 d9)]) = E85 u 55 (List.replicate 55 z8 ++ [AV.sc (Value.int IntKind.u8 d0), AV.sc
 (Value.int IntKind.u8 d1), AV.sc (Value.int IntKind.u8 d2), AV.sc (Value.int IntKind.u8 d3), AV.sc (Value.int IntKind.u8 d4), AV.sc (Value.int IntKind.u8 d5), AV.sc (Value.int IntKind.u8 d6), AV.sc (Value.int IntKind.u8 d7), AV.sc (Value.int IntKind.u8 d8), AV.sc (Value.int IntKind.u8 d9)]) ∧ X u (List.replicate 55 z8 ++ [AV.sc
 (Value.int IntKind.u8 d0), AV.sc (Value.int IntKind.u8 d1), AV.sc (Value.int IntKind.u8 d2), AV.sc (Value.int IntKind.u8 d3), AV.sc (Value.int IntKind.u8 d4), AV.sc (Value.int IntKind.u8 d5), AV.sc (Value.int IntKind.u8 d6), AV.sc (Value.int IntKind.u8 d7), AV.sc (Value.int IntKind.u8 d8), AV.sc (Value.int IntKind.u8 d9)]))) : (fun (u
 d0 d1 d2 d3 d4 d5 d6 d7 d8 d9 : Int) (N X : Int → List AV → Prop) => wpRound H0 Door.cfg Tryd.prog 40 85 12 (S85 8 3 7 u 55 (List.replicate 55 z8 ++ [aK .u8 d0, aK .u8 d1, aK .u8 d2, aK .u8 d3, aK .u8 d4, aK .u8 d5, aK .u8 d6, aK .u8 d7, aK .u8 d8, aK .u8 d9])) (fun τ => τ = S85 8 3 7 (slI τ 1) 54 (hCs τ.h) ∧ N (slI τ 1) (hCs τ.h)) (qE85 55 X)) u d0 d1 d2 d3 d4 d5 d6 d7 d8 d9 N X :=
 Eq.mp (by kernel_rfl) h
end
end Go.Proofs.Pr
namespace Go.Proofs.Pr
open Go Go.Ef
noncomputable section
set_option maxRecDepth 100000
theorem h85 (u : Int) (K : AV → Prop) (h : loopAt Tryd.prog 85 12 = loopAt Tryd.prog 85 12 ∧ (S85 16 4 15 u (65 :
 Int) (List.replicate 65 z8 ++ []) = S85 16 4 15 u 65 (List.replicate 65 z8 ++ []) ∧ 0 ≤ u ∧ u < 4294967296) ∧ (∀ (_ : Unit), 0 ≤ u ∧ u < 16 → iteP (inRange u 36) (K (AV.tup [AV.sc (Value.slice none 0 0), AV.sc (Value.string (ByteArray.mk (Array.mk [UInt8.ofNat (byteAt digTab u).toNat])))])) False) ∧ (∀ (_ : Unit), 16 ≤ u ∧ u < 256 → iteP (inRange (u / 16) 36) (K (AV.tup [AV.sc
 (Value.slice none 0 0), AV.sc (Value.string (ByteArray.mk (Array.mk [UInt8.ofNat (byteAt digTab (u / 16)).toNat, UInt8.ofNat (byteAt digTab (u % 16)).toNat])))])) False) ∧ (∀ (_ : Unit), 256 ≤ u ∧ u < 4096 → iteP (inRange (u / 256) 36) (K (AV.tup [AV.sc (Value.slice none (0 :
 Nat) 0), AV.sc (Value.string (ByteArray.mk (Array.mk [UInt8.ofNat (byteAt digTab (u / 256)).toNat, UInt8.ofNat (byteAt digTab (u / 16 % (16 : Int))).toNat, UInt8.ofNat (byteAt digTab (u % 16)).toNat])))])) False) ∧ (∀ (_ : Unit), 4096 ≤ u ∧ u < 65536 → iteP (inRange (u / 4096) (36
 : Nat)) (K (AV.tup [AV.sc (Value.slice none 0 0), AV.sc (Value.string (ByteArray.mk (Array.mk [UInt8.ofNat (byteAt digTab (u / 4096)).toNat, UInt8.ofNat (byteAt digTab (u / 256 % 16)).toNat, UInt8.ofNat (byteAt digTab (u / 16 % 16)).toNat, UInt8.ofNat (byteAt digTab (u % (16 :
 Int))).toNat])))])) False) ∧ (∀ (_ : Unit), 65536 ≤ u ∧ u < 1048576 → iteP (inRange (u / 65536) 36) (K (AV.tup [AV.sc (Value.slice none (0 : Nat) 0), AV.sc (Value.string (ByteArray.mk (Array.mk [UInt8.ofNat (byteAt digTab (u / 65536)).toNat, UInt8.ofNat (byteAt digTab (u / 4096 % (16 :
 Int))).toNat, UInt8.ofNat (byteAt digTab (u / 256 % 16)).toNat, UInt8.ofNat (byteAt digTab (u / 16 % 16)).toNat, UInt8.ofNat (byteAt digTab (u % 16)).toNat])))])) False) ∧ (∀ (_ : Unit), 1048576 ≤ u ∧ u < 16777216 → iteP (inRange (u / 1048576) 36) (K (AV.tup [AV.sc
 (Value.slice none 0 0), AV.sc (Value.string (ByteArray.mk (Array.mk [UInt8.ofNat (byteAt digTab (u / 1048576)).toNat, UInt8.ofNat (byteAt digTab (u / 65536 % 16)).toNat, UInt8.ofNat (byteAt digTab (u / 4096 % 16)).toNat, UInt8.ofNat (byteAt digTab (u / 256 % 16)).toNat,
 UInt8.ofNat (byteAt digTab (u / 16 % 16)).toNat, UInt8.ofNat (byteAt digTab (u % 16)).toNat])))])) False) ∧ (∀ (_ : Unit), 16777216 ≤ u ∧ u < 268435456 → iteP (inRange (u / 16777216) 36) (K (AV.tup [AV.sc (Value.slice none 0 0), AV.sc (Value.string (ByteArray.mk
 (Array.mk [UInt8.ofNat (byteAt digTab (u / 16777216)).toNat, UInt8.ofNat (byteAt digTab (u / 1048576 % 16)).toNat, UInt8.ofNat (byteAt digTab (u / 65536 % 16)).toNat, UInt8.ofNat (byteAt digTab (u / 4096 % 16)).toNat, UInt8.ofNat (byteAt digTab (u / 256 % 16)).toNat,
 UInt8.ofNat (byteAt digTab (u / 16 % 16)).toNat, UInt8.ofNat (byteAt digTab (u % 16)).toNat])))])) False) ∧ ∀ (_ : Unit), 268435456 ≤ u ∧ u < 4294967296 → iteP (inRange (u / 268435456) 36) (K (AV.tup [AV.sc (Value.slice none 0 0), AV.sc (Value.string (ByteArray.mk
 (Array.mk [UInt8.ofNat (byteAt digTab (u / 268435456)).toNat, UInt8.ofNat (byteAt digTab (u / 16777216 % 16)).toNat, UInt8.ofNat (byteAt digTab (u / 1048576 % 16)).toNat, UInt8.ofNat (byteAt digTab (u / 65536 % 16)).toNat, UInt8.ofNat (byteAt digTab (u / 4096 % (16 :
 Int))).toNat, UInt8.ofNat (byteAt digTab (u / 256 % 16)).toNat, UInt8.ofNat (byteAt digTab (u / 16 % 16)).toNat, UInt8.ofNat (byteAt digTab (u % 16)).toNat])))])) False) : (fun (u : Int) (K : AV → Prop) => wpCall H1 Door.cfg Tryd.prog 40 85 [.sc (.slice none 0 0), aK .u64 u, aK .i64 16, aBool false, aBool false] heapF fun r h' => wpBack h' r K) u K :=
 Eq.mp (by kernel_rfl) h
theorem o85 (u : Int) (K : AV → Prop) (h : loopAt Tryd.prog 85 12 = loopAt Tryd.prog 85 12 ∧ (S85 8 3 7 u (65 :
 Int) (List.replicate 65 z8 ++ []) = S85 8 3 7 u 65 (List.replicate 65 z8 ++ []) ∧ 0 ≤ u ∧ u < 4294967296) ∧ (∀ (_ : Unit), 0 ≤ u ∧ u < 8 → iteP (inRange u 36) (K (AV.tup [AV.sc (Value.slice none 0 0), AV.sc (Value.string (ByteArray.mk (Array.mk [UInt8.ofNat (byteAt digTab u).toNat])))])) False) ∧ (∀ (_ : Unit), 8 ≤ u ∧ u < 64 → iteP (inRange (u / 8) 36) (K (AV.tup [AV.sc
 (Value.slice none 0 0), AV.sc (Value.string (ByteArray.mk (Array.mk [UInt8.ofNat (byteAt digTab (u / 8)).toNat, UInt8.ofNat (byteAt digTab (u % (8 : Int))).toNat])))])) False) ∧ (∀ (_ : Unit), 64 ≤ u ∧ u < 512 → iteP (inRange (u / 64) 36) (K (AV.tup [AV.sc (Value.slice none 0
 0), AV.sc (Value.string (ByteArray.mk (Array.mk [UInt8.ofNat (byteAt digTab (u / 64)).toNat, UInt8.ofNat (byteAt digTab (u / 8 % 8)).toNat, UInt8.ofNat (byteAt digTab (u % 8)).toNat])))])) False) ∧ (∀ (_ : Unit), 512 ≤ u ∧ u < 4096 → iteP (inRange (u / 512) 36) (K
 (AV.tup [AV.sc (Value.slice none 0 0), AV.sc (Value.string (ByteArray.mk (Array.mk [UInt8.ofNat (byteAt digTab (u / 512)).toNat, UInt8.ofNat (byteAt digTab (u / 64 % 8)).toNat, UInt8.ofNat (byteAt digTab (u / 8 % 8)).toNat, UInt8.ofNat (byteAt digTab (u % 8)).toNat])))])) False) ∧ (∀ (_ : Unit), 4096 ≤ u ∧ u < 32768 → iteP (inRange (u / 4096) 36) (K (AV.tup [AV.sc (Value.slice none 0 0), AV.sc
 (Value.string (ByteArray.mk (Array.mk [UInt8.ofNat (byteAt digTab (u / 4096)).toNat, UInt8.ofNat (byteAt digTab (u / 512 % 8)).toNat, UInt8.ofNat (byteAt digTab (u / 64 % 8)).toNat, UInt8.ofNat (byteAt digTab (u / 8 % 8)).toNat, UInt8.ofNat (byteAt digTab (u % 8)).toNat])))])) False) ∧ (∀ (_ : Unit), 32768 ≤ u ∧ u < 262144 → iteP (inRange (u / 32768) 36) (K (AV.tup [AV.sc (Value.slice none 0 0),
 AV.sc (Value.string (ByteArray.mk (Array.mk [UInt8.ofNat (byteAt digTab (u / 32768)).toNat, UInt8.ofNat (byteAt digTab (u / 4096 % 8)).toNat, UInt8.ofNat (byteAt digTab (u / 512 % 8)).toNat, UInt8.ofNat (byteAt digTab (u / 64 % 8)).toNat, UInt8.ofNat (byteAt digTab (u / 8
 % 8)).toNat, UInt8.ofNat (byteAt digTab (u % 8)).toNat])))])) False) ∧ (∀ (_ : Unit), 262144 ≤ u ∧ u < 2097152 → iteP (inRange (u / (262144 : Int)) 36) (K (AV.tup [AV.sc (Value.slice none 0 0), AV.sc (Value.string (ByteArray.mk (Array.mk [UInt8.ofNat (byteAt digTab (u / (262144 :
 Int))).toNat, UInt8.ofNat (byteAt digTab (u / 32768 % 8)).toNat, UInt8.ofNat (byteAt digTab (u / 4096 % 8)).toNat, UInt8.ofNat (byteAt digTab (u / 512 % 8)).toNat, UInt8.ofNat (byteAt digTab (u / 64 % 8)).toNat, UInt8.ofNat (byteAt digTab (u / 8 % 8)).toNat, UInt8.ofNat (byteAt digTab (u % 8)).toNat])))])) False) ∧ (∀ (_ : Unit), 2097152 ≤ u ∧ u < 16777216 → iteP (inRange (u / 2097152) (36 :
 Nat)) (K (AV.tup [AV.sc (Value.slice none 0 0), AV.sc (Value.string (ByteArray.mk (Array.mk [UInt8.ofNat (byteAt digTab (u / 2097152)).toNat, UInt8.ofNat (byteAt digTab (u / 262144 % 8)).toNat, UInt8.ofNat (byteAt digTab (u / 32768 % 8)).toNat, UInt8.ofNat (byteAt digTab (u / 4096 % 8)).toNat, UInt8.ofNat (byteAt digTab (u / 512 % 8)).toNat, UInt8.ofNat (byteAt digTab (u / 64 % 8)).toNat,
 UInt8.ofNat (byteAt digTab (u / 8 % 8)).toNat, UInt8.ofNat (byteAt digTab (u % 8)).toNat])))])) False) ∧ (∀ (_ : Unit), 16777216 ≤ u ∧ u < 134217728 → iteP (inRange (u / 16777216) 36) (K (AV.tup [AV.sc (Value.slice none 0 0), AV.sc (Value.string (ByteArray.mk (Array.mk
 [UInt8.ofNat (byteAt digTab (u / 16777216)).toNat, UInt8.ofNat (byteAt digTab (u / 2097152 % 8)).toNat, UInt8.ofNat (byteAt digTab (u / (262144 : Int) % 8)).toNat, UInt8.ofNat (byteAt digTab (u / 32768 % 8)).toNat, UInt8.ofNat (byteAt digTab (u / 4096 % 8)).toNat, UInt8.ofNat
 (byteAt digTab (u / 512 % 8)).toNat, UInt8.ofNat (byteAt digTab (u / 64 % 8)).toNat, UInt8.ofNat (byteAt digTab (u / 8 % (8 : Int))).toNat, UInt8.ofNat (byteAt digTab (u % 8)).toNat])))])) False) ∧ (∀ (_ : Unit), 134217728 ≤ u ∧ u < 1073741824 → iteP (inRange (u / 134217728) 36) (K (AV.tup [AV.sc (Value.slice none 0 0), AV.sc (Value.string (ByteArray.mk (Array.mk [UInt8.ofNat (byteAt digTab (u /
 134217728)).toNat, UInt8.ofNat (byteAt digTab (u / 16777216 % 8)).toNat, UInt8.ofNat (byteAt digTab (u / 2097152 % 8)).toNat, UInt8.ofNat (byteAt digTab (u / 262144 % 8)).toNat, UInt8.ofNat (byteAt digTab (u / 32768 % 8)).toNat, UInt8.ofNat (byteAt digTab (u / 4096 % 8)).toNat, UInt8.ofNat (byteAt digTab (u / 512 % 8)).toNat, UInt8.ofNat (byteAt digTab (u / 64 % 8)).toNat,
 UInt8.ofNat (byteAt digTab (u / 8 % 8)).toNat, UInt8.ofNat (byteAt digTab (u % 8)).toNat])))])) False) ∧ ∀ (_ : Unit), 1073741824 ≤ u ∧ u < 4294967296 → iteP (inRange (u / 1073741824) 36) (K (AV.tup [AV.sc (Value.slice none 0 0), AV.sc (Value.string (ByteArray.mk
 (Array.mk [UInt8.ofNat (byteAt digTab (u / 1073741824)).toNat, UInt8.ofNat (byteAt digTab (u / 134217728 % 8)).toNat, UInt8.ofNat (byteAt digTab (u / 16777216 % 8)).toNat, UInt8.ofNat (byteAt digTab (u / 2097152 % 8)).toNat, UInt8.ofNat (byteAt digTab (u / 262144 % (8 :
 Int))).toNat, UInt8.ofNat (byteAt digTab (u / 32768 % 8)).toNat, UInt8.ofNat (byteAt digTab (u / 4096 % 8)).toNat, UInt8.ofNat (byteAt digTab (u / 512 % 8)).toNat, UInt8.ofNat (byteAt digTab (u / 64 % 8)).toNat, UInt8.ofNat (byteAt digTab (u / 8 % 8)).toNat,
 UInt8.ofNat (byteAt digTab (u % 8)).toNat])))])) False) : (fun (u : Int) (K : AV → Prop) => wpCall H1 Door.cfg Tryd.prog 40 85 [.sc (.slice none 0 0), aK .u64 u, aK .i64 8, aBool false, aBool false] heapF fun r h' => wpBack h' r K) u K :=
 Eq.mp (by kernel_rfl) h
end
end Go.Proofs.Pr
namespace Go.Proofs.Pr
open Go Go.Ef
noncomputable section
set_option maxRecDepth 100000
theorem and_mask {u : Int} (k : Nat) (hk : k ≤ 32) (h1 : 0 ≤ u) (h2 : u < 4294967296) : IntKind.u64.wrap ((BitVec.ofInt 64 u &&& BitVec.ofInt 64 (((2 ^ k - 1 : Nat) : Int))).toNat : Int) = u % ((2 ^ k : Nat) : Int) := by
 obtain ⟨n, rfl⟩ := Int.eq_ofNat_of_zero_le h1
 have hp : 2 ^ k ≤ 2 ^ 32 := Nat.pow_le_pow_right (by decide) hk
 have e32 : (2 : Nat) ^ 32 = 4294967296 := by decide
 have h0 : 0 < 2 ^ k := Nat.pow_pos (by decide)
 rw [BitVec.toNat_and, BitVec.ofInt_natCast, BitVec.ofInt_natCast, BitVec.toNat_ofNat, BitVec.toNat_ofNat, Nat.mod_eq_of_lt (show n < 2 ^ 64 by omega), Nat.mod_eq_of_lt (show 2 ^ k - 1 < 2 ^ 64 by omega), Nat.and_two_pow_sub_one_eq_mod]
 have : n % 2 ^ k < 2 ^ k := Nat.mod_lt _ h0
 rw [w64_in (by omega) (by omega)]
 rfl
theorem and15 {u : Int} (h1 : 0 ≤ u) (h2 : u < 4294967296) : IntKind.u64.wrap ((BitVec.ofInt 64 u &&& BitVec.ofInt 64 15).toNat : Int) = u % 16 := and_mask 4 (by decide) h1 h2
theorem and7 {u : Int} (h1 : 0 ≤ u) (h2 : u < 4294967296) : IntKind.u64.wrap ((BitVec.ofInt 64 u &&& BitVec.ofInt 64 7).toNat : Int) = u % 8 := and_mask 3 (by decide) h1 h2
theorem fd0 {a b : Int} (hb : 0 ≤ b) : a.fdiv b = a / b := Int.fdiv_eq_ediv_of_nonneg a hb
def dtOk (d : Nat) : Bool := UInt8.ofNat (byteAt digTab (d : Int)).toNat == digitC d
theorem dt_all : (List.range 16).all dtOk = true := by decide +kernel
theorem dig_tab {d : Int} (h1 : 0 ≤ d) (h2 : d < 16) : UInt8.ofNat (byteAt digTab d).toNat = digitC d.toNat := by
 obtain ⟨k, rfl⟩ := Int.eq_ofNat_of_zero_le h1
 exact eq_of_beq (List.all_eq_true.1 dt_all k (by simp; omega))
theorem dstep {b f n : Nat} {acc : List UInt8} (h : ¬ n < b) : digitsL b (f + 1) n acc = digitsL b f (n / b) (digitC (n % b) :: acc) := if_neg h
theorem dlast {b f n : Nat} {acc : List UInt8} (h : n < b) : digitsL b (f + 1) n acc = digitC n :: acc := if_pos h
theorem okH0 : TabOk Tryd.prog Door.cfg H0 := name_ok (name_ok (name_ok tab0_ok _ _) _ _) _ _
theorem first85 : firstId 8 (loopAt Tryd.prog 85 12) = 12 := by kernel_rfl
theorem can85 (b sh mk u i : Int) (cs : List AV) : (S85 b sh mk u i cs).tidy [0, 1, 3, 4, 10, 11, 12, 13, 14, 15, 16] 0 = S85 b sh mk u i cs := by kernel_rfl
abbrev Loop85 (σ : St) (K : KR) : Prop := Ev Door.cfg Tryd.prog 85 (.loop (loopAt Tryd.prog 85 12)) σ K
theorem xs0 (u : Int) (h1 : 16 ≤ u) (h2 : u < 4294967296) {K : KR} (H : Loop85 (S85 16 4 15 (u / 16) 64 (List.replicate 64 z8 ++ [aK .u8 (byteAt digTab (u % 16))])) K) : Loop85 (S85 16 4 15 u 65 (List.replicate 65 z8 ++ [])) K := by
 refine Ev.round okH0 (t := ⟨[0, 1, 3, 4, 10, 11, 12, 13, 14, 15, 16], [0, 1, 3, 4, 10, 11, 12, 13], 0⟩) first85 rfl (can85 _ _ _ _ _ _) (x0 u (fun v cs => v = u / 16 ∧ cs = List.replicate 64 z8 ++ [aK .u8 (byteAt digTab (u % 16))]) (fun _ _ => False) ?_) (fun τ hτ => ?_) (fun e τ hτ => ?_)
 ·rw [decide_eq_true h1, iteP_t]
  intro m hm
  rw [and15 (by omega) h2] at hm
  subst hm
  rw [show inRange (u % 16) 36 = true by rw [inRange_iff]; omega, iteP_t]
  intro m1 e1 m2 e2
  rw [fd0 (by omega)] at e2
  subst e1
  subst e2
  exact ⟨rfl, rfl, rfl⟩
 ·obtain ⟨e, h3, h4⟩ := hτ
  rw [h3, h4] at e
  rw [e]
  exact H
 ·unfold qE85 at hτ
  split at hτ
  ·exact hτ.2.elim
  ·exact hτ.elim
theorem xe0 (u : Int) (h1 : u < 16) : Loop85 (S85 16 4 15 u 65 (List.replicate 65 z8 ++ [])) fun e τ => e = .exit 0 ∧ τ = E85 u 65 (List.replicate 65 z8 ++ []) := by
 refine Ev.round okH0 (t := ⟨[0, 1, 3, 4, 10, 11, 12, 13, 14, 15, 16], [0, 1, 3, 4, 10, 11, 12, 13], 0⟩) first85 rfl (can85 _ _ _ _ _ _) (x0 u (fun _ _ => False) (fun v cs => v = u ∧ cs = List.replicate 65 z8 ++ []) ?_) (fun τ hτ => hτ.2.elim) (fun e τ hτ => ?_)
 ·rw [decide_eq_false (show ¬ (16 : Int) ≤ u by omega), iteP_f]
  exact ⟨rfl, rfl, rfl⟩
 ·unfold qE85 at hτ
  split at hτ
  ·obtain ⟨e, h3, h4⟩ := hτ
   rw [h3, h4] at e
   exact ⟨rfl, e⟩
  ·exact hτ.elim
theorem xs1 (u d0 : Int) (h1 : 16 ≤ u) (h2 : u < 4294967296) {K : KR} (H : Loop85 (S85 16 4 15 (u / 16) 63 (List.replicate 63 z8 ++ [aK .u8 (byteAt digTab (u % 16)), aK .u8 d0])) K) : Loop85 (S85 16 4 15 u 64 (List.replicate 64 z8 ++ [aK .u8 d0])) K := by
 refine Ev.round okH0 (t := ⟨[0, 1, 3, 4, 10, 11, 12, 13, 14, 15, 16], [0, 1, 3, 4, 10, 11, 12, 13], 0⟩) first85 rfl (can85 _ _ _ _ _ _) (x1 u d0 (fun v cs => v = u / 16 ∧ cs = List.replicate 63 z8 ++ [aK .u8 (byteAt digTab (u % 16)), aK .u8 d0]) (fun _ _ => False) ?_) (fun τ hτ => ?_) (fun e τ hτ => ?_)
 ·rw [decide_eq_true h1, iteP_t]
  intro m hm
  rw [and15 (by omega) h2] at hm
  subst hm
  rw [show inRange (u % 16) 36 = true by rw [inRange_iff]; omega, iteP_t]
  intro m1 e1 m2 e2
  rw [fd0 (by omega)] at e2
  subst e1
  subst e2
  exact ⟨rfl, rfl, rfl⟩
 ·obtain ⟨e, h3, h4⟩ := hτ
  rw [h3, h4] at e
  rw [e]
  exact H
 ·unfold qE85 at hτ
  split at hτ
  ·exact hτ.2.elim
  ·exact hτ.elim
theorem xe1 (u d0 : Int) (h1 : u < 16) : Loop85 (S85 16 4 15 u 64 (List.replicate 64 z8 ++ [aK .u8 d0])) fun e τ => e = .exit 0 ∧ τ = E85 u 64 (List.replicate 64 z8 ++ [aK .u8 d0]) := by
 refine Ev.round okH0 (t := ⟨[0, 1, 3, 4, 10, 11, 12, 13, 14, 15, 16], [0, 1, 3, 4, 10, 11, 12, 13], 0⟩) first85 rfl (can85 _ _ _ _ _ _) (x1 u d0 (fun _ _ => False) (fun v cs => v = u ∧ cs = List.replicate 64 z8 ++ [aK .u8 d0]) ?_) (fun τ hτ => hτ.2.elim) (fun e τ hτ => ?_)
 ·rw [decide_eq_false (show ¬ (16 : Int) ≤ u by omega), iteP_f]
  exact ⟨rfl, rfl, rfl⟩
 ·unfold qE85 at hτ
  split at hτ
  ·obtain ⟨e, h3, h4⟩ := hτ
   rw [h3, h4] at e
   exact ⟨rfl, e⟩
  ·exact hτ.elim
theorem xs2 (u d0 d1 : Int) (h1 : 16 ≤ u) (h2 : u < 4294967296) {K : KR} (H : Loop85 (S85 16 4 15 (u / 16) 62 (List.replicate 62 z8 ++ [aK .u8 (byteAt digTab (u % 16)), aK .u8 d0, aK .u8 d1])) K) : Loop85 (S85 16 4 15 u 63 (List.replicate 63 z8 ++ [aK .u8 d0, aK .u8 d1])) K := by
 refine Ev.round okH0 (t := ⟨[0, 1, 3, 4, 10, 11, 12, 13, 14, 15, 16], [0, 1, 3, 4, 10, 11, 12, 13], 0⟩) first85 rfl (can85 _ _ _ _ _ _) (x2 u d0 d1 (fun v cs => v = u / 16 ∧ cs = List.replicate 62 z8 ++ [aK .u8 (byteAt digTab (u % 16)), aK .u8 d0, aK .u8 d1]) (fun _ _ => False) ?_) (fun τ hτ => ?_) (fun e τ hτ => ?_)
 ·rw [decide_eq_true h1, iteP_t]
  intro m hm
  rw [and15 (by omega) h2] at hm
  subst hm
  rw [show inRange (u % 16) 36 = true by rw [inRange_iff]; omega, iteP_t]
  intro m1 e1 m2 e2
  rw [fd0 (by omega)] at e2
  subst e1
  subst e2
  exact ⟨rfl, rfl, rfl⟩
 ·obtain ⟨e, h3, h4⟩ := hτ
  rw [h3, h4] at e
  rw [e]
  exact H
 ·unfold qE85 at hτ
  split at hτ
  ·exact hτ.2.elim
  ·exact hτ.elim
theorem xe2 (u d0 d1 : Int) (h1 : u < 16) : Loop85 (S85 16 4 15 u 63 (List.replicate 63 z8 ++ [aK .u8 d0, aK .u8 d1])) fun e τ => e = .exit 0 ∧ τ = E85 u 63 (List.replicate 63 z8 ++ [aK .u8 d0, aK .u8 d1]) := by
 refine Ev.round okH0 (t := ⟨[0, 1, 3, 4, 10, 11, 12, 13, 14, 15, 16], [0, 1, 3, 4, 10, 11, 12, 13], 0⟩) first85 rfl (can85 _ _ _ _ _ _) (x2 u d0 d1 (fun _ _ => False) (fun v cs => v = u ∧ cs = List.replicate 63 z8 ++ [aK .u8 d0, aK .u8 d1]) ?_) (fun τ hτ => hτ.2.elim) (fun e τ hτ => ?_)
 ·rw [decide_eq_false (show ¬ (16 : Int) ≤ u by omega), iteP_f]
  exact ⟨rfl, rfl, rfl⟩
 ·unfold qE85 at hτ
  split at hτ
  ·obtain ⟨e, h3, h4⟩ := hτ
   rw [h3, h4] at e
   exact ⟨rfl, e⟩
  ·exact hτ.elim
theorem xs3 (u d0 d1 d2 : Int) (h1 : 16 ≤ u) (h2 : u < 4294967296) {K : KR} (H : Loop85 (S85 16 4 15 (u / 16) 61 (List.replicate 61 z8 ++ [aK .u8 (byteAt digTab (u % 16)), aK .u8 d0, aK .u8 d1, aK .u8 d2])) K) : Loop85 (S85 16 4 15 u 62 (List.replicate 62 z8 ++ [aK .u8 d0, aK .u8 d1, aK .u8 d2])) K := by
 refine Ev.round okH0 (t := ⟨[0, 1, 3, 4, 10, 11, 12, 13, 14, 15, 16], [0, 1, 3, 4, 10, 11, 12, 13], 0⟩) first85 rfl (can85 _ _ _ _ _ _) (x3 u d0 d1 d2 (fun v cs => v = u / 16 ∧ cs = List.replicate 61 z8 ++ [aK .u8 (byteAt digTab (u % 16)), aK .u8 d0, aK .u8 d1, aK .u8 d2]) (fun _ _ => False) ?_) (fun τ hτ => ?_) (fun e τ hτ => ?_)
 ·rw [decide_eq_true h1, iteP_t]
  intro m hm
  rw [and15 (by omega) h2] at hm
  subst hm
  rw [show inRange (u % 16) 36 = true by rw [inRange_iff]; omega, iteP_t]
  intro m1 e1 m2 e2
  rw [fd0 (by omega)] at e2
  subst e1
  subst e2
  exact ⟨rfl, rfl, rfl⟩
 ·obtain ⟨e, h3, h4⟩ := hτ
  rw [h3, h4] at e
  rw [e]
  exact H
 ·unfold qE85 at hτ
  split at hτ
  ·exact hτ.2.elim
  ·exact hτ.elim
theorem xe3 (u d0 d1 d2 : Int) (h1 : u < 16) : Loop85 (S85 16 4 15 u 62 (List.replicate 62 z8 ++ [aK .u8 d0, aK .u8 d1, aK .u8 d2])) fun e τ => e = .exit 0 ∧ τ = E85 u 62 (List.replicate 62 z8 ++ [aK .u8 d0, aK .u8 d1, aK .u8 d2]) := by
 refine Ev.round okH0 (t := ⟨[0, 1, 3, 4, 10, 11, 12, 13, 14, 15, 16], [0, 1, 3, 4, 10, 11, 12, 13], 0⟩) first85 rfl (can85 _ _ _ _ _ _) (x3 u d0 d1 d2 (fun _ _ => False) (fun v cs => v = u ∧ cs = List.replicate 62 z8 ++ [aK .u8 d0, aK .u8 d1, aK .u8 d2]) ?_) (fun τ hτ => hτ.2.elim) (fun e τ hτ => ?_)
 ·rw [decide_eq_false (show ¬ (16 : Int) ≤ u by omega), iteP_f]
  exact ⟨rfl, rfl, rfl⟩
 ·unfold qE85 at hτ
  split at hτ
  ·obtain ⟨e, h3, h4⟩ := hτ
   rw [h3, h4] at e
   exact ⟨rfl, e⟩
  ·exact hτ.elim
theorem xs4 (u d0 d1 d2 d3 : Int) (h1 : 16 ≤ u) (h2 : u < 4294967296) {K : KR} (H : Loop85 (S85 16 4 15 (u / 16) 60 (List.replicate 60 z8 ++ [aK .u8 (byteAt digTab (u % 16)), aK .u8 d0, aK .u8 d1, aK .u8 d2, aK .u8 d3])) K) : Loop85 (S85 16 4 15 u 61 (List.replicate 61 z8 ++ [aK .u8 d0, aK .u8 d1, aK .u8 d2, aK .u8 d3])) K := by
 refine Ev.round okH0 (t := ⟨[0, 1, 3, 4, 10, 11, 12, 13, 14, 15, 16], [0, 1, 3, 4, 10, 11, 12, 13], 0⟩) first85 rfl (can85 _ _ _ _ _ _) (x4 u d0 d1 d2 d3 (fun v cs => v = u / 16 ∧ cs = List.replicate 60 z8 ++ [aK .u8 (byteAt digTab (u % 16)), aK .u8 d0, aK .u8 d1, aK .u8 d2, aK .u8 d3]) (fun _ _ => False) ?_) (fun τ hτ => ?_) (fun e τ hτ => ?_)
 ·rw [decide_eq_true h1, iteP_t]
  intro m hm
  rw [and15 (by omega) h2] at hm
  subst hm
  rw [show inRange (u % 16) 36 = true by rw [inRange_iff]; omega, iteP_t]
  intro m1 e1 m2 e2
  rw [fd0 (by omega)] at e2
  subst e1
  subst e2
  exact ⟨rfl, rfl, rfl⟩
 ·obtain ⟨e, h3, h4⟩ := hτ
  rw [h3, h4] at e
  rw [e]
  exact H
 ·unfold qE85 at hτ
  split at hτ
  ·exact hτ.2.elim
  ·exact hτ.elim
theorem xe4 (u d0 d1 d2 d3 : Int) (h1 : u < 16) : Loop85 (S85 16 4 15 u 61 (List.replicate 61 z8 ++ [aK .u8 d0, aK .u8 d1, aK .u8 d2, aK .u8 d3])) fun e τ => e = .exit 0 ∧ τ = E85 u 61 (List.replicate 61 z8 ++ [aK .u8 d0, aK .u8 d1, aK .u8 d2, aK .u8 d3]) := by
 refine Ev.round okH0 (t := ⟨[0, 1, 3, 4, 10, 11, 12, 13, 14, 15, 16], [0, 1, 3, 4, 10, 11, 12, 13], 0⟩) first85 rfl (can85 _ _ _ _ _ _) (x4 u d0 d1 d2 d3 (fun _ _ => False) (fun v cs => v = u ∧ cs = List.replicate 61 z8 ++ [aK .u8 d0, aK .u8 d1, aK .u8 d2, aK .u8 d3]) ?_) (fun τ hτ => hτ.2.elim) (fun e τ hτ => ?_)
 ·rw [decide_eq_false (show ¬ (16 : Int) ≤ u by omega), iteP_f]
  exact ⟨rfl, rfl, rfl⟩
 ·unfold qE85 at hτ
  split at hτ
  ·obtain ⟨e, h3, h4⟩ := hτ
   rw [h3, h4] at e
   exact ⟨rfl, e⟩
  ·exact hτ.elim
theorem xs5 (u d0 d1 d2 d3 d4 : Int) (h1 : 16 ≤ u) (h2 : u < 4294967296) {K : KR} (H : Loop85 (S85 16 4 15 (u / 16) 59 (List.replicate 59 z8 ++ [aK .u8 (byteAt digTab (u % 16)), aK .u8 d0, aK .u8 d1, aK .u8 d2, aK .u8 d3, aK .u8 d4])) K) : Loop85 (S85 16 4 15 u 60 (List.replicate 60 z8 ++ [aK .u8 d0, aK .u8 d1, aK .u8 d2, aK .u8 d3, aK .u8 d4])) K := by
 refine Ev.round okH0 (t := ⟨[0, 1, 3, 4, 10, 11, 12, 13, 14, 15, 16], [0, 1, 3, 4, 10, 11, 12, 13], 0⟩) first85 rfl (can85 _ _ _ _ _ _) (x5 u d0 d1 d2 d3 d4 (fun v cs => v = u / 16 ∧ cs = List.replicate 59 z8 ++ [aK .u8 (byteAt digTab (u % 16)), aK .u8 d0, aK .u8 d1, aK .u8 d2, aK .u8 d3, aK .u8 d4]) (fun _ _ => False) ?_) (fun τ hτ => ?_) (fun e τ hτ => ?_)
 ·rw [decide_eq_true h1, iteP_t]
  intro m hm
  rw [and15 (by omega) h2] at hm
  subst hm
  rw [show inRange (u % 16) 36 = true by rw [inRange_iff]; omega, iteP_t]
  intro m1 e1 m2 e2
  rw [fd0 (by omega)] at e2
  subst e1
  subst e2
  exact ⟨rfl, rfl, rfl⟩
 ·obtain ⟨e, h3, h4⟩ := hτ
  rw [h3, h4] at e
  rw [e]
  exact H
 ·unfold qE85 at hτ
  split at hτ
  ·exact hτ.2.elim
  ·exact hτ.elim
theorem xe5 (u d0 d1 d2 d3 d4 : Int) (h1 : u < 16) : Loop85 (S85 16 4 15 u 60 (List.replicate 60 z8 ++ [aK .u8 d0, aK .u8 d1, aK .u8 d2, aK .u8 d3, aK .u8 d4])) fun e τ => e = .exit 0 ∧ τ = E85 u 60 (List.replicate 60 z8 ++ [aK .u8 d0, aK .u8 d1, aK .u8 d2, aK .u8 d3, aK .u8 d4]) := by
 refine Ev.round okH0 (t := ⟨[0, 1, 3, 4, 10, 11, 12, 13, 14, 15, 16], [0, 1, 3, 4, 10, 11, 12, 13], 0⟩) first85 rfl (can85 _ _ _ _ _ _) (x5 u d0 d1 d2 d3 d4 (fun _ _ => False) (fun v cs => v = u ∧ cs = List.replicate 60 z8 ++ [aK .u8 d0, aK .u8 d1, aK .u8 d2, aK .u8 d3, aK .u8 d4]) ?_) (fun τ hτ => hτ.2.elim) (fun e τ hτ => ?_)
 ·rw [decide_eq_false (show ¬ (16 : Int) ≤ u by omega), iteP_f]
  exact ⟨rfl, rfl, rfl⟩
 ·unfold qE85 at hτ
  split at hτ
  ·obtain ⟨e, h3, h4⟩ := hτ
   rw [h3, h4] at e
   exact ⟨rfl, e⟩
  ·exact hτ.elim
theorem xs6 (u d0 d1 d2 d3 d4 d5 : Int) (h1 : 16 ≤ u) (h2 : u < 4294967296) {K : KR} (H : Loop85 (S85 16 4 15 (u / 16) 58 (List.replicate 58 z8 ++ [aK .u8 (byteAt digTab (u % 16)), aK .u8 d0, aK .u8 d1, aK .u8 d2, aK .u8 d3, aK .u8 d4, aK .u8 d5])) K) : Loop85 (S85 16 4 15 u 59 (List.replicate 59 z8 ++ [aK .u8 d0, aK .u8 d1, aK .u8 d2, aK .u8 d3, aK .u8 d4, aK .u8 d5])) K := by
 refine Ev.round okH0 (t := ⟨[0, 1, 3, 4, 10, 11, 12, 13, 14, 15, 16], [0, 1, 3, 4, 10, 11, 12, 13], 0⟩) first85 rfl (can85 _ _ _ _ _ _) (x6 u d0 d1 d2 d3 d4 d5 (fun v cs => v = u / 16 ∧ cs = List.replicate 58 z8 ++ [aK .u8 (byteAt digTab (u % 16)), aK .u8 d0, aK .u8 d1, aK .u8 d2, aK .u8 d3, aK .u8 d4, aK .u8 d5]) (fun _ _ => False) ?_) (fun τ hτ => ?_) (fun e τ hτ => ?_)
 ·rw [decide_eq_true h1, iteP_t]
  intro m hm
  rw [and15 (by omega) h2] at hm
  subst hm
  rw [show inRange (u % 16) 36 = true by rw [inRange_iff]; omega, iteP_t]
  intro m1 e1 m2 e2
  rw [fd0 (by omega)] at e2
  subst e1
  subst e2
  exact ⟨rfl, rfl, rfl⟩
 ·obtain ⟨e, h3, h4⟩ := hτ
  rw [h3, h4] at e
  rw [e]
  exact H
 ·unfold qE85 at hτ
  split at hτ
  ·exact hτ.2.elim
  ·exact hτ.elim
theorem xe6 (u d0 d1 d2 d3 d4 d5 : Int) (h1 : u < 16) : Loop85 (S85 16 4 15 u 59 (List.replicate 59 z8 ++ [aK .u8 d0, aK .u8 d1, aK .u8 d2, aK .u8 d3, aK .u8 d4, aK .u8 d5])) fun e τ => e = .exit 0 ∧ τ = E85 u 59 (List.replicate 59 z8 ++ [aK .u8 d0, aK .u8 d1, aK .u8 d2, aK .u8 d3, aK .u8 d4, aK .u8 d5]) := by
 refine Ev.round okH0 (t := ⟨[0, 1, 3, 4, 10, 11, 12, 13, 14, 15, 16], [0, 1, 3, 4, 10, 11, 12, 13], 0⟩) first85 rfl (can85 _ _ _ _ _ _) (x6 u d0 d1 d2 d3 d4 d5 (fun _ _ => False) (fun v cs => v = u ∧ cs = List.replicate 59 z8 ++ [aK .u8 d0, aK .u8 d1, aK .u8 d2, aK .u8 d3, aK .u8 d4, aK .u8 d5]) ?_) (fun τ hτ => hτ.2.elim) (fun e τ hτ => ?_)
 ·rw [decide_eq_false (show ¬ (16 : Int) ≤ u by omega), iteP_f]
  exact ⟨rfl, rfl, rfl⟩
 ·unfold qE85 at hτ
  split at hτ
  ·obtain ⟨e, h3, h4⟩ := hτ
   rw [h3, h4] at e
   exact ⟨rfl, e⟩
  ·exact hτ.elim
theorem xe7 (u d0 d1 d2 d3 d4 d5 d6 : Int) (h1 : u < 16) : Loop85 (S85 16 4 15 u 58 (List.replicate 58 z8 ++ [aK .u8 d0, aK .u8 d1, aK .u8 d2, aK .u8 d3, aK .u8 d4, aK .u8 d5, aK .u8 d6])) fun e τ => e = .exit 0 ∧ τ = E85 u 58 (List.replicate 58 z8 ++ [aK .u8 d0, aK .u8 d1, aK .u8 d2, aK .u8 d3, aK .u8 d4, aK .u8 d5, aK .u8 d6]) := by
 refine Ev.round okH0 (t := ⟨[0, 1, 3, 4, 10, 11, 12, 13, 14, 15, 16], [0, 1, 3, 4, 10, 11, 12, 13], 0⟩) first85 rfl (can85 _ _ _ _ _ _) (x7 u d0 d1 d2 d3 d4 d5 d6 (fun _ _ => False) (fun v cs => v = u ∧ cs = List.replicate 58 z8 ++ [aK .u8 d0, aK .u8 d1, aK .u8 d2, aK .u8 d3, aK .u8 d4, aK .u8 d5, aK .u8 d6]) ?_) (fun τ hτ => hτ.2.elim) (fun e τ hτ => ?_)
 ·rw [decide_eq_false (show ¬ (16 : Int) ≤ u by omega), iteP_f]
  exact ⟨rfl, rfl, rfl⟩
 ·unfold qE85 at hτ
  split at hτ
  ·obtain ⟨e, h3, h4⟩ := hτ
   rw [h3, h4] at e
   exact ⟨rfl, e⟩
  ·exact hτ.elim
theorem xl0 (u : Int) (_ : 0 ≤ u) (h2 : u < 16) : Loop85 (S85 16 4 15 u 65 (List.replicate 65 z8 ++ [])) fun e τ => e = .exit 0 ∧ τ = E85 u 65 (List.replicate 65 z8 ++ []) := by
 exact xe0 u (by omega)
theorem xl1 (u : Int) (h1 : 16 ≤ u) (h2 : u < 256) : Loop85 (S85 16 4 15 u 65 (List.replicate 65 z8 ++ [])) fun e τ => e = .exit 0 ∧ τ = E85 (u / 16) 64 (List.replicate 64 z8 ++ [aK .u8 (byteAt digTab (u % 16))]) := by
 refine xs0 u (by omega) (by omega) ?_
 exact xe1 (u / 16) (byteAt digTab (u % 16)) (by omega)
theorem xl2 (u : Int) (h1 : 256 ≤ u) (h2 : u < 4096) : Loop85 (S85 16 4 15 u 65 (List.replicate 65 z8 ++ [])) fun e τ => e = .exit 0 ∧ τ = E85 (u / 256) 63 (List.replicate 63 z8 ++ [aK .u8 (byteAt digTab (u / 16 % 16)), aK .u8 (byteAt digTab (u % 16))]) := by
 refine xs0 u (by omega) (by omega) ?_
 refine xs1 (u / 16) (byteAt digTab (u % 16)) (by omega) (by omega) ?_
 rw [show u / 16 / 16 = u / 256 by omega]
 exact xe2 (u / 256) (byteAt digTab (u / 16 % 16)) (byteAt digTab (u % 16)) (by omega)
theorem xl3 (u : Int) (h1 : 4096 ≤ u) (h2 : u < 65536) : Loop85 (S85 16 4 15 u 65 (List.replicate 65 z8 ++ [])) fun e τ => e = .exit 0 ∧ τ = E85 (u / 4096) 62 (List.replicate 62 z8 ++ [aK .u8 (byteAt digTab (u / 256 % 16)), aK .u8 (byteAt digTab (u / 16 % 16)), aK .u8 (byteAt digTab (u % 16))]) := by
 refine xs0 u (by omega) (by omega) ?_
 refine xs1 (u / 16) (byteAt digTab (u % 16)) (by omega) (by omega) ?_
 rw [show u / 16 / 16 = u / 256 by omega]
 refine xs2 (u / 256) (byteAt digTab (u / 16 % 16)) (byteAt digTab (u % 16)) (by omega) (by omega) ?_
 rw [show u / 256 / 16 = u / 4096 by omega]
 exact xe3 (u / 4096) (byteAt digTab (u / 256 % 16)) (byteAt digTab (u / 16 % 16)) (byteAt digTab (u % 16)) (by omega)
theorem xl4 (u : Int) (h1 : 65536 ≤ u) (h2 : u < 1048576) : Loop85 (S85 16 4 15 u 65 (List.replicate 65 z8 ++ [])) fun e τ => e = .exit 0 ∧ τ = E85 (u / 65536) 61 (List.replicate 61 z8 ++ [aK .u8 (byteAt digTab (u / 4096 % 16)), aK .u8 (byteAt digTab (u / 256 % 16)), aK .u8 (byteAt digTab (u / 16 % 16)), aK .u8 (byteAt digTab (u % 16))]) := by
 refine xs0 u (by omega) (by omega) ?_
 refine xs1 (u / 16) (byteAt digTab (u % 16)) (by omega) (by omega) ?_
 rw [show u / 16 / 16 = u / 256 by omega]
 refine xs2 (u / 256) (byteAt digTab (u / 16 % 16)) (byteAt digTab (u % 16)) (by omega) (by omega) ?_
 rw [show u / 256 / 16 = u / 4096 by omega]
 refine xs3 (u / 4096) (byteAt digTab (u / 256 % 16)) (byteAt digTab (u / 16 % 16)) (byteAt digTab (u % 16)) (by omega) (by omega) ?_
 rw [show u / 4096 / 16 = u / 65536 by omega]
 exact xe4 (u / 65536) (byteAt digTab (u / 4096 % 16)) (byteAt digTab (u / 256 % 16)) (byteAt digTab (u / 16 % 16)) (byteAt digTab (u % 16)) (by omega)
theorem xl5 (u : Int) (h1 : 1048576 ≤ u) (h2 : u < 16777216) : Loop85 (S85 16 4 15 u 65 (List.replicate 65 z8 ++ [])) fun e τ => e = .exit 0 ∧ τ = E85 (u / 1048576) 60 (List.replicate 60 z8 ++ [aK .u8 (byteAt digTab (u / 65536 % 16)), aK .u8 (byteAt digTab (u / 4096 % 16)), aK .u8 (byteAt digTab (u / 256 % 16)), aK .u8 (byteAt digTab (u / 16 % 16)), aK .u8 (byteAt digTab (u % 16))]) := by
 refine xs0 u (by omega) (by omega) ?_
 refine xs1 (u / 16) (byteAt digTab (u % 16)) (by omega) (by omega) ?_
 rw [show u / 16 / 16 = u / 256 by omega]
 refine xs2 (u / 256) (byteAt digTab (u / 16 % 16)) (byteAt digTab (u % 16)) (by omega) (by omega) ?_
 rw [show u / 256 / 16 = u / 4096 by omega]
 refine xs3 (u / 4096) (byteAt digTab (u / 256 % 16)) (byteAt digTab (u / 16 % 16)) (byteAt digTab (u % 16)) (by omega) (by omega) ?_
 rw [show u / 4096 / 16 = u / 65536 by omega]
 refine xs4 (u / 65536) (byteAt digTab (u / 4096 % 16)) (byteAt digTab (u / 256 % 16)) (byteAt digTab (u / 16 % 16)) (byteAt digTab (u % 16)) (by omega) (by omega) ?_
 rw [show u / 65536 / 16 = u / 1048576 by omega]
 exact xe5 (u / 1048576) (byteAt digTab (u / 65536 % 16)) (byteAt digTab (u / 4096 % 16)) (byteAt digTab (u / 256 % 16)) (byteAt digTab (u / 16 % 16)) (byteAt digTab (u % 16)) (by omega)
theorem xl6 (u : Int) (h1 : 16777216 ≤ u) (h2 : u < 268435456) : Loop85 (S85 16 4 15 u 65 (List.replicate 65 z8 ++ [])) fun e τ => e = .exit 0 ∧ τ = E85 (u / 16777216) 59 (List.replicate 59 z8 ++ [aK .u8 (byteAt digTab (u / 1048576 % 16)), aK .u8 (byteAt digTab (u / 65536 % 16)), aK .u8 (byteAt digTab (u / 4096 % 16)), aK .u8 (byteAt digTab (u / 256 % 16)), aK .u8 (byteAt digTab (u / 16 % 16)), aK .u8 (byteAt digTab (u % 16))]) := by
 refine xs0 u (by omega) (by omega) ?_
 refine xs1 (u / 16) (byteAt digTab (u % 16)) (by omega) (by omega) ?_
 rw [show u / 16 / 16 = u / 256 by omega]
 refine xs2 (u / 256) (byteAt digTab (u / 16 % 16)) (byteAt digTab (u % 16)) (by omega) (by omega) ?_
 rw [show u / 256 / 16 = u / 4096 by omega]
 refine xs3 (u / 4096) (byteAt digTab (u / 256 % 16)) (byteAt digTab (u / 16 % 16)) (byteAt digTab (u % 16)) (by omega) (by omega) ?_
 rw [show u / 4096 / 16 = u / 65536 by omega]
 refine xs4 (u / 65536) (byteAt digTab (u / 4096 % 16)) (byteAt digTab (u / 256 % 16)) (byteAt digTab (u / 16 % 16)) (byteAt digTab (u % 16)) (by omega) (by omega) ?_
 rw [show u / 65536 / 16 = u / 1048576 by omega]
 refine xs5 (u / 1048576) (byteAt digTab (u / 65536 % 16)) (byteAt digTab (u / 4096 % 16)) (byteAt digTab (u / 256 % 16)) (byteAt digTab (u / 16 % 16)) (byteAt digTab (u % 16)) (by omega) (by omega) ?_
 rw [show u / 1048576 / 16 = u / 16777216 by omega]
 exact xe6 (u / 16777216) (byteAt digTab (u / 1048576 % 16)) (byteAt digTab (u / 65536 % 16)) (byteAt digTab (u / 4096 % 16)) (byteAt digTab (u / 256 % 16)) (byteAt digTab (u / 16 % 16)) (byteAt digTab (u % 16)) (by omega)
theorem xl7 (u : Int) (h1 : 268435456 ≤ u) (h2 : u < 4294967296) : Loop85 (S85 16 4 15 u 65 (List.replicate 65 z8 ++ [])) fun e τ => e = .exit 0 ∧ τ = E85 (u / 268435456) 58 (List.replicate 58 z8 ++ [aK .u8 (byteAt digTab (u / 16777216 % 16)), aK .u8 (byteAt digTab (u / 1048576 % 16)), aK .u8 (byteAt digTab (u / 65536 % 16)), aK .u8 (byteAt digTab (u / 4096 % 16)), aK .u8 (byteAt digTab (u / 256 % 16)), aK .u8 (byteAt digTab (u / 16 % 16)), aK .u8 (byteAt digTab (u % 16))]) := by
 refine xs0 u (by omega) (by omega) ?_
 refine xs1 (u / 16) (byteAt digTab (u % 16)) (by omega) (by omega) ?_
 rw [show u / 16 / 16 = u / 256 by omega]
 refine xs2 (u / 256) (byteAt digTab (u / 16 % 16)) (byteAt digTab (u % 16)) (by omega) (by omega) ?_
 rw [show u / 256 / 16 = u / 4096 by omega]
 refine xs3 (u / 4096) (byteAt digTab (u / 256 % 16)) (byteAt digTab (u / 16 % 16)) (byteAt digTab (u % 16)) (by omega) (by omega) ?_
 rw [show u / 4096 / 16 = u / 65536 by omega]
 refine xs4 (u / 65536) (byteAt digTab (u / 4096 % 16)) (byteAt digTab (u / 256 % 16)) (byteAt digTab (u / 16 % 16)) (byteAt digTab (u % 16)) (by omega) (by omega) ?_
 rw [show u / 65536 / 16 = u / 1048576 by omega]
 refine xs5 (u / 1048576) (byteAt digTab (u / 65536 % 16)) (byteAt digTab (u / 4096 % 16)) (byteAt digTab (u / 256 % 16)) (byteAt digTab (u / 16 % 16)) (byteAt digTab (u % 16)) (by omega) (by omega) ?_
 rw [show u / 1048576 / 16 = u / 16777216 by omega]
 refine xs6 (u / 16777216) (byteAt digTab (u / 1048576 % 16)) (byteAt digTab (u / 65536 % 16)) (byteAt digTab (u / 4096 % 16)) (byteAt digTab (u / 256 % 16)) (byteAt digTab (u / 16 % 16)) (byteAt digTab (u % 16)) (by omega) (by omega) ?_
 rw [show u / 16777216 / 16 = u / 268435456 by omega]
 exact xe7 (u / 268435456) (byteAt digTab (u / 16777216 % 16)) (byteAt digTab (u / 1048576 % 16)) (byteAt digTab (u / 65536 % 16)) (byteAt digTab (u / 4096 % 16)) (byteAt digTab (u / 256 % 16)) (byteAt digTab (u / 16 % 16)) (byteAt digTab (u % 16)) (by omega)
theorem os0 (u : Int) (h1 : 8 ≤ u) (h2 : u < 4294967296) {K : KR} (H : Loop85 (S85 8 3 7 (u / 8) 64 (List.replicate 64 z8 ++ [aK .u8 (byteAt digTab (u % 8))])) K) : Loop85 (S85 8 3 7 u 65 (List.replicate 65 z8 ++ [])) K := by
 refine Ev.round okH0 (t := ⟨[0, 1, 3, 4, 10, 11, 12, 13, 14, 15, 16], [0, 1, 3, 4, 10, 11, 12, 13], 0⟩) first85 rfl (can85 _ _ _ _ _ _) (o0 u (fun v cs => v = u / 8 ∧ cs = List.replicate 64 z8 ++ [aK .u8 (byteAt digTab (u % 8))]) (fun _ _ => False) ?_) (fun τ hτ => ?_) (fun e τ hτ => ?_)
 ·rw [decide_eq_true h1, iteP_t]
  intro m hm
  rw [and7 (by omega) h2] at hm
  subst hm
  rw [show inRange (u % 8) 36 = true by rw [inRange_iff]; omega, iteP_t]
  intro m1 e1 m2 e2
  rw [fd0 (by omega)] at e2
  subst e1
  subst e2
  exact ⟨rfl, rfl, rfl⟩
 ·obtain ⟨e, h3, h4⟩ := hτ
  rw [h3, h4] at e
  rw [e]
  exact H
 ·unfold qE85 at hτ
  split at hτ
  ·exact hτ.2.elim
  ·exact hτ.elim
theorem oe0 (u : Int) (h1 : u < 8) : Loop85 (S85 8 3 7 u 65 (List.replicate 65 z8 ++ [])) fun e τ => e = .exit 0 ∧ τ = E85 u 65 (List.replicate 65 z8 ++ []) := by
 refine Ev.round okH0 (t := ⟨[0, 1, 3, 4, 10, 11, 12, 13, 14, 15, 16], [0, 1, 3, 4, 10, 11, 12, 13], 0⟩) first85 rfl (can85 _ _ _ _ _ _) (o0 u (fun _ _ => False) (fun v cs => v = u ∧ cs = List.replicate 65 z8 ++ []) ?_) (fun τ hτ => hτ.2.elim) (fun e τ hτ => ?_)
 ·rw [decide_eq_false (show ¬ (8 : Int) ≤ u by omega), iteP_f]
  exact ⟨rfl, rfl, rfl⟩
 ·unfold qE85 at hτ
  split at hτ
  ·obtain ⟨e, h3, h4⟩ := hτ
   rw [h3, h4] at e
   exact ⟨rfl, e⟩
  ·exact hτ.elim
theorem os1 (u d0 : Int) (h1 : 8 ≤ u) (h2 : u < 4294967296) {K : KR} (H : Loop85 (S85 8 3 7 (u / 8) 63 (List.replicate 63 z8 ++ [aK .u8 (byteAt digTab (u % 8)), aK .u8 d0])) K) : Loop85 (S85 8 3 7 u 64 (List.replicate 64 z8 ++ [aK .u8 d0])) K := by
 refine Ev.round okH0 (t := ⟨[0, 1, 3, 4, 10, 11, 12, 13, 14, 15, 16], [0, 1, 3, 4, 10, 11, 12, 13], 0⟩) first85 rfl (can85 _ _ _ _ _ _) (o1 u d0 (fun v cs => v = u / 8 ∧ cs = List.replicate 63 z8 ++ [aK .u8 (byteAt digTab (u % 8)), aK .u8 d0]) (fun _ _ => False) ?_) (fun τ hτ => ?_) (fun e τ hτ => ?_)
 ·rw [decide_eq_true h1, iteP_t]
  intro m hm
  rw [and7 (by omega) h2] at hm
  subst hm
  rw [show inRange (u % 8) 36 = true by rw [inRange_iff]; omega, iteP_t]
  intro m1 e1 m2 e2
  rw [fd0 (by omega)] at e2
  subst e1
  subst e2
  exact ⟨rfl, rfl, rfl⟩
 ·obtain ⟨e, h3, h4⟩ := hτ
  rw [h3, h4] at e
  rw [e]
  exact H
 ·unfold qE85 at hτ
  split at hτ
  ·exact hτ.2.elim
  ·exact hτ.elim
theorem oe1 (u d0 : Int) (h1 : u < 8) : Loop85 (S85 8 3 7 u 64 (List.replicate 64 z8 ++ [aK .u8 d0])) fun e τ => e = .exit 0 ∧ τ = E85 u 64 (List.replicate 64 z8 ++ [aK .u8 d0]) := by
 refine Ev.round okH0 (t := ⟨[0, 1, 3, 4, 10, 11, 12, 13, 14, 15, 16], [0, 1, 3, 4, 10, 11, 12, 13], 0⟩) first85 rfl (can85 _ _ _ _ _ _) (o1 u d0 (fun _ _ => False) (fun v cs => v = u ∧ cs = List.replicate 64 z8 ++ [aK .u8 d0]) ?_) (fun τ hτ => hτ.2.elim) (fun e τ hτ => ?_)
 ·rw [decide_eq_false (show ¬ (8 : Int) ≤ u by omega), iteP_f]
  exact ⟨rfl, rfl, rfl⟩
 ·unfold qE85 at hτ
  split at hτ
  ·obtain ⟨e, h3, h4⟩ := hτ
   rw [h3, h4] at e
   exact ⟨rfl, e⟩
  ·exact hτ.elim
theorem os2 (u d0 d1 : Int) (h1 : 8 ≤ u) (h2 : u < 4294967296) {K : KR} (H : Loop85 (S85 8 3 7 (u / 8) 62 (List.replicate 62 z8 ++ [aK .u8 (byteAt digTab (u % 8)), aK .u8 d0, aK .u8 d1])) K) : Loop85 (S85 8 3 7 u 63 (List.replicate 63 z8 ++ [aK .u8 d0, aK .u8 d1])) K := by
 refine Ev.round okH0 (t := ⟨[0, 1, 3, 4, 10, 11, 12, 13, 14, 15, 16], [0, 1, 3, 4, 10, 11, 12, 13], 0⟩) first85 rfl (can85 _ _ _ _ _ _) (o2 u d0 d1 (fun v cs => v = u / 8 ∧ cs = List.replicate 62 z8 ++ [aK .u8 (byteAt digTab (u % 8)), aK .u8 d0, aK .u8 d1]) (fun _ _ => False) ?_) (fun τ hτ => ?_) (fun e τ hτ => ?_)
 ·rw [decide_eq_true h1, iteP_t]
  intro m hm
  rw [and7 (by omega) h2] at hm
  subst hm
  rw [show inRange (u % 8) 36 = true by rw [inRange_iff]; omega, iteP_t]
  intro m1 e1 m2 e2
  rw [fd0 (by omega)] at e2
  subst e1
  subst e2
  exact ⟨rfl, rfl, rfl⟩
 ·obtain ⟨e, h3, h4⟩ := hτ
  rw [h3, h4] at e
  rw [e]
  exact H
 ·unfold qE85 at hτ
  split at hτ
  ·exact hτ.2.elim
  ·exact hτ.elim
theorem oe2 (u d0 d1 : Int) (h1 : u < 8) : Loop85 (S85 8 3 7 u 63 (List.replicate 63 z8 ++ [aK .u8 d0, aK .u8 d1])) fun e τ => e = .exit 0 ∧ τ = E85 u 63 (List.replicate 63 z8 ++ [aK .u8 d0, aK .u8 d1]) := by
 refine Ev.round okH0 (t := ⟨[0, 1, 3, 4, 10, 11, 12, 13, 14, 15, 16], [0, 1, 3, 4, 10, 11, 12, 13], 0⟩) first85 rfl (can85 _ _ _ _ _ _) (o2 u d0 d1 (fun _ _ => False) (fun v cs => v = u ∧ cs = List.replicate 63 z8 ++ [aK .u8 d0, aK .u8 d1]) ?_) (fun τ hτ => hτ.2.elim) (fun e τ hτ => ?_)
 ·rw [decide_eq_false (show ¬ (8 : Int) ≤ u by omega), iteP_f]
  exact ⟨rfl, rfl, rfl⟩
 ·unfold qE85 at hτ
  split at hτ
  ·obtain ⟨e, h3, h4⟩ := hτ
   rw [h3, h4] at e
   exact ⟨rfl, e⟩
  ·exact hτ.elim
theorem os3 (u d0 d1 d2 : Int) (h1 : 8 ≤ u) (h2 : u < 4294967296) {K : KR} (H : Loop85 (S85 8 3 7 (u / 8) 61 (List.replicate 61 z8 ++ [aK .u8 (byteAt digTab (u % 8)), aK .u8 d0, aK .u8 d1, aK .u8 d2])) K) : Loop85 (S85 8 3 7 u 62 (List.replicate 62 z8 ++ [aK .u8 d0, aK .u8 d1, aK .u8 d2])) K := by
 refine Ev.round okH0 (t := ⟨[0, 1, 3, 4, 10, 11, 12, 13, 14, 15, 16], [0, 1, 3, 4, 10, 11, 12, 13], 0⟩) first85 rfl (can85 _ _ _ _ _ _) (o3 u d0 d1 d2 (fun v cs => v = u / 8 ∧ cs = List.replicate 61 z8 ++ [aK .u8 (byteAt digTab (u % 8)), aK .u8 d0, aK .u8 d1, aK .u8 d2]) (fun _ _ => False) ?_) (fun τ hτ => ?_) (fun e τ hτ => ?_)
 ·rw [decide_eq_true h1, iteP_t]
  intro m hm
  rw [and7 (by omega) h2] at hm
  subst hm
  rw [show inRange (u % 8) 36 = true by rw [inRange_iff]; omega, iteP_t]
  intro m1 e1 m2 e2
  rw [fd0 (by omega)] at e2
  subst e1
  subst e2
  exact ⟨rfl, rfl, rfl⟩
 ·obtain ⟨e, h3, h4⟩ := hτ
  rw [h3, h4] at e
  rw [e]
  exact H
 ·unfold qE85 at hτ
  split at hτ
  ·exact hτ.2.elim
  ·exact hτ.elim
theorem oe3 (u d0 d1 d2 : Int) (h1 : u < 8) : Loop85 (S85 8 3 7 u 62 (List.replicate 62 z8 ++ [aK .u8 d0, aK .u8 d1, aK .u8 d2])) fun e τ => e = .exit 0 ∧ τ = E85 u 62 (List.replicate 62 z8 ++ [aK .u8 d0, aK .u8 d1, aK .u8 d2]) := by
 refine Ev.round okH0 (t := ⟨[0, 1, 3, 4, 10, 11, 12, 13, 14, 15, 16], [0, 1, 3, 4, 10, 11, 12, 13], 0⟩) first85 rfl (can85 _ _ _ _ _ _) (o3 u d0 d1 d2 (fun _ _ => False) (fun v cs => v = u ∧ cs = List.replicate 62 z8 ++ [aK .u8 d0, aK .u8 d1, aK .u8 d2]) ?_) (fun τ hτ => hτ.2.elim) (fun e τ hτ => ?_)
 ·rw [decide_eq_false (show ¬ (8 : Int) ≤ u by omega), iteP_f]
  exact ⟨rfl, rfl, rfl⟩
 ·unfold qE85 at hτ
  split at hτ
  ·obtain ⟨e, h3, h4⟩ := hτ
   rw [h3, h4] at e
   exact ⟨rfl, e⟩
  ·exact hτ.elim
theorem os4 (u d0 d1 d2 d3 : Int) (h1 : 8 ≤ u) (h2 : u < 4294967296) {K : KR} (H : Loop85 (S85 8 3 7 (u / 8) 60 (List.replicate 60 z8 ++ [aK .u8 (byteAt digTab (u % 8)), aK .u8 d0, aK .u8 d1, aK .u8 d2, aK .u8 d3])) K) : Loop85 (S85 8 3 7 u 61 (List.replicate 61 z8 ++ [aK .u8 d0, aK .u8 d1, aK .u8 d2, aK .u8 d3])) K := by
 refine Ev.round okH0 (t := ⟨[0, 1, 3, 4, 10, 11, 12, 13, 14, 15, 16], [0, 1, 3, 4, 10, 11, 12, 13], 0⟩) first85 rfl (can85 _ _ _ _ _ _) (o4 u d0 d1 d2 d3 (fun v cs => v = u / 8 ∧ cs = List.replicate 60 z8 ++ [aK .u8 (byteAt digTab (u % 8)), aK .u8 d0, aK .u8 d1, aK .u8 d2, aK .u8 d3]) (fun _ _ => False) ?_) (fun τ hτ => ?_) (fun e τ hτ => ?_)
 ·rw [decide_eq_true h1, iteP_t]
  intro m hm
  rw [and7 (by omega) h2] at hm
  subst hm
  rw [show inRange (u % 8) 36 = true by rw [inRange_iff]; omega, iteP_t]
  intro m1 e1 m2 e2
  rw [fd0 (by omega)] at e2
  subst e1
  subst e2
  exact ⟨rfl, rfl, rfl⟩
 ·obtain ⟨e, h3, h4⟩ := hτ
  rw [h3, h4] at e
  rw [e]
  exact H
 ·unfold qE85 at hτ
  split at hτ
  ·exact hτ.2.elim
  ·exact hτ.elim
theorem oe4 (u d0 d1 d2 d3 : Int) (h1 : u < 8) : Loop85 (S85 8 3 7 u 61 (List.replicate 61 z8 ++ [aK .u8 d0, aK .u8 d1, aK .u8 d2, aK .u8 d3])) fun e τ => e = .exit 0 ∧ τ = E85 u 61 (List.replicate 61 z8 ++ [aK .u8 d0, aK .u8 d1, aK .u8 d2, aK .u8 d3]) := by
 refine Ev.round okH0 (t := ⟨[0, 1, 3, 4, 10, 11, 12, 13, 14, 15, 16], [0, 1, 3, 4, 10, 11, 12, 13], 0⟩) first85 rfl (can85 _ _ _ _ _ _) (o4 u d0 d1 d2 d3 (fun _ _ => False) (fun v cs => v = u ∧ cs = List.replicate 61 z8 ++ [aK .u8 d0, aK .u8 d1, aK .u8 d2, aK .u8 d3]) ?_) (fun τ hτ => hτ.2.elim) (fun e τ hτ => ?_)
 ·rw [decide_eq_false (show ¬ (8 : Int) ≤ u by omega), iteP_f]
  exact ⟨rfl, rfl, rfl⟩
 ·unfold qE85 at hτ
  split at hτ
  ·obtain ⟨e, h3, h4⟩ := hτ
   rw [h3, h4] at e
   exact ⟨rfl, e⟩
  ·exact hτ.elim
theorem os5 (u d0 d1 d2 d3 d4 : Int) (h1 : 8 ≤ u) (h2 : u < 4294967296) {K : KR} (H : Loop85 (S85 8 3 7 (u / 8) 59 (List.replicate 59 z8 ++ [aK .u8 (byteAt digTab (u % 8)), aK .u8 d0, aK .u8 d1, aK .u8 d2, aK .u8 d3, aK .u8 d4])) K) : Loop85 (S85 8 3 7 u 60 (List.replicate 60 z8 ++ [aK .u8 d0, aK .u8 d1, aK .u8 d2, aK .u8 d3, aK .u8 d4])) K := by
 refine Ev.round okH0 (t := ⟨[0, 1, 3, 4, 10, 11, 12, 13, 14, 15, 16], [0, 1, 3, 4, 10, 11, 12, 13], 0⟩) first85 rfl (can85 _ _ _ _ _ _) (o5 u d0 d1 d2 d3 d4 (fun v cs => v = u / 8 ∧ cs = List.replicate 59 z8 ++ [aK .u8 (byteAt digTab (u % 8)), aK .u8 d0, aK .u8 d1, aK .u8 d2, aK .u8 d3, aK .u8 d4]) (fun _ _ => False) ?_) (fun τ hτ => ?_) (fun e τ hτ => ?_)
 ·rw [decide_eq_true h1, iteP_t]
  intro m hm
  rw [and7 (by omega) h2] at hm
  subst hm
  rw [show inRange (u % 8) 36 = true by rw [inRange_iff]; omega, iteP_t]
  intro m1 e1 m2 e2
  rw [fd0 (by omega)] at e2
  subst e1
  subst e2
  exact ⟨rfl, rfl, rfl⟩
 ·obtain ⟨e, h3, h4⟩ := hτ
  rw [h3, h4] at e
  rw [e]
  exact H
 ·unfold qE85 at hτ
  split at hτ
  ·exact hτ.2.elim
  ·exact hτ.elim
theorem oe5 (u d0 d1 d2 d3 d4 : Int) (h1 : u < 8) : Loop85 (S85 8 3 7 u 60 (List.replicate 60 z8 ++ [aK .u8 d0, aK .u8 d1, aK .u8 d2, aK .u8 d3, aK .u8 d4])) fun e τ => e = .exit 0 ∧ τ = E85 u 60 (List.replicate 60 z8 ++ [aK .u8 d0, aK .u8 d1, aK .u8 d2, aK .u8 d3, aK .u8 d4]) := by
 refine Ev.round okH0 (t := ⟨[0, 1, 3, 4, 10, 11, 12, 13, 14, 15, 16], [0, 1, 3, 4, 10, 11, 12, 13], 0⟩) first85 rfl (can85 _ _ _ _ _ _) (o5 u d0 d1 d2 d3 d4 (fun _ _ => False) (fun v cs => v = u ∧ cs = List.replicate 60 z8 ++ [aK .u8 d0, aK .u8 d1, aK .u8 d2, aK .u8 d3, aK .u8 d4]) ?_) (fun τ hτ => hτ.2.elim) (fun e τ hτ => ?_)
 ·rw [decide_eq_false (show ¬ (8 : Int) ≤ u by omega), iteP_f]
  exact ⟨rfl, rfl, rfl⟩
 ·unfold qE85 at hτ
  split at hτ
  ·obtain ⟨e, h3, h4⟩ := hτ
   rw [h3, h4] at e
   exact ⟨rfl, e⟩
  ·exact hτ.elim
theorem os6 (u d0 d1 d2 d3 d4 d5 : Int) (h1 : 8 ≤ u) (h2 : u < 4294967296) {K : KR} (H : Loop85 (S85 8 3 7 (u / 8) 58 (List.replicate 58 z8 ++ [aK .u8 (byteAt digTab (u % 8)), aK .u8 d0, aK .u8 d1, aK .u8 d2, aK .u8 d3, aK .u8 d4, aK .u8 d5])) K) : Loop85 (S85 8 3 7 u 59 (List.replicate 59 z8 ++ [aK .u8 d0, aK .u8 d1, aK .u8 d2, aK .u8 d3, aK .u8 d4, aK .u8 d5])) K := by
 refine Ev.round okH0 (t := ⟨[0, 1, 3, 4, 10, 11, 12, 13, 14, 15, 16], [0, 1, 3, 4, 10, 11, 12, 13], 0⟩) first85 rfl (can85 _ _ _ _ _ _) (o6 u d0 d1 d2 d3 d4 d5 (fun v cs => v = u / 8 ∧ cs = List.replicate 58 z8 ++ [aK .u8 (byteAt digTab (u % 8)), aK .u8 d0, aK .u8 d1, aK .u8 d2, aK .u8 d3, aK .u8 d4, aK .u8 d5]) (fun _ _ => False) ?_) (fun τ hτ => ?_) (fun e τ hτ => ?_)
 ·rw [decide_eq_true h1, iteP_t]
  intro m hm
  rw [and7 (by omega) h2] at hm
  subst hm
  rw [show inRange (u % 8) 36 = true by rw [inRange_iff]; omega, iteP_t]
  intro m1 e1 m2 e2
  rw [fd0 (by omega)] at e2
  subst e1
  subst e2
  exact ⟨rfl, rfl, rfl⟩
 ·obtain ⟨e, h3, h4⟩ := hτ
  rw [h3, h4] at e
  rw [e]
  exact H
 ·unfold qE85 at hτ
  split at hτ
  ·exact hτ.2.elim
  ·exact hτ.elim
theorem oe6 (u d0 d1 d2 d3 d4 d5 : Int) (h1 : u < 8) : Loop85 (S85 8 3 7 u 59 (List.replicate 59 z8 ++ [aK .u8 d0, aK .u8 d1, aK .u8 d2, aK .u8 d3, aK .u8 d4, aK .u8 d5])) fun e τ => e = .exit 0 ∧ τ = E85 u 59 (List.replicate 59 z8 ++ [aK .u8 d0, aK .u8 d1, aK .u8 d2, aK .u8 d3, aK .u8 d4, aK .u8 d5]) := by
 refine Ev.round okH0 (t := ⟨[0, 1, 3, 4, 10, 11, 12, 13, 14, 15, 16], [0, 1, 3, 4, 10, 11, 12, 13], 0⟩) first85 rfl (can85 _ _ _ _ _ _) (o6 u d0 d1 d2 d3 d4 d5 (fun _ _ => False) (fun v cs => v = u ∧ cs = List.replicate 59 z8 ++ [aK .u8 d0, aK .u8 d1, aK .u8 d2, aK .u8 d3, aK .u8 d4, aK .u8 d5]) ?_) (fun τ hτ => hτ.2.elim) (fun e τ hτ => ?_)
 ·rw [decide_eq_false (show ¬ (8 : Int) ≤ u by omega), iteP_f]
  exact ⟨rfl, rfl, rfl⟩
 ·unfold qE85 at hτ
  split at hτ
  ·obtain ⟨e, h3, h4⟩ := hτ
   rw [h3, h4] at e
   exact ⟨rfl, e⟩
  ·exact hτ.elim
theorem os7 (u d0 d1 d2 d3 d4 d5 d6 : Int) (h1 : 8 ≤ u) (h2 : u < 4294967296) {K : KR} (H : Loop85 (S85 8 3 7 (u / 8) 57 (List.replicate 57 z8 ++ [aK .u8 (byteAt digTab (u % 8)), aK .u8 d0, aK .u8 d1, aK .u8 d2, aK .u8 d3, aK .u8 d4, aK .u8 d5, aK .u8 d6])) K) : Loop85 (S85 8 3 7 u 58 (List.replicate 58 z8 ++ [aK .u8 d0, aK .u8 d1, aK .u8 d2, aK .u8 d3, aK .u8 d4, aK .u8 d5, aK .u8 d6])) K := by
 refine Ev.round okH0 (t := ⟨[0, 1, 3, 4, 10, 11, 12, 13, 14, 15, 16], [0, 1, 3, 4, 10, 11, 12, 13], 0⟩) first85 rfl (can85 _ _ _ _ _ _) (o7 u d0 d1 d2 d3 d4 d5 d6 (fun v cs => v = u / 8 ∧ cs = List.replicate 57 z8 ++ [aK .u8 (byteAt digTab (u % 8)), aK .u8 d0, aK .u8 d1, aK .u8 d2, aK .u8 d3, aK .u8 d4, aK .u8 d5, aK .u8 d6]) (fun _ _ => False) ?_) (fun τ hτ => ?_) (fun e τ hτ => ?_)
 ·rw [decide_eq_true h1, iteP_t]
  intro m hm
  rw [and7 (by omega) h2] at hm
  subst hm
  rw [show inRange (u % 8) 36 = true by rw [inRange_iff]; omega, iteP_t]
  intro m1 e1 m2 e2
  rw [fd0 (by omega)] at e2
  subst e1
  subst e2
  exact ⟨rfl, rfl, rfl⟩
 ·obtain ⟨e, h3, h4⟩ := hτ
  rw [h3, h4] at e
  rw [e]
  exact H
 ·unfold qE85 at hτ
  split at hτ
  ·exact hτ.2.elim
  ·exact hτ.elim
theorem oe7 (u d0 d1 d2 d3 d4 d5 d6 : Int) (h1 : u < 8) : Loop85 (S85 8 3 7 u 58 (List.replicate 58 z8 ++ [aK .u8 d0, aK .u8 d1, aK .u8 d2, aK .u8 d3, aK .u8 d4, aK .u8 d5, aK .u8 d6])) fun e τ => e = .exit 0 ∧ τ = E85 u 58 (List.replicate 58 z8 ++ [aK .u8 d0, aK .u8 d1, aK .u8 d2, aK .u8 d3, aK .u8 d4, aK .u8 d5, aK .u8 d6]) := by
 refine Ev.round okH0 (t := ⟨[0, 1, 3, 4, 10, 11, 12, 13, 14, 15, 16], [0, 1, 3, 4, 10, 11, 12, 13], 0⟩) first85 rfl (can85 _ _ _ _ _ _) (o7 u d0 d1 d2 d3 d4 d5 d6 (fun _ _ => False) (fun v cs => v = u ∧ cs = List.replicate 58 z8 ++ [aK .u8 d0, aK .u8 d1, aK .u8 d2, aK .u8 d3, aK .u8 d4, aK .u8 d5, aK .u8 d6]) ?_) (fun τ hτ => hτ.2.elim) (fun e τ hτ => ?_)
 ·rw [decide_eq_false (show ¬ (8 : Int) ≤ u by omega), iteP_f]
  exact ⟨rfl, rfl, rfl⟩
 ·unfold qE85 at hτ
  split at hτ
  ·obtain ⟨e, h3, h4⟩ := hτ
   rw [h3, h4] at e
   exact ⟨rfl, e⟩
  ·exact hτ.elim
theorem os8 (u d0 d1 d2 d3 d4 d5 d6 d7 : Int) (h1 : 8 ≤ u) (h2 : u < 4294967296) {K : KR} (H : Loop85 (S85 8 3 7 (u / 8) 56 (List.replicate 56 z8 ++ [aK .u8 (byteAt digTab (u % 8)), aK .u8 d0, aK .u8 d1, aK .u8 d2, aK .u8 d3, aK .u8 d4, aK .u8 d5, aK .u8 d6, aK .u8 d7])) K) : Loop85 (S85 8 3 7 u 57 (List.replicate 57 z8 ++ [aK .u8 d0, aK .u8 d1, aK .u8 d2, aK .u8 d3, aK .u8 d4, aK .u8 d5, aK .u8 d6, aK .u8 d7])) K := by
 refine Ev.round okH0 (t := ⟨[0, 1, 3, 4, 10, 11, 12, 13, 14, 15, 16], [0, 1, 3, 4, 10, 11, 12, 13], 0⟩) first85 rfl (can85 _ _ _ _ _ _) (o8 u d0 d1 d2 d3 d4 d5 d6 d7 (fun v cs => v = u / 8 ∧ cs = List.replicate 56 z8 ++ [aK .u8 (byteAt digTab (u % 8)), aK .u8 d0, aK .u8 d1, aK .u8 d2, aK .u8 d3, aK .u8 d4, aK .u8 d5, aK .u8 d6, aK .u8 d7]) (fun _ _ => False) ?_) (fun τ hτ => ?_) (fun e τ hτ => ?_)
 ·rw [decide_eq_true h1, iteP_t]
  intro m hm
  rw [and7 (by omega) h2] at hm
  subst hm
  rw [show inRange (u % 8) 36 = true by rw [inRange_iff]; omega, iteP_t]
  intro m1 e1 m2 e2
  rw [fd0 (by omega)] at e2
  subst e1
  subst e2
  exact ⟨rfl, rfl, rfl⟩
 ·obtain ⟨e, h3, h4⟩ := hτ
  rw [h3, h4] at e
  rw [e]
  exact H
 ·unfold qE85 at hτ
  split at hτ
  ·exact hτ.2.elim
  ·exact hτ.elim
theorem oe8 (u d0 d1 d2 d3 d4 d5 d6 d7 : Int) (h1 : u < 8) : Loop85 (S85 8 3 7 u 57 (List.replicate 57 z8 ++ [aK .u8 d0, aK .u8 d1, aK .u8 d2, aK .u8 d3, aK .u8 d4, aK .u8 d5, aK .u8 d6, aK .u8 d7])) fun e τ => e = .exit 0 ∧ τ = E85 u 57 (List.replicate 57 z8 ++ [aK .u8 d0, aK .u8 d1, aK .u8 d2, aK .u8 d3, aK .u8 d4, aK .u8 d5, aK .u8 d6, aK .u8 d7]) := by
 refine Ev.round okH0 (t := ⟨[0, 1, 3, 4, 10, 11, 12, 13, 14, 15, 16], [0, 1, 3, 4, 10, 11, 12, 13], 0⟩) first85 rfl (can85 _ _ _ _ _ _) (o8 u d0 d1 d2 d3 d4 d5 d6 d7 (fun _ _ => False) (fun v cs => v = u ∧ cs = List.replicate 57 z8 ++ [aK .u8 d0, aK .u8 d1, aK .u8 d2, aK .u8 d3, aK .u8 d4, aK .u8 d5, aK .u8 d6, aK .u8 d7]) ?_) (fun τ hτ => hτ.2.elim) (fun e τ hτ => ?_)
 ·rw [decide_eq_false (show ¬ (8 : Int) ≤ u by omega), iteP_f]
  exact ⟨rfl, rfl, rfl⟩
 ·unfold qE85 at hτ
  split at hτ
  ·obtain ⟨e, h3, h4⟩ := hτ
   rw [h3, h4] at e
   exact ⟨rfl, e⟩
  ·exact hτ.elim
theorem os9 (u d0 d1 d2 d3 d4 d5 d6 d7 d8 : Int) (h1 : 8 ≤ u) (h2 : u < 4294967296) {K : KR} (H : Loop85 (S85 8 3 7 (u / 8) 55 (List.replicate 55 z8 ++ [aK .u8 (byteAt digTab (u % 8)), aK .u8 d0, aK .u8 d1, aK .u8 d2, aK .u8 d3, aK .u8 d4, aK .u8 d5, aK .u8 d6, aK .u8 d7, aK .u8 d8])) K) : Loop85 (S85 8 3 7 u 56 (List.replicate 56 z8 ++ [aK .u8 d0, aK .u8 d1, aK .u8 d2, aK .u8 d3, aK .u8 d4, aK .u8 d5, aK .u8 d6, aK .u8 d7, aK .u8 d8])) K := by
 refine Ev.round okH0 (t := ⟨[0, 1, 3, 4, 10, 11, 12, 13, 14, 15, 16], [0, 1, 3, 4, 10, 11, 12, 13], 0⟩) first85 rfl (can85 _ _ _ _ _ _) (o9 u d0 d1 d2 d3 d4 d5 d6 d7 d8 (fun v cs => v = u / 8 ∧ cs = List.replicate 55 z8 ++ [aK .u8 (byteAt digTab (u % 8)), aK .u8 d0, aK .u8 d1, aK .u8 d2, aK .u8 d3, aK .u8 d4, aK .u8 d5, aK .u8 d6, aK .u8 d7, aK .u8 d8]) (fun _ _ => False) ?_) (fun τ hτ => ?_) (fun e τ hτ => ?_)
 ·rw [decide_eq_true h1, iteP_t]
  intro m hm
  rw [and7 (by omega) h2] at hm
  subst hm
  rw [show inRange (u % 8) 36 = true by rw [inRange_iff]; omega, iteP_t]
  intro m1 e1 m2 e2
  rw [fd0 (by omega)] at e2
  subst e1
  subst e2
  exact ⟨rfl, rfl, rfl⟩
 ·obtain ⟨e, h3, h4⟩ := hτ
  rw [h3, h4] at e
  rw [e]
  exact H
 ·unfold qE85 at hτ
  split at hτ
  ·exact hτ.2.elim
  ·exact hτ.elim
theorem oe9 (u d0 d1 d2 d3 d4 d5 d6 d7 d8 : Int) (h1 : u < 8) : Loop85 (S85 8 3 7 u 56 (List.replicate 56 z8 ++ [aK .u8 d0, aK .u8 d1, aK .u8 d2, aK .u8 d3, aK .u8 d4, aK .u8 d5, aK .u8 d6, aK .u8 d7, aK .u8 d8])) fun e τ => e = .exit 0 ∧ τ = E85 u 56 (List.replicate 56 z8 ++ [aK .u8 d0, aK .u8 d1, aK .u8 d2, aK .u8 d3, aK .u8 d4, aK .u8 d5, aK .u8 d6, aK .u8 d7, aK .u8 d8]) := by
 refine Ev.round okH0 (t := ⟨[0, 1, 3, 4, 10, 11, 12, 13, 14, 15, 16], [0, 1, 3, 4, 10, 11, 12, 13], 0⟩) first85 rfl (can85 _ _ _ _ _ _) (o9 u d0 d1 d2 d3 d4 d5 d6 d7 d8 (fun _ _ => False) (fun v cs => v = u ∧ cs = List.replicate 56 z8 ++ [aK .u8 d0, aK .u8 d1, aK .u8 d2, aK .u8 d3, aK .u8 d4, aK .u8 d5, aK .u8 d6, aK .u8 d7, aK .u8 d8]) ?_) (fun τ hτ => hτ.2.elim) (fun e τ hτ => ?_)
 ·rw [decide_eq_false (show ¬ (8 : Int) ≤ u by omega), iteP_f]
  exact ⟨rfl, rfl, rfl⟩
 ·unfold qE85 at hτ
  split at hτ
  ·obtain ⟨e, h3, h4⟩ := hτ
   rw [h3, h4] at e
   exact ⟨rfl, e⟩
  ·exact hτ.elim
theorem oe10 (u d0 d1 d2 d3 d4 d5 d6 d7 d8 d9 : Int) (h1 : u < 8) : Loop85 (S85 8 3 7 u 55 (List.replicate 55 z8 ++ [aK .u8 d0, aK .u8 d1, aK .u8 d2, aK .u8 d3, aK .u8 d4, aK .u8 d5, aK .u8 d6, aK .u8 d7, aK .u8 d8, aK .u8 d9])) fun e τ => e = .exit 0 ∧ τ = E85 u 55 (List.replicate 55 z8 ++ [aK .u8 d0, aK .u8 d1, aK .u8 d2, aK .u8 d3, aK .u8 d4, aK .u8 d5, aK .u8 d6, aK .u8 d7, aK .u8 d8, aK .u8 d9]) := by
 refine Ev.round okH0 (t := ⟨[0, 1, 3, 4, 10, 11, 12, 13, 14, 15, 16], [0, 1, 3, 4, 10, 11, 12, 13], 0⟩) first85 rfl (can85 _ _ _ _ _ _) (o10 u d0 d1 d2 d3 d4 d5 d6 d7 d8 d9 (fun _ _ => False) (fun v cs => v = u ∧ cs = List.replicate 55 z8 ++ [aK .u8 d0, aK .u8 d1, aK .u8 d2, aK .u8 d3, aK .u8 d4, aK .u8 d5, aK .u8 d6, aK .u8 d7, aK .u8 d8, aK .u8 d9]) ?_) (fun τ hτ => hτ.2.elim) (fun e τ hτ => ?_)
 ·rw [decide_eq_false (show ¬ (8 : Int) ≤ u by omega), iteP_f]
  exact ⟨rfl, rfl, rfl⟩
 ·unfold qE85 at hτ
  split at hτ
  ·obtain ⟨e, h3, h4⟩ := hτ
   rw [h3, h4] at e
   exact ⟨rfl, e⟩
  ·exact hτ.elim
theorem ol0 (u : Int) (_ : 0 ≤ u) (h2 : u < 8) : Loop85 (S85 8 3 7 u 65 (List.replicate 65 z8 ++ [])) fun e τ => e = .exit 0 ∧ τ = E85 u 65 (List.replicate 65 z8 ++ []) := by
 exact oe0 u (by omega)
theorem ol1 (u : Int) (h1 : 8 ≤ u) (h2 : u < 64) : Loop85 (S85 8 3 7 u 65 (List.replicate 65 z8 ++ [])) fun e τ => e = .exit 0 ∧ τ = E85 (u / 8) 64 (List.replicate 64 z8 ++ [aK .u8 (byteAt digTab (u % 8))]) := by
 refine os0 u (by omega) (by omega) ?_
 exact oe1 (u / 8) (byteAt digTab (u % 8)) (by omega)
theorem ol2 (u : Int) (h1 : 64 ≤ u) (h2 : u < 512) : Loop85 (S85 8 3 7 u 65 (List.replicate 65 z8 ++ [])) fun e τ => e = .exit 0 ∧ τ = E85 (u / 64) 63 (List.replicate 63 z8 ++ [aK .u8 (byteAt digTab (u / 8 % 8)), aK .u8 (byteAt digTab (u % 8))]) := by
 refine os0 u (by omega) (by omega) ?_
 refine os1 (u / 8) (byteAt digTab (u % 8)) (by omega) (by omega) ?_
 rw [show u / 8 / 8 = u / 64 by omega]
 exact oe2 (u / 64) (byteAt digTab (u / 8 % 8)) (byteAt digTab (u % 8)) (by omega)
theorem ol3 (u : Int) (h1 : 512 ≤ u) (h2 : u < 4096) : Loop85 (S85 8 3 7 u 65 (List.replicate 65 z8 ++ [])) fun e τ => e = .exit 0 ∧ τ = E85 (u / 512) 62 (List.replicate 62 z8 ++ [aK .u8 (byteAt digTab (u / 64 % 8)), aK .u8 (byteAt digTab (u / 8 % 8)), aK .u8 (byteAt digTab (u % 8))]) := by
 refine os0 u (by omega) (by omega) ?_
 refine os1 (u / 8) (byteAt digTab (u % 8)) (by omega) (by omega) ?_
 rw [show u / 8 / 8 = u / 64 by omega]
 refine os2 (u / 64) (byteAt digTab (u / 8 % 8)) (byteAt digTab (u % 8)) (by omega) (by omega) ?_
 rw [show u / 64 / 8 = u / 512 by omega]
 exact oe3 (u / 512) (byteAt digTab (u / 64 % 8)) (byteAt digTab (u / 8 % 8)) (byteAt digTab (u % 8)) (by omega)
theorem ol4 (u : Int) (h1 : 4096 ≤ u) (h2 : u < 32768) : Loop85 (S85 8 3 7 u 65 (List.replicate 65 z8 ++ [])) fun e τ => e = .exit 0 ∧ τ = E85 (u / 4096) 61 (List.replicate 61 z8 ++ [aK .u8 (byteAt digTab (u / 512 % 8)), aK .u8 (byteAt digTab (u / 64 % 8)), aK .u8 (byteAt digTab (u / 8 % 8)), aK .u8 (byteAt digTab (u % 8))]) := by
 refine os0 u (by omega) (by omega) ?_
 refine os1 (u / 8) (byteAt digTab (u % 8)) (by omega) (by omega) ?_
 rw [show u / 8 / 8 = u / 64 by omega]
 refine os2 (u / 64) (byteAt digTab (u / 8 % 8)) (byteAt digTab (u % 8)) (by omega) (by omega) ?_
 rw [show u / 64 / 8 = u / 512 by omega]
 refine os3 (u / 512) (byteAt digTab (u / 64 % 8)) (byteAt digTab (u / 8 % 8)) (byteAt digTab (u % 8)) (by omega) (by omega) ?_
 rw [show u / 512 / 8 = u / 4096 by omega]
 exact oe4 (u / 4096) (byteAt digTab (u / 512 % 8)) (byteAt digTab (u / 64 % 8)) (byteAt digTab (u / 8 % 8)) (byteAt digTab (u % 8)) (by omega)
theorem ol5 (u : Int) (h1 : 32768 ≤ u) (h2 : u < 262144) : Loop85 (S85 8 3 7 u 65 (List.replicate 65 z8 ++ [])) fun e τ => e = .exit 0 ∧ τ = E85 (u / 32768) 60 (List.replicate 60 z8 ++ [aK .u8 (byteAt digTab (u / 4096 % 8)), aK .u8 (byteAt digTab (u / 512 % 8)), aK .u8 (byteAt digTab (u / 64 % 8)), aK .u8 (byteAt digTab (u / 8 % 8)), aK .u8 (byteAt digTab (u % 8))]) := by
 refine os0 u (by omega) (by omega) ?_
 refine os1 (u / 8) (byteAt digTab (u % 8)) (by omega) (by omega) ?_
 rw [show u / 8 / 8 = u / 64 by omega]
 refine os2 (u / 64) (byteAt digTab (u / 8 % 8)) (byteAt digTab (u % 8)) (by omega) (by omega) ?_
 rw [show u / 64 / 8 = u / 512 by omega]
 refine os3 (u / 512) (byteAt digTab (u / 64 % 8)) (byteAt digTab (u / 8 % 8)) (byteAt digTab (u % 8)) (by omega) (by omega) ?_
 rw [show u / 512 / 8 = u / 4096 by omega]
 refine os4 (u / 4096) (byteAt digTab (u / 512 % 8)) (byteAt digTab (u / 64 % 8)) (byteAt digTab (u / 8 % 8)) (byteAt digTab (u % 8)) (by omega) (by omega) ?_
 rw [show u / 4096 / 8 = u / 32768 by omega]
 exact oe5 (u / 32768) (byteAt digTab (u / 4096 % 8)) (byteAt digTab (u / 512 % 8)) (byteAt digTab (u / 64 % 8)) (byteAt digTab (u / 8 % 8)) (byteAt digTab (u % 8)) (by omega)
theorem ol6 (u : Int) (h1 : 262144 ≤ u) (h2 : u < 2097152) : Loop85 (S85 8 3 7 u 65 (List.replicate 65 z8 ++ [])) fun e τ => e = .exit 0 ∧ τ = E85 (u / 262144) 59 (List.replicate 59 z8 ++ [aK .u8 (byteAt digTab (u / 32768 % 8)), aK .u8 (byteAt digTab (u / 4096 % 8)), aK .u8 (byteAt digTab (u / 512 % 8)), aK .u8 (byteAt digTab (u / 64 % 8)), aK .u8 (byteAt digTab (u / 8 % 8)), aK .u8 (byteAt digTab (u % 8))]) := by
 refine os0 u (by omega) (by omega) ?_
 refine os1 (u / 8) (byteAt digTab (u % 8)) (by omega) (by omega) ?_
 rw [show u / 8 / 8 = u / 64 by omega]
 refine os2 (u / 64) (byteAt digTab (u / 8 % 8)) (byteAt digTab (u % 8)) (by omega) (by omega) ?_
 rw [show u / 64 / 8 = u / 512 by omega]
 refine os3 (u / 512) (byteAt digTab (u / 64 % 8)) (byteAt digTab (u / 8 % 8)) (byteAt digTab (u % 8)) (by omega) (by omega) ?_
 rw [show u / 512 / 8 = u / 4096 by omega]
 refine os4 (u / 4096) (byteAt digTab (u / 512 % 8)) (byteAt digTab (u / 64 % 8)) (byteAt digTab (u / 8 % 8)) (byteAt digTab (u % 8)) (by omega) (by omega) ?_
 rw [show u / 4096 / 8 = u / 32768 by omega]
 refine os5 (u / 32768) (byteAt digTab (u / 4096 % 8)) (byteAt digTab (u / 512 % 8)) (byteAt digTab (u / 64 % 8)) (byteAt digTab (u / 8 % 8)) (byteAt digTab (u % 8)) (by omega) (by omega) ?_
 rw [show u / 32768 / 8 = u / 262144 by omega]
 exact oe6 (u / 262144) (byteAt digTab (u / 32768 % 8)) (byteAt digTab (u / 4096 % 8)) (byteAt digTab (u / 512 % 8)) (byteAt digTab (u / 64 % 8)) (byteAt digTab (u / 8 % 8)) (byteAt digTab (u % 8)) (by omega)
theorem ol7 (u : Int) (h1 : 2097152 ≤ u) (h2 : u < 16777216) : Loop85 (S85 8 3 7 u 65 (List.replicate 65 z8 ++ [])) fun e τ => e = .exit 0 ∧ τ = E85 (u / 2097152) 58 (List.replicate 58 z8 ++ [aK .u8 (byteAt digTab (u / 262144 % 8)), aK .u8 (byteAt digTab (u / 32768 % 8)), aK .u8 (byteAt digTab (u / 4096 % 8)), aK .u8 (byteAt digTab (u / 512 % 8)), aK .u8 (byteAt digTab (u / 64 % 8)), aK .u8 (byteAt digTab (u / 8 % 8)), aK .u8 (byteAt digTab (u % 8))]) := by
 refine os0 u (by omega) (by omega) ?_
 refine os1 (u / 8) (byteAt digTab (u % 8)) (by omega) (by omega) ?_
 rw [show u / 8 / 8 = u / 64 by omega]
 refine os2 (u / 64) (byteAt digTab (u / 8 % 8)) (byteAt digTab (u % 8)) (by omega) (by omega) ?_
 rw [show u / 64 / 8 = u / 512 by omega]
 refine os3 (u / 512) (byteAt digTab (u / 64 % 8)) (byteAt digTab (u / 8 % 8)) (byteAt digTab (u % 8)) (by omega) (by omega) ?_
 rw [show u / 512 / 8 = u / 4096 by omega]
 refine os4 (u / 4096) (byteAt digTab (u / 512 % 8)) (byteAt digTab (u / 64 % 8)) (byteAt digTab (u / 8 % 8)) (byteAt digTab (u % 8)) (by omega) (by omega) ?_
 rw [show u / 4096 / 8 = u / 32768 by omega]
 refine os5 (u / 32768) (byteAt digTab (u / 4096 % 8)) (byteAt digTab (u / 512 % 8)) (byteAt digTab (u / 64 % 8)) (byteAt digTab (u / 8 % 8)) (byteAt digTab (u % 8)) (by omega) (by omega) ?_
 rw [show u / 32768 / 8 = u / 262144 by omega]
 refine os6 (u / 262144) (byteAt digTab (u / 32768 % 8)) (byteAt digTab (u / 4096 % 8)) (byteAt digTab (u / 512 % 8)) (byteAt digTab (u / 64 % 8)) (byteAt digTab (u / 8 % 8)) (byteAt digTab (u % 8)) (by omega) (by omega) ?_
 rw [show u / 262144 / 8 = u / 2097152 by omega]
 exact oe7 (u / 2097152) (byteAt digTab (u / 262144 % 8)) (byteAt digTab (u / 32768 % 8)) (byteAt digTab (u / 4096 % 8)) (byteAt digTab (u / 512 % 8)) (byteAt digTab (u / 64 % 8)) (byteAt digTab (u / 8 % 8)) (byteAt digTab (u % 8)) (by omega)
theorem ol8 (u : Int) (h1 : 16777216 ≤ u) (h2 : u < 134217728) : Loop85 (S85 8 3 7 u 65 (List.replicate 65 z8 ++ [])) fun e τ => e = .exit 0 ∧ τ = E85 (u / 16777216) 57 (List.replicate 57 z8 ++ [aK .u8 (byteAt digTab (u / 2097152 % 8)), aK .u8 (byteAt digTab (u / 262144 % 8)), aK .u8 (byteAt digTab (u / 32768 % 8)), aK .u8 (byteAt digTab (u / 4096 % 8)), aK .u8 (byteAt digTab (u / 512 % 8)), aK .u8 (byteAt digTab (u / 64 % 8)), aK .u8 (byteAt digTab (u / 8 % 8)), aK .u8 (byteAt digTab (u % 8))]) := by
 refine os0 u (by omega) (by omega) ?_
 refine os1 (u / 8) (byteAt digTab (u % 8)) (by omega) (by omega) ?_
 rw [show u / 8 / 8 = u / 64 by omega]
 refine os2 (u / 64) (byteAt digTab (u / 8 % 8)) (byteAt digTab (u % 8)) (by omega) (by omega) ?_
 rw [show u / 64 / 8 = u / 512 by omega]
 refine os3 (u / 512) (byteAt digTab (u / 64 % 8)) (byteAt digTab (u / 8 % 8)) (byteAt digTab (u % 8)) (by omega) (by omega) ?_
 rw [show u / 512 / 8 = u / 4096 by omega]
 refine os4 (u / 4096) (byteAt digTab (u / 512 % 8)) (byteAt digTab (u / 64 % 8)) (byteAt digTab (u / 8 % 8)) (byteAt digTab (u % 8)) (by omega) (by omega) ?_
 rw [show u / 4096 / 8 = u / 32768 by omega]
 refine os5 (u / 32768) (byteAt digTab (u / 4096 % 8)) (byteAt digTab (u / 512 % 8)) (byteAt digTab (u / 64 % 8)) (byteAt digTab (u / 8 % 8)) (byteAt digTab (u % 8)) (by omega) (by omega) ?_
 rw [show u / 32768 / 8 = u / 262144 by omega]
 refine os6 (u / 262144) (byteAt digTab (u / 32768 % 8)) (byteAt digTab (u / 4096 % 8)) (byteAt digTab (u / 512 % 8)) (byteAt digTab (u / 64 % 8)) (byteAt digTab (u / 8 % 8)) (byteAt digTab (u % 8)) (by omega) (by omega) ?_
 rw [show u / 262144 / 8 = u / 2097152 by omega]
 refine os7 (u / 2097152) (byteAt digTab (u / 262144 % 8)) (byteAt digTab (u / 32768 % 8)) (byteAt digTab (u / 4096 % 8)) (byteAt digTab (u / 512 % 8)) (byteAt digTab (u / 64 % 8)) (byteAt digTab (u / 8 % 8)) (byteAt digTab (u % 8)) (by omega) (by omega) ?_
 rw [show u / 2097152 / 8 = u / 16777216 by omega]
 exact oe8 (u / 16777216) (byteAt digTab (u / 2097152 % 8)) (byteAt digTab (u / 262144 % 8)) (byteAt digTab (u / 32768 % 8)) (byteAt digTab (u / 4096 % 8)) (byteAt digTab (u / 512 % 8)) (byteAt digTab (u / 64 % 8)) (byteAt digTab (u / 8 % 8)) (byteAt digTab (u % 8)) (by omega)
theorem ol9 (u : Int) (h1 : 134217728 ≤ u) (h2 : u < 1073741824) : Loop85 (S85 8 3 7 u 65 (List.replicate 65 z8 ++ [])) fun e τ => e = .exit 0 ∧ τ = E85 (u / 134217728) 56 (List.replicate 56 z8 ++ [aK .u8 (byteAt digTab (u / 16777216 % 8)), aK .u8 (byteAt digTab (u / 2097152 % 8)), aK .u8 (byteAt digTab (u / 262144 % 8)), aK .u8 (byteAt digTab (u / 32768 % 8)), aK .u8 (byteAt digTab (u / 4096 % 8)), aK .u8 (byteAt digTab (u / 512 % 8)), aK .u8 (byteAt digTab (u / 64 % 8)), aK .u8 (byteAt digTab (u / 8 % 8)), aK .u8 (byteAt digTab (u % 8))]) := by
 refine os0 u (by omega) (by omega) ?_
 refine os1 (u / 8) (byteAt digTab (u % 8)) (by omega) (by omega) ?_
 rw [show u / 8 / 8 = u / 64 by omega]
 refine os2 (u / 64) (byteAt digTab (u / 8 % 8)) (byteAt digTab (u % 8)) (by omega) (by omega) ?_
 rw [show u / 64 / 8 = u / 512 by omega]
 refine os3 (u / 512) (byteAt digTab (u / 64 % 8)) (byteAt digTab (u / 8 % 8)) (byteAt digTab (u % 8)) (by omega) (by omega) ?_
 rw [show u / 512 / 8 = u / 4096 by omega]
 refine os4 (u / 4096) (byteAt digTab (u / 512 % 8)) (byteAt digTab (u / 64 % 8)) (byteAt digTab (u / 8 % 8)) (byteAt digTab (u % 8)) (by omega) (by omega) ?_
 rw [show u / 4096 / 8 = u / 32768 by omega]
 refine os5 (u / 32768) (byteAt digTab (u / 4096 % 8)) (byteAt digTab (u / 512 % 8)) (byteAt digTab (u / 64 % 8)) (byteAt digTab (u / 8 % 8)) (byteAt digTab (u % 8)) (by omega) (by omega) ?_
 rw [show u / 32768 / 8 = u / 262144 by omega]
 refine os6 (u / 262144) (byteAt digTab (u / 32768 % 8)) (byteAt digTab (u / 4096 % 8)) (byteAt digTab (u / 512 % 8)) (byteAt digTab (u / 64 % 8)) (byteAt digTab (u / 8 % 8)) (byteAt digTab (u % 8)) (by omega) (by omega) ?_
 rw [show u / 262144 / 8 = u / 2097152 by omega]
 refine os7 (u / 2097152) (byteAt digTab (u / 262144 % 8)) (byteAt digTab (u / 32768 % 8)) (byteAt digTab (u / 4096 % 8)) (byteAt digTab (u / 512 % 8)) (byteAt digTab (u / 64 % 8)) (byteAt digTab (u / 8 % 8)) (byteAt digTab (u % 8)) (by omega) (by omega) ?_
 rw [show u / 2097152 / 8 = u / 16777216 by omega]
 refine os8 (u / 16777216) (byteAt digTab (u / 2097152 % 8)) (byteAt digTab (u / 262144 % 8)) (byteAt digTab (u / 32768 % 8)) (byteAt digTab (u / 4096 % 8)) (byteAt digTab (u / 512 % 8)) (byteAt digTab (u / 64 % 8)) (byteAt digTab (u / 8 % 8)) (byteAt digTab (u % 8)) (by omega) (by omega) ?_
 rw [show u / 16777216 / 8 = u / 134217728 by omega]
 exact oe9 (u / 134217728) (byteAt digTab (u / 16777216 % 8)) (byteAt digTab (u / 2097152 % 8)) (byteAt digTab (u / 262144 % 8)) (byteAt digTab (u / 32768 % 8)) (byteAt digTab (u / 4096 % 8)) (byteAt digTab (u / 512 % 8)) (byteAt digTab (u / 64 % 8)) (byteAt digTab (u / 8 % 8)) (byteAt digTab (u % 8)) (by omega)
theorem ol10 (u : Int) (h1 : 1073741824 ≤ u) (h2 : u < 4294967296) : Loop85 (S85 8 3 7 u 65 (List.replicate 65 z8 ++ [])) fun e τ => e = .exit 0 ∧ τ = E85 (u / 1073741824) 55 (List.replicate 55 z8 ++ [aK .u8 (byteAt digTab (u / 134217728 % 8)), aK .u8 (byteAt digTab (u / 16777216 % 8)), aK .u8 (byteAt digTab (u / 2097152 % 8)), aK .u8 (byteAt digTab (u / 262144 % 8)), aK .u8 (byteAt digTab (u / 32768 % 8)), aK .u8 (byteAt digTab (u / 4096 % 8)), aK .u8 (byteAt digTab (u / 512 % 8)), aK .u8 (byteAt digTab (u / 64 % 8)), aK .u8 (byteAt digTab (u / 8 % 8)), aK .u8 (byteAt digTab (u % 8))]) := by
 refine os0 u (by omega) (by omega) ?_
 refine os1 (u / 8) (byteAt digTab (u % 8)) (by omega) (by omega) ?_
 rw [show u / 8 / 8 = u / 64 by omega]
 refine os2 (u / 64) (byteAt digTab (u / 8 % 8)) (byteAt digTab (u % 8)) (by omega) (by omega) ?_
 rw [show u / 64 / 8 = u / 512 by omega]
 refine os3 (u / 512) (byteAt digTab (u / 64 % 8)) (byteAt digTab (u / 8 % 8)) (byteAt digTab (u % 8)) (by omega) (by omega) ?_
 rw [show u / 512 / 8 = u / 4096 by omega]
 refine os4 (u / 4096) (byteAt digTab (u / 512 % 8)) (byteAt digTab (u / 64 % 8)) (byteAt digTab (u / 8 % 8)) (byteAt digTab (u % 8)) (by omega) (by omega) ?_
 rw [show u / 4096 / 8 = u / 32768 by omega]
 refine os5 (u / 32768) (byteAt digTab (u / 4096 % 8)) (byteAt digTab (u / 512 % 8)) (byteAt digTab (u / 64 % 8)) (byteAt digTab (u / 8 % 8)) (byteAt digTab (u % 8)) (by omega) (by omega) ?_
 rw [show u / 32768 / 8 = u / 262144 by omega]
 refine os6 (u / 262144) (byteAt digTab (u / 32768 % 8)) (byteAt digTab (u / 4096 % 8)) (byteAt digTab (u / 512 % 8)) (byteAt digTab (u / 64 % 8)) (byteAt digTab (u / 8 % 8)) (byteAt digTab (u % 8)) (by omega) (by omega) ?_
 rw [show u / 262144 / 8 = u / 2097152 by omega]
 refine os7 (u / 2097152) (byteAt digTab (u / 262144 % 8)) (byteAt digTab (u / 32768 % 8)) (byteAt digTab (u / 4096 % 8)) (byteAt digTab (u / 512 % 8)) (byteAt digTab (u / 64 % 8)) (byteAt digTab (u / 8 % 8)) (byteAt digTab (u % 8)) (by omega) (by omega) ?_
 rw [show u / 2097152 / 8 = u / 16777216 by omega]
 refine os8 (u / 16777216) (byteAt digTab (u / 2097152 % 8)) (byteAt digTab (u / 262144 % 8)) (byteAt digTab (u / 32768 % 8)) (byteAt digTab (u / 4096 % 8)) (byteAt digTab (u / 512 % 8)) (byteAt digTab (u / 64 % 8)) (byteAt digTab (u / 8 % 8)) (byteAt digTab (u % 8)) (by omega) (by omega) ?_
 rw [show u / 16777216 / 8 = u / 134217728 by omega]
 refine os9 (u / 134217728) (byteAt digTab (u / 16777216 % 8)) (byteAt digTab (u / 2097152 % 8)) (byteAt digTab (u / 262144 % 8)) (byteAt digTab (u / 32768 % 8)) (byteAt digTab (u / 4096 % 8)) (byteAt digTab (u / 512 % 8)) (byteAt digTab (u / 64 % 8)) (byteAt digTab (u / 8 % 8)) (byteAt digTab (u % 8)) (by omega) (by omega) ?_
 rw [show u / 134217728 / 8 = u / 1073741824 by omega]
 exact oe10 (u / 1073741824) (byteAt digTab (u / 134217728 % 8)) (byteAt digTab (u / 16777216 % 8)) (byteAt digTab (u / 2097152 % 8)) (byteAt digTab (u / 262144 % 8)) (byteAt digTab (u / 32768 % 8)) (byteAt digTab (u / 4096 % 8)) (byteAt digTab (u / 512 % 8)) (byteAt digTab (u / 64 % 8)) (byteAt digTab (u / 8 % 8)) (byteAt digTab (u % 8)) (by omega)
theorem okH1 : TabOk Tryd.prog Door.cfg H1 := by
 refine addL_ok tab0_ok fun σ s hs hp => ?_
 unfold L85 at hs
 split at hs
 ·rename_i u _ _
  cases Option.some.inj hs
  obtain ⟨e, h1, h2⟩ := hp
  have go : ∀ {K : KR}, Loop85 (S85 16 4 15 u 65 (List.replicate 65 z8 ++ [])) K → Loop85 σ K := fun h => Ev.tidied (t := ⟨[0, 1, 3, 4, 10, 11, 12, 13, 14, 15, 16], [0, 1, 3, 4, 10, 11, 12, 13], 0⟩) (by kernel_rfl) (by rw [e]; exact (can85 _ _ _ _ _ _).symm) h
  by_cases c0 : u < 16
  ·obtain ⟨m, ex, τ, g, rfl, rfl⟩ := go (xl0 u (by omega) c0)
   exact ⟨_, (.head _), (), ⟨by omega, c0⟩, m, g⟩
  by_cases c1 : u < 256
  ·obtain ⟨m, ex, τ, g, rfl, rfl⟩ := go (xl1 u (by omega) c1)
   exact ⟨_, (.tail _ (.head _)), (), ⟨by omega, c1⟩, m, g⟩
  by_cases c2 : u < 4096
  ·obtain ⟨m, ex, τ, g, rfl, rfl⟩ := go (xl2 u (by omega) c2)
   exact ⟨_, (.tail _ (.tail _ (.head _))), (), ⟨by omega, c2⟩, m, g⟩
  by_cases c3 : u < 65536
  ·obtain ⟨m, ex, τ, g, rfl, rfl⟩ := go (xl3 u (by omega) c3)
   exact ⟨_, (.tail _ (.tail _ (.tail _ (.head _)))), (), ⟨by omega, c3⟩, m, g⟩
  by_cases c4 : u < 1048576
  ·obtain ⟨m, ex, τ, g, rfl, rfl⟩ := go (xl4 u (by omega) c4)
   exact ⟨_, (.tail _ (.tail _ (.tail _ (.tail _ (.head _))))), (), ⟨by omega, c4⟩, m, g⟩
  by_cases c5 : u < 16777216
  ·obtain ⟨m, ex, τ, g, rfl, rfl⟩ := go (xl5 u (by omega) c5)
   exact ⟨_, (.tail _ (.tail _ (.tail _ (.tail _ (.tail _ (.head _)))))), (), ⟨by omega, c5⟩, m, g⟩
  by_cases c6 : u < 268435456
  ·obtain ⟨m, ex, τ, g, rfl, rfl⟩ := go (xl6 u (by omega) c6)
   exact ⟨_, (.tail _ (.tail _ (.tail _ (.tail _ (.tail _ (.tail _ (.head _))))))), (), ⟨by omega, c6⟩, m, g⟩
  obtain ⟨m, ex, τ, g, rfl, rfl⟩ := go (xl7 u (by omega) h2)
  exact ⟨_, (.tail _ (.tail _ (.tail _ (.tail _ (.tail _ (.tail _ (.tail _ (.head _)))))))), (), ⟨by omega, h2⟩, m, g⟩
 ·rename_i u _ _
  cases Option.some.inj hs
  obtain ⟨e, h1, h2⟩ := hp
  have go : ∀ {K : KR}, Loop85 (S85 8 3 7 u 65 (List.replicate 65 z8 ++ [])) K → Loop85 σ K := fun h => Ev.tidied (t := ⟨[0, 1, 3, 4, 10, 11, 12, 13, 14, 15, 16], [0, 1, 3, 4, 10, 11, 12, 13], 0⟩) (by kernel_rfl) (by rw [e]; exact (can85 _ _ _ _ _ _).symm) h
  by_cases c0 : u < 8
  ·obtain ⟨m, ex, τ, g, rfl, rfl⟩ := go (ol0 u (by omega) c0)
   exact ⟨_, (.head _), (), ⟨by omega, c0⟩, m, g⟩
  by_cases c1 : u < 64
  ·obtain ⟨m, ex, τ, g, rfl, rfl⟩ := go (ol1 u (by omega) c1)
   exact ⟨_, (.tail _ (.head _)), (), ⟨by omega, c1⟩, m, g⟩
  by_cases c2 : u < 512
  ·obtain ⟨m, ex, τ, g, rfl, rfl⟩ := go (ol2 u (by omega) c2)
   exact ⟨_, (.tail _ (.tail _ (.head _))), (), ⟨by omega, c2⟩, m, g⟩
  by_cases c3 : u < 4096
  ·obtain ⟨m, ex, τ, g, rfl, rfl⟩ := go (ol3 u (by omega) c3)
   exact ⟨_, (.tail _ (.tail _ (.tail _ (.head _)))), (), ⟨by omega, c3⟩, m, g⟩
  by_cases c4 : u < 32768
  ·obtain ⟨m, ex, τ, g, rfl, rfl⟩ := go (ol4 u (by omega) c4)
   exact ⟨_, (.tail _ (.tail _ (.tail _ (.tail _ (.head _))))), (), ⟨by omega, c4⟩, m, g⟩
  by_cases c5 : u < 262144
  ·obtain ⟨m, ex, τ, g, rfl, rfl⟩ := go (ol5 u (by omega) c5)
   exact ⟨_, (.tail _ (.tail _ (.tail _ (.tail _ (.tail _ (.head _)))))), (), ⟨by omega, c5⟩, m, g⟩
  by_cases c6 : u < 2097152
  ·obtain ⟨m, ex, τ, g, rfl, rfl⟩ := go (ol6 u (by omega) c6)
   exact ⟨_, (.tail _ (.tail _ (.tail _ (.tail _ (.tail _ (.tail _ (.head _))))))), (), ⟨by omega, c6⟩, m, g⟩
  by_cases c7 : u < 16777216
  ·obtain ⟨m, ex, τ, g, rfl, rfl⟩ := go (ol7 u (by omega) c7)
   exact ⟨_, (.tail _ (.tail _ (.tail _ (.tail _ (.tail _ (.tail _ (.tail _ (.head _)))))))), (), ⟨by omega, c7⟩, m, g⟩
  by_cases c8 : u < 134217728
  ·obtain ⟨m, ex, τ, g, rfl, rfl⟩ := go (ol8 u (by omega) c8)
   exact ⟨_, (.tail _ (.tail _ (.tail _ (.tail _ (.tail _ (.tail _ (.tail _ (.tail _ (.head _))))))))), (), ⟨by omega, c8⟩, m, g⟩
  by_cases c9 : u < 1073741824
  ·obtain ⟨m, ex, τ, g, rfl, rfl⟩ := go (ol9 u (by omega) c9)
   exact ⟨_, (.tail _ (.tail _ (.tail _ (.tail _ (.tail _ (.tail _ (.tail _ (.tail _ (.tail _ (.head _)))))))))), (), ⟨by omega, c9⟩, m, g⟩
  obtain ⟨m, ex, τ, g, rfl, rfl⟩ := go (ol10 u (by omega) h2)
  exact ⟨_, (.tail _ (.tail _ (.tail _ (.tail _ (.tail _ (.tail _ (.tail _ (.tail _ (.tail _ (.tail _ (.head _))))))))))), (), ⟨by omega, h2⟩, m, g⟩
 ·cases hs
theorem bits16 (u : Int) (h1 : 0 ≤ u) (h2 : u < 4294967296) (h : Heap) : EvP Door.cfg Tryd.prog 85 [.sc (.slice none 0 0), aK .u64 u, aK .i64 16, aBool false, aBool false] h fun v h' => v = .tup [.sc (.slice none 0 0), aStr (fmtN 16 u.toNat)] ∧ h' = h := by
 refine EvP.freshV okH1 (n := 40) (by kernel_rfl) (by kernel_rfl) (args' := [.sc (.slice none 0 0), aK .u64 u, aK .i64 16, aBool false, aBool false]) rfl (h85 u _ ⟨rfl, ⟨rfl, h1, h2⟩, fun _ hb => ?_, fun _ hb => ?_, fun _ hb => ?_, fun _ hb => ?_, fun _ hb => ?_, fun _ hb => ?_, fun _ hb => ?_, fun _ hb => ?_⟩)
 ·obtain ⟨b1, b2⟩ := hb
  rw [show inRange (u) 36 = true by rw [inRange_iff]; omega, iteP_t]
  have f : fmtN 16 u.toNat = [digitC (u.toNat)] := by
   unfold fmtN
   rw [dlast (by omega)]
  have q0 : UInt8.ofNat (byteAt digTab (u)).toNat = digitC (u.toNat) := (dig_tab (by omega) (by omega)).trans (congrArg digitC (by omega))
  rw [q0, f]
  rfl
 ·obtain ⟨b1, b2⟩ := hb
  rw [show inRange (u / 16) 36 = true by rw [inRange_iff]; omega, iteP_t]
  have f : fmtN 16 u.toNat = [digitC (u.toNat / 16), digitC (u.toNat % 16)] := by
   unfold fmtN
   rw [dstep (by omega), dlast (by omega)]
  have q0 : UInt8.ofNat (byteAt digTab (u / 16)).toNat = digitC (u.toNat / 16) := (dig_tab (by omega) (by omega)).trans (congrArg digitC (by omega))
  have q1 : UInt8.ofNat (byteAt digTab (u % 16)).toNat = digitC (u.toNat % 16) := (dig_tab (by omega) (by omega)).trans (congrArg digitC (by omega))
  rw [q0, q1, f]
  rfl
 ·obtain ⟨b1, b2⟩ := hb
  rw [show inRange (u / 256) 36 = true by rw [inRange_iff]; omega, iteP_t]
  have f : fmtN 16 u.toNat = [digitC (u.toNat / 256), digitC (u.toNat / 16 % 16), digitC (u.toNat % 16)] := by
   unfold fmtN
   rw [dstep (by omega), dstep (by omega), dlast (by omega)]
   simp only [Nat.div_div_eq_div_mul]
  have q0 : UInt8.ofNat (byteAt digTab (u / 256)).toNat = digitC (u.toNat / 256) := (dig_tab (by omega) (by omega)).trans (congrArg digitC (by omega))
  have q1 : UInt8.ofNat (byteAt digTab (u / 16 % 16)).toNat = digitC (u.toNat / 16 % 16) := (dig_tab (by omega) (by omega)).trans (congrArg digitC (by omega))
  have q2 : UInt8.ofNat (byteAt digTab (u % 16)).toNat = digitC (u.toNat % 16) := (dig_tab (by omega) (by omega)).trans (congrArg digitC (by omega))
  rw [q0, q1, q2, f]
  rfl
 ·obtain ⟨b1, b2⟩ := hb
  rw [show inRange (u / 4096) 36 = true by rw [inRange_iff]; omega, iteP_t]
  have f : fmtN 16 u.toNat = [digitC (u.toNat / 4096), digitC (u.toNat / 256 % 16), digitC (u.toNat / 16 % 16), digitC (u.toNat % 16)] := by
   unfold fmtN
   rw [dstep (by omega), dstep (by omega), dstep (by omega), dlast (by omega)]
   simp only [Nat.div_div_eq_div_mul]
  have q0 : UInt8.ofNat (byteAt digTab (u / 4096)).toNat = digitC (u.toNat / 4096) := (dig_tab (by omega) (by omega)).trans (congrArg digitC (by omega))
  have q1 : UInt8.ofNat (byteAt digTab (u / 256 % 16)).toNat = digitC (u.toNat / 256 % 16) := (dig_tab (by omega) (by omega)).trans (congrArg digitC (by omega))
  have q2 : UInt8.ofNat (byteAt digTab (u / 16 % 16)).toNat = digitC (u.toNat / 16 % 16) := (dig_tab (by omega) (by omega)).trans (congrArg digitC (by omega))
  have q3 : UInt8.ofNat (byteAt digTab (u % 16)).toNat = digitC (u.toNat % 16) := (dig_tab (by omega) (by omega)).trans (congrArg digitC (by omega))
  rw [q0, q1, q2, q3, f]
  rfl
 ·obtain ⟨b1, b2⟩ := hb
  rw [show inRange (u / 65536) 36 = true by rw [inRange_iff]; omega, iteP_t]
  have f : fmtN 16 u.toNat = [digitC (u.toNat / 65536), digitC (u.toNat / 4096 % 16), digitC (u.toNat / 256 % 16), digitC (u.toNat / 16 % 16), digitC (u.toNat % 16)] := by
   unfold fmtN
   rw [dstep (by omega), dstep (by omega), dstep (by omega), dstep (by omega), dlast (by omega)]
   simp only [Nat.div_div_eq_div_mul]
  have q0 : UInt8.ofNat (byteAt digTab (u / 65536)).toNat = digitC (u.toNat / 65536) := (dig_tab (by omega) (by omega)).trans (congrArg digitC (by omega))
  have q1 : UInt8.ofNat (byteAt digTab (u / 4096 % 16)).toNat = digitC (u.toNat / 4096 % 16) := (dig_tab (by omega) (by omega)).trans (congrArg digitC (by omega))
  have q2 : UInt8.ofNat (byteAt digTab (u / 256 % 16)).toNat = digitC (u.toNat / 256 % 16) := (dig_tab (by omega) (by omega)).trans (congrArg digitC (by omega))
  have q3 : UInt8.ofNat (byteAt digTab (u / 16 % 16)).toNat = digitC (u.toNat / 16 % 16) := (dig_tab (by omega) (by omega)).trans (congrArg digitC (by omega))
  have q4 : UInt8.ofNat (byteAt digTab (u % 16)).toNat = digitC (u.toNat % 16) := (dig_tab (by omega) (by omega)).trans (congrArg digitC (by omega))
  rw [q0, q1, q2, q3, q4, f]
  rfl
 ·obtain ⟨b1, b2⟩ := hb
  rw [show inRange (u / 1048576) 36 = true by rw [inRange_iff]; omega, iteP_t]
  have f : fmtN 16 u.toNat = [digitC (u.toNat / 1048576), digitC (u.toNat / 65536 % 16), digitC (u.toNat / 4096 % 16), digitC (u.toNat / 256 % 16), digitC (u.toNat / 16 % 16), digitC (u.toNat % 16)] := by
   unfold fmtN
   rw [dstep (by omega), dstep (by omega), dstep (by omega), dstep (by omega), dstep (by omega), dlast (by omega)]
   simp only [Nat.div_div_eq_div_mul]
  have q0 : UInt8.ofNat (byteAt digTab (u / 1048576)).toNat = digitC (u.toNat / 1048576) := (dig_tab (by omega) (by omega)).trans (congrArg digitC (by omega))
  have q1 : UInt8.ofNat (byteAt digTab (u / 65536 % 16)).toNat = digitC (u.toNat / 65536 % 16) := (dig_tab (by omega) (by omega)).trans (congrArg digitC (by omega))
  have q2 : UInt8.ofNat (byteAt digTab (u / 4096 % 16)).toNat = digitC (u.toNat / 4096 % 16) := (dig_tab (by omega) (by omega)).trans (congrArg digitC (by omega))
  have q3 : UInt8.ofNat (byteAt digTab (u / 256 % 16)).toNat = digitC (u.toNat / 256 % 16) := (dig_tab (by omega) (by omega)).trans (congrArg digitC (by omega))
  have q4 : UInt8.ofNat (byteAt digTab (u / 16 % 16)).toNat = digitC (u.toNat / 16 % 16) := (dig_tab (by omega) (by omega)).trans (congrArg digitC (by omega))
  have q5 : UInt8.ofNat (byteAt digTab (u % 16)).toNat = digitC (u.toNat % 16) := (dig_tab (by omega) (by omega)).trans (congrArg digitC (by omega))
  rw [q0, q1, q2, q3, q4, q5, f]
  rfl
 ·obtain ⟨b1, b2⟩ := hb
  rw [show inRange (u / 16777216) 36 = true by rw [inRange_iff]; omega, iteP_t]
  have f : fmtN 16 u.toNat = [digitC (u.toNat / 16777216), digitC (u.toNat / 1048576 % 16), digitC (u.toNat / 65536 % 16), digitC (u.toNat / 4096 % 16), digitC (u.toNat / 256 % 16), digitC (u.toNat / 16 % 16), digitC (u.toNat % 16)] := by
   unfold fmtN
   rw [dstep (by omega), dstep (by omega), dstep (by omega), dstep (by omega), dstep (by omega), dstep (by omega), dlast (by omega)]
   simp only [Nat.div_div_eq_div_mul]
  have q0 : UInt8.ofNat (byteAt digTab (u / 16777216)).toNat = digitC (u.toNat / 16777216) := (dig_tab (by omega) (by omega)).trans (congrArg digitC (by omega))
  have q1 : UInt8.ofNat (byteAt digTab (u / 1048576 % 16)).toNat = digitC (u.toNat / 1048576 % 16) := (dig_tab (by omega) (by omega)).trans (congrArg digitC (by omega))
  have q2 : UInt8.ofNat (byteAt digTab (u / 65536 % 16)).toNat = digitC (u.toNat / 65536 % 16) := (dig_tab (by omega) (by omega)).trans (congrArg digitC (by omega))
  have q3 : UInt8.ofNat (byteAt digTab (u / 4096 % 16)).toNat = digitC (u.toNat / 4096 % 16) := (dig_tab (by omega) (by omega)).trans (congrArg digitC (by omega))
  have q4 : UInt8.ofNat (byteAt digTab (u / 256 % 16)).toNat = digitC (u.toNat / 256 % 16) := (dig_tab (by omega) (by omega)).trans (congrArg digitC (by omega))
  have q5 : UInt8.ofNat (byteAt digTab (u / 16 % 16)).toNat = digitC (u.toNat / 16 % 16) := (dig_tab (by omega) (by omega)).trans (congrArg digitC (by omega))
  have q6 : UInt8.ofNat (byteAt digTab (u % 16)).toNat = digitC (u.toNat % 16) := (dig_tab (by omega) (by omega)).trans (congrArg digitC (by omega))
  rw [q0, q1, q2, q3, q4, q5, q6, f]
  rfl
 ·obtain ⟨b1, b2⟩ := hb
  rw [show inRange (u / 268435456) 36 = true by rw [inRange_iff]; omega, iteP_t]
  have f : fmtN 16 u.toNat = [digitC (u.toNat / 268435456), digitC (u.toNat / 16777216 % 16), digitC (u.toNat / 1048576 % 16), digitC (u.toNat / 65536 % 16), digitC (u.toNat / 4096 % 16), digitC (u.toNat / 256 % 16), digitC (u.toNat / 16 % 16), digitC (u.toNat % 16)] := by
   unfold fmtN
   rw [dstep (by omega), dstep (by omega), dstep (by omega), dstep (by omega), dstep (by omega), dstep (by omega), dstep (by omega), dlast (by omega)]
   simp only [Nat.div_div_eq_div_mul]
  have q0 : UInt8.ofNat (byteAt digTab (u / 268435456)).toNat = digitC (u.toNat / 268435456) := (dig_tab (by omega) (by omega)).trans (congrArg digitC (by omega))
  have q1 : UInt8.ofNat (byteAt digTab (u / 16777216 % 16)).toNat = digitC (u.toNat / 16777216 % 16) := (dig_tab (by omega) (by omega)).trans (congrArg digitC (by omega))
  have q2 : UInt8.ofNat (byteAt digTab (u / 1048576 % 16)).toNat = digitC (u.toNat / 1048576 % 16) := (dig_tab (by omega) (by omega)).trans (congrArg digitC (by omega))
  have q3 : UInt8.ofNat (byteAt digTab (u / 65536 % 16)).toNat = digitC (u.toNat / 65536 % 16) := (dig_tab (by omega) (by omega)).trans (congrArg digitC (by omega))
  have q4 : UInt8.ofNat (byteAt digTab (u / 4096 % 16)).toNat = digitC (u.toNat / 4096 % 16) := (dig_tab (by omega) (by omega)).trans (congrArg digitC (by omega))
  have q5 : UInt8.ofNat (byteAt digTab (u / 256 % 16)).toNat = digitC (u.toNat / 256 % 16) := (dig_tab (by omega) (by omega)).trans (congrArg digitC (by omega))
  have q6 : UInt8.ofNat (byteAt digTab (u / 16 % 16)).toNat = digitC (u.toNat / 16 % 16) := (dig_tab (by omega) (by omega)).trans (congrArg digitC (by omega))
  have q7 : UInt8.ofNat (byteAt digTab (u % 16)).toNat = digitC (u.toNat % 16) := (dig_tab (by omega) (by omega)).trans (congrArg digitC (by omega))
  rw [q0, q1, q2, q3, q4, q5, q6, q7, f]
  rfl
theorem bits8 (u : Int) (h1 : 0 ≤ u) (h2 : u < 4294967296) (h : Heap) : EvP Door.cfg Tryd.prog 85 [.sc (.slice none 0 0), aK .u64 u, aK .i64 8, aBool false, aBool false] h fun v h' => v = .tup [.sc (.slice none 0 0), aStr (fmtN 8 u.toNat)] ∧ h' = h := by
 refine EvP.freshV okH1 (n := 40) (by kernel_rfl) (by kernel_rfl) (args' := [.sc (.slice none 0 0), aK .u64 u, aK .i64 8, aBool false, aBool false]) rfl (o85 u _ ⟨rfl, ⟨rfl, h1, h2⟩, fun _ hb => ?_, fun _ hb => ?_, fun _ hb => ?_, fun _ hb => ?_, fun _ hb => ?_, fun _ hb => ?_, fun _ hb => ?_, fun _ hb => ?_, fun _ hb => ?_, fun _ hb => ?_, fun _ hb => ?_⟩)
 ·obtain ⟨b1, b2⟩ := hb
  rw [show inRange (u) 36 = true by rw [inRange_iff]; omega, iteP_t]
  have f : fmtN 8 u.toNat = [digitC (u.toNat)] := by
   unfold fmtN
   rw [dlast (by omega)]
  have q0 : UInt8.ofNat (byteAt digTab (u)).toNat = digitC (u.toNat) := (dig_tab (by omega) (by omega)).trans (congrArg digitC (by omega))
  rw [q0, f]
  rfl
 ·obtain ⟨b1, b2⟩ := hb
  rw [show inRange (u / 8) 36 = true by rw [inRange_iff]; omega, iteP_t]
  have f : fmtN 8 u.toNat = [digitC (u.toNat / 8), digitC (u.toNat % 8)] := by
   unfold fmtN
   rw [dstep (by omega), dlast (by omega)]
  have q0 : UInt8.ofNat (byteAt digTab (u / 8)).toNat = digitC (u.toNat / 8) := (dig_tab (by omega) (by omega)).trans (congrArg digitC (by omega))
  have q1 : UInt8.ofNat (byteAt digTab (u % 8)).toNat = digitC (u.toNat % 8) := (dig_tab (by omega) (by omega)).trans (congrArg digitC (by omega))
  rw [q0, q1, f]
  rfl
 ·obtain ⟨b1, b2⟩ := hb
  rw [show inRange (u / 64) 36 = true by rw [inRange_iff]; omega, iteP_t]
  have f : fmtN 8 u.toNat = [digitC (u.toNat / 64), digitC (u.toNat / 8 % 8), digitC (u.toNat % 8)] := by
   unfold fmtN
   rw [dstep (by omega), dstep (by omega), dlast (by omega)]
   simp only [Nat.div_div_eq_div_mul]
  have q0 : UInt8.ofNat (byteAt digTab (u / 64)).toNat = digitC (u.toNat / 64) := (dig_tab (by omega) (by omega)).trans (congrArg digitC (by omega))
  have q1 : UInt8.ofNat (byteAt digTab (u / 8 % 8)).toNat = digitC (u.toNat / 8 % 8) := (dig_tab (by omega) (by omega)).trans (congrArg digitC (by omega))
  have q2 : UInt8.ofNat (byteAt digTab (u % 8)).toNat = digitC (u.toNat % 8) := (dig_tab (by omega) (by omega)).trans (congrArg digitC (by omega))
  rw [q0, q1, q2, f]
  rfl
 ·obtain ⟨b1, b2⟩ := hb
  rw [show inRange (u / 512) 36 = true by rw [inRange_iff]; omega, iteP_t]
  have f : fmtN 8 u.toNat = [digitC (u.toNat / 512), digitC (u.toNat / 64 % 8), digitC (u.toNat / 8 % 8), digitC (u.toNat % 8)] := by
   unfold fmtN
   rw [dstep (by omega), dstep (by omega), dstep (by omega), dlast (by omega)]
   simp only [Nat.div_div_eq_div_mul]
  have q0 : UInt8.ofNat (byteAt digTab (u / 512)).toNat = digitC (u.toNat / 512) := (dig_tab (by omega) (by omega)).trans (congrArg digitC (by omega))
  have q1 : UInt8.ofNat (byteAt digTab (u / 64 % 8)).toNat = digitC (u.toNat / 64 % 8) := (dig_tab (by omega) (by omega)).trans (congrArg digitC (by omega))
  have q2 : UInt8.ofNat (byteAt digTab (u / 8 % 8)).toNat = digitC (u.toNat / 8 % 8) := (dig_tab (by omega) (by omega)).trans (congrArg digitC (by omega))
  have q3 : UInt8.ofNat (byteAt digTab (u % 8)).toNat = digitC (u.toNat % 8) := (dig_tab (by omega) (by omega)).trans (congrArg digitC (by omega))
  rw [q0, q1, q2, q3, f]
  rfl
 ·obtain ⟨b1, b2⟩ := hb
  rw [show inRange (u / 4096) 36 = true by rw [inRange_iff]; omega, iteP_t]
  have f : fmtN 8 u.toNat = [digitC (u.toNat / 4096), digitC (u.toNat / 512 % 8), digitC (u.toNat / 64 % 8), digitC (u.toNat / 8 % 8), digitC (u.toNat % 8)] := by
   unfold fmtN
   rw [dstep (by omega), dstep (by omega), dstep (by omega), dstep (by omega), dlast (by omega)]
   simp only [Nat.div_div_eq_div_mul]
  have q0 : UInt8.ofNat (byteAt digTab (u / 4096)).toNat = digitC (u.toNat / 4096) := (dig_tab (by omega) (by omega)).trans (congrArg digitC (by omega))
  have q1 : UInt8.ofNat (byteAt digTab (u / 512 % 8)).toNat = digitC (u.toNat / 512 % 8) := (dig_tab (by omega) (by omega)).trans (congrArg digitC (by omega))
  have q2 : UInt8.ofNat (byteAt digTab (u / 64 % 8)).toNat = digitC (u.toNat / 64 % 8) := (dig_tab (by omega) (by omega)).trans (congrArg digitC (by omega))
  have q3 : UInt8.ofNat (byteAt digTab (u / 8 % 8)).toNat = digitC (u.toNat / 8 % 8) := (dig_tab (by omega) (by omega)).trans (congrArg digitC (by omega))
  have q4 : UInt8.ofNat (byteAt digTab (u % 8)).toNat = digitC (u.toNat % 8) := (dig_tab (by omega) (by omega)).trans (congrArg digitC (by omega))
  rw [q0, q1, q2, q3, q4, f]
  rfl
 ·obtain ⟨b1, b2⟩ := hb
  rw [show inRange (u / 32768) 36 = true by rw [inRange_iff]; omega, iteP_t]
  have f : fmtN 8 u.toNat = [digitC (u.toNat / 32768), digitC (u.toNat / 4096 % 8), digitC (u.toNat / 512 % 8), digitC (u.toNat / 64 % 8), digitC (u.toNat / 8 % 8), digitC (u.toNat % 8)] := by
   unfold fmtN
   rw [dstep (by omega), dstep (by omega), dstep (by omega), dstep (by omega), dstep (by omega), dlast (by omega)]
   simp only [Nat.div_div_eq_div_mul]
  have q0 : UInt8.ofNat (byteAt digTab (u / 32768)).toNat = digitC (u.toNat / 32768) := (dig_tab (by omega) (by omega)).trans (congrArg digitC (by omega))
  have q1 : UInt8.ofNat (byteAt digTab (u / 4096 % 8)).toNat = digitC (u.toNat / 4096 % 8) := (dig_tab (by omega) (by omega)).trans (congrArg digitC (by omega))
  have q2 : UInt8.ofNat (byteAt digTab (u / 512 % 8)).toNat = digitC (u.toNat / 512 % 8) := (dig_tab (by omega) (by omega)).trans (congrArg digitC (by omega))
  have q3 : UInt8.ofNat (byteAt digTab (u / 64 % 8)).toNat = digitC (u.toNat / 64 % 8) := (dig_tab (by omega) (by omega)).trans (congrArg digitC (by omega))
  have q4 : UInt8.ofNat (byteAt digTab (u / 8 % 8)).toNat = digitC (u.toNat / 8 % 8) := (dig_tab (by omega) (by omega)).trans (congrArg digitC (by omega))
  have q5 : UInt8.ofNat (byteAt digTab (u % 8)).toNat = digitC (u.toNat % 8) := (dig_tab (by omega) (by omega)).trans (congrArg digitC (by omega))
  rw [q0, q1, q2, q3, q4, q5, f]
  rfl
 ·obtain ⟨b1, b2⟩ := hb
  rw [show inRange (u / 262144) 36 = true by rw [inRange_iff]; omega, iteP_t]
  have f : fmtN 8 u.toNat = [digitC (u.toNat / 262144), digitC (u.toNat / 32768 % 8), digitC (u.toNat / 4096 % 8), digitC (u.toNat / 512 % 8), digitC (u.toNat / 64 % 8), digitC (u.toNat / 8 % 8), digitC (u.toNat % 8)] := by
   unfold fmtN
   rw [dstep (by omega), dstep (by omega), dstep (by omega), dstep (by omega), dstep (by omega), dstep (by omega), dlast (by omega)]
   simp only [Nat.div_div_eq_div_mul]
  have q0 : UInt8.ofNat (byteAt digTab (u / 262144)).toNat = digitC (u.toNat / 262144) := (dig_tab (by omega) (by omega)).trans (congrArg digitC (by omega))
  have q1 : UInt8.ofNat (byteAt digTab (u / 32768 % 8)).toNat = digitC (u.toNat / 32768 % 8) := (dig_tab (by omega) (by omega)).trans (congrArg digitC (by omega))
  have q2 : UInt8.ofNat (byteAt digTab (u / 4096 % 8)).toNat = digitC (u.toNat / 4096 % 8) := (dig_tab (by omega) (by omega)).trans (congrArg digitC (by omega))
  have q3 : UInt8.ofNat (byteAt digTab (u / 512 % 8)).toNat = digitC (u.toNat / 512 % 8) := (dig_tab (by omega) (by omega)).trans (congrArg digitC (by omega))
  have q4 : UInt8.ofNat (byteAt digTab (u / 64 % 8)).toNat = digitC (u.toNat / 64 % 8) := (dig_tab (by omega) (by omega)).trans (congrArg digitC (by omega))
  have q5 : UInt8.ofNat (byteAt digTab (u / 8 % 8)).toNat = digitC (u.toNat / 8 % 8) := (dig_tab (by omega) (by omega)).trans (congrArg digitC (by omega))
  have q6 : UInt8.ofNat (byteAt digTab (u % 8)).toNat = digitC (u.toNat % 8) := (dig_tab (by omega) (by omega)).trans (congrArg digitC (by omega))
  rw [q0, q1, q2, q3, q4, q5, q6, f]
  rfl
 ·obtain ⟨b1, b2⟩ := hb
  rw [show inRange (u / 2097152) 36 = true by rw [inRange_iff]; omega, iteP_t]
  have f : fmtN 8 u.toNat = [digitC (u.toNat / 2097152), digitC (u.toNat / 262144 % 8), digitC (u.toNat / 32768 % 8), digitC (u.toNat / 4096 % 8), digitC (u.toNat / 512 % 8), digitC (u.toNat / 64 % 8), digitC (u.toNat / 8 % 8), digitC (u.toNat % 8)] := by
   unfold fmtN
   rw [dstep (by omega), dstep (by omega), dstep (by omega), dstep (by omega), dstep (by omega), dstep (by omega), dstep (by omega), dlast (by omega)]
   simp only [Nat.div_div_eq_div_mul]
  have q0 : UInt8.ofNat (byteAt digTab (u / 2097152)).toNat = digitC (u.toNat / 2097152) := (dig_tab (by omega) (by omega)).trans (congrArg digitC (by omega))
  have q1 : UInt8.ofNat (byteAt digTab (u / 262144 % 8)).toNat = digitC (u.toNat / 262144 % 8) := (dig_tab (by omega) (by omega)).trans (congrArg digitC (by omega))
  have q2 : UInt8.ofNat (byteAt digTab (u / 32768 % 8)).toNat = digitC (u.toNat / 32768 % 8) := (dig_tab (by omega) (by omega)).trans (congrArg digitC (by omega))
  have q3 : UInt8.ofNat (byteAt digTab (u / 4096 % 8)).toNat = digitC (u.toNat / 4096 % 8) := (dig_tab (by omega) (by omega)).trans (congrArg digitC (by omega))
  have q4 : UInt8.ofNat (byteAt digTab (u / 512 % 8)).toNat = digitC (u.toNat / 512 % 8) := (dig_tab (by omega) (by omega)).trans (congrArg digitC (by omega))
  have q5 : UInt8.ofNat (byteAt digTab (u / 64 % 8)).toNat = digitC (u.toNat / 64 % 8) := (dig_tab (by omega) (by omega)).trans (congrArg digitC (by omega))
  have q6 : UInt8.ofNat (byteAt digTab (u / 8 % 8)).toNat = digitC (u.toNat / 8 % 8) := (dig_tab (by omega) (by omega)).trans (congrArg digitC (by omega))
  have q7 : UInt8.ofNat (byteAt digTab (u % 8)).toNat = digitC (u.toNat % 8) := (dig_tab (by omega) (by omega)).trans (congrArg digitC (by omega))
  rw [q0, q1, q2, q3, q4, q5, q6, q7, f]
  rfl
 ·obtain ⟨b1, b2⟩ := hb
  rw [show inRange (u / 16777216) 36 = true by rw [inRange_iff]; omega, iteP_t]
  have f : fmtN 8 u.toNat = [digitC (u.toNat / 16777216), digitC (u.toNat / 2097152 % 8), digitC (u.toNat / 262144 % 8), digitC (u.toNat / 32768 % 8), digitC (u.toNat / 4096 % 8), digitC (u.toNat / 512 % 8), digitC (u.toNat / 64 % 8), digitC (u.toNat / 8 % 8), digitC (u.toNat % 8)] := by
   unfold fmtN
   rw [dstep (by omega), dstep (by omega), dstep (by omega), dstep (by omega), dstep (by omega), dstep (by omega), dstep (by omega), dstep (by omega), dlast (by omega)]
   simp only [Nat.div_div_eq_div_mul]
  have q0 : UInt8.ofNat (byteAt digTab (u / 16777216)).toNat = digitC (u.toNat / 16777216) := (dig_tab (by omega) (by omega)).trans (congrArg digitC (by omega))
  have q1 : UInt8.ofNat (byteAt digTab (u / 2097152 % 8)).toNat = digitC (u.toNat / 2097152 % 8) := (dig_tab (by omega) (by omega)).trans (congrArg digitC (by omega))
  have q2 : UInt8.ofNat (byteAt digTab (u / 262144 % 8)).toNat = digitC (u.toNat / 262144 % 8) := (dig_tab (by omega) (by omega)).trans (congrArg digitC (by omega))
  have q3 : UInt8.ofNat (byteAt digTab (u / 32768 % 8)).toNat = digitC (u.toNat / 32768 % 8) := (dig_tab (by omega) (by omega)).trans (congrArg digitC (by omega))
  have q4 : UInt8.ofNat (byteAt digTab (u / 4096 % 8)).toNat = digitC (u.toNat / 4096 % 8) := (dig_tab (by omega) (by omega)).trans (congrArg digitC (by omega))
  have q5 : UInt8.ofNat (byteAt digTab (u / 512 % 8)).toNat = digitC (u.toNat / 512 % 8) := (dig_tab (by omega) (by omega)).trans (congrArg digitC (by omega))
  have q6 : UInt8.ofNat (byteAt digTab (u / 64 % 8)).toNat = digitC (u.toNat / 64 % 8) := (dig_tab (by omega) (by omega)).trans (congrArg digitC (by omega))
  have q7 : UInt8.ofNat (byteAt digTab (u / 8 % 8)).toNat = digitC (u.toNat / 8 % 8) := (dig_tab (by omega) (by omega)).trans (congrArg digitC (by omega))
  have q8 : UInt8.ofNat (byteAt digTab (u % 8)).toNat = digitC (u.toNat % 8) := (dig_tab (by omega) (by omega)).trans (congrArg digitC (by omega))
  rw [q0, q1, q2, q3, q4, q5, q6, q7, q8, f]
  rfl
 ·obtain ⟨b1, b2⟩ := hb
  rw [show inRange (u / 134217728) 36 = true by rw [inRange_iff]; omega, iteP_t]
  have f : fmtN 8 u.toNat = [digitC (u.toNat / 134217728), digitC (u.toNat / 16777216 % 8), digitC (u.toNat / 2097152 % 8), digitC (u.toNat / 262144 % 8), digitC (u.toNat / 32768 % 8), digitC (u.toNat / 4096 % 8), digitC (u.toNat / 512 % 8), digitC (u.toNat / 64 % 8), digitC (u.toNat / 8 % 8), digitC (u.toNat % 8)] := by
   unfold fmtN
   rw [dstep (by omega), dstep (by omega), dstep (by omega), dstep (by omega), dstep (by omega), dstep (by omega), dstep (by omega), dstep (by omega), dstep (by omega), dlast (by omega)]
   simp only [Nat.div_div_eq_div_mul]
  have q0 : UInt8.ofNat (byteAt digTab (u / 134217728)).toNat = digitC (u.toNat / 134217728) := (dig_tab (by omega) (by omega)).trans (congrArg digitC (by omega))
  have q1 : UInt8.ofNat (byteAt digTab (u / 16777216 % 8)).toNat = digitC (u.toNat / 16777216 % 8) := (dig_tab (by omega) (by omega)).trans (congrArg digitC (by omega))
  have q2 : UInt8.ofNat (byteAt digTab (u / 2097152 % 8)).toNat = digitC (u.toNat / 2097152 % 8) := (dig_tab (by omega) (by omega)).trans (congrArg digitC (by omega))
  have q3 : UInt8.ofNat (byteAt digTab (u / 262144 % 8)).toNat = digitC (u.toNat / 262144 % 8) := (dig_tab (by omega) (by omega)).trans (congrArg digitC (by omega))
  have q4 : UInt8.ofNat (byteAt digTab (u / 32768 % 8)).toNat = digitC (u.toNat / 32768 % 8) := (dig_tab (by omega) (by omega)).trans (congrArg digitC (by omega))
  have q5 : UInt8.ofNat (byteAt digTab (u / 4096 % 8)).toNat = digitC (u.toNat / 4096 % 8) := (dig_tab (by omega) (by omega)).trans (congrArg digitC (by omega))
  have q6 : UInt8.ofNat (byteAt digTab (u / 512 % 8)).toNat = digitC (u.toNat / 512 % 8) := (dig_tab (by omega) (by omega)).trans (congrArg digitC (by omega))
  have q7 : UInt8.ofNat (byteAt digTab (u / 64 % 8)).toNat = digitC (u.toNat / 64 % 8) := (dig_tab (by omega) (by omega)).trans (congrArg digitC (by omega))
  have q8 : UInt8.ofNat (byteAt digTab (u / 8 % 8)).toNat = digitC (u.toNat / 8 % 8) := (dig_tab (by omega) (by omega)).trans (congrArg digitC (by omega))
  have q9 : UInt8.ofNat (byteAt digTab (u % 8)).toNat = digitC (u.toNat % 8) := (dig_tab (by omega) (by omega)).trans (congrArg digitC (by omega))
  rw [q0, q1, q2, q3, q4, q5, q6, q7, q8, q9, f]
  rfl
 ·obtain ⟨b1, b2⟩ := hb
  rw [show inRange (u / 1073741824) 36 = true by rw [inRange_iff]; omega, iteP_t]
  have f : fmtN 8 u.toNat = [digitC (u.toNat / 1073741824), digitC (u.toNat / 134217728 % 8), digitC (u.toNat / 16777216 % 8), digitC (u.toNat / 2097152 % 8), digitC (u.toNat / 262144 % 8), digitC (u.toNat / 32768 % 8), digitC (u.toNat / 4096 % 8), digitC (u.toNat / 512 % 8), digitC (u.toNat / 64 % 8), digitC (u.toNat / 8 % 8), digitC (u.toNat % 8)] := by
   unfold fmtN
   rw [dstep (by omega), dstep (by omega), dstep (by omega), dstep (by omega), dstep (by omega), dstep (by omega), dstep (by omega), dstep (by omega), dstep (by omega), dstep (by omega), dlast (by omega)]
   simp only [Nat.div_div_eq_div_mul]
  have q0 : UInt8.ofNat (byteAt digTab (u / 1073741824)).toNat = digitC (u.toNat / 1073741824) := (dig_tab (by omega) (by omega)).trans (congrArg digitC (by omega))
  have q1 : UInt8.ofNat (byteAt digTab (u / 134217728 % 8)).toNat = digitC (u.toNat / 134217728 % 8) := (dig_tab (by omega) (by omega)).trans (congrArg digitC (by omega))
  have q2 : UInt8.ofNat (byteAt digTab (u / 16777216 % 8)).toNat = digitC (u.toNat / 16777216 % 8) := (dig_tab (by omega) (by omega)).trans (congrArg digitC (by omega))
  have q3 : UInt8.ofNat (byteAt digTab (u / 2097152 % 8)).toNat = digitC (u.toNat / 2097152 % 8) := (dig_tab (by omega) (by omega)).trans (congrArg digitC (by omega))
  have q4 : UInt8.ofNat (byteAt digTab (u / 262144 % 8)).toNat = digitC (u.toNat / 262144 % 8) := (dig_tab (by omega) (by omega)).trans (congrArg digitC (by omega))
  have q5 : UInt8.ofNat (byteAt digTab (u / 32768 % 8)).toNat = digitC (u.toNat / 32768 % 8) := (dig_tab (by omega) (by omega)).trans (congrArg digitC (by omega))
  have q6 : UInt8.ofNat (byteAt digTab (u / 4096 % 8)).toNat = digitC (u.toNat / 4096 % 8) := (dig_tab (by omega) (by omega)).trans (congrArg digitC (by omega))
  have q7 : UInt8.ofNat (byteAt digTab (u / 512 % 8)).toNat = digitC (u.toNat / 512 % 8) := (dig_tab (by omega) (by omega)).trans (congrArg digitC (by omega))
  have q8 : UInt8.ofNat (byteAt digTab (u / 64 % 8)).toNat = digitC (u.toNat / 64 % 8) := (dig_tab (by omega) (by omega)).trans (congrArg digitC (by omega))
  have q9 : UInt8.ofNat (byteAt digTab (u / 8 % 8)).toNat = digitC (u.toNat / 8 % 8) := (dig_tab (by omega) (by omega)).trans (congrArg digitC (by omega))
  have q10 : UInt8.ofNat (byteAt digTab (u % 8)).toNat = digitC (u.toNat % 8) := (dig_tab (by omega) (by omega)).trans (congrArg digitC (by omega))
  rw [q0, q1, q2, q3, q4, q5, q6, q7, q8, q9, q10, f]
  rfl
end
end Go.Proofs.Pr
namespace Go.Proofs.Pr
open Go Go.Ef
noncomputable section
def C85 (args : List AV) (h : Heap) : Option CSpec :=
 match args with
 | [.sc (.slice none 0 0), .sc (.int .u64 u), .sc (.int .i64 16), .sc (.bool false), .sc (.bool false)] => some (nspec (0 ≤ u ∧ u < 4294967296) (fmtN 16 u.toNat) (fun x => .tup [.sc (.slice none 0 0), aStr x]) h)
 | [.sc (.slice none 0 0), .sc (.int .u64 u), .sc (.int .i64 8), .sc (.bool false), .sc (.bool false)] => some (nspec (0 ≤ u ∧ u < 4294967296) (fmtN 8 u.toNat) (fun x => .tup [.sc (.slice none 0 0), aStr x]) h)
 | _ => some { pre := False, alts := [] }
def H2 : Tab := tab0.addC 85 C85
end
end Go.Proofs.Pr
namespace Go.Proofs.Pr
open Go Go.Ef
noncomputable section
set_option maxRecDepth 100000
theorem b67_16 (n : Int) (K : AV → Prop) (h :
 iteP (decide (n < 0)) (False ∧ True) ((0 ≤ IntKind.u64.wrap n ∧ IntKind.u64.wrap n < 4294967296) ∧ ∀ (x : List UInt8), x = fmtN 16 (IntKind.u64.wrap n).toNat → K (AV.sc (Value.string (ByteArray.mk (Array.mk x)))))) :
 (fun (n : Int) (K : AV → Prop) => wpCall H2 Door.cfg Tryd.prog 60 67 [aK .i64 n, aK .i64 16] heapF fun r h' => wpBack h' r K) n K :=
 Eq.mp (by kernel_rfl) h
theorem b67_8 (n : Int) (K : AV → Prop) (h :
 iteP (decide (n < 0)) (False ∧ True) ((0 ≤ IntKind.u64.wrap n ∧ IntKind.u64.wrap n < 4294967296) ∧ ∀ (x : List UInt8), x = fmtN 8 (IntKind.u64.wrap n).toNat → K (AV.sc (Value.string (ByteArray.mk (Array.mk x)))))) :
 (fun (n : Int) (K : AV → Prop) => wpCall H2 Door.cfg Tryd.prog 60 67 [aK .i64 n, aK .i64 8] heapF fun r h' => wpBack h' r K) n K :=
 Eq.mp (by kernel_rfl) h
end
end Go.Proofs.Pr
namespace Go.Proofs.Pr
open Go Go.Ef
noncomputable section
set_option maxRecDepth 100000
theorem ok85 {T : Tab} (O : TabOk Tryd.prog Door.cfg T) : TabOk Tryd.prog Door.cfg (T.addC 85 C85) := by
 refine addC_ok O fun args h s hs hp => ?_
 unfold C85 at hs
 split at hs
 ·exact nspec_ok (Option.some.inj hs) (fun hpre => bits16 _ hpre.1 hpre.2 h) hp
 ·exact nspec_ok (Option.some.inj hs) (fun hpre => bits8 _ hpre.1 hpre.2 h) hp
 ·cases Option.some.inj hs
  exact hp.elim
theorem okH2 : TabOk Tryd.prog Door.cfg H2 := ok85 tab0_ok
theorem fmt_16 (n : Int) (h1 : 0 ≤ n) (h2 : n ≤ 4294967295) (h : Heap) : EvP Door.cfg Tryd.prog 67 [aK .i64 n, aK .i64 16] h fun v h' => v = aStr (fmtN 16 n.toNat) ∧ h' = h := by
 refine EvP.freshV okH2 (n := 60) (by kernel_rfl) (by kernel_rfl) (args' := [aK .i64 n, aK .i64 16]) rfl (b67_16 n _ ?_)
 rw [decide_eq_false (show ¬ n < 0 by omega), iteP_f, w64_in h1 (by omega)]
 exact ⟨⟨h1, by omega⟩, fun x hx => by rw [hx]; rfl⟩
theorem fmt_8 (n : Int) (h1 : 0 ≤ n) (h2 : n ≤ 4294967295) (h : Heap) : EvP Door.cfg Tryd.prog 67 [aK .i64 n, aK .i64 8] h fun v h' => v = aStr (fmtN 8 n.toNat) ∧ h' = h := by
 refine EvP.freshV okH2 (n := 60) (by kernel_rfl) (by kernel_rfl) (args' := [aK .i64 n, aK .i64 8]) rfl (b67_8 n _ ?_)
 rw [decide_eq_false (show ¬ n < 0 by omega), iteP_f, w64_in h1 (by omega)]
 exact ⟨⟨h1, by omega⟩, fun x hx => by rw [hx]; rfl⟩
theorem ok67 {T : Tab} (O : TabOk Tryd.prog Door.cfg T) : TabOk Tryd.prog Door.cfg (T.addC 67 C55) := by
 refine addC_ok O fun args h s hs hp => ?_
 unfold C55 at hs
 split at hs
 ·rename_i n b
  refine nspec_ok (Option.some.inj hs) (fun hpre => ?_) hp
  obtain ⟨h1, h2, rfl | rfl | rfl⟩ := hpre
  ·exact fmt_8 n h1 h2 h
  ·exact dec_all n h1 h2 h
  ·exact fmt_16 n h1 h2 h
 ·cases hs
end
end Go.Proofs.Pr
namespace Go.Proofs.Pr
open Go Go.Ef
noncomputable section
set_option maxRecDepth 100000
theorem ok56 {T : Tab} (O : TabOk Tryd.prog Door.cfg T) : TabOk Tryd.prog Door.cfg (T.addC 56 C56) := by
 refine addC_ok O fun args h s hs hp => ?_
 unfold C56 at hs
 split at hs
 ·rename_i a b c e w p kd q
  refine nspec_ok (Option.some.inj hs) (fun _ => ?_) hp
  refine EvP.freshV tab0_ok (n := 60) (by kernel_rfl) (by kernel_rfl) (args' := [.agg (Dir.cells ⟨a, b, c, e, w, p, kd⟩), aBool q]) rfl (c56 ⟨a, b, c, e, w, p, kd⟩ q _ ?_)
  cases q <;> cases c <;> cases e <;> rfl
 ·cases hs
theorem ok45 {T : Tab} (O : TabOk Tryd.prog Door.cfg T) : TabOk Tryd.prog Door.cfg (T.addC 45 C45) := by
 refine addC_ok O fun args h s hs hp => ?_
 unfold C45 at hs
 split at hs
 ·rename_i n
  refine nspec_ok (Option.some.inj hs) (fun hpre => ?_) hp
  refine EvP.freshV (ok42 tab0_ok) (n := 60) (by kernel_rfl) (by kernel_rfl) (args' := [aK .i64 n]) rfl (c45 n _ ⟨⟨by omega, by omega, by decide⟩, fun x hx => ?_⟩)
  rw [rep_one] at hx
  show _ = aStr (zerosF n)
  rw [hx]
  unfold zerosF
  rw [show (max n 0).toNat = n.toNat by omega]; rfl
 ·cases hs
theorem ok55 {T : Tab} (O : TabOk Tryd.prog Door.cfg T) : TabOk Tryd.prog Door.cfg (T.addC 55 C55) := by
 refine addC_ok O fun args h s hs hp => ?_
 unfold C55 at hs
 split at hs
 ·rename_i n b
  refine nspec_ok (Option.some.inj hs) (fun hpre => ?_) hp
  exact EvP.freshV (ok67 tab0_ok) (n := 60) (by kernel_rfl) (by kernel_rfl) (args' := [aK .i64 n, aK .i64 b]) rfl (c55 n b _ ⟨hpre, fun x hx => by rw [hx]; rfl⟩)
 ·cases hs
def upOk (k : Nat) : Bool := Lib.upperB (UInt8.ofNat k) == upC (UInt8.ofNat k)
theorem up_all : (List.range 256).all upOk = true := by decide +kernel
theorem up_eq (c : UInt8) : Lib.upperB c = upC c := by
 have := List.all_eq_true.1 up_all c.toNat (by simpa using c.toNat_lt)
 unfold upOk at this
 have := eq_of_beq this
 simpa using this
theorem ok57 {T : Tab} (O : TabOk Tryd.prog Door.cfg T) : TabOk Tryd.prog Door.cfg (T.addC 57 C57) := by
 refine addC_ok O fun args h s hs hp => ?_
 unfold C57 at hs
 split at hs
 ·rename_i s0
  obtain ⟨⟨l⟩⟩ := s0
  refine nspec_ok (Option.some.inj hs) (fun hpre => ?_) hp
  obtain ⟨h1, h2⟩ := hpre
  replace h1 : l.length ≤ 1000 := h1
  replace h2 : l.all (fun b => decide (b.toNat < 128)) = true := h2
  refine EvP.prim (p := Door.upperP) rfl (v := aStr (Lib.toUpperA l)) (h' := h) ?_ ⟨?_, rfl⟩
  ·show (bif Nat.ble (ByteArray.size ⟨⟨l⟩⟩) maxRoom && l.all (fun b => decide (b.toNat < 128)) then _ else none) = _
   rw [h2, show Nat.ble (ByteArray.size ⟨⟨l⟩⟩) maxRoom = true from Nat.ble_eq_true_of_le (by show l.length ≤ _; unfold maxRoom; omega)]
   rfl
  ·show aStr (Lib.toUpperA l) = aStr (l.map upC)
   congr 1
   unfold Lib.toUpperA
   exact List.map_congr_left fun c _ => up_eq c
 ·cases hs
theorem okF1 : TabOk Tryd.prog Door.cfg F1 := ok56 (ok57 (ok54 (ok55 (ok45 (ok61 (ok42 tab0_ok))))))
theorem okF2 : TabOk Tryd.prog Door.cfg F2 := name_ok (name_ok (name_ok okF1 _ _) _ _) _ _
theorem unit_le (p : Int) : 1 ≤ unitF p ∧ unitF p ≤ 10000 ∧ 0 ≤ unitF p / 2 ∧ unitF p / 2 ≤ 5000 := by
 unfold unitF
 split
 ·omega
 ·split
  ·omega
  ·split
   ·omega
   ·split <;> omega
theorem round_le (x p : Int) : -10000000005000 ≤ roundF x p ∧ roundF x p ≤ 10000000005000 := by
 have hn := near_le x
 obtain ⟨u1, u2, u3, u4⟩ := unit_le p
 unfold roundF
 split
 ·obtain ⟨_, q2, q3⟩ := round_pos (-(nearF x)) (unitF p) (unitF p / 2) (by omega) (by omega) u1 u2 u3 u4
  omega
 ·obtain ⟨_, q2, q3⟩ := round_pos (nearF x) (unitF p) (unitF p / 2) (by omega) (by omega) u1 u2 u3 u4
  omega
theorem sign_end {d : Dir} {x r : Int} {K : List UInt8 → Prop} (hk : K (signF d (decide (x < 0) && decide (r ≠ 0)))) :
  iteP (decide (x < 0)) (iteP (r != 0) (True ∧ ∀ s : List UInt8, s = signF d true → K s) (True ∧ ∀ s : List UInt8, s = signF d false → K s)) (True ∧ ∀ s : List UInt8, s = signF d false → K s) := by
 by_cases h1 : x < 0
 ·rw [decide_eq_true h1] at hk ⊢
  by_cases h2 : r = 0
  ·rw [decide_eq_false (show ¬ r ≠ 0 by simpa using h2)] at hk
   rw [iteP_t, show (r != 0) = false by simpa using h2, iteP_f]
   exact ⟨trivial, fun s hs => by rw [hs]; exact hk⟩
  ·rw [decide_eq_true h2] at hk
   rw [iteP_t, show (r != 0) = true by simpa using h2, iteP_t]
   exact ⟨trivial, fun s hs => by rw [hs]; exact hk⟩
 ·rw [decide_eq_false h1] at hk ⊢
  rw [iteP_f]
  exact ⟨trivial, fun s hs => by rw [hs]; exact hk⟩
theorem zeros_len (n : Int) : (zerosF n).length = n.toNat := by unfold zerosF; rw [List.length_replicate]
theorem decimals_eq (d : Dir) (x r : Int) (hr : r = roundF x (min (placesF d) 4)) : decimalsF d x = (signF d (decide (x < 0) && decide (r ≠ 0)), fmtN 10 (r.natAbs / 10000) ++ (if placesF d > 0 then [46] ++ (zerosF (4 - (fmtN 10 (r.natAbs % 10000)).length) ++ fmtN 10 (r.natAbs % 10000) ++ zerosF (placesF d - 4)).take (placesF d).toNat else [])) := by
 subst hr
 rfl
def C40 (args : List AV) (h : Heap) : Option CSpec :=
 match args with
 | [.agg [.sc (.bool a), .sc (.bool b), .sc (.bool c), .sc (.bool e), .sc (.int .i64 w), .sc (.int .i64 p), .sc (.int .u8 kd)], .sc (.int .i64 x)] => some (nspec (-1 ≤ p ∧ p ≤ 255) (decimalsF ⟨a, b, c, e, w, p, kd⟩ x) (fun y => .tup [aStr y.1, aStr y.2]) h)
 | _ => none
theorem ok40 {T : Tab} (O : TabOk Tryd.prog Door.cfg T) : TabOk Tryd.prog Door.cfg (T.addC 40 C40) := by
 refine addC_ok O fun args h s hs hp => ?_
 unfold C40 at hs
 split at hs
 ·rename_i a b c e w p kd x
  refine nspec_ok (Option.some.inj hs) (fun hpre => ?_) hp
  obtain ⟨hp1, hp2⟩ := hpre
  refine EvP.freshV okF2 (n := 60) (by kernel_rfl) (by kernel_rfl) (args' := [.agg (Dir.cells ⟨a, b, c, e, w, p, kd⟩), aK .i64 x]) rfl (c40 ⟨a, b, c, e, w, p, kd⟩ x _ ?_)
  generalize hd : (⟨a, b, c, e, w, p, kd⟩ : Dir) = d
  have hdp : d.prec = p := by rw [← hd]
  have join3 : ∀ u v t : List UInt8, [u, v, t].flatten = u ++ v ++ t := fun u v t => by simp
  show iteP (d.prec == -1) _ _
  -- the part behind the point
  have tail : ∀ (r m : Int) (x2 : List UInt8) (pl : Int), m = (r.natAbs : Int) → r.natAbs ≤ 10000000005000 → x2.length ≤ 70 → 1 ≤ pl → pl ≤ 255 → ∀ (Q : List UInt8 → Prop), Q (x2 ++ ([46] ++ (zerosF (4 - (fmtN 10 (r.natAbs % 10000)).length) ++ fmtN 10 (r.natAbs % 10000) ++ zerosF (pl - 4)).take pl.toNat)) →
    ((0 : Int) ≤ m.tmod 10000 ∧ m.tmod 10000 ≤ 4294967295 ∧ ((10 : Int) = 8 ∨ (10 : Int) = 10 ∨ (10 : Int) = 16)) ∧ ∀ x3 : List UInt8, x3 = fmtN 10 (m.tmod 10000).toNat → IntKind.i64.wrap (4 - (x3.length : Int)) ≤ 1000 ∧ ∀ x4 : List UInt8, x4 = zerosF (IntKind.i64.wrap (4 - (x3.length : Int))) →
     IntKind.i64.wrap (pl - 4) ≤ 1000 ∧ ∀ x5 : List UInt8, x5 = zerosF (IntKind.i64.wrap (pl - 4)) → (true = true ∧ [x4, x3, x5].length ≤ 1000 ∧ [x4, x3, x5].flatten.length ≤ 10000000) ∧ ∀ x6 : List UInt8, x6 = [x4, x3, x5].flatten →
      iteP (decide (0 ≤ pl) && decide (pl ≤ (x6.length : Int))) ((true = true ∧ [x2, [46], List.take pl.toNat x6].length ≤ 1000 ∧ [x2, [46], List.take pl.toNat x6].flatten.length ≤ 10000000) ∧ ∀ x7 : List UInt8, x7 = [x2, [46], List.take pl.toNat x6].flatten → Q x7) False := by
   intro r m x2 pl hm hr hx2 h1 h2 Q hq
   have t2 : m.tmod 10000 = m % 10000 := tm (by omega)
   rw [t2]
   refine ⟨⟨by omega, by omega, .inr (.inl rfl)⟩, fun x3 h3 => ?_⟩
   have e3 : x3 = fmtN 10 (r.natAbs % 10000) := by rw [h3]; congr 1; omega
   have l3 : x3.length ≤ 70 := by rw [e3]; exact fmt_len _ _
   rw [wrap_in (x := 4 - (x3.length : Int)) (by omega) (by omega), wrap_in (x := pl - 4) (by omega) (by omega)]
   refine ⟨by omega, fun x4 h4 => ⟨by omega, fun x5 h5 => ?_⟩⟩
   have l4 := zeros_len (4 - (x3.length : Int))
   have l5 := zeros_len (pl - 4)
   rw [← h4] at l4
   rw [← h5] at l5
   refine ⟨⟨rfl, by show 3 ≤ 1000; decide, by rw [join3, List.length_append, List.length_append]; omega⟩, fun x6 h6 => ?_⟩
   rw [join3] at h6
   have l6 : x6.length = x4.length + x3.length + x5.length := by rw [h6, List.length_append, List.length_append]
   rw [show (decide (0 ≤ pl) && decide (pl ≤ (x6.length : Int))) = true by simp; omega, iteP_t]
   have l7 : (List.take pl.toNat x6).length ≤ 1000 := by rw [List.length_take]; omega
   refine ⟨⟨rfl, by show 3 ≤ 1000; decide, by rw [join3, List.length_append, List.length_append]; simp only [List.length_cons, List.length_nil]; omega⟩, fun x7 h7 => ?_⟩
   rw [join3] at h7
   rw [h7, h6, h4, h5, e3, List.append_assoc]
   exact hq
  have absr : ∀ r : Int, -10000000005000 ≤ r → r ≤ 10000000005000 → max r (IntKind.i64.wrap (0 - r)) = (r.natAbs : Int) ∧ r.natAbs ≤ 10000000005000 := by
   intro r h1 h2
   rw [wrap_in (by omega) (by omega)]
   omega
  have whole : ∀ (r : Int), r.natAbs ≤ 10000000005000 → ((0 : Int) ≤ IntKind.i64.wrap ((r.natAbs : Int).tdiv 10000) ∧ IntKind.i64.wrap ((r.natAbs : Int).tdiv 10000) ≤ 4294967295 ∧ ((10 : Int) = 8 ∨ (10 : Int) = 10 ∨ (10 : Int) = 16)) ∧ (IntKind.i64.wrap ((r.natAbs : Int).tdiv 10000)).toNat = r.natAbs / 10000 := by
   intro r h1
   rw [td (by omega), wrap_in (by omega) (by omega)]
   exact ⟨⟨by omega, by omega, .inr (.inl rfl)⟩, by omega⟩
  have K' : ∀ (r : Int) (pl : Int) (y : List UInt8), decimalsF d x = (signF d (decide (x < 0) && decide (r ≠ 0)), y) → (fun z : List UInt8 => AV.tup [AV.sc (.string ⟨⟨z⟩⟩), AV.sc (.string ⟨⟨y⟩⟩)] = AV.tup [aStr (decimalsF d x).1, aStr (decimalsF d x).2]) (signF d (decide (x < 0) && decide (r ≠ 0))) := by
   intro r pl y hy
   show _ = _
   rw [hy]; rfl
  by_cases hm : p = -1
  ·rw [show (d.prec == -1) = true by rw [hdp]; simpa using hm, iteP_t]
   refine ⟨trivial, fun r hr m hmm => ?_⟩
   have hb := round_le x 4
   rw [← hr] at hb
   obtain ⟨a1, a2⟩ := absr r hb.1 hb.2
   rw [a1] at hmm
   obtain ⟨w1, w2⟩ := whole r a2
   rw [hmm]
   refine ⟨w1, fun x2 h2 => ?_⟩
   rw [w2] at h2
   have l2 : x2.length ≤ 70 := by rw [h2]; exact fmt_len _ _
   have hpl : placesF d = 6 := by unfold placesF; rw [hdp, if_pos hm]
   have hd2 : decimalsF d x = (signF d (decide (x < 0) && decide (r ≠ 0)), x2 ++ ([46] ++ (zerosF (4 - (fmtN 10 (r.natAbs % 10000)).length) ++ fmtN 10 (r.natAbs % 10000) ++ zerosF (6 - 4)).take (6 : Int).toNat)) := by
    rw [decimals_eq d x r (by rw [hpl]; exact hr), hpl, if_pos (by decide), ← h2]
   exact tail r _ x2 6 rfl a2 l2 (by decide) (by decide) (fun x7 => iteP (decide (x < 0)) (iteP (r != 0) (True ∧ ∀ s : List UInt8, s = signF d true → AV.tup [AV.sc (.string ⟨⟨s⟩⟩), AV.sc (.string ⟨⟨x7⟩⟩)] = AV.tup [aStr (decimalsF d x).1, aStr (decimalsF d x).2]) (True ∧ ∀ s : List UInt8, s = signF d false → AV.tup [AV.sc (.string ⟨⟨s⟩⟩), AV.sc (.string ⟨⟨x7⟩⟩)] = AV.tup [aStr (decimalsF d x).1, aStr (decimalsF d x).2])) (True ∧ ∀ s : List UInt8, s = signF d false → AV.tup [AV.sc (.string ⟨⟨s⟩⟩), AV.sc (.string ⟨⟨x7⟩⟩)] = AV.tup [aStr (decimalsF d x).1, aStr (decimalsF d x).2])) (sign_end (K' r 6 _ hd2))
  ·rw [show (d.prec == -1) = false by rw [hdp]; simpa using hm, iteP_f]
   refine ⟨trivial, fun r hr m hmm => ?_⟩
   have hb := round_le x (min d.prec 4)
   rw [← hr] at hb
   obtain ⟨a1, a2⟩ := absr r hb.1 hb.2
   rw [a1] at hmm
   obtain ⟨w1, w2⟩ := whole r a2
   rw [hmm]
   refine ⟨w1, fun x2 h2 => ?_⟩
   rw [w2] at h2
   have l2 : x2.length ≤ 70 := by rw [h2]; exact fmt_len _ _
   have hpl : placesF d = d.prec := by unfold placesF; rw [if_neg (by rw [hdp]; exact hm)]
   by_cases h0 : (0 : Int) < d.prec
   ·have hd2 : decimalsF d x = (signF d (decide (x < 0) && decide (r ≠ 0)), x2 ++ ([46] ++ (zerosF (4 - (fmtN 10 (r.natAbs % 10000)).length) ++ fmtN 10 (r.natAbs % 10000) ++ zerosF (d.prec - 4)).take d.prec.toNat)) := by
     rw [decimals_eq d x r (by rw [hpl]; exact hr), hpl, if_pos h0, ← h2]
    rw [decide_eq_true h0, iteP_t]
    exact tail r _ x2 d.prec rfl a2 l2 (by omega) (by omega) (fun x7 => iteP (decide (x < 0)) (iteP (r != 0) (True ∧ ∀ s : List UInt8, s = signF d true → AV.tup [AV.sc (.string ⟨⟨s⟩⟩), AV.sc (.string ⟨⟨x7⟩⟩)] = AV.tup [aStr (decimalsF d x).1, aStr (decimalsF d x).2]) (True ∧ ∀ s : List UInt8, s = signF d false → AV.tup [AV.sc (.string ⟨⟨s⟩⟩), AV.sc (.string ⟨⟨x7⟩⟩)] = AV.tup [aStr (decimalsF d x).1, aStr (decimalsF d x).2])) (True ∧ ∀ s : List UInt8, s = signF d false → AV.tup [AV.sc (.string ⟨⟨s⟩⟩), AV.sc (.string ⟨⟨x7⟩⟩)] = AV.tup [aStr (decimalsF d x).1, aStr (decimalsF d x).2])) (sign_end (K' r d.prec _ hd2))
   ·have hd2 : decimalsF d x = (signF d (decide (x < 0) && decide (r ≠ 0)), x2) := by
     rw [decimals_eq d x r (by rw [hpl]; exact hr), hpl, if_neg h0, ← h2, List.append_nil]
    rw [decide_eq_false h0, iteP_f]
    exact sign_end (K' r d.prec _ hd2)
 ·cases hs
end
end Go.Proofs.Pr
namespace Go.Proofs.Pr
open Go Go.Ef
noncomputable section
set_option maxRecDepth 100000
theorem okF3 : TabOk Tryd.prog Door.cfg F3 := name_ok (name_ok (name_ok okF1 _ _) _ _) _ _
def intKind (k : Int) : Bool := k == 100 || k == 105 || k == 111 || k == 117 || k == 120 || k == 88
def C41 (args : List AV) (h : Heap) : Option CSpec :=
 match args with
 | [.agg [.sc (.bool a), .sc (.bool b), .sc (.bool c), .sc (.bool e), .sc (.int .i64 w), .sc (.int .i64 p), .sc (.int .u8 kd)], .sc (.int .i64 n)] => some (nspec (-1 ≤ p ∧ p ≤ 255 ∧ -1000000000 ≤ n ∧ n ≤ 1000000000 ∧ intKind kd = true) (integerF ⟨a, b, c, e, w, p, kd⟩ n) (fun y => .tup [aStr y.1, aStr y.2]) h)
 | _ => none
def layP (p : Int) (x : List UInt8) (Q : List UInt8 → Prop) : Prop :=
 ∀ m : Int, m = IntKind.i64.wrap (p - (x.length : Int)) → m ≤ 1000 ∧ ∀ z : List UInt8, z = zerosF m → (true = true ∧ [z, x].length ≤ 1000 ∧ [z, x].flatten.length ≤ 10000000) ∧ ∀ y : List UInt8, y = [z, x].flatten → Q y
def endI (n p : Int) (x : List UInt8) (Q : List UInt8 → Prop) : Prop := iteP (n == 0) (iteP (p == 0) (layP p [] Q) (layP p x Q)) (layP p x Q)
theorem lay_ok {p : Int} {x : List UInt8} {Q : List UInt8 → Prop} (h1 : -1 ≤ p) (h2 : p ≤ 255) (hx : x.length ≤ 100) (hq : Q (zerosF (p - x.length) ++ x)) : layP p x Q := by
 intro m hm
 rw [wrap_in (by omega) (by omega)] at hm
 refine ⟨by omega, fun z hz => ?_⟩
 have hl := zeros_len m
 rw [← hz] at hl
 have e : [z, x].flatten = z ++ x := by simp
 refine ⟨⟨rfl, by show 2 ≤ 1000; decide, by rw [e, List.length_append]; omega⟩, fun y hy => ?_⟩
 rw [hy, e, hz, hm]
 exact hq
theorem end_ok {n p : Int} {x : List UInt8} {Q : List UInt8 → Prop} (h1 : -1 ≤ p) (h2 : p ≤ 255) (hx : x.length ≤ 100) (y : List UInt8) (hy : y = if n = 0 ∧ p = 0 then [] else x) (hq : Q (zerosF (p - y.length) ++ y)) : endI n p x Q := by
 unfold endI
 by_cases hn : n = 0
 ·rw [show (n == 0) = true by simpa using hn, iteP_t]
  by_cases hp : p = 0
  ·rw [show (p == 0) = true by simpa using hp, iteP_t]
   rw [if_pos ⟨hn, hp⟩] at hy
   subst hy
   exact lay_ok h1 h2 (by decide) hq
  ·rw [show (p == 0) = false by simpa using hp, iteP_f]
   rw [if_neg (fun h => hp h.2)] at hy
   subst hy
   exact lay_ok h1 h2 hx hq
 ·rw [show (n == 0) = false by simpa using hn, iteP_f]
  rw [if_neg (fun h => hn h.1)] at hy
  subst hy
  exact lay_ok h1 h2 hx hq
theorem digit_128 {n : Nat} (h : n < 16) : (digitC n).toNat < 128 := by
 unfold digitC
 split
 ·simp; omega
 ·simp; omega
theorem digits_128 (b : Nat) (hb : b ≤ 16) (hb0 : 0 < b) : ∀ f n acc, (∀ c ∈ acc, UInt8.toNat c < 128) → ∀ c ∈ digitsL b f n acc, UInt8.toNat c < 128 := by
 intro f
 induction f with
 | zero => intro n acc h; exact h
 | succ f ih =>
  intro n acc h
  unfold digitsL
  split
  ·intro c hc
   rcases List.mem_cons.1 hc with rfl | hc
   ·exact digit_128 (by omega)
   ·exact h c hc
  ·refine ih _ _ fun c hc => ?_
   rcases List.mem_cons.1 hc with rfl | hc
   ·exact digit_128 (by have := Nat.mod_lt n hb0; omega)
   ·exact h c hc
theorem fmt_128 (b n : Nat) (hb : b ≤ 16) (hb0 : 0 < b) : (fmtN b n).all (fun c => decide (c.toNat < 128)) = true :=
 List.all_eq_true.2 fun c hc => by simpa using digits_128 b hb hb0 70 n [] (fun _ h => by cases h) c hc
abbrev tupS (x y : List UInt8) : AV := .tup [.sc (.string ⟨⟨x⟩⟩), .sc (.string ⟨⟨y⟩⟩)]
theorem int_100 (a b c e : Bool) (w p n : Int) (h1 : -1 ≤ p) (h2 : p ≤ 255) (h3 : -1000000000 ≤ n) (h4 : n ≤ 1000000000) : wpCall F3 Door.cfg Tryd.prog 60 41 [.agg [aBool a, aBool b, aBool c, aBool e, aK .i64 w, aK .i64 p, aK .u8 100], aK .i64 n] heapF fun r h' => wpBack h' r fun v => v = tupS (integerF ⟨a, b, c, e, w, p, 100⟩ n).1 (integerF ⟨a, b, c, e, w, p, 100⟩ n).2 := by
 refine c41_100 a b c e w p n _ ?_
 have hI : intDigits ⟨a, b, c, e, w, p, 100⟩ n = if n = 0 ∧ p = 0 then [] else fmtN 10 n.natAbs := rfl
 have hS : (integerF ⟨a, b, c, e, w, p, 100⟩ n).1 = signF ⟨a, b, c, e, w, p, 100⟩ (decide (n < 0)) := rfl
 have hR : (integerF ⟨a, b, c, e, w, p, 100⟩ n).2 = zerosF (p - (intDigits ⟨a, b, c, e, w, p, 100⟩ n).length) ++ intDigits ⟨a, b, c, e, w, p, 100⟩ n := rfl
 have part : ∀ x : List UInt8, x = signF ⟨a, b, c, e, w, p, 100⟩ (decide (n < 0)) → ∀ m : Int, m = max n (IntKind.i64.wrap (0 - n)) → ∀ A : Prop, iteP (decide (m < 0)) A (((0 : Int) ≤ m ∧ m ≤ 4294967295 ∧ ((10 : Int) = 8 ∨ (10 : Int) = 10 ∨ (10 : Int) = 16)) ∧ ∀ x1 : List UInt8, x1 = fmtN 10 m.toNat → endI n p x1 fun y => tupS x y = tupS (integerF ⟨a, b, c, e, w, p, 100⟩ n).1 (integerF ⟨a, b, c, e, w, p, 100⟩ n).2) := by
  intro x hx m hm A
  rw [wrap_in (by omega) (by omega)] at hm
  rw [decide_eq_false (show ¬ m < 0 by omega), iteP_f]
  refine ⟨⟨by omega, by omega, .inr (.inl rfl)⟩, fun x1 hx1 => ?_⟩
  have e1 : x1 = fmtN 10 n.natAbs := by rw [hx1]; congr 1; omega
  refine end_ok h1 h2 (by rw [hx1]; exact Nat.le_trans (fmt_len _ _) (by decide)) (intDigits ⟨a, b, c, e, w, p, 100⟩ n) (by rw [hI, e1]) ?_
  rw [hS, hR, hx]
 by_cases hn : n < 0
 ·rw [decide_eq_true hn] at part ⊢
  rw [iteP_t]
  exact ⟨trivial, fun x hx m hm => part x hx m hm _⟩
 ·rw [decide_eq_false hn] at part ⊢
  rw [iteP_f]
  exact ⟨trivial, fun x hx m hm => part x hx m hm _⟩
theorem int_105 (a b c e : Bool) (w p n : Int) (h1 : -1 ≤ p) (h2 : p ≤ 255) (h3 : -1000000000 ≤ n) (h4 : n ≤ 1000000000) : wpCall F3 Door.cfg Tryd.prog 60 41 [.agg [aBool a, aBool b, aBool c, aBool e, aK .i64 w, aK .i64 p, aK .u8 105], aK .i64 n] heapF fun r h' => wpBack h' r fun v => v = tupS (integerF ⟨a, b, c, e, w, p, 105⟩ n).1 (integerF ⟨a, b, c, e, w, p, 105⟩ n).2 := by
 refine c41_105 a b c e w p n _ ?_
 have hI : intDigits ⟨a, b, c, e, w, p, 105⟩ n = if n = 0 ∧ p = 0 then [] else fmtN 10 n.natAbs := rfl
 have hS : (integerF ⟨a, b, c, e, w, p, 105⟩ n).1 = signF ⟨a, b, c, e, w, p, 105⟩ (decide (n < 0)) := rfl
 have hR : (integerF ⟨a, b, c, e, w, p, 105⟩ n).2 = zerosF (p - (intDigits ⟨a, b, c, e, w, p, 105⟩ n).length) ++ intDigits ⟨a, b, c, e, w, p, 105⟩ n := rfl
 have part : ∀ x : List UInt8, x = signF ⟨a, b, c, e, w, p, 105⟩ (decide (n < 0)) → ∀ m : Int, m = max n (IntKind.i64.wrap (0 - n)) → ∀ A : Prop, iteP (decide (m < 0)) A (((0 : Int) ≤ m ∧ m ≤ 4294967295 ∧ ((10 : Int) = 8 ∨ (10 : Int) = 10 ∨ (10 : Int) = 16)) ∧ ∀ x1 : List UInt8, x1 = fmtN 10 m.toNat → endI n p x1 fun y => tupS x y = tupS (integerF ⟨a, b, c, e, w, p, 105⟩ n).1 (integerF ⟨a, b, c, e, w, p, 105⟩ n).2) := by
  intro x hx m hm A
  rw [wrap_in (by omega) (by omega)] at hm
  rw [decide_eq_false (show ¬ m < 0 by omega), iteP_f]
  refine ⟨⟨by omega, by omega, .inr (.inl rfl)⟩, fun x1 hx1 => ?_⟩
  have e1 : x1 = fmtN 10 n.natAbs := by rw [hx1]; congr 1; omega
  refine end_ok h1 h2 (by rw [hx1]; exact Nat.le_trans (fmt_len _ _) (by decide)) (intDigits ⟨a, b, c, e, w, p, 105⟩ n) (by rw [hI, e1]) ?_
  rw [hS, hR, hx]
 by_cases hn : n < 0
 ·rw [decide_eq_true hn] at part ⊢
  rw [iteP_t]
  exact ⟨trivial, fun x hx m hm => part x hx m hm _⟩
 ·rw [decide_eq_false hn] at part ⊢
  rw [iteP_f]
  exact ⟨trivial, fun x hx m hm => part x hx m hm _⟩
theorem int_111 (a b c e : Bool) (w p n : Int) (h1 : -1 ≤ p) (h2 : p ≤ 255) (h3 : -1000000000 ≤ n) (h4 : n ≤ 1000000000) : wpCall F3 Door.cfg Tryd.prog 60 41 [.agg [aBool a, aBool b, aBool c, aBool e, aK .i64 w, aK .i64 p, aK .u8 111], aK .i64 n] heapF fun r h' => wpBack h' r fun v => v = tupS (integerF ⟨a, b, c, e, w, p, 111⟩ n).1 (integerF ⟨a, b, c, e, w, p, 111⟩ n).2 := by
 refine c41_111 a b c e w p n _ ?_
 have hI : intDigits ⟨a, b, c, e, w, p, 111⟩ n = if n = 0 ∧ p = 0 then [] else (fmtN 8 (if n < 0 then n + 4294967296 else n).toNat) := rfl
 have hS : (integerF ⟨a, b, c, e, w, p, 111⟩ n).1 = [] := rfl
 have hR : (integerF ⟨a, b, c, e, w, p, 111⟩ n).2 = zerosF (p - (intDigits ⟨a, b, c, e, w, p, 111⟩ n).length) ++ intDigits ⟨a, b, c, e, w, p, 111⟩ n := rfl
 by_cases hn : n < 0
 ·rw [decide_eq_true hn, iteP_t]
  intro m hm
  rw [wrap_in (by omega) (by omega)] at hm
  refine ⟨⟨by omega, by omega, .inl rfl⟩, fun x hx => ?_⟩
  have lx : x.length ≤ 70 := by rw [hx]; exact fmt_len _ _
  refine end_ok h1 h2 (by omega) (intDigits ⟨a, b, c, e, w, p, 111⟩ n) (by rw [hI, hx, if_pos hn, hm]) ?_
  rw [hS, hR]
 ·rw [decide_eq_false hn, iteP_f]
  refine ⟨⟨by omega, by omega, .inl rfl⟩, fun x hx => ?_⟩
  have lx : x.length ≤ 70 := by rw [hx]; exact fmt_len _ _
  refine end_ok h1 h2 (by omega) (intDigits ⟨a, b, c, e, w, p, 111⟩ n) (by rw [hI, hx, if_neg hn]) ?_
  rw [hS, hR]
theorem int_117 (a b c e : Bool) (w p n : Int) (h1 : -1 ≤ p) (h2 : p ≤ 255) (h3 : -1000000000 ≤ n) (h4 : n ≤ 1000000000) : wpCall F3 Door.cfg Tryd.prog 60 41 [.agg [aBool a, aBool b, aBool c, aBool e, aK .i64 w, aK .i64 p, aK .u8 117], aK .i64 n] heapF fun r h' => wpBack h' r fun v => v = tupS (integerF ⟨a, b, c, e, w, p, 117⟩ n).1 (integerF ⟨a, b, c, e, w, p, 117⟩ n).2 := by
 refine c41_117 a b c e w p n _ ?_
 have hI : intDigits ⟨a, b, c, e, w, p, 117⟩ n = if n = 0 ∧ p = 0 then [] else (fmtN 10 (if n < 0 then n + 4294967296 else n).toNat) := rfl
 have hS : (integerF ⟨a, b, c, e, w, p, 117⟩ n).1 = [] := rfl
 have hR : (integerF ⟨a, b, c, e, w, p, 117⟩ n).2 = zerosF (p - (intDigits ⟨a, b, c, e, w, p, 117⟩ n).length) ++ intDigits ⟨a, b, c, e, w, p, 117⟩ n := rfl
 by_cases hn : n < 0
 ·rw [decide_eq_true hn, iteP_t]
  intro m hm
  rw [wrap_in (by omega) (by omega)] at hm
  refine ⟨⟨by omega, by omega, .inr (.inl rfl)⟩, fun x hx => ?_⟩
  have lx : x.length ≤ 70 := by rw [hx]; exact fmt_len _ _
  refine end_ok h1 h2 (by omega) (intDigits ⟨a, b, c, e, w, p, 117⟩ n) (by rw [hI, hx, if_pos hn, hm]) ?_
  rw [hS, hR]
 ·rw [decide_eq_false hn, iteP_f]
  refine ⟨⟨by omega, by omega, .inr (.inl rfl)⟩, fun x hx => ?_⟩
  have lx : x.length ≤ 70 := by rw [hx]; exact fmt_len _ _
  refine end_ok h1 h2 (by omega) (intDigits ⟨a, b, c, e, w, p, 117⟩ n) (by rw [hI, hx, if_neg hn]) ?_
  rw [hS, hR]
theorem int_120 (a b c e : Bool) (w p n : Int) (h1 : -1 ≤ p) (h2 : p ≤ 255) (h3 : -1000000000 ≤ n) (h4 : n ≤ 1000000000) : wpCall F3 Door.cfg Tryd.prog 60 41 [.agg [aBool a, aBool b, aBool c, aBool e, aK .i64 w, aK .i64 p, aK .u8 120], aK .i64 n] heapF fun r h' => wpBack h' r fun v => v = tupS (integerF ⟨a, b, c, e, w, p, 120⟩ n).1 (integerF ⟨a, b, c, e, w, p, 120⟩ n).2 := by
 refine c41_120 a b c e w p n _ ?_
 have hI : intDigits ⟨a, b, c, e, w, p, 120⟩ n = if n = 0 ∧ p = 0 then [] else (fmtN 16 (if n < 0 then n + 4294967296 else n).toNat) := rfl
 have hS : (integerF ⟨a, b, c, e, w, p, 120⟩ n).1 = [] := rfl
 have hR : (integerF ⟨a, b, c, e, w, p, 120⟩ n).2 = zerosF (p - (intDigits ⟨a, b, c, e, w, p, 120⟩ n).length) ++ intDigits ⟨a, b, c, e, w, p, 120⟩ n := rfl
 by_cases hn : n < 0
 ·rw [decide_eq_true hn, iteP_t]
  intro m hm
  rw [wrap_in (by omega) (by omega)] at hm
  refine ⟨⟨by omega, by omega, .inr (.inr rfl)⟩, fun x hx => ?_⟩
  have lx : x.length ≤ 70 := by rw [hx]; exact fmt_len _ _
  refine end_ok h1 h2 (by omega) (intDigits ⟨a, b, c, e, w, p, 120⟩ n) (by rw [hI, hx, if_pos hn, hm]) ?_
  rw [hS, hR]
 ·rw [decide_eq_false hn, iteP_f]
  refine ⟨⟨by omega, by omega, .inr (.inr rfl)⟩, fun x hx => ?_⟩
  have lx : x.length ≤ 70 := by rw [hx]; exact fmt_len _ _
  refine end_ok h1 h2 (by omega) (intDigits ⟨a, b, c, e, w, p, 120⟩ n) (by rw [hI, hx, if_neg hn]) ?_
  rw [hS, hR]
theorem int_88 (a b c e : Bool) (w p n : Int) (h1 : -1 ≤ p) (h2 : p ≤ 255) (h3 : -1000000000 ≤ n) (h4 : n ≤ 1000000000) : wpCall F3 Door.cfg Tryd.prog 60 41 [.agg [aBool a, aBool b, aBool c, aBool e, aK .i64 w, aK .i64 p, aK .u8 88], aK .i64 n] heapF fun r h' => wpBack h' r fun v => v = tupS (integerF ⟨a, b, c, e, w, p, 88⟩ n).1 (integerF ⟨a, b, c, e, w, p, 88⟩ n).2 := by
 refine c41_88 a b c e w p n _ ?_
 have hI : intDigits ⟨a, b, c, e, w, p, 88⟩ n = if n = 0 ∧ p = 0 then [] else (fmtN 16 (if n < 0 then n + 4294967296 else n).toNat).map upC := rfl
 have hS : (integerF ⟨a, b, c, e, w, p, 88⟩ n).1 = [] := rfl
 have hR : (integerF ⟨a, b, c, e, w, p, 88⟩ n).2 = zerosF (p - (intDigits ⟨a, b, c, e, w, p, 88⟩ n).length) ++ intDigits ⟨a, b, c, e, w, p, 88⟩ n := rfl
 by_cases hn : n < 0
 ·rw [decide_eq_true hn, iteP_t]
  intro m hm
  rw [wrap_in (by omega) (by omega)] at hm
  refine ⟨⟨by omega, by omega, .inr (.inr rfl)⟩, fun x hx => ?_⟩
  have lx : x.length ≤ 70 := by rw [hx]; exact fmt_len _ _
  refine ⟨⟨by omega, by rw [hx]; exact fmt_128 16 _ (by decide) (by decide)⟩, fun x1 hx1 => ?_⟩
  refine end_ok h1 h2 (by rw [hx1, List.length_map]; omega) (intDigits ⟨a, b, c, e, w, p, 88⟩ n) (by rw [hI, hx1, hx, if_pos hn, hm]) ?_
  rw [hS, hR]
 ·rw [decide_eq_false hn, iteP_f]
  refine ⟨⟨by omega, by omega, .inr (.inr rfl)⟩, fun x hx => ?_⟩
  have lx : x.length ≤ 70 := by rw [hx]; exact fmt_len _ _
  refine ⟨⟨by omega, by rw [hx]; exact fmt_128 16 _ (by decide) (by decide)⟩, fun x1 hx1 => ?_⟩
  refine end_ok h1 h2 (by rw [hx1, List.length_map]; omega) (intDigits ⟨a, b, c, e, w, p, 88⟩ n) (by rw [hI, hx1, hx, if_neg hn]) ?_
  rw [hS, hR]
theorem ok41 {T : Tab} (O : TabOk Tryd.prog Door.cfg T) : TabOk Tryd.prog Door.cfg (T.addC 41 C41) := by
 refine addC_ok O fun args h s hs hp => ?_
 unfold C41 at hs
 split at hs
 ·rename_i a b c e w p kd n
  refine nspec_ok (Option.some.inj hs) (fun hpre => ?_) hp
  obtain ⟨h1, h2, h3, h4, h5⟩ := hpre
  unfold intKind at h5
  simp only [Bool.or_eq_true, beq_iff_eq] at h5
  rcases h5 with ((((rfl | rfl) | rfl) | rfl) | rfl) | rfl
  ·exact EvP.freshV okF3 (n := 60) (by kernel_rfl) (by kernel_rfl) (args' := [.agg [aBool a, aBool b, aBool c, aBool e, aK .i64 w, aK .i64 p, aK .u8 100], aK .i64 n]) rfl (int_100 a b c e w p n h1 h2 h3 h4)
  ·exact EvP.freshV okF3 (n := 60) (by kernel_rfl) (by kernel_rfl) (args' := [.agg [aBool a, aBool b, aBool c, aBool e, aK .i64 w, aK .i64 p, aK .u8 105], aK .i64 n]) rfl (int_105 a b c e w p n h1 h2 h3 h4)
  ·exact EvP.freshV okF3 (n := 60) (by kernel_rfl) (by kernel_rfl) (args' := [.agg [aBool a, aBool b, aBool c, aBool e, aK .i64 w, aK .i64 p, aK .u8 111], aK .i64 n]) rfl (int_111 a b c e w p n h1 h2 h3 h4)
  ·exact EvP.freshV okF3 (n := 60) (by kernel_rfl) (by kernel_rfl) (args' := [.agg [aBool a, aBool b, aBool c, aBool e, aK .i64 w, aK .i64 p, aK .u8 117], aK .i64 n]) rfl (int_117 a b c e w p n h1 h2 h3 h4)
  ·exact EvP.freshV okF3 (n := 60) (by kernel_rfl) (by kernel_rfl) (args' := [.agg [aBool a, aBool b, aBool c, aBool e, aK .i64 w, aK .i64 p, aK .u8 120], aK .i64 n]) rfl (int_120 a b c e w p n h1 h2 h3 h4)
  ·exact EvP.freshV okF3 (n := 60) (by kernel_rfl) (by kernel_rfl) (args' := [.agg [aBool a, aBool b, aBool c, aBool e, aK .i64 w, aK .i64 p, aK .u8 88], aK .i64 n]) rfl (int_88 a b c e w p n h1 h2 h3 h4)
 ·cases hs
end
end Go.Proofs.Pr
namespace Go.Proofs.Pr
open Go Go.Ef
noncomputable section
def C39 (args : List AV) (h : Heap) : Option CSpec :=
 match args with
 | [.agg [.sc (.int .i64 k), .sc (.int .i64 n), .sc (.string s)]] => some (nspec True (textF k n s.data.toList) (fun x => aStr x) h)
 | _ => none
def M1 : Tab := Q1.addC 36 C36n
def M2 : Tab := ((M1.addC 39 C39).addC 40 C40).addC 41 C41
def M3 : Tab := tab0.addC 53 C53g
end
end Go.Proofs.Pr
namespace Go.Proofs.Pr
open Go Go.Ef
noncomputable section
set_option maxRecDepth 100000
theorem s39 (k : Int) (n : Int) (s : List UInt8) (K : AV → Prop) (h :
 iteP (k == 1) (True ∧ ∀ (x : List UInt8), x = decF (nearF (min (max n (-10000000000000)) 10000000000000)) → K (AV.sc (Value.string (ByteArray.mk (Array.mk x))))) (iteP (k == 2) (K (AV.sc (Value.string (ByteArray.mk (Array.mk s))))) (iteP (k == 3) (K (AV.sc (Value.string (ByteArray.mk (Array.mk s))))) (K (AV.sc (Value.string (ByteArray.mk (Array.mk [])))))))) :
 (fun (k n : Int) (s : List UInt8) (K : AV → Prop) => wpCall M3 Door.cfg Tryd.prog 40 39 [.agg [aK .i64 k, aK .i64 n, aStr s]] heapF fun r h' => wpBack h' r K) k n s K :=
 Eq.mp (by kernel_rfl) h
theorem s24_99 (a : Bool) (b : Bool) (c : Bool) (e : Bool) (w : Int) (p : Int) (k : Int) (n : Int) (s : List UInt8) (K : AV → Prop) (h :
 s.length.le 1000000 ∧ ∀ (x : Int), x = numberF k n s → iteP (k == 1) (True ∧ ∀ (x_1 : Int), x_1 = (nearF x).tdiv 10000 → K (AV.tup [AV.sc (Value.string (ByteArray.mk (Array.mk []))), AV.sc (Value.string (ByteArray.mk (Array.mk (List.map byteD [[AV.sc (Value.int IntKind.u8 (IntKind.u8.wrap ((IntKind.i64.wrap (x_1.tmod 256 + 256)).tmod 256)))]]))))])) (True ∧ ∀ (x : List UInt8), x = textF k n s →
 iteP (decide (0 ≤ min 1 (↑x.length : Int)) && decide (min 1 (↑x.length : Int) ≤ (↑x.length : Int))) (K (AV.tup [AV.sc (Value.string (ByteArray.mk (Array.mk []))), AV.sc (Value.string (ByteArray.mk (Array.mk (List.take (min 1 (↑x.length : Int)).toNat x))))])) False)) :
 (fun (a b c e : Bool) (w p k n : Int) (s : List UInt8) (K : AV → Prop) => wpCall M2 Door.cfg Tryd.prog 40 24 [.agg [aBool a, aBool b, aBool c, aBool e, aK .i64 w, aK .i64 p, aK .u8 99], .agg [aK .i64 k, aK .i64 n, aStr s]] heapF fun r h' => wpBack h' r K) a b c e w p k n s K :=
 Eq.mp (by kernel_rfl) h
theorem s24_115 (a : Bool) (b : Bool) (c : Bool) (e : Bool) (w : Int) (p : Int) (k : Int) (n : Int) (s : List UInt8) (K : AV → Prop) (h :
 s.length.le 1000000 ∧ ∀ (x : Int), x = numberF k n s → True ∧ ∀ (x : List UInt8), x = textF k n s → iteP (p != (-1)) (iteP (decide (0 ≤ min p (↑x.length : Int)) && decide (min p (↑x.length : Int) ≤ (↑x.length : Int))) (K (AV.tup [AV.sc (Value.string (ByteArray.mk (Array.mk []))), AV.sc (Value.string (ByteArray.mk (Array.mk (List.take (min p (↑x.length : Int)).toNat x))))])) False) (K (AV.tup
 [AV.sc (Value.string (ByteArray.mk (Array.mk []))), AV.sc (Value.string (ByteArray.mk (Array.mk x)))]))) :
 (fun (a b c e : Bool) (w p k n : Int) (s : List UInt8) (K : AV → Prop) => wpCall M2 Door.cfg Tryd.prog 40 24 [.agg [aBool a, aBool b, aBool c, aBool e, aK .i64 w, aK .i64 p, aK .u8 115], .agg [aK .i64 k, aK .i64 n, aStr s]] heapF fun r h' => wpBack h' r K) a b c e w p k n s K :=
 Eq.mp (by kernel_rfl) h
theorem s24_102 (a : Bool) (b : Bool) (c : Bool) (e : Bool) (w : Int) (p : Int) (k : Int) (n : Int) (s : List UInt8) (K : AV → Prop) (h :
 s.length.le 1000000 ∧ ∀ (x : Int), x = numberF k n s → ((-1) ≤ p ∧ p ≤ 255) ∧ ∀ (x_1 : List UInt8 × List UInt8), x_1 = (if (decide (x < 0) && decide ((if nearF x < 0 then -(((-nearF x + (if min (if p = (-1) then 6 else p) (4 : Int) ≤ 0 then 10000 else if min (if p = (-1) then 6 else p) (4 : Int) = 1 then 1000 else if min (if p = (-1) then 6 else p) (4 : Int) = 2 then 100 else if
 min (if p = (-1) then 6 else p) 4 = 3 then 10 else 1) / 2) / if min (if p = (-1) then 6 else p) (4 : Int) ≤ 0 then 10000 else if min (if p = (-1) then 6 else p) (4 : Int) = 1 then 1000 else if min (if p = (-1) then 6 else p) (4 : Int) = 2 then 100 else if min (if p = (-1) then 6 else p) (4 : Int) = 3 then 10 else 1) * if min (if p = (-1) then 6 else p) (4 : Int) ≤ 0 then 10000 else
 if min (if p = (-1) then 6 else p) (4 : Int) = 1 then 1000 else if min (if p = (-1) then 6 else p) (4 : Int) = 2 then 100 else if min (if p = (-1) then 6 else p) (4 : Int) = 3 then 10 else 1) else ((nearF x + (if min (if p = (-1) then 6 else p) (4 : Int) ≤ 0 then 10000 else if min (if p = (-1) then 6 else p) (4 : Int) = 1 then 1000 else if min (if p = (-1) then 6 else p) (4 : Int) = 2 then 100 else
 if min (if p = (-1) then 6 else p) (4 : Int) = 3 then 10 else 1) / 2) / if min (if p = (-1) then 6 else p) (4 : Int) ≤ 0 then 10000 else if min (if p = (-1) then 6 else p) (4 : Int) = 1 then 1000 else if min (if p = (-1) then 6 else p) (4 : Int) = 2 then 100 else if min (if p = (-1) then 6 else p) (4 : Int) = 3 then 10 else 1) * if min (if p = (-1) then 6 else p) (4 : Int) ≤ 0 then 10000 else
 if min (if p = (-1) then 6 else p) (4 : Int) = 1 then 1000 else if min (if p = (-1) then 6 else p) (4 : Int) = 2 then 100 else if min (if p = (-1) then 6 else p) (4 : Int) = 3 then 10 else 1) ≠ 0)) = true then [(45 : UInt8)] else if c = true then [(43 : UInt8)] else if e = true then [(32 : UInt8)] else [], digitsL 10 70 ((if nearF x < 0 then -(((-nearF x +
 (if min (if p = (-1) then 6 else p) (4 : Int) ≤ 0 then 10000 else if min (if p = (-1) then 6 else p) (4 : Int) = 1 then 1000 else if min (if p = (-1) then 6 else p) (4 : Int) = 2 then 100 else if min (if p = (-1) then 6 else p) (4 : Int) = 3 then 10 else 1) / 2) / if min (if p = (-1) then 6 else p) (4 : Int) ≤ 0 then 10000 else if min (if p = (-1) then 6 else p) (4 : Int) = 1 then 1000 else
 if min (if p = (-1) then 6 else p) (4 : Int) = 2 then 100 else if min (if p = (-1) then 6 else p) (4 : Int) = 3 then 10 else 1) * if min (if p = (-1) then 6 else p) (4 : Int) ≤ 0 then 10000 else if min (if p = (-1) then 6 else p) (4 : Int) = 1 then 1000 else if min (if p = (-1) then 6 else p) (4 : Int) = 2 then 100 else if min (if p = (-1) then 6 else p) (4 : Int) = 3 then 10 else 1) else
 ((nearF x + (if min (if p = (-1) then 6 else p) (4 : Int) ≤ 0 then 10000 else if min (if p = (-1) then 6 else p) (4 : Int) = 1 then 1000 else if min (if p = (-1) then 6 else p) (4 : Int) = 2 then 100 else if min (if p = (-1) then 6 else p) (4 : Int) = 3 then 10 else 1) / 2) / if min (if p = (-1) then 6 else p) (4 : Int) ≤ 0 then 10000 else if min (if p = (-1) then 6 else p) (4 : Int) = 1 then 1000
 else if min (if p = (-1) then 6 else p) (4 : Int) = 2 then 100 else if min (if p = (-1) then 6 else p) (4 : Int) = 3 then 10 else 1) * if min (if p = (-1) then 6 else p) (4 : Int) ≤ 0 then 10000 else if min (if p = (-1) then 6 else p) (4 : Int) = 1 then 1000 else if min (if p = (-1) then 6 else p) (4 : Int) = 2 then 100 else if min (if p = (-1) then 6 else p) (4 : Int) = 3 then 10 else 1).natAbs /
 10000) [] ++ if 0 < if p = (-1) then 6 else p then [(46 : UInt8)] ++ List.take (if p = (-1) then 6 else p).toNat (List.replicate (4 - (↑(digitsL 10 70 ((if nearF x < 0 then -(((-nearF x + (if min (if p = (-1) then 6 else p) 4 ≤ 0 then 10000 else if min (if p = (-1) then 6 else p) 4 = 1 then 1000 else if min (if p = (-1) then 6 else p) 4 = 2 then 100 else if min (if p = (-1) then 6 else p) 4 =
 3 then 10 else 1) / 2) / if min (if p = (-1) then 6 else p) 4 ≤ 0 then 10000 else if min (if p = (-1) then 6 else p) 4 = 1 then 1000 else if min (if p = (-1) then 6 else p) 4 = 2 then 100 else if min (if p = (-1) then 6 else p) 4 = 3 then 10 else 1) * if min (if p = (-1) then 6 else p) 4 ≤ 0 then 10000 else if min (if p = (-1) then 6 else p) 4 = 1 then 1000 else if
 min (if p = (-1) then 6 else p) 4 = 2 then 100 else if min (if p = (-1) then 6 else p) 4 = 3 then 10 else 1) else ((nearF x + (if min (if p = (-1) then 6 else p) 4 ≤ 0 then 10000 else if min (if p = (-1) then 6 else p) 4 = 1 then 1000 else if min (if p = (-1) then 6 else p) 4 = 2 then 100 else if min (if p = (-1) then 6 else p) 4 = 3 then 10 else 1) / 2) / if min (if p = (-1) then 6 else p) 4 ≤
 0 then 10000 else if min (if p = (-1) then 6 else p) 4 = 1 then 1000 else if min (if p = (-1) then 6 else p) 4 = 2 then 100 else if min (if p = (-1) then 6 else p) 4 = 3 then 10 else 1) * if min (if p = (-1) then 6 else p) 4 ≤ 0 then 10000 else if min (if p = (-1) then 6 else p) 4 = 1 then 1000 else if min (if p = (-1) then 6 else p) 4 = 2 then 100 else if min (if p = (-1) then 6 else p) 4 = 3 then
 10 else 1).natAbs % 10000) []).length : Int)).toNat (48 : UInt8) ++ digitsL 10 70 ((if nearF x < 0 then -(((-nearF x + (if min (if p = (-1) then 6 else p) (4 : Int) ≤ 0 then 10000 else if min (if p = (-1) then 6 else p) 4 = 1 then 1000 else if min (if p = (-1) then 6 else p) 4 = 2 then 100 else if min (if p = (-1) then 6 else p) 4 = 3 then 10 else 1) / 2) /
 if min (if p = (-1) then 6 else p) (4 : Int) ≤ 0 then 10000 else if min (if p = (-1) then 6 else p) (4 : Int) = 1 then 1000 else if min (if p = (-1) then 6 else p) 4 = 2 then 100 else if min (if p = (-1) then 6 else p) 4 = 3 then 10 else 1) * if min (if p = (-1) then 6 else p) (4 : Int) ≤ 0 then 10000 else if min (if p = (-1) then 6 else p) (4 : Int) = 1 then 1000 else
 if min (if p = (-1) then 6 else p) (4 : Int) = 2 then 100 else if min (if p = (-1) then 6 else p) 4 = 3 then 10 else 1) else ((nearF x + (if min (if p = (-1) then 6 else p) (4 : Int) ≤ 0 then 10000 else if min (if p = (-1) then 6 else p) 4 = 1 then 1000 else if min (if p = (-1) then 6 else p) 4 = 2 then 100 else if min (if p = (-1) then 6 else p) 4 = 3 then 10 else 1) / 2) /
 if min (if p = (-1) then 6 else p) (4 : Int) ≤ 0 then 10000 else if min (if p = (-1) then 6 else p) (4 : Int) = 1 then 1000 else if min (if p = (-1) then 6 else p) (4 : Int) = 2 then 100 else if min (if p = (-1) then 6 else p) 4 = 3 then 10 else 1) * if min (if p = (-1) then 6 else p) (4 : Int) ≤ 0 then 10000 else if min (if p = (-1) then 6 else p) (4 : Int) = 1 then 1000 else
 if min (if p = (-1) then 6 else p) (4 : Int) = 2 then 100 else if min (if p = (-1) then 6 else p) (4 : Int) = 3 then 10 else 1).natAbs % 10000) [] ++ List.replicate ((if p = (-1) then 6 else p) - 4).toNat (48 : UInt8)) else []) → K (AV.tup [AV.sc (Value.string (ByteArray.mk (Array.mk x_1.fst))), AV.sc (Value.string (ByteArray.mk (Array.mk x_1.snd)))])) :
 (fun (a b c e : Bool) (w p k n : Int) (s : List UInt8) (K : AV → Prop) => wpCall M2 Door.cfg Tryd.prog 40 24 [.agg [aBool a, aBool b, aBool c, aBool e, aK .i64 w, aK .i64 p, aK .u8 102], .agg [aK .i64 k, aK .i64 n, aStr s]] heapF fun r h' => wpBack h' r K) a b c e w p k n s K :=
 Eq.mp (by kernel_rfl) h
theorem s24_100 (a : Bool) (b : Bool) (c : Bool) (e : Bool) (w : Int) (p : Int) (k : Int) (n : Int) (s : List UInt8) (K : AV → Prop) (h :
 s.length.le 1000000 ∧ ∀ (x : Int), x = numberF k n s → True ∧ ∀ (x_1 : Int), x_1 = (nearF x).tdiv 10000 → ((-1) ≤ p ∧ p ≤ 255 ∧ (-1000000000) ≤ x_1 ∧ x_1 ≤ 1000000000 ∧ true = true) ∧ ∀ (x : List UInt8 × List UInt8), x = (if OfNat.ofNat (100 : Nat) = 100 ∨ OfNat.ofNat (100 : Nat) = 105 then if decide (x_1 < 0) = true then [(45 : UInt8)]
 else if c = true then [(43 : UInt8)] else if e = true then [(32 : UInt8)] else [] else [], List.replicate (p - (↑(if x_1 = 0 ∧ p = 0 then [] else if OfNat.ofNat (100 : Nat) = 100 ∨ OfNat.ofNat (100 : Nat) = 105 then digitsL 10 70 x_1.natAbs [] else if OfNat.ofNat (100 : Nat) = 111 then digitsL 8 70 (if x_1 < 0 then x_1 + 4294967296 else x_1).toNat [] else if OfNat.ofNat (100 : Nat) = 120 then
 digitsL 16 70 (if x_1 < 0 then x_1 + 4294967296 else x_1).toNat [] else if OfNat.ofNat (100 : Nat) = 88 then List.map upC (digitsL 16 70 (if x_1 < 0 then x_1 + 4294967296 else x_1).toNat []) else digitsL 10 70 (if x_1 < 0 then x_1 + 4294967296 else x_1).toNat []).length : Int)).toNat (48 : UInt8) ++ if x_1 = 0 ∧ p = 0 then [] else
 if OfNat.ofNat (100 : Nat) = 100 ∨ OfNat.ofNat (100 : Nat) = 105 then digitsL 10 70 x_1.natAbs [] else if OfNat.ofNat (100 : Nat) = 111 then digitsL 8 70 (if x_1 < 0 then x_1 + 4294967296 else x_1).toNat [] else if OfNat.ofNat (100 : Nat) = 120 then digitsL 16 70 (if x_1 < 0 then x_1 + 4294967296 else x_1).toNat [] else if OfNat.ofNat (100 : Nat) = 88 then List.map upC (digitsL 16 70
 (if x_1 < 0 then x_1 + 4294967296 else x_1).toNat []) else digitsL 10 70 (if x_1 < 0 then x_1 + 4294967296 else x_1).toNat []) → K (AV.tup [AV.sc (Value.string (ByteArray.mk (Array.mk x.fst))), AV.sc (Value.string (ByteArray.mk (Array.mk x.snd)))])) :
 (fun (a b c e : Bool) (w p k n : Int) (s : List UInt8) (K : AV → Prop) => wpCall M2 Door.cfg Tryd.prog 40 24 [.agg [aBool a, aBool b, aBool c, aBool e, aK .i64 w, aK .i64 p, aK .u8 100], .agg [aK .i64 k, aK .i64 n, aStr s]] heapF fun r h' => wpBack h' r K) a b c e w p k n s K :=
 Eq.mp (by kernel_rfl) h
theorem s24_105 (a : Bool) (b : Bool) (c : Bool) (e : Bool) (w : Int) (p : Int) (k : Int) (n : Int) (s : List UInt8) (K : AV → Prop) (h :
 s.length.le 1000000 ∧ ∀ (x : Int), x = numberF k n s → True ∧ ∀ (x_1 : Int), x_1 = (nearF x).tdiv 10000 → ((-1) ≤ p ∧ p ≤ 255 ∧ (-1000000000) ≤ x_1 ∧ x_1 ≤ 1000000000 ∧ true = true) ∧ ∀ (x : List UInt8 × List UInt8), x = (if OfNat.ofNat (105 : Nat) = 100 ∨ OfNat.ofNat (105 : Nat) = 105 then if decide (x_1 < 0) = true then [(45 : UInt8)]
 else if c = true then [(43 : UInt8)] else if e = true then [(32 : UInt8)] else [] else [], List.replicate (p - (↑(if x_1 = 0 ∧ p = 0 then [] else if OfNat.ofNat (105 : Nat) = 100 ∨ OfNat.ofNat (105 : Nat) = 105 then digitsL 10 70 x_1.natAbs [] else if OfNat.ofNat (105 : Nat) = 111 then digitsL 8 70 (if x_1 < 0 then x_1 + 4294967296 else x_1).toNat [] else if OfNat.ofNat (105 : Nat) = 120 then
 digitsL 16 70 (if x_1 < 0 then x_1 + 4294967296 else x_1).toNat [] else if OfNat.ofNat (105 : Nat) = 88 then List.map upC (digitsL 16 70 (if x_1 < 0 then x_1 + 4294967296 else x_1).toNat []) else digitsL 10 70 (if x_1 < 0 then x_1 + 4294967296 else x_1).toNat []).length : Int)).toNat (48 : UInt8) ++ if x_1 = 0 ∧ p = 0 then [] else
 if OfNat.ofNat (105 : Nat) = 100 ∨ OfNat.ofNat (105 : Nat) = 105 then digitsL 10 70 x_1.natAbs [] else if OfNat.ofNat (105 : Nat) = 111 then digitsL 8 70 (if x_1 < 0 then x_1 + 4294967296 else x_1).toNat [] else if OfNat.ofNat (105 : Nat) = 120 then digitsL 16 70 (if x_1 < 0 then x_1 + 4294967296 else x_1).toNat [] else if OfNat.ofNat (105 : Nat) = 88 then List.map upC (digitsL 16 70
 (if x_1 < 0 then x_1 + 4294967296 else x_1).toNat []) else digitsL 10 70 (if x_1 < 0 then x_1 + 4294967296 else x_1).toNat []) → K (AV.tup [AV.sc (Value.string (ByteArray.mk (Array.mk x.fst))), AV.sc (Value.string (ByteArray.mk (Array.mk x.snd)))])) :
 (fun (a b c e : Bool) (w p k n : Int) (s : List UInt8) (K : AV → Prop) => wpCall M2 Door.cfg Tryd.prog 40 24 [.agg [aBool a, aBool b, aBool c, aBool e, aK .i64 w, aK .i64 p, aK .u8 105], .agg [aK .i64 k, aK .i64 n, aStr s]] heapF fun r h' => wpBack h' r K) a b c e w p k n s K :=
 Eq.mp (by kernel_rfl) h
theorem s24_111 (a : Bool) (b : Bool) (c : Bool) (e : Bool) (w : Int) (p : Int) (k : Int) (n : Int) (s : List UInt8) (K : AV → Prop) (h :
 s.length.le 1000000 ∧ ∀ (x : Int), x = numberF k n s → True ∧ ∀ (x_1 : Int), x_1 = (nearF x).tdiv 10000 → ((-1) ≤ p ∧ p ≤ 255 ∧ (-1000000000) ≤ x_1 ∧ x_1 ≤ 1000000000 ∧ true = true) ∧ ∀ (x : List UInt8 × List UInt8), x = (if OfNat.ofNat (111 : Nat) = 100 ∨ OfNat.ofNat (111 : Nat) = 105 then if decide (x_1 < 0) = true then [(45 : UInt8)]
 else if c = true then [(43 : UInt8)] else if e = true then [(32 : UInt8)] else [] else [], List.replicate (p - (↑(if x_1 = 0 ∧ p = 0 then [] else if OfNat.ofNat (111 : Nat) = 100 ∨ OfNat.ofNat (111 : Nat) = 105 then digitsL 10 70 x_1.natAbs [] else if OfNat.ofNat (111 : Nat) = 111 then digitsL 8 70 (if x_1 < 0 then x_1 + 4294967296 else x_1).toNat [] else if OfNat.ofNat (111 : Nat) = 120 then
 digitsL 16 70 (if x_1 < 0 then x_1 + 4294967296 else x_1).toNat [] else if OfNat.ofNat (111 : Nat) = 88 then List.map upC (digitsL 16 70 (if x_1 < 0 then x_1 + 4294967296 else x_1).toNat []) else digitsL 10 70 (if x_1 < 0 then x_1 + 4294967296 else x_1).toNat []).length : Int)).toNat (48 : UInt8) ++ if x_1 = 0 ∧ p = 0 then [] else
 if OfNat.ofNat (111 : Nat) = 100 ∨ OfNat.ofNat (111 : Nat) = 105 then digitsL 10 70 x_1.natAbs [] else if OfNat.ofNat (111 : Nat) = 111 then digitsL 8 70 (if x_1 < 0 then x_1 + 4294967296 else x_1).toNat [] else if OfNat.ofNat (111 : Nat) = 120 then digitsL 16 70 (if x_1 < 0 then x_1 + 4294967296 else x_1).toNat [] else if OfNat.ofNat (111 : Nat) = 88 then List.map upC (digitsL 16 70
 (if x_1 < 0 then x_1 + 4294967296 else x_1).toNat []) else digitsL 10 70 (if x_1 < 0 then x_1 + 4294967296 else x_1).toNat []) → K (AV.tup [AV.sc (Value.string (ByteArray.mk (Array.mk x.fst))), AV.sc (Value.string (ByteArray.mk (Array.mk x.snd)))])) :
 (fun (a b c e : Bool) (w p k n : Int) (s : List UInt8) (K : AV → Prop) => wpCall M2 Door.cfg Tryd.prog 40 24 [.agg [aBool a, aBool b, aBool c, aBool e, aK .i64 w, aK .i64 p, aK .u8 111], .agg [aK .i64 k, aK .i64 n, aStr s]] heapF fun r h' => wpBack h' r K) a b c e w p k n s K :=
 Eq.mp (by kernel_rfl) h
theorem s24_117 (a : Bool) (b : Bool) (c : Bool) (e : Bool) (w : Int) (p : Int) (k : Int) (n : Int) (s : List UInt8) (K : AV → Prop) (h :
 s.length.le 1000000 ∧ ∀ (x : Int), x = numberF k n s → True ∧ ∀ (x_1 : Int), x_1 = (nearF x).tdiv 10000 → ((-1) ≤ p ∧ p ≤ 255 ∧ (-1000000000) ≤ x_1 ∧ x_1 ≤ 1000000000 ∧ true = true) ∧ ∀ (x : List UInt8 × List UInt8), x = (if OfNat.ofNat (117 : Nat) = 100 ∨ OfNat.ofNat (117 : Nat) = 105 then if decide (x_1 < 0) = true then [(45 : UInt8)]
 else if c = true then [(43 : UInt8)] else if e = true then [(32 : UInt8)] else [] else [], List.replicate (p - (↑(if x_1 = 0 ∧ p = 0 then [] else if OfNat.ofNat (117 : Nat) = 100 ∨ OfNat.ofNat (117 : Nat) = 105 then digitsL 10 70 x_1.natAbs [] else if OfNat.ofNat (117 : Nat) = 111 then digitsL 8 70 (if x_1 < 0 then x_1 + 4294967296 else x_1).toNat [] else if OfNat.ofNat (117 : Nat) = 120 then
 digitsL 16 70 (if x_1 < 0 then x_1 + 4294967296 else x_1).toNat [] else if OfNat.ofNat (117 : Nat) = 88 then List.map upC (digitsL 16 70 (if x_1 < 0 then x_1 + 4294967296 else x_1).toNat []) else digitsL 10 70 (if x_1 < 0 then x_1 + 4294967296 else x_1).toNat []).length : Int)).toNat (48 : UInt8) ++ if x_1 = 0 ∧ p = 0 then [] else
 if OfNat.ofNat (117 : Nat) = 100 ∨ OfNat.ofNat (117 : Nat) = 105 then digitsL 10 70 x_1.natAbs [] else if OfNat.ofNat (117 : Nat) = 111 then digitsL 8 70 (if x_1 < 0 then x_1 + 4294967296 else x_1).toNat [] else if OfNat.ofNat (117 : Nat) = 120 then digitsL 16 70 (if x_1 < 0 then x_1 + 4294967296 else x_1).toNat [] else if OfNat.ofNat (117 : Nat) = 88 then List.map upC (digitsL 16 70
 (if x_1 < 0 then x_1 + 4294967296 else x_1).toNat []) else digitsL 10 70 (if x_1 < 0 then x_1 + 4294967296 else x_1).toNat []) → K (AV.tup [AV.sc (Value.string (ByteArray.mk (Array.mk x.fst))), AV.sc (Value.string (ByteArray.mk (Array.mk x.snd)))])) :
 (fun (a b c e : Bool) (w p k n : Int) (s : List UInt8) (K : AV → Prop) => wpCall M2 Door.cfg Tryd.prog 40 24 [.agg [aBool a, aBool b, aBool c, aBool e, aK .i64 w, aK .i64 p, aK .u8 117], .agg [aK .i64 k, aK .i64 n, aStr s]] heapF fun r h' => wpBack h' r K) a b c e w p k n s K :=
 Eq.mp (by kernel_rfl) h
theorem s24_120 (a : Bool) (b : Bool) (c : Bool) (e : Bool) (w : Int) (p : Int) (k : Int) (n : Int) (s : List UInt8) (K : AV → Prop) (h :
 s.length.le 1000000 ∧ ∀ (x : Int), x = numberF k n s → True ∧ ∀ (x_1 : Int), x_1 = (nearF x).tdiv 10000 → ((-1) ≤ p ∧ p ≤ 255 ∧ (-1000000000) ≤ x_1 ∧ x_1 ≤ 1000000000 ∧ true = true) ∧ ∀ (x : List UInt8 × List UInt8), x = (if OfNat.ofNat (120 : Nat) = 100 ∨ OfNat.ofNat (120 : Nat) = 105 then if decide (x_1 < 0) = true then [(45 : UInt8)]
 else if c = true then [(43 : UInt8)] else if e = true then [(32 : UInt8)] else [] else [], List.replicate (p - (↑(if x_1 = 0 ∧ p = 0 then [] else if OfNat.ofNat (120 : Nat) = 100 ∨ OfNat.ofNat (120 : Nat) = 105 then digitsL 10 70 x_1.natAbs [] else if OfNat.ofNat (120 : Nat) = 111 then digitsL 8 70 (if x_1 < 0 then x_1 + 4294967296 else x_1).toNat [] else if OfNat.ofNat (120 : Nat) = 120 then
 digitsL 16 70 (if x_1 < 0 then x_1 + 4294967296 else x_1).toNat [] else if OfNat.ofNat (120 : Nat) = 88 then List.map upC (digitsL 16 70 (if x_1 < 0 then x_1 + 4294967296 else x_1).toNat []) else digitsL 10 70 (if x_1 < 0 then x_1 + 4294967296 else x_1).toNat []).length : Int)).toNat (48 : UInt8) ++ if x_1 = 0 ∧ p = 0 then [] else
 if OfNat.ofNat (120 : Nat) = 100 ∨ OfNat.ofNat (120 : Nat) = 105 then digitsL 10 70 x_1.natAbs [] else if OfNat.ofNat (120 : Nat) = 111 then digitsL 8 70 (if x_1 < 0 then x_1 + 4294967296 else x_1).toNat [] else if OfNat.ofNat (120 : Nat) = 120 then digitsL 16 70 (if x_1 < 0 then x_1 + 4294967296 else x_1).toNat [] else if OfNat.ofNat (120 : Nat) = 88 then List.map upC (digitsL 16 70
 (if x_1 < 0 then x_1 + 4294967296 else x_1).toNat []) else digitsL 10 70 (if x_1 < 0 then x_1 + 4294967296 else x_1).toNat []) → K (AV.tup [AV.sc (Value.string (ByteArray.mk (Array.mk x.fst))), AV.sc (Value.string (ByteArray.mk (Array.mk x.snd)))])) :
 (fun (a b c e : Bool) (w p k n : Int) (s : List UInt8) (K : AV → Prop) => wpCall M2 Door.cfg Tryd.prog 40 24 [.agg [aBool a, aBool b, aBool c, aBool e, aK .i64 w, aK .i64 p, aK .u8 120], .agg [aK .i64 k, aK .i64 n, aStr s]] heapF fun r h' => wpBack h' r K) a b c e w p k n s K :=
 Eq.mp (by kernel_rfl) h
theorem s24_88 (a : Bool) (b : Bool) (c : Bool) (e : Bool) (w : Int) (p : Int) (k : Int) (n : Int) (s : List UInt8) (K : AV → Prop) (h :
 s.length.le 1000000 ∧ ∀ (x : Int), x = numberF k n s → True ∧ ∀ (x_1 : Int), x_1 = (nearF x).tdiv 10000 → ((-1) ≤ p ∧ p ≤ 255 ∧ (-1000000000) ≤ x_1 ∧ x_1 ≤ 1000000000 ∧ true = true) ∧ ∀ (x : List UInt8 × List UInt8), x = (if OfNat.ofNat (88 : Nat) = 100 ∨ OfNat.ofNat (88 : Nat) = 105 then if decide (x_1 < 0) = true then [(45 : UInt8)]
 else if c = true then [(43 : UInt8)] else if e = true then [(32 : UInt8)] else [] else [], List.replicate (p - (↑(if x_1 = 0 ∧ p = 0 then [] else if OfNat.ofNat (88 : Nat) = 100 ∨ OfNat.ofNat (88 : Nat) = 105 then digitsL 10 70 x_1.natAbs [] else if OfNat.ofNat (88 : Nat) = 111 then digitsL 8 70 (if x_1 < 0 then x_1 + 4294967296 else x_1).toNat [] else if OfNat.ofNat (88 : Nat) = 120 then
 digitsL 16 70 (if x_1 < 0 then x_1 + 4294967296 else x_1).toNat [] else if OfNat.ofNat (88 : Nat) = 88 then List.map upC (digitsL 16 70 (if x_1 < 0 then x_1 + 4294967296 else x_1).toNat []) else digitsL 10 70 (if x_1 < 0 then x_1 + 4294967296 else x_1).toNat []).length : Int)).toNat (48 : UInt8) ++ if x_1 = 0 ∧ p = 0 then [] else if OfNat.ofNat (88 : Nat) = 100 ∨ OfNat.ofNat (88 : Nat) = 105 then
 digitsL 10 70 x_1.natAbs [] else if OfNat.ofNat (88 : Nat) = 111 then digitsL 8 70 (if x_1 < 0 then x_1 + 4294967296 else x_1).toNat [] else if OfNat.ofNat (88 : Nat) = 120 then digitsL 16 70 (if x_1 < 0 then x_1 + 4294967296 else x_1).toNat [] else if OfNat.ofNat (88 : Nat) = 88 then List.map upC (digitsL 16 70 (if x_1 < 0 then x_1 + 4294967296 else x_1).toNat []) else digitsL 10 70
 (if x_1 < 0 then x_1 + 4294967296 else x_1).toNat []) → K (AV.tup [AV.sc (Value.string (ByteArray.mk (Array.mk x.fst))), AV.sc (Value.string (ByteArray.mk (Array.mk x.snd)))])) :
 (fun (a b c e : Bool) (w p k n : Int) (s : List UInt8) (K : AV → Prop) => wpCall M2 Door.cfg Tryd.prog 40 24 [.agg [aBool a, aBool b, aBool c, aBool e, aK .i64 w, aK .i64 p, aK .u8 88], .agg [aK .i64 k, aK .i64 n, aStr s]] heapF fun r h' => wpBack h' r K) a b c e w p k n s K :=
 Eq.mp (by kernel_rfl) h
end
end Go.Proofs.Pr
