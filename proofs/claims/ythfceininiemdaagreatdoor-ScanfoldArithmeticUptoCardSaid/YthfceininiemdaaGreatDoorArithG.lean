/- A part of the proof: definitions and lemmas. -/
import Derived.Test.YthfceininiemdaaGreatDoorArithA
import Derived.Test.YthfceininiemdaaGreatDoorArithB
import Derived.Test.YthfceininiemdaaGreatDoorArithC
import Derived.Test.YthfceininiemdaaGreatDoorArithD
import Derived.Test.YthfceininiemdaaGreatDoorArithE
import Derived.Test.YthfceininiemdaaGreatDoorArithF
namespace Go.Proofs.Sf
open Go Go.Ef
noncomputable section
set_option maxRecDepth 100000
theorem lawAdd (a : Int) (b : Int) (K : AV → Prop) (h :
 True ∧
 ∀ (_ : List UInt8 × List UInt8 × List UInt8 × List (List AV)),
 True →
 True ∧
 (∀ (x : Int),
 Is (nodeF [(43 : UInt8)] a b) x →
 iteP (decide (a < (-10000000000000 : Int))) (Never ∧ True)
 (iteP (decide ((10000000000000 : Int) < a)) (Never ∧ True)
 (iteP (decide (b < (-10000000000000 : Int))) (Never ∧ True)
 (iteP (decide ((10000000000000 : Int) < b)) (Never ∧ True)
 (D1 a ∧
 ∀ (_ : Unit),
 True →
 D1 b ∧
 ∀ (_ : Unit),
 True →
 D2 a b ∧
 (∀ (x_3 : Int),
 Is (arithF [(43 : UInt8)] a b) x_3 →
 True ∧
 ∀ (x_4 : Bool),
 x_4 = (decide (x = x_3) && true) →
 iteP x_4 (True ∧ ∀ (_ : Unit), True → K (AV.sc (Value.bool true)))
 (K (AV.sc (Value.bool false)))) ∧
 ∀ (x_3 : Int),
 Non (arithF [(43 : UInt8)] a b) x_3 →
 iteP (x_3 != (0 : Int)) (Never ∧ True)
 (True ∧
 ∀ (x_4 : Bool),
 x_4 = (decide (x = (0 : Int)) && true) →
 iteP x_4 (True ∧ ∀ (_ : Unit), True → K (AV.sc (Value.bool true)))
 (K (AV.sc (Value.bool false))))))))) ∧
 ∀ (_ : Unit),
 nodeF [(43 : UInt8)] a b = none →
 iteP (decide (a < (-10000000000000 : Int)))
 (SameB [(43 : UInt8)] [(43 : UInt8)] a a b b (4 : Int) (4 : Int) (8 : Int) (8 : Int) (4 : Int)
 (4 : Int) ∧
 ∀ (_ : Unit), True → True ∧ ∀ (_ : Unit), True → K (AV.sc (Value.bool true)))
 (iteP (decide ((10000000000000 : Int) < a))
 (SameB [(43 : UInt8)] [(43 : UInt8)] a a b b (4 : Int) (4 : Int) (8 : Int) (8 : Int) (4 : Int)
 (4 : Int) ∧
 ∀ (_ : Unit), True → True ∧ ∀ (_ : Unit), True → K (AV.sc (Value.bool true)))
 (iteP (decide (b < (-10000000000000 : Int)))
 (SameB [(43 : UInt8)] [(43 : UInt8)] a a b b (4 : Int) (4 : Int) (8 : Int) (8 : Int) (4 : Int)
 (4 : Int) ∧
 ∀ (_ : Unit), True → True ∧ ∀ (_ : Unit), True → K (AV.sc (Value.bool true)))
 (iteP (decide ((10000000000000 : Int) < b))
 (SameB [(43 : UInt8)] [(43 : UInt8)] a a b b (4 : Int) (4 : Int) (8 : Int) (8 : Int) (4 : Int)
 (4 : Int) ∧
 ∀ (_ : Unit), True → True ∧ ∀ (_ : Unit), True → K (AV.sc (Value.bool true)))
 (D1 a ∧
 ∀ (_ : Unit),
 True →
 D1 b ∧
 ∀ (_ : Unit),
 True →
 D2 a b ∧
 (∀ (x : Int), Is (arithF [(43 : UInt8)] a b) x → Never ∧ True) ∧
 ∀ (x : Int),
 Non (arithF [(43 : UInt8)] a b) x →
 iteP (x != (0 : Int))
 (SameB [(43 : UInt8)] [(43 : UInt8)] a a b b (4 : Int) (4 : Int) (8 : Int)
 (8 : Int) (4 : Int) (4 : Int) ∧
 ∀ (_ : Unit),
 True → True ∧ ∀ (_ : Unit), True → K (AV.sc (Value.bool true)))
 (Never ∧ True)))))) :
 (fun (a b : Int) (K : AV → Prop) => wpCall TLaw cfg Tryz.prog 60 7 [aStr oAdd, iA a, iA b] heap0 fun r _ => K r) a b K :=
 Eq.mp (by kernel_rfl) h
theorem lawSub (a : Int) (b : Int) (K : AV → Prop) (h :
 True ∧
 ∀ (_ : List UInt8 × List UInt8 × List UInt8 × List (List AV)),
 True →
 True ∧
 (∀ (x : Int),
 Is (nodeF [(45 : UInt8)] a b) x →
 iteP (decide (a < (-10000000000000 : Int))) (Never ∧ True)
 (iteP (decide ((10000000000000 : Int) < a)) (Never ∧ True)
 (iteP (decide (b < (-10000000000000 : Int))) (Never ∧ True)
 (iteP (decide ((10000000000000 : Int) < b)) (Never ∧ True)
 (D1 a ∧
 ∀ (_ : Unit),
 True →
 D1 b ∧
 ∀ (_ : Unit),
 True →
 D2 a b ∧
 (∀ (x_3 : Int),
 Is (arithF [(45 : UInt8)] a b) x_3 →
 True ∧
 ∀ (x_4 : Bool),
 x_4 = (decide (x = x_3) && true) →
 iteP x_4 (True ∧ ∀ (_ : Unit), True → K (AV.sc (Value.bool true)))
 (K (AV.sc (Value.bool false)))) ∧
 ∀ (x_3 : Int),
 Non (arithF [(45 : UInt8)] a b) x_3 →
 iteP (x_3 != (0 : Int)) (Never ∧ True)
 (True ∧
 ∀ (x_4 : Bool),
 x_4 = (decide (x = (0 : Int)) && true) →
 iteP x_4 (True ∧ ∀ (_ : Unit), True → K (AV.sc (Value.bool true)))
 (K (AV.sc (Value.bool false))))))))) ∧
 ∀ (_ : Unit),
 nodeF [(45 : UInt8)] a b = none →
 iteP (decide (a < (-10000000000000 : Int)))
 (SameB [(45 : UInt8)] [(45 : UInt8)] a a b b (4 : Int) (4 : Int) (8 : Int) (8 : Int) (4 : Int)
 (4 : Int) ∧
 ∀ (_ : Unit), True → True ∧ ∀ (_ : Unit), True → K (AV.sc (Value.bool true)))
 (iteP (decide ((10000000000000 : Int) < a))
 (SameB [(45 : UInt8)] [(45 : UInt8)] a a b b (4 : Int) (4 : Int) (8 : Int) (8 : Int) (4 : Int)
 (4 : Int) ∧
 ∀ (_ : Unit), True → True ∧ ∀ (_ : Unit), True → K (AV.sc (Value.bool true)))
 (iteP (decide (b < (-10000000000000 : Int)))
 (SameB [(45 : UInt8)] [(45 : UInt8)] a a b b (4 : Int) (4 : Int) (8 : Int) (8 : Int) (4 : Int)
 (4 : Int) ∧
 ∀ (_ : Unit), True → True ∧ ∀ (_ : Unit), True → K (AV.sc (Value.bool true)))
 (iteP (decide ((10000000000000 : Int) < b))
 (SameB [(45 : UInt8)] [(45 : UInt8)] a a b b (4 : Int) (4 : Int) (8 : Int) (8 : Int) (4 : Int)
 (4 : Int) ∧
 ∀ (_ : Unit), True → True ∧ ∀ (_ : Unit), True → K (AV.sc (Value.bool true)))
 (D1 a ∧
 ∀ (_ : Unit),
 True →
 D1 b ∧
 ∀ (_ : Unit),
 True →
 D2 a b ∧
 (∀ (x : Int), Is (arithF [(45 : UInt8)] a b) x → Never ∧ True) ∧
 ∀ (x : Int),
 Non (arithF [(45 : UInt8)] a b) x →
 iteP (x != (0 : Int))
 (SameB [(45 : UInt8)] [(45 : UInt8)] a a b b (4 : Int) (4 : Int) (8 : Int)
 (8 : Int) (4 : Int) (4 : Int) ∧
 ∀ (_ : Unit),
 True → True ∧ ∀ (_ : Unit), True → K (AV.sc (Value.bool true)))
 (Never ∧ True)))))) :
 (fun (a b : Int) (K : AV → Prop) => wpCall TLaw cfg Tryz.prog 60 7 [aStr oSub, iA a, iA b] heap0 fun r _ => K r) a b K :=
 Eq.mp (by kernel_rfl) h
theorem lawMul (a : Int) (b : Int) (K : AV → Prop) (h :
 True ∧
 ∀ (_ : List UInt8 × List UInt8 × List UInt8 × List (List AV)),
 True →
 True ∧
 (∀ (x : Int),
 Is (nodeF [(42 : UInt8)] a b) x →
 iteP (decide (a < (-10000000000000 : Int))) (Never ∧ True)
 (iteP (decide ((10000000000000 : Int) < a)) (Never ∧ True)
 (iteP (decide (b < (-10000000000000 : Int))) (Never ∧ True)
 (iteP (decide ((10000000000000 : Int) < b)) (Never ∧ True)
 (D1 a ∧
 ∀ (_ : Unit),
 True →
 D1 b ∧
 ∀ (_ : Unit),
 True →
 D2 a b ∧
 (∀ (x_3 : Int),
 Is (arithF [(42 : UInt8)] a b) x_3 →
 True ∧
 ∀ (x_4 : Bool),
 x_4 = (decide (x = x_3) && true) →
 iteP x_4 (True ∧ ∀ (_ : Unit), True → K (AV.sc (Value.bool true)))
 (K (AV.sc (Value.bool false)))) ∧
 ∀ (x_3 : Int),
 Non (arithF [(42 : UInt8)] a b) x_3 →
 iteP (x_3 != (0 : Int)) (Never ∧ True)
 (True ∧
 ∀ (x_4 : Bool),
 x_4 = (decide (x = (0 : Int)) && true) →
 iteP x_4 (True ∧ ∀ (_ : Unit), True → K (AV.sc (Value.bool true)))
 (K (AV.sc (Value.bool false))))))))) ∧
 ∀ (_ : Unit),
 nodeF [(42 : UInt8)] a b = none →
 iteP (decide (a < (-10000000000000 : Int)))
 (SameB [(42 : UInt8)] [(42 : UInt8)] a a b b (4 : Int) (4 : Int) (8 : Int) (8 : Int) (4 : Int)
 (4 : Int) ∧
 ∀ (_ : Unit), True → True ∧ ∀ (_ : Unit), True → K (AV.sc (Value.bool true)))
 (iteP (decide ((10000000000000 : Int) < a))
 (SameB [(42 : UInt8)] [(42 : UInt8)] a a b b (4 : Int) (4 : Int) (8 : Int) (8 : Int) (4 : Int)
 (4 : Int) ∧
 ∀ (_ : Unit), True → True ∧ ∀ (_ : Unit), True → K (AV.sc (Value.bool true)))
 (iteP (decide (b < (-10000000000000 : Int)))
 (SameB [(42 : UInt8)] [(42 : UInt8)] a a b b (4 : Int) (4 : Int) (8 : Int) (8 : Int) (4 : Int)
 (4 : Int) ∧
 ∀ (_ : Unit), True → True ∧ ∀ (_ : Unit), True → K (AV.sc (Value.bool true)))
 (iteP (decide ((10000000000000 : Int) < b))
 (SameB [(42 : UInt8)] [(42 : UInt8)] a a b b (4 : Int) (4 : Int) (8 : Int) (8 : Int) (4 : Int)
 (4 : Int) ∧
 ∀ (_ : Unit), True → True ∧ ∀ (_ : Unit), True → K (AV.sc (Value.bool true)))
 (D1 a ∧
 ∀ (_ : Unit),
 True →
 D1 b ∧
 ∀ (_ : Unit),
 True →
 D2 a b ∧
 (∀ (x : Int), Is (arithF [(42 : UInt8)] a b) x → Never ∧ True) ∧
 ∀ (x : Int),
 Non (arithF [(42 : UInt8)] a b) x →
 iteP (x != (0 : Int))
 (SameB [(42 : UInt8)] [(42 : UInt8)] a a b b (4 : Int) (4 : Int) (8 : Int)
 (8 : Int) (4 : Int) (4 : Int) ∧
 ∀ (_ : Unit),
 True → True ∧ ∀ (_ : Unit), True → K (AV.sc (Value.bool true)))
 (Never ∧ True)))))) :
 (fun (a b : Int) (K : AV → Prop) => wpCall TLaw cfg Tryz.prog 60 7 [aStr oMul, iA a, iA b] heap0 fun r _ => K r) a b K :=
 Eq.mp (by kernel_rfl) h
theorem lawDiv (a : Int) (b : Int) (K : AV → Prop) (h :
 True ∧
 ∀ (_ : List UInt8 × List UInt8 × List UInt8 × List (List AV)),
 True →
 True ∧
 (∀ (x : Int),
 Is (nodeF [(47 : UInt8)] a b) x →
 iteP (decide (a < (-10000000000000 : Int))) (Never ∧ True)
 (iteP (decide ((10000000000000 : Int) < a)) (Never ∧ True)
 (iteP (decide (b < (-10000000000000 : Int))) (Never ∧ True)
 (iteP (decide ((10000000000000 : Int) < b)) (Never ∧ True)
 (D1 a ∧
 ∀ (_ : Unit),
 True →
 D1 b ∧
 ∀ (_ : Unit),
 True →
 D2 a b ∧
 (∀ (x_3 : Int),
 Is (arithF [(47 : UInt8)] a b) x_3 →
 True ∧
 ∀ (x_4 : Bool),
 x_4 = (decide (x = x_3) && true) →
 iteP x_4 (True ∧ ∀ (_ : Unit), True → K (AV.sc (Value.bool true)))
 (K (AV.sc (Value.bool false)))) ∧
 ∀ (x_3 : Int),
 Non (arithF [(47 : UInt8)] a b) x_3 →
 iteP (x_3 != (0 : Int)) (Never ∧ True)
 (True ∧
 ∀ (x_4 : Bool),
 x_4 = (decide (x = (0 : Int)) && true) →
 iteP x_4 (True ∧ ∀ (_ : Unit), True → K (AV.sc (Value.bool true)))
 (K (AV.sc (Value.bool false))))))))) ∧
 ∀ (_ : Unit),
 nodeF [(47 : UInt8)] a b = none →
 iteP (decide (a < (-10000000000000 : Int)))
 (SameB [(47 : UInt8)] [(47 : UInt8)] a a b b (4 : Int) (4 : Int) (8 : Int) (8 : Int) (4 : Int)
 (4 : Int) ∧
 ∀ (_ : Unit), True → True ∧ ∀ (_ : Unit), True → K (AV.sc (Value.bool true)))
 (iteP (decide ((10000000000000 : Int) < a))
 (SameB [(47 : UInt8)] [(47 : UInt8)] a a b b (4 : Int) (4 : Int) (8 : Int) (8 : Int) (4 : Int)
 (4 : Int) ∧
 ∀ (_ : Unit), True → True ∧ ∀ (_ : Unit), True → K (AV.sc (Value.bool true)))
 (iteP (decide (b < (-10000000000000 : Int)))
 (SameB [(47 : UInt8)] [(47 : UInt8)] a a b b (4 : Int) (4 : Int) (8 : Int) (8 : Int) (4 : Int)
 (4 : Int) ∧
 ∀ (_ : Unit), True → True ∧ ∀ (_ : Unit), True → K (AV.sc (Value.bool true)))
 (iteP (decide ((10000000000000 : Int) < b))
 (SameB [(47 : UInt8)] [(47 : UInt8)] a a b b (4 : Int) (4 : Int) (8 : Int) (8 : Int) (4 : Int)
 (4 : Int) ∧
 ∀ (_ : Unit), True → True ∧ ∀ (_ : Unit), True → K (AV.sc (Value.bool true)))
 (D1 a ∧
 ∀ (_ : Unit),
 True →
 D1 b ∧
 ∀ (_ : Unit),
 True →
 D2 a b ∧
 (∀ (x : Int), Is (arithF [(47 : UInt8)] a b) x → Never ∧ True) ∧
 ∀ (x : Int),
 Non (arithF [(47 : UInt8)] a b) x →
 iteP (x != (0 : Int))
 (SameB [(47 : UInt8)] [(47 : UInt8)] a a b b (4 : Int) (4 : Int) (8 : Int)
 (8 : Int) (4 : Int) (4 : Int) ∧
 ∀ (_ : Unit),
 True → True ∧ ∀ (_ : Unit), True → K (AV.sc (Value.bool true)))
 (Never ∧ True)))))) :
 (fun (a b : Int) (K : AV → Prop) => wpCall TLaw cfg Tryz.prog 60 7 [aStr oDiv, iA a, iA b] heap0 fun r _ => K r) a b K :=
 Eq.mp (by kernel_rfl) h
theorem lawMod (a : Int) (b : Int) (K : AV → Prop) (h :
 True ∧
 ∀ (_ : List UInt8 × List UInt8 × List UInt8 × List (List AV)),
 True →
 True ∧
 (∀ (x : Int),
 Is (nodeF [(37 : UInt8)] a b) x →
 iteP (decide (a < (-10000000000000 : Int))) (Never ∧ True)
 (iteP (decide ((10000000000000 : Int) < a)) (Never ∧ True)
 (iteP (decide (b < (-10000000000000 : Int))) (Never ∧ True)
 (iteP (decide ((10000000000000 : Int) < b)) (Never ∧ True)
 (D1 a ∧
 ∀ (_ : Unit),
 True →
 D1 b ∧
 ∀ (_ : Unit),
 True →
 D2 a b ∧
 (∀ (x_3 : Int),
 Is (arithF [(37 : UInt8)] a b) x_3 →
 True ∧
 ∀ (x_4 : Bool),
 x_4 = (decide (x = x_3) && true) →
 iteP x_4 (True ∧ ∀ (_ : Unit), True → K (AV.sc (Value.bool true)))
 (K (AV.sc (Value.bool false)))) ∧
 ∀ (x_3 : Int),
 Non (arithF [(37 : UInt8)] a b) x_3 →
 iteP (x_3 != (0 : Int)) (Never ∧ True)
 (True ∧
 ∀ (x_4 : Bool),
 x_4 = (decide (x = (0 : Int)) && true) →
 iteP x_4 (True ∧ ∀ (_ : Unit), True → K (AV.sc (Value.bool true)))
 (K (AV.sc (Value.bool false))))))))) ∧
 ∀ (_ : Unit),
 nodeF [(37 : UInt8)] a b = none →
 iteP (decide (a < (-10000000000000 : Int)))
 (SameB [(37 : UInt8)] [(37 : UInt8)] a a b b (4 : Int) (4 : Int) (8 : Int) (8 : Int) (4 : Int)
 (4 : Int) ∧
 ∀ (_ : Unit), True → True ∧ ∀ (_ : Unit), True → K (AV.sc (Value.bool true)))
 (iteP (decide ((10000000000000 : Int) < a))
 (SameB [(37 : UInt8)] [(37 : UInt8)] a a b b (4 : Int) (4 : Int) (8 : Int) (8 : Int) (4 : Int)
 (4 : Int) ∧
 ∀ (_ : Unit), True → True ∧ ∀ (_ : Unit), True → K (AV.sc (Value.bool true)))
 (iteP (decide (b < (-10000000000000 : Int)))
 (SameB [(37 : UInt8)] [(37 : UInt8)] a a b b (4 : Int) (4 : Int) (8 : Int) (8 : Int) (4 : Int)
 (4 : Int) ∧
 ∀ (_ : Unit), True → True ∧ ∀ (_ : Unit), True → K (AV.sc (Value.bool true)))
 (iteP (decide ((10000000000000 : Int) < b))
 (SameB [(37 : UInt8)] [(37 : UInt8)] a a b b (4 : Int) (4 : Int) (8 : Int) (8 : Int) (4 : Int)
 (4 : Int) ∧
 ∀ (_ : Unit), True → True ∧ ∀ (_ : Unit), True → K (AV.sc (Value.bool true)))
 (D1 a ∧
 ∀ (_ : Unit),
 True →
 D1 b ∧
 ∀ (_ : Unit),
 True →
 D2 a b ∧
 (∀ (x : Int), Is (arithF [(37 : UInt8)] a b) x → Never ∧ True) ∧
 ∀ (x : Int),
 Non (arithF [(37 : UInt8)] a b) x →
 iteP (x != (0 : Int))
 (SameB [(37 : UInt8)] [(37 : UInt8)] a a b b (4 : Int) (4 : Int) (8 : Int)
 (8 : Int) (4 : Int) (4 : Int) ∧
 ∀ (_ : Unit),
 True → True ∧ ∀ (_ : Unit), True → K (AV.sc (Value.bool true)))
 (Never ∧ True)))))) :
 (fun (a b : Int) (K : AV → Prop) => wpCall TLaw cfg Tryz.prog 60 7 [aStr oMod, iA a, iA b] heap0 fun r _ => K r) a b K :=
 Eq.mp (by kernel_rfl) h
theorem lawPow (a : Int) (b : Int) (K : AV → Prop) (h :
 True ∧
 ∀ (_ : List UInt8 × List UInt8 × List UInt8 × List (List AV)),
 True →
 True ∧
 (∀ (x : Int),
 Is (nodeF [(94 : UInt8)] a b) x →
 iteP (decide (a < (-10000000000000 : Int))) (Never ∧ True)
 (iteP (decide ((10000000000000 : Int) < a)) (Never ∧ True)
 (iteP (decide (b < (-10000000000000 : Int))) (Never ∧ True)
 (iteP (decide ((10000000000000 : Int) < b)) (Never ∧ True)
 (D1 a ∧
 ∀ (_ : Unit),
 True →
 D1 b ∧
 ∀ (_ : Unit),
 True →
 D2 a b ∧
 (∀ (x_3 : Int),
 Is (arithF [(94 : UInt8)] a b) x_3 →
 True ∧
 ∀ (x_4 : Bool),
 x_4 = (decide (x = x_3) && true) →
 iteP x_4 (True ∧ ∀ (_ : Unit), True → K (AV.sc (Value.bool true)))
 (K (AV.sc (Value.bool false)))) ∧
 ∀ (x_3 : Int),
 Non (arithF [(94 : UInt8)] a b) x_3 →
 iteP (x_3 != (0 : Int)) (Never ∧ True)
 (True ∧
 ∀ (x_4 : Bool),
 x_4 = (decide (x = (0 : Int)) && true) →
 iteP x_4 (True ∧ ∀ (_ : Unit), True → K (AV.sc (Value.bool true)))
 (K (AV.sc (Value.bool false))))))))) ∧
 ∀ (_ : Unit),
 nodeF [(94 : UInt8)] a b = none →
 iteP (decide (a < (-10000000000000 : Int)))
 (SameB [(94 : UInt8)] [(94 : UInt8)] a a b b (4 : Int) (4 : Int) (8 : Int) (8 : Int) (4 : Int)
 (4 : Int) ∧
 ∀ (_ : Unit), True → True ∧ ∀ (_ : Unit), True → K (AV.sc (Value.bool true)))
 (iteP (decide ((10000000000000 : Int) < a))
 (SameB [(94 : UInt8)] [(94 : UInt8)] a a b b (4 : Int) (4 : Int) (8 : Int) (8 : Int) (4 : Int)
 (4 : Int) ∧
 ∀ (_ : Unit), True → True ∧ ∀ (_ : Unit), True → K (AV.sc (Value.bool true)))
 (iteP (decide (b < (-10000000000000 : Int)))
 (SameB [(94 : UInt8)] [(94 : UInt8)] a a b b (4 : Int) (4 : Int) (8 : Int) (8 : Int) (4 : Int)
 (4 : Int) ∧
 ∀ (_ : Unit), True → True ∧ ∀ (_ : Unit), True → K (AV.sc (Value.bool true)))
 (iteP (decide ((10000000000000 : Int) < b))
 (SameB [(94 : UInt8)] [(94 : UInt8)] a a b b (4 : Int) (4 : Int) (8 : Int) (8 : Int) (4 : Int)
 (4 : Int) ∧
 ∀ (_ : Unit), True → True ∧ ∀ (_ : Unit), True → K (AV.sc (Value.bool true)))
 (D1 a ∧
 ∀ (_ : Unit),
 True →
 D1 b ∧
 ∀ (_ : Unit),
 True →
 D2 a b ∧
 (∀ (x : Int), Is (arithF [(94 : UInt8)] a b) x → Never ∧ True) ∧
 ∀ (x : Int),
 Non (arithF [(94 : UInt8)] a b) x →
 iteP (x != (0 : Int))
 (SameB [(94 : UInt8)] [(94 : UInt8)] a a b b (4 : Int) (4 : Int) (8 : Int)
 (8 : Int) (4 : Int) (4 : Int) ∧
 ∀ (_ : Unit),
 True → True ∧ ∀ (_ : Unit), True → K (AV.sc (Value.bool true)))
 (Never ∧ True)))))) :
 (fun (a b : Int) (K : AV → Prop) => wpCall TLaw cfg Tryz.prog 60 7 [aStr oPow, iA a, iA b] heap0 fun r _ => K r) a b K :=
 Eq.mp (by kernel_rfl) h
theorem lawLt (a : Int) (b : Int) (K : AV → Prop) (h :
 True ∧
 ∀ (_ : List UInt8 × List UInt8 × List UInt8 × List (List AV)),
 True →
 True ∧
 (∀ (x : Int),
 Is (nodeF [(60 : UInt8)] a b) x →
 iteP (decide (a < (-10000000000000 : Int))) (Never ∧ True)
 (iteP (decide ((10000000000000 : Int) < a)) (Never ∧ True)
 (iteP (decide (b < (-10000000000000 : Int))) (Never ∧ True)
 (iteP (decide ((10000000000000 : Int) < b)) (Never ∧ True)
 (D1 a ∧
 ∀ (_ : Unit),
 True →
 D1 b ∧
 ∀ (_ : Unit),
 True →
 D2 a b ∧
 (∀ (x_3 : Int),
 Is none x_3 →
 D1 (0 : Int) ∧
 ∀ (_ : Unit),
 True →
 iteP (decide (a < b))
 (D1 (10000 : Int) ∧
 ∀ (_ : Unit),
 True →
 True ∧
 ∀ (x_6 : Bool),
 x_6 = (decide (x = (10000 : Int)) && true) →
 iteP x_6
 (True ∧
 ∀ (_ : Unit), True → K (AV.sc (Value.bool true)))
 (K (AV.sc (Value.bool false))))
 (True ∧
 ∀ (x_5 : Bool),
 x_5 = (decide (x = (0 : Int)) && true) →
 iteP x_5
 (True ∧ ∀ (_ : Unit), True → K (AV.sc (Value.bool true)))
 (K (AV.sc (Value.bool false))))) ∧
 ∀ (x_3 : Int),
 Non none x_3 →
 D1 (0 : Int) ∧
 ∀ (_ : Unit),
 True →
 iteP (decide (a < b))
 (D1 (10000 : Int) ∧
 ∀ (_ : Unit),
 True →
 True ∧
 ∀ (x_6 : Bool),
 x_6 = (decide (x = (10000 : Int)) && true) →
 iteP x_6
 (True ∧
 ∀ (_ : Unit), True → K (AV.sc (Value.bool true)))
 (K (AV.sc (Value.bool false))))
 (True ∧
 ∀ (x_5 : Bool),
 x_5 = (decide (x = (0 : Int)) && true) →
 iteP x_5
 (True ∧ ∀ (_ : Unit), True → K (AV.sc (Value.bool true)))
 (K (AV.sc (Value.bool false))))))))) ∧
 ∀ (_ : Unit),
 nodeF [(60 : UInt8)] a b = none →
 iteP (decide (a < (-10000000000000 : Int)))
 (SameB [(60 : UInt8)] [(60 : UInt8)] a a b b (4 : Int) (4 : Int) (8 : Int) (8 : Int) (4 : Int)
 (4 : Int) ∧
 ∀ (_ : Unit), True → True ∧ ∀ (_ : Unit), True → K (AV.sc (Value.bool true)))
 (iteP (decide ((10000000000000 : Int) < a))
 (SameB [(60 : UInt8)] [(60 : UInt8)] a a b b (4 : Int) (4 : Int) (8 : Int) (8 : Int) (4 : Int)
 (4 : Int) ∧
 ∀ (_ : Unit), True → True ∧ ∀ (_ : Unit), True → K (AV.sc (Value.bool true)))
 (iteP (decide (b < (-10000000000000 : Int)))
 (SameB [(60 : UInt8)] [(60 : UInt8)] a a b b (4 : Int) (4 : Int) (8 : Int) (8 : Int) (4 : Int)
 (4 : Int) ∧
 ∀ (_ : Unit), True → True ∧ ∀ (_ : Unit), True → K (AV.sc (Value.bool true)))
 (iteP (decide ((10000000000000 : Int) < b))
 (SameB [(60 : UInt8)] [(60 : UInt8)] a a b b (4 : Int) (4 : Int) (8 : Int) (8 : Int) (4 : Int)
 (4 : Int) ∧
 ∀ (_ : Unit), True → True ∧ ∀ (_ : Unit), True → K (AV.sc (Value.bool true)))
 (D1 a ∧
 ∀ (_ : Unit),
 True →
 D1 b ∧
 ∀ (_ : Unit),
 True →
 D2 a b ∧
 (∀ (x : Int),
 Is none x →
 D1 (0 : Int) ∧
 ∀ (_ : Unit),
 True →
 iteP (decide (a < b))
 (D1 (10000 : Int) ∧ ∀ (_ : Unit), True → Never ∧ True)
 (Never ∧ True)) ∧
 ∀ (x : Int),
 Non none x →
 D1 (0 : Int) ∧
 ∀ (_ : Unit),
 True →
 iteP (decide (a < b))
 (D1 (10000 : Int) ∧ ∀ (_ : Unit), True → Never ∧ True)
 (Never ∧ True)))))) :
 (fun (a b : Int) (K : AV → Prop) => wpCall TLaw cfg Tryz.prog 60 7 [aStr oLt, iA a, iA b] heap0 fun r _ => K r) a b K :=
 Eq.mp (by kernel_rfl) h
theorem lawLe (a : Int) (b : Int) (K : AV → Prop) (h :
 True ∧
 ∀ (_ : List UInt8 × List UInt8 × List UInt8 × List (List AV)),
 True →
 True ∧
 (∀ (x : Int),
 Is (nodeF [(60 : UInt8), (61 : UInt8)] a b) x →
 iteP (decide (a < (-10000000000000 : Int))) (Never ∧ True)
 (iteP (decide ((10000000000000 : Int) < a)) (Never ∧ True)
 (iteP (decide (b < (-10000000000000 : Int))) (Never ∧ True)
 (iteP (decide ((10000000000000 : Int) < b)) (Never ∧ True)
 (D1 a ∧
 ∀ (_ : Unit),
 True →
 D1 b ∧
 ∀ (_ : Unit),
 True →
 D2 a b ∧
 (∀ (x_3 : Int),
 Is none x_3 →
 iteP (x == (0 : Int))
 (True ∧ ∀ (_ : Unit), True → K (AV.sc (Value.bool true)))
 (iteP (x == (10000 : Int))
 (True ∧ ∀ (_ : Unit), True → K (AV.sc (Value.bool true)))
 (K (AV.sc (Value.bool false))))) ∧
 ∀ (x_3 : Int),
 Non none x_3 →
 iteP (x == (0 : Int))
 (True ∧ ∀ (_ : Unit), True → K (AV.sc (Value.bool true)))
 (iteP (x == (10000 : Int))
 (True ∧ ∀ (_ : Unit), True → K (AV.sc (Value.bool true)))
 (K (AV.sc (Value.bool false))))))))) ∧
 ∀ (_ : Unit),
 nodeF [(60 : UInt8), (61 : UInt8)] a b = none →
 iteP (decide (a < (-10000000000000 : Int)))
 (SameB [(60 : UInt8), (61 : UInt8)] [(60 : UInt8), (61 : UInt8)] a a b b (4 : Int) (4 : Int) (8 : Int)
 (8 : Int) (4 : Int) (4 : Int) ∧
 ∀ (_ : Unit), True → True ∧ ∀ (_ : Unit), True → K (AV.sc (Value.bool true)))
 (iteP (decide ((10000000000000 : Int) < a))
 (SameB [(60 : UInt8), (61 : UInt8)] [(60 : UInt8), (61 : UInt8)] a a b b (4 : Int) (4 : Int) (8 : Int)
 (8 : Int) (4 : Int) (4 : Int) ∧
 ∀ (_ : Unit), True → True ∧ ∀ (_ : Unit), True → K (AV.sc (Value.bool true)))
 (iteP (decide (b < (-10000000000000 : Int)))
 (SameB [(60 : UInt8), (61 : UInt8)] [(60 : UInt8), (61 : UInt8)] a a b b (4 : Int) (4 : Int)
 (8 : Int) (8 : Int) (4 : Int) (4 : Int) ∧
 ∀ (_ : Unit), True → True ∧ ∀ (_ : Unit), True → K (AV.sc (Value.bool true)))
 (iteP (decide ((10000000000000 : Int) < b))
 (SameB [(60 : UInt8), (61 : UInt8)] [(60 : UInt8), (61 : UInt8)] a a b b (4 : Int) (4 : Int)
 (8 : Int) (8 : Int) (4 : Int) (4 : Int) ∧
 ∀ (_ : Unit), True → True ∧ ∀ (_ : Unit), True → K (AV.sc (Value.bool true)))
 (D1 a ∧
 ∀ (_ : Unit),
 True →
 D1 b ∧
 ∀ (_ : Unit),
 True →
 D2 a b ∧
 (∀ (x : Int), Is none x → K (AV.sc (Value.bool false))) ∧
 ∀ (x : Int), Non none x → K (AV.sc (Value.bool false))))))) :
 (fun (a b : Int) (K : AV → Prop) => wpCall TLaw cfg Tryz.prog 60 7 [aStr oLe, iA a, iA b] heap0 fun r _ => K r) a b K :=
 Eq.mp (by kernel_rfl) h
theorem lawEq (a : Int) (b : Int) (K : AV → Prop) (h :
 True ∧
 ∀ (_ : List UInt8 × List UInt8 × List UInt8 × List (List AV)),
 True →
 True ∧
 (∀ (x : Int),
 Is (nodeF [(61 : UInt8), (61 : UInt8)] a b) x →
 iteP (decide (a < (-10000000000000 : Int))) (Never ∧ True)
 (iteP (decide ((10000000000000 : Int) < a)) (Never ∧ True)
 (iteP (decide (b < (-10000000000000 : Int))) (Never ∧ True)
 (iteP (decide ((10000000000000 : Int) < b)) (Never ∧ True)
 (D1 a ∧
 ∀ (_ : Unit),
 True →
 D1 b ∧
 ∀ (_ : Unit),
 True →
 D2 a b ∧
 (∀ (x_3 : Int),
 Is none x_3 →
 D1 (0 : Int) ∧
 ∀ (_ : Unit),
 True →
 iteP (a == b)
 (D1 (10000 : Int) ∧
 ∀ (_ : Unit),
 True →
 True ∧
 ∀ (x_6 : Bool),
 x_6 = (decide (x = (10000 : Int)) && true) →
 iteP x_6
 (True ∧
 ∀ (_ : Unit), True → K (AV.sc (Value.bool true)))
 (K (AV.sc (Value.bool false))))
 (True ∧
 ∀ (x_5 : Bool),
 x_5 = (decide (x = (0 : Int)) && true) →
 iteP x_5
 (True ∧ ∀ (_ : Unit), True → K (AV.sc (Value.bool true)))
 (K (AV.sc (Value.bool false))))) ∧
 ∀ (x_3 : Int),
 Non none x_3 →
 D1 (0 : Int) ∧
 ∀ (_ : Unit),
 True →
 iteP (a == b)
 (D1 (10000 : Int) ∧
 ∀ (_ : Unit),
 True →
 True ∧
 ∀ (x_6 : Bool),
 x_6 = (decide (x = (10000 : Int)) && true) →
 iteP x_6
 (True ∧
 ∀ (_ : Unit), True → K (AV.sc (Value.bool true)))
 (K (AV.sc (Value.bool false))))
 (True ∧
 ∀ (x_5 : Bool),
 x_5 = (decide (x = (0 : Int)) && true) →
 iteP x_5
 (True ∧ ∀ (_ : Unit), True → K (AV.sc (Value.bool true)))
 (K (AV.sc (Value.bool false))))))))) ∧
 ∀ (_ : Unit),
 nodeF [(61 : UInt8), (61 : UInt8)] a b = none →
 iteP (decide (a < (-10000000000000 : Int)))
 (SameB [(61 : UInt8), (61 : UInt8)] [(61 : UInt8), (61 : UInt8)] a a b b (4 : Int) (4 : Int) (8 : Int)
 (8 : Int) (4 : Int) (4 : Int) ∧
 ∀ (_ : Unit), True → True ∧ ∀ (_ : Unit), True → K (AV.sc (Value.bool true)))
 (iteP (decide ((10000000000000 : Int) < a))
 (SameB [(61 : UInt8), (61 : UInt8)] [(61 : UInt8), (61 : UInt8)] a a b b (4 : Int) (4 : Int) (8 : Int)
 (8 : Int) (4 : Int) (4 : Int) ∧
 ∀ (_ : Unit), True → True ∧ ∀ (_ : Unit), True → K (AV.sc (Value.bool true)))
 (iteP (decide (b < (-10000000000000 : Int)))
 (SameB [(61 : UInt8), (61 : UInt8)] [(61 : UInt8), (61 : UInt8)] a a b b (4 : Int) (4 : Int)
 (8 : Int) (8 : Int) (4 : Int) (4 : Int) ∧
 ∀ (_ : Unit), True → True ∧ ∀ (_ : Unit), True → K (AV.sc (Value.bool true)))
 (iteP (decide ((10000000000000 : Int) < b))
 (SameB [(61 : UInt8), (61 : UInt8)] [(61 : UInt8), (61 : UInt8)] a a b b (4 : Int) (4 : Int)
 (8 : Int) (8 : Int) (4 : Int) (4 : Int) ∧
 ∀ (_ : Unit), True → True ∧ ∀ (_ : Unit), True → K (AV.sc (Value.bool true)))
 (D1 a ∧
 ∀ (_ : Unit),
 True →
 D1 b ∧
 ∀ (_ : Unit),
 True →
 D2 a b ∧
 (∀ (x : Int),
 Is none x →
 D1 (0 : Int) ∧
 ∀ (_ : Unit),
 True →
 iteP (a == b) (D1 (10000 : Int) ∧ ∀ (_ : Unit), True → Never ∧ True)
 (Never ∧ True)) ∧
 ∀ (x : Int),
 Non none x →
 D1 (0 : Int) ∧
 ∀ (_ : Unit),
 True →
 iteP (a == b) (D1 (10000 : Int) ∧ ∀ (_ : Unit), True → Never ∧ True)
 (Never ∧ True)))))) :
 (fun (a b : Int) (K : AV → Prop) => wpCall TLaw cfg Tryz.prog 60 7 [aStr oEq, iA a, iA b] heap0 fun r _ => K r) a b K :=
 Eq.mp (by kernel_rfl) h
theorem lawNe (a : Int) (b : Int) (K : AV → Prop) (h :
 True ∧
 ∀ (_ : List UInt8 × List UInt8 × List UInt8 × List (List AV)),
 True →
 True ∧
 (∀ (x : Int),
 Is (nodeF [(33 : UInt8), (61 : UInt8)] a b) x →
 iteP (decide (a < (-10000000000000 : Int))) (Never ∧ True)
 (iteP (decide ((10000000000000 : Int) < a)) (Never ∧ True)
 (iteP (decide (b < (-10000000000000 : Int))) (Never ∧ True)
 (iteP (decide ((10000000000000 : Int) < b)) (Never ∧ True)
 (D1 a ∧
 ∀ (_ : Unit),
 True →
 D1 b ∧
 ∀ (_ : Unit),
 True →
 D2 a b ∧
 (∀ (x_3 : Int),
 Is none x_3 →
 iteP (x == (0 : Int))
 (True ∧ ∀ (_ : Unit), True → K (AV.sc (Value.bool true)))
 (iteP (x == (10000 : Int))
 (True ∧ ∀ (_ : Unit), True → K (AV.sc (Value.bool true)))
 (K (AV.sc (Value.bool false))))) ∧
 ∀ (x_3 : Int),
 Non none x_3 →
 iteP (x == (0 : Int))
 (True ∧ ∀ (_ : Unit), True → K (AV.sc (Value.bool true)))
 (iteP (x == (10000 : Int))
 (True ∧ ∀ (_ : Unit), True → K (AV.sc (Value.bool true)))
 (K (AV.sc (Value.bool false))))))))) ∧
 ∀ (_ : Unit),
 nodeF [(33 : UInt8), (61 : UInt8)] a b = none →
 iteP (decide (a < (-10000000000000 : Int)))
 (SameB [(33 : UInt8), (61 : UInt8)] [(33 : UInt8), (61 : UInt8)] a a b b (4 : Int) (4 : Int) (8 : Int)
 (8 : Int) (4 : Int) (4 : Int) ∧
 ∀ (_ : Unit), True → True ∧ ∀ (_ : Unit), True → K (AV.sc (Value.bool true)))
 (iteP (decide ((10000000000000 : Int) < a))
 (SameB [(33 : UInt8), (61 : UInt8)] [(33 : UInt8), (61 : UInt8)] a a b b (4 : Int) (4 : Int) (8 : Int)
 (8 : Int) (4 : Int) (4 : Int) ∧
 ∀ (_ : Unit), True → True ∧ ∀ (_ : Unit), True → K (AV.sc (Value.bool true)))
 (iteP (decide (b < (-10000000000000 : Int)))
 (SameB [(33 : UInt8), (61 : UInt8)] [(33 : UInt8), (61 : UInt8)] a a b b (4 : Int) (4 : Int)
 (8 : Int) (8 : Int) (4 : Int) (4 : Int) ∧
 ∀ (_ : Unit), True → True ∧ ∀ (_ : Unit), True → K (AV.sc (Value.bool true)))
 (iteP (decide ((10000000000000 : Int) < b))
 (SameB [(33 : UInt8), (61 : UInt8)] [(33 : UInt8), (61 : UInt8)] a a b b (4 : Int) (4 : Int)
 (8 : Int) (8 : Int) (4 : Int) (4 : Int) ∧
 ∀ (_ : Unit), True → True ∧ ∀ (_ : Unit), True → K (AV.sc (Value.bool true)))
 (D1 a ∧
 ∀ (_ : Unit),
 True →
 D1 b ∧
 ∀ (_ : Unit),
 True →
 D2 a b ∧
 (∀ (x : Int), Is none x → K (AV.sc (Value.bool false))) ∧
 ∀ (x : Int), Non none x → K (AV.sc (Value.bool false))))))) :
 (fun (a b : Int) (K : AV → Prop) => wpCall TLaw cfg Tryz.prog 60 7 [aStr oNe, iA a, iA b] heap0 fun r _ => K r) a b K :=
 Eq.mp (by kernel_rfl) h
theorem lawGt (a : Int) (b : Int) (K : AV → Prop) (h :
 True ∧
 ∀ (_ : List UInt8 × List UInt8 × List UInt8 × List (List AV)),
 True →
 True ∧
 (∀ (x : Int),
 Is (nodeF [(62 : UInt8)] a b) x →
 iteP (decide (a < (-10000000000000 : Int))) (Never ∧ True)
 (iteP (decide ((10000000000000 : Int) < a)) (Never ∧ True)
 (iteP (decide (b < (-10000000000000 : Int))) (Never ∧ True)
 (iteP (decide ((10000000000000 : Int) < b)) (Never ∧ True)
 (D1 a ∧
 ∀ (_ : Unit),
 True →
 D1 b ∧
 ∀ (_ : Unit),
 True →
 D2 a b ∧
 (∀ (x_3 : Int),
 Is none x_3 →
 iteP (x == (0 : Int))
 (True ∧ ∀ (_ : Unit), True → K (AV.sc (Value.bool true)))
 (iteP (x == (10000 : Int))
 (True ∧ ∀ (_ : Unit), True → K (AV.sc (Value.bool true)))
 (K (AV.sc (Value.bool false))))) ∧
 ∀ (x_3 : Int),
 Non none x_3 →
 iteP (x == (0 : Int))
 (True ∧ ∀ (_ : Unit), True → K (AV.sc (Value.bool true)))
 (iteP (x == (10000 : Int))
 (True ∧ ∀ (_ : Unit), True → K (AV.sc (Value.bool true)))
 (K (AV.sc (Value.bool false))))))))) ∧
 ∀ (_ : Unit),
 nodeF [(62 : UInt8)] a b = none →
 iteP (decide (a < (-10000000000000 : Int)))
 (SameB [(62 : UInt8)] [(62 : UInt8)] a a b b (4 : Int) (4 : Int) (8 : Int) (8 : Int) (4 : Int)
 (4 : Int) ∧
 ∀ (_ : Unit), True → True ∧ ∀ (_ : Unit), True → K (AV.sc (Value.bool true)))
 (iteP (decide ((10000000000000 : Int) < a))
 (SameB [(62 : UInt8)] [(62 : UInt8)] a a b b (4 : Int) (4 : Int) (8 : Int) (8 : Int) (4 : Int)
 (4 : Int) ∧
 ∀ (_ : Unit), True → True ∧ ∀ (_ : Unit), True → K (AV.sc (Value.bool true)))
 (iteP (decide (b < (-10000000000000 : Int)))
 (SameB [(62 : UInt8)] [(62 : UInt8)] a a b b (4 : Int) (4 : Int) (8 : Int) (8 : Int) (4 : Int)
 (4 : Int) ∧
 ∀ (_ : Unit), True → True ∧ ∀ (_ : Unit), True → K (AV.sc (Value.bool true)))
 (iteP (decide ((10000000000000 : Int) < b))
 (SameB [(62 : UInt8)] [(62 : UInt8)] a a b b (4 : Int) (4 : Int) (8 : Int) (8 : Int) (4 : Int)
 (4 : Int) ∧
 ∀ (_ : Unit), True → True ∧ ∀ (_ : Unit), True → K (AV.sc (Value.bool true)))
 (D1 a ∧
 ∀ (_ : Unit),
 True →
 D1 b ∧
 ∀ (_ : Unit),
 True →
 D2 a b ∧
 (∀ (x : Int), Is none x → K (AV.sc (Value.bool false))) ∧
 ∀ (x : Int), Non none x → K (AV.sc (Value.bool false))))))) :
 (fun (a b : Int) (K : AV → Prop) => wpCall TLaw cfg Tryz.prog 60 7 [aStr oGt, iA a, iA b] heap0 fun r _ => K r) a b K :=
 Eq.mp (by kernel_rfl) h
theorem lawGe (a : Int) (b : Int) (K : AV → Prop) (h :
 True ∧
 ∀ (_ : List UInt8 × List UInt8 × List UInt8 × List (List AV)),
 True →
 True ∧
 (∀ (x : Int),
 Is (nodeF [(62 : UInt8), (61 : UInt8)] a b) x →
 iteP (decide (a < (-10000000000000 : Int))) (Never ∧ True)
 (iteP (decide ((10000000000000 : Int) < a)) (Never ∧ True)
 (iteP (decide (b < (-10000000000000 : Int))) (Never ∧ True)
 (iteP (decide ((10000000000000 : Int) < b)) (Never ∧ True)
 (D1 a ∧
 ∀ (_ : Unit),
 True →
 D1 b ∧
 ∀ (_ : Unit),
 True →
 D2 a b ∧
 (∀ (x_3 : Int),
 Is none x_3 →
 D1 (0 : Int) ∧
 ∀ (_ : Unit),
 True →
 iteP (decide (b ≤ a))
 (D1 (10000 : Int) ∧
 ∀ (_ : Unit),
 True →
 True ∧
 ∀ (x_6 : Bool),
 x_6 = (decide (x = (10000 : Int)) && true) →
 iteP x_6
 (True ∧
 ∀ (_ : Unit), True → K (AV.sc (Value.bool true)))
 (K (AV.sc (Value.bool false))))
 (True ∧
 ∀ (x_5 : Bool),
 x_5 = (decide (x = (0 : Int)) && true) →
 iteP x_5
 (True ∧ ∀ (_ : Unit), True → K (AV.sc (Value.bool true)))
 (K (AV.sc (Value.bool false))))) ∧
 ∀ (x_3 : Int),
 Non none x_3 →
 D1 (0 : Int) ∧
 ∀ (_ : Unit),
 True →
 iteP (decide (b ≤ a))
 (D1 (10000 : Int) ∧
 ∀ (_ : Unit),
 True →
 True ∧
 ∀ (x_6 : Bool),
 x_6 = (decide (x = (10000 : Int)) && true) →
 iteP x_6
 (True ∧
 ∀ (_ : Unit), True → K (AV.sc (Value.bool true)))
 (K (AV.sc (Value.bool false))))
 (True ∧
 ∀ (x_5 : Bool),
 x_5 = (decide (x = (0 : Int)) && true) →
 iteP x_5
 (True ∧ ∀ (_ : Unit), True → K (AV.sc (Value.bool true)))
 (K (AV.sc (Value.bool false))))))))) ∧
 ∀ (_ : Unit),
 nodeF [(62 : UInt8), (61 : UInt8)] a b = none →
 iteP (decide (a < (-10000000000000 : Int)))
 (SameB [(62 : UInt8), (61 : UInt8)] [(62 : UInt8), (61 : UInt8)] a a b b (4 : Int) (4 : Int) (8 : Int)
 (8 : Int) (4 : Int) (4 : Int) ∧
 ∀ (_ : Unit), True → True ∧ ∀ (_ : Unit), True → K (AV.sc (Value.bool true)))
 (iteP (decide ((10000000000000 : Int) < a))
 (SameB [(62 : UInt8), (61 : UInt8)] [(62 : UInt8), (61 : UInt8)] a a b b (4 : Int) (4 : Int) (8 : Int)
 (8 : Int) (4 : Int) (4 : Int) ∧
 ∀ (_ : Unit), True → True ∧ ∀ (_ : Unit), True → K (AV.sc (Value.bool true)))
 (iteP (decide (b < (-10000000000000 : Int)))
 (SameB [(62 : UInt8), (61 : UInt8)] [(62 : UInt8), (61 : UInt8)] a a b b (4 : Int) (4 : Int)
 (8 : Int) (8 : Int) (4 : Int) (4 : Int) ∧
 ∀ (_ : Unit), True → True ∧ ∀ (_ : Unit), True → K (AV.sc (Value.bool true)))
 (iteP (decide ((10000000000000 : Int) < b))
 (SameB [(62 : UInt8), (61 : UInt8)] [(62 : UInt8), (61 : UInt8)] a a b b (4 : Int) (4 : Int)
 (8 : Int) (8 : Int) (4 : Int) (4 : Int) ∧
 ∀ (_ : Unit), True → True ∧ ∀ (_ : Unit), True → K (AV.sc (Value.bool true)))
 (D1 a ∧
 ∀ (_ : Unit),
 True →
 D1 b ∧
 ∀ (_ : Unit),
 True →
 D2 a b ∧
 (∀ (x : Int),
 Is none x →
 D1 (0 : Int) ∧
 ∀ (_ : Unit),
 True →
 iteP (decide (b ≤ a))
 (D1 (10000 : Int) ∧ ∀ (_ : Unit), True → Never ∧ True)
 (Never ∧ True)) ∧
 ∀ (x : Int),
 Non none x →
 D1 (0 : Int) ∧
 ∀ (_ : Unit),
 True →
 iteP (decide (b ≤ a))
 (D1 (10000 : Int) ∧ ∀ (_ : Unit), True → Never ∧ True)
 (Never ∧ True)))))) :
 (fun (a b : Int) (K : AV → Prop) => wpCall TLaw cfg Tryz.prog 60 7 [aStr oGe, iA a, iA b] heap0 fun r _ => K r) a b K :=
 Eq.mp (by kernel_rfl) h
theorem lawO (op : List UInt8) (a : Int) (b : Int) (K : AV → Prop) (h :
 True ∧
 ∀ (_ : List UInt8 × List UInt8 × List UInt8 × List (List AV)),
 True →
 Other op ∧
 ∀ (_ : Unit),
 True →
 iteP (decide (a < (-10000000000000 : Int)))
 (SameB op op a a b b (4 : Int) (4 : Int) (8 : Int) (8 : Int) (4 : Int) (4 : Int) ∧
 ∀ (_ : Unit), True → True ∧ ∀ (_ : Unit), True → K (AV.sc (Value.bool true)))
 (iteP (decide ((10000000000000 : Int) < a))
 (SameB op op a a b b (4 : Int) (4 : Int) (8 : Int) (8 : Int) (4 : Int) (4 : Int) ∧
 ∀ (_ : Unit), True → True ∧ ∀ (_ : Unit), True → K (AV.sc (Value.bool true)))
 (iteP (decide (b < (-10000000000000 : Int)))
 (SameB op op a a b b (4 : Int) (4 : Int) (8 : Int) (8 : Int) (4 : Int) (4 : Int) ∧
 ∀ (_ : Unit), True → True ∧ ∀ (_ : Unit), True → K (AV.sc (Value.bool true)))
 (iteP (decide ((10000000000000 : Int) < b))
 (SameB op op a a b b (4 : Int) (4 : Int) (8 : Int) (8 : Int) (4 : Int) (4 : Int) ∧
 ∀ (_ : Unit), True → True ∧ ∀ (_ : Unit), True → K (AV.sc (Value.bool true)))
 (D1 a ∧
 ∀ (_ : Unit),
 True →
 D1 b ∧
 ∀ (_ : Unit),
 True →
 (Other op ∧ D2 a b) ∧
 ∀ (x : Int),
 Non none x →
 iteP (decide (op = [(60 : UInt8)]))
 (D1 (0 : Int) ∧
 ∀ (_ : Unit),
 True →
 iteP (decide (op = [(60 : UInt8)]))
 (iteP (decide (a < b))
 (D1 (10000 : Int) ∧
 ∀ (_ : Unit),
 True →
 iteP (decide (op = [(60 : UInt8), (61 : UInt8)]))
 (K (AV.sc (Value.bool false)))
 (iteP (decide (op = [(62 : UInt8)]))
 (K (AV.sc (Value.bool false)))
 (iteP (decide (op = [(33 : UInt8), (61 : UInt8)]))
 (K (AV.sc (Value.bool false))) (Never ∧ True))))
 (iteP (decide (op = [(62 : UInt8), (61 : UInt8)]))
 (iteP (decide (b ≤ a))
 (D1 (10000 : Int) ∧
 ∀ (_ : Unit),
 True →
 iteP (decide (op = [(60 : UInt8), (61 : UInt8)]))
 (K (AV.sc (Value.bool false)))
 (iteP (decide (op = [(62 : UInt8)]))
 (K (AV.sc (Value.bool false)))
 (iteP (decide (op = [(33 : UInt8), (61 : UInt8)]))
 (K (AV.sc (Value.bool false))) (Never ∧ True))))
 (iteP (decide (op = [(61 : UInt8), (61 : UInt8)]))
 (iteP (a == b)
 (D1 (10000 : Int) ∧
 ∀ (_ : Unit),
 True →
 iteP (decide (op = [(60 : UInt8), (61 : UInt8)]))
 (K (AV.sc (Value.bool false)))
 (iteP (decide (op = [(62 : UInt8)]))
 (K (AV.sc (Value.bool false)))
 (iteP (decide (op = [(33 : UInt8), (61 : UInt8)]))
 (K (AV.sc (Value.bool false))) (Never ∧ True))))
 (iteP (decide (op = [(60 : UInt8), (61 : UInt8)]))
 (K (AV.sc (Value.bool false)))
 (iteP (decide (op = [(62 : UInt8)]))
 (K (AV.sc (Value.bool false)))
 (iteP (decide (op = [(33 : UInt8), (61 : UInt8)]))
 (K (AV.sc (Value.bool false))) (Never ∧ True)))))
 (iteP (decide (op = [(60 : UInt8), (61 : UInt8)]))
 (K (AV.sc (Value.bool false)))
 (iteP (decide (op = [(62 : UInt8)]))
 (K (AV.sc (Value.bool false)))
 (iteP (decide (op = [(33 : UInt8), (61 : UInt8)]))
 (K (AV.sc (Value.bool false))) (Never ∧ True))))))
 (iteP (decide (op = [(61 : UInt8), (61 : UInt8)]))
 (iteP (a == b)
 (D1 (10000 : Int) ∧
 ∀ (_ : Unit),
 True →
 iteP (decide (op = [(60 : UInt8), (61 : UInt8)]))
 (K (AV.sc (Value.bool false)))
 (iteP (decide (op = [(62 : UInt8)]))
 (K (AV.sc (Value.bool false)))
 (iteP (decide (op = [(33 : UInt8), (61 : UInt8)]))
 (K (AV.sc (Value.bool false))) (Never ∧ True))))
 (iteP (decide (op = [(60 : UInt8), (61 : UInt8)]))
 (K (AV.sc (Value.bool false)))
 (iteP (decide (op = [(62 : UInt8)]))
 (K (AV.sc (Value.bool false)))
 (iteP (decide (op = [(33 : UInt8), (61 : UInt8)]))
 (K (AV.sc (Value.bool false))) (Never ∧ True)))))
 (iteP (decide (op = [(60 : UInt8), (61 : UInt8)]))
 (K (AV.sc (Value.bool false)))
 (iteP (decide (op = [(62 : UInt8)]))
 (K (AV.sc (Value.bool false)))
 (iteP (decide (op = [(33 : UInt8), (61 : UInt8)]))
 (K (AV.sc (Value.bool false))) (Never ∧ True)))))))
 (iteP (decide (op = [(62 : UInt8), (61 : UInt8)]))
 (iteP (decide (b ≤ a))
 (D1 (10000 : Int) ∧
 ∀ (_ : Unit),
 True →
 iteP (decide (op = [(60 : UInt8), (61 : UInt8)]))
 (K (AV.sc (Value.bool false)))
 (iteP (decide (op = [(62 : UInt8)]))
 (K (AV.sc (Value.bool false)))
 (iteP (decide (op = [(33 : UInt8), (61 : UInt8)]))
 (K (AV.sc (Value.bool false))) (Never ∧ True))))
 (iteP (decide (op = [(61 : UInt8), (61 : UInt8)]))
 (iteP (a == b)
 (D1 (10000 : Int) ∧
 ∀ (_ : Unit),
 True →
 iteP (decide (op = [(60 : UInt8), (61 : UInt8)]))
 (K (AV.sc (Value.bool false)))
 (iteP (decide (op = [(62 : UInt8)]))
 (K (AV.sc (Value.bool false)))
 (iteP (decide (op = [(33 : UInt8), (61 : UInt8)]))
 (K (AV.sc (Value.bool false))) (Never ∧ True))))
 (iteP (decide (op = [(60 : UInt8), (61 : UInt8)]))
 (K (AV.sc (Value.bool false)))
 (iteP (decide (op = [(62 : UInt8)]))
 (K (AV.sc (Value.bool false)))
 (iteP (decide (op = [(33 : UInt8), (61 : UInt8)]))
 (K (AV.sc (Value.bool false))) (Never ∧ True)))))
 (iteP (decide (op = [(60 : UInt8), (61 : UInt8)]))
 (K (AV.sc (Value.bool false)))
 (iteP (decide (op = [(62 : UInt8)]))
 (K (AV.sc (Value.bool false)))
 (iteP (decide (op = [(33 : UInt8), (61 : UInt8)]))
 (K (AV.sc (Value.bool false))) (Never ∧ True))))))
 (iteP (decide (op = [(61 : UInt8), (61 : UInt8)]))
 (iteP (a == b)
 (D1 (10000 : Int) ∧
 ∀ (_ : Unit),
 True →
 iteP (decide (op = [(60 : UInt8), (61 : UInt8)]))
 (K (AV.sc (Value.bool false)))
 (iteP (decide (op = [(62 : UInt8)]))
 (K (AV.sc (Value.bool false)))
 (iteP (decide (op = [(33 : UInt8), (61 : UInt8)]))
 (K (AV.sc (Value.bool false))) (Never ∧ True))))
 (iteP (decide (op = [(60 : UInt8), (61 : UInt8)]))
 (K (AV.sc (Value.bool false)))
 (iteP (decide (op = [(62 : UInt8)]))
 (K (AV.sc (Value.bool false)))
 (iteP (decide (op = [(33 : UInt8), (61 : UInt8)]))
 (K (AV.sc (Value.bool false))) (Never ∧ True)))))
 (iteP (decide (op = [(60 : UInt8), (61 : UInt8)]))
 (K (AV.sc (Value.bool false)))
 (iteP (decide (op = [(62 : UInt8)]))
 (K (AV.sc (Value.bool false)))
 (iteP (decide (op = [(33 : UInt8), (61 : UInt8)]))
 (K (AV.sc (Value.bool false))) (Never ∧ True)))))))
 (iteP (decide (op = [(62 : UInt8), (61 : UInt8)]))
 (D1 (0 : Int) ∧
 ∀ (_ : Unit),
 True →
 iteP (decide (op = [(60 : UInt8)]))
 (iteP (decide (a < b))
 (D1 (10000 : Int) ∧
 ∀ (_ : Unit),
 True →
 iteP (decide (op = [(60 : UInt8), (61 : UInt8)]))
 (K (AV.sc (Value.bool false)))
 (iteP (decide (op = [(62 : UInt8)]))
 (K (AV.sc (Value.bool false)))
 (iteP (decide (op = [(33 : UInt8), (61 : UInt8)]))
 (K (AV.sc (Value.bool false))) (Never ∧ True))))
 (iteP (decide (op = [(62 : UInt8), (61 : UInt8)]))
 (iteP (decide (b ≤ a))
 (D1 (10000 : Int) ∧
 ∀ (_ : Unit),
 True →
 iteP (decide (op = [(60 : UInt8), (61 : UInt8)]))
 (K (AV.sc (Value.bool false)))
 (iteP (decide (op = [(62 : UInt8)]))
 (K (AV.sc (Value.bool false)))
 (iteP (decide (op = [(33 : UInt8), (61 : UInt8)]))
 (K (AV.sc (Value.bool false))) (Never ∧ True))))
 (iteP (decide (op = [(61 : UInt8), (61 : UInt8)]))
 (iteP (a == b)
 (D1 (10000 : Int) ∧
 ∀ (_ : Unit),
 True →
 iteP (decide (op = [(60 : UInt8), (61 : UInt8)]))
 (K (AV.sc (Value.bool false)))
 (iteP (decide (op = [(62 : UInt8)]))
 (K (AV.sc (Value.bool false)))
 (iteP (decide (op = [(33 : UInt8), (61 : UInt8)]))
 (K (AV.sc (Value.bool false))) (Never ∧ True))))
 (iteP (decide (op = [(60 : UInt8), (61 : UInt8)]))
 (K (AV.sc (Value.bool false)))
 (iteP (decide (op = [(62 : UInt8)]))
 (K (AV.sc (Value.bool false)))
 (iteP (decide (op = [(33 : UInt8), (61 : UInt8)]))
 (K (AV.sc (Value.bool false))) (Never ∧ True)))))
 (iteP (decide (op = [(60 : UInt8), (61 : UInt8)]))
 (K (AV.sc (Value.bool false)))
 (iteP (decide (op = [(62 : UInt8)]))
 (K (AV.sc (Value.bool false)))
 (iteP (decide (op = [(33 : UInt8), (61 : UInt8)]))
 (K (AV.sc (Value.bool false))) (Never ∧ True))))))
 (iteP (decide (op = [(61 : UInt8), (61 : UInt8)]))
 (iteP (a == b)
 (D1 (10000 : Int) ∧
 ∀ (_ : Unit),
 True →
 iteP (decide (op = [(60 : UInt8), (61 : UInt8)]))
 (K (AV.sc (Value.bool false)))
 (iteP (decide (op = [(62 : UInt8)]))
 (K (AV.sc (Value.bool false)))
 (iteP (decide (op = [(33 : UInt8), (61 : UInt8)]))
 (K (AV.sc (Value.bool false))) (Never ∧ True))))
 (iteP (decide (op = [(60 : UInt8), (61 : UInt8)]))
 (K (AV.sc (Value.bool false)))
 (iteP (decide (op = [(62 : UInt8)]))
 (K (AV.sc (Value.bool false)))
 (iteP (decide (op = [(33 : UInt8), (61 : UInt8)]))
 (K (AV.sc (Value.bool false))) (Never ∧ True)))))
 (iteP (decide (op = [(60 : UInt8), (61 : UInt8)]))
 (K (AV.sc (Value.bool false)))
 (iteP (decide (op = [(62 : UInt8)]))
 (K (AV.sc (Value.bool false)))
 (iteP (decide (op = [(33 : UInt8), (61 : UInt8)]))
 (K (AV.sc (Value.bool false))) (Never ∧ True)))))))
 (iteP (decide (op = [(62 : UInt8), (61 : UInt8)]))
 (iteP (decide (b ≤ a))
 (D1 (10000 : Int) ∧
 ∀ (_ : Unit),
 True →
 iteP (decide (op = [(60 : UInt8), (61 : UInt8)]))
 (K (AV.sc (Value.bool false)))
 (iteP (decide (op = [(62 : UInt8)]))
 (K (AV.sc (Value.bool false)))
 (iteP (decide (op = [(33 : UInt8), (61 : UInt8)]))
 (K (AV.sc (Value.bool false))) (Never ∧ True))))
 (iteP (decide (op = [(61 : UInt8), (61 : UInt8)]))
 (iteP (a == b)
 (D1 (10000 : Int) ∧
 ∀ (_ : Unit),
 True →
 iteP (decide (op = [(60 : UInt8), (61 : UInt8)]))
 (K (AV.sc (Value.bool false)))
 (iteP (decide (op = [(62 : UInt8)]))
 (K (AV.sc (Value.bool false)))
 (iteP (decide (op = [(33 : UInt8), (61 : UInt8)]))
 (K (AV.sc (Value.bool false))) (Never ∧ True))))
 (iteP (decide (op = [(60 : UInt8), (61 : UInt8)]))
 (K (AV.sc (Value.bool false)))
 (iteP (decide (op = [(62 : UInt8)]))
 (K (AV.sc (Value.bool false)))
 (iteP (decide (op = [(33 : UInt8), (61 : UInt8)]))
 (K (AV.sc (Value.bool false))) (Never ∧ True)))))
 (iteP (decide (op = [(60 : UInt8), (61 : UInt8)]))
 (K (AV.sc (Value.bool false)))
 (iteP (decide (op = [(62 : UInt8)]))
 (K (AV.sc (Value.bool false)))
 (iteP (decide (op = [(33 : UInt8), (61 : UInt8)]))
 (K (AV.sc (Value.bool false))) (Never ∧ True))))))
 (iteP (decide (op = [(61 : UInt8), (61 : UInt8)]))
 (iteP (a == b)
 (D1 (10000 : Int) ∧
 ∀ (_ : Unit),
 True →
 iteP (decide (op = [(60 : UInt8), (61 : UInt8)]))
 (K (AV.sc (Value.bool false)))
 (iteP (decide (op = [(62 : UInt8)]))
 (K (AV.sc (Value.bool false)))
 (iteP (decide (op = [(33 : UInt8), (61 : UInt8)]))
 (K (AV.sc (Value.bool false))) (Never ∧ True))))
 (iteP (decide (op = [(60 : UInt8), (61 : UInt8)]))
 (K (AV.sc (Value.bool false)))
 (iteP (decide (op = [(62 : UInt8)]))
 (K (AV.sc (Value.bool false)))
 (iteP (decide (op = [(33 : UInt8), (61 : UInt8)]))
 (K (AV.sc (Value.bool false))) (Never ∧ True)))))
 (iteP (decide (op = [(60 : UInt8), (61 : UInt8)]))
 (K (AV.sc (Value.bool false)))
 (iteP (decide (op = [(62 : UInt8)]))
 (K (AV.sc (Value.bool false)))
 (iteP (decide (op = [(33 : UInt8), (61 : UInt8)]))
 (K (AV.sc (Value.bool false))) (Never ∧ True)))))))
 (iteP (decide (op = [(61 : UInt8), (61 : UInt8)]))
 (D1 (0 : Int) ∧
 ∀ (_ : Unit),
 True →
 iteP (decide (op = [(60 : UInt8)]))
 (iteP (decide (a < b))
 (D1 (10000 : Int) ∧
 ∀ (_ : Unit),
 True →
 iteP (decide (op = [(60 : UInt8), (61 : UInt8)]))
 (K (AV.sc (Value.bool false)))
 (iteP (decide (op = [(62 : UInt8)]))
 (K (AV.sc (Value.bool false)))
 (iteP (decide (op = [(33 : UInt8), (61 : UInt8)]))
 (K (AV.sc (Value.bool false))) (Never ∧ True))))
 (iteP (decide (op = [(62 : UInt8), (61 : UInt8)]))
 (iteP (decide (b ≤ a))
 (D1 (10000 : Int) ∧
 ∀ (_ : Unit),
 True →
 iteP (decide (op = [(60 : UInt8), (61 : UInt8)]))
 (K (AV.sc (Value.bool false)))
 (iteP (decide (op = [(62 : UInt8)]))
 (K (AV.sc (Value.bool false)))
 (iteP (decide (op = [(33 : UInt8), (61 : UInt8)]))
 (K (AV.sc (Value.bool false))) (Never ∧ True))))
 (iteP (decide (op = [(61 : UInt8), (61 : UInt8)]))
 (iteP (a == b)
 (D1 (10000 : Int) ∧
 ∀ (_ : Unit),
 True →
 iteP (decide (op = [(60 : UInt8), (61 : UInt8)]))
 (K (AV.sc (Value.bool false)))
 (iteP (decide (op = [(62 : UInt8)]))
 (K (AV.sc (Value.bool false)))
 (iteP
 (decide (op = [(33 : UInt8), (61 : UInt8)]))
 (K (AV.sc (Value.bool false)))
 (Never ∧ True))))
 (iteP (decide (op = [(60 : UInt8), (61 : UInt8)]))
 (K (AV.sc (Value.bool false)))
 (iteP (decide (op = [(62 : UInt8)]))
 (K (AV.sc (Value.bool false)))
 (iteP (decide (op = [(33 : UInt8), (61 : UInt8)]))
 (K (AV.sc (Value.bool false))) (Never ∧ True)))))
 (iteP (decide (op = [(60 : UInt8), (61 : UInt8)]))
 (K (AV.sc (Value.bool false)))
 (iteP (decide (op = [(62 : UInt8)]))
 (K (AV.sc (Value.bool false)))
 (iteP (decide (op = [(33 : UInt8), (61 : UInt8)]))
 (K (AV.sc (Value.bool false))) (Never ∧ True))))))
 (iteP (decide (op = [(61 : UInt8), (61 : UInt8)]))
 (iteP (a == b)
 (D1 (10000 : Int) ∧
 ∀ (_ : Unit),
 True →
 iteP (decide (op = [(60 : UInt8), (61 : UInt8)]))
 (K (AV.sc (Value.bool false)))
 (iteP (decide (op = [(62 : UInt8)]))
 (K (AV.sc (Value.bool false)))
 (iteP (decide (op = [(33 : UInt8), (61 : UInt8)]))
 (K (AV.sc (Value.bool false))) (Never ∧ True))))
 (iteP (decide (op = [(60 : UInt8), (61 : UInt8)]))
 (K (AV.sc (Value.bool false)))
 (iteP (decide (op = [(62 : UInt8)]))
 (K (AV.sc (Value.bool false)))
 (iteP (decide (op = [(33 : UInt8), (61 : UInt8)]))
 (K (AV.sc (Value.bool false))) (Never ∧ True)))))
 (iteP (decide (op = [(60 : UInt8), (61 : UInt8)]))
 (K (AV.sc (Value.bool false)))
 (iteP (decide (op = [(62 : UInt8)]))
 (K (AV.sc (Value.bool false)))
 (iteP (decide (op = [(33 : UInt8), (61 : UInt8)]))
 (K (AV.sc (Value.bool false))) (Never ∧ True)))))))
 (iteP (decide (op = [(62 : UInt8), (61 : UInt8)]))
 (iteP (decide (b ≤ a))
 (D1 (10000 : Int) ∧
 ∀ (_ : Unit),
 True →
 iteP (decide (op = [(60 : UInt8), (61 : UInt8)]))
 (K (AV.sc (Value.bool false)))
 (iteP (decide (op = [(62 : UInt8)]))
 (K (AV.sc (Value.bool false)))
 (iteP (decide (op = [(33 : UInt8), (61 : UInt8)]))
 (K (AV.sc (Value.bool false))) (Never ∧ True))))
 (iteP (decide (op = [(61 : UInt8), (61 : UInt8)]))
 (iteP (a == b)
 (D1 (10000 : Int) ∧
 ∀ (_ : Unit),
 True →
 iteP (decide (op = [(60 : UInt8), (61 : UInt8)]))
 (K (AV.sc (Value.bool false)))
 (iteP (decide (op = [(62 : UInt8)]))
 (K (AV.sc (Value.bool false)))
 (iteP (decide (op = [(33 : UInt8), (61 : UInt8)]))
 (K (AV.sc (Value.bool false))) (Never ∧ True))))
 (iteP (decide (op = [(60 : UInt8), (61 : UInt8)]))
 (K (AV.sc (Value.bool false)))
 (iteP (decide (op = [(62 : UInt8)]))
 (K (AV.sc (Value.bool false)))
 (iteP (decide (op = [(33 : UInt8), (61 : UInt8)]))
 (K (AV.sc (Value.bool false))) (Never ∧ True)))))
 (iteP (decide (op = [(60 : UInt8), (61 : UInt8)]))
 (K (AV.sc (Value.bool false)))
 (iteP (decide (op = [(62 : UInt8)]))
 (K (AV.sc (Value.bool false)))
 (iteP (decide (op = [(33 : UInt8), (61 : UInt8)]))
 (K (AV.sc (Value.bool false))) (Never ∧ True))))))
 (iteP (decide (op = [(61 : UInt8), (61 : UInt8)]))
 (iteP (a == b)
 (D1 (10000 : Int) ∧
 ∀ (_ : Unit),
 True →
 iteP (decide (op = [(60 : UInt8), (61 : UInt8)]))
 (K (AV.sc (Value.bool false)))
 (iteP (decide (op = [(62 : UInt8)]))
 (K (AV.sc (Value.bool false)))
 (iteP (decide (op = [(33 : UInt8), (61 : UInt8)]))
 (K (AV.sc (Value.bool false))) (Never ∧ True))))
 (iteP (decide (op = [(60 : UInt8), (61 : UInt8)]))
 (K (AV.sc (Value.bool false)))
 (iteP (decide (op = [(62 : UInt8)]))
 (K (AV.sc (Value.bool false)))
 (iteP (decide (op = [(33 : UInt8), (61 : UInt8)]))
 (K (AV.sc (Value.bool false))) (Never ∧ True)))))
 (iteP (decide (op = [(60 : UInt8), (61 : UInt8)]))
 (K (AV.sc (Value.bool false)))
 (iteP (decide (op = [(62 : UInt8)]))
 (K (AV.sc (Value.bool false)))
 (iteP (decide (op = [(33 : UInt8), (61 : UInt8)]))
 (K (AV.sc (Value.bool false))) (Never ∧ True)))))))
 (iteP (decide (op = [(60 : UInt8), (61 : UInt8)]))
 (K (AV.sc (Value.bool false)))
 (iteP (decide (op = [(62 : UInt8)])) (K (AV.sc (Value.bool false)))
 (iteP (decide (op = [(33 : UInt8), (61 : UInt8)]))
 (K (AV.sc (Value.bool false)))
 (iteP (x != (0 : Int))
 (SameB op op a a b b (4 : Int) (4 : Int) (8 : Int) (8 : Int)
 (4 : Int) (4 : Int) ∧
 ∀ (_ : Unit),
 True → True ∧ ∀ (_ : Unit), True → K (AV.sc (Value.bool true)))
 (Never ∧ True)))))))))))) :
 (fun (op : List UInt8) (a b : Int) (K : AV → Prop) => wpCall TLawO cfg Tryz.prog 60 7 [aStr op, iA a, iA b] heap0 fun r _ => K r) op a b K :=
 Eq.mp (by kernel_rfl) h
end
end Go.Proofs.Sf
