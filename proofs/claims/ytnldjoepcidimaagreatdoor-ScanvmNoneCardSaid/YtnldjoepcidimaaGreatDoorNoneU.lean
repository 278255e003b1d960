/- A part of the proof: definitions and lemmas. -/
import Derived.Test.YtnldjoepcidimaaGreatDoorNoneA
import Derived.Test.YtnldjoepcidimaaGreatDoorNoneR
import Derived.Test.YtnldjoepcidimaaGreatDoorNoneS
import Derived.Test.YtnldjoepcidimaaGreatDoorNoneT
import Derived.WalkKit
namespace Go.Proofs.YtnldjoepcidimaaGreatDoor
open Go Go.Ef
namespace none50
def part (P : Program) (a n : Nat) : Bool := (List.range' a n).all (rowFine P)
theorem part_add {P : Program} {a n m k : Nat} (hk : a + n = m) (h : part P a n = true) (h' : part P m k = true) : part P a (n + k) = true := by
 subst hk
 unfold part at *
 rw [← List.range'_append_1, List.all_append, h, h']; rfl
set_option maxRecDepth 100000 in
theorem lo0 : part Tryz.prog 0 50 = true := by kernel_rfl
set_option maxRecDepth 100000 in
theorem lo1 : part Tryz.prog 50 50 = true := by kernel_rfl
set_option maxRecDepth 100000 in
theorem lo2 : part Tryz.prog 100 50 = true := by kernel_rfl
set_option maxRecDepth 100000 in
theorem lo3 : part Tryz.prog 150 50 = true := by kernel_rfl
set_option maxRecDepth 100000 in
theorem lo4 : part Tryz.prog 200 50 = true := by kernel_rfl
set_option maxRecDepth 100000 in
theorem lo5 : part Tryz.prog 250 50 = true := by kernel_rfl
set_option maxRecDepth 100000 in
theorem lo6 : part Tryz.prog 300 50 = true := by kernel_rfl
set_option maxRecDepth 100000 in
theorem lo7 : part Tryz.prog 350 50 = true := by kernel_rfl
set_option maxRecDepth 100000 in
theorem lo8 : part Tryz.prog 400 50 = true := by kernel_rfl
set_option maxRecDepth 100000 in
theorem lo9 : part Tryz.prog 450 50 = true := by kernel_rfl
set_option maxRecDepth 100000 in
theorem lo10 : part Tryz.prog 500 50 = true := by kernel_rfl
set_option maxRecDepth 100000 in
theorem lo11 : part Tryz.prog 550 50 = true := by kernel_rfl
set_option maxRecDepth 100000 in
theorem lo12 : part Tryz.prog 600 50 = true := by kernel_rfl
set_option maxRecDepth 100000 in
theorem lo13 : part Tryz.prog 650 22 = true := by kernel_rfl
theorem sz : Tryz.prog.types.size = 672 := by kernel_rfl
theorem loAll : part Tryz.prog 0 672 = true :=
 part_add (n := 650) (k := 22) rfl (part_add (n := 600) (k := 50) rfl (part_add (n := 550) (k := 50) rfl (part_add (n := 500) (k := 50) rfl (part_add (n := 450) (k := 50) rfl (part_add (n := 400) (k := 50) rfl (part_add (n := 350) (k := 50) rfl (part_add (n := 300) (k := 50) rfl (part_add (n := 250) (k := 50) rfl (part_add (n := 200) (k := 50) rfl (part_add (n := 150) (k := 50) rfl (part_add (n := 100) (k := 50) rfl (part_add (n := 50) (k := 50) rfl lo0 lo1) lo2) lo3) lo4) lo5) lo6) lo7) lo8) lo9) lo10) lo11) lo12) lo13
set_option maxRecDepth 100000 in
theorem lo14 : (Tryz.prog.globals.all fun g => decide (g.type < 672)) = true := by kernel_rfl
set_option maxRecDepth 100000 in
theorem lo15 : (Tryz.prog.funcs.all fun f => f.params.all fun t => decide (t < 672)) = true := by kernel_rfl
theorem f2 : laidOutB Tryz.pinned.checked.prog = true := by
 show laidOutB Tryz.prog = true
 unfold laidOutB
 rw [sz, List.range_eq_range', lo14, lo15]
 have h : (List.range' 0 672).all (rowFine Tryz.prog) = true := loAll
 rw [h]; rfl
end none50
end Go.Proofs.YtnldjoepcidimaaGreatDoor
