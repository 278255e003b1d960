/- A part of the proof: definitions and lemmas. -/
import Derived.Test.YtnldjoepcidimaaGreatDoorNoneA
import Derived.Test.YtnldjoepcidimaaGreatDoorNoneR
import Derived.Test.YtnldjoepcidimaaGreatDoorNoneS
namespace Go.Proofs.YtnldjoepcidimaaGreatDoor
open Go Go.Ef
namespace none50
set_option maxRecDepth 100000 in
theorem k2 : Tryz.prog.unfollowed 5 = true := by
 rw [unfollowed_fast c5]
 kernel_rfl
theorem k3 : Tryz.prog.recurses 5 = true := recurses_fast k2
set_option maxRecDepth 100000 in
theorem k1 : Tryz.prog.inPlace 5 = Rows.scanvmNoneRow.inPlace := by
 rw [inPlace_fast c5]
 kernel_rfl
set_option maxRecDepth 100000 in
theorem k4 : Tryz.prog.varsNamed 5 = Rows.scanvmNoneRow.named := by
 rw [varsNamed_fast c5]
 kernel_rfl
theorem f10 : (Rows.scanvmNoneRow.inPlace == Tryz.pinned.checked.prog.inPlace 5) = true := by
 rw [show Tryz.pinned.checked.prog.inPlace 5 = Rows.scanvmNoneRow.inPlace from k1]
 exact beq_self_eq_true _
theorem f11 : (Rows.scanvmNoneRow.unfollowed == Tryz.pinned.checked.prog.unfollowed 5) = true := by
 rw [show Tryz.pinned.checked.prog.unfollowed 5 = true from k2]
 kernel_rfl
theorem f12 : (Rows.scanvmNoneRow.recurses == Tryz.pinned.checked.prog.recurses 5) = true := by
 rw [show Tryz.pinned.checked.prog.recurses 5 = true from k3]
 kernel_rfl
theorem f13 : (Rows.scanvmNoneRow.named == Tryz.pinned.checked.prog.varsNamed 5) = true := by
 rw [show Tryz.pinned.checked.prog.varsNamed 5 = Rows.scanvmNoneRow.named from k4]
 exact beq_self_eq_true _
end none50
end Go.Proofs.YtnldjoepcidimaaGreatDoor
