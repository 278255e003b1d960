/- A part of the proof: definitions and lemmas. -/
import Derived.Test.YtnldjoepcidimaaGreatDoorNoneA
import Derived.Test.YtnldjoepcidimaaGreatDoorNoneB
import Derived.Test.YtnldjoepcidimaaGreatDoorNoneC
import Derived.Test.YtnldjoepcidimaaGreatDoorNoneD
import Derived.Test.YtnldjoepcidimaaGreatDoorNoneE
import Derived.Test.YtnldjoepcidimaaGreatDoorNoneF
import Derived.Test.YtnldjoepcidimaaGreatDoorNoneG
namespace Go.Proofs
open Go Go.Ef
noncomputable section
namespace Vm
set_option maxRecDepth 100000
theorem known_glob {C C' : Cfg} (e : C'.glob = C.glob) (e' : C'.gsh = C.gsh) {g : FuncId} {p : List AV → Heap → Option (AV × Heap)} (K : Known Tryz.prog C g p) : Known Tryz.prog C' g p := by
 rcases K with ⟨hb, K⟩ | K
 ·exact .inl ⟨hb, fun a h r h' hx μ w vs H hv => Calls.mono (K a h r h' hx μ w vs (W.of_glob e.symm e'.symm H) hv) fun x w' q => CallEnd.of_glob e e' q⟩
 ·exact .inr fun a h r h' hx μ w vs H hv => by
   obtain ⟨v, w', h1, h2⟩ := K a h r h' hx μ w vs (W.of_glob e.symm e'.symm H) hv
   exact ⟨v, w', h1, CallEnd.of_glob e e' h2⟩
theorem knows1 (g : FuncId) (p : List AV → Heap → Option (AV × Heap)) (h : cfg1.prim g = some p) : Known Tryz.prog cfg1 g p := by
 replace h : (bif Nat.beq g 28 then some p28 else cfg0.prim g) = some p := h
 cases e : Nat.beq g 28 with
 | true =>
  obtain rfl := Nat.eq_of_beq_eq_true e
  cases h
  exact known28.known
 | false =>
  rw [e] at h
  exact known_glob (C := cfg0) (C' := cfg1) rfl rfl (knows0 g p h)
theorem okAll1 : okAt cfg1 0 Tryz.prog.funcs.toList = true := by kernel_rfl
theorem fit1 : Fit Tryz.prog cfg1 where
 sane := {
  plain := fit0.sane.plain
  prim := knows1 }
 mixed := by kernel_rfl
 regs := fun f fn c h hc => by
  have := okAt_spec _ 0 okAll1 f fn c (by simpa using h) hc
  rwa [Nat.zero_add] at this
end Vm
end
end Go.Proofs
