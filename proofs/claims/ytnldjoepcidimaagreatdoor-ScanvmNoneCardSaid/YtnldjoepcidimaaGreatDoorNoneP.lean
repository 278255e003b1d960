/- A part of the proof: definitions and lemmas. -/
import Derived.Test.YtnldjoepcidimaaGreatDoorNoneA
import Derived.Test.YtnldjoepcidimaaGreatDoorNoneB
import Derived.Test.YtnldjoepcidimaaGreatDoorNoneC
import Derived.Test.YtnldjoepcidimaaGreatDoorNoneD
import Derived.Test.YtnldjoepcidimaaGreatDoorNoneE
import Derived.Test.YtnldjoepcidimaaGreatDoorNoneF
import Derived.Test.YtnldjoepcidimaaGreatDoorNoneG
import Derived.Test.YtnldjoepcidimaaGreatDoorNoneH
import Derived.Test.YtnldjoepcidimaaGreatDoorNoneI
import Derived.Test.YtnldjoepcidimaaGreatDoorNoneJ
import Derived.Test.YtnldjoepcidimaaGreatDoorNoneK
import Derived.Test.YtnldjoepcidimaaGreatDoorNoneL
import Derived.Test.YtnldjoepcidimaaGreatDoorNoneM
import Derived.Test.YtnldjoepcidimaaGreatDoorNoneN
import Derived.Test.YtnldjoepcidimaaGreatDoorNoneO
namespace Go.Proofs
open Go Go.Ef
noncomputable section
namespace Vm
set_option maxRecDepth 1000000
set_option maxHeartbeats 0
noncomputable def memo6 : List (List AV × AV) := [([tS src1], .tup [code1, tT true]), ([tS src2], .tup [code2, tT true]), ([tS src3], .tup [code3, tT true]), ([tS src4], .tup [code4, tT true])]
noncomputable def memoP (l : List (List AV × AV)) (args : List AV) (h : Heap) : Option (AV × Heap) :=
 List.rec (motive := fun _ => Option (AV × Heap)) none (fun p _ ih => bif sameArgs args p.1 then some (p.2, h) else ih) l
theorem memoP_mem {l : List (List AV × AV)} {args : List AV} {h : Heap} {x : AV × Heap} (e : memoP l args h = some x) : ∃ p ∈ l, args = p.1 ∧ x = (p.2, h) := by
 induction l with
 | nil => cases e
 | cons p l ih =>
  replace e : (bif sameArgs args p.1 then some (p.2, h) else memoP l args h) = some x := e
  cases hq : sameArgs args p.1 with
  | true =>
   rw [hq] at e
   cases e
   exact ⟨p, by simp, sameArgs_ok hq, rfl⟩
  | false =>
   rw [hq] at e
   obtain ⟨q, h1, h2, h3⟩ := ih e
   exact ⟨q, by simp [h1], h2, h3⟩
noncomputable def cfgM : Cfg := { cfg with prim := fun g => bif Nat.beq g 6 then some (memoP memo6) else cfg.prim g }
theorem known6 : Known Tryz.prog cfgM 6 (memoP memo6) := by
 refine known_of2 (C := cfg) (C' := cfgM) fit rfl rfl (body_at Tryz.func6 (by kernel_rfl)) fun a h x e => ⟨1000, ?_⟩
 obtain ⟨p, hp, rfl, rfl⟩ := memoP_mem e
 have hf : cfg.fresh 6 = true := by kernel_rfl
 have hn : cfg.prim 6 = none := by kernel_rfl
 have all : p = ([tS src1], .tup [code1, tT true]) ∨ p = ([tS src2], .tup [code2, tT true]) ∨ p = ([tS src3], .tup [code3, tT true]) ∨ p = ([tS src4], .tup [code4, tT true]) := by simpa [memo6] using hp
 rcases all with rfl | rfl | rfl | rfl
 ·exact ansG_ok ans1 hf hn h
 ·exact ansG_ok ans2 hf hn h
 ·exact ansG_ok ans3 hf hn h
 ·exact ansG_ok ans4 hf hn h
theorem knowsM (g : FuncId) (p : List AV → Heap → Option (AV × Heap)) (h : cfgM.prim g = some p) : Known Tryz.prog cfgM g p := by
 replace h : (bif Nat.beq g 6 then some (memoP memo6) else cfg.prim g) = some p := h
 cases e : Nat.beq g 6 with
 | true =>
  obtain rfl := Nat.eq_of_beq_eq_true e
  cases h
  exact known6
 | false =>
  rw [e] at h
  exact known_glob (C := cfg) (C' := cfgM) rfl rfl (knows g p h)
theorem okAllM : okAt cfgM 0 Tryz.prog.funcs.toList = true := by kernel_rfl
theorem fitM : Fit Tryz.prog cfgM where
 sane := {
  plain := fit0.sane.plain
  prim := knowsM }
 mixed := by kernel_rfl
 regs := fun f fn c h hc => by
  have := okAt_spec _ 0 okAllM f fn c (by simpa using h) hc
  rwa [Nat.zero_add] at this
end Vm
end
end Go.Proofs
