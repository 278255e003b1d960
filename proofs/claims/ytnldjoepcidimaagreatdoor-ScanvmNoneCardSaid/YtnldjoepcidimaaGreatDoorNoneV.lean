/- A part of the proof: definitions and lemmas. -/
import Derived.Test.YtnldjoepcidimaaGreatDoorNoneA
import Derived.Test.YtnldjoepcidimaaGreatDoorNoneR
import Derived.Test.YtnldjoepcidimaaGreatDoorNoneS
import Derived.Test.YtnldjoepcidimaaGreatDoorNoneT
import Derived.Test.YtnldjoepcidimaaGreatDoorNoneU
import Derived.Test.YtnldjoepcidimaaGreatDoorCards
import Derived.WalkKit
import Derived.ProofKit
import Derived.Handy
import Derived.Lay
import Derived.Shelf.Vars
import Derived.Deep.DeepHandedRow
import Derived.SevenTiedAt
namespace Go.Proofs.YtnldjoepcidimaaGreatDoor
open Go Go.ChangeShapes Go.WideShapes Go.ChangeAt Go.RowKit
open Go.ChangeMaps (open_string shut_string)
theorem band {a b : Bool} (h : a = true) (k : b = true) : (a && b) = true := by rw [h, k]; rfl
namespace none50
set_option maxHeartbeats 4000000 in
set_option maxRecDepth 100000 in
theorem facts : joinedFacts Tryz.pinned.checked.prog 5 Tryz.f5 Rows.scanvmNoneSpec Rows.scanvmNoneRow = true := by
 unfold joinedFacts
 (repeat' with_reducible apply band) <;> first | with_reducible exact f2 | with_reducible exact f10 | with_reducible exact f11 | with_reducible exact f12 | with_reducible exact f13 | as_aux_lemma => kernel_rfl
theorem named : Tryz.pinned.checked.prog.funcNamed "texttools/texttoolslaw50.ScanvmNone" = some 5 := by kernel_rfl
theorem inst : Tryz.f5.isInstance Tryz.pinned.checked.prog Rows.scanvmNoneRow.origin Rows.scanvmNoneRow.targs := of_decide_eq_true (by kernel_rfl)
theorem wrap : Tryz.f5.isWrapper Tryz.pinned.checked.prog Rows.scanvmNoneRow.wrapper Rows.scanvmNoneRow.mainSum := by unfold Func.isWrapper; first | (rw [if_pos (by decide +kernel)]; kernel_rfl) | (rw [if_neg (by decide +kernel)]; exact ⟨rfl, rfl⟩)
theorem plain (f : FuncId) (fn : Func) (hf : Tryz.pinned.checked.prog.funcNamed "texttools/texttoolslaw50.ScanvmNone" = some f) (hfn : Tryz.pinned.checked.prog.funcs[f]? = some fn) :
  true = Tryz.pinned.checked.prog.looks [] ∧ ∀ (j : Nat) t, fn.params[j]? = some t → Tryz.pinned.checked.prog.wantsStandIn t = false := by
 obtain rfl : f = 5 := Option.some.inj (named.symm.trans hf) |>.symm
 obtain rfl : fn = Tryz.f5 := (Option.some.inj (Tryz.func5.symm.trans hfn)).symm
 refine ⟨by kernel_rfl, fun j t ht => ?_⟩
 rw [Tryz.params5] at ht
 have : t = 9 := by simpa using Array.mem_of_getElem? ht
 subst this
 exact (show Tryz.prog.wantsStandIn 9 = false by kernel_rfl)
theorem goes_none {P : Program} {c : OpenClaim} (hs : c.start = .entering) (h : (P.funcs.toList.all fun fn => !fn.goes) = true) : false = c.goesBy P := by
 have each : ∀ fn : Func, fn ∈ P.funcs → fn.goes = false := fun fn hm => by
  have := List.all_eq_true.1 h fn (Array.mem_toList_iff.2 hm)
  simpa using this
 have one : ∀ f, P.goes f = false := fun f => by
  unfold Program.goes
  rw [Bool.or_eq_false_iff]
  refine ⟨?_, ?_⟩
  ·rw [List.any_eq_false]
   intro g _ hg
   cases hq : P.funcs[g]? with
   | none => rw [hq] at hg; cases hg
   | some fn =>
    rw [hq] at hg
    have := each fn (Array.mem_of_getElem? hq)
    simp [this] at hg
  ·rw [Bool.and_eq_false_iff]
   refine .inr ?_
   rw [Array.any_eq_false']
   intro fn hm
   simp [each fn hm]
 unfold OpenClaim.goesBy Program.goesAt Program.goesFrom
 rw [hs]
 cases hq : P.funcNamed c.func with
 | none => rfl
 | some f => simp [one f]
theorem still : (Tryz.prog.funcs.toList.all fun fn => !fn.goes) = true := by kernel_rfl
end none50
end Go.Proofs.YtnldjoepcidimaaGreatDoor
