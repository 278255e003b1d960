/- A part of the proof: definitions and lemmas. -/
import Derived.Test.YtnldjoepcidimaaGreatDoorNoneA
import Derived.Test.YtnldjoepcidimaaGreatDoorNoneB
import Derived.Test.YtnldjoepcidimaaGreatDoorNoneC
import Derived.Test.YtnldjoepcidimaaGreatDoorNoneD
import Derived.Test.YtnldjoepcidimaaGreatDoorNoneE
import Derived.Test.YtnldjoepcidimaaGreatDoorNoneF
import Derived.Test.YtnldjoepcidimaaGreatDoorNoneG
import Derived.Test.YtnldjoepcidimaaGreatDoorNoneH
import Derived.Test.YtnldjoepcidimaaGreatDoorNoneI
import Derived.Test.YtnldjoepcidimaaGreatDoorNoneJ
import Derived.Test.YtnldjoepcidimaaGreatDoorNoneK
import Derived.Test.YtnldjoepcidimaaGreatDoorNoneL
import Derived.Test.YtnldjoepcidimaaGreatDoorNoneM
import Derived.Test.YtnldjoepcidimaaGreatDoorNoneN
import Derived.Test.YtnldjoepcidimaaGreatDoorNoneO
import Derived.Test.YtnldjoepcidimaaGreatDoorNoneP
import Derived.Test.YtnldjoepcidimaaGreatDoorNoneQ
import GoSem.ClaimFn
namespace Go.Proofs
open Go Go.Ef
noncomputable section
namespace Vm
set_option maxRecDepth 1000000
noncomputable def T7 : Tab := tab0.addC 7 (memoC [([], tT true)])
theorem T7_ok : TabOk Tryz.prog cfgM T7 := by
 refine memo_ok tab0_ok fun p hp h => ⟨1000, ?_⟩
 obtain rfl : p = ([], tT true) := by simpa using hp
 exact ansG_ok awake_ans (by kernel_rfl) (by kernel_rfl) h
theorem wp5 (t s : List UInt8) : wpCall T7 cfgM Tryz.prog 100 5 [tS t, tS s] heap0 fun r _ => r = tT true := by
 have k : True ∧ ((_ : Unit) → True → tT true = tT true) := ⟨trivial, fun _ _ => rfl⟩
 exact Eq.mp (by kernel_rfl) k
theorem ev5 (t s : List UInt8) : ∃ m h, evCall cfgM Tryz.prog m 5 [tS t, tS s] heap0 = some (tT true, h) := by
 obtain ⟨m, v, h', e1, rfl⟩ := call_okW T7_ok 100 5 [tS t, tS s] heap0 (fun r _ => r = tT true) (wp5 t s)
 exact ⟨m, h', e1⟩
end Vm
end
end Go.Proofs
namespace Go.Ef
open Go
noncomputable section
def fastV (P : Program) (fuel : Nat) : List FuncId → Tr Unit → List FuncId → List FuncId :=
 Nat.rec (motive := fun _ => List FuncId → Tr Unit → List FuncId → List FuncId) (fun _ _ seen => seen.reverse)
  (fun _ ih todo tr seen => List.rec (motive := fun _ => List FuncId) seen.reverse
   (fun f rest _ => Option.rec (motive := fun _ => List FuncId) (ih (appL ((P.funcs[f]?).elim [] P.leadsTo) rest) (tr.set f ()) (f :: seen)) (fun _ => ih rest tr seen) (tr.get f)) todo) fuel
theorem fastV_eq (P : Program) : ∀ (n : Nat) (todo : List FuncId) (tr : Tr Unit) (seen : List FuncId), (∀ f, (tr.get f).isSome = seen.contains f) → P.closureVia n todo seen = fastV P n todo tr seen := by
 intro n
 induction n with
 | zero => intro todo tr seen _; simp only [Program.closureVia]; rfl
 | succ n ih =>
  intro todo tr seen h
  cases todo with
  | nil => simp only [Program.closureVia]; rfl
  | cons f rest =>
   simp only [Program.closureVia]
   show _ = Option.rec (motive := fun _ => List FuncId) (fastV P n (appL ((P.funcs[f]?).elim [] P.leadsTo) rest) (tr.set f ()) (f :: seen)) (fun _ => fastV P n rest tr seen) (tr.get f)
   have hf := h f
   cases hg : tr.get f with
   | some u =>
    rw [hg] at hf
    have hc : seen.contains f = true := hf.symm
    rw [if_pos hc]
    exact ih rest tr seen h
   | none =>
    rw [hg] at hf
    have hn : seen.contains f = false := hf.symm
    rw [if_neg (by rw [hn]; decide)]
    have ha : ∀ a b : List FuncId, appL a b = a ++ b := by
     intro a b
     induction a with
     | nil => rfl
     | cons x a iha => show x :: appL a b = _; rw [iha]; rfl
    show _ = fastV P n (appL _ rest) (tr.set f ()) (f :: seen)
    rw [ha]
    refine ih _ _ _ fun g => ?_
    rw [Tr.get_set]
    by_cases e : f = g
    ·subst e; simp
    ·rw [if_neg e, h g]
     simp only [List.contains_cons]
     have hb : (g == f) = false := beq_false_of_ne fun q => e q.symm
     rw [hb, Bool.false_or]
def fuelC (P : Program) : Nat := 1 + (P.funcs.toList.map fun g => (P.leadsTo g).length + 1).sum
theorem closure_fast (P : Program) (f : FuncId) : P.closure f = fastV P (fuelC P) [f] .leaf [] := fastV_eq P _ [f] .leaf [] fun _ => rfl
theorem inPlace_fast {P : Program} {f : FuncId} {L : List FuncId} (h : fastV P (fuelC P) [f] .leaf [] = L) : P.inPlace f = L.filterMap fun g => (P.funcs[g]?).bind fun fn => if fn.ours || fn.body.isNone || fn.name == "runtime.NumGoroutine" then some fn.name else none := by
 unfold Program.inPlace; rw [closure_fast, h] <;> rfl
theorem unfollowed_fast {P : Program} {f : FuncId} {L : List FuncId} (h : fastV P (fuelC P) [f] .leaf [] = L) : P.unfollowed f = L.any fun g => (P.funcs[g]?).any fun fn => match fn.body with | some c => c.unfollowed | none => entryCalls fn := by
 unfold Program.unfollowed; rw [closure_fast, h] <;> rfl
theorem recurses_fast {P : Program} {f : FuncId} (h : P.unfollowed f = true) : P.recurses f = true := by
 unfold Program.recurses; rw [h]; rfl
theorem varsNamed_fast {P : Program} {f : FuncId} {L : List FuncId} (h : fastV P (fuelC P) [f] .leaf [] = L) : P.varsNamed f = ((((L.flatMap fun g => ((P.funcs[g]?).bind (·.body)).elim [] Code.globalsNamed).eraseDups).filterMap (fun g => (P.globals[g]?).map (·.name)) ++
  L.filterMap fun g => (P.funcs[g]?).bind fun fn => if fn.body.isNone then entryReads.lookup fn.name else none).eraseDups) := by
 unfold Program.varsNamed; rw [closure_fast, h] <;> rfl
end
end Go.Ef
