/- A part of the proof: definitions and lemmas. -/
import Derived.Test.YtijnmcodipdioaaGreatDoorLiteralsA
import Derived.Test.YtijnmcodipdioaaGreatDoorLiteralsB
import Derived.Test.YtijnmcodipdioaaGreatDoorLiteralsC
import Derived.Test.YtijnmcodipdioaaGreatDoorLiteralsD
import Derived.Test.YtijnmcodipdioaaGreatDoorLiteralsE
import Derived.Test.YtijnmcodipdioaaGreatDoorLiteralsF
import Derived.Test.YtijnmcodipdioaaGreatDoorLiteralsG
import Derived.Test.YtijnmcodipdioaaGreatDoorLiteralsQ
namespace Go.Proofs.Rl
open Go Go.Ef
noncomputable section
set_option maxRecDepth 1000000
set_option maxHeartbeats 0
def isArgs (l m : List AV) : Bool := eqA 20 (.agg l) (.agg m)
def exC30 (args : List AV) (h : Heap) : Option CSpec := bif isArgs args a30V then some (fspec True r30V h) else none
def T8e : Tab := { tab0.addC 30 exC30 with deep := fun _ => true, lazy := fun _ => true, exact := fun _ _ => true }
theorem v8 (K : AV → Prop) (h : True ∧ ∀ (_ : Unit), True → K r8V) : wpCall T8e cfg Tryz.prog 300 8 [.agg x1V, aStr [120, 97, 98, 99, 100], iA 0] heapF fun r h' => wpDeepB h' r K := Eq.mp (by kernel_rfl) h
theorem flat8 : mapO (stripA 8) [.agg x1V, aStr [120, 97, 98, 99, 100], iA 0] = some [.agg x1V, aStr [120, 97, 98, 99, 100], iA 0] := by kernel_rfl
end
end Go.Proofs.Rl
