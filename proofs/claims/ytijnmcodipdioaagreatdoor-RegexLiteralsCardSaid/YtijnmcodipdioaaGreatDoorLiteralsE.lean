/- A part of the proof: definitions and lemmas. -/
import Derived.Test.YtijnmcodipdioaaGreatDoorLiteralsA
import Derived.Test.YtijnmcodipdioaaGreatDoorLiteralsB
import Derived.Test.YtijnmcodipdioaaGreatDoorLiteralsC
import Derived.Test.YtijnmcodipdioaaGreatDoorLiteralsD
import Derived.Test.YtijnmcodipdioaaGreatDoorRows
namespace Go.Proofs
open Go Go.Ef Go.RowKit
noncomputable section
namespace Rl
def globs : Nat → Option (List AV)
 | _ => none
def esc (f t : Nat) : Nat :=
 match f with
 | 11 => bif Nat.beq t 31 then 1 else 0
 | 14 => bif Nat.beq t 29 then 1 else 0
 | 24 => bif Nat.beq t 3 || Nat.beq t 5 then 1 else 0
 | 25 => bif Nat.beq t 3 then 1 else 0
 | 29 => bif Nat.beq t 42 || Nat.beq t 60 then 1 else 0
 | 30 => bif Nat.beq t 51 then 1 else 0
 | 42 => bif Nat.beq t 11 then 1 else 0
 | 43 => bif Nat.beq t 9 then 1 else 0
 | 46 => bif Nat.beq t 3 then 1 else 0
 | 57 => bif Nat.beq t 5 || Nat.beq t 8 then 1 else 0
 | 58 => bif Nat.beq t 5 || Nat.beq t 13 then 1 else 0
 | 66 => bif Nat.beq t 2 then 1 else 0
 | 70 => bif Nat.beq t 6 || Nat.beq t 7 || Nat.beq t 8 then 1 else 0
 | 142 => bif Nat.beq t 9 || Nat.beq t 10 then 1 else 0
 | 143 => bif Nat.beq t 11 then 1 else 0
 | 147 => bif Nat.beq t 3 then 1 else 0
 | 155 => bif Nat.beq t 7 || Nat.beq t 13 then 1 else 0
 | 156 => bif Nat.beq t 11 then 1 else 0
 | 162 => bif Nat.beq t 3 || Nat.beq t 4 || Nat.beq t 5 || Nat.beq t 7 then 1 else 0
 | 165 => bif Nat.beq t 6 || Nat.beq t 7 || Nat.beq t 8 || Nat.beq t 9 || Nat.beq t 14 then 1 else 0
 | 167 => bif Nat.beq t 3 then 1 else 0
 | _ => 0
def extra (f t : Nat) : Nat :=
 match f with
 | 28 => bif Nat.beq t 20 then 7 else bif Nat.beq t 21 then 1 else 0
 | 6 => bif Nat.beq t 12 || Nat.beq t 13 then 1 else bif Nat.beq t 32 || Nat.beq t 36 || Nat.beq t 41 || Nat.beq t 42 then 8 else bif Nat.beq t 31 || Nat.beq t 33 || Nat.beq t 39 then 3 else bif Nat.beq t 40 then 5 else 0
 | 29 => bif Nat.beq t 4 then 1 else bif Nat.beq t 8 || Nat.beq t 15 || Nat.beq t 40 || Nat.beq t 48 || Nat.beq t 49 || Nat.beq t 58 then 8 else bif Nat.beq t 46 || Nat.beq t 47 || Nat.beq t 38 || Nat.beq t 39 then 3 else 0
 | 30 => bif Nat.beq t 73 || Nat.beq t 75 || Nat.beq t 78 || Nat.beq t 80 then 3 else 0
 | 42 => bif Nat.beq t 8 then 8 else bif Nat.beq t 6 || Nat.beq t 7 || Nat.beq t 24 then 3 else bif Nat.beq t 26 then 6 else 0
 | 55 => bif Nat.beq t 5 then 1 else bif Nat.beq t 13 then 8 else bif Nat.beq t 8 then 3 else bif Nat.beq t 12 then 5 else 0
 | 77 => bif Nat.beq t 10 || Nat.beq t 19 || Nat.beq t 24 then 5 else 0
 | 142 => bif Nat.beq t 93 || Nat.beq t 94 then 5 else bif Nat.beq t 6 then 4 else 0
 | 145 => bif Nat.beq t 32 then 3 else bif Nat.beq t 12 then 1 else bif Nat.beq t 30 || Nat.beq t 34 then 5 else 0
 | 144 => bif Nat.beq t 20 || Nat.beq t 90 || Nat.beq t 101 || Nat.beq t 116 then 7 else bif Nat.beq t 21 || Nat.beq t 102 || Nat.beq t 117 then 1 else 0
 | _ => 0
def mode (f t : Nat) : Nat := match extra f t with
 | 0 => esc f t
 | n => n
def bad (f id : Nat) : Bool :=
 match f with
 | 11 => Nat.testBit 8192 id
 | 42 => Nat.testBit 32 id
 | 58 => Nat.testBit 4096 id
 | 65 => Nat.testBit 64 id
 | 86 => Nat.testBit 128 id
 | 151 => Nat.testBit 2 id
 | 154 => Nat.testBit 3328 id
 | _ => false
def tidy (f i : Nat) : Option Tidy :=
 match f with
 | 142 => match i with
  | 11 => some ⟨[1, 3, 6, 8, 9, 10, 11, 12], [6, 9, 10], 2⟩
  | 14 => some ⟨[1, 3, 6, 8, 9, 10, 11, 12, 48, 49, 50], [1, 3, 6, 8, 9, 10, 11, 12], 2⟩
  | _ => none
 | 144 => match i with
  | 3 => some ⟨[0, 1, 3, 4], [1], 0⟩
  | _ => none
 | 145 => match i with
  | 5 => some ⟨[0, 2, 3, 9, 20, 21, 22], [9], 0⟩
  | _ => none
 | 3 => match i with
  | 13 => some ⟨[0, 1, 8, 11, 12, 14, 15], [0, 1, 8, 11, 12, 14], 2⟩
  | 21 => some ⟨[0, 1, 11, 12, 21], [6, 12], 3⟩
  | _ => none
 | 4 => match i with
  | 3 => some ⟨[0, 3], [0, 2], 0⟩
  | _ => none
 | _ => none
def freshMask : Nat := 122812945735107020119068184000436773660022557676470268
def fresh (g : Nat) : Bool := Nat.testBit freshMask g
def imp (g : Nat) : Bool := Nat.beq g 99999
def prims (g : FuncId) : Option (List AV → Heap → Option (AV × Heap)) :=
 match g with
 | 113 => some (indexByteP)
 | _ => none
def two (f id : Nat) : Option (Nat × Nat × List Nat) :=
 match f with
 | 42 => bif Nat.beq id 5 then some (4, 6, [0, 1, 2, 3, 5, 6, 4, 7, 8, 9, 10, 11]) else none
 | 58 => bif Nat.beq id 12 then some (1, 8, [0, 2, 3, 4, 5, 6, 7, 8, 1, 9]) else none
 | _ => none
def gsh (_ : Nat) : Option Nat := none
def cfg : Cfg := { tidy := tidy, fresh := fresh, mode := mode, pure := fun _ => false, bad := bad, glob := globs, prim := prims, imp := imp, gsh := gsh, two := two }
theorem plain_ok : (Tryz.prog.funcs.all fun fn => !(fn.name == "runtime.NumGoroutine")) = true := by decide +kernel
theorem know113 : Known Tryz.prog cfg 113 indexByteP := known_indexByte Tryz.func113 (by kernel_rfl) (by kernel_rfl) (by kernel_rfl) (by kernel_rfl)
theorem knows (g : FuncId) (p : List AV → Heap → Option (AV × Heap)) (h : cfg.prim g = some p) : Known Tryz.prog cfg g p := by
 replace h : prims g = some p := h
 unfold prims at h
 split at h
 ·cases h; exact know113
 ·cases h
noncomputable def okAt (C : Cfg) (i : Nat) : List Func → Bool
 | [] => true
 | fn :: r => (match fn.body with
  | some c => codeOk C Tryz.prog i c
  | none => true) && okAt C (i + 1) r
theorem okAt_spec {C : Cfg} : ∀ (l : List Func) (i : Nat), okAt C i l = true → ∀ (j : Nat) (fn : Func) (c : Code), l[j]? = some fn → fn.body = some c → codeOk C Tryz.prog (i + j) c = true := by
 intro l
 induction l with
 | nil => intro i _ j fn c h; simp at h
 | cons a r ih =>
  intro i h j fn c hj hc
  simp only [okAt, Bool.and_eq_true] at h
  cases j with
  | zero =>
   simp at hj; subst hj
   have := h.1
   rw [hc] at this
   exact this
  | succ j =>
   rw [List.getElem?_cons_succ] at hj
   have := ih (i + 1) h.2 j fn c hj hc
   rwa [show i + 1 + j = i + (j + 1) by omega] at this
set_option maxRecDepth 100000 in
theorem okAll : okAt cfg 0 Tryz.prog.funcs.toList = true := by kernel_rfl
theorem fit : Fit Tryz.prog cfg where
 sane := {
  plain := fun g fn h _ => by
   have := Array.all_eq_true'.1 plain_ok fn (Array.mem_of_getElem? h)
   simpa using this
  prim := knows }
 mixed := by kernel_rfl
 regs := fun f fn c h hc => by
  have := okAt_spec _ 0 (okAll) f fn c (by simpa using h) hc
  rwa [Nat.zero_add] at this
end Rl
end
end Go.Proofs
