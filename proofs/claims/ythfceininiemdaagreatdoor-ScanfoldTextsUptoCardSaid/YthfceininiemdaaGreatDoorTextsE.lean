/- A part of the proof: definitions and lemmas. -/
import Derived.Test.YthfceininiemdaaGreatDoorTextsA
import Derived.Test.YthfceininiemdaaGreatDoorTextsB
import Derived.Test.YthfceininiemdaaGreatDoorTextsC
import Derived.Test.YthfceininiemdaaGreatDoorTextsD
import Derived.Test.YthfceininiemdaaGreatDoorRows
namespace Go.Proofs
open Go Go.Ef Go.RowKit
noncomputable section
namespace Sf
def globs : Nat → Option (List AV)
 | 0 => some (lits YthfceininiemdaaGreatDoor.Rows.laid_texttools_builtin_functions)
 | 2 => some (lits YthfceininiemdaaGreatDoor.Rows.laid_texttools_decimal_units)
 | 5 => some (lits YthfceininiemdaaGreatDoor.Rows.laid_internal_strconv_uint64pow10)
 | 7 => some (lits YthfceininiemdaaGreatDoor.Rows.laid_math_bits_deBruijn32tab)
 | 8 => some (lits YthfceininiemdaaGreatDoor.Rows.laid_math_bits_deBruijn64tab)
 | 9 => some (lits YthfceininiemdaaGreatDoor.Rows.laid_unicode_utf8_first)
 | 10 => some (lits YthfceininiemdaaGreatDoor.Rows.laid_unicode_utf8_acceptRanges)
 | _ => none
def esc (f t : Nat) : Nat :=
 match f with
 | 19 => bif Nat.beq t 5 then 1 else 0
 | 28 => bif Nat.beq t 9 || Nat.beq t 28 then 1 else 0
 | 121 => bif Nat.beq t 22 then 1 else 0
 | 192 => bif Nat.beq t 3 then 1 else 0
 | 193 => bif Nat.beq t 31 then 1 else 0
 | 196 => bif Nat.beq t 29 then 1 else 0
 | 206 => bif Nat.beq t 7 || Nat.beq t 8 || Nat.beq t 17 then 1 else 0
 | 210 => bif Nat.beq t 3 then 1 else 0
 | 227 => bif Nat.beq t 41 then 1 else 0
 | 252 => bif Nat.beq t 3 || Nat.beq t 5 then 1 else 0
 | 253 => bif Nat.beq t 3 then 1 else 0
 | 257 => bif Nat.beq t 42 || Nat.beq t 60 then 1 else 0
 | 258 => bif Nat.beq t 51 then 1 else 0
 | 279 => bif Nat.beq t 4 then 1 else 0
 | 303 => bif Nat.beq t 47 then 1 else 0
 | 333 => bif Nat.beq t 11 then 1 else 0
 | 334 => bif Nat.beq t 9 then 1 else 0
 | 347 => bif Nat.beq t 9 then 1 else 0
 | 371 => bif Nat.beq t 5 then 1 else 0
 | 374 => bif Nat.beq t 3 then 1 else 0
 | 385 => bif Nat.beq t 5 || Nat.beq t 8 then 1 else 0
 | 386 => bif Nat.beq t 5 || Nat.beq t 13 then 1 else 0
 | 400 => bif Nat.beq t 7 then 1 else 0
 | 404 => bif Nat.beq t 8 then 1 else 0
 | 418 => bif Nat.beq t 35 || Nat.beq t 51 || Nat.beq t 92 || Nat.beq t 117 || Nat.beq t 139 then 1 else 0
 | 419 => bif Nat.beq t 38 || Nat.beq t 77 || Nat.beq t 93 then 1 else 0
 | 420 => bif Nat.beq t 79 || Nat.beq t 93 then 1 else 0
 | 426 => bif Nat.beq t 12 then 1 else 0
 | 436 => bif Nat.beq t 2 then 1 else 0
 | 440 => bif Nat.beq t 6 || Nat.beq t 7 || Nat.beq t 8 then 1 else 0
 | 452 => bif Nat.beq t 5 then 1 else 0
 | 544 => bif Nat.beq t 9 || Nat.beq t 10 then 1 else 0
 | 545 => bif Nat.beq t 11 then 1 else 0
 | 549 => bif Nat.beq t 3 then 1 else 0
 | 557 => bif Nat.beq t 7 || Nat.beq t 13 then 1 else 0
 | 558 => bif Nat.beq t 11 then 1 else 0
 | 564 => bif Nat.beq t 3 || Nat.beq t 4 || Nat.beq t 5 || Nat.beq t 7 then 1 else 0
 | 567 => bif Nat.beq t 6 || Nat.beq t 7 || Nat.beq t 8 || Nat.beq t 9 || Nat.beq t 14 then 1 else 0
 | 569 => bif Nat.beq t 3 then 1 else 0
 | _ => 0
def extra (f t : Nat) : Nat :=
 match f with
 | 10 => bif Nat.beq t 25 || Nat.beq t 29 || Nat.beq t 30 || Nat.beq t 32 then 3 else bif Nat.beq t 6 || Nat.beq t 8 then 1 else 0
 | 19 => bif Nat.beq t 15 || Nat.beq t 19 then 8 else bif Nat.beq t 4 then 4 else 0
 | 8 => bif Nat.beq t 48 then 3 else bif Nat.beq t 8 then 1 else 0
 | 187 => bif Nat.beq t 79 then 3 else bif Nat.beq t 86 then 4 else 0
 | 185 => bif Nat.beq t 25 then 6 else 0
 | 64 => bif Nat.beq t 35 || Nat.beq t 55 || Nat.beq t 62 then 6 else 0
 | _ => 0
def mode (f t : Nat) : Nat := match extra f t with
 | 0 => esc f t
 | n => n
def bad (f id : Nat) : Bool :=
 match f with
 | 5 => Nat.testBit 2048 id
 | 6 => Nat.testBit 8 id
 | 18 => Nat.testBit 4160 id
 | 28 => Nat.testBit 32768 id
 | 31 => Nat.testBit 128 id
 | 36 => Nat.testBit 2 id
 | 37 => Nat.testBit 6 id
 | 38 => Nat.testBit 6 id
 | 40 => Nat.testBit 258 id
 | 41 => Nat.testBit 33026 id
 | 43 => Nat.testBit 1536 id
 | 45 => Nat.testBit 2 id
 | 48 => Nat.testBit 64 id
 | 67 => Nat.testBit 516 id
 | 74 => Nat.testBit 512 id
 | 81 => Nat.testBit 16 id
 | 100 => Nat.testBit 640 id
 | 102 => Nat.testBit 512 id
 | 105 => Nat.testBit 33026 id
 | 107 => Nat.testBit 1028 id
 | 121 => Nat.testBit 4096 id
 | 126 => Nat.testBit 20 id
 | 150 => Nat.testBit 131072 id
 | 151 => Nat.testBit 80 id
 | 191 => Nat.testBit 2623488 id
 | 193 => Nat.testBit 8192 id
 | 227 => Nat.testBit 53248 id
 | 257 => Nat.testBit 32 id
 | 258 => Nat.testBit 8192 id
 | 271 => Nat.testBit 2 id
 | 333 => Nat.testBit 34 id
 | 383 => Nat.testBit 2 id
 | 386 => Nat.testBit 4096 id
 | 402 => Nat.testBit 8 id
 | 414 => Nat.testBit 1024 id
 | 420 => Nat.testBit 256 id
 | 435 => Nat.testBit 64 id
 | 447 => Nat.testBit 2 id
 | 455 => Nat.testBit 1 id
 | 461 => Nat.testBit 33280 id
 | 484 => Nat.testBit 128 id
 | 544 => Nat.testBit 2097152 id
 | 547 => Nat.testBit 64 id
 | 553 => Nat.testBit 2 id
 | 556 => Nat.testBit 3328 id
 | _ => false
def tidy (f i : Nat) : Option Tidy :=
 match f with
 | 277 => match i with
  | 6 => some ⟨[0, 1, 6, 22, 23], [1, 4, 5, 6], 0⟩
  | _ => none
 | 132 => match i with
  | 4 => some ⟨[0, 1, 6, 7], [4, 5, 6], 0⟩
  | _ => none
 | 354 => match i with
  | 18 => some ⟨[2, 8, 9, 10, 11, 13, 14, 15, 16], [2, 8, 9, 10, 11, 13, 14, 15, 16], 0⟩
  | 25 => some ⟨[2, 8, 9, 10, 14, 15, 16, 17, 18], [2, 8, 9, 10, 14, 15, 16, 17, 18], 0⟩
  | _ => none
 | 27 => match i with
  | 3 => some ⟨[0, 3], [0, 2], 0⟩
  | _ => none
 | 184 => match i with
  | 3 => some ⟨[0, 1, 5], [4], 0⟩
  | _ => none
 | 185 => match i with
  | 4 => some ⟨[0, 5, 6], [5], 0⟩
  | _ => none
 | 64 => match i with
  | 6 => some ⟨[0, 5, 6], [0, 5], 0⟩
  | _ => none
 | _ => none
def freshMask : Nat := 16210313725797986640916985525115586875494349862487248284284638970560158699763342172552137402682723815110503294435955907193590604429183832167264057451271003740639412430584370167804
def fresh (g : Nat) : Bool := Nat.testBit freshMask g
def imp (g : Nat) : Bool := Nat.beq g 56 || Nat.beq g 57
def cfg : Cfg := { tidy := tidy, fresh := fresh, mode := mode, pure := fun _ => false, bad := bad, glob := globs, prim := fun _ => none, imp := imp }
theorem plain_ok : (Tryz.prog.funcs.all fun fn => !(fn.name == "runtime.NumGoroutine")) = true := by decide +kernel
noncomputable def okAt (C : Cfg) (i : Nat) : List Func → Bool
 | [] => true
 | fn :: r => (match fn.body with
  | some c => codeOk C Tryz.prog i c
  | none => true) && okAt C (i + 1) r
theorem okAt_spec {C : Cfg} : ∀ (l : List Func) (i : Nat), okAt C i l = true → ∀ (j : Nat) (fn : Func) (c : Code), l[j]? = some fn → fn.body = some c → codeOk C Tryz.prog (i + j) c = true := by
 intro l
 induction l with
 | nil => intro i _ j fn c h; simp at h
 | cons a r ih =>
  intro i h j fn c hj hc
  simp only [okAt, Bool.and_eq_true] at h
  cases j with
  | zero =>
   simp at hj; subst hj
   have := h.1
   rw [hc] at this
   exact this
  | succ j =>
   rw [List.getElem?_cons_succ] at hj
   have := ih (i + 1) h.2 j fn c hj hc
   rwa [show i + 1 + j = i + (j + 1) by omega] at this
set_option maxRecDepth 100000 in
theorem okAll : okAt cfg 0 Tryz.prog.funcs.toList = true := by kernel_rfl
theorem fit : Fit Tryz.prog cfg where
 sane := {
  plain := fun g fn h _ => by
   have := Array.all_eq_true'.1 plain_ok fn (Array.mem_of_getElem? h)
   simpa using this
  prim := fun g p h => by cases h }
 mixed := by kernel_rfl
 regs := fun f fn c h hc => by
  have := okAt_spec _ 0 okAll f fn c (by simpa using h) hc
  rwa [Nat.zero_add] at this
def yes : Option (AV × Heap) → Bool
 | some (.sc (.bool true), _) => true
 | _ => false
theorem yes_spec {r : Option (AV × Heap)} (h : yes r = true) : ∃ h', r = some (.sc (.bool true), h') := by
 unfold yes at h
 split at h
 ·exact ⟨_, rfl⟩
 ·cases h
set_option maxRecDepth 100000 in
theorem awake_ev : yes (evCall cfg Tryz.prog 1000 10 [] heapF) = true := by kernel_rfl
end Sf
end
end Go.Proofs
