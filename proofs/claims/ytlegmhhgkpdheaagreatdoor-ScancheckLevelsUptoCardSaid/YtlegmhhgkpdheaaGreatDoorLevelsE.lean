/- A part of the proof: definitions and lemmas. -/
import Derived.Test.YtlegmhhgkpdheaaGreatDoorLevelsA
import Derived.Test.YtlegmhhgkpdheaaGreatDoorLevelsB
import Derived.Test.YtlegmhhgkpdheaaGreatDoorLevelsC
import Derived.Test.YtlegmhhgkpdheaaGreatDoorLevelsD
import Derived.Test.YtlegmhhgkpdheaaGreatDoorRows
namespace Go.Proofs
open Go Go.Ef Go.RowKit
noncomputable section
namespace Sc
def globs : Nat → Option (List AV)
 | 0 => some (lits YtlegmhhgkpdheaaGreatDoor.Rows.laid_strings_asciiSpace)
 | _ => none
def esc (f t : Nat) : Nat :=
 match f with
 | 13 => bif Nat.beq t 3 || Nat.beq t 4 then 1 else 0
 | 16 => bif Nat.beq t 2 || Nat.beq t 3 || Nat.beq t 5 || Nat.beq t 6 || Nat.beq t 7 then 1 else 0
 | 17 => bif Nat.beq t 3 || Nat.beq t 5 then 1 else 0
 | 18 => bif Nat.beq t 16 then 1 else 0
 | 46 => bif Nat.beq t 10 then 1 else 0
 | 47 => bif Nat.beq t 10 then 1 else 0
 | 49 => bif Nat.beq t 31 then 1 else 0
 | 52 => bif Nat.beq t 29 then 1 else 0
 | 63 => bif Nat.beq t 3 || Nat.beq t 5 then 1 else 0
 | 64 => bif Nat.beq t 3 then 1 else 0
 | 83 => bif Nat.beq t 3 then 1 else 0
 | 100 => bif Nat.beq t 2 then 1 else 0
 | _ => 0
def extra (f t : Nat) : Nat :=
 match f with
 | 3 => bif Nat.beq t 35 || Nat.beq t 40 || Nat.beq t 48 || Nat.beq t 53 || Nat.beq t 55 then 7 else 0
 | 6 => bif Nat.beq t 3 then 1 else bif Nat.beq t 10 then 5 else bif Nat.beq t 4 then 4 else bif Nat.beq t 8 || Nat.beq t 12 || Nat.beq t 14 || Nat.beq t 17 || Nat.beq t 19 || Nat.beq t 22 || Nat.beq t 24 || Nat.beq t 28 || Nat.beq t 30 || Nat.beq t 31 || Nat.beq t 33 || Nat.beq t 35 then 7 else 0
 | 18 => bif Nat.beq t 28 then 5 else bif Nat.beq t 30 then 3 else 0
 | 34 => bif Nat.beq t 25 || Nat.beq t 26 then 5 else bif Nat.beq t 28 || Nat.beq t 29 || Nat.beq t 32 then 3 else bif Nat.beq t 30 then 8 else 0
 | 39 => bif Nat.beq t 28 || Nat.beq t 32 || Nat.beq t 33 then 5 else bif Nat.beq t 35 || Nat.beq t 36 || Nat.beq t 37 then 4 else 0
 | _ => 0
def mode (f t : Nat) : Nat := match extra f t with
 | 0 => esc f t
 | n => n
def bad (f id : Nat) : Bool :=
 match f with
 | 8 => Nat.testBit 8 id
 | 34 => Nat.testBit 2048 id
 | 35 => Nat.testBit 80 id
 | 36 => Nat.testBit 16388 id
 | 37 => Nat.testBit 40 id
 | 49 => Nat.testBit 8192 id
 | 99 => Nat.testBit 64 id
 | 111 => Nat.testBit 128 id
 | _ => false
def tidy (f i : Nat) : Option Tidy :=
 match f with
 | 3 => match i with
  | 6 => some ⟨[0, 1, 5, 6], [0, 1, 5], 1⟩
  | _ => some ⟨[0, 1, 7, 8], [0, 1, 7], 2⟩
 | _ => none
def freshMask : Nat := 5986310884521281461435937983662317766866985135647740
def fresh (g : Nat) : Bool := Nat.testBit freshMask g
def cfg : Cfg := { tidy := tidy, fresh := fresh, mode := mode, pure := fun g => Nat.beq g 33, bad := bad, glob := globs, prim := fun _ => none }
theorem body_at {g : Nat} {fn : Func} (h : Tryz.prog.funcs[g]? = some fn) (hb : fn.body.isSome = true) : ∃ fn : Func, Tryz.prog.funcs[g]? = some fn ∧ fn.body.isSome = true := ⟨fn, h, hb⟩
theorem plain_ok : (Tryz.prog.funcs.all fun fn => !(fn.name == "runtime.NumGoroutine")) = true := by decide +kernel
noncomputable def okAt (C : Cfg) (i : Nat) : List Func → Bool
 | [] => true
 | fn :: r => (match fn.body with
  | some c => codeOk C Tryz.prog i c
  | none => true) && okAt C (i + 1) r
theorem okAt_spec {C : Cfg} : ∀ (l : List Func) (i : Nat), okAt C i l = true → ∀ (j : Nat) (fn : Func) (c : Code), l[j]? = some fn → fn.body = some c → codeOk C Tryz.prog (i + j) c = true := by
 intro l
 induction l with
 | nil => intro i _ j fn c h; simp at h
 | cons a r ih =>
  intro i h j fn c hj hc
  simp only [okAt, Bool.and_eq_true] at h
  cases j with
  | zero =>
   simp at hj; subst hj
   have := h.1
   rw [hc] at this
   exact this
  | succ j =>
   rw [List.getElem?_cons_succ] at hj
   have := ih (i + 1) h.2 j fn c hj hc
   rwa [show i + 1 + j = i + (j + 1) by omega] at this
set_option maxRecDepth 100000 in
theorem okAll : okAt cfg 0 Tryz.prog.funcs.toList = true := by kernel_rfl
theorem fit : Fit Tryz.prog cfg where
 sane := {
  plain := fun g fn h _ => by
   have := Array.all_eq_true'.1 plain_ok fn (Array.mem_of_getElem? h)
   simpa using this
  prim := fun g p h => by cases h }
 mixed := by kernel_rfl
 regs := fun f fn c h hc => by
  have := okAt_spec _ 0 okAll f fn c (by simpa using h) hc
  rwa [Nat.zero_add] at this
def yes : Option (AV × Heap) → Bool
 | some (.sc (.bool true), _) => true
 | _ => false
theorem yes_spec {r : Option (AV × Heap)} (h : yes r = true) : ∃ h', r = some (.sc (.bool true), h') := by
 unfold yes at h
 split at h
 ·exact ⟨_, rfl⟩
 ·cases h
set_option maxRecDepth 100000 in
theorem awake_ev : yes (evCall cfg Tryz.prog 1000 4 [] heapF) = true := by kernel_rfl
theorem awake_p (h : Heap) : callP cfg (evCall cfg Tryz.prog 1000) 4 [] h = some (.sc (.bool true), h) := by
 obtain ⟨h', e⟩ := yes_spec awake_ev
 have hf : cfg.fresh 4 = true := by kernel_rfl
 unfold callP
 rw [show cfg.prim 4 = none from rfl]
 simp only []
 rw [hf]
 simp only [cond_true]
 rw [show mapO (stripA 8) ([] : List AV) = some [] from rfl]
 simp only []
 rw [e]
 rfl
def awakeP (args : List AV) (h : Heap) : Option (AV × Heap) :=
 match args with
 | [] => some (.sc (.bool true), h)
 | _ => none
def prims (g : FuncId) : Option (List AV → Heap → Option (AV × Heap)) :=
 match g with
 | 4 => some awakeP
 | _ => none
def cfgI : Cfg := { cfg with imp := fun g => Nat.beq g 46 || Nat.beq g 47, prim := prims }
set_option maxRecDepth 100000 in
theorem knowI (g : FuncId) (p : List AV → Heap → Option (AV × Heap)) (h : cfgI.prim g = some p) : Known Tryz.prog cfgI g p := by
 replace h : prims g = some p := h
 unfold prims at h
 split at h
 ·cases h
  refine known_of (C := cfg) (C' := cfgI) (n := 1000) fit rfl (body_at Tryz.func4 (by kernel_rfl)) fun a h x hx => ?_
  unfold awakeP at hx
  split at hx
  ·cases hx; exact awake_p h
  ·cases hx
 ·cases h
set_option maxRecDepth 100000 in
theorem okAllI : okAt cfgI 0 Tryz.prog.funcs.toList = true := by kernel_rfl
theorem fitI : Fit Tryz.prog cfgI where
 sane := {
  plain := fit.sane.plain
  prim := knowI }
 mixed := fit.mixed
 regs := fun f fn c h hc => by
  have := okAt_spec _ 0 okAllI f fn c (by simpa using h) hc
  rwa [Nat.zero_add] at this
end Sc
end
end Go.Proofs
