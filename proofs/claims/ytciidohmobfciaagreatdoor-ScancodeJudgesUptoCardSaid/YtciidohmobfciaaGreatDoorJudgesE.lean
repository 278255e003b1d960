/- A part of the proof: definitions and lemmas. -/
import Derived.Test.YtciidohmobfciaaGreatDoorJudgesA
import Derived.Test.YtciidohmobfciaaGreatDoorJudgesB
import Derived.Test.YtciidohmobfciaaGreatDoorJudgesC
import Derived.Test.YtciidohmobfciaaGreatDoorJudgesD
import Derived.Test.YtciidohmobfciaaGreatDoorRows
namespace Go.Proofs
open Go Go.Ef Go.RowKit
noncomputable section
namespace Sp
def globs (m : Int) : Nat → Option (List AV)
 | 0 => some [.sc (.int .i64 m)]
 | 4 => some (lits YtciidohmobfciaaGreatDoor.Rows.laid_strings_asciiSpace)
 | _ => none
def esc (f t : Nat) : Nat :=
 match f with
 | 6 => bif Nat.beq t 4 then 1 else 0
 | 8 => bif Nat.beq t 3 then 1 else 0
 | 14 => bif Nat.beq t 18 then 1 else 0
 | 16 => bif Nat.beq t 29 then 1 else 0
 | 19 => bif Nat.beq t 8 then 1 else 0
 | 52 => bif Nat.beq t 3 then 1 else 0
 | 79 => bif Nat.beq t 10 then 1 else 0
 | 95 => bif Nat.beq t 3 || Nat.beq t 4 then 1 else 0
 | 98 => bif Nat.beq t 2 || Nat.beq t 3 || Nat.beq t 5 || Nat.beq t 6 || Nat.beq t 7 then 1 else 0
 | 99 => bif Nat.beq t 3 || Nat.beq t 5 then 1 else 0
 | 100 => bif Nat.beq t 16 then 1 else 0
 | 114 => bif Nat.beq t 2 || Nat.beq t 3 || Nat.beq t 4 || Nat.beq t 11 then 1 else 0
 | 117 => bif Nat.beq t 5 then 1 else 0
 | 122 => bif Nat.beq t 9 then 1 else 0
 | 153 => bif Nat.beq t 12 then 1 else 0
 | 166 => bif Nat.beq t 10 then 1 else 0
 | 167 => bif Nat.beq t 10 then 1 else 0
 | 169 => bif Nat.beq t 31 then 1 else 0
 | 172 => bif Nat.beq t 29 then 1 else 0
 | 193 => bif Nat.beq t 3 || Nat.beq t 5 then 1 else 0
 | 194 => bif Nat.beq t 3 then 1 else 0
 | 215 => bif Nat.beq t 3 then 1 else 0
 | 231 => bif Nat.beq t 2 then 1 else 0
 | _ => 0
def extra (f t : Nat) : Nat :=
 match f with
 | 16 => bif Nat.beq t 61 || Nat.beq t 66 then 5 else bif Nat.beq t 68 || Nat.beq t 69 then 4 else bif Nat.beq t 29 then 1 else 0
 | 12 => bif Nat.beq t 16 || Nat.beq t 76 then 1 else 0
 | 24 => bif Nat.beq t 22 then 7 else 0
 | 89 => bif Nat.beq t 20 then 7 else 0
 | 82 => bif Nat.beq t 13 then 7 else 0
 | 25 => bif Nat.beq t 20 || Nat.beq t 26 || Nat.beq t 29 then 7 else 0
 | 55 => bif Nat.beq t 21 || Nat.beq t 40 || Nat.beq t 44 then 7 else 0
 | 8 => bif Nat.beq t 18 || Nat.beq t 24 || Nat.beq t 30 || Nat.beq t 36 || Nat.beq t 78 || Nat.beq t 98 then 7 else 0
 | 81 => bif Nat.beq t 13 then 7 else 0
 | 37 => bif Nat.beq t 5 then 1 else bif Nat.beq t 14 || Nat.beq t 17 || Nat.beq t 21 || Nat.beq t 24 then 5 else bif Nat.beq t 8 then 4 else 0
 | 5 => bif Nat.beq t 58 then 7 else 0
 | 36 => bif Nat.beq t 63 then 7 else bif Nat.beq t 64 then 1 else 0
 | 94 => bif Nat.beq t 9 then 1 else 0
 | 14 => bif Nat.beq t 10 || Nat.beq t 14 then 3 else 0
 | _ => 0
def mode (f t : Nat) : Nat := match extra f t with
 | 0 => esc f t
 | n => n
def bad (f id : Nat) : Bool :=
 match f with
 | 14 => Nat.testBit 2 id
 | 23 => Nat.testBit 2 id
 | 49 => Nat.testBit 8 id
 | 71 => Nat.testBit 67108864 id
 | 77 => Nat.testBit 1 id
 | 100 => Nat.testBit 32 id
 | 114 => Nat.testBit 8590066176 id
 | 137 => Nat.testBit 2080 id
 | 138 => Nat.testBit 80 id
 | 139 => Nat.testBit 16388 id
 | 140 => Nat.testBit 40 id
 | 142 => Nat.testBit 8 id
 | 147 => Nat.testBit 32 id
 | 169 => Nat.testBit 8192 id
 | 230 => Nat.testBit 64 id
 | 242 => Nat.testBit 128 id
 | _ => false
def tidy (f i : Nat) : Option Tidy :=
 match f with
 | 8 => match i with
  | 9 => some ⟨[1, 3, 4, 39, 40, 41], [1, 3, 4], 1⟩
  | 13 => some ⟨[1, 3, 4, 6, 7, 39, 40, 41, 53, 54, 55], [1, 3, 4, 7, 39, 40, 41], 2⟩
  | 23 => some ⟨[3, 4, 86, 87, 88], [3], 0⟩
  | _ => none
 | 9 => match i with
  | 4 => some ⟨[1, 3, 4], [1, 3], 1⟩
  | 9 => some ⟨[1, 3, 4, 5, 6], [1, 3, 4], 2⟩
  | 16 => some ⟨[1, 3, 7], [3], 1⟩
  | _ => none
 | 22 => some ⟨[1, 3, 14], [3], 2⟩
 | 24 => some ⟨[0, 3, 4], [0, 3], 0⟩
 | 25 => some ⟨[3, 4, 5], [4], 0⟩
 | 28 => some ⟨[1, 2, 5, 6], [5], 1⟩
 | 52 => some ⟨[0, 3, 8, 9], [3], 0⟩
 | 54 => some ⟨[4, 6], [4, 6], 0⟩
 | 55 => some ⟨[0, 3, 4], [3], 0⟩
 | 57 => some ⟨[0, 4, 5], [0, 4, 5], 0⟩
 | 89 => some ⟨[0, 1, 5, 6], [5], 0⟩
 | 5 => match i with
  | 7 => some ⟨[1, 3, 4, 39, 40, 41], [1, 2, 3, 4], 1⟩
  | 14 => some ⟨[1, 3, 4, 62, 63, 64], [1, 2, 3, 4], 1⟩
  | 20 => some ⟨[1, 3, 4, 73, 74, 75], [1, 2, 4], 1⟩
  | 26 => some ⟨[1, 86, 87, 88], [2], 1⟩
  | _ => none
 | 6 => some ⟨[1, 3], [2], 1⟩
 | 12 => some ⟨[2, 3, 5, 6], [4], 2⟩
 | 13 => match i with
  | 6 => some ⟨[1, 3, 4], [1, 2, 3], 1⟩
  | 11 => some ⟨[1, 3, 5], [2], 1⟩
  | _ => none
 | 14 => some ⟨[2, 3, 7], [7], 1⟩
 | 58 => some ⟨[6, 63, 64, 65], [6], 0⟩
 | 93 => some ⟨[0, 3, 4], [3], 0⟩
 | 94 => some ⟨[1, 3, 4], [3], 1⟩
 | _ => none
def freshMask : Nat := 509258994557869668833792302293111180268455062556347892885663308680580615786397052719185916
def fresh (g : Nat) : Bool := Nat.testBit freshMask g
def imp (g : Nat) : Bool := Nat.beq g 99999
def noP (_ : List AV) (_ : Heap) : Option (AV × Heap) := none
def prims (g : FuncId) : Option (List AV → Heap → Option (AV × Heap)) :=
 match g with
 | 19 => some (joinP)
 | 23 => some (stringP 63 5)
 | 48 => some (copyP 63)
 | 51 => some (replP)
 | 117 => some noP
 | 122 => some (repeatP)
 | 158 => some (indexByteP)
 | _ => none
def gsh (_ : Nat) : Option Nat := none
def cfg (m : Int) : Cfg := { tidy := tidy, fresh := fresh, mode := mode, pure := fun _ => false, bad := bad, glob := globs m, prim := prims, imp := imp, gsh := gsh }
theorem body_at {g : Nat} {fn : Func} (h : Tryz.prog.funcs[g]? = some fn) (hb : fn.body.isSome = true) : ∃ fn : Func, Tryz.prog.funcs[g]? = some fn ∧ fn.body.isSome = true := ⟨fn, h, hb⟩
theorem plain_ok : (Tryz.prog.funcs.all fun fn => !(fn.name == "runtime.NumGoroutine")) = true := by decide +kernel
set_option maxHeartbeats 1000000 in
set_option maxRecDepth 100000 in
theorem copy_used (b : Nat) (w : World) (h0 : w.cell? ⟨b, 0, none⟩ = some (.pointer (some ⟨b, 0, none⟩))) :
  Calls Tryz.prog 48 #[.pointer (some ⟨b, 0, none⟩)] w fun e w' => e = .returned (.tuple #[]) ∧ w' = w := by
 have hsz : (Tryz.prog.info? 63).map (·.size) = some 2 := by kernel_rfl
 obtain ⟨j, hj, _⟩ := Option.map_eq_some_iff.1 hsz
 go_enter Tryz.func48, Tryz.ntmps48
 go_wp2
 rw [Lib.run_neq_ptr_same w _ Tryz.underlying60 hj]
 go_wp2
 go_end0
 exact ⟨rfl, rfl⟩
set_option maxHeartbeats 1000000 in
set_option maxRecDepth 100000 in
theorem copy_fresh (b : Nat) (w : World) (h0 : w.cell? ⟨b, 0, none⟩ = some (.pointer none)) (hsh : w.shape? b = some (63, 2)) (hfz : w.frozen? ⟨b, 0, none⟩ = false) :
  Calls Tryz.prog 48 #[.pointer (some ⟨b, 0, none⟩)] w fun e w' => e = .returned (.tuple #[]) ∧ w' = w.setCell ⟨b, 0, none⟩ (.pointer (some ⟨b, 0, none⟩)) := by
 have hsz : (Tryz.prog.info? 63).map (·.size) = some 2 := by kernel_rfl
 have hlies : liesAt Tryz.prog Tryz.prog.depth 63 (2 / Tryz.prog.cellsOf 63) 0 63 1 = true := by kernel_rfl
 obtain ⟨j, hj, hjs⟩ := Option.map_eq_some_iff.1 hsz
 go_enter Tryz.func48, Tryz.ntmps48
 go_wp2
 rw [Lib.run_to_unsafe w ⟨b, 0, none⟩ Tryz.underlying60 Tryz.underlying142 hj (by rw [hjs]; decide) hsh (Nat.zero_lt_succ 1)]
 simp only [Result.andThen]
 rw [Oper.upon_value]
 go_wp2
 rw [run_callFunc_extern Tryz.func76 (by kernel_rfl) (by kernel_rfl) (by kernel_rfl) (e := Extern.AbiNoEscape.same) (by kernel_rfl)]
 rw [Lib.run_noEscape]
 simp only [Result.andThen]
 rw [Oper.upon_value]
 go_wp2
 rw [Lib.run_from_unsafe w ⟨b, 0, none⟩ Tryz.underlying142 Tryz.underlying60 hj hsh hlies]
 simp only [Result.andThen]
 rw [Oper.upon_value]
 go_wp2
 go_end0
 exact ⟨rfl, rfl⟩
set_option maxRecDepth 100000 in
theorem know19 (m : Int) : Known Tryz.prog (cfg m) 19 joinP := shelf_join Tryz.lays156 Tryz.Builder_Extra_156 (body_at Tryz.func19 (by kernel_rfl))
set_option maxRecDepth 100000 in
theorem know23 (m : Int) : Known Tryz.prog (cfg m) 23 (stringP 63 5) := shelf_string Tryz.lays169 Tryz.Builder_Extra_169 (body_at Tryz.func23 (by kernel_rfl))
set_option maxRecDepth 100000 in
theorem know48 (m : Int) : Known Tryz.prog (cfg m) 48 (copyP 63) := known_copy (body_at Tryz.func48 (by kernel_rfl)) copy_fresh fun b w h _ => copy_used b w h
set_option maxRecDepth 100000 in
theorem know51 (m : Int) : Known Tryz.prog (cfg m) 51 replP := shelf_replace Tryz.lays155 Tryz.Builder_Extra_155 (m := m) rfl (body_at Tryz.func51 (by kernel_rfl))
set_option maxRecDepth 100000 in
theorem known_no {C : Cfg} {g : FuncId} (hb : ∃ fn : Func, Tryz.prog.funcs[g]? = some fn ∧ fn.body.isSome = true) : Known Tryz.prog C g noP := .inl ⟨hb, fun _ _ _ _ h => by cases h⟩
theorem know117 (m : Int) : Known Tryz.prog (cfg m) 117 noP := known_no (body_at Tryz.func117 (by kernel_rfl))
set_option maxRecDepth 100000 in
theorem know122 (m : Int) : Known Tryz.prog (cfg m) 122 repeatP := shelf_repeat Tryz.lays105 Tryz.Builder_Extra_105 (body_at Tryz.func122 (by kernel_rfl))
theorem know158 (m : Int) : Known Tryz.prog (cfg m) 158 indexByteP := known_indexByte Tryz.func158 (by kernel_rfl) (by kernel_rfl) (by kernel_rfl) (by kernel_rfl)
theorem knows (m : Int) (g : FuncId) (p : List AV → Heap → Option (AV × Heap)) (h : (cfg m).prim g = some p) : Known Tryz.prog (cfg m) g p := by
 replace h : prims g = some p := h
 unfold prims at h
 split at h
 ·cases h; exact know19 m
 ·cases h; exact know23 m
 ·cases h; exact know48 m
 ·cases h; exact know51 m
 ·cases h; exact know117 m
 ·cases h; exact know122 m
 ·cases h; exact know158 m
 ·cases h
noncomputable def okAt (C : Cfg) (i : Nat) : List Func → Bool
 | [] => true
 | fn :: r => (match fn.body with
  | some c => codeOk C Tryz.prog i c
  | none => true) && okAt C (i + 1) r
theorem okAt_spec {C : Cfg} : ∀ (l : List Func) (i : Nat), okAt C i l = true → ∀ (j : Nat) (fn : Func) (c : Code), l[j]? = some fn → fn.body = some c → codeOk C Tryz.prog (i + j) c = true := by
 intro l
 induction l with
 | nil => intro i _ j fn c h; simp at h
 | cons a r ih =>
  intro i h j fn c hj hc
  simp only [okAt, Bool.and_eq_true] at h
  cases j with
  | zero =>
   simp at hj; subst hj
   have := h.1
   rw [hc] at this
   exact this
  | succ j =>
   rw [List.getElem?_cons_succ] at hj
   have := ih (i + 1) h.2 j fn c hj hc
   rwa [show i + 1 + j = i + (j + 1) by omega] at this
set_option maxRecDepth 100000 in
theorem okAll (m : Int) : okAt (cfg m) 0 Tryz.prog.funcs.toList = true := by kernel_rfl
theorem fit (m : Int) : Fit Tryz.prog (cfg m) where
 sane := {
  plain := fun g fn h _ => by
   have := Array.all_eq_true'.1 plain_ok fn (Array.mem_of_getElem? h)
   simpa using this
  prim := knows m }
 mixed := by kernel_rfl
 regs := fun f fn c h hc => by
  have := okAt_spec _ 0 (okAll m) f fn c (by simpa using h) hc
  rwa [Nat.zero_add] at this
def yes : Option (AV × Heap) → Bool
 | some (.sc (.bool true), _) => true
 | _ => false
theorem yes_spec {r : Option (AV × Heap)} (h : yes r = true) : ∃ h', r = some (.sc (.bool true), h') := by
 unfold yes at h
 split at h
 ·exact ⟨_, rfl⟩
 ·cases h
set_option maxRecDepth 100000 in
theorem awake_ev (m : Int) : yes (evCall (cfg m) Tryz.prog 1000 7 [] heapF) = true := by kernel_rfl
end Sp
end
end Go.Proofs
