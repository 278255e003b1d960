/- A part of the proof: definitions and lemmas. -/
import Derived.Test.YtnldjoepcidimaaGreatDoorNoneA
import Derived.Test.YtnldjoepcidimaaGreatDoorNoneB
import Derived.Test.YtnldjoepcidimaaGreatDoorNoneC
import Derived.Test.YtnldjoepcidimaaGreatDoorNoneD
import Derived.Test.YtnldjoepcidimaaGreatDoorNoneE
import Derived.Test.YtnldjoepcidimaaGreatDoorRows
namespace Go.Proofs
open Go Go.Ef Go.RowKit
noncomputable section
namespace Vm
def globs : Nat → Option (List AV)
 | 0 => some (lits YtnldjoepcidimaaGreatDoor.Rows.laid_strings_asciiSpace)
 | 6 => some (lits YtnldjoepcidimaaGreatDoor.Rows.laid_texttools_decimal_units)
 | 9 => some (Lib.pow10Tab.map fun z => .sc (.int .u64 z))
 | _ => none
def esc (f t : Nat) : Nat :=
 match f with
 | 15 => bif Nat.beq t 36 then 1 else 0
 | 17 => bif Nat.beq t 37 then 1 else 0
 | 21 => bif Nat.beq t 9 || Nat.beq t 28 then 1 else 0
 | 29 => bif Nat.beq t 8 then 1 else 0
 | 38 => bif Nat.beq t 1 then 1 else 0
 | 45 => bif Nat.beq t 10 then 1 else 0
 | 82 => bif Nat.beq t 22 then 1 else 0
 | 146 => bif Nat.beq t 5 || Nat.beq t 6 || Nat.beq t 13 || Nat.beq t 14 then 1 else 0
 | 148 => bif Nat.beq t 8 then 1 else 0
 | 149 => bif Nat.beq t 7 || Nat.beq t 8 || Nat.beq t 17 then 1 else 0
 | 160 => bif Nat.beq t 5 then 1 else 0
 | 212 => bif Nat.beq t 3 then 1 else 0
 | 233 => bif Nat.beq t 5 then 1 else 0
 | 243 => bif Nat.beq t 5 then 1 else 0
 | 244 => bif Nat.beq t 1 || Nat.beq t 3 || Nat.beq t 4 then 1 else 0
 | 275 => bif Nat.beq t 3 then 1 else 0
 | 294 => bif Nat.beq t 4 then 1 else 0
 | 305 => bif Nat.beq t 31 then 1 else 0
 | 308 => bif Nat.beq t 29 then 1 else 0
 | 318 => bif Nat.beq t 9 then 1 else 0
 | 323 => bif Nat.beq t 1 then 1 else 0
 | 333 => bif Nat.beq t 5 then 1 else 0
 | 357 => bif Nat.beq t 22 then 1 else 0
 | 363 => bif Nat.beq t 42 || Nat.beq t 60 then 1 else 0
 | 364 => bif Nat.beq t 51 then 1 else 0
 | 371 => bif Nat.beq t 5 then 1 else 0
 | 378 => bif Nat.beq t 3 || Nat.beq t 5 then 1 else 0
 | 379 => bif Nat.beq t 3 then 1 else 0
 | 389 => bif Nat.beq t 7 then 1 else 0
 | 416 => bif Nat.beq t 11 then 1 else 0
 | 417 => bif Nat.beq t 9 then 1 else 0
 | 433 => bif Nat.beq t 12 then 1 else 0
 | 445 => bif Nat.beq t 5 then 1 else 0
 | 452 => bif Nat.beq t 9 then 1 else 0
 | 453 => bif Nat.beq t 11 then 1 else 0
 | 474 => bif Nat.beq t 5 || Nat.beq t 8 then 1 else 0
 | 475 => bif Nat.beq t 5 || Nat.beq t 13 then 1 else 0
 | 483 => bif Nat.beq t 3 then 1 else 0
 | 514 => bif Nat.beq t 6 || Nat.beq t 7 || Nat.beq t 8 then 1 else 0
 | 532 => bif Nat.beq t 2 then 1 else 0
 | 634 => bif Nat.beq t 9 || Nat.beq t 10 then 1 else 0
 | 635 => bif Nat.beq t 11 then 1 else 0
 | 639 => bif Nat.beq t 3 then 1 else 0
 | 647 => bif Nat.beq t 7 || Nat.beq t 13 then 1 else 0
 | 648 => bif Nat.beq t 11 then 1 else 0
 | 654 => bif Nat.beq t 3 || Nat.beq t 4 || Nat.beq t 5 || Nat.beq t 7 then 1 else 0
 | 657 => bif Nat.beq t 6 || Nat.beq t 7 || Nat.beq t 8 || Nat.beq t 9 || Nat.beq t 14 then 1 else 0
 | 659 => bif Nat.beq t 3 then 1 else 0
 | _ => 0
def extra (f t : Nat) : Nat :=
 match f with
 | 13 => bif Nat.beq t 3 then 4 else bif Nat.beq t 27 || Nat.beq t 32 then 5 else 0
 | 16 => bif Nat.beq t 77 then 1 else bif Nat.beq t 76 then 7 else 0
 | 17 => bif Nat.beq t 37 || Nat.beq t 52 then 1 else bif Nat.beq t 24 || Nat.beq t 27 then 3 else bif Nat.beq t 29 || Nat.beq t 30 then 4 else bif Nat.beq t 25 || Nat.beq t 28 then 6 else 0
 | 19 => bif Nat.beq t 44 then 1 else bif Nat.beq t 43 then 6 else 0
 | 21 => bif Nat.beq t 2 then 4 else bif Nat.beq t 74 || Nat.beq t 78 then 5 else 0
 | 27 => bif Nat.beq t 58 then 7 else 0
 | 34 => bif Nat.beq t 14 then 5 else bif Nat.beq t 8 || Nat.beq t 10 then 8 else 0
 | 42 => bif Nat.beq t 29 then 3 else bif Nat.beq t 34 then 4 else bif Nat.beq t 12 then 5 else 0
 | 47 => bif Nat.beq t 12 then 1 else bif Nat.beq t 11 then 6 else 0
 | 51 => bif Nat.beq t 16 || Nat.beq t 76 then 1 else 0
 | 54 => bif Nat.beq t 21 then 3 else 0
 | 59 => bif Nat.beq t 23 then 3 else bif Nat.beq t 5 then 4 else bif Nat.beq t 21 || Nat.beq t 25 then 5 else 0
 | 62 => bif Nat.beq t 13 || Nat.beq t 16 then 3 else bif Nat.beq t 5 then 4 else bif Nat.beq t 11 then 5 else 0
 | 66 => bif Nat.beq t 34 then 6 else 0
 | 68 => bif Nat.beq t 40 then 1 else 0
 | 71 => bif Nat.beq t 10 then 3 else bif Nat.beq t 14 then 5 else 0
 | 72 => bif Nat.beq t 13 then 3 else bif Nat.beq t 11 then 5 else 0
 | 74 => bif Nat.beq t 32 then 3 else bif Nat.beq t 8 then 4 else 0
 | 77 => bif Nat.beq t 17 || Nat.beq t 33 then 3 else bif Nat.beq t 11 || Nat.beq t 15 || Nat.beq t 31 then 5 else 0
 | 78 => bif Nat.beq t 13 || Nat.beq t 21 then 3 else bif Nat.beq t 11 || Nat.beq t 19 then 5 else 0
 | 88 => bif Nat.beq t 3 then 4 else bif Nat.beq t 27 || Nat.beq t 31 || Nat.beq t 33 then 5 else 0
 | 91 => bif Nat.beq t 4 then 4 else bif Nat.beq t 10 || Nat.beq t 12 then 5 else 0
 | 97 => bif Nat.beq t 23 || Nat.beq t 32 then 3 else bif Nat.beq t 28 || Nat.beq t 37 then 4 else 0
 | 99 => bif Nat.beq t 36 || Nat.beq t 41 then 3 else bif Nat.beq t 2 then 4 else 0
 | 105 => bif Nat.beq t 23 then 3 else bif Nat.beq t 37 then 4 else bif Nat.beq t 28 || Nat.beq t 32 then 5 else 0
 | 125 => bif Nat.beq t 12 then 1 else bif Nat.beq t 11 then 6 else 0
 | 137 => bif Nat.beq t 25 || Nat.beq t 28 || Nat.beq t 29 || Nat.beq t 70 || Nat.beq t 72 then 3 else bif Nat.beq t 22 then 5 else 0
 | 145 => bif Nat.beq t 61 || Nat.beq t 64 then 3 else bif Nat.beq t 5 then 4 else bif Nat.beq t 58 then 5 else 0
 | 179 => bif Nat.beq t 43 then 3 else bif Nat.beq t 48 then 4 else 0
 | 188 => bif Nat.beq t 58 then 3 else bif Nat.beq t 7 then 4 else 0
 | 190 => bif Nat.beq t 68 || Nat.beq t 70 || Nat.beq t 73 || Nat.beq t 86 || Nat.beq t 89 then 3 else 0
 | 226 => bif Nat.beq t 31 || Nat.beq t 33 || Nat.beq t 39 || Nat.beq t 40 then 3 else bif Nat.beq t 12 || Nat.beq t 13 then 4 else 0
 | 235 => bif Nat.beq t 6 || Nat.beq t 11 then 5 else 0
 | 236 => bif Nat.beq t 12 || Nat.beq t 17 then 5 else 0
 | 270 => bif Nat.beq t 79 then 3 else bif Nat.beq t 86 then 4 else 0
 | 274 => bif Nat.beq t 43 || Nat.beq t 66 || Nat.beq t 73 then 3 else bif Nat.beq t 78 then 4 else 0
 | 279 => bif Nat.beq t 29 || Nat.beq t 31 then 3 else bif Nat.beq t 12 then 4 else 0
 | 305 => bif Nat.beq t 6 then 4 else bif Nat.beq t 59 || Nat.beq t 63 then 5 else 0
 | 312 => bif Nat.beq t 8 || Nat.beq t 17 then 5 else 0
 | 327 => bif Nat.beq t 12 then 6 else 0
 | 357 => bif Nat.beq t 6 then 4 else bif Nat.beq t 66 || Nat.beq t 70 then 5 else 0
 | 363 => bif Nat.beq t 46 || Nat.beq t 47 then 3 else bif Nat.beq t 4 then 4 else 0
 | 364 => bif Nat.beq t 73 || Nat.beq t 75 || Nat.beq t 78 || Nat.beq t 80 then 3 else bif Nat.beq t 83 then 5 else 0
 | 416 => bif Nat.beq t 6 || Nat.beq t 7 || Nat.beq t 24 then 3 else bif Nat.beq t 23 then 5 else 0
 | 472 => bif Nat.beq t 8 then 3 else bif Nat.beq t 5 then 4 else bif Nat.beq t 12 then 5 else 0
 | 475 => bif Nat.beq t 54 || Nat.beq t 56 || Nat.beq t 57 then 5 else 0
 | 521 => bif Nat.beq t 5 then 4 else bif Nat.beq t 10 || Nat.beq t 19 || Nat.beq t 24 then 5 else 0
 | 531 => bif Nat.beq t 20 then 3 else bif Nat.beq t 6 then 4 else 0
 | 563 => bif Nat.beq t 5 then 4 else bif Nat.beq t 43 || Nat.beq t 47 || Nat.beq t 51 || Nat.beq t 55 then 5 else 0
 | 581 => bif Nat.beq t 49 then 3 else bif Nat.beq t 5 then 4 else 0
 | 598 => bif Nat.beq t 2 || Nat.beq t 5 then 4 else bif Nat.beq t 60 || Nat.beq t 64 || Nat.beq t 68 || Nat.beq t 95 then 5 else 0
 | 634 => bif Nat.beq t 6 then 4 else bif Nat.beq t 93 || Nat.beq t 94 then 5 else 0
 | 637 => bif Nat.beq t 32 then 3 else bif Nat.beq t 12 then 4 else bif Nat.beq t 30 || Nat.beq t 34 then 5 else 0
 | 643 => bif Nat.beq t 9 then 4 else bif Nat.beq t 17 || Nat.beq t 23 then 5 else 0
 | 646 => bif Nat.beq t 49 then 3 else bif Nat.beq t 12 then 4 else bif Nat.beq t 53 || Nat.beq t 62 || Nat.beq t 67 then 5 else 0
 | _ => 0
def mode (f t : Nat) : Nat := match extra f t with
 | 0 => esc f t
 | n => n
def bad (f id : Nat) : Bool :=
 match f with
 | 13 => Nat.testBit 32 id
 | 42 => Nat.testBit 4 id
 | 59 => Nat.testBit 8 id
 | 62 => Nat.testBit 2 id
 | 72 => Nat.testBit 4 id
 | 74 => Nat.testBit 256 id
 | 77 => Nat.testBit 20 id
 | 78 => Nat.testBit 20 id
 | 137 => Nat.testBit 8 id
 | 145 => Nat.testBit 8192 id
 | 188 => Nat.testBit 8192 id
 | 226 => Nat.testBit 80 id
 | 235 => Nat.testBit 2 id
 | 236 => Nat.testBit 8 id
 | 279 => Nat.testBit 16 id
 | 312 => Nat.testBit 1 id
 | 363 => Nat.testBit 32 id
 | 416 => Nat.testBit 32 id
 | 472 => Nat.testBit 2 id
 | 475 => Nat.testBit 4096 id
 | 598 => Nat.testBit 32768 id
 | 637 => Nat.testBit 64 id
 | 17 => Nat.testBit 2 id
 | _ => false
def tidy (_ _ : Nat) : Option Tidy := none
def freshMask : Nat := 321054787017329818001653897664735044115998511442843461401136821711813696724627742236702923036143678889722164467512190359151246566616724576903224406350244188224766781928762173242939069966024448043047641535228
def fresh (g : Nat) : Bool := Nat.testBit freshMask g
def imp (g : Nat) : Bool := Nat.beq g 99999
def prims (g : FuncId) : Option (List AV → Heap → Option (AV × Heap)) :=
 match g with
 | 148 => some (joinP)
 | 235 => some (stringP 316 5)
 | 310 => some (copyP 316)
 | 318 => some (repeatP)
 | 476 => some (indexByteP)
 | _ => none
def two (f id : Nat) : Option (Nat × Nat × List Nat) :=
 match f with
 | 17 => bif Nat.beq id 1 then some (2, 5, [0, 1, 3, 4, 5, 2, 6, 7, 8, 9]) else none
 | 13 => bif Nat.beq id 5 then some (4, 10, [0, 1, 2, 3, 10, 4, 5, 6, 7, 8, 9, 11]) else none
 | _ => none
def gsh (_ : Nat) : Option Nat := none
def pure (g : FuncId) : Bool := Nat.beq g 83 || Nat.beq g 124
def cfg0 : Cfg := { tidy := tidy, fresh := fresh, mode := mode, pure := pure, bad := bad, glob := globs, prim := prims, imp := imp, gsh := gsh, two := two }
def offM (i : Nat) : Nat := match fieldsT Tryz.prog 77 with
 | some fs => match fs[i]? with
  | some fd => fd.offset
  | none => 0
 | none => 0
def keyI : TypeDesc := .int .i64
def isFn : AV → Bool
 | .fn _ _ _ => true
 | _ => false
def p28 (args : List AV) (h : Heap) : Option (AV × Heap) :=
 match runS cfg0 Tryz.prog 20 28 1 (codeF Tryz.prog 28) (entryF Tryz.prog 28 args h) with
 | some σ => match fillS cfg0 Tryz.prog 20 28 121 (regOps (nthS 1 (codeF Tryz.prog 28))) (.tmp 108) (.tmp 0) (offM 2) keyI (fun v => v) isFn [0] [] σ with
  | some τ => some (.sc (.tuple #[]), τ.h)
  | none => none
 | none => none
def cfg1 : Cfg := { cfg0 with prim := fun g => bif Nat.beq g 28 then some p28 else cfg0.prim g }
def ofText (v : AV) : AV := .agg [.sc (.int .i64 2), .sc (.int .i64 0), v]
def isTx : AV → Bool
 | .sc (.string _) => true
 | _ => false
def p17 (args : List AV) (h : Heap) : Option (AV × Heap) :=
 match runS cfg1 Tryz.prog 300 17 10 (codeF Tryz.prog 17) (entryF Tryz.prog 17 args h) with
 | some σ => match fillS cfg1 Tryz.prog 300 17 166 (regOps (nthS 0 (nthS 10 (codeF Tryz.prog 17)))) (.tmp 108) (.tmp 11) (offM 12) .string ofText isTx [1, 10, 11] [1, 10, 11] σ with
  | some τ => endOf cfg1 Tryz.prog (resFn Tryz.prog 17) (evCode cfg1 Tryz.prog 300 17 (dropS 11 (codeF Tryz.prog 17)) τ)
  | none => none
 | none => none
def upd89 (x : Nat) (k : List UInt8) (y d1 d2 : Nat) (σ : St) : Option St :=
 match opMapUpdate Tryz.prog σ 69 (.tmp x) (.const (.string ⟨⟨k⟩⟩)) (.tmp y) with
 | some (_, τ) => match τ.put (some d1) .unk with
  | some τ1 => τ1.put (some d2) .unk
  | none => none
 | none => none
def p89 (args : List AV) (h : Heap) : Option (AV × Heap) :=
 match runS cfg0 Tryz.prog 100 89 1 (codeF Tryz.prog 89) (entryF Tryz.prog 89 args h) with
 | some σ => match evIx cfg0 Tryz.prog (callWith cfg0 Tryz.prog (evCode cfg0 Tryz.prog 100)) 89 (regOps (nthS 1 (codeF Tryz.prog 89))) (List.range 11) σ with
  | some σ1 => match upd89 8 [70, 73, 76, 69, 78, 65, 77, 69] 14 16 17 σ1 with
   | some σ2 => match upd89 12 [70, 78, 82] 15 18 19 σ2 with
    | some σ3 => endOf cfg0 Tryz.prog (resFn Tryz.prog 89) (evCode cfg0 Tryz.prog 100 89 (dropS 2 (codeF Tryz.prog 89)) (σ3.tidy [1] 0))
    | none => none
   | none => none
  | none => none
 | none => none
def cfg : Cfg := { cfg1 with prim := fun g => bif Nat.beq g 17 then some p17 else bif Nat.beq g 89 then some p89 else cfg1.prim g }
theorem body_at {g : Nat} {fn : Func} (h : Tryz.prog.funcs[g]? = some fn) (hb : fn.body.isSome = true) : ∃ fn : Func, Tryz.prog.funcs[g]? = some fn ∧ fn.body.isSome = true := ⟨fn, h, hb⟩
theorem plain_ok : (Tryz.prog.funcs.all fun fn => !(fn.name == "runtime.NumGoroutine")) = true := by decide +kernel
set_option maxHeartbeats 1000000 in
set_option maxRecDepth 100000 in
theorem copy_used (b : Nat) (w : World) (h0 : w.cell? ⟨b, 0, none⟩ = some (.pointer (some ⟨b, 0, none⟩))) :
  Calls Tryz.prog 310 #[.pointer (some ⟨b, 0, none⟩)] w fun e w' => e = .returned (.tuple #[]) ∧ w' = w := by
 have hsz : (Tryz.prog.info? 316).map (·.size) = some 2 := by kernel_rfl
 obtain ⟨j, hj, _⟩ := Option.map_eq_some_iff.1 hsz
 go_enter Tryz.func310, Tryz.ntmps310
 go_wp2
 rw [Lib.run_neq_ptr_same w _ Tryz.underlying314 hj]
 go_wp2
 go_end0
 exact ⟨rfl, rfl⟩
set_option maxHeartbeats 1000000 in
set_option maxRecDepth 100000 in
theorem copy_fresh (b : Nat) (w : World) (h0 : w.cell? ⟨b, 0, none⟩ = some (.pointer none)) (hsh : w.shape? b = some (316, 2)) (hfz : w.frozen? ⟨b, 0, none⟩ = false) :
  Calls Tryz.prog 310 #[.pointer (some ⟨b, 0, none⟩)] w fun e w' => e = .returned (.tuple #[]) ∧ w' = w.setCell ⟨b, 0, none⟩ (.pointer (some ⟨b, 0, none⟩)) := by
 have hsz : (Tryz.prog.info? 316).map (·.size) = some 2 := by kernel_rfl
 have hlies : liesAt Tryz.prog Tryz.prog.depth 316 (2 / Tryz.prog.cellsOf 316) 0 316 1 = true := by kernel_rfl
 obtain ⟨j, hj, hjs⟩ := Option.map_eq_some_iff.1 hsz
 go_enter Tryz.func310, Tryz.ntmps310
 go_wp2
 rw [Lib.run_to_unsafe w ⟨b, 0, none⟩ Tryz.underlying314 Tryz.underlying457 hj (by rw [hjs]; decide) hsh (Nat.zero_lt_succ 1)]
 simp only [Result.andThen]
 rw [Oper.upon_value]
 go_wp2
 rw [run_callFunc_extern Tryz.func383 (by kernel_rfl) (by kernel_rfl) (by kernel_rfl) (e := Extern.AbiNoEscape.same) (by kernel_rfl)]
 rw [Lib.run_noEscape]
 simp only [Result.andThen]
 rw [Oper.upon_value]
 go_wp2
 rw [Lib.run_from_unsafe w ⟨b, 0, none⟩ Tryz.underlying457 Tryz.underlying314 hj hsh hlies]
 simp only [Result.andThen]
 rw [Oper.upon_value]
 go_wp2
 go_end0
 exact ⟨rfl, rfl⟩
set_option maxRecDepth 100000 in
theorem know148 : Known Tryz.prog cfg0 148 joinP := shelf_join Tryz.lays156 Tryz.Builder_Extra_156 (body_at Tryz.func148 (by kernel_rfl))
set_option maxRecDepth 100000 in
theorem know235 : Known Tryz.prog cfg0 235 (stringP 316 5) := shelf_string Tryz.lays169 Tryz.Builder_Extra_169 (body_at Tryz.func235 (by kernel_rfl))
set_option maxRecDepth 100000 in
theorem know310 : Known Tryz.prog cfg0 310 (copyP 316) := known_copy (body_at Tryz.func310 (by kernel_rfl)) copy_fresh fun b w h _ => copy_used b w h
set_option maxRecDepth 100000 in
theorem know318 : Known Tryz.prog cfg0 318 repeatP := shelf_repeat Tryz.lays105 Tryz.Builder_Extra_105 (body_at Tryz.func318 (by kernel_rfl))
theorem know476 : Known Tryz.prog cfg0 476 indexByteP := known_indexByte Tryz.func476 (by kernel_rfl) (by kernel_rfl) (by kernel_rfl) (by kernel_rfl)
theorem knows0 (g : FuncId) (p : List AV → Heap → Option (AV × Heap)) (h : cfg0.prim g = some p) : Known Tryz.prog cfg0 g p := by
 replace h : prims g = some p := h
 unfold prims at h
 split at h
 ·cases h; exact know148
 ·cases h; exact know235
 ·cases h; exact know310
 ·cases h; exact know318
 ·cases h; exact know476
 ·cases h
noncomputable def okAt (C : Cfg) (i : Nat) : List Func → Bool
 | [] => true
 | fn :: r => (match fn.body with
  | some c => codeOk C Tryz.prog i c
  | none => true) && okAt C (i + 1) r
theorem okAt_spec {C : Cfg} : ∀ (l : List Func) (i : Nat), okAt C i l = true → ∀ (j : Nat) (fn : Func) (c : Code), l[j]? = some fn → fn.body = some c → codeOk C Tryz.prog (i + j) c = true := by
 intro l
 induction l with
 | nil => intro i _ j fn c h; simp at h
 | cons a r ih =>
  intro i h j fn c hj hc
  simp only [okAt, Bool.and_eq_true] at h
  cases j with
  | zero =>
   simp at hj; subst hj
   have := h.1
   rw [hc] at this
   exact this
  | succ j =>
   rw [List.getElem?_cons_succ] at hj
   have := ih (i + 1) h.2 j fn c hj hc
   rwa [show i + 1 + j = i + (j + 1) by omega] at this
set_option maxRecDepth 100000 in
theorem okAll0 : okAt cfg0 0 Tryz.prog.funcs.toList = true := by kernel_rfl
theorem fit0 : Fit Tryz.prog cfg0 where
 sane := {
  plain := fun g fn h _ => by
   have := Array.all_eq_true'.1 plain_ok fn (Array.mem_of_getElem? h)
   simpa using this
  prim := knows0 }
 mixed := by kernel_rfl
 regs := fun f fn c h hc => by
  have := okAt_spec _ 0 (okAll0) f fn c (by simpa using h) hc
  rwa [Nat.zero_add] at this
end Vm
end
end Go.Proofs
