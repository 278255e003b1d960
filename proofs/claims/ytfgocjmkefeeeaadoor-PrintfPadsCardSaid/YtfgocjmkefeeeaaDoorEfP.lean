/- The setting of the evaluation for this seat; awake returns true. -/
import Derived.Test.YtfgocjmkefeeeaaDoorEfE
import Derived.Test.YtfgocjmkefeeeaaDoorShelf
import Derived.Test.YtfgocjmkefeeeaaDoorRows
import Derived.Lib.LaidTab
import Derived.Stop.LaidErr
/- Printf's seat: what is known of the library's functions. -/
namespace Go.Proofs
open Go Go.Ef Go.RowKit

set_option maxHeartbeats 1000000 in
set_option maxRecDepth 100000 in
theorem copy_used (b : Nat) (w : World) (h0 : w.cell? ⟨b, 0, none⟩ = some (.pointer (some ⟨b, 0, none⟩))) :
    Calls Tryd.prog 35 #[.pointer (some ⟨b, 0, none⟩)] w fun e w' => e = .returned (.tuple #[]) ∧ w' = w := by
  have hsz : (Tryd.prog.info? 54).map (·.size) = some 2 := by kernel_rfl
  obtain ⟨j, hj, _⟩ := Option.map_eq_some_iff.1 hsz
  go_enter Tryd.func35, Tryd.ntmps35
  go_wp2
  rw [Lib.run_neq_ptr_same w _ Tryd.underlying52 hj]
  go_wp2
  go_end0
  exact ⟨rfl, rfl⟩

set_option maxHeartbeats 1000000 in
set_option maxRecDepth 100000 in
theorem copy_fresh (b : Nat) (w : World) (h0 : w.cell? ⟨b, 0, none⟩ = some (.pointer none)) (hsh : w.shape? b = some (54, 2)) (hfz : w.frozen? ⟨b, 0, none⟩ = false) :
    Calls Tryd.prog 35 #[.pointer (some ⟨b, 0, none⟩)] w fun e w' => e = .returned (.tuple #[]) ∧ w' = w.setCell ⟨b, 0, none⟩ (.pointer (some ⟨b, 0, none⟩)) := by
  have hsz : (Tryd.prog.info? 54).map (·.size) = some 2 := by kernel_rfl
  have hlies : liesAt Tryd.prog Tryd.prog.depth 54 (2 / Tryd.prog.cellsOf 54) 0 54 1 = true := by kernel_rfl
  obtain ⟨j, hj, hjs⟩ := Option.map_eq_some_iff.1 hsz
  go_enter Tryd.func35, Tryd.ntmps35
  go_wp2
  rw [Lib.run_to_unsafe w ⟨b, 0, none⟩ Tryd.underlying52 Tryd.underlying88 hj (by rw [hjs]; decide) hsh (Nat.zero_lt_succ 1)]
  simp only [Result.andThen]
  rw [Oper.upon_value]
  go_wp2
  rw [run_callFunc_extern Tryd.func49 (by kernel_rfl) (by kernel_rfl) (by kernel_rfl) (e := Extern.AbiNoEscape.same) (by kernel_rfl)]
  rw [Lib.run_noEscape]
  simp only [Result.andThen]
  rw [Oper.upon_value]
  go_wp2
  rw [Lib.run_from_unsafe w ⟨b, 0, none⟩ Tryd.underlying88 Tryd.underlying52 hj hsh hlies]
  simp only [Result.andThen]
  rw [Oper.upon_value]
  go_wp2
  go_end0
  exact ⟨rfl, rfl⟩

end Go.Proofs

/- Printf's seat: the setting of the evaluation; awake. -/
namespace Go.Proofs
open Go Go.Ef Go.RowKit
noncomputable section

namespace Door
def globs : Nat → Option (List AV)
  | 0 => some [.sc (.int .i64 10000), .sc (.int .i64 1000), .sc (.int .i64 100), .sc (.int .i64 10), .sc (.int .i64 1)]
  | 2 => some [.sc (.int .u64 1), .sc (.int .u64 10), .sc (.int .u64 100), .sc (.int .u64 1000), .sc (.int .u64 10000), .sc (.int .u64 100000), .sc (.int .u64 1000000), .sc (.int .u64 10000000), .sc (.int .u64 100000000), .sc (.int .u64 1000000000), .sc (.int .u64 10000000000), .sc (.int .u64 100000000000), .sc (.int .u64 1000000000000), .sc (.int .u64 10000000000000), .sc (.int .u64 100000000000000), .sc (.int .u64 1000000000000000), .sc (.int .u64 10000000000000000), .sc (.int .u64 100000000000000000), .sc (.int .u64 1000000000000000000), .sc (.int .u64 10000000000000000000)]
  | 6 => some [.sc (.int .u8 0), .sc (.int .u8 1), .sc (.int .u8 28), .sc (.int .u8 2), .sc (.int .u8 29), .sc (.int .u8 14), .sc (.int .u8 24), .sc (.int .u8 3), .sc (.int .u8 30), .sc (.int .u8 22), .sc (.int .u8 20), .sc (.int .u8 15), .sc (.int .u8 25), .sc (.int .u8 17), .sc (.int .u8 4), .sc (.int .u8 8), .sc (.int .u8 31), .sc (.int .u8 27), .sc (.int .u8 13), .sc (.int .u8 23), .sc (.int .u8 21), .sc (.int .u8 19), .sc (.int .u8 16), .sc (.int .u8 7), .sc (.int .u8 26), .sc (.int .u8 12), .sc (.int .u8 18), .sc (.int .u8 6), .sc (.int .u8 11), .sc (.int .u8 5), .sc (.int .u8 10), .sc (.int .u8 9)]
  | 7 => some [.sc (.int .u8 0), .sc (.int .u8 1), .sc (.int .u8 56), .sc (.int .u8 2), .sc (.int .u8 57), .sc (.int .u8 49), .sc (.int .u8 28), .sc (.int .u8 3), .sc (.int .u8 61), .sc (.int .u8 58), .sc (.int .u8 42), .sc (.int .u8 50), .sc (.int .u8 38), .sc (.int .u8 29), .sc (.int .u8 17), .sc (.int .u8 4), .sc (.int .u8 62), .sc (.int .u8 47), .sc (.int .u8 59), .sc (.int .u8 36), .sc (.int .u8 45), .sc (.int .u8 43), .sc (.int .u8 51), .sc (.int .u8 22), .sc (.int .u8 53), .sc (.int .u8 39), .sc (.int .u8 33), .sc (.int .u8 30), .sc (.int .u8 24), .sc (.int .u8 18), .sc (.int .u8 12), .sc (.int .u8 5), .sc (.int .u8 63), .sc (.int .u8 55), .sc (.int .u8 48), .sc (.int .u8 27), .sc (.int .u8 60), .sc (.int .u8 41), .sc (.int .u8 37), .sc (.int .u8 16), .sc (.int .u8 46), .sc (.int .u8 35), .sc (.int .u8 44), .sc (.int .u8 21), .sc (.int .u8 52), .sc (.int .u8 32), .sc (.int .u8 23), .sc (.int .u8 11), .sc (.int .u8 54), .sc (.int .u8 26), .sc (.int .u8 40), .sc (.int .u8 15), .sc (.int .u8 34), .sc (.int .u8 20), .sc (.int .u8 31), .sc (.int .u8 10), .sc (.int .u8 25), .sc (.int .u8 14), .sc (.int .u8 19), .sc (.int .u8 9), .sc (.int .u8 13), .sc (.int .u8 8), .sc (.int .u8 7), .sc (.int .u8 6)]
  | _ => none
def prims (g : FuncId) : Option (List AV → Heap → Option (AV × Heap)) :=
  match g with
  | 35 => some (copyP 54)
  | 27 => some (stringP 54 5)
  | 61 => some joinP
  | 42 => some repeatP
  | 92 => some indexByteP
  | _ => none
def mode (f t : Nat) : Nat :=
  match f with
  | 12 | 67 | 85 => 1
  | 21 => bif Nat.beq t 6 then 0 else 1
  | 24 => bif Nat.beq t 55 then 3 else 0
  | _ => 0
def bad (f id : Nat) : Bool :=
  match f with
  | 27 => Nat.beq id 1
  | 59 => Nat.beq id 3
  | 73 => Nat.beq id 0
  | _ => false
def tidy (f i : Nat) : Option Tidy :=
  match f with
  | 5 => some ⟨[0, 1, 5], [0, 1, 4], 0⟩
  | 9 => some ⟨[0, 3], [2], 0⟩
  | 11 => some ⟨[0, 3, 4], [0, 3], 0⟩
  | 13 => some ⟨[0, 3, 4], [3], 0⟩
  | 14 => some ⟨[0, 1, 5], [0, 4], 0⟩
  | 18 => some ⟨[0, 1], [4], 0⟩
  | 20 => some ⟨[0, 1, 4, 7], [0, 1, 4, 7], 2⟩
  | 30 => some ⟨[0, 1, 5, 6], [5], 0⟩
  | 32 => some ⟨[0, 2, 5], [0, 2, 5], 2⟩
  | 33 => some ⟨[0, 1, 5], [4], 0⟩
  | 34 => some ⟨[0, 1, 2, 8, 9], [8, 9], 0⟩
  | 47 => some ⟨[0, 4, 5], [0, 4, 5], 0⟩
  | 50 => some ⟨[0, 4], [0, 4], 0⟩
  | 53 => some ⟨[4, 6], [4, 6], 0⟩
  | 64 => some ⟨[0, 3], [3], 0⟩
  | 65 => some ⟨[0, 1, 5, 8, 9], [1, 4, 5], 0⟩
  | 80 => some ⟨[0, 3, 5], [3], 0⟩
  | 6 => some ⟨[0, 1, 2, 7, 8, 9], [6, 8], 0⟩
  | 7 => match i with
    | 11 => some ⟨[0, 1, 5, 7, 10, 11], [0, 1, 7, 10], 0⟩
    | _ => some ⟨[0, 1, 7, 10], [0, 1, 7, 10], 0⟩
  | _ => none
def fresh (g : Nat) : Bool :=
  match g with
  | 8 | 9 | 11 | 12 | 13 | 14 | 15 | 16 | 17 | 20 | 24 | 25 | 28 | 29 | 30 | 31 | 32 | 33 | 34 | 37 | 38 | 39 | 40 | 41 | 43 | 44 | 45 | 47 | 48 | 50 | 51 | 52 | 53 | 54 | 55 | 56 | 57 | 64 | 65 | 66 | 80 | 81 | 62 | 10 => true
  | _ => false
def cfg : Cfg := { tidy := tidy, fresh := fresh, mode := mode, pure := fun _ => false, bad := bad, glob := globs, prim := prims }

theorem body_at {g : Nat} {fn : Func} (h : Tryd.prog.funcs[g]? = some fn) (hb : fn.body.isSome = true) : ∃ fn : Func, Tryd.prog.funcs[g]? = some fn ∧ fn.body.isSome = true := ⟨fn, h, hb⟩

set_option maxRecDepth 100000 in
theorem know27 : Known Tryd.prog cfg 27 (stringP 54 5) := shelf_string Tryd.lays169 Tryd.Builder_Extra_169 (body_at Tryd.func27 (by kernel_rfl))
set_option maxRecDepth 100000 in
theorem know61 : Known Tryd.prog cfg 61 joinP := shelf_join Tryd.lays156 Tryd.Builder_Extra_156 (body_at Tryd.func61 (by kernel_rfl))
set_option maxRecDepth 100000 in
theorem know42 : Known Tryd.prog cfg 42 repeatP := shelf_repeat Tryd.lays105 Tryd.Builder_Extra_105 (body_at Tryd.func42 (by kernel_rfl))
theorem know35 : Known Tryd.prog cfg 35 (copyP 54) := known_copy (body_at Tryd.func35 (by kernel_rfl)) copy_fresh fun b w h _ => copy_used b w h
theorem know92 : Known Tryd.prog cfg 92 indexByteP := known_indexByte Tryd.func92 (by kernel_rfl) (by kernel_rfl) (by kernel_rfl) (by kernel_rfl)

theorem knows (g : FuncId) (p : List AV → Heap → Option (AV × Heap)) (h : cfg.prim g = some p) : Known Tryd.prog cfg g p := by
  replace h : prims g = some p := h
  unfold prims at h
  split at h
  · cases h; exact know35
  · cases h; exact know27
  · cases h; exact know61
  · cases h; exact know42
  · cases h; exact know92
  · cases h

theorem plain_ok : (Tryd.prog.funcs.all fun fn => !(fn.name == "runtime.NumGoroutine")) = true := by decide +kernel
def okAt (i : Nat) : List Func → Bool
  | [] => true
  | fn :: r => (match fn.body with
    | some c => codeOk cfg Tryd.prog i c
    | none => true) && okAt (i + 1) r
theorem okAt_spec : ∀ (l : List Func) (i : Nat), okAt i l = true → ∀ (j : Nat) (fn : Func) (c : Code), l[j]? = some fn → fn.body = some c → codeOk cfg Tryd.prog (i + j) c = true := by
  intro l
  induction l with
  | nil => intro i _ j fn c h; simp at h
  | cons a r ih =>
    intro i h j fn c hj hc
    simp only [okAt, Bool.and_eq_true] at h
    cases j with
    | zero =>
      simp at hj; subst hj
      have := h.1
      rw [hc] at this
      exact this
    | succ j =>
      rw [List.getElem?_cons_succ] at hj
      have := ih (i + 1) h.2 j fn c hj hc
      rwa [show i + 1 + j = i + (j + 1) by omega] at this
theorem okAll : okAt 0 Tryd.prog.funcs.toList = true := by decide +kernel

theorem fit : Fit Tryd.prog cfg where
  sane := {
    plain := fun g fn h _ => by
      have := Array.all_eq_true'.1 plain_ok fn (Array.mem_of_getElem? h)
      simpa using this
    prim := knows }
  mixed := by kernel_rfl
  regs := fun f fn c h hc => by
    have := okAt_spec _ 0 okAll f fn c (by simpa using h) hc
    rwa [Nat.zero_add] at this

def yes : Option (AV × Heap) → Bool
  | some (.sc (.bool true), _) => true
  | _ => false
theorem yes_spec {r : Option (AV × Heap)} (h : yes r = true) : ∃ h', r = some (.sc (.bool true), h') := by
  unfold yes at h
  split at h
  · exact ⟨_, rfl⟩
  · cases h

set_option maxRecDepth 100000 in
theorem awake_ev : yes (evCall cfg Tryd.prog 1000 10 [] heap0) = true := by decide +kernel

theorem awake_calls (w : World) (hg : GlobOk cfg w) : Calls Tryd.prog 10 #[] w fun e w' => e = .returned (.bool true) ∧ Below w.heap.size w w' := by
  obtain ⟨h', he⟩ := yes_spec awake_ev
  exact law_of_ev fit 1000 hg ⟨rfl, fun i x y h => by simp at h⟩ he

end Door
end
end Go.Proofs

/- Printf's seat: the tables that the rows list are those of the evaluation. -/
namespace Go.Proofs
open Go Go.Ef Go.RowKit
namespace Door

theorem tab_glob {W : World} {name : String} {k : IntKind} {zs : List Int} {g : Nat} {cs : List AV} (h : Lib.TabIs Tryd.prog W name k zs) (hg : Tryd.prog.globalNamed name = some g) (hcs : cs = zs.map fun z => AV.sc (.int k z)) :
    ∀ (i : Nat) (x : AV), cs[i]? = some x → ∃ c, W.cell? ⟨g, i, none⟩ = some c ∧ V (imm0 W) x c := by
  intro i x hx
  subst hcs
  rw [List.getElem?_map] at hx
  have hi : i < zs.length := by
    rcases Nat.lt_or_ge i zs.length with h' | h'
    · exact h'
    · simp [List.getElem?_eq_none h'] at hx
  rw [List.getElem?_eq_getElem hi] at hx
  simp only [Option.map_some, Option.some.injEq] at hx
  subst hx
  refine ⟨_, h.cell hg i hi, ?_⟩
  have : zs.getD i 0 = zs[i] := by simp [List.getD, hi]
  rw [this]
  exact .sc rfl

def deb32 : List Int := [0, 1, 28, 2, 29, 14, 24, 3, 30, 22, 20, 15, 25, 17, 4, 8, 31, 27, 13, 23, 21, 19, 16, 7, 26, 12, 18, 6, 11, 5, 10, 9]
def deb64 : List Int := [0, 1, 56, 2, 57, 49, 28, 3, 61, 58, 42, 50, 38, 29, 17, 4, 62, 47, 59, 36, 45, 43, 51, 22, 53, 39, 33, 30, 24, 18, 12, 5, 63, 55, 48, 27, 60, 41, 37, 16, 46, 35, 44, 21, 52, 32, 23, 11, 54, 26, 40, 15, 34, 20, 31, 10, 25, 14, 19, 9, 13, 8, 7, 6]
def pow10 : List Int := [1, 10, 100, 1000, 10000, 100000, 1000000, 10000000, 100000000, 1000000000, 10000000000, 100000000000, 1000000000000, 10000000000000, 100000000000000, 1000000000000000, 10000000000000000, 100000000000000000, 1000000000000000000, 10000000000000000000]
def units : List Int := [10000, 1000, 100, 10, 1]

theorem glob_ok {W : World} {rest : List (String × DataW Unit)} {a : String × DataW Unit}
    (h : laidMet Tryd.prog (("math/bits.deBruijn32tab", Lib.tabData .u8 deb32) :: ("math/bits.deBruijn64tab", Lib.tabData .u8 deb64) :: ("internal/strconv.uint64pow10", Lib.tabData .u64 pow10) :: a :: ("texttools/decimal.units", Lib.tabData .i64 units) :: rest) W) : GlobOk cfg W := by
  have t6 : Lib.TabIs Tryd.prog W "math/bits.deBruijn32tab" .u8 deb32 := Lib.tabIs_of_head (g := 6) (by kernel_rfl) (by kernel_rfl) Tryd.underlying149 Tryd.underlying5 (by kernel_rfl) (by kernel_rfl) h
  have t7 : Lib.TabIs Tryd.prog W "math/bits.deBruijn64tab" .u8 deb64 := Lib.tabIs_of_head (g := 7) (by kernel_rfl) (by kernel_rfl) Tryd.underlying150 Tryd.underlying5 (by kernel_rfl) (by kernel_rfl) h.tail
  have t2 : Lib.TabIs Tryd.prog W "internal/strconv.uint64pow10" .u64 pow10 := Lib.tabIs_of_head (g := 2) (by kernel_rfl) (by kernel_rfl) Tryd.underlying133 Tryd.underlying113 (by kernel_rfl) (by kernel_rfl) h.tail.tail
  have t0 : Lib.TabIs Tryd.prog W "texttools/decimal.units" .i64 units := Lib.tabIs_of_head (g := 0) (by kernel_rfl) (by kernel_rfl) Tryd.underlying106 Tryd.underlying3 (by kernel_rfl) (by kernel_rfl) h.tail.tail.tail.tail
  intro g cs hg
  replace hg : globs g = some cs := hg
  unfold globs at hg
  split at hg
  · cases hg; exact tab_glob t0 (by kernel_rfl) rfl
  · cases hg; exact tab_glob t2 (by kernel_rfl) rfl
  · cases hg; exact tab_glob t6 (by kernel_rfl) rfl
  · cases hg; exact tab_glob t7 (by kernel_rfl) rfl
  · cases hg

theorem glob_plain {W : World} (h : laidMetH Tryd.prog YtfgocjmkefeeeaaDoor.Rows.printfPlainRow.laid W) : GlobOk cfg W := glob_ok h

end Door
end Go.Proofs

