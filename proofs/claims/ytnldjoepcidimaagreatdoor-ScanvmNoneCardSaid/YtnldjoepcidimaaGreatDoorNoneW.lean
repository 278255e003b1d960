/- A part of the proof: definitions and lemmas. -/
import Derived.Test.YtnldjoepcidimaaGreatDoorNoneA
import Derived.LaidByTextLater
import Derived.Test.YtnldjoepcidimaaGreatDoorRows
import Derived.SevenTiedAt
namespace Go.Ef
open Go
noncomputable section
def keyP (p : MemPlace) : Option Nat := match p with
 | .cell b off => bif Nat.blt off 1048576 then some (2 * (b * 1048576 + off)) else none
 | .map b => some (2 * b + 1)
def ndT (l : List MemPlace) (t : Tr Unit) : Bool :=
 List.rec (motive := fun _ => Tr Unit → Bool) (fun _ => true) (fun p _ ih t => Option.rec (motive := fun _ => Bool) false (fun k => Option.rec (motive := fun _ => Bool) (ih (t.set k ())) (fun _ => false) (t.get k)) (keyP p)) l t
theorem ndT_ok : ∀ {l : List MemPlace} {t : Tr Unit}, ndT l t = true → l.Nodup ∧ ∀ p ∈ l, ∃ k, keyP p = some k ∧ t.get k = none := by
 intro l
 induction l with
 | nil => intro t _; exact ⟨List.nodup_nil, fun p h => by cases h⟩
 | cons p l ih =>
  intro t h
  replace h : (Option.rec (motive := fun _ => Bool) false (fun k => Option.rec (motive := fun _ => Bool) (ndT l (t.set k ())) (fun _ => false) (t.get k)) (keyP p) : Bool) = true := h
  cases hk : keyP p with
  | none => rw [hk] at h; cases h
  | some k =>
   rw [hk] at h
   replace h : (Option.rec (motive := fun _ => Bool) (ndT l (t.set k ())) (fun _ => false) (t.get k) : Bool) = true := h
   cases hg : t.get k with
   | some u => rw [hg] at h; cases h
   | none =>
    rw [hg] at h
    obtain ⟨h1, h2⟩ := ih h
    refine ⟨List.nodup_cons.2 ⟨fun hm => ?_, h1⟩, fun q hq => ?_⟩
    ·obtain ⟨k', e1, e2⟩ := h2 p hm
     rw [hk] at e1
     cases e1
     rw [Tr.get_set, if_pos rfl] at e2
     cases e2
    ·rcases List.mem_cons.1 hq with rfl | hq
     ·exact ⟨k, hk, hg⟩
     ·obtain ⟨k', e1, e2⟩ := h2 q hq
      rw [Tr.get_set] at e2
      split at e2
      ·cases e2
      ·exact ⟨k', e1, e2⟩
theorem twice_ok {α : Type} {o : Option (α × List MemPlace)} {r : List MemPlace → Bool} (h : o.map (fun x => ndT x.2 .leaf && r x.2) = some true) : o.map (fun x => decide x.2.Nodup && r x.2) = some true := by
 cases o with
 | none => cases h
 | some x =>
  simp only [Option.map_some, Option.some.injEq, Bool.and_eq_true] at h ⊢
  exact ⟨decide_eq_true (ndT_ok h.1).1, h.2⟩
end
end Go.Ef
namespace Go.Proofs.YtnldjoepcidimaaGreatDoor
open Go Go.Ef
namespace none50
noncomputable def laidN : List (String × DataW Unit) := [("internal/strconv.uint64pow10", Rows.laid_internal_strconv_uint64pow10), ("math/bits.deBruijn32tab", Rows.laid_math_bits_deBruijn32tab), ("math/bits.deBruijn64tab", Rows.laid_math_bits_deBruijn64tab), ("unicode/utf8.acceptRanges", Rows.laid_unicode_utf8_acceptRanges), ("strings.asciiSpace", Rows.laid_strings_asciiSpace), ("unicode.White_Space", Rows.laid_unicode_White_Space), ("texttools/builtin.functions", Rows.laid_texttools_builtin_functions), ("texttools/decimal.units", Rows.laid_texttools_decimal_units)]
end none50
end Go.Proofs.YtnldjoepcidimaaGreatDoor
