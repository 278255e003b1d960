/- The law in every world, and its card. -/
import Derived.Test.YtnldjoepcidimaaGreatDoorNoneA
import Derived.Test.YtnldjoepcidimaaGreatDoorNoneB
import Derived.Test.YtnldjoepcidimaaGreatDoorNoneC
import Derived.Test.YtnldjoepcidimaaGreatDoorNoneD
import Derived.Test.YtnldjoepcidimaaGreatDoorNoneE
import Derived.Test.YtnldjoepcidimaaGreatDoorNoneF
import Derived.Test.YtnldjoepcidimaaGreatDoorNoneG
import Derived.Test.YtnldjoepcidimaaGreatDoorNoneH
import Derived.Test.YtnldjoepcidimaaGreatDoorNoneI
import Derived.Test.YtnldjoepcidimaaGreatDoorNoneJ
import Derived.Test.YtnldjoepcidimaaGreatDoorNoneK
import Derived.Test.YtnldjoepcidimaaGreatDoorNoneL
import Derived.Test.YtnldjoepcidimaaGreatDoorNoneM
import Derived.Test.YtnldjoepcidimaaGreatDoorNoneN
import Derived.Test.YtnldjoepcidimaaGreatDoorNoneO
import Derived.Test.YtnldjoepcidimaaGreatDoorNoneP
import Derived.Test.YtnldjoepcidimaaGreatDoorNoneQ
import Derived.Test.YtnldjoepcidimaaGreatDoorNoneR
import Derived.Test.YtnldjoepcidimaaGreatDoorNoneS
import Derived.Test.YtnldjoepcidimaaGreatDoorNoneT
import Derived.Test.YtnldjoepcidimaaGreatDoorNoneU
import Derived.Test.YtnldjoepcidimaaGreatDoorNoneV
import Derived.Test.YtnldjoepcidimaaGreatDoorNoneW
import Derived.Test.YtnldjoepcidimaaGreatDoorNoneX
import Derived.Test.YtnldjoepcidimaaGreatDoorNoneY
import Derived.Test.YtnldjoepcidimaaGreatDoorNoneZ
import Derived.Test.YtnldjoepcidimaaGreatDoorNone0
import Derived.Test.YtnldjoepcidimaaGreatDoorCards
import Derived.WalkKit
import Derived.ProofKit
import Derived.Handy
import Derived.Lay
import Derived.SevenTiedAt
namespace Go.Proofs.YtnldjoepcidimaaGreatDoor
open Go Go.Ef Go.ChangeShapes Go.WideShapes Go.ChangeAt Go.RowKit
open Go.ChangeMaps (open_string shut_string)
namespace none50
theorem law (s u : ByteArray) (w : World) (hg : GlobOk Vm.cfgM w) : Calls Tryz.prog 5 #[.string s, .string u] w fun e w' => e = .returned (.bool true) ∧ Below w.heap.size w w' := by
 obtain ⟨⟨l⟩⟩ := s
 obtain ⟨⟨r⟩⟩ := u
 obtain ⟨m, h', he⟩ := Vm.ev5 l r
 refine law_of_ev Vm.fitM m hg (args := [Vm.tS l, Vm.tS r]) ⟨rfl, fun i x y hx hy => ?_⟩ he
 match i with
 | 0 => simp at hx hy; subst hx; subst hy; exact .sc rfl
 | 1 => simp at hx hy; subst hx; subst hy; exact .sc rfl
 | i + 2 => simp at hx
theorem glob_ok {w : World} (h : laidMet Tryz.prog Rows.scanvmNoneRow.laid w) : GlobOk Vm.cfgM w := by
 have h0 : laidMet Tryz.prog (("internal/strconv.uint64pow10", Rows.laid_internal_strconv_uint64pow10) :: ("math/bits.deBruijn32tab", Rows.laid_math_bits_deBruijn32tab) :: ("math/bits.deBruijn64tab", Rows.laid_math_bits_deBruijn64tab) :: ("unicode/utf8.first", Rows.laid_unicode_utf8_first) :: ("unicode/utf8.acceptRanges", Rows.laid_unicode_utf8_acceptRanges) :: ("strings.asciiSpace", Rows.laid_strings_asciiSpace) :: ("unicode.White_Space", Rows.laid_unicode_White_Space) :: ("texttools/builtin.functions", Rows.laid_texttools_builtin_functions) :: ("texttools/decimal.units", Rows.laid_texttools_decimal_units) :: ("unicode.CaseRanges", Rows.laid_unicode_CaseRanges) :: []) w := h
 refine ⟨fun g cs hg => ?_, fun g n hg => by cases hg⟩
 replace hg : Vm.globs g = some cs := hg
 unfold Vm.globs at hg
 split at hg
 ·cases hg; exact row_glob (by kernel_rfl) (t := 377) (by kernel_rfl) (by kernel_rfl) h0.tail.tail.tail.tail.tail
 ·cases hg; exact row_glob (by kernel_rfl) (t := 504) (by kernel_rfl) (by kernel_rfl) h0.tail.tail.tail.tail.tail.tail.tail.tail
 ·cases hg; exact row_glob (by kernel_rfl) (t := 547) (by kernel_rfl) (by kernel_rfl) h0
 ·cases hg
theorem own : ownKnob Tryz.prog.godebug = none := by kernel_rfl
set_option maxRecDepth 100000 in
theorem lifted (os : Os) (started : os.Started) (H : Type) (enc : TypeId × Value → H) :
  ReturnsInHanded {} Tryz.checked os 5 .any (fun w args => (Rows.scanvmNoneSpec.pre enc Tryz.prog Tryz.f5 [] false w args ∧ laidMetH Tryz.prog Rows.scanvmNoneRow.laid w) ∧ sizedMet enc Tryz.prog Tryz.f5 (OpenSpec.ofChange Rows.scanvmNoneSpec) false w args)
   (Rows.scanvmNoneSpec.post enc Tryz.prog Tryz.f5 false true false false) := by
 refine returnsInHanded_of_change_and (C := Tryz.checked) (X := fun w _ => laidMetH Tryz.prog Rows.scanvmNoneRow.laid w) (fun _ _ _ hh h => h.of_heap hh) own started (by kernel_rfl) Tryz.func5
  (ChangeSpec.witness_shaped (enc := enc) (C := Tryz.checked) (os := os) (X := fun w _ => laidMetH Tryz.prog Rows.scanvmNoneRow.laid w) false (World.laidAll Tryz.prog os Rows.scanvmNoneRow.laid) #[.string .empty, .string .empty] 8 (World.laidAll_os _ _ _)
   (World.shaped_of_ZipB (by kernel_rfl) (by kernel_rfl)) (by kernel_rfl) (by kernel_rfl) (by kernel_rfl)
   (by rw [MakeChecks.laidMetH_plain _ _ _ (by kernel_rfl)]; exact laidMet_laidAll _ (by kernel_rfl) (by kernel_rfl))) ?_
 intro W base args ds gs before hval0 hW _ _ hL _
 have hval : ∀ (j : Nat) t v, Tryz.f5.params[j]? = some t → args[j]? = some v → Value.okWide Tryz.prog W .any base t v := hval0
 have hW' := hW
 obtain ⟨p, q, hA0, hV, rfl, _, _⟩ := hW
 have hA : DataW.TrodAll enc Tryz.prog W 0 (fun _ => true) true Tryz.f5.params.toList args.toList ds p := hA0
 rw [Tryz.params5] at hA hval
 obtain ⟨v0, vs0, d0, ds0, p0, q0, hargs, rfl, rfl, h0, r0⟩ := trodAll_cons hA
 obtain ⟨v1, vs1, d1, ds1, p1, q1, rfl, rfl, rfl, h1, r1⟩ := trodAll_cons r0
 obtain ⟨rfl, rfl, rfl⟩ := trodAll_nil r1
 obtain rfl : args = #[v0, v1] := by cases args; simp_all
 obtain ⟨rfl, rfl⟩ := trodVars_none hV
 obtain ⟨s, rfl, rfl, rfl, hmax⟩ := open_string Tryz.underlying9 (hval 0 9 v0 rfl rfl) h0
 obtain ⟨u, rfl, rfl, rfl, hmax'⟩ := open_string Tryz.underlying9 (hval 1 9 v1 rfl rfl) h1
 have hL' : laidMet Tryz.prog Rows.scanvmNoneRow.laid W := by
  rw [MakeChecks.laidMetH_plain _ _ _ (by kernel_rfl)] at hL
  exact hL
 refine (law s u W (glob_ok hL')).mono fun e W' ⟨he, hb⟩ => ?_
 subst he
 exact ⟨_, rfl, _, _, _, [], _, [], hW', trodAll_mk1 (shut_bool Tryz.underlying4 _), trodAll_mk2 (shut_string Tryz.underlying9 hmax) (shut_string Tryz.underlying9 hmax'), rfl, hb.frame _, fun h => by cases h⟩
theorem said : Rows.ScanvmNoneSaid :=
 OpenClaim.holds_of_wide 5 Tryz.f5 rfl rfl rfl rfl rfl rfl rfl ⟨rfl, rfl, rfl, rfl, rfl⟩ rfl rfl rfl rfl rfl named Tryz.func5 facts inst wrap
  (fun os started H enc _ => lifted os started H enc)
theorem card : Rows.ScanvmNoneCardSaid :=
 Claim7.holds_tied_plain_at .later [] _ _ _ _ said (fun _ h => by cases h) (by as_aux_lemma => kernel_rfl) (fun _ h => by cases h) row_tie rfl ⟨rfl, rfl⟩ (by as_aux_lemma => kernel_rfl) rfl plain (goes_none rfl still)
end none50
end Go.Proofs.YtnldjoepcidimaaGreatDoor
