/- The law in every world, and its card. -/
import Derived.Test.YtdnekbapjlbeaaaGreatDoorLimitsF
import Derived.Test.YtdnekbapjlbeaaaGreatDoorCards
import Derived.Test.YtdnekbapjlbeaaaGreatDoorTie
import Derived.WalkKit
import Derived.ProofKit
import Derived.Handy
import Derived.Lay
import Derived.Shelf.Vars
import Derived.Deep.DeepHandedRow
import Derived.SevenTiedAt
namespace Go.Proofs.YtdnekbapjlbeaaaGreatDoor
open Go Go.Ef Go.ChangeShapes Go.WideShapes Go.ChangeAt Go.RowKit
open Go.ChangeMaps (open_string shut_string)
namespace limits
theorem law (x0 x1 : Int) (w : World) (hg : ∃ m, GlobOk (Rec.cfg m) w) : Calls Tryz.prog 7 #[.int .i64 x0, .int .i64 x1] w fun e w' => e = .returned (.bool true) ∧ Below w.heap.size w w' := by
 obtain ⟨m, hg⟩ := hg
 obtain ⟨n, h', he⟩ := Rd.law7 m x0 x1
 refine law_of_ev (Rec.fit m) n hg (args := [.sc (.int .i64 x0), .sc (.int .i64 x1)]) ⟨rfl, fun i x y hx hy => ?_⟩ he
 match i with
 | 0 => simp at hx hy; subst hx; subst hy; exact .sc rfl
 | 1 => simp at hx hy; subst hx; subst hy; exact .sc rfl
 | i + 2 => simp at hx
set_option maxRecDepth 100000 in
theorem lifted (os : Os) (started : os.Started) (H : Type) (enc : TypeId × Value → H) (F : Stop.Interp) :
  ReturnsInHanded {} Tryz.checked os 7 .any ((Rows.OpenSpec.upto Rows.recordLimitsSpec).preRow enc Tryz.prog Tryz.f7 Rows.recordLimitsUptoRow.domain false Rows.recordLimitsUptoRow.laid) (((Rows.OpenSpec.upto Rows.recordLimitsSpec).at F).post enc Tryz.prog Tryz.f7 false true false false) := by
 refine returnsInHanded_of_row (C := Tryz.checked) (s := Rows.OpenSpec.upto Rows.recordLimitsSpec) own started (by kernel_rfl) Tryz.func7
  (row_witness (enc := enc) (C := Tryz.checked) (os := os) (World.laidAll Tryz.prog os Rows.recordLimitsUptoRow.laid) #[.int .i64 0, .int .i64 0] (World.laidAll_os _ _ _) (World.shaped_of_ZipB (by kernel_rfl) (by kernel_rfl)) (by kernel_rfl)
   (OpenSpec.preRow_of_cond 8 (x := ([.lit (.int .i64 0), .lit (.int .i64 0)], [], [])) (by kernel_rfl) (by kernel_rfl) (fun k hk => by cases hk; kernel_rfl) (by kernel_rfl) (by rw [MakeChecks.laidMetH_plain _ _ _ (by kernel_rfl)]; exact laidMet_laidAll _ (by kernel_rfl) (by kernel_rfl)))) ?_
 intro W base args ds gs before hval0 hW _ _ _ _ hshape _
 have hval : ∀ (j : Nat) t v, Tryz.f7.params[j]? = some t → args[j]? = some v → Value.okWide Tryz.prog W .any base t v := hval0
 have hW' := hW
 obtain ⟨p, q, hA0, hV, rfl, _, _⟩ := hW
 have hA : DataW.TrodAll enc Tryz.prog W 0 (fun _ => true) true Tryz.f7.params.toList args.toList ds p := hA0
 rw [Tryz.params7] at hA hval
 obtain ⟨v0, vs0, d0, ds0, p0, q0, hargs, rfl, rfl, e0, r0⟩ := trodAll_cons hA
 obtain ⟨v1, vs1, d1, ds1, p1, q1, rfl, rfl, rfl, e1, r1⟩ := trodAll_cons r0
 obtain ⟨rfl, rfl, rfl⟩ := trodAll_nil r1
 obtain rfl : args = #[v0, v1] := by cases args; simp_all
 obtain ⟨rfl, rfl⟩ := trodVars_none hV
 obtain ⟨x0, rfl, rfl, rfl, m0⟩ := open_int Tryz.underlying3 (hval 0 3 v0 rfl rfl) e0
 obtain ⟨x1, rfl, rfl, rfl, m1⟩ := open_int Tryz.underlying3 (hval 1 3 v1 rfl rfl) e1
 refine (law x0 x1 W (room_any hshape)).mono fun e W' ⟨he, hb⟩ => ?_
 subst he
 exact ⟨_, rfl, _, _, _, [], _, [], hW', trodAll_mk1 (shut_bool Tryz.underlying4 _), trodAll_mk2 (shut_int Tryz.underlying3 m0) (shut_int Tryz.underlying3 m1), rfl, hb.frame _, fun h => by cases h⟩
theorem said : Rows.RecordLimitsUptoSaid :=
 OpenClaim.holds_of_cond 7 Tryz.f7 rfl rfl rfl rfl rfl rfl rfl ⟨rfl, rfl, rfl, rfl, rfl⟩ rfl rfl rfl rfl rfl named Tryz.func7 facts inst wrap
  (fun os started H enc _ F => by rw [OpenClaim.pre_eq_preRow]; exact lifted os started H enc F)
theorem card : Rows.RecordLimitsUptoCardSaid :=
 Claim7.holds_tied_plain_at .later [] _ _ _ _ said (fun _ h => by cases h) (by as_aux_lemma => kernel_rfl) (fun _ h => by cases h) recordLimitsUpto_row_tie rfl ⟨rfl, rfl⟩ (by as_aux_lemma => kernel_rfl) rfl plain (by as_aux_lemma => kernel_rfl)
end limits
end Go.Proofs.YtdnekbapjlbeaaaGreatDoor
