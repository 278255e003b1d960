/- The law in every world, and its card. -/
import Derived.Test.YtdnekbapjlbeaaaGreatDoorDividesE
import Derived.Test.YtdnekbapjlbeaaaGreatDoorCards
import Derived.Test.YtdnekbapjlbeaaaGreatDoorTie
import Derived.WalkKit
import Derived.ProofKit
import Derived.Handy
import Derived.Lay
import Derived.Shelf.Vars
import Derived.Deep.DeepHandedRow
import Derived.SevenTiedAt
namespace Go.Proofs.YtdnekbapjlbeaaaGreatDoor
open Go Go.Ef Go.ChangeShapes Go.WideShapes Go.ChangeAt Go.RowKit
open Go.ChangeMaps (open_string shut_string)
namespace divides
theorem law (x0 : ByteArray) (x1 : ByteArray) (w : World) (h0 : x0.size ≤ 1048576) (h1 : x1.size ≤ 1048576) (hg : ∃ m, GlobOk (Rec.cfg m) w) : Calls Tryz.prog 6 #[.string x0, .string x1] w fun e w' => e = .returned (.bool true) ∧ Below w.heap.size w w' := by
 obtain ⟨m, hg⟩ := hg
 obtain ⟨⟨l0⟩⟩ := x0
 obtain ⟨⟨l1⟩⟩ := x1
 obtain ⟨n, h', he⟩ := Rc.law6 m l0 l1 (show l0.length ≤ _ from Nat.le_trans h0 (by decide))
 refine law_of_ev (Rec.fit m) n hg (args := [aStr l0, aStr l1]) ⟨rfl, fun i x y hx hy => ?_⟩ he
 match i with
 | 0 => simp at hx hy; subst hx; subst hy; exact .sc rfl
 | 1 => simp at hx hy; subst hx; subst hy; exact .sc rfl
 | i + 2 => simp at hx
set_option maxRecDepth 100000 in
theorem lifted (os : Os) (started : os.Started) (H : Type) (enc : TypeId × Value → H) (F : Stop.Interp) :
  ReturnsInHanded {} Tryz.checked os 6 .any ((Rows.OpenSpec.upto Rows.recordDividesSpec).preRow enc Tryz.prog Tryz.f6 Rows.recordDividesUptoRow.domain false Rows.recordDividesUptoRow.laid) (((Rows.OpenSpec.upto Rows.recordDividesSpec).at F).post enc Tryz.prog Tryz.f6 false true false false) := by
 refine returnsInHanded_of_row (C := Tryz.checked) (s := Rows.OpenSpec.upto Rows.recordDividesSpec) own started (by kernel_rfl) Tryz.func6
  (row_witness (enc := enc) (C := Tryz.checked) (os := os) (World.laidAll Tryz.prog os Rows.recordDividesUptoRow.laid) #[.string .empty, .string .empty] (World.laidAll_os _ _ _) (World.shaped_of_ZipB (by kernel_rfl) (by kernel_rfl)) (by kernel_rfl)
   (OpenSpec.preRow_of_cond 8 (x := ([.lit (.string []), .lit (.string [])], [], [])) (by kernel_rfl) (by kernel_rfl) (fun k hk => by cases hk; kernel_rfl) (by kernel_rfl) (by rw [MakeChecks.laidMetH_plain _ _ _ (by kernel_rfl)]; exact laidMet_laidAll _ (by kernel_rfl) (by kernel_rfl)))) ?_
 intro W base args ds gs before hval0 hW _ hcond _ _ hshape _
 have hval : ∀ (j : Nat) t v, Tryz.f6.params[j]? = some t → args[j]? = some v → Value.okWide Tryz.prog W .any base t v := hval0
 have hW' := hW
 obtain ⟨p, q, hA0, hV, rfl, _, _⟩ := hW
 have hA : DataW.TrodAll enc Tryz.prog W 0 (fun _ => true) true Tryz.f6.params.toList args.toList ds p := hA0
 rw [Tryz.params6] at hA hval
 obtain ⟨v0, vs0, d0, ds0, p0, q0, hargs, rfl, rfl, e0, r0⟩ := trodAll_cons hA
 obtain ⟨v1, vs1, d1, ds1, p1, q1, rfl, rfl, rfl, e1, r1⟩ := trodAll_cons r0
 obtain ⟨rfl, rfl, rfl⟩ := trodAll_nil r1
 obtain rfl : args = #[v0, v1] := by cases args; simp_all
 obtain ⟨rfl, rfl⟩ := trodVars_none hV
 obtain ⟨x0, rfl, rfl, rfl, m0⟩ := open_string Tryz.underlying9 (hval 0 9 v0 rfl rfl) e0
 obtain ⟨x1, rfl, rfl, rfl, m1⟩ := open_string Tryz.underlying9 (hval 1 9 v1 rfl rfl) e1
 have hk := of_decide_eq_true (hcond _ rfl)
 simp only [List.append_nil, Rows.uptoBulkAll, Rows.uptoBulk] at hk
 have h0 : x0.size ≤ 1048576 := by rw [Lib.size_eq x0]; omega
 have h1 : x1.size ≤ 1048576 := by rw [Lib.size_eq x1]; omega
 refine (law x0 x1 W h0 h1 (room_any hshape)).mono fun e W' ⟨he, hb⟩ => ?_
 subst he
 exact ⟨_, rfl, _, _, _, [], _, [], hW', trodAll_mk1 (shut_bool Tryz.underlying4 _), trodAll_mk2 (shut_string Tryz.underlying9 m0) (shut_string Tryz.underlying9 m1), rfl, hb.frame _, fun h => by cases h⟩
theorem said : Rows.RecordDividesUptoSaid :=
 OpenClaim.holds_of_cond 6 Tryz.f6 rfl rfl rfl rfl rfl rfl rfl ⟨rfl, rfl, rfl, rfl, rfl⟩ rfl rfl rfl rfl rfl named Tryz.func6 facts inst wrap
  (fun os started H enc _ F => by rw [OpenClaim.pre_eq_preRow]; exact lifted os started H enc F)
theorem card : Rows.RecordDividesUptoCardSaid :=
 Claim7.holds_tied_plain_at .later [] _ _ _ _ said (fun _ h => by cases h) (by as_aux_lemma => kernel_rfl) (fun _ h => by cases h) recordDividesUpto_row_tie rfl ⟨rfl, rfl⟩ (by as_aux_lemma => kernel_rfl) rfl plain (by as_aux_lemma => kernel_rfl)
end divides
end Go.Proofs.YtdnekbapjlbeaaaGreatDoor
