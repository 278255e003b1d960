/- The law in every world, and its card. -/
import Derived.Test.YtdnekbapjlbeaaaGreatDoorPartsE
import Derived.Test.YtdnekbapjlbeaaaGreatDoorCards
import Derived.Test.YtdnekbapjlbeaaaGreatDoorTie
import Derived.WalkKit
import Derived.ProofKit
import Derived.Handy
import Derived.Lay
import Derived.Shelf.Vars
import Derived.Deep.DeepHandedRow
import Derived.SevenTiedAt
import Derived.Lib.SmallJoins
namespace Go.Proofs.YtdnekbapjlbeaaaGreatDoor
open Go Go.Ef Go.ChangeShapes Go.WideShapes Go.ChangeAt Go.RowKit
open Go.ChangeMaps (open_string shut_string)
namespace parts
theorem law (x0 x1 : ByteArray) (x2 x3 : Int) (w : World) (h2 : 0 ≤ x2 ∧ x2 ≤ 255) (h3 : 0 ≤ x3 ∧ x3 ≤ 255) (hg : ∃ m, GlobOk (Bi.cfg m) w) : Calls Tryz.prog 3 #[.agg #[.string x0, .string x1], .agg #[.int .u8 x2, .int .u8 x3]] w fun e w' => e = .returned (.bool true) ∧ Below w.heap.size w w' := by
 obtain ⟨m, hg⟩ := hg
 obtain ⟨⟨l0⟩⟩ := x0
 obtain ⟨⟨l1⟩⟩ := x1
 have byte : ∀ x : Int, 0 ≤ x ∧ x ≤ 255 → ∃ c : UInt8, x = c.toNat := fun x h => ⟨UInt8.ofNat x.toNat, by
  have : (UInt8.ofNat x.toNat).toNat = x.toNat := by rw [UInt8.toNat_ofNat']; omega
  rw [this]; omega⟩
 obtain ⟨c2, rfl⟩ := byte x2 h2
 obtain ⟨c3, rfl⟩ := byte x3 h3
 obtain ⟨n, h', he⟩ := Bi.law3 m l0 l1 c2 c3
 refine law_of_ev (Bi.fit m) n hg (args := [.agg [aStr l0, aStr l1], .agg [aK .u8 c2.toNat, aK .u8 c3.toNat]]) ⟨rfl, fun i x y hx hy => ?_⟩ he
 match i with
 | 0 =>
  simp at hx hy; subst hx; subst hy
  refine .agg rfl fun i x y hx hy => ?_
  match i with
  | 0 => simp at hx hy; subst hx; subst hy; exact .sc rfl
  | 1 => simp at hx hy; subst hx; subst hy; exact .sc rfl
  | i + 2 => simp at hx
 | 1 =>
  simp at hx hy; subst hx; subst hy
  refine .agg rfl fun i x y hx hy => ?_
  match i with
  | 0 => simp at hx hy; subst hx; subst hy; exact .sc rfl
  | 1 => simp at hx hy; subst hx; subst hy; exact .sc rfl
  | i + 2 => simp at hx
 | i + 2 => simp at hx
theorem str_of {H : Type} {enc : TypeId × Value → H} {W : World} {base : Nat} {sp : Nat → Bool} {held : Bool} {n : Nat} {v : Value} {y : DataW H × List MemPlace} (h : DataW.trod enc Tryz.prog W base sp held n 9 [v] = some y) :
  ∃ s : ByteArray, v = .string s ∧ y = (.lit (.string s.data.toList), []) ∧ s.size ≤ maxLen := by
 cases n with
 | zero => simp [DataW.trod] at h
 | succ n =>
  obtain ⟨s, h1, h2, h3⟩ := DataW.trod_string Tryz.underlying9 h
  simp at h1
  exact ⟨s, h1, h2, h3⟩
theorem byte_of {H : Type} {enc : TypeId × Value → H} {W : World} {base : Nat} {sp : Nat → Bool} {held : Bool} {n : Nat} {v : Value} {y : DataW H × List MemPlace} (h : DataW.trod enc Tryz.prog W base sp held n 5 [v] = some y) :
  ∃ k : Int, v = .int .u8 k ∧ y = (.lit (.int .u8 k), []) ∧ (Lit.int .u8 k).wf = true := by
 cases n with
 | zero => simp [DataW.trod] at h
 | succ n =>
  obtain ⟨s, h1, h2, h3⟩ := DataW.trod_int Tryz.underlying5 h
  simp at h1
  exact ⟨s, h1, h2, h3⟩
theorem shut_two {H : Type} {enc : TypeId × Value → H} {W : World} {base : Nat} {sp : Nat → Bool} {held : Bool} {x0 x1 : ByteArray} (m0 : x0.size ≤ maxLen) (m1 : x1.size ≤ maxLen) :
  DataW.Trod enc Tryz.prog W base sp held 23 (.agg #[.string x0, .string x1]) (.agg [.lit (.string x0.data.toList), .lit (.string x1.data.toList)]) ([] ++ []) :=
 Go.Joins.shut_agg2 (y0 := (.lit (.string x0.data.toList), [])) (y1 := (.lit (.string x1.data.toList), [])) Tryz.underlying23 (by kernel_rfl) (by kernel_rfl) ⟨1, by simp [DataW.trod, Tryz.underlying9, m0]⟩ ⟨1, by simp [DataW.trod, Tryz.underlying9, m1]⟩
theorem shut_nums {H : Type} {enc : TypeId × Value → H} {W : World} {base : Nat} {sp : Nat → Bool} {held : Bool} {x0 x1 : Int} (m0 : (Lit.int .u8 x0).wf = true) (m1 : (Lit.int .u8 x1).wf = true) :
  DataW.Trod enc Tryz.prog W base sp held 25 (.agg #[.int .u8 x0, .int .u8 x1]) (.agg [.lit (.int .u8 x0), .lit (.int .u8 x1)]) ([] ++ []) :=
 Go.Joins.shut_agg2 (y0 := (.lit (.int .u8 x0), [])) (y1 := (.lit (.int .u8 x1), [])) Tryz.underlying25 (by kernel_rfl) (by kernel_rfl) ⟨1, by simp [DataW.trod, Tryz.underlying5, m0]⟩ ⟨1, by simp [DataW.trod, Tryz.underlying5, m1]⟩
set_option maxRecDepth 100000 in
theorem lifted (os : Os) (started : os.Started) (H : Type) (enc : TypeId × Value → H) (F : Stop.Interp) :
  ReturnsInHanded {} Tryz.checked os 3 .any ((Rows.OpenSpec.upto Rows.builtinPartsSpec).preRow enc Tryz.prog Tryz.f3 Rows.builtinPartsUptoRow.domain false Rows.builtinPartsUptoRow.laid) (((Rows.OpenSpec.upto Rows.builtinPartsSpec).at F).post enc Tryz.prog Tryz.f3 false true false false) := by
 refine returnsInHanded_of_row (C := Tryz.checked) (s := Rows.OpenSpec.upto Rows.builtinPartsSpec) own started (by kernel_rfl) Tryz.func3
  (row_witness (enc := enc) (C := Tryz.checked) (os := os) (World.laidAll Tryz.prog os Rows.builtinPartsUptoRow.laid) #[.agg #[.string .empty, .string .empty], .agg #[.int .u8 0, .int .u8 0]] (World.laidAll_os _ _ _) (World.shaped_of_ZipB (by kernel_rfl) (by kernel_rfl)) (by kernel_rfl)
   (OpenSpec.preRow_of_cond 8 (x := ([.agg [.lit (.string []), .lit (.string [])], .agg [.lit (.int .u8 0), .lit (.int .u8 0)]], [], [])) (by kernel_rfl) (by kernel_rfl) (fun k hk => by cases hk; kernel_rfl) (by kernel_rfl) (by rw [MakeChecks.laidMetH_plain _ _ _ (by kernel_rfl)]; exact laidMet_laidAll _ (by kernel_rfl) (by kernel_rfl)))) ?_
 intro W base args ds gs before hval0 hW _ _ _ hL hshape _
 have hval : ∀ (j : Nat) t v, Tryz.f3.params[j]? = some t → args[j]? = some v → Value.okWide Tryz.prog W .any base t v := hval0
 have hW' := hW
 obtain ⟨p, q, hA0, hV, rfl, _, _⟩ := hW
 have hA : DataW.TrodAll enc Tryz.prog W 0 (fun _ => true) true Tryz.f3.params.toList args.toList ds p := hA0
 rw [Tryz.params3] at hA hval
 obtain ⟨v0, vs0, d0, ds0, p0, q0, hargs, rfl, rfl, e0, r0⟩ := trodAll_cons hA
 obtain ⟨v1, vs1, d1, ds1, p1, q1, rfl, rfl, rfl, e1, r1⟩ := trodAll_cons r0
 obtain ⟨rfl, rfl, rfl⟩ := trodAll_nil r1
 obtain rfl : args = #[v0, v1] := by cases args; simp_all
 obtain ⟨rfl, rfl⟩ := trodVars_none hV
 obtain ⟨a0, a1, y0, y1, n0, rfl, rfl, rfl, g0, g1⟩ := Go.Joins.open_agg2 Tryz.underlying23 (by kernel_rfl) (by kernel_rfl) (hval 0 23 v0 rfl rfl) e0
 obtain ⟨b0, b1, z0, z1, n1, rfl, rfl, rfl, k0, k1⟩ := Go.Joins.open_agg2 Tryz.underlying25 (by kernel_rfl) (by kernel_rfl) (hval 1 25 v1 rfl rfl) e1
 obtain ⟨x0, rfl, rfl, m0⟩ := str_of g0
 obtain ⟨x1, rfl, rfl, m1⟩ := str_of g1
 obtain ⟨x2, rfl, rfl, m2⟩ := byte_of k0
 obtain ⟨x3, rfl, rfl, m3⟩ := byte_of k1
 refine (law x0 x1 x2 x3 W (byte_wf m2) (byte_wf m3) (room_bi hshape hL)).mono fun e W' ⟨he, hb⟩ => ?_
 subst he
 exact ⟨_, rfl, _, _, _, [], _, [], hW', trodAll_mk1 (shut_bool Tryz.underlying4 _), trodAll_mk2 (shut_two m0 m1) (shut_nums m2 m3), rfl, hb.frame _, fun h => by cases h⟩
theorem said : Rows.BuiltinPartsUptoSaid :=
 OpenClaim.holds_of_cond 3 Tryz.f3 rfl rfl rfl rfl rfl rfl rfl ⟨rfl, rfl, rfl, rfl, rfl⟩ rfl rfl rfl rfl rfl named Tryz.func3 facts inst wrap
  (fun os started H enc _ F => by rw [OpenClaim.pre_eq_preRow]; exact lifted os started H enc F)
theorem card : Rows.BuiltinPartsUptoCardSaid :=
 Claim7.holds_tied_plain_at .later [] _ _ _ _ said (fun _ h => by cases h) (by as_aux_lemma => kernel_rfl) (fun _ h => by cases h) builtinPartsUpto_row_tie rfl ⟨rfl, rfl⟩ (by as_aux_lemma => kernel_rfl) rfl plain (by as_aux_lemma => kernel_rfl)
end parts
end Go.Proofs.YtdnekbapjlbeaaaGreatDoor
