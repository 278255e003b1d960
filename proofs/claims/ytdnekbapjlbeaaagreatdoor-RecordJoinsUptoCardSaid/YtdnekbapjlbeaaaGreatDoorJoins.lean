/- The law in every world, and its card. -/
import Derived.Test.YtdnekbapjlbeaaaGreatDoorJoinsF
import Derived.Test.YtdnekbapjlbeaaaGreatDoorCards
import Derived.Test.YtdnekbapjlbeaaaGreatDoorTie
import Derived.WalkKit
import Derived.ProofKit
import Derived.Handy
import Derived.Lay
import Derived.Shelf.Vars
import Derived.Deep.DeepHandedRow
import Derived.SevenTiedAt
import Derived.Lib.SmallJoins
namespace Go.Proofs.YtdnekbapjlbeaaaGreatDoor
open Go Go.Ef Go.ChangeShapes Go.WideShapes Go.ChangeAt Go.RowKit
open Go.ChangeMaps (open_string shut_string)
namespace joins
theorem law (x0 : ByteArray) (x1 : Int) (op k : Int) (x2 : ByteArray) (w : World) (h1 : 0 ≤ x1 ∧ x1 ≤ 255) (hg : ∃ m, GlobOk (Rec.cfg m) w) : Calls Tryz.prog 8 #[.string x0, .int .u8 x1, .agg #[.int .i64 op, .int .i64 k, .string x2]] w fun e w' => e = .returned (.bool true) ∧ Below w.heap.size w w' := by
 obtain ⟨m, hg⟩ := hg
 obtain ⟨⟨l0⟩⟩ := x0
 obtain ⟨⟨l2⟩⟩ := x2
 obtain ⟨c1, rfl⟩ : ∃ c : UInt8, x1 = c.toNat := ⟨UInt8.ofNat x1.toNat, by
  have : (UInt8.ofNat x1.toNat).toNat = x1.toNat := by rw [UInt8.toNat_ofNat']; omega
  rw [this]; omega⟩
 obtain ⟨n, h', he⟩ := Rd.law8 m l0 c1 op k l2
 refine law_of_ev (Rec.fit m) n hg (args := [aStr l0, aK .u8 c1.toNat, .agg [.sc (.int .i64 op), .sc (.int .i64 k), aStr l2]]) ⟨rfl, fun i x y hx hy => ?_⟩ he
 match i with
 | 0 => simp at hx hy; subst hx; subst hy; exact .sc rfl
 | 1 => simp at hx hy; subst hx; subst hy; exact .sc rfl
 | 2 =>
  simp at hx hy; subst hx; subst hy
  refine .agg rfl fun i x y hx hy => ?_
  match i with
  | 0 => simp at hx hy; subst hx; subst hy; exact .sc rfl
  | 1 => simp at hx hy; subst hx; subst hy; exact .sc rfl
  | 2 => simp at hx hy; subst hx; subst hy; exact .sc rfl
  | i + 3 => simp at hx
 | i + 3 => simp at hx
theorem str_of {H : Type} {enc : TypeId × Value → H} {W : World} {base : Nat} {sp : Nat → Bool} {held : Bool} {n : Nat} {v : Value} {y : DataW H × List MemPlace} (h : DataW.trod enc Tryz.prog W base sp held n 9 [v] = some y) :
  ∃ s : ByteArray, v = .string s ∧ y = (.lit (.string s.data.toList), []) ∧ s.size ≤ maxLen := by
 cases n with
 | zero => simp [DataW.trod] at h
 | succ n =>
  obtain ⟨s, h1, h2, h3⟩ := DataW.trod_string Tryz.underlying9 h
  simp at h1
  exact ⟨s, h1, h2, h3⟩
theorem int_of {H : Type} {enc : TypeId × Value → H} {W : World} {base : Nat} {sp : Nat → Bool} {held : Bool} {n : Nat} {v : Value} {y : DataW H × List MemPlace} (h : DataW.trod enc Tryz.prog W base sp held n 3 [v] = some y) :
  ∃ k : Int, v = .int .i64 k ∧ y = (.lit (.int .i64 k), []) ∧ (Lit.int .i64 k).wf = true := by
 cases n with
 | zero => simp [DataW.trod] at h
 | succ n =>
  obtain ⟨s, h1, h2, h3⟩ := DataW.trod_int Tryz.underlying3 h
  simp at h1
  exact ⟨s, h1, h2, h3⟩
theorem shut_call {H : Type} {enc : TypeId × Value → H} {W : World} {base : Nat} {sp : Nat → Bool} {held : Bool} {op k : Int} {x2 : ByteArray} (m0 : (Lit.int .i64 op).wf = true) (m1 : (Lit.int .i64 k).wf = true) (m2 : x2.size ≤ maxLen) :
  DataW.Trod enc Tryz.prog W base sp held 74 (.agg #[.int .i64 op, .int .i64 k, .string x2]) (.agg [.lit (.int .i64 op), .lit (.int .i64 k), .lit (.string x2.data.toList)]) ([] ++ ([] ++ [])) :=
 Go.Joins.shut_agg3 (y0 := (.lit (.int .i64 op), [])) (y1 := (.lit (.int .i64 k), [])) (y2 := (.lit (.string x2.data.toList), [])) Tryz.underlying74 (by kernel_rfl) (by kernel_rfl) ⟨1, by simp [DataW.trod, Tryz.underlying3, m0]⟩ ⟨1, by simp [DataW.trod, Tryz.underlying3, m1]⟩ ⟨1, by simp [DataW.trod, Tryz.underlying9, m2]⟩
set_option maxRecDepth 100000 in
theorem lifted (os : Os) (started : os.Started) (H : Type) (enc : TypeId × Value → H) (F : Stop.Interp) :
  ReturnsInHanded {} Tryz.checked os 8 .any ((Rows.OpenSpec.upto Rows.recordJoinsSpec).preRow enc Tryz.prog Tryz.f8 Rows.recordJoinsUptoRow.domain false Rows.recordJoinsUptoRow.laid) (((Rows.OpenSpec.upto Rows.recordJoinsSpec).at F).post enc Tryz.prog Tryz.f8 false true false false) := by
 refine returnsInHanded_of_row (C := Tryz.checked) (s := Rows.OpenSpec.upto Rows.recordJoinsSpec) own started (by kernel_rfl) Tryz.func8
  (row_witness (enc := enc) (C := Tryz.checked) (os := os) (World.laidAll Tryz.prog os Rows.recordJoinsUptoRow.laid) #[.string .empty, .int .u8 0, .agg #[.int .i64 0, .int .i64 0, .string .empty]] (World.laidAll_os _ _ _) (World.shaped_of_ZipB (by kernel_rfl) (by kernel_rfl)) (by kernel_rfl)
   (OpenSpec.preRow_of_cond 8 (x := ([.lit (.string []), .lit (.int .u8 0), .agg [.lit (.int .i64 0), .lit (.int .i64 0), .lit (.string [])]], [], [])) (by kernel_rfl) (by kernel_rfl) (fun k hk => by cases hk; kernel_rfl) (by kernel_rfl) (by rw [MakeChecks.laidMetH_plain _ _ _ (by kernel_rfl)]; exact laidMet_laidAll _ (by kernel_rfl) (by kernel_rfl)))) ?_
 intro W base args ds gs before hval0 hW _ _ _ _ hshape _
 have hval : ∀ (j : Nat) t v, Tryz.f8.params[j]? = some t → args[j]? = some v → Value.okWide Tryz.prog W .any base t v := hval0
 have hW' := hW
 obtain ⟨p, q, hA0, hV, rfl, _, _⟩ := hW
 have hA : DataW.TrodAll enc Tryz.prog W 0 (fun _ => true) true Tryz.f8.params.toList args.toList ds p := hA0
 rw [Tryz.params8] at hA hval
 obtain ⟨v0, vs0, d0, ds0, p0, q0, hargs, rfl, rfl, e0, r0⟩ := trodAll_cons hA
 obtain ⟨v1, vs1, d1, ds1, p1, q1, rfl, rfl, rfl, e1, r1⟩ := trodAll_cons r0
 obtain ⟨v2, vs2, d2, ds2, p2, q2, rfl, rfl, rfl, e2, r2⟩ := trodAll_cons r1
 obtain ⟨rfl, rfl, rfl⟩ := trodAll_nil r2
 obtain rfl : args = #[v0, v1, v2] := by cases args; simp_all
 obtain ⟨rfl, rfl⟩ := trodVars_none hV
 obtain ⟨x0, rfl, rfl, rfl, m0⟩ := open_string Tryz.underlying9 (hval 0 9 v0 rfl rfl) e0
 obtain ⟨x1, rfl, rfl, rfl, m1⟩ := open_int Tryz.underlying5 (hval 1 5 v1 rfl rfl) e1
 obtain ⟨a0, a1, a2, y0, y1, y2, n0, rfl, rfl, rfl, g0, g1, g2⟩ := Go.Joins.open_agg3 Tryz.underlying74 (by kernel_rfl) (by kernel_rfl) (hval 2 74 v2 rfl rfl) e2
 obtain ⟨op, rfl, rfl, k0⟩ := int_of g0
 obtain ⟨k, rfl, rfl, k1⟩ := int_of g1
 obtain ⟨x2, rfl, rfl, k2⟩ := str_of g2
 refine (law x0 x1 op k x2 W (byte_wf m1) (room_any hshape)).mono fun e W' ⟨he, hb⟩ => ?_
 subst he
 exact ⟨_, rfl, _, _, _, [], _, [], hW', trodAll_mk1 (shut_bool Tryz.underlying4 _), trodAll_mk3 (shut_string Tryz.underlying9 m0) (shut_int Tryz.underlying5 m1) (shut_call k0 k1 k2), rfl, hb.frame _, fun h => by cases h⟩
theorem said : Rows.RecordJoinsUptoSaid :=
 OpenClaim.holds_of_cond 8 Tryz.f8 rfl rfl rfl rfl rfl rfl rfl ⟨rfl, rfl, rfl, rfl, rfl⟩ rfl rfl rfl rfl rfl named Tryz.func8 facts inst wrap
  (fun os started H enc _ F => by rw [OpenClaim.pre_eq_preRow]; exact lifted os started H enc F)
theorem card : Rows.RecordJoinsUptoCardSaid :=
 Claim7.holds_tied_plain_at .later [] _ _ _ _ said (fun _ h => by cases h) (by as_aux_lemma => kernel_rfl) (fun _ h => by cases h) recordJoinsUpto_row_tie rfl ⟨rfl, rfl⟩ (by as_aux_lemma => kernel_rfl) rfl plain (by as_aux_lemma => kernel_rfl)
end joins
end Go.Proofs.YtdnekbapjlbeaaaGreatDoor
