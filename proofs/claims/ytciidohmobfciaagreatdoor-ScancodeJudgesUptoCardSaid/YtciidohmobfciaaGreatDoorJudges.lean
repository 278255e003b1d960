/- The law in every world, and its card. -/
import Derived.Test.YtciidohmobfciaaGreatDoorJudgesA
import Derived.Test.YtciidohmobfciaaGreatDoorJudgesB
import Derived.Test.YtciidohmobfciaaGreatDoorJudgesC
import Derived.Test.YtciidohmobfciaaGreatDoorJudgesD
import Derived.Test.YtciidohmobfciaaGreatDoorJudgesE
import Derived.Test.YtciidohmobfciaaGreatDoorJudgesF
import Derived.Test.YtciidohmobfciaaGreatDoorJudgesG
import Derived.Test.YtciidohmobfciaaGreatDoorJudgesH
import Derived.Test.YtciidohmobfciaaGreatDoorJudgesI
import Derived.Test.YtciidohmobfciaaGreatDoorJudgesJ
import Derived.Test.YtciidohmobfciaaGreatDoorJudgesK
import Derived.Test.YtciidohmobfciaaGreatDoorJudgesL
import Derived.Test.YtciidohmobfciaaGreatDoorCards
import Derived.Test.YtciidohmobfciaaGreatDoorTie
import Derived.WalkKit
import Derived.ProofKit
import Derived.Handy
import Derived.Lay
import Derived.Shelf.Vars
import Derived.Deep.DeepHandedRow
import Derived.SevenTiedAt
namespace Go.Proofs.YtciidohmobfciaaGreatDoor
open Go Go.Ef Go.ChangeShapes Go.WideShapes Go.ChangeAt Go.RowKit
open Go.ChangeMaps (open_string shut_string)
namespace judges
theorem glob_ok {W : World} (h : laidMet Tryz.prog Rows.scancodeJudgesUptoRow.laid W) (hs : W.ShapedOpen Tryz.prog) : ∃ m, GlobOk (Sp.cfg m) W := by
 obtain ⟨m, hm⟩ := cell_of_shapedOpen_int (g := 0) (zero := #[.int .i64 0]) (t := 3) hs (of_decide_eq_true (by kernel_rfl)) (by kernel_rfl) rfl (by kernel_rfl) (by kernel_rfl) Tryz.underlying3
 have h0 : laidMet Tryz.prog (("math/bits.deBruijn64tab", Rows.laid_math_bits_deBruijn64tab) :: ("unicode.White_Space", Rows.laid_unicode_White_Space) :: ("strings.asciiSpace", Rows.laid_strings_asciiSpace) :: []) W := h
 refine ⟨m, fun g cs hg => ?_, fun g n hg => ?_⟩
 ·replace hg : Sp.globs m g = some cs := hg
  unfold Sp.globs at hg
  split at hg
  ·cases hg
   intro i x hx
   match i with
   | 0 => simp at hx; subst hx; exact ⟨_, hm, .sc rfl⟩
   | i + 1 => simp at hx
  ·cases hg; exact row_glob (t := 238) (by kernel_rfl) (by kernel_rfl) (by kernel_rfl) h0.tail.tail
  ·cases hg
 ·cases hg
theorem own : ownKnob Tryz.prog.godebug = none := by kernel_rfl
theorem laidOut : laidOutB Tryz.prog = true := by kernel_rfl
theorem row_witness {H : Type} {enc : TypeId × Value → H} {C : Checked} {os : Os} {f : FuncId} {fn : Func} {s : OpenSpec} {conds : List PathCond} {apart : Bool} {laid : List (String × DataW Unit)} (w0 : World) (args : Array Value) (hos : w0.os = os)
  (hsh : (w0.forCall (fun _ _ => 0) ⟨#[], args, []⟩).Shaped C.prog) (hok : Input.okWideB C.prog (w0.forCall (fun _ _ => 0) ⟨#[], args, []⟩) f ⟨#[], args, []⟩ = true)
  (hrow : s.preRow enc C.prog fn conds apart laid (w0.forCall (fun _ _ => 0) ⟨#[], args, []⟩).memory args) :
  ∃ (w : World) (tape : Tape) (i : Input), w.os = os ∧ (w.forCall tape i).Shaped C.prog ∧ i.vars = [] ∧ Input.okWide C.prog (w.forCall tape i) .any w.heap.size f i ∧
   s.preRow enc C.prog fn conds apart laid (w.forCall tape i).memory i.args ∧ ({} : Assume).holds C.prog (lone (Frame.enter C.prog f i.args .normal) [] (w.forCall tape i)) :=
 ⟨w0, fun _ _ => 0, ⟨#[], args, []⟩, hos, hsh, (Input.okWide_of_okWideB (base := 0) hok).1, (Input.okWide_of_okWideB hok).2, hrow, by
  simp only [Assume.holds]
  exact ⟨by simp, by simp, fun _ => Modest.zero, by simp, by simp⟩⟩
set_option maxRecDepth 100000 in
theorem lifted (os : Os) (started : os.Started) (H : Type) (enc : TypeId × Value → H) (F : Stop.Interp) :
  ReturnsInHanded {} Tryz.checked os 3 .any ((Rows.OpenSpec.upto Rows.scancodeJudgesSpec).preRow enc Tryz.prog Tryz.f3 Rows.scancodeJudgesUptoRow.domain false Rows.scancodeJudgesUptoRow.laid) (((Rows.OpenSpec.upto Rows.scancodeJudgesSpec).at F).post enc Tryz.prog Tryz.f3 false true false false) := by
 refine returnsInHanded_of_row (C := Tryz.checked) (s := Rows.OpenSpec.upto Rows.scancodeJudgesSpec) own started (by kernel_rfl) Tryz.func3
  (row_witness (enc := enc) (C := Tryz.checked) (os := os) (World.laidAll Tryz.prog os Rows.scancodeJudgesUptoRow.laid) #[.agg #[.slice none 0 0, .slice none 0 0, .int .i64 0, .int .i64 0, .int .i64 0, .int .i64 0]] (World.laidAll_os _ _ _) (World.shaped_of_ZipB (by kernel_rfl) (by kernel_rfl)) (by kernel_rfl)
   (OpenSpec.preRow_of_cond 8 (x := ([.agg [.nil, .nil, .lit (.int .i64 0), .lit (.int .i64 0), .lit (.int .i64 0), .lit (.int .i64 0)]], [], [])) (by kernel_rfl) (by kernel_rfl) (fun k hk => by cases hk; kernel_rfl) (by kernel_rfl) (by rw [MakeChecks.laidMetH_plain _ _ _ (by kernel_rfl)]; exact laidMet_laidAll _ (by kernel_rfl) (by kernel_rfl)))) ?_
 intro W base args ds gs before hval0 hW _ hcond _ hL hS _
 have hval : ∀ (j : Nat) t v, Tryz.f3.params[j]? = some t → args[j]? = some v → Value.okWide Tryz.prog W .any base t v := hval0
 have hW' := hW
 obtain ⟨p, q, hA0, hV, rfl, _, _⟩ := hW
 have hA : DataW.TrodAll enc Tryz.prog W 0 (fun _ => true) true Tryz.f3.params.toList args.toList ds p := hA0
 rw [Tryz.params3] at hA hval
 obtain ⟨v0, vs0, d0, ds0, p0, q0, hargs, rfl, rfl, e0, r0⟩ := trodAll_cons hA
 obtain ⟨rfl, rfl, rfl⟩ := trodAll_nil r0
 obtain rfl : args = #[v0] := by cases args; simp_all
 obtain ⟨rfl, rfl⟩ := trodVars_none hV
 have hk := of_decide_eq_true (hcond _ rfl)
 simp only [List.append_nil, Rows.uptoBulkAll] at hk
 have lt0 : ∀ x ∈ p0, x.block < W.heap.size := by obtain ⟨m, hm⟩ := e0; exact DataW.trod_lt m _ _ _ hm
 have hagg : ∃ cs, v0 = .agg cs ∧ cs.size = Tryz.prog.cellsOf 25 := by
  have := hval 0 25 v0 rfl rfl
  unfold Value.okWide at this
  rw [Tryz.underlying25] at this
  obtain ⟨cs, h1, h2, _⟩ := this
  exact ⟨cs, h1, h2⟩
 obtain ⟨si, sf, b, e, n, r, hcode, hv⟩ := Sp.code_reads hagg e0 (by omega)
 obtain ⟨m, hg⟩ := glob_ok hL hS
 refine (Sp.Sj.law3 ⟨hcode.f, hcode.i⟩ hv hg).mono fun e W' ⟨he, hb⟩ => ?_
 subst he
 exact ⟨_, rfl, _, _, _, [], _, [], hW', trodAll_mk1 (shut_bool Tryz.underlying4 _), trodAll_mk1 (Below.trod laidOut (by kernel_rfl) (of_decide_eq_true (by kernel_rfl)) e0 hb lt0), rfl, hb.frame _, fun h => by cases h⟩
theorem said : Rows.ScancodeJudgesUptoSaid :=
 OpenClaim.holds_of_cond 3 Tryz.f3 rfl rfl rfl rfl rfl rfl rfl ⟨rfl, rfl, rfl, rfl, rfl⟩ rfl rfl rfl rfl rfl named Tryz.func3 facts inst wrap
  (fun os started H enc _ F => by rw [OpenClaim.pre_eq_preRow]; exact lifted os started H enc F)
theorem card : Rows.ScancodeJudgesUptoCardSaid :=
 Claim7.holds_tied_plain_at .later [] _ _ _ _ said (fun _ h => by cases h) (by as_aux_lemma => kernel_rfl) (fun _ h => by cases h) scancodeJudgesUpto_row_tie rfl ⟨rfl, rfl⟩ (by as_aux_lemma => kernel_rfl) rfl plain (goes_none rfl still)
end judges
end Go.Proofs.YtciidohmobfciaaGreatDoor
