/- The law in every world, and its card. -/
import Derived.Test.YtijnmcodipdioaaGreatDoorLiteralsA
import Derived.Test.YtijnmcodipdioaaGreatDoorLiteralsB
import Derived.Test.YtijnmcodipdioaaGreatDoorLiteralsC
import Derived.Test.YtijnmcodipdioaaGreatDoorLiteralsD
import Derived.Test.YtijnmcodipdioaaGreatDoorLiteralsE
import Derived.Test.YtijnmcodipdioaaGreatDoorLiteralsF
import Derived.Test.YtijnmcodipdioaaGreatDoorLiteralsG
import Derived.Test.YtijnmcodipdioaaGreatDoorLiteralsH
import Derived.Test.YtijnmcodipdioaaGreatDoorLiteralsI
import Derived.Test.YtijnmcodipdioaaGreatDoorLiteralsJ
import Derived.Test.YtijnmcodipdioaaGreatDoorLiteralsK
import Derived.Test.YtijnmcodipdioaaGreatDoorLiteralsL
import Derived.Test.YtijnmcodipdioaaGreatDoorLiteralsM
import Derived.Test.YtijnmcodipdioaaGreatDoorLiteralsN
import Derived.Test.YtijnmcodipdioaaGreatDoorLiteralsO
import Derived.Test.YtijnmcodipdioaaGreatDoorLiteralsP
import Derived.Test.YtijnmcodipdioaaGreatDoorLiteralsQ
import Derived.Test.YtijnmcodipdioaaGreatDoorLiteralsR
import Derived.Test.YtijnmcodipdioaaGreatDoorLiteralsS
import Derived.Test.YtijnmcodipdioaaGreatDoorLiteralsT
import Derived.Test.YtijnmcodipdioaaGreatDoorLiteralsU
import Derived.Test.YtijnmcodipdioaaGreatDoorLiteralsV
import Derived.Test.YtijnmcodipdioaaGreatDoorLiteralsW
import Derived.Test.YtijnmcodipdioaaGreatDoorLiteralsX
import Derived.Test.YtijnmcodipdioaaGreatDoorLiteralsY
import Derived.Test.YtijnmcodipdioaaGreatDoorLiteralsZ
import Derived.Test.YtijnmcodipdioaaGreatDoorLiterals0
import Derived.Test.YtijnmcodipdioaaGreatDoorLiterals1
import Derived.Test.YtijnmcodipdioaaGreatDoorLiterals2
import Derived.Test.YtijnmcodipdioaaGreatDoorLiterals3
import Derived.Test.YtijnmcodipdioaaGreatDoorLiterals4
import Derived.Test.YtijnmcodipdioaaGreatDoorCards
import Derived.Test.YtijnmcodipdioaaGreatDoorTie
import Derived.WalkKit
import Derived.ProofKit
import Derived.Handy
import Derived.Lay
import Derived.SevenTiedAt
namespace Go.Proofs.YtijnmcodipdioaaGreatDoor
open Go Go.Ef Go.ChangeShapes Go.WideShapes Go.ChangeAt Go.RowKit
open Go.ChangeMaps (open_string shut_string)
namespace literals
theorem law (s u : ByteArray) (b : Bool) (w : World) (hs : s.size ≤ maxLen) (hg : GlobOk Rl.cfg w) : Calls Tryz.prog 3 #[.string s, .string u, .bool b] w fun e w' => e = .returned (.bool true) ∧ Below w.heap.size w w' := by
 obtain ⟨⟨l⟩⟩ := s
 obtain ⟨⟨r⟩⟩ := u
 obtain ⟨m, h', he⟩ := Rl.ev3 (t := l) (s := r) (e := b) ⟨hs⟩
 refine law_of_ev Rl.fit m hg (args := [aStr l, aStr r, aBool b]) ⟨rfl, fun i x y hx hy => ?_⟩ he
 match i with
 | 0 => simp at hx hy; subst hx; subst hy; exact .sc rfl
 | 1 => simp at hx hy; subst hx; subst hy; exact .sc rfl
 | 2 => simp at hx hy; subst hx; subst hy; exact .sc rfl
 | i + 3 => simp at hx
theorem glob_ok {w : World} : GlobOk Rl.cfg w := ⟨fun g cs h => (by cases h), fun g n h => (by cases h)⟩
theorem own : ownKnob Tryz.prog.godebug = none := by kernel_rfl
set_option maxRecDepth 100000 in
theorem lifted (os : Os) (started : os.Started) (H : Type) (enc : TypeId × Value → H) :
  ReturnsInHanded {} Tryz.checked os 3 .any (fun w args => (Rows.regexLiteralsSpec.pre enc Tryz.prog Tryz.f3 [] false w args ∧ laidMetH Tryz.prog Rows.regexLiteralsRow.laid w) ∧ sizedMet enc Tryz.prog Tryz.f3 (OpenSpec.ofChange Rows.regexLiteralsSpec) false w args)
   (Rows.regexLiteralsSpec.post enc Tryz.prog Tryz.f3 false true false false) := by
 refine returnsInHanded_of_change_and (C := Tryz.checked) (X := fun w _ => laidMetH Tryz.prog Rows.regexLiteralsRow.laid w) (fun _ _ _ hh h => h.of_heap hh) own started (by kernel_rfl) Tryz.func3
  (ChangeSpec.witness_shaped (enc := enc) (C := Tryz.checked) (os := os) (X := fun w _ => laidMetH Tryz.prog Rows.regexLiteralsRow.laid w) false (World.laidAll Tryz.prog os Rows.regexLiteralsRow.laid) #[.string .empty, .string .empty, .bool false] 8 (World.laidAll_os _ _ _)
   (World.shaped_of_ZipB (by kernel_rfl) (by kernel_rfl)) (by kernel_rfl) (by kernel_rfl) (by kernel_rfl)
   (by rw [MakeChecks.laidMetH_plain _ _ _ (by kernel_rfl)]; exact laidMet_laidAll _ (by kernel_rfl) (by kernel_rfl))) ?_
 intro W base args ds gs before hval0 hW _ _ hL _
 have hval : ∀ (j : Nat) t v, Tryz.f3.params[j]? = some t → args[j]? = some v → Value.okWide Tryz.prog W .any base t v := hval0
 have hW' := hW
 obtain ⟨p, q, hA0, hV, rfl, _, _⟩ := hW
 have hA : DataW.TrodAll enc Tryz.prog W 0 (fun _ => true) true Tryz.f3.params.toList args.toList ds p := hA0
 rw [Tryz.params3] at hA hval
 obtain ⟨v0, vs0, d0, ds0, p0, q0, hargs, rfl, rfl, h0, r0⟩ := trodAll_cons hA
 obtain ⟨v1, vs1, d1, ds1, p1, q1, rfl, rfl, rfl, h1, r1⟩ := trodAll_cons r0
 obtain ⟨v2, vs2, d2, ds2, p2, q2, rfl, rfl, rfl, h2, r2⟩ := trodAll_cons r1
 obtain ⟨rfl, rfl, rfl⟩ := trodAll_nil r2
 obtain rfl : args = #[v0, v1, v2] := by cases args; simp_all
 obtain ⟨rfl, rfl⟩ := trodVars_none hV
 obtain ⟨s, rfl, rfl, rfl, hmax⟩ := open_string Tryz.underlying9 (hval 0 9 v0 rfl rfl) h0
 obtain ⟨u, rfl, rfl, rfl, hmax'⟩ := open_string Tryz.underlying9 (hval 1 9 v1 rfl rfl) h1
 obtain ⟨b, rfl, rfl, rfl⟩ := open_bool Tryz.underlying4 (hval 2 4 v2 rfl rfl) h2
 refine (law s u b W hmax glob_ok).mono fun e W' ⟨he, hb⟩ => ?_
 subst he
 exact ⟨_, rfl, _, _, _, [], _, [], hW', trodAll_mk1 (shut_bool Tryz.underlying4 _), trodAll_mk3 (shut_string Tryz.underlying9 hmax) (shut_string Tryz.underlying9 hmax') (shut_bool Tryz.underlying4 b), rfl, hb.frame _, fun h => by cases h⟩
theorem said : Rows.RegexLiteralsSaid :=
 OpenClaim.holds_of_wide 3 Tryz.f3 rfl rfl rfl rfl rfl rfl rfl ⟨rfl, rfl, rfl, rfl, rfl⟩ rfl rfl rfl rfl rfl named Tryz.func3 facts inst wrap
  (fun os started H enc _ => lifted os started H enc)
theorem card : Rows.RegexLiteralsCardSaid :=
 Claim7.holds_tied_plain_at .later [] _ _ _ _ said (fun _ h => by cases h) (by as_aux_lemma => kernel_rfl) (fun _ h => by cases h) regexLiterals_row_tie rfl ⟨rfl, rfl⟩ (by as_aux_lemma => kernel_rfl) rfl plain (goes_none rfl still)
end literals
end Go.Proofs.YtijnmcodipdioaaGreatDoor
