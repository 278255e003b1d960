/- A part of the proof: definitions and lemmas. -/
import Derived.Test.YtnldjoepcidimaaGreatDoorNoneA
import Derived.Test.YtnldjoepcidimaaGreatDoorNoneB
import Derived.Test.YtnldjoepcidimaaGreatDoorNoneC
import Derived.Test.YtnldjoepcidimaaGreatDoorNoneD
import Derived.Test.YtnldjoepcidimaaGreatDoorNoneE
import Derived.Test.YtnldjoepcidimaaGreatDoorNoneF
import Derived.Test.YtnldjoepcidimaaGreatDoorNoneG
import Derived.Test.YtnldjoepcidimaaGreatDoorNoneH
import Derived.Test.YtnldjoepcidimaaGreatDoorNoneI
namespace Go.Proofs
open Go Go.Ef
noncomputable section
namespace Vm
set_option maxRecDepth 100000
noncomputable def c89 : Code := codeF Tryz.prog 89
noncomputable def O89 : Array Oper := regOps (nthS 1 c89)
noncomputable def opN (ops : Array Oper) (i : Nat) : Oper := match ops[i]? with
 | some o => o
 | none => ⟨none, .assign (.const undef), 0, "", #[], none⟩
theorem under69 : Tryz.prog.underlying 69 = some (.map 9 112) := by kernel_rfl
theorem zero69 (kt et : TypeId) (h : Tryz.prog.underlying 69 = some (.map kt et)) : (zeroA Tryz.prog et).isSome = true := by
 rw [under69] at h
 cases h
 kernel_rfl
theorem upd_some {x : Nat} {k : List UInt8} {y d1 d2 : Nat} {σ σ' : St} (h : upd89 x k y d1 d2 σ = some σ') : ∃ s τ τ1, opMapUpdate Tryz.prog σ 69 (.tmp x) (.const (.string ⟨⟨k⟩⟩)) (.tmp y) = some (s, τ) ∧ τ.put (some d1) .unk = some τ1 ∧ τ1.put (some d2) .unk = some σ' := by
 unfold upd89 at h
 split at h
 ·rename_i s τ e
  split at h
  ·rename_i τ1 e1
   exact ⟨s, τ, τ1, e, e1, h⟩
  ·cases h
 ·cases h
theorem known89 : KnownB Tryz.prog cfg 89 p89 := by
 have hb : Tryz.f89.body = some c89 := by kernel_rfl
 refine ⟨⟨Tryz.f89, Tryz.func89, by rw [hb]; rfl⟩, fun args h r h' hx μ w vs H hv => ?_⟩
 have H0 : W cfg0 μ h w := W.of_glob (C := cfg) (C' := cfg0) rfl rfl H
 unfold p89 at hx
 split at hx
 ·rename_i σ0 hr
  split at hx
  ·rename_i σ1 h1
   split at hx
   ·rename_i σ2 h2
    split at hx
    ·rename_i σ3 h3
     have he : entryF Tryz.prog 89 args h = entry Tryz.f89 args h := by unfold entryF; rw [Tryz.func89]; rfl
     rw [he] at hr
     refine calls_of_code Tryz.func89 hb H0 hv fun a R => ?_
     refine runS_wp fit0 1 c89 _ [] μ a w hr (by kernel_rfl) (by kernel_rfl) R fun L1 μ1 a1 w1 R1 => ?_
     rw [show dropS 1 c89 = .seq (.region 1 O89 true) (dropS 2 c89) by kernel_rfl]
     obtain ⟨K, B⟩ := callWith_ok fit0 (code_ok fit0 100)
     refine wp_seq (draw_tail R1 fit0.sane K B fit0.mixed (n := 11) (f := 89) (by kernel_rfl) h1 fun L2 μ2 a2 w2 R2 => ?_)
     change wpOps Tryz.prog O89 _ (List.range' 11 (O89.size - 11)) a2 w2
     rw [show List.range' 11 (O89.size - 11) = [11, 12, 13, 14, 15, 16] by kernel_rfl]
     obtain ⟨s2, τ2, u2, q1, q2, q3⟩ := upd_some h2
     obtain ⟨s3, τ3, u3, y1, y2, y3⟩ := upd_some h3
     refine entry_ops (o1 := opN O89 11) (o2 := opN O89 12) (o3 := opN O89 13) R2 (by kernel_rfl) (by kernel_rfl) (by kernel_rfl) (by kernel_rfl) (by kernel_rfl) (by kernel_rfl) (by kernel_rfl) (by kernel_rfl) (by kernel_rfl) (by kernel_rfl) (by kernel_rfl) (by kernel_rfl) (by decide) (by decide) (by decide) (by decide) zero69 q1 q2 q3 fun L3 μ3 a3 w3 R3 => ?_
     refine entry_ops (o1 := opN O89 14) (o2 := opN O89 15) (o3 := opN O89 16) R3 (by kernel_rfl) (by kernel_rfl) (by kernel_rfl) (by kernel_rfl) (by kernel_rfl) (by kernel_rfl) (by kernel_rfl) (by kernel_rfl) (by kernel_rfl) (by kernel_rfl) (by kernel_rfl) (by kernel_rfl) (by decide) (by decide) (by decide) (by decide) zero69 y1 y2 y3 fun L4 μ4 a4 w4 R4 => ?_
     have hrs : resFn Tryz.prog 89 = Tryz.f89.results.toList := by unfold resFn; rw [Tryz.func89]
     rw [hrs] at hx
     cases hev : evCode cfg0 Tryz.prog 100 89 (dropS 2 (codeF Tryz.prog 89)) (σ3.tidy [1] 0) with
     | none => rw [hev] at hx; cases hx
     | some q =>
      obtain ⟨e, τ4⟩ := q
      rw [hev] at hx
      refine ev_wp fit0 (K := fun e' τ' => e' = e ∧ τ' = τ4) ⟨100, e, τ4, hev, rfl, rfl⟩ (by kernel_rfl) (tidy_rel R4 [1] 0) fun e' τ' L5 μ5 a5 w5 hk R5 => ?_
      obtain ⟨rfl, rfl⟩ := hk
      exact ⟨e', τ', L5, μ5, rfl, R5, _, _, hx, fun x w' q => CallEnd.of_glob (C := cfg0) (C' := cfg) rfl rfl q⟩
    ·cases hx
   ·cases hx
  ·cases hx
 ·cases hx
theorem knows (g : FuncId) (p : List AV → Heap → Option (AV × Heap)) (h : cfg.prim g = some p) : Known Tryz.prog cfg g p := by
 replace h : (bif Nat.beq g 17 then some p17 else bif Nat.beq g 89 then some p89 else cfg1.prim g) = some p := h
 cases e : Nat.beq g 17 with
 | true =>
  obtain rfl := Nat.eq_of_beq_eq_true e
  cases h
  exact known17.known
 | false =>
  rw [e] at h
  simp only [cond_false] at h
  cases e2 : Nat.beq g 89 with
  | true =>
   obtain rfl := Nat.eq_of_beq_eq_true e2
   cases h
   exact known89.known
  | false =>
   rw [e2] at h
   exact known_glob (C := cfg1) (C' := cfg) rfl rfl (knows1 g p h)
theorem okAll : okAt cfg 0 Tryz.prog.funcs.toList = true := by kernel_rfl
theorem fit : Fit Tryz.prog cfg where
 sane := {
  plain := fit0.sane.plain
  prim := knows }
 mixed := by kernel_rfl
 regs := fun f fn c h hc => by
  have := okAt_spec _ 0 okAll f fn c (by simpa using h) hc
  rwa [Nat.zero_add] at this
end Vm
end
end Go.Proofs
