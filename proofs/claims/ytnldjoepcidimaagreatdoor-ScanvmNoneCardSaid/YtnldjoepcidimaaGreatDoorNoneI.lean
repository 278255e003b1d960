/- A part of the proof: definitions and lemmas. -/
import Derived.Test.YtnldjoepcidimaaGreatDoorNoneA
import Derived.Test.YtnldjoepcidimaaGreatDoorNoneB
import Derived.Test.YtnldjoepcidimaaGreatDoorNoneC
import Derived.Test.YtnldjoepcidimaaGreatDoorNoneD
import Derived.Test.YtnldjoepcidimaaGreatDoorNoneE
import Derived.Test.YtnldjoepcidimaaGreatDoorNoneF
import Derived.Test.YtnldjoepcidimaaGreatDoorNoneG
import Derived.Test.YtnldjoepcidimaaGreatDoorNoneH
namespace Go.Proofs
open Go Go.Ef
noncomputable section
namespace Vm
set_option maxRecDepth 100000
def isSeqs : Nat → Code → Bool
 | 0, _ => true
 | n + 1, .seq _ b => isSeqs n b
 | _ + 1, _ => false
theorem runS_wp {C : Cfg} (F : Fit Tryz.prog C) {E : Ent} {f m : Nat} {Q : Exit → Act → World → Prop} {σ' : St} : ∀ (k : Nat) (c : Code) (σ : St) (L : List Nat) (μ : M) (a : Act) (w : World), runS C Tryz.prog m f k c σ = some σ' → isSeqs k c = true → codeOk C Tryz.prog f c = true → Rel C E L μ σ a w →
  (∀ L' μ' a' w', Rel C E L' μ' σ' a' w' → (dropS k c).wp Tryz.prog Q a' w') → c.wp Tryz.prog Q a w := by
 intro k
 induction k with
 | zero =>
  intro c σ L μ a w h _ _ R hq
  cases h
  exact hq L μ a w R
 | succ k ih =>
  intro c σ L μ a w h hs ho R hq
  cases c <;> try (cases hs; done)
  rename_i x y
  have ho' : codeOk C Tryz.prog f x = true ∧ codeOk C Tryz.prog f y = true := by simpa [codeOk] using ho
  unfold runS at h
  revert h
  show (match normO (evCode C Tryz.prog m f x σ) with
   | some σ1 => runS C Tryz.prog m f k y σ1
   | none => none) = some σ' → _
  cases hn : normO (evCode C Tryz.prog m f x σ) with
  | none => intro e; cases e
  | some σ1 =>
   intro e
   exact seq_ev F (ev_piece hn) ho'.1 R fun L1 μ1 a1 w1 R1 => ih y σ1 L1 μ1 a1 w1 e hs ho'.2 R1 hq
noncomputable def c17 : Code := codeF Tryz.prog 17
noncomputable def pc17 : Code := nthS 10 c17
noncomputable def R17 : Array Oper := regOps (nthS 0 pc17)
noncomputable def lp17 : Code := inLoop (inBlk (dropS 1 pc17))
noncomputable def N17 : Array Oper := regOps (nthS 0 lp17)
noncomputable def in17 : Code := inBlk (dropS 2 lp17)
noncomputable def E17 : Array Oper := regOps (nthS 0 in17)
noncomputable def bd17 : Code := dropS 1 in17
noncomputable def B17 : Array Oper := regOps bd17
theorem shape17 : dropS 10 c17 = .seq (.seq (.region 19 R17 false) (.block 2 (.loop (.seq (.region 20 N17 false) (.seq (.cond (.tmp 111) .skip (.exit 2)) (.block 3 (.seq (.region 21 E17 false) bd17))))))) (dropS 11 c17) := by kernel_rfl
theorem shapeB17 : bd17 = .region 22 B17 true := by kernel_rfl
theorem Th_ok1 : TabOk Tryz.prog cfg1 Th := ⟨tab0_ok.call, tab0_ok.loop⟩
noncomputable def bs17 (mp : Nat) (s : Nat → Slot) (h : Heap) (loc : List LObj) : St := baseF 166 11 109 [1, 10] mp s h loc
noncomputable def g17 (σ : St) (kv : Value) (v : AV) : St := pt (pt (pt (pt σ 113 (.sc kv)) 114 v) 16 (.sc kv)) 17 v
theorem off17 : offM 12 = 26 := by kernel_rfl
theorem body17 (mp : Nat) (s : Nat → Slot) (h : Heap) (r1 r2 : LObj) (n l : ByteArray) (e1 : isMp h mp 26 = true) (e2 : mapNew h (mpIdIn h mp 26) .string (.string n) = true) :
  wpOpsW Th cfg1 Tryz.prog (wpCall Th cfg1 Tryz.prog 20) 17 B17 B17.toList (g17 (e28 (n28 (bs17 mp s h [r1, r2]) (.string n) (.sc (.string l))) (.string n) (.sc (.string l))) (.string n) (.sc (.string l)))
   fun τ => τ.tidy [11, 109, 1, 10] 2 = bs17 mp (fun t => (s t).keep 2) (mapAdd h (mpIdIn h mp 26) (.string n) (ofText (.sc (.string l)))) [r1, r2] := by
 have k : iteP (isMp h mp 26) (iteP (mapNew h (mpIdIn h mp 26) .string (.string n)) (bs17 mp (fun t => (s t).keep 2) (mapAdd h (mpIdIn h mp 26) (.string n) (ofText (.sc (.string l)))) [r1, r2] = bs17 mp (fun t => (s t).keep 2) (mapAdd h (mpIdIn h mp 26) (.string n) (ofText (.sc (.string l)))) [r1, r2]) False) False := by
  rw [e1, e2]
  exact (rfl : bs17 mp _ _ _ = _)
 exact Eq.mp (by kernel_rfl) k
theorem body17t (mp : Nat) (s : Nat → Slot) (h : Heap) (loc : List LObj) (n l : ByteArray) (e1 : isMp h mp 26 = true) (e2 : mapNew h (mpIdIn h mp 26) .string (.string n) = true) :
  wpOpsW Th cfg1 Tryz.prog (wpCall Th cfg1 Tryz.prog 20) 17 B17 B17.toList (g17 (e28 (n28 (bs17 mp s h loc) (.string n) (.sc (.string l))) (.string n) (.sc (.string l))) (.string n) (.sc (.string l))) fun _ => True := by
 have k : iteP (isMp h mp 26) (iteP (mapNew h (mpIdIn h mp 26) .string (.string n)) True False) False := by
  rw [e1, e2]; trivial
 exact Eq.mp (by kernel_rfl) k
theorem ev_drawn {f id : Nat} {ops : Array Oper} {σ : St} {K : St → Prop} {n : Nat} (hb : cfg1.bad f id = false) (h : wpOpsW Th cfg1 Tryz.prog (wpCall Th cfg1 Tryz.prog n) f ops ops.toList σ K) : Ev cfg1 Tryz.prog f (.region id ops true) σ fun e τ => e = .normal ∧ K τ := by
 obtain ⟨m, τ, e1, e2⟩ := ops_okW Th_ok1 (call_okW Th_ok1 n) _ _ _ h
 refine ⟨m + 1, .normal, τ, ?_, rfl, e2⟩
 show evReg cfg1 Tryz.prog (callWith cfg1 Tryz.prog (evCode cfg1 Tryz.prog m)) f id ops true σ = _
 unfold evReg
 rw [hb, Bool.and_false]
 simp only [cond_false]
 rw [show evOps cfg1 Tryz.prog (callWith cfg1 Tryz.prog (evCode cfg1 Tryz.prog m)) f ops ops.toList σ = some τ from e1]
theorem known17 : KnownB Tryz.prog cfg 17 p17 := by
 have hb : Tryz.f17.body = some c17 := by kernel_rfl
 refine ⟨⟨Tryz.f17, Tryz.func17, by rw [hb]; rfl⟩, fun args h r h' hx μ w vs H hv => ?_⟩
 have H0 : W cfg1 μ h w := W.of_glob (C := cfg) (C' := cfg1) rfl rfl H
 unfold p17 at hx
 split at hx
 ·rename_i σ0 hr
  split at hx
  ·rename_i τ hf
   have he : entryF Tryz.prog 17 args h = entry Tryz.f17 args h := by unfold entryF; rw [Tryz.func17]; rfl
   rw [he] at hr
   refine calls_of_code Tryz.func17 hb H0 hv fun a R => ?_
   refine runS_wp fit1 10 c17 _ [] μ a w hr (by kernel_rfl) (by kernel_rfl) R fun L1 μ1 a1 w1 R1 => ?_
   rw [shape17]
   refine wp_seq ?_
   refine fillS_wp (x := .tmp 108) (yN := 11) (dR := 109) (kt := 9) (et := 9) (tt := 73) (keep' := [1, 10]) (oR := lastO R17) (oN := hdO N17) (oE := hdO E17) (lN := N17.toList.tail) (lE := E17.toList.tail) fit1 hf R1 (by kernel_rfl) (by kernel_rfl) (by kernel_rfl) (by kernel_rfl) (by kernel_rfl) (by decide) (by decide) (by decide) (by kernel_rfl) (by kernel_rfl) (by kernel_rfl) (by kernel_rfl) (by kernel_rfl) (by kernel_rfl) (by kernel_rfl) rfl (fun mp s h loc => by kernel_rfl) (fun mp s h loc => ?_) (fun mp s h loc kv v ho => ?_) (fun mp s h _ => by kernel_rfl) fun L2 μ2 a2 w2 R2 => ?_
   ·exact ⟨pt (bs17 mp s h loc) 110 (.tup [.sc (.bool false)]), pt (pt (bs17 mp s h loc) 110 (.tup [.sc (.bool false)])) 111 (.sc (.bool false)), by kernel_rfl, by kernel_rfl, by kernel_rfl, by kernel_rfl⟩
   ·refine ⟨pt (bs17 mp s h loc) 110 (.tup [.sc (.bool true), .sc kv, v]), n28 (bs17 mp s h loc) kv v, e28 (n28 (bs17 mp s h loc) kv v) kv v, g17 (e28 (n28 (bs17 mp s h loc) kv v) kv v) kv v, by kernel_rfl, by kernel_rfl, by kernel_rfl, by kernel_rfl, by kernel_rfl, by kernel_rfl, by kernel_rfl, fun k1 k2 k3 => ?_⟩
    rw [off17] at k2 k3 ⊢
    cases v <;> try (cases ho; done)
    rename_i v
    cases v <;> try (cases ho; done)
    rename_i l
    cases kv <;> try (cases k1; done)
    rename_i n
    rw [shapeB17]
    by_cases hl : loc.length = 2
    ·obtain ⟨r1, r2, rfl⟩ : ∃ r1 r2, loc = [r1, r2] := by
      match loc, hl with
      | [r1, r2], _ => exact ⟨r1, r2, rfl⟩
     obtain ⟨m, e, τ, z1, z2, z3⟩ := ev_drawn (id := 22) (by kernel_rfl) (body17 mp s h r1 r2 n l k2 k3)
     refine ⟨m, e, τ, z1, z2, fun loc' y1 _ => ?_⟩
     subst y1
     exact z3
    ·obtain ⟨m, e, τ, z1, z2, _⟩ := ev_drawn (id := 22) (by kernel_rfl) (body17t mp s h loc n l k2 k3)
     exact ⟨m, e, τ, z1, z2, fun loc' y1 y2 => absurd (y1 ▸ y2) hl⟩
   ·have hrs : resFn Tryz.prog 17 = Tryz.f17.results.toList := by unfold resFn; rw [Tryz.func17]
    rw [hrs] at hx
    cases hev : evCode cfg1 Tryz.prog 300 17 (dropS 11 (codeF Tryz.prog 17)) τ with
    | none => rw [hev] at hx; cases hx
    | some q =>
     obtain ⟨e, τ2⟩ := q
     rw [hev] at hx
     refine ev_wp fit1 (K := fun e' τ' => e' = e ∧ τ' = τ2) ⟨300, e, τ2, hev, rfl, rfl⟩ (by kernel_rfl) R2 fun e' τ' L3 μ3 a3 w3 hk R3 => ?_
     obtain ⟨rfl, rfl⟩ := hk
     exact ⟨e', τ', L3, μ3, rfl, R3, _, _, hx, fun x w' q => CallEnd.of_glob (C := cfg1) (C' := cfg) rfl rfl q⟩
  ·cases hx
 ·cases hx
end Vm
end
end Go.Proofs
