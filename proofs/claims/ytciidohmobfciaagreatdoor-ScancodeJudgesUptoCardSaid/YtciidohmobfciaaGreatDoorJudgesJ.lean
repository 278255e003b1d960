/- A part of the proof: definitions and lemmas. -/
import Derived.Test.YtciidohmobfciaaGreatDoorJudgesA
import Derived.Test.YtciidohmobfciaaGreatDoorJudgesB
import Derived.Test.YtciidohmobfciaaGreatDoorJudgesC
import Derived.Test.YtciidohmobfciaaGreatDoorJudgesD
import Derived.Test.YtciidohmobfciaaGreatDoorJudgesE
import Derived.Test.YtciidohmobfciaaGreatDoorJudgesF
import Derived.Test.YtciidohmobfciaaGreatDoorJudgesG
import Derived.Test.YtciidohmobfciaaGreatDoorJudgesH
import Derived.Test.YtciidohmobfciaaGreatDoorJudgesI
namespace Go.Proofs.Sp.Sj
open Go Go.Ef Go.Proofs.Pt
noncomputable section
set_option maxRecDepth 100000
variable {M : Int}
def primsJ (g : FuncId) : Option (List AV → Heap → Option (AV × Heap)) :=
 match g with
 | 14 => some walkP
 | g => prims g
def cfgJ (m : Int) : Cfg := (cfg m).addP primsJ
abbrev OkJ (M : Int) (T : Tab) : Prop := TabOk Tryz.prog (cfgJ M) T
theorem knows_prims (m : Int) (g : FuncId) (p : List AV → Heap → Option (AV × Heap)) (h : prims g = some p) : Known Tryz.prog (cfgJ m) g p := by
 unfold prims at h
 split at h
 ·cases h; exact shelf_join Tryz.lays156 Tryz.Builder_Extra_156 (body_at Tryz.func19 (by kernel_rfl))
 ·cases h; exact shelf_string Tryz.lays169 Tryz.Builder_Extra_169 (body_at Tryz.func23 (by kernel_rfl))
 ·cases h; exact known_copy (body_at Tryz.func48 (by kernel_rfl)) copy_fresh fun b w h _ => copy_used b w h
 ·cases h; exact shelf_replace Tryz.lays155 Tryz.Builder_Extra_155 (m := m) rfl (body_at Tryz.func51 (by kernel_rfl))
 ·cases h; exact known_no (body_at Tryz.func117 (by kernel_rfl))
 ·cases h; exact shelf_repeat Tryz.lays105 Tryz.Builder_Extra_105 (body_at Tryz.func122 (by kernel_rfl))
 ·cases h; exact known_indexByte Tryz.func158 (by kernel_rfl) (by kernel_rfl) (by kernel_rfl) (by kernel_rfl)
 ·cases h
theorem f14_is : Tryz.f14.body = some (.seq (.region 0 (regOps first14) false) (.seq (.region 1 ops14 true) rest14)) := by kernel_rfl
theorem none14 (m : Int) (n : Nat) : NoCall (cfg m) (evCall (cfg m) Tryz.prog n) 14 := no_call Tryz.func14 f14_is rfl rfl n
theorem primsJ_other {g : FuncId} (h : g ≠ 14) : primsJ g = (cfg M).prim g := by
 show primsJ g = prims g
 unfold primsJ
 split
 ·exact absurd rfl h
 ·rfl
theorem toJ {T : Tab} (O : Ok M T) : OkJ M T := O.add (k := 14) (fun _ h => primsJ_other h) (none14 M)
theorem awake_call (h : Heap) : callP (cfg M) (evCall (cfg M) Tryz.prog 1000) 7 [] h = some (bA true, h) := by
 obtain ⟨h', e⟩ := yes_spec (awake_ev M)
 have hf : (cfg M).fresh 7 = true := by kernel_rfl
 unfold callP
 rw [show (cfg M).prim 7 = none from rfl]
 simp only []
 rw [hf]
 show (match evCall (cfg M) Tryz.prog 1000 7 [] heapF with
   | some (r, h') => (match strip 8 h' r with | some r' => some (r', h) | none => none)
   | none => none) = _
 rw [e]
 rfl
theorem knowsJ (m : Int) (g : FuncId) (p : List AV → Heap → Option (AV × Heap)) (h : (cfgJ m).prim g = some p) : Known Tryz.prog (cfgJ m) g p := by
 replace h : primsJ g = some p := h
 unfold primsJ at h
 split at h
 ·cases h; exact known14 rfl rfl
 ·exact knows_prims m _ p h
theorem okAllJ (m : Int) : okAt (cfgJ m) 0 Tryz.prog.funcs.toList = true := by kernel_rfl
theorem fitJ (m : Int) : Fit Tryz.prog (cfgJ m) where
 sane := {
  plain := fun g fn h _ => by
   have := Array.all_eq_true'.1 plain_ok fn (Array.mem_of_getElem? h)
   simpa using this
  prim := knowsJ m }
 mixed := by kernel_rfl
 regs := fun f fn c h hc => by
  have := okAt_spec _ 0 (okAllJ m) f fn c (by simpa using h) hc
  rwa [Nat.zero_add] at this
structure FunHere (h : Heap) (id : Nat) : Prop where
 is : ∃ f, FunAt h id f
def C14 (args : List AV) (h : Heap) : Option CSpec :=
 match args with
 | [.agg [.sl si 0, .sl sf 0, .sc (.int .i64 _), .sc (.int .i64 _), .sc (.int .i64 _), .sc (.int .i64 r)], .sc (.int .i64 en), f] => match f with
  | .sc (.pointer none) => some { pre := Entry si sf r en, alts := [{ α := Bool, post := fun q => RIff si sf none en q, val := bA, heap := fun _ => h }] }
  | .ptr id 0 => some { pre := Entry si sf r en ∧ FunHere h id, alts := [{ α := Bool, post := fun q => RIff si sf (fiAt h id) en q, val := bA, heap := fun _ => h }] }
  | _ => none
 | _ => none
def C7 (args : List AV) (h : Heap) : Option CSpec :=
 match args with
 | [] => some (fspec True (bA true) h)
 | _ => none
theorem ok7 {T : Tab} (O : Ok M T) : Ok M (T.addC 7 C7) := by
 refine addC_ok O fun args h s hs hp => ?_
 unfold C7 at hs
 split at hs
 ·cases hs
  exact ⟨_, List.mem_singleton.2 rfl, (), 1000, trivial, awake_call h⟩
 ·cases hs
theorem walkP_at (args : List AV) (h : Heap) : callP (cfgJ M) (evCall (cfgJ M) Tryz.prog 0) 14 args h = walkP args h := rfl
theorem j14 {T : Tab} (O : OkJ M T) : OkJ M (T.addC 14 C14) := by
 refine addC_ok O fun args h s hs hp => ?_
 unfold C14 at hs
 split at hs
 ·rename_i si sf b e n r en f
  split at hs
  ·cases hs
   refine ⟨_, List.mem_singleton.2 rfl, decP (Reach si.length (stepG si sf none) Lab.none [(en, [])]), 0, ⟨?_⟩, ?_⟩
   ·unfold decP
    exact @decide_eq_true_iff _ (Classical.propDecidable _)
   ·have q : walkP [codeA si sf b e n r, iA en, noA] h = some (bA (decP (Reach si.length (stepG si sf none) Lab.none [(en, [])])), h) := when_yes hp
    exact (walkP_at _ _).trans q
  ·rename_i id
   cases hs
   refine ⟨_, List.mem_singleton.2 rfl, decP (Reach si.length (stepG si sf (fiAt h id)) Lab.none [(en, [])]), 0, ⟨?_⟩, ?_⟩
   ·unfold decP
    exact @decide_eq_true_iff _ (Classical.propDecidable _)
   ·have q : walkP [codeA si sf b e n r, iA en, .ptr id 0] h = some (bA (decP (Reach si.length (stepG si sf (fiAt h id)) Lab.none [(en, [])])), h) := when_yes ⟨hp.1, hp.2.is⟩
    exact (walkP_at _ _).trans q
  ·cases hs
 ·cases hs
def I6 (si sf : Cells) (b e n r i : Int) (g : Heap) : St := stOf 46 [(1, .lp 0 0), (3, sInt i)] [.cells (codeC si sf b e n r)] g
def E6 (z : Slot) (si sf : Cells) (b e n r : Int) (g : Heap) : St := stOf 46 [(2, z)] [.cells (codeC si sf b e n r)] g
def q6 (si sf : Cells) (b e n r : Int) (X R : Heap → Prop) (ex : Ex) (τ : St) : Prop :=
 match ex with
 | .exit _ => ex = .exit 0 ∧ τ = E6 .unk si sf b e n r τ.h ∧ X τ.h
 | .ret => τ = E6 (sBool false) si sf b e n r τ.h ∧ R τ.h
 | _ => False
def T6r : Tab := Tab.heapy ((tab0.addC 13 C13).addC 14 C14) 6
structure WfOk (si sf : Cells) : Prop where
 is : ∀ k : Nat, k < sf.length → ReachF si sf (fiOf sf k) (cellInt sf k 1)
structure P6 (si sf : Cells) (b e n r i : Int) (g : Heap) : Prop where
 c : CodeIn si sf
 sh : Shaped si sf b e n r
 i0 : i = 0
 low : g.ro ≤ g.next
def L6 (σ : St) : Option LSpec := some { pre := σ.tidy [1, 3] 1 = I6 (lcE σ 0 0) (lcE σ 0 1) (lcI σ 0 2) (lcI σ 0 3) (lcI σ 0 4) (lcI σ 0 5) (slI σ 3) σ.h ∧ P6 (lcE σ 0 0) (lcE σ 0 1) (lcI σ 0 2) (lcI σ 0 3) (lcI σ 0 4) (lcI σ 0 5) (slI σ 3) σ.h, alts := [{ α := Heap, post := fun _ => Yes (WfOk (lcE σ 0 0) (lcE σ 0 1)), ex := .exit 0, st := fun g => E6 .unk (lcE σ 0 0) (lcE σ 0 1) (lcI σ 0 2) (lcI σ 0 3) (lcI σ 0 4) (lcI σ 0 5) g }, { α := Heap, post := fun _ => Yes (¬WfOk (lcE σ 0 0) (lcE σ 0 1)), ex := .ret, st := fun g => E6 (sBool false) (lcE σ 0 0) (lcE σ 0 1) (lcI σ 0 2) (lcI σ 0 3) (lcI σ 0 4) (lcI σ 0 5) g }] }
def T6 : Tab := T6r.addL 6 5 L6
def C6 (args : List AV) (h : Heap) : Option CSpec := C5 args h
def T3 : Tab := ((tab0.addC 5 C5).addC 6 C6).addC 7 C7
end
end Go.Proofs.Sp.Sj
