/- A part of the proof: definitions and lemmas. -/
import Derived.Test.YthfceininiemdaaGreatDoorTextsA
import Derived.Test.YthfceininiemdaaGreatDoorTextsB
import Derived.Test.YthfceininiemdaaGreatDoorTextsC
import Derived.Test.YthfceininiemdaaGreatDoorTextsD
import Derived.Test.YthfceininiemdaaGreatDoorTextsE
import Derived.Test.YthfceininiemdaaGreatDoorTextsF
namespace Go.Proofs.Sf
open Go Go.Ef
noncomputable section
set_option maxRecDepth 100000
theorem wSameN (d p e q : Int) : wpCall tabX cfg Tryz.prog 60 14 [.agg (numN d p), .agg (numN e q)] heapF fun r h' => wpBack h' r fun v => v = bA (decide (d = e) && decide (p = q)) := by
 refine vSameN d p e q _ (iti (fun h1 => iti (fun h2 => ?_) (fun h2 => ?_)) (fun h1 => ?_))
 ·have h1 : d = e := by simpa using h1
  have h2 : p = q := by simpa using h2
  rw [dt h1, dt h2]; rfl
 ·have h2 : ¬ p = q := by simpa using h2
  rw [df h2, Bool.and_false]; rfl
 ·have h1 : ¬ d = e := by simpa using h1
  rw [df h1, Bool.false_and]; rfl
theorem okSN {T : Tab} (O : Ok T) : Ok (T.addC 14 CSameN) := by
 refine addC_ok O fun args h s hs hp => ?_
 unfold CSameN at hs
 split at hs
 ·rename_i d p e q
  exact nspec_ok (Option.some.inj hs) (fun _ => EvP.freshV okX (n := 60) (by kernel_rfl) rfl (args' := [.agg (numN d p), .agg (numN e q)]) rfl (wSameN d p e q)) hp
 ·cases hs
theorem okS {T : Tab} (O : Ok T) : Ok (T.addC 14 CSame) := by
 refine addC_ok O fun args h s hs hp => ?_
 unfold CSame at hs
 split at hs
 ·rename_i op a p b q r op' a' p' b' q' r'
  cases hs
  obtain ⟨m, v, h', e, rfl, rfl⟩ := EvP.freshV (g := 14) (args := [.agg (binN op.data.toList (numN a p) (numN b q) r), .agg (binN op'.data.toList (numN a' p') (numN b' q') r')]) (h := h) (v := bA true) (okSN okX) (n := 60) (by kernel_rfl) rfl (args' := [.agg (binN op.data.toList (numN a p) (numN b q) r), .agg (binN op'.data.toList (numN a' p') (numN b' q') r')]) rfl
   (vSameB op.data.toList op'.data.toList a a' b b' p p' q q' r r' _ (it (dt hp.op) (it (by simpa using hp.r) ⟨trivial, fun x hx => it (by rw [hx, dt hp.a, dt hp.p]; rfl) ⟨trivial, fun y hy => it (by rw [hy, dt hp.b, dt hp.q]; rfl) rfl⟩⟩)))
  exact ⟨_, List.mem_singleton.2 rfl, (), m, trivial, e⟩
 ·rename_i d p e q
  exact nspec_ok (Option.some.inj hs) (fun _ => EvP.freshV okX (n := 60) (by kernel_rfl) rfl (args' := [.agg (numN d p), .agg (numN e q)]) rfl (wSameN d p e q)) hp
 ·cases hs
  exact hp.f.elim
theorem ok10 {T : Tab} (O : Ok T) : Ok (T.addC 10 CTrue) := by
 refine addC_ok O fun args h s hs hp => ?_
 unfold CTrue at hs
 split at hs
 ·cases hs
  obtain ⟨h', e⟩ := yes_spec awake_ev
  refine ⟨_, List.mem_singleton.2 rfl, (), 1000, trivial, ?_⟩
  have hf : cfg.fresh 10 = true := by kernel_rfl
  unfold callP
  rw [show cfg.prim 10 = none from rfl]
  simp only []
  rw [hf]
  simp only [cond_true]
  rw [show mapO (stripA 8) ([] : List AV) = some [] from rfl]
  simp only []
  rw [e]
  rfl
 ·cases hs
def isLoc : Option (AV × Heap) → Bool
 | some (.agg [.sc (.string _), .sl _ 0, .sc (.string _), .sc (.string _), .sc (.slice none 0 0), .sc (.slice none 0 0)], _) => true
 | _ => false
theorem loc_ev : isLoc (callP cfg (evCall cfg Tryz.prog 400) 21 [] heapF) = true := by kernel_rfl
theorem ok21 {T : Tab} (O : Ok T) : Ok (T.addC 21 CDef) := by
 refine addC_ok O fun args h s hs hp => ?_
 unfold CDef at hs
 split at hs
 ·cases hs
  have hl := loc_ev
  have hf : cfg.fresh 21 = true := by kernel_rfl
  unfold isLoc at hl
  split at hl
  ·rename_i nm W lo up h1 e
   refine ⟨_, List.mem_singleton.2 rfl, (nm.data.toList, lo.data.toList, up.data.toList, W), 400, trivial, ?_⟩
   unfold callP at e ⊢
   rw [show cfg.prim 21 = none from rfl] at e ⊢
   simp only [] at e ⊢
   rw [hf] at e ⊢
   simp only [cond_true] at e ⊢
   rw [show mapO (stripA 8) ([] : List AV) = some [] from rfl] at e ⊢
   simp only [] at e ⊢
   split at e
   ·split at e
    ·cases e
     rfl
    ·cases e
   ·cases e
  ·cases hl
 ·cases hs
end
end Go.Proofs.Sf
