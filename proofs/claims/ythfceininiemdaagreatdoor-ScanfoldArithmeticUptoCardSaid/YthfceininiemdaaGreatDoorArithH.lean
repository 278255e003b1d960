/- A part of the proof: definitions and lemmas. -/
import Derived.Test.YthfceininiemdaaGreatDoorArithA
import Derived.Test.YthfceininiemdaaGreatDoorArithB
import Derived.Test.YthfceininiemdaaGreatDoorArithC
import Derived.Test.YthfceininiemdaaGreatDoorArithD
import Derived.Test.YthfceininiemdaaGreatDoorArithE
import Derived.Test.YthfceininiemdaaGreatDoorArithF
import Derived.Test.YthfceininiemdaaGreatDoorArithG
namespace Go.Proofs.Sf
open Go Go.Ef
noncomputable section
set_option maxRecDepth 100000
theorem numF_pos {d : Int} (h : okD d = true) : numF d = some d := by unfold numF; rw [if_pos h]
theorem numF_neg {d : Int} (h : okD d = false) : numF d = none := by unfold numF; rw [if_neg (by simp [h])]
theorem numF_is {d x : Int} (h : numF d = some x) : x = d ∧ okD d = true := by
 unfold numF at h
 split at h
 ·cases h; exact ⟨rfl, by assumption⟩
 ·cases h
theorem numF_no {d : Int} (h : numF d = none) : okD d = false := by
 unfold numF at h
 split at h
 ·cases h
 ·rename_i q; simpa using q
theorem wConN (nm lo up : List UInt8) (W : List (List AV)) (d at_ : Int) : wpCall tab0 cfg Tryz.prog 60 30 [.agg (locV nm lo up W), .agg (numN d at_)] heapF fun r h' => wpBack h' r (QM (numF d)) := by
 refine vConN nm lo up W d at_ _ (iti (fun h1 => iti (fun h2 => ?_) (fun h2 => QM.none (numF_neg ?_))) (fun h1 => QM.none (numF_neg ?_)))
 ·have hd : okD d = true := by simp [okD, h1, h2]
  rw [mm hd]
  exact QM.some (numF_pos hd)
 ·simp [okD, h2]
 ·simp [okD, h1]
theorem okCN {T : Tab} (O : Ok T) : Ok (T.addC 30 CConN) := by
 refine addC_ok O fun args h s hs hp => ?_
 unfold CConN at hs
 split at hs
 ·rename_i nm W lo up d at_
  cases hs
  exact may_alts (EvP.freshK (g := 30) ok0 (n := 60) (by kernel_rfl) rfl (args' := [.agg (locV nm.data.toList lo.data.toList up.data.toList W), .agg (numN d at_)]) rfl (wConN nm.data.toList lo.data.toList up.data.toList W d at_))
 ·cases hs
theorem nodeF_pos {op : List UInt8} {a b : Int} (ha : okD a = true) (hb : okD b = true) : nodeF op a b = foldF op a b := by unfold nodeF; rw [if_pos ⟨ha, hb⟩]
theorem nodeF_l {op : List UInt8} {a b : Int} (ha : okD a = false) : nodeF op a b = none := by unfold nodeF; rw [if_neg (by simp [ha])]
theorem nodeF_r {op : List UInt8} {a b : Int} (hb : okD b = false) : nodeF op a b = none := by unfold nodeF; rw [if_neg (by simp [hb])]
theorem okTCon : Ok TCon := ok71 (ok110 (okCN okX))
theorem wConB (nm lo up : List UInt8) (W : List (List AV)) (op : List UInt8) (a b p q r : Int) :
  wpCall TCon cfg Tryz.prog 60 30 [.agg (locV nm lo up W), .agg (binN op (numN a p) (numN b q) r)] heapF fun r h' => wpBack h' r (QM (nodeF op a b)) := by
 refine vConB nm lo up W op a b p q r _ ⟨trivial, fun x hx => ⟨trivial, fun y hy => ?_, fun _ hy => QM.none (nodeF_r (numF_no hy))⟩, fun _ hx => QM.none (nodeF_l (numF_no hx))⟩
 obtain ⟨rfl, ha⟩ := numF_is hx.is
 obtain ⟨rfl, hb⟩ := numF_is hy.is
 rw [nodeF_pos ha hb]
 exact ⟨⟨ha, hb⟩, fun z hz => QM.some hz.is, fun _ hz => QM.none hz⟩
theorem okC {T : Tab} (O : Ok T) : Ok (T.addC 30 CCon) := by
 refine addC_ok O fun args h s hs hp => ?_
 unfold CCon at hs
 split at hs
 ·rename_i nm W lo up d at_
  cases hs
  exact may_alts (EvP.freshK (g := 30) ok0 (n := 60) (by kernel_rfl) rfl (args' := [.agg (locV nm.data.toList lo.data.toList up.data.toList W), .agg (numN d at_)]) rfl (wConN nm.data.toList lo.data.toList up.data.toList W d at_))
 ·rename_i nm W lo up op a p b q r
  cases hs
  exact may_alts (EvP.freshK (g := 30) okTCon (n := 60) (by kernel_rfl) rfl (args' := [.agg (locV nm.data.toList lo.data.toList up.data.toList W), .agg (binN op.data.toList (numN a p) (numN b q) r)]) rfl (wConB nm.data.toList lo.data.toList up.data.toList W op.data.toList a b p q r))
 ·cases hs
theorem okTNode : Ok TNode := ok71 (okC okX)
theorem wNodeN (nm lo up : List UInt8) (W : List (List AV)) (d at_ : Int) : wpCall TNode cfg Tryz.prog 60 43 [.agg (locV nm lo up W), .agg (numN d at_)] heapF fun r h' => wpBack h' r fun v => v = .agg (numN d at_) := by
 refine vNodeN nm lo up W d at_ _ ⟨trivial, fun x hx => ?_, fun _ _ => rfl⟩
 obtain ⟨rfl, _⟩ := numF_is hx.is
 rfl
theorem okNN {T : Tab} (O : Ok T) : Ok (T.addC 43 CNodeN) := by
 refine addC_ok O fun args h s hs hp => ?_
 unfold CNodeN at hs
 split at hs
 ·rename_i nm W lo up d at_
  cases hs
  obtain ⟨m, v, h', e, rfl, rfl⟩ := EvP.freshV (g := 43) (args := [.agg (locV nm.data.toList lo.data.toList up.data.toList W), .agg (numN d at_)]) (h := h) okTNode (n := 60) (by kernel_rfl) rfl (args' := [.agg (locV nm.data.toList lo.data.toList up.data.toList W), .agg (numN d at_)]) rfl (wNodeN nm.data.toList lo.data.toList up.data.toList W d at_)
  exact ⟨_, List.mem_singleton.2 rfl, (), m, trivial, e⟩
 ·cases hs
theorem okTNode2 : Ok TNode2 := ok71 (okNN (okC okX))
theorem wNodeB (nm lo up : List UInt8) (W : List (List AV)) (op : List UInt8) (a b p q r : Int) :
  wpCall TNode2 cfg Tryz.prog 60 43 [.agg (locV nm lo up W), .agg (binN op (numN a p) (numN b q) r)] heapF fun s h' => wpBack h' s fun v => (∃ d, nodeF op a b = some d ∧ v = .agg (numN d r)) ∨ (nodeF op a b = none ∧ v = .agg (binN op (numN a p) (numN b q) r)) :=
 vNodeB nm lo up W op a b p q r _ ⟨trivial, fun x hx => .inl ⟨x, hx.is, rfl⟩, fun _ hx => ⟨trivial, fun _ _ => ⟨trivial, fun _ _ => .inr ⟨hx, rfl⟩⟩⟩⟩
theorem okN {T : Tab} (O : Ok T) : Ok (T.addC 43 CNode) := by
 refine addC_ok O fun args h s hs hp => ?_
 unfold CNode at hs
 split at hs
 ·rename_i nm W lo up d at_
  cases hs
  obtain ⟨m, v, h', e, rfl, rfl⟩ := EvP.freshV (g := 43) (args := [.agg (locV nm.data.toList lo.data.toList up.data.toList W), .agg (numN d at_)]) (h := h) okTNode (n := 60) (by kernel_rfl) rfl (args' := [.agg (locV nm.data.toList lo.data.toList up.data.toList W), .agg (numN d at_)]) rfl (wNodeN nm.data.toList lo.data.toList up.data.toList W d at_)
  exact ⟨_, List.mem_singleton.2 rfl, (), m, trivial, e⟩
 ·rename_i nm W lo up op a p b q r
  cases hs
  obtain ⟨m, v, h', e, hv, rfl⟩ := EvP.freshK (g := 43) (args := [.agg (locV nm.data.toList lo.data.toList up.data.toList W), .agg (binN op.data.toList (numN a p) (numN b q) r)]) (h := h) okTNode2 (n := 60) (by kernel_rfl) rfl (args' := [.agg (locV nm.data.toList lo.data.toList up.data.toList W), .agg (binN op.data.toList (numN a p) (numN b q) r)]) rfl (wNodeB nm.data.toList lo.data.toList up.data.toList W op.data.toList a b p q r)
  rcases hv with ⟨d, h1, rfl⟩ | ⟨h1, rfl⟩
  ·exact ⟨_, List.mem_cons_self, d, m, ⟨h1⟩, e⟩
  ·exact ⟨_, List.mem_cons_of_mem _ (List.mem_singleton.2 rfl), (), m, h1, e⟩
 ·cases hs
theorem okNO {T : Tab} (O : Ok T) : Ok (T.addC 43 CNodeO) := by
 refine addC_ok O fun args h s hs hp => ?_
 unfold CNodeO at hs
 split at hs
 ·rename_i nm W lo up op a p b q r
  cases hs
  obtain ⟨m, v, h', e, hv, rfl⟩ := EvP.freshK (g := 43) (args := [.agg (locV nm.data.toList lo.data.toList up.data.toList W), .agg (binN op.data.toList (numN a p) (numN b q) r)]) (h := h) okTNode2 (n := 60) (by kernel_rfl) rfl (args' := [.agg (locV nm.data.toList lo.data.toList up.data.toList W), .agg (binN op.data.toList (numN a p) (numN b q) r)]) rfl (wNodeB nm.data.toList lo.data.toList up.data.toList W op.data.toList a b p q r)
  rcases hv with ⟨d, h1, rfl⟩ | ⟨h1, rfl⟩
  ·rw [hp.n] at h1; cases h1
  ·exact ⟨_, List.mem_singleton.2 rfl, (), m, trivial, e⟩
 ·cases hs
theorem okArO {T : Tab} (O : Ok T) : Ok (T.addC 25 CArO) := by
 refine addC_ok O fun args h s hs hp => ?_
 unfold CArO at hs
 split at hs
 ·rename_i op a b
  cases hs
  obtain ⟨m, v, h', e, hv, rfl⟩ := EvP.freshK (g := 25) (args := [.sc (.string op), .agg (numV a), .agg (numV b)]) (h := h) okTAr2 (n := 60) (by kernel_rfl) rfl (args' := [.sc (.string op), .agg (numV a), .agg (numV b)]) rfl (wAr2 op.data.toList a b hp.2.l hp.2.r)
  rcases hv with ⟨d, h1, rfl⟩ | ⟨d, h1, h2, rfl⟩
  ·rw [hp.1.a] at h1; cases h1
  ·exact ⟨_, List.mem_singleton.2 rfl, d, m, ⟨rfl, h2⟩, e⟩
 ·cases hs
theorem wSameN (d p e q : Int) : wpCall tabX cfg Tryz.prog 60 14 [.agg (numN d p), .agg (numN e q)] heapF fun r h' => wpBack h' r fun v => v = bA (decide (d = e) && decide (p = q)) := by
 refine vSameN d p e q _ (iti (fun h1 => iti (fun h2 => ?_) (fun h2 => ?_)) (fun h1 => ?_))
 ·have h1 : d = e := by simpa using h1
  have h2 : p = q := by simpa using h2
  rw [dt h1, dt h2]; rfl
 ·have h2 : ¬ p = q := by simpa using h2
  rw [df h2, Bool.and_false]; rfl
 ·have h1 : ¬ d = e := by simpa using h1
  rw [df h1, Bool.false_and]; rfl
theorem okSN {T : Tab} (O : Ok T) : Ok (T.addC 14 CSameN) := by
 refine addC_ok O fun args h s hs hp => ?_
 unfold CSameN at hs
 split at hs
 ·rename_i d p e q
  exact nspec_ok (Option.some.inj hs) (fun _ => EvP.freshV okX (n := 60) (by kernel_rfl) rfl (args' := [.agg (numN d p), .agg (numN e q)]) rfl (wSameN d p e q)) hp
 ·cases hs
theorem okS {T : Tab} (O : Ok T) : Ok (T.addC 14 CSame) := by
 refine addC_ok O fun args h s hs hp => ?_
 unfold CSame at hs
 split at hs
 ·rename_i op a p b q r op' a' p' b' q' r'
  cases hs
  obtain ⟨m, v, h', e, rfl, rfl⟩ := EvP.freshV (g := 14) (args := [.agg (binN op.data.toList (numN a p) (numN b q) r), .agg (binN op'.data.toList (numN a' p') (numN b' q') r')]) (h := h) (v := bA true) (okSN okX) (n := 60) (by kernel_rfl) rfl (args' := [.agg (binN op.data.toList (numN a p) (numN b q) r), .agg (binN op'.data.toList (numN a' p') (numN b' q') r')]) rfl
   (vSameB op.data.toList op'.data.toList a a' b b' p p' q q' r r' _ (it (dt hp.op) (it (by simpa using hp.r) ⟨trivial, fun x hx => it (by rw [hx, dt hp.a, dt hp.p]; rfl) ⟨trivial, fun y hy => it (by rw [hy, dt hp.b, dt hp.q]; rfl) rfl⟩⟩)))
  exact ⟨_, List.mem_singleton.2 rfl, (), m, trivial, e⟩
 ·rename_i d p e q
  exact nspec_ok (Option.some.inj hs) (fun _ => EvP.freshV okX (n := 60) (by kernel_rfl) rfl (args' := [.agg (numN d p), .agg (numN e q)]) rfl (wSameN d p e q)) hp
 ·cases hs
  exact hp.f.elim
theorem ok10 {T : Tab} (O : Ok T) : Ok (T.addC 10 CTrue) := by
 refine addC_ok O fun args h s hs hp => ?_
 unfold CTrue at hs
 split at hs
 ·cases hs
  obtain ⟨h', e⟩ := yes_spec awake_ev
  refine ⟨_, List.mem_singleton.2 rfl, (), 1000, trivial, ?_⟩
  have hf : cfg.fresh 10 = true := by kernel_rfl
  unfold callP
  rw [show cfg.prim 10 = none from rfl]
  simp only []
  rw [hf]
  simp only [cond_true]
  rw [show mapO (stripA 8) ([] : List AV) = some [] from rfl]
  simp only []
  rw [e]
  rfl
 ·cases hs
def isLoc : Option (AV × Heap) → Bool
 | some (.agg [.sc (.string _), .sl _ 0, .sc (.string _), .sc (.string _), .sc (.slice none 0 0), .sc (.slice none 0 0)], _) => true
 | _ => false
theorem loc_ev : isLoc (callP cfg (evCall cfg Tryz.prog 400) 21 [] heapF) = true := by kernel_rfl
theorem ok21 {T : Tab} (O : Ok T) : Ok (T.addC 21 CDef) := by
 refine addC_ok O fun args h s hs hp => ?_
 unfold CDef at hs
 split at hs
 ·cases hs
  have hl := loc_ev
  have hf : cfg.fresh 21 = true := by kernel_rfl
  unfold isLoc at hl
  split at hl
  ·rename_i nm W lo up h1 e
   refine ⟨_, List.mem_singleton.2 rfl, (nm.data.toList, lo.data.toList, up.data.toList, W), 400, trivial, ?_⟩
   unfold callP at e ⊢
   rw [show cfg.prim 21 = none from rfl] at e ⊢
   simp only [] at e ⊢
   rw [hf] at e ⊢
   simp only [cond_true] at e ⊢
   rw [show mapO (stripA 8) ([] : List AV) = some [] from rfl] at e ⊢
   simp only [] at e ⊢
   split at e
   ·split at e
    ·cases e
     rfl
    ·cases e
   ·cases e
  ·cases hl
 ·cases hs
theorem okTLaw : Ok TLaw := ok26 (okS (ok21 (ar_ok (ok10 (okC (okN okX))) okTAr2 (by kernel_rfl) wAr2)))
theorem okTLawO : Ok TLawO := ok26 (okS (ok21 (okArO (ok10 (okNO okX)))))
end
end Go.Proofs.Sf
