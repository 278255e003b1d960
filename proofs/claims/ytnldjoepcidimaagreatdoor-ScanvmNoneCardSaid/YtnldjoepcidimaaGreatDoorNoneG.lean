/- A part of the proof: definitions and lemmas. -/
import Derived.Test.YtnldjoepcidimaaGreatDoorNoneA
import Derived.Test.YtnldjoepcidimaaGreatDoorNoneB
import Derived.Test.YtnldjoepcidimaaGreatDoorNoneC
import Derived.Test.YtnldjoepcidimaaGreatDoorNoneD
import Derived.Test.YtnldjoepcidimaaGreatDoorNoneE
import Derived.Test.YtnldjoepcidimaaGreatDoorNoneF
namespace Go.Ef
open Go
noncomputable section
section
variable {P : Program} {C : Cfg} {E : Ent} {L : List Nat} {μ : M} {σ : St} {a : Act} {w : World}
def Dk (d : TypeDesc) (p q : AV × AV) : Prop := ∃ k k', p.1 = .sc k ∧ q.1 = .sc k' ∧ keyB d k = true ∧ keyB d k' = true ∧ differ d k k' = true
theorem differ_symm {d : TypeDesc} {a b : Value} (ha : keyB d a = true) (hb : keyB d b = true) (h : differ d a b = true) : differ d b a = true := by
 have e := differ_ok h
 obtain ⟨r, hr, hi⟩ := MapKept.sameNow_of_keys (keyB_ok ha) (keyB_ok hb)
 obtain ⟨r', hr', hi'⟩ := MapKept.sameNow_of_keys (keyB_ok hb) (keyB_ok ha)
 rw [hr] at e
 cases e
 unfold differ
 rw [hr']
 cases r' with
 | false => rfl
 | true => exact absurd (hi.2 (hi'.1 rfl).symm) (by decide)
theorem Dk.symm {d : TypeDesc} {p q : AV × AV} (h : Dk d p q) : Dk d q p := by
 obtain ⟨k, k', e1, e2, b1, b2, e3⟩ := h
 exact ⟨k', k, e2, e1, b2, b1, differ_symm b1 b2 e3⟩
theorem fresh_keys {d : TypeDesc} : ∀ {es : List (AV × AV)} {old : List Value}, freshKeys d old es = true → ∀ p ∈ es, ∃ k, p.1 = .sc k ∧ keyB d k = true ∧ ∀ o ∈ old, differ d k o = true := by
 intro es
 induction es with
 | nil => intro old _ p hp; cases hp
 | cons q r ih =>
  intro old h p hp
  obtain ⟨k, v⟩ := q
  cases k <;> simp only [freshKeys, Bool.false_eq_true] at h
  rename_i kv
  cases hb : keyB d kv && old.all (differ d kv) with
  | false => rw [hb] at h; cases h
  | true =>
   rw [hb] at h
   rw [Bool.and_eq_true] at hb
   rcases List.mem_cons.1 hp with rfl | hp
   ·exact ⟨kv, rfl, hb.1, fun o ho => List.all_eq_true.1 hb.2 o ho⟩
   ·obtain ⟨k', e1, e2, e3⟩ := ih h p hp
    exact ⟨k', e1, e2, fun o ho => e3 o (by simp [ho])⟩
theorem fresh_pw {d : TypeDesc} : ∀ {es : List (AV × AV)} {old : List Value}, freshKeys d old es = true → es.Pairwise (Dk d) := by
 intro es
 induction es with
 | nil => intro old _; exact .nil
 | cons q r ih =>
  intro old h
  obtain ⟨k, v⟩ := q
  cases k <;> simp only [freshKeys, Bool.false_eq_true] at h
  rename_i kv
  cases hb : keyB d kv && old.all (differ d kv) with
  | false => rw [hb] at h; cases h
  | true =>
   rw [hb] at h
   replace h : freshKeys d (kv :: old) r = true := h
   refine .cons (fun p hp => ?_) (ih h)
   obtain ⟨k', e1, e2, e3⟩ := fresh_keys h p hp
   rw [Bool.and_eq_true] at hb
   have D : Dk d p (AV.sc kv, v) := ⟨k', kv, e1, rfl, e2, hb.1, e3 kv (by simp)⟩
   exact D.symm
theorem new_key {d : TypeDesc} {g : AV → AV} {es0 es fs : List (AV × AV)} (hpw : (es0 ++ es).Pairwise (Dk d)) (hf : fs.Perm es) {vi : List Nat} {i : Nat} (hi : i ∉ vi) {kv : Value} {v : AV} (h : fs[i]? = some (.sc kv, v)) :
  ∀ p ∈ es0 ++ ents (came g fs vi), ∃ k', p.1 = .sc k' ∧ differ d kv k' = true := by
 rw [List.pairwise_append] at hpw
 obtain ⟨_, h2, h3⟩ := hpw
 have hfs : fs.Pairwise (Dk d) := (hf.pairwise_iff (fun x => Dk.symm x)).2 h2
 intro p hp
 rcases List.mem_append.1 hp with hp | hp
 ·obtain ⟨k, k', e1, e2, b1, b2, e3⟩ := h3 p hp (.sc kv, v) (hf.mem_iff.1 (List.mem_of_getElem? h))
  cases e2
  exact ⟨k, e1, differ_symm b1 b2 e3⟩
 ·unfold ents came at hp
  obtain ⟨q, hq, rfl⟩ := List.mem_map.1 hp
  obtain ⟨j, hj, hq⟩ := List.mem_filterMap.1 hq
  cases hfj : fs[j]? with
  | none => rw [hfj] at hq; cases hq
  | some r =>
   rw [hfj] at hq
   simp only [Option.map_some, Option.some.injEq] at hq
   subst hq
   have hne : i ≠ j := fun e => hi (e ▸ hj)
   have D : Dk d (.sc kv, v) r := by
    obtain ⟨a1, b1⟩ := List.getElem?_eq_some_iff.1 h
    obtain ⟨a2, b2⟩ := List.getElem?_eq_some_iff.1 hfj
    rcases Nat.lt_or_gt_of_ne hne with l | l
    ·have := List.pairwise_iff_getElem.1 hfs i j a1 a2 l
     rwa [b1, b2] at this
    ·have := List.pairwise_iff_getElem.1 hfs j i a2 a1 l
     rw [b1, b2] at this
     exact this.symm
   obtain ⟨k, k', e1, e2, _, _, e3⟩ := D
   cases e1
   refine ⟨k', ?_, e3⟩
   show AV.sc (keyV r.1) = _
   rw [e2]; rfl
theorem ents_keys {d : TypeDesc} {g : AV → AV} {es0 es fs : List (AV × AV)} (hk : ∀ p ∈ es0 ++ es, ∃ k, p.1 = .sc k ∧ keyB d k = true) (hf : fs.Perm es) (vi : List Nat) : ∀ p ∈ es0 ++ ents (came g fs vi), ∃ k, p.1 = .sc k ∧ keyB d k = true := by
 intro p hp
 rcases List.mem_append.1 hp with hp | hp
 ·exact hk p (by simp [hp])
 ·unfold ents came at hp
  obtain ⟨q, hq, rfl⟩ := List.mem_map.1 hp
  obtain ⟨j, hj, hq⟩ := List.mem_filterMap.1 hq
  cases hfj : fs[j]? with
  | none => rw [hfj] at hq; cases hq
  | some r =>
   rw [hfj] at hq
   simp only [Option.map_some, Option.some.injEq] at hq
   subst hq
   obtain ⟨k, e1, e2⟩ := hk r (by simp [hf.mem_iff.1 (List.mem_of_getElem? hfj)])
   refine ⟨k, ?_, e2⟩
   show AV.sc (keyV r.1) = _
   rw [e1]; rfl
theorem fill_loop (F : Fit P C) {f n : Nat} {kb kx iN iE c : Nat} {oN oE : Oper} {lN lE : List Oper} {opsN opsE : Array Oper} {body : Code} {x : Operand} {rb ri clk : Nat} {m : Array MapEntry} {fs es es0 : List (AV × AV)} {base : Heap → List LObj → St} {hd fin : List Nat} {hh : Heap} {t mp off : Nat} {cs : List AV} {d : TypeDesc} {g : AV → AV} {okV : AV → Bool}
  {Q : Exit → Act → World → Prop} (eN : opsN.toList = oN :: lN) (gN : oN.guard = none) (pN : oN.op = .next x false) (eE : opsE.toList = oE :: lE) (gE : oE.guard = none) (pE : oE.op = .entry x)
  (born : Born m clk) (hm : m.size = fs.length) (okB : codeOk C P f body = true) (hf : fs.Perm es) (hes : es ≠ []) (Lt : Live hh t (.map es0)) (Lm : Live hh mp (.cells cs)) (hoff : cs[off]? = some (.mp t)) (keys : freshKeys d [] (es0 ++ es) = true) (hv : es.all (fun p => okV p.2) = true)
  (bx : ∀ h loc, (base h loc).slot x = some (.lp 1 0)) (bl : ∀ h loc, (base h loc).loc = loc) (bb : ∀ h h' loc loc', { base h loc with h := h', loc := loc' } = base h' loc')
  (stop : ∀ h loc, ∃ σ1 σ2, (base h loc).put oN.dst (.v (.tup [.sc (.bool false)])) = some σ1 ∧ evOps C P (callWith C P (evCode C P n)) f opsN lN σ1 = some σ2 ∧ σ2.val (.tmp c) = some (.sc (.bool false)) ∧ σ2.tidy fin 0 = (base h []).tidy fin 0)
  (go : ∀ h loc kv v, okV v = true → ∃ σ1 σ2 σ3 σ4, (base h loc).put oN.dst (.v (.tup [.sc (.bool true), .sc kv, v])) = some σ1 ∧ evOps C P (callWith C P (evCode C P n)) f opsN lN σ1 = some σ2 ∧ σ2.val (.tmp c) = some (.sc (.bool true)) ∧
   σ2.slot x = some (.lp 1 0) ∧ σ2.loc = loc ∧ σ2.put oE.dst (.v (.tup [.sc kv, v])) = some σ3 ∧ evOps C P (callWith C P (evCode C P n)) f opsE lE σ3 = some σ4 ∧
   (keyB d kv = true → isMp h mp off = true → mapNew h (mpIdIn h mp off) d kv = true → Ev C P f body σ4 fun e τ => e = .normal ∧ ∀ loc', loc = loc' → loc'.length = 2 → τ.tidy hd 2 = base (mapAdd h (mpIdIn h mp off) kv (g v)) loc'))
  (hq : ∀ L μ a w, Rel C E L μ ((base (addAll hh t (es.map (entV g))) []).tidy fin 0) a w → Q (.exit kx) a w)
  (R : Rel C E L μ (base hh [.raw rb (.map m clk) fs, .raw ri (.mapIter (some rb) clk #[] clk) []]) a w) :
  (Code.loop (.seq (.region iN opsN false) (.seq (.cond (.tmp c) .skip (.exit kx)) (.block kb (.seq (.region iE opsE false) body))))).wp P Q a w := by
 have hpw := fresh_pw keys
 have hk : ∀ p ∈ es0 ++ es, ∃ k, p.1 = .sc k ∧ keyB d k = true := fun p hp => let ⟨k, e1, e2, _⟩ := fresh_keys keys p hp; ⟨k, e1, e2⟩
 have hne : t ≠ mp := by
  intro e
  subst e
  have := Lt.get
  rw [Lm.get] at this
  cases this
 let S : List Nat → St := fun vi => base (addAll hh t (came g fs vi)) [.raw rb (.map m clk) fs, .raw ri (.mapIter (some rb) clk (seenOf m vi) clk) []]
 refine range_loop (f := f) (n := n) (S := S) (ki := 1) (ka := 0) (hd := hd) (nl := 2) (rb := rb) (ri := ri) (clk := clk) (m := m) (fs := fs) F eN gN pN eE gE pE born hm okB (fun vi => bx _ _) (fun vi => by show (base _ _).loc[1]? = _; rw [bl]; rfl) (fun vi => by show (base _ _).loc[0]? = _; rw [bl]; rfl) (by decide) ?_ ?_ R
 ·intro vi hn hvi ha
  obtain ⟨σ1, σ2, p1, p2, p3, p4⟩ := stop (addAll hh t (came g fs vi)) [.raw rb (.map m clk) fs, .raw ri (.mapIter (some rb) clk (seenOf m vi) clk) []]
  refine ⟨σ1, σ2, p1, p2, p3, fun L μ a w R => ?_⟩
  have R1 := tidy_rel R fin 0
  rw [p4] at R1
  have hp : (came g fs vi).Perm (es.map (entV g)) := came_perm (by rw [← hm]; exact perm_range hn hvi ha) hf
  have hT : ∀ h h', (base h' []).tidy fin 0 = { (base h []).tidy fin 0 with h := h' } := by
   intro h h'
   rw [← bb h h' [] []]; rfl
  rw [hT hh] at R1
  have R2 := Rel.addPerm Lt hp (by simpa using hes) R1
  rw [← hT hh] at R2
  exact hq _ _ _ _ R2
 ·intro vi i k v hn hvi hi hni hfi
  have hmem := hf.mem_iff.1 (List.mem_of_getElem? hfi)
  obtain ⟨kv, e1, e2⟩ := hk (k, v) (by simp [hmem])
  simp only at e1
  subst e1
  have hok := List.all_eq_true.1 hv _ hmem
  have ht : took (S vi) 1 ri rb clk m vi i = base (addAll hh t (came g fs vi)) [.raw rb (.map m clk) fs, .raw ri (.mapIter (some rb) clk (seenOf m (vi ++ [i])) clk) []] := by
   have e3 : (S vi).loc = [.raw rb (.map m clk) fs, .raw ri (.mapIter (some rb) clk (seenOf m vi) clk) []] := bl _ _
   have e4 : (S vi).h = addAll hh t (came g fs vi) := (congrArg St.h (bb hh (addAll hh t (came g fs vi)) [] [.raw rb (.map m clk) fs, .raw ri (.mapIter (some rb) clk (seenOf m vi) clk) []])).symm
   have key : ∀ (τ : St) (H : Heap) (LL : List LObj), τ.h = H → ({ τ with loc := LL } : St) = { τ with h := H, loc := LL } := by
    intro τ H LL e
    subst e; rfl
   unfold took
   rw [e3, key (S vi) _ _ e4]
   exact bb _ _ _ _
  obtain ⟨σ1, σ2, σ3, σ4, p1, p2, p3, p4, p5, p6, p7, p8⟩ := go (addAll hh t (came g fs vi)) [.raw rb (.map m clk) fs, .raw ri (.mapIter (some rb) clk (seenOf m (vi ++ [i])) clk) []] kv v hok
  have Lt' := addAll_live Lt (came g fs vi)
  have Lm' := addAll_other Lt Lm hne (came g fs vi)
  have c1 : cellIn (addAll hh t (came g fs vi)) mp off = some (.mp t) := by rw [Lm'.cell]; exact hoff
  have c2 : isMp (addAll hh t (came g fs vi)) mp off = true := by unfold isMp; rw [c1]
  have c3 : mpIdIn (addAll hh t (came g fs vi)) mp off = t := by unfold mpIdIn; rw [c1]
  have c4 : mapNew (addAll hh t (came g fs vi)) t d kv = true := mapNew_ok Lt' (allKeys_of (ents_keys hk hf vi)) (noKey_of (new_key hpw hf hni hfi))
  rw [c3] at p8
  refine ⟨σ1, σ2, σ3, σ4, by rw [ht]; exact p1, p2, p3, p4, by rw [ht, bl]; exact p5, p6, p7, ?_⟩
  obtain ⟨mm, e, τ, q1, q2, q3⟩ := p8 e2 c2 c4
  refine ⟨mm, e, τ, q1, q2, ?_⟩
  rw [q3 _ rfl rfl]
  show _ = base (addAll hh t (came g fs (vi ++ [i]))) _
  rw [came_snoc hfi, addAll_snoc]; rfl
end
end
end Go.Ef
namespace Go.Ef
open Go
noncomputable section
def slotsT (l : List (Nat × Slot)) : Tr Slot := List.rec (motive := fun _ => Tr Slot) .leaf (fun p _ ih => ih.set p.1 p.2) l
theorem keep_slots (σ : St) (m : Nat) : ∀ l : List Nat, keepTm σ m l = slotsT (l.map fun t => (t, (σ.at t).keep m))
 | [] => rfl
 | t :: l => by
  show (keepTm σ m l).set t _ = (slotsT (l.map _)).set t _
  rw [keep_slots σ m l]
def baseF (nn y dR : Nat) (keep : List Nat) (mp : Nat) (s : Nat → Slot) (h : Heap) (loc : List LObj) : St :=
 { n := nn, tm := slotsT ((y, .v (.ptr mp 0)) :: (dR, .lp 1 0) :: keep.map fun t => (t, s t)), d := .unk, loc := loc, h := h }
section
variable {P : Program} {C : Cfg} {E : Ent} {L : List Nat} {μ : M} {σ : St} {a : Act} {w : World}
theorem at_of_val {t : Nat} {v : AV} (h : σ.val (.tmp t) = some v) : σ.at t = .v v := by
 unfold St.val St.slot at h
 unfold St.at
 cases hb : Nat.ble σ.n t with
 | true => simp [hb] at h
 | false =>
  simp only [hb, cond_false] at h
  cases hg : σ.tm.get t with
  | some s =>
   rw [hg] at h
   simp only [] at h ⊢
   cases s with
   | v u => simp only [Option.some.injEq] at h; rw [h]
   | lp k o => cases h
   | unk => cases h
  | none =>
   rw [hg] at h
   simp only [] at h ⊢
   cases hd : σ.d with
   | v u => rw [hd] at h; simp only [Option.some.injEq] at h; rw [h]
   | lp k o => rw [hd] at h; cases h
   | unk => rw [hd] at h; cases h
theorem Slot.keep_keep (s : Slot) (m k : Nat) (h : k ≤ m) : (s.keep m).keep k = s.keep k := by
 cases s with
 | v a => rfl
 | unk => rfl
 | lp i o =>
  show (match (bif Nat.blt i m then Slot.lp i o else .unk) with
   | .lp j off => bif Nat.blt j k then Slot.lp j off else .unk
   | s => s) = bif Nat.blt i k then Slot.lp i o else .unk
  cases h1 : Nat.blt i m with
  | true => rfl
  | false =>
   simp only [cond_false]
   cases h2 : Nat.blt i k with
   | false => rfl
   | true =>
    have : i < k := Nat.le_of_ble_eq_true h2
    rw [show Nat.blt i m = true from Nat.ble_eq_true_of_le (by omega)] at h1
    cases h1
theorem fillS_wp (F : Fit P C) {n f nn iR iN iE k0 kb c yN dR kt et tt : Nat} {opsR opsN opsE : Array Oper} {oR oN oE : Oper} {lN lE : List Oper} {body : Code} {x : Operand} {off : Nat} {d : TypeDesc} {g : AV → AV} {okV : AV → Bool} {pre keep keep' : List Nat} {τ : St} {Q : Exit → Act → World → Prop}
  (hσ : fillS C P n f nn opsR x (.tmp yN) off d g okV pre keep σ = some τ) (R : Rel C E L μ σ a w)
  (eR : opsR.toList = opsR.toList.dropLast ++ [oR]) (gR : oR.guard = none) (pR : oR.op = .range tt x) (qR : oR.dst = some dR) (ht : P.underlying tt = some (.map kt et)) (hd : dR < nn) (hy : yN ≠ dR) (hk : dR ∉ keep)
  (eN : opsN.toList = oN :: lN) (gN : oN.guard = none) (pN : oN.op = .next (.tmp dR) false) (eE : opsE.toList = oE :: lE) (gE : oE.guard = none) (pE : oE.op = .entry (.tmp dR)) (okB : codeOk C P f body = true) (hk' : keep' = keep.filter fun t => !Nat.beq t yN)
  (bx : ∀ mp s h loc, (baseF nn yN dR keep' mp s h loc).slot (.tmp dR) = some (.lp 1 0))
  (stop : ∀ mp s h loc, ∃ σ1 σ2, (baseF nn yN dR keep' mp s h loc).put oN.dst (.v (.tup [.sc (.bool false)])) = some σ1 ∧ evOps C P (callWith C P (evCode C P n)) f opsN lN σ1 = some σ2 ∧ σ2.val (.tmp c) = some (.sc (.bool false)) ∧ σ2.tidy keep 0 = (baseF nn yN dR keep' mp s h []).tidy keep 0)
  (go : ∀ mp s h loc kv v, okV v = true → ∃ σ1 σ2 σ3 σ4, (baseF nn yN dR keep' mp s h loc).put oN.dst (.v (.tup [.sc (.bool true), .sc kv, v])) = some σ1 ∧ evOps C P (callWith C P (evCode C P n)) f opsN lN σ1 = some σ2 ∧ σ2.val (.tmp c) = some (.sc (.bool true)) ∧
   σ2.slot (.tmp dR) = some (.lp 1 0) ∧ σ2.loc = loc ∧ σ2.put oE.dst (.v (.tup [.sc kv, v])) = some σ3 ∧ evOps C P (callWith C P (evCode C P n)) f opsE lE σ3 = some σ4 ∧
   (keyB d kv = true → isMp h mp off = true → mapNew h (mpIdIn h mp off) d kv = true → Ev C P f body σ4 fun e τ => e = .normal ∧ ∀ loc', loc = loc' → loc'.length = 2 → τ.tidy (yN :: dR :: keep') 2 = baseF nn yN dR keep' mp (fun t => (s t).keep 2) (mapAdd h (mpIdIn h mp off) kv (g v)) loc'))
  (fin : ∀ mp s h, (∀ t, (s t) = (s t).keep 2) → (baseF nn yN dR keep' mp s h []).tidy keep 0 = { n := nn, tm := slotsT (keep.map fun t => (t, bif Nat.beq t yN then Slot.v (.ptr mp 0) else (s t).keep 0)), d := .unk, loc := [], h := h })
  (hq : ∀ L μ a w, Rel C E L μ τ a w → Q .normal a w) :
  (Code.seq (.region iR opsR false) (.block k0 (.loop (.seq (.region iN opsN false) (.seq (.cond (.tmp c) .skip (.exit k0)) (.block kb (.seq (.region iE opsE false) body))))))).wp P Q a w := by
 have R0 := tidy_rel R pre 0
 unfold fillS at hσ
 split at hσ
 ·rename_i σ1 h1
  obtain ⟨hb, hσ⟩ := cond_some hσ
  rw [Bool.and_eq_true] at hb
  have hn : σ1.n = nn := Nat.eq_of_beq_eq_true hb.1
  have hl : σ1.loc = [] := List.isEmpty_iff.1 hb.2
  split at hσ
  ·rename_i src mm t hx hm
   split at hσ
   ·rename_i h2 hf
    cases hσ
    unfold mapCell at hm
    split at hm
    ·rename_i mp hy1
     split at hm
     ·rename_i cs hcs
      split at hm
      ·rename_i t' hoff
       obtain ⟨hro, hm⟩ := cond_some hm
       cases hm
       unfold fillH at hf
       split at hf
       ·rename_i es es0 hsrc htg
        obtain ⟨hb2, hf⟩ := cond_some hf
        simp only [Bool.and_eq_true, Bool.not_eq_true'] at hb2
        obtain ⟨⟨⟨hne, hes⟩, hkeys, hv⟩, hro2⟩ := hb2
        split at hf
        ·rename_i hh hput
         have ne1 : src ≠ t := fun e => by rw [e, Nat.beq_refl] at hne; cases hne
         have ne2 : src ≠ mm := fun e => by rw [e, hcs] at hsrc; cases hsrc
         have lv : ∀ {i : Nat} {o : AObj}, σ1.h.get i = some o → src ≠ i → Nat.ble σ1.h.ro i = true → Live hh i o := fun {i o} hg hn hr => ⟨by rw [put_get hput, if_neg hn]; exact hg, by rw [(put_rest hput).1]; exact Nat.le_of_ble_eq_true hr⟩
         have Lt := lv htg ne1 hro2
         have Lm := lv hcs ne2 hro
         have hys := at_of_val hy1
         refine wp_seq (range_region (f := f) (n := n) F eR gR R0 h1 pR hx ht hsrc hput (fun loc => ?_) ?_)
         ·rw [qR]
          show ∃ σ2, (bif Nat.ble σ1.n dR then none else some _) = some σ2
          rw [hn]
          cases hbb : Nat.ble nn dR with
          | true => have := Nat.le_of_ble_eq_true hbb; omega
          | false => exact ⟨_, rfl⟩
         ·intro b m clk fs ri σ2 L' μ' a' w' f1 f2 f3 hp2 R'
          rw [qR] at hp2
          replace hp2 : (bif Nat.ble σ1.n dR then none else some (({ σ1 with h := hh, loc := σ1.loc ++ [.raw b (.map m clk) fs] ++ [.raw ri (.mapIter (some b) clk #[] clk) []] } : St).setTm (σ1.tm.set dR (.lp (σ1.loc.length + 1) 0)))) = some σ2 := hp2
          cases hbb : Nat.ble σ1.n dR with
          | true => rw [hbb] at hp2; cases hp2
          | false =>
           rw [hbb] at hp2
           cases hp2
           have R2 := tidy_rel R' (yN :: dR :: keep') 2
           have hat : ∀ t, t ≠ dR → (({ σ1 with h := hh, loc := σ1.loc ++ [.raw b (.map m clk) fs] ++ [.raw ri (.mapIter (some b) clk #[] clk) []] } : St).setTm (σ1.tm.set dR (.lp (σ1.loc.length + 1) 0))).at t = σ1.at t := by
            intro t hne
            show (match (σ1.tm.set dR (.lp (σ1.loc.length + 1) 0)).get t with | some s => s | none => σ1.d) = _
            rw [Tr.get_set, if_neg (Ne.symm hne)]; rfl
           have hatd : (({ σ1 with h := hh, loc := σ1.loc ++ [.raw b (.map m clk) fs] ++ [.raw ri (.mapIter (some b) clk #[] clk) []] } : St).setTm (σ1.tm.set dR (.lp (σ1.loc.length + 1) 0))).at dR = .lp 1 0 := by
            show (match (σ1.tm.set dR (.lp (σ1.loc.length + 1) 0)).get dR with | some s => s | none => σ1.d) = _
            rw [Tr.get_set, if_pos rfl, hl]; rfl
           have eB : (({ σ1 with h := hh, loc := σ1.loc ++ [.raw b (.map m clk) fs] ++ [.raw ri (.mapIter (some b) clk #[] clk) []] } : St).setTm (σ1.tm.set dR (.lp (σ1.loc.length + 1) 0))).tidy (yN :: dR :: keep') 2 = baseF nn yN dR keep' mm (fun t => (σ1.at t).keep 2) hh [.raw b (.map m clk) fs, .raw ri (.mapIter (some b) clk #[] clk) []] := by
            unfold St.tidy baseF
            rw [keep_slots]
            simp only [List.map_cons]
            rw [hat yN hy, hys, hatd]
            have : keep'.map (fun t => (t, ((({ σ1 with h := hh, loc := σ1.loc ++ [.raw b (.map m clk) fs] ++ [.raw ri (.mapIter (some b) clk #[] clk) []] } : St).setTm (σ1.tm.set dR (.lp (σ1.loc.length + 1) 0))).at t).keep 2)) = keep'.map fun t => (t, (σ1.at t).keep 2) := by
             refine List.map_congr_left fun t ht' => ?_
             have : t ≠ dR := by
              rintro rfl
              rw [hk'] at ht'
              exact hk (List.mem_filter.1 ht').1
             rw [hat t this]
            rw [this]
            show St.mk σ1.n _ _ (List.take 2 (σ1.loc ++ [LObj.raw b (.map m clk) fs] ++ [LObj.raw ri (.mapIter (some b) clk #[] clk) []])) hh = _
            rw [hl, hn]; rfl
           rw [eB] at R2
           refine wp_block (fill_loop (f := f) (n := n) (base := baseF nn yN dR keep' mm (fun t => (σ1.at t).keep 2)) (hd := yN :: dR :: keep') (fin := keep) (mp := mm) (off := off) (okV := okV) (g := g) (d := d) (es := es) (es0 := es0) (cs := cs) (t := t) F eN gN pN eE gE pE f2 f3 okB f1 (fun e => by rw [e] at hes; cases hes) Lt Lm hoff hkeys hv (bx mm _) (fun _ _ => rfl) (fun _ _ _ _ => rfl) (stop mm _) (fun h loc kv v ho => ?_) (fun L3 μ3 a3 w3 R3 => ?_) R2)
           ·obtain ⟨s1, s2, s3, s4, q1, q2, q3, q4, q5, q6, q7, q8⟩ := go mm (fun t => (σ1.at t).keep 2) h loc kv v ho
            refine ⟨s1, s2, s3, s4, q1, q2, q3, q4, q5, q6, q7, fun k1 k2 k3 => ?_⟩
            obtain ⟨m1, e1, t1, z1, z2, z3⟩ := q8 k1 k2 k3
            refine ⟨m1, e1, t1, z1, z2, fun loc' y1 y2 => ?_⟩
            rw [z3 loc' y1 y2]
            have : (fun t => ((σ1.at t).keep 2).keep 2) = fun t => (σ1.at t).keep 2 := by
             funext t
             exact Slot.keep_keep _ 2 2 (Nat.le_refl _)
            rw [this]
           ·have hh2 : addAll hh t (es.map (entV g)) = h2 := by
             have hne' : es.map (entV g) ≠ [] := by
              intro e
              rw [List.map_eq_nil_iff] at e
              rw [e] at hes; cases hes
             rw [addAll_eq Lt _ hne']
             unfold putIn
             have hen : ents (es.map (entV g)) = es.map fun p => (p.1, g p.2) := by
              unfold ents
              rw [List.map_map]
              refine List.map_congr_left fun p hp => ?_
              obtain ⟨k, e1, _, _⟩ := fresh_keys hkeys p (by simp [hp])
              show (AV.sc (keyV p.1), g p.2) = _
              rw [e1]; rfl
             rw [hen, hf]
            rw [hh2, fin mm _ h2 (fun t => (Slot.keep_keep _ 2 2 (Nat.le_refl _)).symm)] at R3
            have eT : ({ n := nn, tm := slotsT (keep.map fun t => (t, bif Nat.beq t yN then Slot.v (.ptr mm 0) else (((σ1.at t).keep 2)).keep 0)), d := .unk, loc := [], h := h2 } : St) = (σ1.setH h2).tidy keep 0 := by
             show _ = St.mk σ1.n (keepTm (σ1.setH h2) 0 keep) .unk (σ1.loc.take 0) h2
             rw [keep_slots, hn, List.take_zero]
             have : keep.map (fun t => (t, bif Nat.beq t yN then Slot.v (.ptr mm 0) else (((σ1.at t).keep 2)).keep 0)) = keep.map fun t => (t, ((σ1.setH h2).at t).keep 0) := by
              refine List.map_congr_left fun t _ => ?_
              cases ht3 : Nat.beq t yN with
              | true =>
               obtain rfl := Nat.eq_of_beq_eq_true ht3
               show (t, Slot.v (.ptr mm 0)) = (t, (σ1.at t).keep 0)
               rw [hys]; rfl
              | false =>
               show (t, ((σ1.at t).keep 2).keep 0) = (t, (σ1.at t).keep 0)
               rw [Slot.keep_keep _ 2 0 (by decide)]
             rw [this]
            rw [eT] at R3
            have := hq _ _ _ _ R3
            unfold Exit.inBlock
            simpa using this
        ·cases hf
       ·cases hf
      ·cases hm
     ·cases hm
    ·cases hm
   ·cases hσ
  ·cases hσ
 ·cases hσ
end
end
end Go.Ef
namespace Go.Ef
open Go
noncomputable section
section
variable {P : Program} {C C' : Cfg}
structure KnownB (P : Program) (C : Cfg) (g : FuncId) (p : List AV → Heap → Option (AV × Heap)) : Prop where
 body : ∃ fn : Func, P.funcs[g]? = some fn ∧ fn.body.isSome = true
 run : ∀ args h r h', p args h = some (r, h') → ∀ μ w vs, W C μ h w → VLs μ args vs → Calls P g vs w (CallEnd C μ h w r h')
theorem KnownB.known {g : FuncId} {p : List AV → Heap → Option (AV × Heap)} (K : KnownB P C g p) : Known P C g p := .inl ⟨K.body, K.run⟩
end
end
end Go.Ef
namespace Go.Proofs
open Go Go.Ef
noncomputable section
namespace Vm
set_option maxRecDepth 100000
def hdO (ops : Array Oper) : Oper := match ops.toList with
 | o :: _ => o
 | [] => ⟨none, .assign (.const undef), 0, "", #[], none⟩
def lastO (ops : Array Oper) : Oper := match ops.toList.getLast? with
 | some o => o
 | none => ⟨none, .assign (.const undef), 0, "", #[], none⟩
noncomputable def c28 : Code := codeF Tryz.prog 28
noncomputable def R28 : Array Oper := regOps (nthS 1 c28)
noncomputable def lp28 : Code := inLoop (inBlk (dropS 2 c28))
noncomputable def N28 : Array Oper := regOps (nthS 0 lp28)
noncomputable def in28 : Code := inBlk (dropS 2 lp28)
noncomputable def E28 : Array Oper := regOps (nthS 0 in28)
noncomputable def bd28 : Code := dropS 1 in28
noncomputable def B28 : Array Oper := regOps bd28
theorem shape28 : c28 = .seq (nthS 0 c28) (.seq (.region 1 R28 false) (.block 0 (.loop (.seq (.region 2 N28 false) (.seq (.cond (.tmp 111) .skip (.exit 0)) (.block 1 (.seq (.region 3 E28 false) bd28))))))) := by kernel_rfl
theorem shapeB28 : bd28 = .region 4 B28 false := by kernel_rfl
noncomputable def Th : Tab := { tab0 with hv := fun _ => true }
theorem Th_ok : TabOk Tryz.prog cfg0 Th := ⟨tab0_ok.call, tab0_ok.loop⟩
noncomputable def pt (σ : St) (t : Nat) (a : AV) : St := σ.setTm (σ.tm.set t (.v a))
noncomputable def bs28 (mp : Nat) (s : Nat → Slot) (h : Heap) (loc : List LObj) : St := baseF 121 0 109 [] mp s h loc
noncomputable def n28 (σ : St) (kv : Value) (v : AV) : St := pt (pt σ 110 (.tup [.sc (.bool true), .sc kv, v])) 111 (.sc (.bool true))
noncomputable def e28 (σ : St) (kv : Value) (v : AV) : St := pt σ 112 (.tup [.sc kv, v])
noncomputable def g28 (σ : St) (kv : Value) (v : AV) : St := pt (pt (pt (pt σ 113 (.sc kv)) 114 v) 2 (.sc kv)) 3 v
theorem off28 : offM 2 = 12 := by kernel_rfl
theorem body28 (mp : Nat) (s : Nat → Slot) (h : Heap) (r1 r2 : LObj) (n : Int) (f : Fn) (u v : List AV) (e1 : isMp h mp 12 = true) (e2 : mapNew h (mpIdIn h mp 12) keyI (.int .i64 n) = true) :
  wpOpsW Th cfg0 Tryz.prog (wpCall Th cfg0 Tryz.prog 20) 28 B28 B28.toList (g28 (e28 (n28 (bs28 mp s h [r1, r2]) (.int .i64 n) (.fn f u v)) (.int .i64 n) (.fn f u v)) (.int .i64 n) (.fn f u v))
   fun τ => τ.tidy [0, 109] 2 = bs28 mp (fun t => (s t).keep 2) (mapAdd h (mpIdIn h mp 12) (.int .i64 n) (.fn f u v)) [r1, r2] := by
 have k : iteP (isMp h mp 12) (iteP (mapNew h (mpIdIn h mp 12) keyI (.int .i64 n)) (bs28 mp (fun t => (s t).keep 2) (mapAdd h (mpIdIn h mp 12) (.int .i64 n) (.fn f u v)) [r1, r2] = bs28 mp (fun t => (s t).keep 2) (mapAdd h (mpIdIn h mp 12) (.int .i64 n) (.fn f u v)) [r1, r2]) False) False := by
  rw [e1, e2]
  exact (rfl : bs28 mp _ _ _ = _)
 exact Eq.mp (by kernel_rfl) k
theorem ev_region {f id : Nat} {ops : Array Oper} {σ : St} {K : St → Prop} {n : Nat} (h : wpOpsW Th cfg0 Tryz.prog (wpCall Th cfg0 Tryz.prog n) f ops ops.toList σ K) : Ev cfg0 Tryz.prog f (.region id ops false) σ fun e τ => e = .normal ∧ K τ := by
 obtain ⟨m, τ, e1, e2⟩ := ops_okW Th_ok (call_okW Th_ok n) _ _ _ h
 refine ⟨m + 1, .normal, τ, ?_, rfl, e2⟩
 show evReg cfg0 Tryz.prog (callWith cfg0 Tryz.prog (evCode cfg0 Tryz.prog m)) f id ops false σ = _
 unfold evReg
 rw [Bool.false_and]
 simp only [cond_false]
 rw [show evOps cfg0 Tryz.prog (callWith cfg0 Tryz.prog (evCode cfg0 Tryz.prog m)) f ops ops.toList σ = some τ from e1]
theorem ev_piece {C : Cfg} {m f : Nat} {c : Code} {σ σ' : St} (h : normO (evCode C Tryz.prog m f c σ) = some σ') : Ev C Tryz.prog f c σ fun e τ => e = .normal ∧ τ = σ' := by
 unfold normO at h
 split at h
 ·rename_i τ e
  cases h
  exact ⟨m, .normal, σ', e, rfl, rfl⟩
 ·cases h
theorem known28 : KnownB Tryz.prog cfg1 28 p28 := by
 have hb : Tryz.f28.body = some c28 := by kernel_rfl
 refine ⟨⟨Tryz.f28, Tryz.func28, by rw [hb]; rfl⟩, fun args h r h' hx μ w vs H hv => ?_⟩
 have H0 : W cfg0 μ h w := W.of_glob (C := cfg1) (C' := cfg0) rfl rfl H
 unfold p28 at hx
 split at hx
 ·rename_i σ0 hr
  split at hx
  ·rename_i τ hf
   cases hx
   have hr : normO (evCode cfg0 Tryz.prog 20 28 (nthS 0 c28) (entry Tryz.f28 args h)) = some σ0 := by
    have he : entryF Tryz.prog 28 args h = entry Tryz.f28 args h := by unfold entryF; rw [Tryz.func28]; rfl
    rw [he] at hr
    unfold runS at hr
    revert hr
    show (match normO (evCode cfg0 Tryz.prog 20 28 (nthS 0 c28) (entry Tryz.f28 args h)) with
     | some σ' => some σ'
     | none => none) = some σ0 → _
    cases normO (evCode cfg0 Tryz.prog 20 28 (nthS 0 c28) (entry Tryz.f28 args h)) with
    | none => intro e; cases e
    | some x => intro e; exact e
   refine calls_of_code Tryz.func28 hb H0 hv fun a R => ?_
   rw [shape28]
   refine seq_ev fit0 (ev_piece hr) (by kernel_rfl) R fun L1 μ1 a1 w1 R1 => ?_
   refine fillS_wp (x := .tmp 108) (yN := 0) (dR := 109) (kt := 3) (et := 157) (tt := 61) (keep' := []) (oR := lastO R28) (oN := hdO N28) (oE := hdO E28) (lN := N28.toList.tail) (lE := E28.toList.tail) fit0 hf R1 (by kernel_rfl) (by kernel_rfl) (by kernel_rfl) (by kernel_rfl) (by kernel_rfl) (by decide) (by decide) (by decide) (by kernel_rfl) (by kernel_rfl) (by kernel_rfl) (by kernel_rfl) (by kernel_rfl) (by kernel_rfl) (by kernel_rfl) rfl (fun mp s h loc => by kernel_rfl) (fun mp s h loc => ?_) (fun mp s h loc kv v ho => ?_) (fun mp s h _ => by kernel_rfl) fun L2 μ2 a2 w2 R2 => ?_
   ·exact ⟨pt (bs28 mp s h loc) 110 (.tup [.sc (.bool false)]), pt (pt (bs28 mp s h loc) 110 (.tup [.sc (.bool false)])) 111 (.sc (.bool false)), by kernel_rfl, by kernel_rfl, by kernel_rfl, by kernel_rfl⟩
   ·refine ⟨pt (bs28 mp s h loc) 110 (.tup [.sc (.bool true), .sc kv, v]), n28 (bs28 mp s h loc) kv v, e28 (n28 (bs28 mp s h loc) kv v) kv v, g28 (e28 (n28 (bs28 mp s h loc) kv v) kv v) kv v, by kernel_rfl, by kernel_rfl, by kernel_rfl, by kernel_rfl, by kernel_rfl, by kernel_rfl, by kernel_rfl, fun k1 k2 k3 => ?_⟩
    rw [off28] at k2 k3 ⊢
    cases v <;> try (cases ho; done)
    rename_i f u v
    cases kv <;> try (cases k1; done)
    rename_i k n
    have hk : k = .i64 := by simpa [keyI, keyB] using k1
    subst hk
    by_cases hl : loc.length = 2
    ·obtain ⟨r1, r2, rfl⟩ : ∃ r1 r2, loc = [r1, r2] := by
      match loc, hl with
      | [r1, r2], _ => exact ⟨r1, r2, rfl⟩
     rw [shapeB28]
     obtain ⟨m, e, τ, z1, z2, z3⟩ := ev_region (id := 4) (body28 mp s h r1 r2 n f u v k2 k3)
     refine ⟨m, e, τ, z1, z2, fun loc' y1 _ => ?_⟩
     subst y1
     exact z3
    ·obtain ⟨m, e, τ, z1, z2, _⟩ := ev_region (id := 4) (K := fun _ => True) (ops := B28) (n := 20) (σ := g28 (e28 (n28 (bs28 mp s h loc) (.int .i64 n) (.fn f u v)) (.int .i64 n) (.fn f u v)) (.int .i64 n) (.fn f u v)) (f := 28) (by
      have k : iteP (isMp h mp 12) (iteP (mapNew h (mpIdIn h mp 12) keyI (.int .i64 n)) True False) False := by
       rw [k2, k3]; trivial
      exact Eq.mp (by kernel_rfl) k)
     rw [shapeB28]
     exact ⟨m, e, τ, z1, z2, fun loc' y1 y2 => absurd (y1 ▸ y2) hl⟩
   ·refine ⟨.normal, τ, L2, μ2, rfl, R2, _, _, rfl, fun x w' q => CallEnd.of_glob (C := cfg0) (C' := cfg1) rfl rfl q⟩
  ·cases hx
 ·cases hx
end Vm
end
end Go.Proofs
namespace Go.Ef
open Go
noncomputable section
section
variable {C : Cfg} {P : Program} {E : Ent} {call : CallF} {f : FuncId} {ops : Array Oper}
def After (ops : Array Oper) (j i : Nat) : Prop := ∀ m, (masks ops.toList [])[i]? = some m → Nat.testBit m j = true
def afterB (ops : Array Oper) (j i : Nat) : Bool := match (masks ops.toList [])[i]? with
 | some m => Nat.testBit m j
 | none => false
theorem afterB_ok {j i : Nat} (h : afterB ops j i = true) : After ops j i := by
 intro m hm
 unfold afterB at h
 rw [hm] at h
 exact h
theorem masks_len : ∀ (l : List Oper) (acc : List Nat), (masks l acc).length = acc.length + l.length
 | [], acc => rfl
 | o :: r, acc => by
  show (masks r (acc ++ [maskOf acc o])).length = _
  rw [masks_len r]; simp; omega
theorem mask_at {i : Nat} (hi : i < ops.size) : ∃ m, (masks ops.toList [])[i]? = some m := by
 have : i < (masks ops.toList []).length := by rw [masks_len]; simpa using hi
 exact ⟨_, List.getElem?_eq_getElem this⟩
theorem not_ahead {rest : List Nat} {listed : Array Bool} (I : InvB ops rest listed) {i j : Nat} (hi : i ∈ Region.ready .any ops listed) (hj : j ∈ rest) (h : After ops j i) : False := by
 obtain ⟨h1, h2, o, ho, hedge⟩ := ready_mem hi
 obtain ⟨m, hm⟩ := mask_at h1
 have hl := bits_of I ho hedge m hm j (h m hm)
 have hk := (I.mem j).1 hj
 rw [getD_flip (by rw [I.sz]; exact hk.1), hl] at hk
 exact absurd hk.2 (by decide)
theorem any_tail (he : edgesB ops = true) {Q : Exit → Act → World → Prop} : ∀ (s : List Nat) (listed : Array Bool) (a : Act) (w : World), InvB ops s listed → s.Pairwise (After ops) → wpOps P ops Q s a w → wpAny P .any ops Q s.length listed a w := by
 intro s
 induction s with
 | nil =>
  intro listed a w I _ h
  refine ⟨?_, h⟩
  apply List.eq_nil_iff_forall_not_mem.2
  intro i hi
  obtain ⟨h1, h2, _⟩ := ready_mem hi
  have := (I.mem i).2 ⟨h1, h2⟩
  simp at this
 | cons i0 s ih =>
  intro listed a w I hp h
  refine ⟨fun hnil => absurd hnil (ready_ne he I (by simp)), fun i hi => ?_⟩
  obtain ⟨h1, h2, o, ho, hedge⟩ := ready_mem hi
  have hin := (I.mem i).2 ⟨h1, h2⟩
  rw [List.pairwise_cons] at hp
  have e : i = i0 := by
   rcases List.mem_cons.1 hin with e | hs
   ·exact e
   ·exact (not_ahead I hi (by simp) (hp.1 i hs)).elim
  subst e
  rw [wpOps_cons] at h
  exact wpOp_mono (fun a' w' k => ih _ a' w' (I.next (pre := []) (post := s) (bits_of I ho hedge)) hp.2 k) h
theorem any_okT (S : Sane P C) (K : CallOk P C call) (B : Bodied P call) (he : edgesB ops = true) {s : List Nat} {σ1 : St} {Q : Exit → Act → World → Prop} (hs : s.Pairwise (After ops)) (hq : ∀ L' μ' a' w', Rel C E L' μ' σ1 a' w' → wpOps P ops Q s a' w') :
  ∀ (fuel : Nat) (rest : List Nat) (listed : Array Bool) (L : List Nat) (μ : M) (σ : St) (a : Act) (w : World), rest.length = fuel → InvB ops (rest ++ s) listed → rest.Pairwise (OrdOk C P f ops) → (∀ i ∈ s, ∀ j ∈ rest, After ops j i) → Rel C E L μ σ a w → evIx C P call f ops rest σ = some σ1 →
   wpAny P .any ops Q (rest.length + s.length) listed a w := by
 intro fuel
 induction fuel with
 | zero =>
  intro rest listed L μ σ a w hl I _ _ R h
  have : rest = [] := List.eq_nil_of_length_eq_zero hl
  subst this
  simp only [evIx] at h; cases h
  simp only [List.length_nil, Nat.zero_add]
  exact any_tail he s listed a w I hs (hq L μ a w R)
 | succ fuel ih =>
  intro rest listed L μ σ a w hl I hpw ha R h
  have hne : rest ++ s ≠ [] := by intro e; rw [List.append_eq_nil_iff] at e; rw [e.1] at hl; simp at hl
  rw [show rest.length + s.length = (fuel + s.length) + 1 by omega]
  refine ⟨fun hnil => absurd hnil (ready_ne he I hne), fun i hi => ?_⟩
  obtain ⟨h1, h2, o, ho, hedge⟩ := ready_mem hi
  have hin : i ∈ rest := by
   rcases List.mem_append.1 ((I.mem i).2 ⟨h1, h2⟩) with hr | hs'
   ·exact hr
   ·obtain ⟨j, hj⟩ := List.exists_mem_of_ne_nil rest (by intro e; subst e; simp at hl)
    exact (not_ahead I hi (List.mem_append_left s hj) (ha i hs' j hj)).elim
  obtain ⟨pre, post, rfl⟩ := List.append_of_mem hin
  have hbits := bits_of I ho hedge
  have I0 : InvB ops (pre ++ i :: (post ++ s)) listed := by simpa using I
  obtain ⟨σ3, h3, h4⟩ := front ho pre σ σ1 (ahead I0 ho hbits (pw_before hpw)) h
  refine step_ok R S K B ho h3 fun L' μ' a' w' R' => ?_
  have := ih (pre ++ post) (listed.setIfInBounds i true) L' μ' σ3 a' w' (by simp at hl ⊢; omega) (by rw [List.append_assoc]; exact I0.next hbits) (pw_drop hpw) (fun x hx j hj => ha x hx j (by
   rcases List.mem_append.1 hj with q | q
   ·simp [q]
   ·simp [q])) R' h4
  rwa [show (pre ++ post).length + s.length = fuel + s.length by simp at hl ⊢; omega] at this
def pairB (r : Nat → Nat → Bool) : List Nat → Bool
 | [] => true
 | j :: l => l.all (r j) && pairB r l
theorem pairB_ok {r : Nat → Nat → Bool} {R : Nat → Nat → Prop} (h : ∀ j i, r j i = true → R j i) : ∀ {l : List Nat}, pairB r l = true → l.Pairwise R := by
 intro l
 induction l with
 | nil => intro _; exact .nil
 | cons j l ih =>
  intro k
  simp only [pairB, Bool.and_eq_true] at k
  exact .cons (fun i hi => h j i (List.all_eq_true.1 k.1 i hi)) (ih k.2)
def tailOk (C : Cfg) (P : Program) (f : FuncId) (ops : Array Oper) (n : Nat) : Bool :=
 edgesB ops && permB ops.size (List.range n ++ List.range' n (ops.size - n)) && pairB (ordB C P f ops) (List.range n) && pairB (afterB ops) (List.range' n (ops.size - n)) && (List.range' n (ops.size - n)).all fun i => (List.range n).all fun j => afterB ops j i
theorem draw_tail {L : List Nat} {μ : M} {σ : St} {a : Act} {w : World} (R : Rel C E L μ σ a w) {id n : Nat} (S : Sane P C) (K : CallOk P C call) (B : Bodied P call) (hm : P.follows .mixedOrders = true) (ok : tailOk C P f ops n = true) {σ1 : St} (h1 : evIx C P call f ops (List.range n) σ = some σ1)
  {Q : Exit → Act → World → Prop} (hq : ∀ L' μ' a' w', Rel C E L' μ' σ1 a' w' → wpOps P ops Q (List.range' n (ops.size - n)) a' w') : (Code.region id ops true).wp P Q a w := by
 unfold tailOk at ok
 simp only [Bool.and_eq_true] at ok
 obtain ⟨⟨⟨⟨he, hp⟩, o1⟩, o2⟩, o3⟩ := ok
 obtain ⟨hl, I⟩ := permB_ok hp
 have e : (List.range n).length + (List.range' n (ops.size - n)).length = ops.size := by rw [← List.length_append]; exact hl
 have key : ∀ w0, Rel C E L μ σ a w0 → wpAny P .any ops Q ops.size (Array.replicate ops.size false) a w0 := fun w0 R0 => by
  have := any_okT (E := E) S K B he (pairB_ok (fun _ _ => afterB_ok) o2) hq n (List.range n) _ L μ σ a w0 (by simp) I (pairB_ok (fun _ _ => ordB_ok) o1) (fun i hi j hj => afterB_ok (List.all_eq_true.1 (List.all_eq_true.1 o3 i hi) j hj)) R0 h1
  rwa [e] at this
 exact wp_region_any hm (key _ (R.drawn _))
end
end
end Go.Ef
namespace Go.Ef
open Go
noncomputable section
section
variable {P : Program} {C : Cfg} {E : Ent} {L : List Nat} {μ : M} {σ : St} {a : Act} {w : World}
theorem update_core (R : Rel C E L μ σ a w) {t : TypeId} {x i y : Operand} {r : Slot × St} (h : opMapUpdate P σ t x i y = some r) :
  ∃ b m clk k d kt et, a.eval x = .map (some b) ∧ a.eval i = k ∧ P.underlying t = some (.map kt et) ∧ P.underlying kt = some d ∧ MapKept.IsKey d k ∧ w.heap[b]? = some (.map m clk) ∧ Born m clk ∧
   ((Instr.findNow d k m.toList 0 = some none ∧ Rel C E L μ r.2 a { w with heap := w.heap.setIfInBounds b (.map (m.push { key := k, val := a.eval y, born := clk }) (clk + 1)) }) ∨
    ∃ j c e, Instr.findNow d k m.toList 0 = some (some (j, c)) ∧ m[j]? = some e ∧ e.key = k ∧ Rel C E L μ r.2 a { w with heap := w.heap.setIfInBounds b (.map (m.modify j fun e => { e with key := k, val := a.eval y }) clk) }) := by
 unfold opMapUpdate at h
 split at h
 ·rename_i id k v kt et hm hi hy ht
  have ht := mapT_spec ht
  have hx := val_rel R hm
  have hv := val_rel R hy
  generalize hxv : a.eval x = xv at hx
  have hk := V.sc_eq (val_rel R hi)
  split at h
  ·rename_i d hd
   obtain ⟨hkb, h⟩ := cond_some h
   have hkey := keyB_ok hkb
   split at h
   ·rename_i es hg
    obtain ⟨hka, h⟩ := cond_some h
    split at h
    ·rename_i q hf
     split at h
     ·rename_i h' hp
      cases h
      obtain ⟨b, hr, ⟨m', clk, hb, ⟨fs, hpm, hsz, hq⟩, hsc, hnd, hbn⟩, _⟩ := R.world.map id es hg
      have hxb : xv = .map (some b) := by
       cases hx with
       | mp hr' => rw [hr] at hr'; cases hr'; rfl
      subst hxb
      have fin : ∀ (m2 : Array MapEntry) (clk2 : Nat), Ents μ m2 clk2 (setKey es k v q) →
        Rel C E L μ { σ with h := h' } a { w with heap := w.heap.setIfInBounds b (.map m2 clk2) } := by
       intro m2 clk2 hq2
       obtain ⟨h1, h2⟩ := R.world.putMap hg hp hr hb rfl hq2
       exact R.step h2 h1
      obtain ⟨q2, hf2, f1, f2⟩ := findI_mem hkey es 0 hka
      rw [hf] at hf2
      cases hf2
      obtain ⟨q', hf', f3, f4⟩ := findI_mem hkey fs 0 (allKeys_perm hpm hka)
      refine ⟨b, m', clk, k, d, kt, et, rfl, hk, ht, hd, hkey, hb, hbn, ?_⟩
      rcases findI_spec hkey fs m'.toList 0 q' (by simpa using hsz) (fun j x u hj => by simpa using hq j x u hj) hf' with ⟨g1, g2⟩ | ⟨j, c, e, g1, g2, g3, g4⟩
      ·subst g1
       have hno : ∀ v, (AV.sc k, v) ∉ es := fun v hm => f4 rfl v (hpm.mem_iff.2 hm)
       obtain rfl : q = none := by
        cases hqq : q with
        | none => rfl
        | some j =>
         obtain ⟨u, n, _, hn⟩ := f1 j hqq
         exact absurd (List.mem_of_getElem? hn) (hno u)
       refine .inl ⟨g2, fin (m'.push { key := k, val := a.eval y, born := clk }) (clk + 1) ⟨⟨fs ++ [(.sc k, v)], hpm.append_right _, by simp [hsz], ?_⟩, ?_, ?_, hbn.push k (a.eval y)⟩⟩
       ·intro j x u hj
        by_cases hjl : j < fs.length
        ·rw [List.getElem?_append_left hjl] at hj
         obtain ⟨e, he, h3⟩ := hq j x u hj
         exact ⟨e, by rw [Array.getElem?_push, if_neg (by omega)]; exact he, h3⟩
        ·rw [List.getElem?_append_right (by omega)] at hj
         have hj0 : j - fs.length = 0 := by
          cases hz : j - fs.length with
          | zero => rfl
          | succ n => rw [hz] at hj; simp at hj
         rw [hj0] at hj
         simp at hj
         obtain ⟨rfl, rfl⟩ := hj
         exact ⟨_, by rw [Array.getElem?_push, if_pos (by omega)], .sc (keyB_sc hkb), hv⟩
       ·intro p hp
        rcases List.mem_append.1 hp with hp | hp
        ·exact hsc p hp
        ·simp only [List.mem_singleton] at hp; subst hp; exact ⟨k, rfl⟩
       ·show ((es ++ [(AV.sc k, v)]).map Prod.fst).Nodup
        rw [List.map_append, List.nodup_append]
        refine ⟨hnd, by simp, fun a ha b hb => ?_⟩
        simp only [List.map_cons, List.map_nil, List.mem_singleton] at hb
        subst hb
        rintro rfl
        obtain ⟨⟨a1, a2⟩, h1, h2⟩ := List.mem_map.1 ha
        simp only at h2
        subst h2
        exact hno a2 h1
      ·simp only [Nat.zero_add] at g1 g2
       subst g1
       have hj : m'[j]? = some e := by simpa using g3
       obtain ⟨u', n', e1, e2⟩ := f3 j rfl
       obtain rfl : n' = j := by omega
       obtain ⟨j0, rfl⟩ : ∃ j0, q = some j0 := by
        cases hqq : q with
        | some j0 => exact ⟨j0, rfl⟩
        | none => exact absurd (hpm.mem_iff.1 (List.mem_of_getElem? e2)) (f2 hqq u')
       obtain ⟨u0, n0, e3, e4⟩ := f1 j0 rfl
       obtain rfl : n0 = j0 := by omega
       obtain rfl : u' = u0 := fst_inj hnd (hpm.mem_iff.1 (List.mem_of_getElem? e2)) (List.mem_of_getElem? e4)
       have hkeys : ((es.set n0 (AV.sc k, v)).map Prod.fst) = es.map Prod.fst := by
        rw [List.map_set]
        apply List.ext_getElem?
        intro i
        rw [List.getElem?_set]
        split
        ·rename_i hi
         subst hi
         split
         ·rw [List.getElem?_map, e4]; rfl
         ·rename_i hlt
          rw [List.getElem?_eq_none (by omega)]
        ·rfl
       refine .inr ⟨n', c, e, g2, hj, g4, fin (m'.modify n' fun e => { e with key := k, val := a.eval y }) clk ⟨⟨fs.set n' (.sc k, v), set_perm hpm e2 e4, by simp [hsz], ?_⟩, ?_, by show ((es.set n0 (AV.sc k, v)).map Prod.fst).Nodup; rw [hkeys]; exact hnd, hbn.modify n' k (a.eval y)⟩⟩
       ·intro n x u hn
        simp only [List.getElem?_set] at hn
        by_cases hjn : n' = n
        ·subst hjn
         rw [if_pos rfl] at hn
         split at hn
         ·cases hn
          exact ⟨_, by rw [Array.getElem?_modify, if_pos rfl, hj]; rfl, .sc (keyB_sc hkb), hv⟩
         ·cases hn
        ·rw [if_neg hjn] at hn
         obtain ⟨f, hf', h3⟩ := hq n x u hn
         exact ⟨f, by rw [Array.getElem?_modify, if_neg hjn]; exact hf', h3⟩
       ·intro p hp
        have : p.1 ∈ (es.set n0 (AV.sc k, v)).map Prod.fst := List.mem_map_of_mem hp
        rw [hkeys] at this
        obtain ⟨p', h1, h2⟩ := List.mem_map.1 this
        obtain ⟨u, hu⟩ := hsc p' h1
        exact ⟨u, by rw [← h2]; exact hu⟩
     ·cases h
    ·cases h
   ·cases h
  ·cases h
 ·cases h
theorem born_at {m : Array MapEntry} {clk j : Nat} {e : MapEntry} (hb : Born m clk) (hj : m[j]? = some e) : m.findIdx? (fun x => (x.born : Int) == (e.born : Int)) = some j := by
 rw [Array.findIdx?_eq_some_iff_getElem]
 obtain ⟨hlt, he⟩ := Array.getElem?_eq_some_iff.1 hj
 refine ⟨hlt, by rw [he]; simp, fun i hij => ?_⟩
 intro hc
 have h1 : m[i].born = m[j].born := by
  rw [he]
  have := eq_of_beq hc
  omega
 have hi : i < m.size := by omega
 have hnd := hb.nd
 have e1 : (m.toList.map (·.born))[i]'(by simpa using hi) = (m.toList.map (·.born))[j]'(by simpa using hlt) := by simpa using h1
 exact List.pairwise_iff_getElem.1 hnd i j (by simpa using hi) (by simpa using hlt) hij e1
theorem entry_runs (R : Rel C E L μ σ a w) {t : TypeId} {x i y : Operand} {r : Slot × St} (h : opMapUpdate P σ t x i y = some r) (hz : ∀ kt et, P.underlying t = some (.map kt et) → (zeroA P et).isSome = true) :
  ∃ (b : Nat) (w1 w2 : World) (v : Value) (n : Int), a.eval x = .map (some b) ∧ (Instr.mapEntry t (.map (some b)) (a.eval i)).run P w = .ok (.tuple #[v, goInt n]) w1 ∧ (Instr.entryStore t (.map (some b)) (goInt n) (a.eval y)).run P w1 = .ok () w2 ∧ Rel C E L μ r.2 a w2 := by
 obtain ⟨b, m, clk, k, d, kt, et, e1, e2, ht, hd, hkey, hb, born, hor⟩ := update_core R h
 obtain ⟨z, hz⟩ := Option.isSome_iff_exists.1 (hz kt et ht)
 obtain ⟨ti, zv, hi', hzv, _⟩ := zeroA_spec hz
 have lt : b < w.heap.size := heap_lt hb
 rcases hor with ⟨g2, R2⟩ | ⟨j, c, e, g2, hj, hek, R2⟩
 ·refine ⟨b, { w with heap := w.heap.setIfInBounds b (.map (m.push { key := k, val := zv, born := clk }) (clk + 1)) }, _, zv, (clk : Int), e1, ?_, ?_, R2⟩
  ·rw [e2]
   simp [Instr.mapEntry, run_underlying ht, MapKept.run_getObj_map hb, MapKept.run_checkKey hd hkey, MapKept.run_findKey hd g2, MapKept.run_setObj_map _ hb, zeroValue, typeInfo, hi', hzv]
  ·have hb1 : (w.heap.setIfInBounds b (.map (m.push { key := k, val := zv, born := clk }) (clk + 1)))[b]? = some (.map (m.push { key := k, val := zv, born := clk }) (clk + 1)) := by simp [lt]
   have hf := born_at (born.push k zv) (j := m.size) (e := { key := k, val := zv, born := clk }) (by simp)
   have hm : (m.push { key := k, val := zv, born := clk }).modify m.size (fun e => { e with val := a.eval y }) = m.push { key := k, val := a.eval y, born := clk } := by
    apply Array.ext_getElem?
    intro i
    rw [Array.getElem?_modify, Array.getElem?_push, Array.getElem?_push]
    by_cases hi : m.size = i
    ·simp [hi]
    ·rw [if_neg hi, if_neg (Ne.symm hi), if_neg (Ne.symm hi)]
   simp [Instr.entryStore, getObj, setObj, asInt, asIntOf, goInt, Sem.run, hb1, hf, hm]
 ·refine ⟨b, { w with heap := w.heap.setIfInBounds b (.map (m.modify j fun e => { e with key := k }) clk) }, _, c, (e.born : Int), e1, ?_, ?_, R2⟩
  ·rw [e2]
   have hst := MapKept.run_keyThatStays (P := P) (w := w) hkey
   simp [Instr.mapEntry, run_underlying ht, MapKept.run_getObj_map hb, MapKept.run_checkKey hd hkey, MapKept.run_findKey hd g2, MapKept.run_setObj_map _ hb, hj, hek, hst]
  ·have hb1 : (w.heap.setIfInBounds b (.map (m.modify j fun e => { e with key := k }) clk))[b]? = some (.map (m.modify j fun e => { e with key := k }) clk) := by simp [lt]
   have hm0 : (m.modify j fun e => { e with key := k }) = m := by
    apply Array.ext_getElem?
    intro i
    rw [Array.getElem?_modify]
    by_cases hi : j = i
    ·subst hi
     rw [if_pos rfl, hj]
     simp only [Option.map_some]
     rw [← hek]
    ·rw [if_neg hi]
   have hf := born_at born hj
   have hm : m.modify j (fun e => { e with val := a.eval y }) = m.modify j fun e => { e with key := k, val := a.eval y } := by
    apply Array.ext_getElem?
    intro i
    rw [Array.getElem?_modify, Array.getElem?_modify]
    by_cases hi : j = i
    ·subst hi
     rw [if_pos rfl, if_pos rfl, hj]
     simp only [Option.map_some]
     rw [← hek]
    ·rw [if_neg hi, if_neg hi]
   rw [hm0] at hb1
   rw [hm0]
   simp [Instr.entryStore, getObj, setObj, asInt, asIntOf, goInt, Sem.run, hb1, hf, hm]
theorem wpOp_run {ops : Array Oper} {i : Nat} {o : Oper} {Q : Exit → Act → World → Prop} {K : Act → World → Prop} {v : Value} {w' : World} (hi : ops[i]? = some o) (hg : o.guard = none) (hr : (execOp a.eval o).run P w = .ok (.value v) w') (h : K (a.put o.dst v) w') : Go.wpOp P ops Q i K a w := by
 unfold Go.wpOp
 rw [hi]
 simp only []
 have hw : Region.wanted o (yielded ops a.tmps) = true := by unfold Region.wanted; rw [hg]
 rw [if_pos hw]
 refine .inl ?_
 unfold Oper.wp
 rw [hr]
 exact h
theorem wpOp_skip {ops : Array Oper} {i : Nat} {o : Oper} {Q : Exit → Act → World → Prop} {K : Act → World → Prop} {w' : World} (hi : ops[i]? = some o) (hg : o.guard = none) (hr : (execOp a.eval o).run P w = .ok .skip w') (h : K (a.put o.dst undef) w') : Go.wpOp P ops Q i K a w := by
 unfold Go.wpOp
 rw [hi]
 simp only []
 have hw : Region.wanted o (yielded ops a.tmps) = true := by unfold Region.wanted; rw [hg]
 rw [if_pos hw]
 refine .inl ?_
 unfold Oper.wp
 rw [hr]
 exact h
theorem eval_put_ne {d t : Nat} {v : Value} (h : t ≠ d) : (a.put (some d) v).eval (.tmp t) = a.eval (.tmp t) := by
 simp [Act.put, Act.eval, Ne.symm h]
theorem eval_put_self {d : Nat} {v : Value} (h : d < a.tmps.size) : (a.put (some d) v).eval (.tmp d) = v := by
 simp [Act.put, Act.eval, h]
theorem entry_ops (R : Rel C E L μ σ a w) {ops : Array Oper} {Q : Exit → Act → World → Prop} {rest : List Nat} {i1 i2 i3 d1 d2 x y : Nat} {t : TypeId} {k : Value} {o1 o2 o3 : Oper} {s : Slot} {σ1 σ2 σ3 : St} (g1 : ops[i1]? = some o1) (u1 : o1.guard = none) (p1 : o1.op = .mapEntry t (.tmp x) (.const k)) (q1 : o1.dst = some d1)
  (g2 : ops[i2]? = some o2) (u2 : o2.guard = none) (p2 : o2.op = .extract (.tmp d1) 1) (q2 : o2.dst = some d2) (g3 : ops[i3]? = some o3) (u3 : o3.guard = none) (p3 : o3.op = .entryStore t (.tmp x) (.tmp d2) (.tmp y)) (q3 : o3.dst = none)
  (n1 : x ≠ d1) (n2 : x ≠ d2) (n3 : y ≠ d1) (n4 : y ≠ d2) (hz : ∀ kt et, P.underlying t = some (.map kt et) → (zeroA P et).isSome = true) (h : opMapUpdate P σ t (.tmp x) (.const k) (.tmp y) = some (s, σ1)) (h1 : σ1.put (some d1) .unk = some σ2) (h2 : σ2.put (some d2) .unk = some σ3)
  (hq : ∀ L' μ' a' w', Rel C E L' μ' σ3 a' w' → wpOps P ops Q rest a' w') : wpOps P ops Q (i1 :: i2 :: i3 :: rest) a w := by
 obtain ⟨b, w1, w2, v, n, e1, r1, r2, R2⟩ := entry_runs R h hz
 have R3 := put_rel (s := .unk) (v := .tuple #[v, goInt n]) R2 trivial h1
 have R4 := put_rel (s := .unk) (v := goInt n) R3 trivial h2
 have lt : ∀ {τ τ' : St} {d : Nat} {a : Act} {w : World}, Rel C E L μ τ a w → τ.put (some d) .unk = some τ' → d < a.tmps.size := by
  intro τ τ' d a w R hp
  simp only [St.put] at hp
  cases hb : Nat.ble τ.n d with
  | true => rw [hb] at hp; cases hp
  | false =>
   rw [← R.n]
   exact Nat.lt_of_not_ge fun hle => by rw [Nat.ble_eq_true_of_le hle] at hb; cases hb
 have l1 := lt R2 h1
 have l2 := lt R3 h2
 rw [wpOps_cons]
 refine wpOp_run (v := .tuple #[v, goInt n]) (w' := w1) g1 u1 (by simp [execOp, p1, e1, r1]) ?_
 rw [q1, wpOps_cons]
 refine wpOp_run (v := goInt n) (w' := w1) g2 u2 (by simp [execOp, p2, eval_put_self l1, Instr.extract]) ?_
 rw [q2, wpOps_cons]
 have ex : ((a.put (some d1) (.tuple #[v, goInt n])).put (some d2) (goInt n)).eval (.tmp x) = .map (some b) := by rw [eval_put_ne n2, eval_put_ne n1, e1]
 have ey : ((a.put (some d1) (.tuple #[v, goInt n])).put (some d2) (goInt n)).eval (.tmp y) = a.eval (.tmp y) := by rw [eval_put_ne n4, eval_put_ne n3]
 have ed : ((a.put (some d1) (.tuple #[v, goInt n])).put (some d2) (goInt n)).eval (.tmp d2) = goInt n := eval_put_self l2
 refine wpOp_skip (w' := w2) g3 u3 (by simp [execOp, p3, ex, ey, ed, r2]) ?_
 rw [q3]
 exact hq L μ _ _ R4
end
end
end Go.Ef
