/- A part of the proof: definitions and lemmas. -/
import Derived.Test.YtnldjoepcidimaaGreatDoorNoneA
import Derived.Test.YtnldjoepcidimaaGreatDoorNoneB
import Derived.Test.YtnldjoepcidimaaGreatDoorNoneC
import Derived.Test.YtnldjoepcidimaaGreatDoorNoneD
namespace Go.Ef
open Go
noncomputable section
section
variable {P : Program} {C : Cfg} {E : Ent} {L : List Nat} {μ : M} {σ : St} {a : Act} {w : World}
def took (σ : St) (ki ri rb clk : Nat) (m : Array MapEntry) (vi : List Nat) (i : Nat) : St := { σ with loc := σ.loc.set ki (.raw ri (.mapIter (some rb) clk (seenOf m (vi ++ [i])) clk) []) }
theorem entry_vals (R : Rel C E L μ σ a w) {ka rb clk : Nat} {m : Array MapEntry} {fs : List (AV × AV)} (hka : σ.loc[ka]? = some (.raw rb (.map m clk) fs)) {i : Nat} {k v : AV} (hf : fs[i]? = some (k, v)) : ∃ e, m[i]? = some e ∧ V μ k e.key ∧ V μ v e.val := by
 have hkaL : ∃ b', L[ka]? = some b' := by
  have := lt_of_get? hka
  rw [← R.len] at this
  exact ⟨L[ka], by simp [this]⟩
 obtain ⟨b', hb'⟩ := hkaL
 obtain ⟨⟨_, _, hal⟩, _⟩ := R.loc ka b' _ hb' hka
 obtain ⟨m', clk', e, hme, he, hk, hv⟩ := hal i k v hf
 cases hme
 exact ⟨e, he, hk, hv⟩
theorem range_round (F : Fit P C) {f n : Nat} {kb kx iN iE c : Nat} {oN oE : Oper} {lN lE : List Oper} {opsN opsE : Array Oper} {body : Code} {x : Operand} {ki ka rb ri clk : Nat} {m : Array MapEntry} {fs : List (AV × AV)} {S : List Nat → St} {hd : List Nat} {nl : Nat}
  {Q : Exit → Act → World → Prop} (eN : opsN.toList = oN :: lN) (gN : oN.guard = none) (pN : oN.op = .next x false) (eE : opsE.toList = oE :: lE) (gE : oE.guard = none) (pE : oE.op = .entry x)
  (born : Born m clk) (hm : m.size = fs.length) (okB : codeOk C P f body = true)
  (sx : ∀ vi, (S vi).slot x = some (.lp ki 0)) (si : ∀ vi, (S vi).loc[ki]? = some (.raw ri (.mapIter (some rb) clk (seenOf m vi) clk) [])) (sm : ∀ vi, (S vi).loc[ka]? = some (.raw rb (.map m clk) fs)) (hne : ki ≠ ka)
  (stop : ∀ vi, vi.Nodup → (∀ i ∈ vi, i < m.size) → (∀ i, i < m.size → i ∈ vi) → ∃ σ1 σ2, (S vi).put oN.dst (.v (.tup [.sc (.bool false)])) = some σ1 ∧ evOps C P (callWith C P (evCode C P n)) f opsN lN σ1 = some σ2 ∧ σ2.val (.tmp c) = some (.sc (.bool false)) ∧
   ∀ L μ a w, Rel C E L μ σ2 a w → Q (.exit kx) a w)
  (go : ∀ vi i k v, vi.Nodup → (∀ j ∈ vi, j < m.size) → i < m.size → i ∉ vi → fs[i]? = some (k, v) → ∃ σ1 σ2 σ3 σ4, (took (S vi) ki ri rb clk m vi i).put oN.dst (.v (.tup [.sc (.bool true), k, v])) = some σ1 ∧ evOps C P (callWith C P (evCode C P n)) f opsN lN σ1 = some σ2 ∧ σ2.val (.tmp c) = some (.sc (.bool true)) ∧
   σ2.slot x = some (.lp ki 0) ∧ σ2.loc = (took (S vi) ki ri rb clk m vi i).loc ∧ σ2.put oE.dst (.v (.tup [k, v])) = some σ3 ∧ evOps C P (callWith C P (evCode C P n)) f opsE lE σ3 = some σ4 ∧ Ev C P f body σ4 fun e τ => e = .normal ∧ τ.tidy hd nl = S (vi ++ [i])) :
  ∀ vi a w, vi.Nodup → (∀ i ∈ vi, i < m.size) → (∃ L μ, Rel C E L μ (S vi) a w) → (Code.seq (.region iN opsN false) (.seq (.cond (.tmp c) .skip (.exit kx)) (.block kb (.seq (.region iE opsE false) body)))).wp P (fun e a' w' => match e with
   | .normal => ∃ i, i < m.size ∧ i ∉ vi ∧ ∃ L μ, Rel C E L μ (S (vi ++ [i])) a' w'
   | e => Q e a' w') a w := by
 intro vi a w hn hv hR
 obtain ⟨L, μ, R⟩ := hR
 refine wp_seq (region_mid (f := f) (n := n) (l1 := []) (σ1 := S vi) F eN gN R rfl fun L' μ' a' w' R' => ?_)
 refine ⟨fun a2 w2 => (a2 = a'.put oN.dst (.tuple #[.bool false]) ∧ w2 = w' ∧ ∀ i, i < m.size → i ∈ vi) ∨ ∃ i e, m[i]? = some e ∧ i ∉ vi ∧ a2 = a'.put oN.dst (.tuple #[.bool true, e.key, e.val]) ∧ Rel C E L' μ' (took (S vi) ki ri rb clk m vi i) a' w2, ?_, ?_⟩
 ·refine next_map R' pN (sx vi) (si vi) (sm vi) born hv (fun h => .inl ⟨rfl, rfl, h⟩) fun i e w1 he hni R1 => .inr ⟨i, e, he, hni, rfl, R1⟩
 ·rintro a2 w2 (⟨rfl, rfl, hall⟩ | ⟨i, e, he, hni, rfl, R1⟩)
  ·obtain ⟨σ1, σ2, p1, p2, p3, p4⟩ := stop vi hn hv hall
   have V0 : V μ' (.tup [.sc (.bool false)]) (.tuple #[.bool false]) := by
    refine V.tup rfl fun j y z hy hz => ?_
    match j with
    | 0 => simp at hy hz; subst hy; subst hz; exact .sc rfl
    | j + 1 => simp at hy
   refine ⟨L', μ', σ1, σ2, put_rel (s := .v (.tup [.sc (.bool false)])) R' V0 p1, p2, fun L'' μ'' a'' w'' R'' => ?_⟩
   refine wp_seq (wp_cond (t := false) (V.sc_eq (val_rel R'' p3)) ?_)
   exact wp_exit (p4 _ _ _ _ R'')
  ·have hi : i < m.size := by
    rcases Nat.lt_or_ge i m.size with h | h
    ·exact h
    ·rw [Array.getElem?_eq_none h] at he; cases he
   obtain ⟨k, v, hkv⟩ : ∃ k v, fs[i]? = some (k, v) := by
    have : i < fs.length := by omega
    exact ⟨fs[i].1, fs[i].2, by rw [List.getElem?_eq_getElem this]⟩
   obtain ⟨σ1, σ2, σ3, σ4, p1, p2, p3, p4, p5, p6, p7, p8⟩ := go vi i k v hn hv hi hni hkv
   have hka' : (took (S vi) ki ri rb clk m vi i).loc[ka]? = some (.raw rb (.map m clk) fs) := by
    show ((S vi).loc.set ki _)[ka]? = _
    rw [List.getElem?_set_ne hne]; exact sm vi
   have hki' : (took (S vi) ki ri rb clk m vi i).loc[ki]? = some (.raw ri (.mapIter (some rb) clk (seenOf m (vi ++ [i])) clk) []) := by
    show ((S vi).loc.set ki _)[ki]? = _
    rw [List.getElem?_set_self (lt_of_get? (si vi))]
   obtain ⟨e', he', hk, hv'⟩ := entry_vals R1 hka' hkv
   rw [he] at he'; cases he'
   have V1 : V μ' (.tup [.sc (.bool true), k, v]) (.tuple #[.bool true, e.key, e.val]) := by
    refine V.tup rfl fun j y z hy hz => ?_
    match j with
    | 0 => simp at hy hz; subst hy; subst hz; exact .sc rfl
    | 1 => simp at hy hz; subst hy; subst hz; exact hk
    | 2 => simp at hy hz; subst hy; subst hz; exact hv'
    | j + 3 => simp at hy
   refine ⟨L', μ', σ1, σ2, put_rel (s := .v (.tup [.sc (.bool true), k, v])) R1 V1 p1, p2, fun L'' μ'' a'' w'' R'' => ?_⟩
   refine wp_seq (wp_cond (t := true) (V.sc_eq (val_rel R'' p3)) (wp_skip ?_))
   refine wp_block (wp_seq (region_mid (f := f) (n := n) (l1 := []) (σ1 := σ2) F eE gE R'' rfl fun L3 μ3 a3 w3 R3 => ?_))
   refine ⟨fun a4 w4 => ∃ L4 μ4, Rel C E L4 μ4 σ3 a4 w4, ?_, ?_⟩
   ·have Fn := entry_map (P := P) (vi := vi) R3 pE p4 (by rw [p5]; exact hki') (by rw [p5]; exact hka') born hkv
    refine Fn _ _ fun z w4 hout => ?_
    obtain ⟨L4, μ4, R4, hs⟩ := hout
    exact ⟨L4, μ4, put_rel R4 hs p6⟩
   ·rintro a4 w4 ⟨L4, μ4, R4⟩
    refine ⟨L4, μ4, σ3, σ4, R4, p7, fun L5 μ5 a5 w5 R5 => ?_⟩
    refine ev_wp F p8 okB R5 fun ex τ L6 μ6 a6 w6 hk R6 => ?_
    obtain ⟨rfl, ht⟩ := hk
    refine ⟨i, hi, hni, L6.take nl, μ6, ?_⟩
    rw [← ht]
    exact tidy_rel R6 hd nl
theorem range_loop (F : Fit P C) {f n : Nat} {kb kx iN iE c : Nat} {oN oE : Oper} {lN lE : List Oper} {opsN opsE : Array Oper} {body : Code} {x : Operand} {ki ka rb ri clk : Nat} {m : Array MapEntry} {fs : List (AV × AV)} {S : List Nat → St} {hd : List Nat} {nl : Nat}
  {Q : Exit → Act → World → Prop} (eN : opsN.toList = oN :: lN) (gN : oN.guard = none) (pN : oN.op = .next x false) (eE : opsE.toList = oE :: lE) (gE : oE.guard = none) (pE : oE.op = .entry x)
  (born : Born m clk) (hm : m.size = fs.length) (okB : codeOk C P f body = true)
  (sx : ∀ vi, (S vi).slot x = some (.lp ki 0)) (si : ∀ vi, (S vi).loc[ki]? = some (.raw ri (.mapIter (some rb) clk (seenOf m vi) clk) [])) (sm : ∀ vi, (S vi).loc[ka]? = some (.raw rb (.map m clk) fs)) (hne : ki ≠ ka)
  (stop : ∀ vi, vi.Nodup → (∀ i ∈ vi, i < m.size) → (∀ i, i < m.size → i ∈ vi) → ∃ σ1 σ2, (S vi).put oN.dst (.v (.tup [.sc (.bool false)])) = some σ1 ∧ evOps C P (callWith C P (evCode C P n)) f opsN lN σ1 = some σ2 ∧ σ2.val (.tmp c) = some (.sc (.bool false)) ∧
   ∀ L μ a w, Rel C E L μ σ2 a w → Q (.exit kx) a w)
  (go : ∀ vi i k v, vi.Nodup → (∀ j ∈ vi, j < m.size) → i < m.size → i ∉ vi → fs[i]? = some (k, v) → ∃ σ1 σ2 σ3 σ4, (took (S vi) ki ri rb clk m vi i).put oN.dst (.v (.tup [.sc (.bool true), k, v])) = some σ1 ∧ evOps C P (callWith C P (evCode C P n)) f opsN lN σ1 = some σ2 ∧ σ2.val (.tmp c) = some (.sc (.bool true)) ∧
   σ2.slot x = some (.lp ki 0) ∧ σ2.loc = (took (S vi) ki ri rb clk m vi i).loc ∧ σ2.put oE.dst (.v (.tup [k, v])) = some σ3 ∧ evOps C P (callWith C P (evCode C P n)) f opsE lE σ3 = some σ4 ∧ Ev C P f body σ4 fun e τ => e = .normal ∧ τ.tidy hd nl = S (vi ++ [i]))
  (R : Rel C E L μ (S []) a w) : (Code.loop (.seq (.region iN opsN false) (.seq (.cond (.tmp c) .skip (.exit kx)) (.block kb (.seq (.region iE opsE false) body))))).wp P Q a w :=
 loop_map (n := m.size) (inv := fun vi a w => ∃ L μ, Rel C E L μ (S vi) a w) (range_round F eN gN pN eE gE pE born hm okB sx si sm hne stop go) ⟨L, μ, R⟩
theorem range_region (F : Fit P C) {f n iR : Nat} {opsR : Array Oper} {oR : Oper} {l1 : List Oper} {σ1 : St} {t kt et : TypeId} {x : Operand} {id : Nat} {es : List (AV × AV)} {hh : Heap} {Q : Exit → Act → World → Prop}
  (hops : opsR.toList = l1 ++ [oR]) (hg : oR.guard = none) (R : Rel C E L μ σ a w) (h1 : evOps C P (callWith C P (evCode C P n)) f opsR l1 σ = some σ1) (po : oR.op = .range t x) (hx : σ1.val x = some (.mp id)) (ht : P.underlying t = some (.map kt et))
  (hgt : σ1.h.get id = some (.map es)) (hp : σ1.h.put id .dead = some hh)
  (hput : ∀ loc : List LObj, ∃ σ2, ({ σ1 with h := hh, loc := loc } : St).put oR.dst (.lp (σ1.loc.length + 1) 0) = some σ2)
  (hq : ∀ b m clk fs ri σ2 L' μ' a' w', fs.Perm es → Born m clk → m.size = fs.length → ({ σ1 with h := hh, loc := σ1.loc ++ [.raw b (.map m clk) fs] ++ [.raw ri (.mapIter (some b) clk #[] clk) []] } : St).put oR.dst (.lp (σ1.loc.length + 1) 0) = some σ2 → Rel C E L' μ' σ2 a' w' → Q .normal a' w') :
  (Code.region iR opsR false).wp P Q a w := by
 refine region_mid (f := f) (n := n) (l1 := l1) (l2 := []) (σ1 := σ1) F hops hg R h1 fun L' μ' a' w' R' => ?_
 refine ⟨fun a2 w2 => ∃ b m clk fs ri σ2 L2, fs.Perm es ∧ Born m clk ∧ m.size = fs.length ∧ ({ σ1 with h := hh, loc := σ1.loc ++ [.raw b (.map m clk) fs] ++ [.raw ri (.mapIter (some b) clk #[] clk) []] } : St).put oR.dst (.lp (σ1.loc.length + 1) 0) = some σ2 ∧ Rel C E L2 μ' σ2 a2 w2, ?_, ?_⟩
 ·refine range_map R' po hx ht hgt hp fun b m clk fs L2 w2 f1 f2 f3 _ R2 hl => ?_
  obtain ⟨σ2, p2⟩ := hput (σ1.loc ++ [.raw b (.map m clk) fs] ++ [.raw w'.heap.size (.mapIter (some b) clk #[] clk) []])
  exact ⟨b, m, clk, fs, w'.heap.size, σ2, L2, f1, f2, f3, p2, put_rel (s := .lp (σ1.loc.length + 1) 0) R2 ⟨_, hl, rfl⟩ p2⟩
 ·rintro a2 w2 ⟨b, m, clk, fs, ri, σ2, L2, f1, f2, f3, p2, R2⟩
  exact ⟨L2, μ', σ2, σ2, R2, rfl, fun L'' μ'' a'' w'' R'' => hq b m clk fs ri σ2 L'' μ'' a'' w'' f1 f2 f3 p2 R''⟩
end
end
end Go.Ef
namespace Go.Ef
open Go
structure Live (h : Heap) (id : Nat) (o : AObj) : Prop where
 get : h.get id = some o
 ro : h.ro ≤ id
theorem Live.lt {h : Heap} {id : Nat} {o : AObj} (k : Live h id o) : id < h.next := by
 have := k.get
 unfold Heap.get at this
 cases hb : Nat.blt id h.next with
 | true => exact Nat.le_of_ble_eq_true hb
 | false => rw [hb] at this; cases this
theorem Live.cell {h : Heap} {id : Nat} {cs : List AV} (k : Live h id (.cells cs)) (o : Nat) : cellIn h id o = cs[o]? := by
 unfold cellIn; rw [k.get]
theorem newIn_rest (h : Heap) (o : AObj) : (newIn h o).ro = h.ro ∧ (newIn h o).next = h.next + 1 := by
 rw [newIn_eq]; exact ⟨rfl, rfl⟩
theorem newIn_old {h : Heap} {id : Nat} {o p : AObj} (k : h.get id = some o) : (newIn h p).get id = some o := by
 have hlt : id < h.next := by
  unfold Heap.get at k
  cases hb : Nat.blt id h.next with
  | true => exact Nat.le_of_ble_eq_true hb
  | false => rw [hb] at k; cases k
 rw [newIn_eq, Heap.new_eq]
 unfold Heap.get at k ⊢
 simp only []
 rw [show Nat.blt id h.next = true from Nat.ble_eq_true_of_le hlt] at k
 rw [show Nat.blt id (h.next + 1) = true from Nat.ble_eq_true_of_le (by omega), Tr.get_set, if_neg (by omega)]
 exact k
theorem Live.new {h : Heap} {id : Nat} {o p : AObj} (k : Live h id o) : Live (newIn h p) id o := ⟨newIn_old k.get, by rw [(newIn_rest h p).1]; exact k.ro⟩
theorem box_new (h : Heap) (t : TypeId) (cs : List AV) : (boxIn h t cs).ro = h.ro ∧ (boxIn h t cs).next = h.next + 1 := by
 rw [boxIn_eq]; exact ⟨rfl, rfl⟩
theorem box_get (h : Heap) (t : TypeId) (cs : List AV) (id : Nat) : (boxIn h t cs).get id = (newIn h (.cells cs)).get id := by
 rw [boxIn_eq, newIn_eq]; rfl
theorem Live.box {h : Heap} {id : Nat} {o : AObj} {t : TypeId} {cs : List AV} (k : Live h id o) : Live (boxIn h t cs) id o := ⟨by rw [box_get]; exact newIn_old k.get, by rw [(box_new h t cs).1]; exact k.ro⟩
theorem put_in_get {h : Heap} {id : Nat} {o p : AObj} (k : Live h id p) (j : Nat) : (putIn h id o).get j = if id = j then some o else h.get j := put_get (put_ok k.ro k.lt) j
theorem put_in_rest {h : Heap} {id : Nat} {o p : AObj} (k : Live h id p) : (putIn h id o).ro = h.ro ∧ (putIn h id o).next = h.next := let q := put_rest (put_ok (o := o) k.ro k.lt); ⟨q.1, q.2.1⟩
theorem live_put {h : Heap} {id : Nat} {p : AObj} (k : Live h id p) (o : AObj) : Live (putIn h id o) id o := ⟨by rw [put_in_get k, if_pos rfl], by rw [(put_in_rest k).1]; exact k.ro⟩
theorem Live.put {h : Heap} {id j : Nat} {o p q : AObj} (k : Live h id p) (l : Live h j q) (hne : id ≠ j) : Live (putIn h id o) j q := ⟨by rw [put_in_get k, if_neg hne]; exact l.get, by rw [(put_in_rest k).1]; exact l.ro⟩
end Go.Ef
namespace Go.Ef
open Go
theorem mapAdd_eq {h : Heap} {t : Nat} {es : List (AV × AV)} (L : Live h t (.map es)) (k : Value) (v : AV) : mapAdd h t k v = putIn h t (.map (es ++ [(.sc k, v)])) := by
 unfold mapAdd; rw [lk_eq, L.get]
theorem mapAdd_live {h : Heap} {t : Nat} {es : List (AV × AV)} (L : Live h t (.map es)) (k : Value) (v : AV) : Live (mapAdd h t k v) t (.map (es ++ [(.sc k, v)])) := by
 rw [mapAdd_eq L]; exact live_put L _
theorem mapAdd_other {h : Heap} {t j : Nat} {es : List (AV × AV)} {q : AObj} (L : Live h t (.map es)) (l : Live h j q) (hne : t ≠ j) (k : Value) (v : AV) : Live (mapAdd h t k v) j q := by
 rw [mapAdd_eq L]; exact L.put l hne
theorem mapNew_ok {h : Heap} {t : Nat} {es : List (AV × AV)} {d : TypeDesc} {k : Value} (L : Live h t (.map es)) (h1 : allKeys d es = true) (h2 : noKey d k es = true) : mapNew h t d k = true := by
 unfold mapNew
 rw [lk_eq, L.get]
 simp only []
 rw [h1, h2, Nat.ble_eq_true_of_le L.ro, show Nat.blt t h.next = true from Nat.ble_eq_true_of_le L.lt]; rfl
noncomputable def addAll (h : Heap) (t : Nat) (l : List (Value × AV)) : Heap := l.foldl (fun g p => mapAdd g t p.1 p.2) h
def ents (l : List (Value × AV)) : List (AV × AV) := l.map fun p => (.sc p.1, p.2)
theorem addAll_snoc (h : Heap) (t : Nat) (l : List (Value × AV)) (p : Value × AV) : addAll h t (l ++ [p]) = mapAdd (addAll h t l) t p.1 p.2 := by
 unfold addAll; rw [List.foldl_append]; rfl
theorem addAll_live {h : Heap} {t : Nat} {es : List (AV × AV)} (L : Live h t (.map es)) : ∀ l : List (Value × AV), Live (addAll h t l) t (.map (es ++ ents l)) := by
 intro l
 induction l generalizing h es with
 | nil => rw [show es ++ ents [] = es by simp [ents]]; exact L
 | cons p l ih =>
  have := ih (mapAdd_live L p.1 p.2)
  rw [List.append_assoc] at this
  exact this
theorem addAll_other {h : Heap} {t j : Nat} {es : List (AV × AV)} {q : AObj} (L : Live h t (.map es)) (k : Live h j q) (hne : t ≠ j) : ∀ l : List (Value × AV), Live (addAll h t l) j q := by
 intro l
 induction l generalizing h es with
 | nil => exact k
 | cons p l ih => exact ih (mapAdd_live L p.1 p.2) (mapAdd_other L k hne p.1 p.2)
theorem ents_perm {a b : List (Value × AV)} (h : a.Perm b) : (ents a).Perm (ents b) := h.map _
end Go.Ef
namespace Go.Ef
open Go
section
variable {α : Type}
theorem Tr.path_next (x : α) (f n : Nat) : Tr.path x (f + 1) (n + 1) = if n % 2 = 0 then .node (Tr.path x f (n / 2)) none .leaf else .node .leaf none (Tr.path x f (n / 2)) := by
 show Nat.rec (motive := fun _ => Tr α) (.node (Tr.path x f (Nat.div n 2)) none .leaf) (fun _ _ => .node .leaf none (Tr.path x f (Nat.div n 2))) (n % 2) = _
 have : n % 2 = 0 ∨ n % 2 = 1 := by omega
 rcases this with h | h <;> rw [h] <;> rfl
theorem Tr.set_next (n : Nat) (x : α) (l : Tr α) (v : Option α) (r : Tr α) : Tr.set (n + 1) x (.node l v r) = if n % 2 = 0 then .node (l.set (n / 2) x) v r else .node l v (r.set (n / 2) x) := by
 show Nat.rec (motive := fun _ => Tr α) (.node (l.set (Nat.div n 2) x) v r) (fun _ _ => .node l v (r.set (Nat.div n 2) x)) (n % 2) = _
 have : n % 2 = 0 ∨ n % 2 = 1 := by omega
 rcases this with h | h <;> rw [h] <;> rfl
theorem Tr.path_set (x y : α) : ∀ (f n : Nat), n < f → (Tr.path x f n).set n y = Tr.path y f n
 | 0, _, h => by omega
 | f + 1, 0, _ => rfl
 | f + 1, n + 1, h => by
  rw [Tr.path_next, Tr.path_next]
  by_cases e : n % 2 = 0
  ·rw [if_pos e, if_pos e, Tr.set_next, if_pos e, Tr.path_set x y f (n / 2) (by omega)]
  ·rw [if_neg e, if_neg e, Tr.set_next, if_neg e, Tr.path_set x y f (n / 2) (by omega)]
theorem Tr.set_set (x y : α) : ∀ (t : Tr α) (n : Nat), (t.set n x).set n y = t.set n y
 | .leaf, n => Tr.path_set x y (n + 1) n (Nat.lt_succ_self n)
 | .node l v r, 0 => rfl
 | .node l v r, n + 1 => by
  rw [Tr.set_next, Tr.set_next]
  by_cases e : n % 2 = 0
  ·rw [if_pos e, if_pos e, Tr.set_next, if_pos e, Tr.set_set x y l (n / 2)]
  ·rw [if_neg e, if_neg e, Tr.set_next, if_neg e, Tr.set_set x y r (n / 2)]
end
theorem putIn_eq {h : Heap} {t : Nat} {o p : AObj} (L : Live h t o) : putIn h t p = { h with objs := h.objs.set t p } := by
 unfold putIn
 have : h.put t p = some (h.setObjs (h.objs.set t p)) := by
  unfold Heap.put
  rw [Nat.ble_eq_true_of_le L.ro, show Nat.blt t h.next = true from Nat.ble_eq_true_of_le L.lt]; rfl
 rw [this]; rfl
theorem putIn_putIn {h : Heap} {t : Nat} {o p q : AObj} (L : Live h t o) : putIn (putIn h t p) t q = putIn h t q := by
 rw [putIn_eq (live_put L p), putIn_eq L, putIn_eq L]
 show Heap.mk h.next ((h.objs.set t p).set t q) h.ro h.ty = Heap.mk h.next (h.objs.set t q) h.ro h.ty
 rw [Tr.set_set]
theorem addAll_eq {h : Heap} {t : Nat} {es : List (AV × AV)} (L : Live h t (.map es)) : ∀ l : List (Value × AV), l ≠ [] → addAll h t l = putIn h t (.map (es ++ ents l)) := by
 intro l
 induction l generalizing h es with
 | nil => intro h; exact absurd rfl h
 | cons p l ih =>
  intro _
  cases l with
  | nil => exact mapAdd_eq L p.1 p.2
  | cons q l =>
   have := ih (mapAdd_live L p.1 p.2) (by simp)
   show addAll (mapAdd h t p.1 p.2) t (q :: l) = _
   rw [this, mapAdd_eq L, putIn_putIn L, List.append_assoc]; rfl
theorem addAll_put {h : Heap} {t : Nat} {es : List (AV × AV)} (L : Live h t (.map es)) {l m : List (Value × AV)} (hm : m ≠ []) : (addAll h t l).put t (.map (es ++ ents m)) = some (addAll h t m) := by
 have LL := addAll_live L l
 rw [put_ok LL.ro LL.lt, addAll_eq L m hm]
 cases l with
 | nil => rfl
 | cons p l => rw [addAll_eq L (p :: l) (by simp), putIn_putIn L]
noncomputable section
variable {P : Program} {C : Cfg} {E : Ent} {L : List Nat} {μ : M} {σ : St} {a : Act} {w : World}
theorem Rel.addPerm {h : Heap} {t : Nat} {es : List (AV × AV)} (Lv : Live h t (.map es)) {l m : List (Value × AV)} (hp : l.Perm m) (hm : m ≠ []) (R : Rel C E L μ { σ with h := addAll h t l } a w) : Rel C E L μ { σ with h := addAll h t m } a w :=
 R.permMap (addAll_live Lv l).get (addAll_put Lv hm) ((ents_perm hp).append_left es)
end
end Go.Ef
namespace Go.Ef
open Go
noncomputable section
def keyV : AV → Value
 | .sc v => v
 | _ => undef
def entV (g : AV → AV) (p : AV × AV) : Value × AV := (keyV p.1, g p.2)
def came (g : AV → AV) (fs : List (AV × AV)) (vi : List Nat) : List (Value × AV) := vi.filterMap fun i => (fs[i]?).map (entV g)
theorem came_snoc {g : AV → AV} {fs : List (AV × AV)} {vi : List Nat} {i : Nat} {k v : AV} (h : fs[i]? = some (k, v)) : came g fs (vi ++ [i]) = came g fs vi ++ [(keyV k, g v)] := by
 unfold came
 rw [List.filterMap_append]
 simp [h, entV]
theorem came_range (g : AV → AV) (fs : List (AV × AV)) : came g fs (List.range fs.length) = fs.map (entV g) := by
 unfold came
 induction fs with
 | nil => rfl
 | cons p fs ih =>
  rw [List.length_cons, List.range_succ_eq_map, List.filterMap_cons, List.filterMap_map]
  simp only [List.getElem?_cons_zero, Option.map_some, List.map_cons]
  congr 1
theorem came_perm {g : AV → AV} {fs es : List (AV × AV)} {vi : List Nat} (hv : vi.Perm (List.range fs.length)) (hf : fs.Perm es) : (came g fs vi).Perm (es.map (entV g)) := by
 refine (hv.filterMap _).trans ?_
 show (came g fs (List.range fs.length)).Perm _
 rw [came_range]
 exact hf.map _
def differ (d : TypeDesc) (k k' : Value) : Bool := match Instr.sameNow d k k' with
 | some false => true
 | _ => false
theorem differ_ok {d : TypeDesc} {k k' : Value} (h : differ d k k' = true) : Instr.sameNow d k k' = some false := by
 unfold differ at h
 split at h
 ·assumption
 ·cases h
theorem noKey_of {d : TypeDesc} {k : Value} {es : List (AV × AV)} (h : ∀ p ∈ es, ∃ k', p.1 = .sc k' ∧ differ d k k' = true) : noKey d k es = true := by
 have : ∀ i, findI d k i es = some none := by
  induction es with
  | nil => intro i; rfl
  | cons p r ih =>
   intro i
   obtain ⟨k', e, hd⟩ := h p (by simp)
   obtain ⟨q, v⟩ := p
   simp only at e
   subst e
   have s := differ_ok hd
   simp only [findI, s]
   exact ih (fun p hp => h p (by simp [hp])) (i + 1)
 unfold noKey
 rw [this 0]
theorem allKeys_of {d : TypeDesc} {es : List (AV × AV)} (h : ∀ p ∈ es, ∃ k, p.1 = .sc k ∧ keyB d k = true) : allKeys d es = true := by
 induction es with
 | nil => rfl
 | cons p r ih =>
  obtain ⟨k, e, hk⟩ := h p (by simp)
  obtain ⟨q, v⟩ := p
  simp only at e
  subst e
  show (match (AV.sc k, v).1 with
   | .sc k => bif keyB d k then allKeys d r else false
   | _ => false) = true
  simp only [hk, cond_true]
  exact ih fun p hp => h p (by simp [hp])
end
end Go.Ef
namespace Go.Ef
open Go
noncomputable section
def freshKeys (d : TypeDesc) : List Value → List (AV × AV) → Bool
 | _, [] => true
 | old, (k, _) :: r => match k with
  | .sc v => bif keyB d v && old.all (differ d v) then freshKeys d (v :: old) r else false
  | _ => false
def fillH (d : TypeDesc) (g : AV → AV) (okV : AV → Bool) (h : Heap) (src t : Nat) : Option Heap :=
 match h.get src, h.get t with
 | some (.map es), some (.map es0) => bif ((!Nat.beq src t && !es.isEmpty) && (freshKeys d [] (es0 ++ es) && es.all fun p => okV p.2)) && Nat.ble h.ro t then
   (match h.put src .dead with
    | some hh => hh.put t (.map (es0 ++ es.map fun p => (p.1, g p.2)))
    | none => none) else none
 | _, _ => none
def codeF (P : Program) (f : Nat) : Code := match P.funcs[f]? with
 | some fn => match fn.body with
  | some c => c
  | none => .skip
 | none => .skip
def regOps : Code → Array Oper
 | .region _ ops _ => ops
 | _ => #[]
def inBlk : Code → Code
 | .block _ b => b
 | _ => .skip
def inLoop : Code → Code
 | .loop b => b
 | _ => .skip
def normO (r : Option (Ex × St)) : Option St := match r with
 | some (.normal, σ) => some σ
 | _ => none
def mapCell (σ : St) (x : Operand) (off : Nat) : Option (Nat × Nat) := match σ.val x with
 | some (.ptr m 0) => match σ.h.get m with
  | some (.cells cs) => match cs[off]? with
   | some (.mp t) => bif Nat.ble σ.h.ro m then some (m, t) else none
   | _ => none
  | _ => none
 | _ => none
def fillS (C : Cfg) (P : Program) (n f nn : Nat) (opsR : Array Oper) (x y : Operand) (off : Nat) (d : TypeDesc) (g : AV → AV) (okV : AV → Bool) (pre keep : List Nat) (σ : St) : Option St :=
 match evOps C P (callWith C P (evCode C P n)) f opsR opsR.toList.dropLast (σ.tidy pre 0) with
 | some σ1 => bif Nat.beq σ1.n nn && σ1.loc.isEmpty then
   (match σ1.val x, mapCell σ1 y off with
    | some (.mp src), some (_, t) => match fillH d g okV σ1.h src t with
     | some h => some ((σ1.setH h).tidy keep 0)
     | none => none
    | _, _ => none) else none
 | none => none
def entryF (P : Program) (f : Nat) (args : List AV) (h : Heap) : St := match P.funcs[f]? with
 | some fn => { n := args.length + (fn.ntmps - args.length), tm := argTr 0 args .leaf, d := .v (.sc undef), loc := [], h := h }
 | none => { n := 0, tm := .leaf, d := .unk, loc := [], h := h }
def resFn (P : Program) (f : Nat) : List ResultVar := match P.funcs[f]? with
 | some fn => fn.results.toList
 | none => []
def nthS : Nat → Code → Code
 | 0, .seq a _ => a
 | n + 1, .seq _ b => nthS n b
 | _, c => c
def dropS : Nat → Code → Code
 | 0, c => c
 | n + 1, .seq _ b => dropS n b
 | _ + 1, c => c
def runS (C : Cfg) (P : Program) (m f : Nat) : Nat → Code → St → Option St
 | 0, _, σ => some σ
 | n + 1, c, σ => match normO (evCode C P m f (nthS 0 c) σ) with
  | some σ' => runS C P m f n (dropS 1 c) σ'
  | none => none
end
end Go.Ef
