/- A part of the proof: definitions and lemmas. -/
import Derived.Test.YthfceininiemdaaGreatDoorTextsA
import Derived.Test.YthfceininiemdaaGreatDoorTextsB
import Derived.Test.YthfceininiemdaaGreatDoorTextsC
import Derived.Lib.Strings
import Derived.Below
import Derived.Lib.LaidTab
import Derived.Stop.LaidErr
namespace Go.Ef
open Go
section
variable {P : Program} {C : Cfg} {σ : St} {K : KS}
theorem str_run {P : Program} {op : BinOp} {t : TypeId} {x y : Operand} {a b : ByteArray} {v : Value} (h : pureRun P (Op.stringOp op a b) = some v) (h1 : op ≠ .shl) (h2 : op ≠ .shr) : scOp P (do eqGuard op t x y (.string a) (.string b); binOp op t (.string a) (.string b)) = ofVal 2 v := by
 have e1 : pureRun P (do eqGuard op t x y (.string a) (.string b); binOp op t (.string a) (.string b)) = some v := by
  cases op <;> first | exact absurd rfl h1 | exact absurd rfl h2 | exact h
 unfold scOp
 rw [e1]
theorem div_run {P : Program} {op : BinOp} {t : TypeId} {x y : Operand} {k : IntKind} {m n : Int} {v : Value} (ho : op = .quo ∨ op = .rem) (h : pureRun P (Op.intDiv op k m n) = some v) :
  pureRun P (do eqGuard op t x y (.int k m) (.int k n); binOp op t (.int k m) (.int k n)) = some v := by
 have e : binOp op t (.int k m) (.int k n) = Op.intDiv op k m n := by
  rcases ho with rfl | rfl <;> (unfold binOp; simp only [ne_eq, not_true_eq_false, if_false])
 rw [e]
 rcases ho with rfl | rfl <;> exact h
theorem wpBinInt_ok {op : BinOp} {t : TypeId} {x y : Operand} {k k' : IntKind} {m n : Int} (ha : σ.val x = some (.sc (.int k m))) (hb : σ.val y = some (.sc (.int k' n))) (h : wpBinInt P σ op t x y k m k' n K) : ∃ s τ, opBin P σ op t x y = some (s, τ) ∧ K s τ := by
 have key : ∀ v, (op = .quo ∨ op = .rem) → k = k' → pureRun P (Op.intDiv op k m n) = some (.int k v) → K (.v (.sc (.int k v))) σ → ∃ s τ, opBin P σ op t x y = some (s, τ) ∧ K s τ := by
  intro v ho hk hv hK
  subst hk
  refine ⟨_, _, ?_, hK⟩
  unfold opBin
  rw [ha]; simp only []; rw [hb]; simp only []
  have e : evBin P op t x y (.sc (.int k m)) (.sc (.int k n)) = some (.sc (.int k v)) := by
   unfold evBin
   simp only [decide_true, cond_true]
   have hn : intBin op k m n = none := by rcases ho with rfl | rfl <;> rfl
   unfold evBinI
   rw [hn]
   simp only []
   unfold scOp
   rw [div_run ho hv]
   rfl
  rw [e]
  rfl
 unfold wpBinInt at h
 split at h
 ·cases hk : decide (k = k') with
  | false => rw [hk] at h; exact h.elim
  | true =>
   rw [hk] at h
   rcases iteP_elim h with ⟨_, h⟩ | ⟨h0, h1⟩
   ·exact h.elim
   ·exact key _ (.inl rfl) (of_decide_eq_true hk) (by unfold Op.intDiv; rw [if_neg (of_decide_eq_false h0)]; rfl) h1
 ·cases hk : decide (k = k') with
  | false => rw [hk] at h; exact h.elim
  | true =>
   rw [hk] at h
   rcases iteP_elim h with ⟨_, h⟩ | ⟨h0, h1⟩
   ·exact h.elim
   ·exact key _ (.inr rfl) (of_decide_eq_true hk) (by unfold Op.intDiv; rw [if_neg (of_decide_eq_false h0)]; rfl) h1
 ·exact wpRes_ok h
theorem wpBin_ok {op : BinOp} {t : TypeId} {x y : Operand} (h : wpBin P σ op t x y K) : ∃ s τ, opBin P σ op t x y = some (s, τ) ∧ K s τ := by
 unfold wpBin at h
 split at h
 ·rename_i a ha
  split at h
  ·rename_i b hb
   have key : ∀ v r, pureRun P (Op.stringOp op a b) = some v → op ≠ .shl → op ≠ .shr → ofVal 2 v = some (.sc r) → K (.v (.sc r)) σ → ∃ s τ, opBin P σ op t x y = some (s, τ) ∧ K s τ := by
    intro v r hv h1 h2 hr hk
    refine ⟨_, _, ?_, hk⟩
    unfold opBin
    rw [ha]; simp only []; rw [hb]; simp only []
    unfold evBin evBinS
    simp only []
    cases hs : strBin op a b with
    | some v' =>
     obtain ⟨g1, g2, _, _⟩ := strBin_spec (P := P) hs
     rw [hv] at g1
     cases g1
     have : ofVal 2 v = some (.sc v) := by
      rcases strBin_kind hs with ⟨x, e⟩ | ⟨x, e⟩ <;> (subst e; rfl)
     rw [hr] at this
     cases this
     rfl
    | none =>
     unfold evBinG
     simp only [toVal]
     rw [str_run hv h1 h2, hr]
     rfl
   have eqd : ∀ l m : List UInt8, (l == m) = decide (l = m) := fun l m => by
    by_cases e : l = m
    ·subst e; simp
    ·simp [e]
   have heq : (a.toList == b.toList) = decide (a.data.toList = b.data.toList) := by rw [Lib.toList_data, Lib.toList_data, eqd]
   unfold wpBinStr at h
   split at h
   ·obtain ⟨h1, h2⟩ := iteP_false h
    have h1 : (a.data.toList.length : Int) + b.data.toList.length ≤ 9223372036854775807 := strFits_iff ▸ h1
    refine key (.string (a ++ b)) (.string (a ++ b)) ?_ (by simp) (by simp) rfl ?_
    ·rw [size_list, size_list] at h1
     have : ¬ ((a.size + b.size : Nat) : Int) > IntKind.i64.max := by
      have : IntKind.i64.max = 9223372036854775807 := by decide
      omega
     simp only [Op.stringOp, if_neg this]
     rfl
    ·have : (a ++ b : ByteArray) = ⟨⟨a.data.toList ++ b.data.toList⟩⟩ := by
      apply ByteArray.ext
      apply Array.ext'
      simp
     rw [this]; exact h2
   ·exact key _ _ rfl (by simp) (by simp) rfl (by rw [heq]; exact h)
   ·refine key _ _ rfl (by simp) (by simp) rfl ?_
    have : (!(a.toList == b.toList)) = decide (a.data.toList ≠ b.data.toList) := by rw [heq]; simp
    rw [this]; exact h
   ·exact key _ _ rfl (by simp) (by simp) rfl (by rw [Lib.toList_data, Lib.toList_data]; exact h)
   ·exact key _ _ rfl (by simp) (by simp) rfl (by rw [heq, Lib.toList_data, Lib.toList_data]; exact h)
   ·exact key _ _ rfl (by simp) (by simp) rfl (by rw [heq, Lib.toList_data, Lib.toList_data]; exact h)
   ·exact key _ _ rfl (by simp) (by simp) rfl (by rw [Lib.toList_data, Lib.toList_data]; exact h)
   ·exact h.elim
  ·exact h.elim
 ·rename_i k m ha
  split at h
  ·rename_i k' n hb
   exact wpBinInt_ok ha hb h
  ·exact wpRes_ok h
 ·exact wpRes_ok h
theorem byteD_mapO : ∀ (els : List (List AV)), els.all isByteCell = true → mapO byteOf els = some (els.map byteD) := by
 intro els
 induction els with
 | nil => intro _; rfl
 | cons e els ih =>
  intro h
  simp only [List.all_cons, Bool.and_eq_true] at h
  rw [mapO_cons, ih h.2]
  have : byteOf e = some (byteD e) := by
   have := h.1
   simp only [isByteCell, Bool.and_eq_true] at this
   unfold byteD
   cases hb : byteOf e with
   | none => rw [hb] at this; cases this.2
   | some b => rfl
  rw [this]; rfl
theorem u8_cell {a : AV} (h : isU8 a = true) : ∃ v : Int, a = .sc (.int .u8 v) := by
 unfold isU8 at h
 split at h
 ·exact ⟨_, rfl⟩
 ·cases h
theorem chunks_u8 : ∀ (n : Nat) (cs : List AV), cs.length = n → (∀ a ∈ cs, isU8 a = true) → mapO byteOf (chunks n 1 cs) = some (cs.map u8B) := by
 intro n
 induction n with
 | zero => intro cs h _; cases cs with
  | nil => rfl
  | cons a r => cases h
 | succ n ih =>
  intro cs h hu
  cases cs with
  | nil => cases h
  | cons a r =>
   obtain ⟨v, rfl⟩ := u8_cell (hu a (List.mem_cons_self ..))
   have := ih r (by simpa using h) (fun b hb => hu b (List.mem_cons_of_mem _ hb))
   show mapO byteOf ([AV.sc (.int .u8 v)] :: chunks n 1 r) = _
   rw [mapO_cons, this]
   rfl
theorem isU8T_spec {t : TypeId} (h : isU8T P t = true) : P.underlying t = some (.int .u8) := by
 unfold isU8T at h
 split at h
 ·assumption
 ·cases h
theorem wpConv_ok {f : FuncId} {p : Option Nat} {s d : TypeId} {x : Operand} (h : wpConv C P σ f p s d x K) : ∃ q τ, opConv C P σ f p s d x = some (q, τ) ∧ K q τ := by
 unfold wpConv at h
 split at h
 ·rename_i id off len k hx
  split at h
  ·rename_i e h1 h2
   obtain ⟨h3, hb⟩ := cond_prop h
   clear h
   simp only [Bool.and_eq_true] at h3
   obtain ⟨h3, h4⟩ := h3
   have h3 := isU8T_spec h3
   have h4 : k = 1 := Nat.eq_of_beq_eq_true h4
   subst h4
   split at hb
   ·rename_i cs hg
    obtain ⟨h5, h6⟩ := iteP_false hb
    refine ⟨_, _, ?_, h6⟩
    simp only [endCells, Bool.and_eq_true] at h5
    obtain ⟨h5, h7⟩ := h5
    have hst : stretch off (len * 1) cs = some (cutC cs off len) := by
     rw [stretch_eq]
     rw [Nat.mul_one, h5]; rfl
    have hlen : (cutC cs off len).length = len := by
     have := Nat.le_of_ble_eq_true h5
     simp [cutC]; omega
    unfold opConv
    rw [hx]; simp only []
    unfold evConvert
    rw [h1, h2]; simp only [St.elems]
    rw [show Nat.beq 1 1 = true from rfl, cond_true, hg]; simp only []
    rw [hst]
    simp only [Option.map_some, isSlice, cond_true]
    unfold bytesOf
    rw [h3]; simp only []
    rw [chunks_u8 len _ hlen (fun a ha => List.all_eq_true.1 h7 a (List.mem_of_mem_drop (List.mem_of_mem_take ha)))]
    rfl
   ·exact hb.elim
  ·exact h.elim
 ·rename_i els tok hx
  split at h
  ·rename_i e h1 h2
   split at h
   ·rename_i h3
    obtain ⟨h4, h5⟩ := iteP_false h
    refine ⟨_, _, ?_, h5⟩
    have hall : els.all (fun e => Nat.beq e.length 1) = true := by
     rw [List.all_eq_true] at h4 ⊢
     intro e he
     have := h4 e he
     simp only [isByteCell, Bool.and_eq_true] at this
     exact this.1
    unfold opConv
    rw [hx]; simp only []
    unfold evConvert
    rw [h1, h2]; simp only [St.elems, hall, cond_true, isSlice]
    unfold bytesOf
    rw [h3]; simp only []; rw [byteD_mapO els h4]
    rfl
   ·exact h.elim
  ·exact h.elim
 ·rename_i b hx
  split at h
  ·rename_i e h1 h2
   split at h
   ·rename_i h3
    cases hm : C.is f p 1 with
    | true =>
     rw [hm] at h
     simp only [cond_true] at h
     obtain ⟨h4, h5⟩ := iteP_false h
     refine ⟨_, _, ?_, h5⟩
     unfold opConv
     rw [hx]; simp only []
     unfold evConvert
     rw [h1, h2]; simp only []
     unfold toBytes
     rw [h3]; simp only []
     rw [size_list] at h4
     rw [h4]
     simp only [cond_true, St.newSlice, hm, St.newR]
     rw [show (byteEls b).flatten = b.data.toList.map fun b => AV.sc (.int .u8 b.toNat) from byteEls_flat _, show (byteEls b).length = b.data.toList.length by simp [byteEls]]
     rfl
    | false =>
     rw [hm] at h
     simp only [cond_false] at h
     cases hm6 : C.is f p 6 with
     | true => rw [hm6] at h; exact h.elim
     | false =>
     rw [hm6] at h
     simp only [cond_false] at h
     obtain ⟨h4, h5⟩ := iteP_false h
     refine ⟨_, _, ?_, h5⟩
     unfold opConv
     rw [hx]; simp only []
     unfold evConvert
     rw [h1, h2]; simp only []
     unfold toBytes
     rw [h3]; simp only []
     rw [size_list] at h4
     rw [h4]
     simp only [cond_true, St.newSlice, hm, hm6]
     rfl
   ·exact h.elim
  ·exact wpRes_ok h
 ·exact wpRes_ok h
theorem one_at {cs : List AV} {off : Nat} (h : off < cs.length) : stretch off 1 cs = some [cs[off]] := by
 rw [stretch_eq]
 rw [ble_of (show off + 1 ≤ cs.length by omega)]
 simp only [cond_true]
 rw [List.drop_eq_getElem_cons h]; rfl
theorem isStringT_spec {t : TypeId} (h : isStringT P t = true) : P.underlying t = some .string := by
 unfold isStringT at h
 split at h
 ·assumption
 ·cases h
theorem wpLoad_ok {T : Tab} {f : FuncId} {d : Option Nat} {t : TypeId} {a : Operand} (h : wpLoad T C P σ f d t a K) : ∃ q τ, opLoad C P σ f d t a = some (q, τ) ∧ K q τ := by
 unfold wpLoad at h
 split at h
 ·rename_i id off hs
  cases hq : (T.sym f && !(C.is f d 3 || C.is f d 5)) && isU8T P t with
  | false =>
   rw [hq] at h
   simp only [cond_false] at h
   cases hs2 : (T.symS f d && !(C.is f d 3 || C.is f d 5)) && isStringT P t with
   | false => rw [hs2] at h; exact wpRes_ok h
   | true =>
    rw [hs2] at h
    simp only [cond_true] at h
    simp only [Bool.and_eq_true, Bool.not_eq_true'] at hs2
    obtain ⟨⟨_, h3⟩, ht⟩ := hs2
    have ht := isStringT_spec ht
    simp only [Bool.or_eq_false_iff] at h3
    obtain ⟨h1, h2⟩ := iteP_false h
    refine ⟨_, _, ?_, h2⟩
    unfold opLoad
    rw [hs]; simp only []
    rw [h3.1, h3.2]
    unfold hasStr at h1
    unfold strIn
    split at h1
    ·rename_i cs hg
     split at h1
     ·rename_i b hb
      obtain ⟨hlt, hv⟩ := List.getElem?_eq_some_iff.1 hb
      simp only [Bool.false_and, Bool.or_self, cond_false, St.load, isAggT, ht, St.read, hg, one_at hlt, hv]
      rfl
     ·cases h1
    ·cases h1
  | true =>
   rw [hq] at h
   simp only [cond_true] at h
   simp only [Bool.and_eq_true, Bool.not_eq_true'] at hq
   obtain ⟨⟨_, h3⟩, ht⟩ := hq
   have ht := isU8T_spec ht
   simp only [Bool.or_eq_false_iff] at h3
   split at h
   ·rename_i cs hg
    obtain ⟨h1, h2⟩ := iteP_false h
    simp only [inCells, Bool.and_eq_true] at h1
    have hlt : off < cs.length := Nat.le_of_ble_eq_true h1.1
    obtain ⟨v, hv⟩ := u8_cell (List.all_eq_true.1 h1.2 cs[off] (List.getElem_mem hlt))
    refine ⟨_, _, ?_, h2⟩
    unfold opLoad
    rw [hs]; simp only []
    rw [h3.1, h3.2]
    simp only [Bool.false_and, Bool.or_self, cond_false, St.load, isAggT, ht, St.read, hg, one_at hlt]
    have : u8V cs off = v := by unfold u8V; rw [List.getElem?_eq_getElem hlt, hv]
    rw [this, hv]; rfl
   ·exact h.elim
 ·exact wpRes_ok h
theorem splice_one {cs : List AV} {off : Nat} {v : AV} (hlt : off < cs.length) : splice off [v] cs = some (setC cs off v) := by
 rw [splice_eq]
 rw [show off + [v].length = off + 1 from rfl, ble_of (show off + 1 ≤ cs.length by omega)]
 simp only [cond_true, setC]
 rw [List.set_eq_take_append_cons_drop, if_pos hlt]; simp
theorem wpStore_ok {T : Tab} {f : FuncId} {t : TypeId} {a x : Operand} (h : wpStore T C P σ f t a x K) : ∃ q τ, opStore C P σ f t a x = some (q, τ) ∧ K q τ := by
 unfold wpStore at h
 split at h
 ·rename_i id off hs
  cases hq : (T.sym f && !isW C f a && isU8T P t) && (sizeT P t).any (Nat.beq 1) with
  | false =>
   rw [hq] at h
   simp only [cond_false] at h
   cases hs2 : (T.symN f && !isW C f a && isStringT P t) && (sizeT P t).any (Nat.beq 1) with
   | false => rw [hs2] at h; exact wpRes_ok h
   | true =>
    rw [hs2] at h
    simp only [cond_true] at h
    simp only [Bool.and_eq_true] at hs2
    obtain ⟨⟨⟨_, hnw⟩, _⟩, hz⟩ := hs2
    have hz : sizeT P t = some 1 := by
     cases he : sizeT P t with
     | none => rw [he] at hz; cases hz
     | some n => rw [he] at hz; rw [Nat.eq_of_beq_eq_true hz]
    split at h
    ·rename_i n hx
     split at h
     ·rename_i cs hg
      split at h
      ·rename_i hp hput
       obtain ⟨h1, h2⟩ := iteP_false h
       have hlt : off < cs.length := Nat.le_of_ble_eq_true h1
       refine ⟨_, _, ?_, h2⟩
       have hsp : splice off [AV.sc (.string n)] cs = some (setC cs off (.sc (.string n))) := splice_one hlt
       unfold opStore
       rw [hs]; simp only []; rw [hx]; simp only []; rw [hz]; simp only []
       rw [show Nat.beq (AV.sc (.string n)).cells.length 1 = true from rfl, show wOk C f a (.v (.ptr id off)) = true by unfold wOk; rw [hnw]; rfl, Bool.and_self, cond_true]
       simp only [St.write, hg, AV.cells, hsp]
       rw [show [AV.sc (.string n)].all AV.one = true from rfl, cond_true]
       simp only [hput]
       rfl
      ·exact h.elim
     ·exact h.elim
    ·exact h.elim
  | true =>
   rw [hq] at h
   simp only [cond_true] at h
   simp only [Bool.and_eq_true] at hq
   obtain ⟨⟨⟨_, hnw⟩, _⟩, hz⟩ := hq
   have hz : sizeT P t = some 1 := by
    cases he : sizeT P t with
    | none => rw [he] at hz; cases hz
    | some n => rw [he] at hz; rw [Nat.eq_of_beq_eq_true hz]
   split at h
   ·rename_i n hx
    split at h
    ·rename_i cs hg
     split at h
     ·rename_i hp hput
      obtain ⟨h1, h2⟩ := iteP_false h
      have hlt : off < cs.length := Nat.le_of_ble_eq_true h1
      refine ⟨_, _, ?_, h2⟩
      have hsp : splice off [AV.sc (.int .u8 n)] cs = some (setC cs off (.sc (.int .u8 n))) := by
       rw [splice_eq]
       rw [show off + [AV.sc (.int .u8 n)].length = off + 1 from rfl, ble_of (show off + 1 ≤ cs.length by omega)]
       simp only [cond_true, setC]
       rw [List.set_eq_take_append_cons_drop, if_pos hlt]; simp
      unfold opStore
      rw [hs]; simp only []; rw [hx]; simp only []; rw [hz]; simp only []
      rw [show Nat.beq (AV.sc (.int .u8 n)).cells.length 1 = true from rfl, show wOk C f a (.v (.ptr id off)) = true by unfold wOk; rw [hnw]; rfl, Bool.and_self, cond_true]
      simp only [St.write, hg, AV.cells, hsp]
      rw [show [AV.sc (.int .u8 n)].all AV.one = true from rfl, cond_true]
      simp only [hput]
      rfl
     ·exact h.elim
    ·exact h.elim
   ·exact h.elim
 ·exact wpRes_ok h
theorem flat_one {els : List (List AV)} (h : els.all (fun e => Nat.beq e.length 1) = true) : els.flatten.length = els.length := by
 induction els with
 | nil => rfl
 | cons e r ih =>
  simp only [List.all_cons, Bool.and_eq_true] at h
  have h1 := Nat.eq_of_beq_eq_true h.1
  rw [List.flatten_cons, List.length_append, ih h.2, List.length_cons, h1]; omega
theorem flat_rep (n : Nat) (z : AV) : (List.replicate n [z]).flatten = List.replicate n z := by
 induction n with
 | zero => rfl
 | succ n ih => rw [List.replicate_succ, List.flatten_cons, ih, List.replicate_succ]; rfl
theorem wpMake_ok {T : Tab} {f : FuncId} {d : Option Nat} {t : TypeId} {x y : Operand} (h : wpMake T C P σ f d t x y K) : ∃ q τ, opMakeSlice C P σ f d t x y = some (q, τ) ∧ K q τ := by
 unfold wpMake at h
 cases hs : T.symN f with
 | false => rw [hs] at h; exact wpRes_ok h
 | true =>
  rw [hs] at h
  simp only [cond_true] at h
  split at h
  ·rename_i _ l _ c e hx hy he
   split at h
   ·rename_i i z hi hz
    cases h2 : C.is f d 2 with
    | true => rw [h2] at h; exact h.elim
    | false =>
     rw [h2] at h
     simp only [cond_false] at h
     cases hq : Nat.beq i.size 1 && (Nat.beq z.cells.length 1 && z.one) with
     | false => rw [hq] at h; exact h.elim
     | true =>
      rw [hq] at h
      simp only [cond_true] at h
      simp only [Bool.and_eq_true] at hq
      obtain ⟨q1, q2, q3⟩ := hq
      have q1 := Nat.eq_of_beq_eq_true q1
      have hzc : z.cells = [z] := by
       have q2 := Nat.eq_of_beq_eq_true q2
       cases z <;> first | rfl | (simp [AV.one] at q3)
      obtain ⟨hb, h⟩ := iteP_false h
      simp only [Bool.and_eq_true] at hb
      obtain ⟨hb, hb2⟩ := hb
      unfold opMakeSlice
      rw [hx, hy, he]
      simp only []
      rw [show (decide (0 ≤ l) && decide (l ≤ c) && decide (c ≤ (maxRoom : Int))) = true by simp only [Bool.and_eq_true]; exact hb, cond_true]
      unfold makeS
      rw [hi, hz]
      simp only []
      rw [hb2, q1, hzc]
      rw [show (true && Nat.beq [z].length 1 && Nat.ble 1 1) = true from rfl, cond_true, h2]
      rcases iteP_elim h with ⟨h0, h⟩ | ⟨h0, h⟩
      ·rw [h0, Bool.or_true, cond_true, Nat.eq_of_beq_eq_true h0]
       exact ⟨_, _, rfl, h⟩
      ·rw [h0, Bool.or_false, cond_false]
       refine ⟨_, _, rfl, ?_⟩
       unfold St.newR
       rw [flat_rep, List.length_replicate, St.setH_eq]
       exact h
   ·exact h.elim
  ·exact h.elim
theorem wpCopyTo_ok {id off n : Nat} {els : List (List AV)} (hl : els.all (fun e => Nat.beq e.length 1) = true) (h : wpCopyTo σ id off els.flatten K) : ∃ q τ, copyR σ 1 (.rsl id off n 1) els = some (q, τ) ∧ K q τ := by
 unfold wpCopyTo at h
 split at h
 ·rename_i cs hg
  split at h
  ·rename_i h' hput
   obtain ⟨hf, h⟩ := iteP_false h
   simp only [fitC, Bool.and_eq_true] at hf
   have he : els.flatten.isEmpty = els.isEmpty := by
    have := flat_one hl
    cases els with
    | nil => rfl
    | cons e r =>
     cases hh : (e :: r).flatten with
     | nil => rw [hh] at this; simp at this
     | cons _ _ => rfl
   rw [he] at h
   unfold copyR
   rcases iteP_elim h with ⟨h0, h⟩ | ⟨h0, h⟩
   ·rw [h0, cond_true]; exact ⟨_, _, rfl, h⟩
   ·rw [h0, cond_false]
    simp only []
    rw [show Nat.beq 1 1 = true from rfl, cond_true]
    simp only [St.write, hg]
    have hsp : splice off els.flatten cs = some (overC cs off els.flatten) := by
     rw [splice_eq, hf.1]; rfl
    rw [hsp]
    simp only []
    rw [hf.2, cond_true]
    simp only [hput]
    refine ⟨_, _, rfl, ?_⟩
    rw [flat_one hl] at h
    rw [St.setH_eq]
    exact h
  ·exact h.elim
 ·exact h.elim
theorem chunks_one : ∀ (n : Nat) (cs : List AV), cs.length = n → (chunks n 1 cs).all (fun e => Nat.beq e.length 1) = true := by
 intro n
 induction n with
 | zero => intro cs _; rfl
 | succ n ih =>
  intro cs h
  cases cs with
  | nil => cases h
  | cons a r =>
   simp only [chunks, List.all_cons, Bool.and_eq_true]
   exact ⟨rfl, ih r (by simpa using h)⟩
theorem all_take {els : List (List AV)} {n : Nat} (h : els.all (fun e => Nat.beq e.length 1) = true) : (els.take n).all (fun e => Nat.beq e.length 1) = true :=
 List.all_eq_true.2 fun e he => List.all_eq_true.1 h e (List.mem_of_mem_take he)
theorem flat_take : ∀ (els : List (List AV)) (n : Nat), els.all (fun e => Nat.beq e.length 1) = true → (els.take n).flatten = els.flatten.take n := by
 intro els
 induction els with
 | nil => intro n _; simp
 | cons e r ih =>
  intro n h
  cases n with
  | zero => simp
  | succ n =>
   simp only [List.all_cons, Bool.and_eq_true] at h
   have h1 := Nat.eq_of_beq_eq_true h.1
   match e, h1 with
   | [a], _ => simp [ih n h.2]
theorem wpCopy_ok {T : Tab} {f : FuncId} {types : Array TypeId} {dst src : AV} (h : wpCopy T P σ f types dst src K) : ∃ q τ, evCopy P σ types dst src = some (q, τ) ∧ K q τ := by
 unfold wpCopy at h
 cases hs : T.symN f with
 | false => rw [hs] at h; exact wpRes_ok h
 | true =>
  rw [hs] at h
  simp only [cond_true] at h
  split at h
  ·rename_i t ht
   split at h
   ·rename_i e he
    cases hz : (sizeT P e).any (Nat.beq 1) with
    | false => rw [hz] at h; exact h.elim
    | true =>
     rw [hz] at h
     simp only [cond_true] at h
     have hz : sizeT P e = some 1 := by
      cases hh : sizeT P e with
      | none => rw [hh] at hz; cases hz
      | some n => rw [hh] at hz; rw [Nat.eq_of_beq_eq_true hz]
     split at h
     ·rename_i id off n k
      cases hk : Nat.beq k 1 with
      | false => rw [hk] at h; exact h.elim
      | true =>
       rw [hk] at h
       simp only [cond_true] at h
       obtain rfl := Nat.eq_of_beq_eq_true hk
       split at h
       ·rename_i els tok
        obtain ⟨hl, h⟩ := iteP_false h
        obtain ⟨q, τ, h1, h2⟩ := wpCopyTo_ok (n := n) (all_take (n := n) hl) h
        refine ⟨q, τ, ?_, h2⟩
        unfold evCopy
        rw [ht]; simp only []; rw [he]; simp only []; rw [hz]; simp only []
        rw [show Nat.beq 1 0 = false from rfl, cond_false]
        simp only [St.elems, lenA]
        rw [hl, cond_true]
        simp only [isSlice, cond_true]
        exact h1
       ·rename_i id' off' len' k'
        cases hk' : Nat.beq k' 1 with
        | false => rw [hk'] at h; exact h.elim
        | true =>
         rw [hk'] at h
         simp only [cond_true] at h
         obtain rfl := Nat.eq_of_beq_eq_true hk'
         split at h
         ·rename_i cs' hg
          obtain ⟨hle, h⟩ := iteP_false h
          have hlen : ((cs'.drop off').take len').length = len' := by
           have := Nat.le_of_ble_eq_true hle
           simp; omega
          have hall := chunks_one len' ((cs'.drop off').take len') hlen
          have hfl : ((chunks len' 1 ((cs'.drop off').take len')).take n).flatten = cutC cs' off' (min n len') := by
           rw [flat_take _ _ hall, chunks_flatten 1 len' _ (by omega)]
           unfold cutC
           rw [List.take_take]
          rw [← hfl] at h
          obtain ⟨q, τ, h1, h2⟩ := wpCopyTo_ok (n := n) (all_take (n := n) hall) h
          refine ⟨q, τ, ?_, h2⟩
          unfold evCopy
          rw [ht]; simp only []; rw [he]; simp only []; rw [hz]; simp only []
          rw [show Nat.beq 1 0 = false from rfl, cond_false]
          simp only [St.elems, lenA]
          rw [show Nat.beq 1 1 = true from rfl, cond_true]
          simp only [hg]
          rw [stretch_eq, Nat.mul_one, hle, cond_true]
          simp only [Option.map_some, isSlice, cond_true]
          exact h1
         ·exact h.elim
       ·refine ⟨_, _, ?_, h⟩
        unfold evCopy
        rw [ht]; simp only []; rw [he]; simp only []; rw [hz]; simp only []
        rw [show Nat.beq 1 0 = false from rfl, cond_false]
        simp only [St.elems, lenA, isSlice, cond_true, List.take_nil, copyR]
        rfl
       ·exact wpRes_ok h
     ·split at h
      ·exact h.elim
      ·exact h.elim
      ·exact wpRes_ok h
   ·exact h.elim
  ·exact h.elim
theorem wpElems_ok {k : Nat} {x : AV} {k' : List (List AV) → Prop} (h : wpElems σ k x k') : ∃ els, σ.elems k x = some els ∧ k' els := by
 unfold wpElems at h
 split at h
 ·rename_i els tok
  obtain ⟨h1, h2⟩ := iteP_false h
  exact ⟨els, by simp only [St.elems, h1, cond_true], h2⟩
 ·rename_i s
  obtain ⟨h1, h2⟩ := cond_prop h
  exact ⟨_, by simp only [St.elems, h1, cond_true], h2⟩
 ·split at h
  ·exact ⟨_, ‹_›, h⟩
  ·exact h.elim
theorem wpAppendO_ok {e : TypeId} {i : TypeInfo} {els : List (List AV)} {tok : Nat} {new : List (List AV)} (h : wpAppendO σ e i els tok new K) : ∃ s τ, appendO σ e i els tok new = some (s, τ) ∧ K s τ := by
 unfold wpAppendO at h
 obtain ⟨h1, h⟩ := iteP_false h
 have h1 : (headLen i.size els && fits (els.length + new.length) i.bytes) = true := by
  simp only [Bool.and_eq_true] at h1 ⊢
  refine ⟨?_, h1.2⟩
  cases els with
  | nil => rfl
  | cons e es =>
   have := List.all_eq_true.1 h1.1 e (by simp)
   exact this
 unfold appendO
 simp only [lenL_eq, appL_eq]
 rw [h1]
 simp only [cond_true]
 split at h
 ·exact h.elim
 ·simp only []
  split at h
  ·rename_i k e' n hg
   rw [hg]
   simp only []
   obtain ⟨h2, h⟩ := cond_prop h
   obtain ⟨h3, h⟩ := iteP_false h
   have h3 : els.length = n := by simpa using h3
   rw [h2, show Nat.beq els.length n = true by rw [h3]; exact Nat.beq_refl _]
   simp only [cond_true, Bool.and_self]
   split at h
   ·rename_i hh hp
    rw [hp]
    exact ⟨_, _, rfl, h⟩
   ·exact h.elim
  ·exact h.elim
theorem wpAppendS_ok {f : FuncId} {d : Option Nat} {e : TypeId} {i : TypeInfo} {s : AV} {new : List (List AV)} (h : wpAppendS C σ f d e i s new K) : ∃ q τ, appendS C σ f d e i s new = some (q, τ) ∧ K q τ := by
 unfold wpAppendS at h
 split at h
 ·rcases iteP_elim h with ⟨h1, h2⟩ | ⟨h1, h2⟩
  ·exact ⟨_, _, by simp only [appendS, h1, cond_true], h2⟩
  ·obtain ⟨h3, h4⟩ := iteP_false h2
   exact ⟨_, _, by simp only [appendS, h1, cond_false, appendNil, h3, cond_true], h4⟩
 ·rcases iteP_elim h with ⟨h1, h2⟩ | ⟨h1, h2⟩
  ·exact ⟨_, _, by simp only [appendS, h1, cond_true], h2⟩
  ·obtain ⟨q, τ, h3, h4⟩ := wpAppendO_ok h2
   exact ⟨q, τ, by simp only [appendS, h1, cond_false, h3], h4⟩
 ·exact wpRes_ok h
theorem wpAppend_ok {f : FuncId} {d : Option Nat} {types : Array TypeId} {s x : AV} (h : wpAppend C P σ f d types s x K) : ∃ q τ, evAppend C P σ f d types s x = some (q, τ) ∧ K q τ := by
 unfold wpAppend at h
 unfold evAppend
 split at h
 ·rename_i t u ht hu
  rw [ht, hu]
  simp only []
  obtain ⟨h1, h⟩ := cond_prop h
  rw [h1]
  simp only [cond_true]
  split at h
  ·rename_i e he
   rw [he]
   simp only []
   split at h
   ·rename_i i hi
    rw [hi]
    simp only []
    cases hz : Nat.beq i.size 0 with
    | true => rw [hz] at h; exact h.elim
    | false =>
     rw [hz] at h
     simp only [cond_false] at h ⊢
     obtain ⟨new, h2, h⟩ := wpElems_ok h
     rw [h2]
     simp only []
     obtain ⟨h3, h⟩ := iteP_false h
     obtain ⟨h4, h⟩ := cond_prop h
     rw [h3, h4]
     exact wpAppendS_ok h
   ·exact h.elim
  ·exact h.elim
 ·exact h.elim
theorem wpAppendOG_ok {e : TypeId} {i : TypeInfo} {els : List (List AV)} {tok : Nat} {new : List (List AV)} (h : wpAppendOG σ e i els tok new K) : ∃ s τ, appendO σ e i els tok new = some (s, τ) ∧ K s τ := by
 unfold wpAppendOG at h
 obtain ⟨h1, h⟩ := iteP_false h
 have h1 : (headLen i.size els && fits (els.length + new.length) i.bytes) = true := by
  simp only [Bool.and_eq_true] at h1 ⊢
  refine ⟨?_, h1.2⟩
  cases els with
  | nil => rfl
  | cons e es =>
   have := List.all_eq_true.1 h1.1 e (by simp)
   exact this
 unfold appendO
 simp only [lenL_eq, appL_eq]
 rw [h1]
 simp only [cond_true]
 cases tok with
 | zero => exact h.elim
 | succ id =>
  simp only []
  replace h : iteP (isOwn σ.h id i.size e els.length) (K (.v (.sl (els ++ new) (id + 1))) { σ with h := growH σ.h id i.size e (els.length + new.length) }) False := h
  obtain ⟨h2, h⟩ := iteP_false h
  unfold isOwn at h2
  split at h2
  ·rename_i k e' n hg
   rw [hg]
   simp only []
   simp only [Bool.and_eq_true] at h2
   obtain ⟨q1, q2, q3, q4⟩ := h2
   rw [q1, q2, q3]
   simp only [cond_true, Bool.and_self]
   have hk := Nat.eq_of_beq_eq_true q1
   subst hk
   unfold growH at h
   have hlt : Nat.blt id σ.h.next = true := by
    cases hb : Nat.blt id σ.h.next with
    | true => rfl
    | false => simp only [Heap.get, hb, cond_false] at hg; cases hg
   have hput : ∀ o, σ.h.put id o = some (σ.h.setObjs (σ.h.objs.set id o)) := fun o => by unfold Heap.put; rw [q4, hlt]; rfl
   rw [hput] at h ⊢
   have hn := Nat.eq_of_beq_eq_true q3
   exact ⟨_, _, rfl, by rw [← hn, St.setH_eq]; exact h⟩
  ·cases h2
theorem wpAppendSG_ok {f : FuncId} {d : Option Nat} {e : TypeId} {i : TypeInfo} {s : AV} {new : List (List AV)} (h : wpAppendSG C σ f d e i s new K) : ∃ q τ, appendS C σ f d e i s new = some (q, τ) ∧ K q τ := by
 unfold wpAppendSG at h
 split at h
 ·rcases iteP_elim h with ⟨h1, h2⟩ | ⟨h1, h2⟩
  ·exact ⟨_, _, by simp only [appendS, h1, cond_true], h2⟩
  ·obtain ⟨h3, h4⟩ := iteP_false h2
   cases q1 : C.is f d 1 with
   | true => rw [q1] at h4; exact h4.elim
   | false =>
    cases q6 : C.is f d 6 with
    | true => rw [q1, q6] at h4; exact h4.elim
    | false =>
     rw [q1, q6] at h4
     simp only [Bool.or_self, cond_false, newOwnL, lk_eq] at h4
     exact ⟨_, _, by simp only [appendS, h1, cond_false, appendNil, h3, cond_true, St.newSlice, q1, q6, Bool.false_and, St.newO, St.setH_eq], h4⟩
 ·rcases iteP_elim h with ⟨h1, h2⟩ | ⟨h1, h2⟩
  ·exact ⟨_, _, by simp only [appendS, h1, cond_true], h2⟩
  ·obtain ⟨q, τ, h3, h4⟩ := wpAppendOG_ok h2
   exact ⟨q, τ, by simp only [appendS, h1, cond_false, h3], h4⟩
 ·exact wpRes_ok h
theorem wpAppendG_ok {f : FuncId} {d : Option Nat} {types : Array TypeId} {s x : AV} (h : wpAppendG C P σ f d types s x K) : ∃ q τ, evAppend C P σ f d types s x = some (q, τ) ∧ K q τ := by
 unfold wpAppendG at h
 unfold evAppend
 split at h
 ·rename_i t u ht hu
  rw [ht, hu]
  simp only []
  obtain ⟨h1, h⟩ := cond_prop h
  rw [h1]
  simp only [cond_true]
  split at h
  ·rename_i e he
   rw [he]
   simp only []
   split at h
   ·rename_i i hi
    rw [hi]
    simp only []
    cases hz : Nat.beq i.size 0 with
    | true => rw [hz] at h; exact h.elim
    | false =>
     rw [hz] at h
     simp only [cond_false] at h ⊢
     obtain ⟨new, h2, h⟩ := wpElems_ok h
     rw [h2]
     simp only []
     obtain ⟨h3, h⟩ := iteP_false h
     obtain ⟨h4, h⟩ := cond_prop h
     rw [h3, h4]
     exact wpAppendSG_ok h
   ·exact h.elim
  ·exact h.elim
 ·exact h.elim
theorem wpBuiltin_ok {f : FuncId} {d : Option Nat} {b : Builtin} {types : Array TypeId} {type : TypeId} {args : List AV} (h : wpBuiltin C P σ f d b types type args K) : ∃ q τ, evBuiltin C P σ f d b types type args = some (q, τ) ∧ K q τ := by
 unfold wpBuiltin at h
 split at h
 ·split at h
  ·exact wpAppend_ok h
  ·exact h.elim
 ·split at h
  ·rename_i s
   split at h
   ·rename_i t ht
    obtain ⟨h1, h⟩ := cond_prop h
    refine ⟨_, _, ?_, h⟩
    have hu : P.underlying t = some .string := by
     unfold isStringT at h1
     split at h1
     ·assumption
     ·cases h1
    rw [size_list]
    simp only [evBuiltin, evLen]
    have : pureRun P (Builtin.len_ types type #[.string s]) = some (.int .i64 s.size) := by
     have hun : ∀ k : TypeDesc → Sem Value, pureRun P (underlying t >>= k) = pureRun P (k .string) := by
      intro k
      unfold underlying
      rw [bind_assoc]
      show pureRun P ((match P.underlying t with | some d => pure d | none => stuck "no such type") >>= k) = _
      rw [hu]
      rfl
     simp only [Builtin.len_, ht]
     exact hun _
    rw [this]
    rfl
   ·exact h.elim
  ·split at h
   ·rename_i t ht
    split at h
    ·rename_i e he
     refine ⟨_, _, ?_, h⟩
     simp only [evBuiltin, evLen, ht, he, lenL_eq]
     rfl
    ·exact h.elim
   ·exact h.elim
  ·exact wpRes_ok h
 ·split at h
  ·rename_i k x k' y
   refine ⟨_, _, ?_, h⟩
   have : min x y = if y < x then y else x := by split <;> omega
   rw [this]
   rfl
  ·exact wpRes_ok h
 ·split at h
  ·rename_i k x k' y
   refine ⟨_, _, ?_, h⟩
   have : max x y = if x < y then y else x := by split <;> omega
   rw [this]
   rfl
  ·exact wpRes_ok h
 ·exact wpRes_ok h
theorem wpStrip_ok : ∀ n v k, wpStrip n v k → ∃ y, stripA n v = some y ∧ (∀ h, strip n h v = some y) ∧ k y := by
 intro n
 induction n with
 | zero =>
  intro v k h
  cases v with
  | sc v => exact ⟨_, rfl, fun _ => rfl, h⟩
  | sl els tok =>
   cases tok with
   | zero => exact ⟨_, rfl, fun _ => rfl, h⟩
   | succ t => exact h.elim
  | _ => exact h.elim
 | succ n ih =>
  have lists : ∀ (cs : List AV) (k : List AV → Prop), List.rec (motive := fun _ => (List AV → Prop) → Prop) (fun k => k []) (fun x _ ihl k => wpStrip n x fun y => ihl fun l => k (y :: l)) cs k →
    ∃ l, mapO (stripA n) cs = some l ∧ (∀ h, mapO (strip n h) cs = some l) ∧ k l := by
   intro cs
   induction cs with
   | nil => intro k h; exact ⟨[], rfl, fun _ => rfl, h⟩
   | cons x cs ihc =>
    intro k h
    obtain ⟨y, h1, h2, h3⟩ := ih x _ h
    obtain ⟨l, h4, h5, h6⟩ := ihc _ h3
    exact ⟨y :: l, by rw [mapO_cons, h1, h4]; rfl, fun hp => by rw [mapO_cons, h2, h5]; rfl, h6⟩
  intro v k h
  cases v with
  | sc v => exact ⟨_, rfl, fun _ => rfl, h⟩
  | sl els tok =>
   cases tok with
   | zero => exact ⟨_, rfl, fun _ => rfl, h⟩
   | succ t =>
    obtain ⟨h1, h2⟩ := iteP_false (show iteP (plainEls els) (k (.sl els 0)) False from h)
    exact ⟨_, by simp only [stripA, h1, cond_true], fun _ => by simp only [strip, h1, cond_true], h2⟩
  | agg cs =>
   obtain ⟨l, h1, h2, h3⟩ := lists cs _ h
   exact ⟨_, by simp only [stripA, h1, Option.map_some], fun hp => by simp only [strip, h2, Option.map_some], h3⟩
  | tup cs =>
   obtain ⟨l, h1, h2, h3⟩ := lists cs _ h
   exact ⟨_, by simp only [stripA, h1, Option.map_some], fun hp => by simp only [strip, h2, Option.map_some], h3⟩
  | ifc t u =>
   obtain ⟨y, h1, h2, h3⟩ := ih u _ h
   exact ⟨_, by simp only [stripA, h1, Option.map_some], fun hp => by simp only [strip, h2, Option.map_some], h3⟩
  | fn f a b =>
   obtain ⟨l, h1, h2, h3⟩ := lists a _ h
   obtain ⟨m, h4, h5, h6⟩ := lists b _ h3
   exact ⟨_, by simp only [stripA, h1, h4], fun hp => by simp only [strip, h2, h5], h6⟩
  | _ => exact h.elim
theorem wpStrips_ok : ∀ (l : List AV) (k : List AV → Prop), wpStrips l k → ∃ m, mapO (stripA 8) l = some m ∧ k m := by
 intro l
 induction l with
 | nil => intro k h; exact ⟨[], rfl, h⟩
 | cons x l ih =>
  intro k h
  obtain ⟨y, h1, _, h3⟩ := wpStrip_ok 8 x _ (show wpStrip 8 x fun y => wpStrips l fun m => k (y :: m) from h)
  obtain ⟨m, h4, h5⟩ := ih _ h3
  exact ⟨y :: m, by rw [mapO_cons, h1, h4]; rfl, h5⟩
theorem wpBack_ok {h : Heap} {r : AV} {k : AV → Prop} (H : wpBack h r k) : ∃ y, strip 8 h r = some y ∧ k y := by
 unfold wpBack at H
 split at H
 ·split at H
  ·exact ⟨_, ‹_›, H⟩
  ·exact H.elim
 ·obtain ⟨y, _, h2, h3⟩ := wpStrip_ok 8 _ _ H
  exact ⟨y, h2 h, h3⟩
end
end Go.Ef
namespace Go.Ef
open Go
noncomputable section
structure TabOk (P : Program) (C : Cfg) (T : Tab) : Prop where
 call : ∀ g t args h s, T.call g = some t → t args h = some s → s.pre → ∃ a ∈ s.alts, ∃ x m, a.post x ∧ callP C (evCall C P m) g args h = some (a.val x, a.heap x)
 loop : ∀ f i t σ s, T.loop f i = some t → t σ = some s → s.pre → ∃ a ∈ s.alts, ∃ x m, a.post x ∧ evCode C P m f (.loop (loopAt P f i)) σ = some (a.ex, a.st x)
def Ev (C : Cfg) (P : Program) (f : FuncId) (c : Code) (σ : St) (K : KR) : Prop := ∃ m e τ, evCode C P m f c σ = some (e, τ) ∧ K e τ
def EvC (C : Cfg) (P : Program) (g : FuncId) (args : List AV) (h : Heap) (K : AV → Heap → Prop) : Prop := ∃ m v h', evCall C P m g args h = some (v, h') ∧ K v h'
def EvP (C : Cfg) (P : Program) (g : FuncId) (args : List AV) (h : Heap) (K : AV → Heap → Prop) : Prop := ∃ m v h', callP C (evCall C P m) g args h = some (v, h') ∧ K v h'
section
variable {P : Program} {C : Cfg} {T : Tab}
def RunWOk (P : Program) (C : Cfg) (run : RunW) : Prop := ∀ f c σ K, run f c σ K → Ev C P f c σ K
def CallWOk (P : Program) (C : Cfg) (call : CallW) : Prop := ∀ g args h K, call g args h K → EvC C P g args h K
theorem forceL_eq {f : AV → (AV → Prop) → Prop} (hf : ∀ a k, f a k = k a) : ∀ (l : List AV) (k : List AV → Prop), forceL f l k = k l := by
 intro l
 induction l with
 | nil => intro k; rfl
 | cons x l ih =>
  intro k
  show (f x fun y => forceL f l fun l => k (y :: l)) = _
  rw [hf, ih]
theorem forceA_eq : ∀ n a k, forceA n a k = k a := by
 intro n
 induction n with
 | zero => intro a k; rfl
 | succ n ih =>
  intro a k
  cases a with
  | sc v =>
   cases v <;> rfl
  | agg cs => exact forceL_eq ih cs fun l => k (.agg l)
  | tup cs => exact forceL_eq ih cs fun l => k (.tup l)
  | _ => rfl
theorem forceO_eq (v : Option Slot) (k : Option Slot → Prop) : forceO v k = k v := by
 cases v with
 | none => rfl
 | some s =>
  cases s with
  | v a => exact forceA_eq 2 a fun a => k (some (.v a))
  | lp i j => rfl
  | unk => rfl
theorem forceT_eq : ∀ (t : Tr Slot) (k : Tr Slot → Prop), forceT t k = k t := by
 intro t
 induction t with
 | leaf => intro k; rfl
 | node l v r ihl ihr =>
  intro k
  show (forceT l fun l => forceT r fun r => forceO v fun v => k (.node l v r)) = _
  rw [ihl, ihr, forceO_eq]
theorem forceC_eq : ∀ (l : List LObj) (k : List LObj → Prop), forceC l k = k l := by
 intro l
 induction l with
 | nil => intro k; rfl
 | cons x l ih =>
  intro k
  cases x with
  | cells cs =>
   show (forceL (forceA 1) cs fun cs => forceC l fun l => k (.cells cs :: l)) = _
   rw [forceL_eq (forceA_eq 1), ih]
  | iter s p => exact ih fun l => k (.iter s p :: l)
theorem forceH_eq : ∀ (t : Tr AObj) (k : Tr AObj → Prop), forceH t k = k t := by
 intro t
 induction t with
 | leaf => intro k; rfl
 | node l v r ihl ihr =>
  intro k
  show (forceH l fun l => forceH r fun r => match v with
   | none => k (.node l none r)
   | some o => match o with
    | .cells cs => forceL (forceA 1) cs fun cs => k (.node l (some (.cells cs)) r)
    | o => k (.node l (some o) r)) = _
  rw [ihl, ihr]
  cases v with
  | none => rfl
  | some o =>
   cases o with
   | cells cs => exact forceL_eq (forceA_eq 1) cs fun cs => k (.node l (some (.cells cs)) r)
   | _ => rfl
theorem forceS_eq (σ : St) (k : St → Prop) : forceS σ k = k σ := by
 obtain ⟨n, tm, d, loc, h⟩ := σ
 obtain ⟨nx, objs, ro, ty⟩ := h
 show (forceT tm fun tm => forceC loc fun loc => forceH objs fun objs => k ⟨n, tm, d, loc, ⟨nx, objs, ro, ty⟩⟩) = _
 rw [forceT_eq, forceC_eq, forceH_eq]
theorem forceZ_eq (b : Bool) (σ : St) (k : St → Prop) : forceZ b σ k = k σ := by
 unfold forceZ
 cases b with
 | false => exact forceS_eq σ k
 | true =>
  obtain ⟨n, tm, d, loc, h⟩ := σ
  show (forceT tm fun tm => forceC loc fun loc => k ⟨n, tm, d, loc, h⟩) = _
  rw [forceT_eq, forceC_eq]
theorem wpCAlts_ok {K : AV → Heap → Prop} : ∀ {l : List CAlt}, wpCAlts l K → ∀ a ∈ l, ∀ x, a.post x → K (a.val x) (a.heap x) := by
 intro l
 induction l with
 | nil => intro _ a ha; cases ha
 | cons s r ih =>
  intro h a ha
  cases r with
  | nil =>
   cases ha with
   | head => exact h
   | tail _ h' => cases h'
  | cons u r =>
   cases ha with
   | head => exact h.1
   | tail _ h' => exact ih h.2 a h'
theorem wpLAlts_ok {K : Ex → St → Prop} : ∀ {l : List LAlt}, wpLAlts l K → ∀ a ∈ l, ∀ x, a.post x → K a.ex (a.st x) := by
 intro l
 induction l with
 | nil => intro _ a ha; cases ha
 | cons s r ih =>
  intro h a ha
  cases r with
  | nil =>
   cases ha with
   | head => exact h
   | tail _ h' => cases h'
  | cons u r =>
   cases ha with
   | head => exact h.1
   | tail _ h' => exact ih h.2 a h'
theorem callB_ok {run : RunW} (H : RunWOk P C run) : CallWOk P C (wpCallB C P run) := by
 intro g args h K hw
 unfold wpCallB at hw
 split at hw
 ·rename_i fn hf
  split at hw
  ·rename_i c hb
   obtain ⟨m, e, τ, h1, h2⟩ := H g c _ _ hw
   split at h2
   ·rename_i v h' he
    refine ⟨m, v, h', ?_, h2⟩
    unfold evCall callWith
    rw [hf]; simp only []; rw [hb]; simp only []
    unfold entry at h1
    rw [h1]; exact he
   ·exact h2.elim
  ·exact hw.elim
 ·exact hw.elim
theorem callP_okW {call : CallW} (O : TabOk P C T) (H : CallWOk P C call) {g : FuncId} {args : List AV} {h : Heap} {K : AV → Heap → Prop} (hw : wpCallP T C call g args h K) : EvP C P g args h K := by
 unfold wpCallP at hw
 split at hw
 ·rename_i t ht
  split at hw
  ·rename_i s hs
   obtain ⟨a, ha, x, m, h1, h2⟩ := O.call g t args h s ht hs hw.1
   exact ⟨m, _, _, h2, wpCAlts_ok hw.2 a ha x h1⟩
  ·exact hw.elim
 ·split at hw
  ·rename_i p hp
   split at hw
   ·rename_i v h' he
    exact ⟨0, v, h', by unfold callP; rw [hp]; exact he, hw⟩
   ·exact hw.elim
  ·rename_i hp
   cases hfr : C.fresh g with
   | true =>
    rw [hfr] at hw
    simp only [cond_true] at hw
    cases hdp : T.deep g with
    | true =>
     rw [hdp] at hw
     simp only [cond_true] at hw
     unfold wpDeepA at hw
     split at hw
     ·rename_i args' h1
      obtain ⟨m, v, h', h3, h4⟩ := H _ _ _ _ hw
      unfold wpDeepB at h4
      split at h4
      ·rename_i y h5
       refine ⟨m, y, h, ?_, h4⟩
       unfold callP
       rw [hp]; simp only []; rw [hfr]; simp only [cond_true]; rw [h1]; simp only []; rw [h3]; simp only []; rw [h5]
      ·exact h4.elim
     ·exact hw.elim
    | false =>
    rw [hdp] at hw
    simp only [cond_false] at hw
    obtain ⟨args', h1, h2⟩ := wpStrips_ok _ _ hw
    obtain ⟨m, v, h', h3, h4⟩ := H _ _ _ _ h2
    obtain ⟨y, h5, h6⟩ := wpBack_ok h4
    refine ⟨m, y, h, ?_, h6⟩
    unfold callP
    rw [hp]; simp only []; rw [hfr]; simp only [cond_true]; rw [h1]; simp only []; rw [h3]; simp only []; rw [h5]
   | false =>
    rw [hfr] at hw
    simp only [cond_false] at hw
    cases him : C.imp g with
    | true =>
     rw [him] at hw
     simp only [cond_true] at hw
     split at hw
     ·rename_i args' h1 hi
      obtain ⟨m, v, h', h3, h4⟩ := H _ _ _ _ hw
      have key : ∃ y, strip 8 h' v = some y ∧ K y h := by
       cases hdp : T.deep g with
       | true =>
        rw [hdp] at h4
        simp only [cond_true] at h4
        unfold wpDeepB at h4
        split at h4
        ·rename_i y h5
         exact ⟨y, h5, h4⟩
        ·exact h4.elim
       | false =>
        rw [hdp] at h4
        exact wpBack_ok h4
      obtain ⟨y, h5, h6⟩ := key
      refine ⟨m, y, h, ?_, h6⟩
      unfold callP
      rw [hp]; simp only []; rw [hfr, him]; simp only [cond_true, cond_false]; rw [hi]; simp only []; rw [h3]; simp only []; rw [h5]
     ·exact hw.elim
    | false =>
    rw [him] at hw
    simp only [cond_false] at hw
    cases hpu : C.pure g with
    | true =>
     rw [hpu] at hw
     obtain ⟨m, v, h', h3, h4⟩ := H _ _ _ _ hw
     obtain ⟨y, h5, h6⟩ := wpBack_ok h4
     refine ⟨m, y, h, ?_, h6⟩
     unfold callP
     rw [hp]; simp only []; rw [hfr, him, hpu]; simp only [cond_true, cond_false]; rw [h3]; simp only []; rw [h5]
    | false =>
     rw [hpu] at hw
     obtain ⟨m, v, h', h3, h4⟩ := H _ _ _ _ hw
     refine ⟨m, v, h', ?_, h4⟩
     unfold callP
     rw [hp]; simp only []; rw [hfr, him, hpu]; exact h3
theorem evP_back {σ : St} {g : FuncId} {args : List AV} {K : KS} (h : EvP C P g args σ.h fun v h => K (.v v) { σ with h := h }) : ∃ m s τ, back σ (callP C (evCall C P m) g args σ.h) = some (s, τ) ∧ K s τ := by
 obtain ⟨m, v, h', h1, h2⟩ := h
 exact ⟨m, _, _, by rw [h1]; rfl, h2⟩
theorem op_okW {call : CallW} (O : TabOk P C T) (H : CallWOk P C call) {f : FuncId} {o : Oper} {σ : St} {K : KS} (hw : wpOp T C P call f o σ K) : ∃ m s τ, evOp C P (evCall C P m) f o σ = some (s, τ) ∧ K s τ := by
 unfold wpOp at hw
 split at hw
 ·rename_i ho; obtain ⟨s, τ, h1, h2⟩ := wpIndex_ok hw; exact ⟨0, s, τ, by unfold evOp; rw [ho]; exact h1, h2⟩
 ·rename_i ho; obtain ⟨s, τ, h1, h2⟩ := wpSlice_ok hw; exact ⟨0, s, τ, by unfold evOp; rw [ho]; exact h1, h2⟩
 ·rename_i ho; obtain ⟨s, τ, h1, h2⟩ := wpIndexAddr_ok hw; exact ⟨0, s, τ, by unfold evOp; rw [ho]; exact h1, h2⟩
 ·rename_i ho; obtain ⟨s, τ, h1, h2⟩ := wpBin_ok hw; exact ⟨0, s, τ, by unfold evOp; rw [ho]; exact h1, h2⟩
 ·rename_i ho; obtain ⟨s, τ, h1, h2⟩ := wpConv_ok hw; exact ⟨0, s, τ, by unfold evOp; rw [ho]; exact h1, h2⟩
 ·rename_i ho; obtain ⟨s, τ, h1, h2⟩ := wpLoad_ok hw; exact ⟨0, s, τ, by unfold evOp; rw [ho]; exact h1, h2⟩
 ·rename_i ho; obtain ⟨s, τ, h1, h2⟩ := wpStore_ok hw; exact ⟨0, s, τ, by unfold evOp; rw [ho]; exact h1, h2⟩
 ·rename_i ho; obtain ⟨s, τ, h1, h2⟩ := wpMake_ok hw; exact ⟨0, s, τ, by unfold evOp; rw [ho]; exact h1, h2⟩
 ·rename_i c ho
  unfold wpOpCall at hw
  split at hw
  ·exact hw.elim
  ·rename_i args hargs
   split at hw
   ·rename_i b hb
    split at hw
    ·split at hw
     ·obtain ⟨s, τ, h1, h2⟩ := wpCopy_ok hw
      exact ⟨0, s, τ, by unfold evOp; rw [ho]; simp only []; unfold opCall; rw [hargs]; simp only []; rw [hb]; exact h1, h2⟩
     ·exact hw.elim
    ·cases hsn : T.symN f with
     | true =>
      rw [hsn] at hw
      simp only [cond_true] at hw
      split at hw
      ·obtain ⟨s, τ, h1, h2⟩ := wpAppendG_ok hw
       exact ⟨0, s, τ, by unfold evOp; rw [ho]; simp only []; unfold opCall; rw [hargs]; simp only []; rw [hb]; exact h1, h2⟩
      ·exact hw.elim
     | false =>
      rw [hsn] at hw
      simp only [cond_false] at hw
      obtain ⟨s, τ, h1, h2⟩ := wpBuiltin_ok hw
      exact ⟨0, s, τ, by unfold evOp; rw [ho]; simp only []; unfold opCall; rw [hargs]; simp only []; rw [hb]; exact h1, h2⟩
    ·obtain ⟨s, τ, h1, h2⟩ := wpBuiltin_ok hw
     exact ⟨0, s, τ, by unfold evOp; rw [ho]; simp only []; unfold opCall; rw [hargs]; simp only []; rw [hb]; exact h1, h2⟩
   ·rename_i x hx
    cases h8 : C.is f o.dst 8 && !quietCal C σ x with
    | true => rw [h8] at hw; exact hw.elim
    | false =>
     rw [h8] at hw
     simp only [cond_false] at hw
     unfold wpCallV at hw
     split at hw
     ·rename_i g first cap hv
      obtain ⟨m, s, τ, h1, h2⟩ := evP_back (callP_okW O H hw)
      exact ⟨m, s, τ, by unfold evOp; rw [ho]; simp only []; unfold opCall; rw [hargs]; simp only []; rw [hx]; simp only []; unfold callQ; rw [h8]; simp only [cond_false]; unfold callVal; rw [hv]; exact h1, h2⟩
     ·exact hw.elim
   ·rename_i x name hx
    unfold wpCallM at hw
    split at hw
    ·rename_i t v hv
     split at hw
     ·rename_i g r hm
      obtain ⟨m, s, τ, h1, h2⟩ := evP_back (callP_okW O H hw)
      exact ⟨m, s, τ, by unfold evOp; rw [ho]; simp only []; unfold opCall; rw [hargs]; simp only []; rw [hx]; simp only []; unfold callMeth; rw [hv]; simp only []; rw [hm]; exact h1, h2⟩
     ·exact hw.elim
    ·exact hw.elim
 ·obtain ⟨s, τ, h1, h2⟩ := wpRes_ok hw
  exact ⟨0, s, τ, op_le (fun _ _ _ _ h => by cases h) h1, h2⟩
theorem step_okW {call : CallW} (O : TabOk P C T) (H : CallWOk P C call) {f : FuncId} {ops : Array Oper} {o : Oper} {σ : St} {K : St → Prop} (hw : wpStep T C P call f ops o σ K) : ∃ m τ, evStep C P (evCall C P m) f ops o σ = some τ ∧ K τ := by
 unfold wpStep at hw
 split at hw
 ·rename_i q hq
  rcases iteP_elim hw with ⟨h1, h2⟩ | ⟨h1, h2⟩
  ·obtain ⟨m, s, τ, h3, h4⟩ := op_okW O H h2
   obtain ⟨τ', h5, h6⟩ := wpPutN_ok h4
   refine ⟨m, τ', ?_, h6⟩
   unfold evStep
   rw [hq, h1]; simp only []; rw [h3]; exact h5
  ·clear hw
   split at h2
   ·rename_i τ hp
    refine ⟨0, τ, ?_, h2⟩
    unfold evStep
    rw [hq, h1]; exact hp
   ·exact h2.elim
 ·exact hw.elim
theorem ops_okW {call : CallW} (O : TabOk P C T) (H : CallWOk P C call) {f : FuncId} {ops : Array Oper} : ∀ (l : List Oper) (σ : St) (K : St → Prop), wpOpsW T C P call f ops l σ K → ∃ m τ, evOps C P (evCall C P m) f ops l σ = some τ ∧ K τ := by
 intro l
 induction l with
 | nil => intro σ K h; exact ⟨0, σ, rfl, h⟩
 | cons o l ih =>
  intro σ K h
  obtain ⟨m, τ, h1, h2⟩ := step_okW O H (K := fun τ => wpOpsW T C P call f ops l τ K) h
  obtain ⟨m', τ', h3, h4⟩ := ih τ K h2
  refine ⟨max m m', τ', ?_, h4⟩
  rw [evOps_cons, step_le (call_mono (Nat.le_max_left m m')) h1]
  exact ops_le (call_mono (Nat.le_max_right m m')) _ _ _ h3
theorem Ev.region {f : FuncId} {id : Nat} {ops : Array Oper} {draw : Bool} {σ : St} {K : KR} (hd : (draw && C.bad f id) = false) (h : ∃ m τ, evOps C P (evCall C P m) f ops ops.toList σ = some τ ∧ K .normal τ) : Ev C P f (.region id ops draw) σ K := by
 obtain ⟨m, τ, h1, h2⟩ := h
 refine ⟨m + 1, .normal, τ, ?_, h2⟩
 show evReg C P (callWith C P (evCode C P m)) f id ops draw σ = _
 unfold evReg
 rw [hd]; simp only [cond_false]
 show (match evOps C P (evCall C P m) f ops ops.toList σ with | some σ' => some (Ex.normal, σ') | none => none) = _
 rw [h1]
theorem Ev.seq {f : FuncId} {a b : Code} {σ : St} {K : KR} (h : Ev C P f a σ fun e τ => match e with | .normal => Ev C P f b τ K | .exit i => K (.exit i) τ | .ret => K .ret τ) : Ev C P f (.seq a b) σ K := by
 obtain ⟨m, e, τ, h1, h2⟩ := h
 cases e with
 | normal =>
  obtain ⟨m', e', τ', h3, h4⟩ := h2
  refine ⟨max m m' + 1, e', τ', ?_, h4⟩
  show evSeq (evCode C P (max m m') f a σ) (evCode C P (max m m') f b) = _
  rw [code_mono (Nat.le_max_left m m') _ _ _ _ h1]
  exact code_mono (Nat.le_max_right m m') _ _ _ _ h3
 | exit i =>
  refine ⟨m + 1, .exit i, τ, ?_, h2⟩
  show evSeq (evCode C P m f a σ) (evCode C P m f b) = _
  rw [h1]; rfl
 | ret =>
  refine ⟨m + 1, .ret, τ, ?_, h2⟩
  show evSeq (evCode C P m f a σ) (evCode C P m f b) = _
  rw [h1]; rfl
theorem Ev.cond {f : FuncId} {c : Operand} {a b : Code} {σ : St} {K : KR} {t : Bool} (hc : σ.val c = some (.sc (.bool t))) (h : iteP t (Ev C P f a σ K) (Ev C P f b σ K)) : Ev C P f (.cond c a b) σ K := by
 cases t with
 | true =>
  obtain ⟨m, e, τ, h1, h2⟩ := h
  refine ⟨m + 1, e, τ, ?_, h2⟩
  show evCond σ c (evCode C P m f a σ) (evCode C P m f b σ) = _
  unfold evCond; rw [hc]; exact h1
 | false =>
  obtain ⟨m, e, τ, h1, h2⟩ := h
  refine ⟨m + 1, e, τ, ?_, h2⟩
  show evCond σ c (evCode C P m f a σ) (evCode C P m f b σ) = _
  unfold evCond; rw [hc]; exact h1
theorem Ev.block {f : FuncId} {id : Nat} {b : Code} {σ : St} {K : KR} (h : Ev C P f b σ fun e τ => match e with | .normal => K .normal τ | .exit i => bif Nat.beq i id then K .normal τ else K (.exit i) τ | .ret => K .ret τ) : Ev C P f (.block id b) σ K := by
 obtain ⟨m, e, τ, h1, h2⟩ := h
 cases e with
 | normal => exact ⟨m + 1, .normal, τ, by show evBlk id (evCode C P m f b σ) = _; rw [h1]; rfl, h2⟩
 | ret => exact ⟨m + 1, .ret, τ, by show evBlk id (evCode C P m f b σ) = _; rw [h1]; rfl, h2⟩
 | exit i =>
  cases hq : Nat.beq i id with
  | true =>
   simp only [hq, cond_true] at h2
   exact ⟨m + 1, .normal, τ, by show evBlk id (evCode C P m f b σ) = _; rw [h1]; simp only [evBlk, hq, cond_true], h2⟩
  | false =>
   simp only [hq, cond_false] at h2
   exact ⟨m + 1, .exit i, τ, by show evBlk id (evCode C P m f b σ) = _; rw [h1]; simp only [evBlk, hq, cond_false], h2⟩
theorem Ev.loop {f : FuncId} {b : Code} {σ : St} {K : KR} (ht : C.tidy f (firstId 8 b) = none) (h : Ev C P f b σ fun e τ => match e with | .normal => Ev C P f (.loop b) τ K | .exit i => K (.exit i) τ | .ret => K .ret τ) : Ev C P f (.loop b) σ K := by
 obtain ⟨m, e, τ, h1, h2⟩ := h
 have key : ∀ m, evCode C P (m + 1) f (.loop b) σ = evSeq (evCode C P m f b σ) (evCode C P m f (.loop b)) := by
  intro m
  show (match C.tidy f (firstId 8 b) with | none => _ | some t => _) = _
  rw [ht]; rfl
 cases e with
 | normal =>
  obtain ⟨m', e', τ', h3, h4⟩ := h2
  refine ⟨max m m' + 1, e', τ', ?_, h4⟩
  rw [key, code_mono (Nat.le_max_left m m') _ _ _ _ h1]
  exact code_mono (Nat.le_max_right m m') _ _ _ _ h3
 | exit i => exact ⟨m + 1, .exit i, τ, by rw [key, h1]; rfl, h2⟩
 | ret => exact ⟨m + 1, .ret, τ, by rw [key, h1]; rfl, h2⟩
theorem Ev.loopT {f : FuncId} {b : Code} {σ : St} {K : KR} {t : Tidy} (ht : C.tidy f (firstId 8 b) = some t) (h : Ev C P f b (σ.tidy t.head t.nloc) fun e τ => match e with | .normal => Ev C P f (.loop b) τ K | .exit i => K (.exit i) (τ.tidy t.exit t.nloc) | .ret => K .ret (τ.tidy t.exit t.nloc)) : Ev C P f (.loop b) σ K := by
 obtain ⟨m, e, τ, h1, h2⟩ := h
 have key : ∀ m, evCode C P (m + 1) f (.loop b) σ = evLoop t (evCode C P m f b (σ.tidy t.head t.nloc)) (evCode C P m f (.loop b)) := by
  intro m
  show (match C.tidy f (firstId 8 b) with | none => _ | some t => _) = _
  rw [ht]; rfl
 cases e with
 | normal =>
  obtain ⟨m', e', τ', h3, h4⟩ := h2
  refine ⟨max m m' + 1, e', τ', ?_, h4⟩
  rw [key, code_mono (Nat.le_max_left m m') _ _ _ _ h1]
  exact code_mono (Nat.le_max_right m m') _ _ _ _ h3
 | exit i => exact ⟨m + 1, _, _, by rw [key, h1]; rfl, h2⟩
 | ret => exact ⟨m + 1, _, _, by rw [key, h1]; rfl, h2⟩
theorem Ev.mono {f : FuncId} {c : Code} {σ : St} {K K' : KR} (h : Ev C P f c σ K) (hk : ∀ e τ, K e τ → K' e τ) : Ev C P f c σ K' := by
 obtain ⟨m, e, τ, h1, h2⟩ := h
 exact ⟨m, e, τ, h1, hk e τ h2⟩
theorem code1_okW {run : RunW} (O : TabOk P C T) (H : RunWOk P C run) : RunWOk P C (wpCode1 T C P run) := by
 intro f c σ K hw
 cases c with
 | skip => exact ⟨1, _, _, rfl, hw⟩
 | region id ops draw =>
  replace hw : bif draw && C.bad f id then False else wpOpsW T C P (wpCallB C P run) f ops ops.toList σ fun τ => forceZ (T.lazy f) τ fun τ => K .normal τ := hw
  simp only [forceZ_eq] at hw
  cases hd : draw && C.bad f id with
  | true => rw [hd] at hw; exact hw.elim
  | false => rw [hd] at hw; exact Ev.region hd (ops_okW O (callB_ok H) _ _ _ hw)
 | seq a b =>
  refine Ev.seq ((H f a σ _ hw).mono fun e τ h => ?_)
  cases e with
  | normal => exact H f b τ K h
  | exit i => exact h
  | ret => exact h
 | cond k a b =>
  simp only [wpCode1] at hw
  split at hw
  ·rename_i t ht
   refine Ev.cond ht ?_
   cases t with
   | true => exact H f a σ K hw
   | false => exact H f b σ K hw
  ·exact hw.elim
 | block id b => exact Ev.block (H f b σ _ hw)
 | loop b =>
  simp only [wpCode1] at hw
  split at hw
  ·rename_i t ht
   split at hw
   ·rename_i s hs
    obtain ⟨h1, h2, h3⟩ := hw
    obtain ⟨a, ha, x, m, h4, h5⟩ := O.loop _ _ _ _ _ ht hs h2
    rw [h1] at h5
    exact ⟨m, _, _, h5, wpLAlts_ok h3 a ha x h4⟩
   ·exact hw.elim
  ·split at hw
   ·rename_i ht
    refine Ev.loop ht ((H f b σ _ hw).mono fun e τ h => ?_)
    cases e with
    | normal => exact H f (.loop b) τ K h
    | exit i => exact h
    | ret => exact h
   ·rename_i t ht
    refine Ev.loopT ht ((H f b _ _ hw).mono fun e τ h => ?_)
    cases e with
    | normal => exact H f (.loop b) τ K h
    | exit i => exact h
    | ret => exact h
 | exit id => exact ⟨1, _, _, rfl, hw⟩
 | ret => exact ⟨1, _, _, rfl, hw⟩
 | scope b =>
  obtain ⟨m, e, τ, h1, h2⟩ := H f b σ K hw
  exact ⟨m + 1, e, τ, h1, h2⟩
 | label l => exact ⟨1, _, _, rfl, hw⟩
 | _ => exact hw.elim
theorem code_okW (O : TabOk P C T) : ∀ n, RunWOk P C (wpCode T C P n) := by
 intro n
 induction n with
 | zero => intro f c σ K h; exact h.elim
 | succ n ih => exact code1_okW O ih
theorem call_okW (O : TabOk P C T) (n : Nat) : CallWOk P C (wpCall T C P n) := callB_ok (code_okW O n)
end
end
end Go.Ef
namespace Go.Ef
open Go
noncomputable section
def sStr (l : List UInt8) : Slot := .v (.sc (.string ⟨⟨l⟩⟩))
def sInt (n : Int) : Slot := .v (.sc (.int .i64 n))
def sBool (b : Bool) : Slot := .v (.sc (.bool b))
def aStr (l : List UInt8) : AV := .sc (.string ⟨⟨l⟩⟩)
def stOf (n : Nat) (l : List (Nat × Slot)) (loc : List LObj) (h : Heap) : St :=
 { n := n, tm := List.rec (motive := fun _ => Tr Slot) .leaf (fun p _ ih => ih.set p.1 p.2) l, d := .unk, loc := loc, h := h }
def slI (σ : St) (t : Nat) : Int :=
 match σ.at t with
 | .v (.sc (.int _ n)) => n
 | _ => 0
def slS (σ : St) (t : Nat) : List UInt8 :=
 match σ.at t with
 | .v (.sc (.string s)) => s.data.toList
 | _ => []
def slEls (σ : St) (t : Nat) : List (List AV) :=
 match σ.at t with
 | .v (.sl e _) => e
 | _ => []
def wpRound (T : Tab) (C : Cfg) (P : Program) (n : Nat) (f i : Nat) (σ : St) (N : St → Prop) (X : Ex → St → Prop) : Prop :=
 match C.tidy f i with
 | some t => wpCode T C P n f (loopAt P f i) σ fun e τ => match e with
  | .normal => N (τ.tidy t.head t.nloc)
  | .exit j => X (.exit j) (τ.tidy t.exit t.nloc)
  | .ret => X .ret (τ.tidy t.exit t.nloc)
 | none => False
theorem keep_keep (m : Nat) (s : Slot) : (s.keep m).keep m = s.keep m := by
 cases s with
 | lp k off =>
  simp only [Slot.keep]
  cases h : Nat.blt k m with
  | true => simp only [cond_true, h]
  | false => rfl
 | v a => rfl
 | unk => rfl
theorem keepTm_congr {σ τ : St} {m : Nat} : ∀ {l : List Nat}, (∀ t ∈ l, (σ.at t).keep m = (τ.at t).keep m) → keepTm σ m l = keepTm τ m l := by
 intro l
 induction l with
 | nil => intro _; rfl
 | cons x l ih =>
  intro h
  show (keepTm σ m l).set x ((σ.at x).keep m) = (keepTm τ m l).set x ((τ.at x).keep m)
  rw [ih fun t ht => h t (by simp [ht]), h x (by simp)]
theorem tidy_at (σ : St) (l : List Nat) (m t : Nat) (h : t ∈ l) : (σ.tidy l m).at t = (σ.at t).keep m := by
 show (match (keepTm σ m l).get t with | some s => s | none => Slot.unk) = _
 rw [keepTm_get, if_pos h]
theorem tidy_tidy (σ : St) (l : List Nat) (m : Nat) : (σ.tidy l m).tidy l m = σ.tidy l m := by
 have h1 : keepTm (σ.tidy l m) m l = keepTm σ m l := keepTm_congr fun t ht => by rw [tidy_at σ l m t ht, keep_keep]
 have h2 : (σ.loc.take m).take m = σ.loc.take m := by rw [List.take_take, Nat.min_self]
 show ({ n := σ.n, tm := keepTm (σ.tidy l m) m l, d := .unk, loc := (σ.loc.take m).take m, h := σ.h } : St) = _
 rw [h1, h2]
 rfl
section
variable {P : Program} {C : Cfg} {T : Tab}
theorem Ev.tidied {f : FuncId} {b : Code} {σ τ : St} {K : KR} {t : Tidy} (ht : C.tidy f (firstId 8 b) = some t) (hs : σ.tidy t.head t.nloc = τ.tidy t.head t.nloc) (h : Ev C P f (.loop b) τ K) : Ev C P f (.loop b) σ K := by
 obtain ⟨m, e, τ', h1, h2⟩ := h
 cases m with
 | zero => cases h1
 | succ m =>
  have key : ∀ σ, evCode C P (m + 1) f (.loop b) σ = evLoop t (evCode C P m f b (σ.tidy t.head t.nloc)) (evCode C P m f (.loop b)) := by
   intro σ
   show (match C.tidy f (firstId 8 b) with | none => _ | some t => _) = _
   rw [ht]; rfl
  refine ⟨m + 1, e, τ', ?_, h2⟩
  rw [key, hs, ← key]
  exact h1
end
end
end Go.Ef
namespace Go.Ef
open Go
theorem iteP_t {A B : Prop} : iteP true A B = A := rfl
theorem iteP_f {A B : Prop} : iteP false A B = B := rfl
theorem inRange_iff {n : Int} {m : Nat} : (inRange n m = true) = (0 ≤ n ∧ n < (m : Int)) := by
 simp [inRange]
theorem wrap64 (x : Int) : IntKind.i64.wrap x = (x + 9223372036854775808) % 18446744073709551616 - 9223372036854775808 := by
 have e : IntKind.i64.bits = 64 := rfl
 have g : IntKind.i64.signed = true := rfl
 have e1 : (2 : Int) ^ 64 = 18446744073709551616 := by decide
 have e2 : (2 : Int) ^ (64 - 1) = 9223372036854775808 := by decide
 simp only [IntKind.wrap, e, g, e1, e2, Bool.true_and, decide_eq_true_eq]
 by_cases h : x % 18446744073709551616 ≥ 9223372036854775808
 ·rw [if_pos h]; omega
 ·rw [if_neg h]; omega
theorem wrap_in {x : Int} (h1 : -9223372036854775808 ≤ x) (h2 : x ≤ 9223372036854775807) : IntKind.i64.wrap x = x := by rw [wrap64]; omega
end Go.Ef
namespace Go.Ef
open Go
noncomputable section
def tab0 : Tab := { call := fun _ => none, loop := fun _ _ => none, exact := fun _ _ => false, named := fun _ _ => false }
def Tab.addC (T : Tab) (g : FuncId) (t : List AV → Heap → Option CSpec) : Tab := { T with call := fun x => bif Nat.beq x g then some t else T.call x }
def Tab.addL (T : Tab) (f i : Nat) (t : St → Option LSpec) : Tab := { T with loop := fun x y => bif Nat.beq x f && Nat.beq y i then some t else T.loop x y }
def Tab.name (T : Tab) (f t : Nat) : Tab := { T with named := fun x y => bif Nat.beq x f && Nat.beq y t then true else T.named x y }
def fspec (pre : Prop) (v : AV) (h : Heap) : CSpec := { pre := pre, alts := [{ α := Unit, post := fun _ => True, val := fun _ => v, heap := fun _ => h }] }
def nspec {α : Type} (pre : Prop) (r : α) (val : α → AV) (h : Heap) : CSpec := { pre := pre, alts := [{ α := α, post := fun x => x = r, val := val, heap := fun _ => h }] }
def lspec (pre : Prop) (α : Type) (post : α → Prop) (ex : Ex) (st : α → St) : LSpec := { pre := pre, alts := [{ α := α, post := post, ex := ex, st := st }] }
section
variable {P : Program} {C : Cfg} {T : Tab}
theorem tab0_ok : TabOk P C tab0 := ⟨fun _ _ _ _ _ ht => (by cases ht), fun _ _ _ _ _ ht => (by cases ht)⟩
theorem addC_ok (O : TabOk P C T) {g : FuncId} {t : List AV → Heap → Option CSpec} (H : ∀ args h s, t args h = some s → s.pre → ∃ a ∈ s.alts, ∃ x m, a.post x ∧ callP C (evCall C P m) g args h = some (a.val x, a.heap x)) : TabOk P C (T.addC g t) := by
 refine ⟨fun x t' args h s ht hs hp => ?_, fun f i t' σ s ht => O.loop f i t' σ s ht⟩
 replace ht : (bif Nat.beq x g then some t else T.call x) = some t' := ht
 cases hq : Nat.beq x g with
 | true =>
  rw [hq] at ht
  cases ht
  rw [Nat.eq_of_beq_eq_true hq]
  exact H args h s hs hp
 | false =>
  rw [hq] at ht
  exact O.call x t' args h s ht hs hp
theorem addL_ok (O : TabOk P C T) {f i : Nat} {t : St → Option LSpec} (H : ∀ σ s, t σ = some s → s.pre → ∃ a ∈ s.alts, ∃ x, a.post x ∧ ∃ m, evCode C P m f (.loop (loopAt P f i)) σ = some (a.ex, a.st x)) : TabOk P C (T.addL f i t) := by
 refine ⟨fun g t' args h s ht => O.call g t' args h s ht, fun x y t' σ s ht hs hp => ?_⟩
 replace ht : (bif Nat.beq x f && Nat.beq y i then some t else T.loop x y) = some t' := ht
 cases hq : Nat.beq x f && Nat.beq y i with
 | true =>
  rw [hq] at ht
  simp only [Bool.and_eq_true] at hq
  cases ht
  rw [Nat.eq_of_beq_eq_true hq.1, Nat.eq_of_beq_eq_true hq.2]
  obtain ⟨a, ha, x, h1, m, h2⟩ := H σ s hs hp
  exact ⟨a, ha, x, m, h1, h2⟩
 | false =>
  rw [hq] at ht
  exact O.loop x y t' σ s ht hs hp
theorem nspec_ok {g : FuncId} {args : List AV} {h : Heap} {α : Type} {pre : Prop} {r : α} {val : α → AV} {s : CSpec} (hs : nspec pre r val h = s) (H : pre → EvP C P g args h fun v h' => v = val r ∧ h' = h) (hp : s.pre) :
  ∃ a ∈ s.alts, ∃ x m, a.post x ∧ callP C (evCall C P m) g args h = some (a.val x, a.heap x) := by
 subst hs
 obtain ⟨m, v, h', h1, rfl, rfl⟩ := H hp
 exact ⟨_, List.mem_singleton.2 rfl, r, m, rfl, h1⟩
theorem lspec_ok {f : FuncId} {b : Code} {σ : St} {α : Type} {pre : Prop} {post : α → Prop} {ex : Ex} {st : α → St} {s : LSpec} (hs : lspec pre α post ex st = s) (H : pre → Ev C P f (.loop b) σ fun e τ => ∃ x, post x ∧ e = ex ∧ τ = st x) (hp : s.pre) :
  ∃ a ∈ s.alts, ∃ x, a.post x ∧ ∃ m, evCode C P m f (.loop b) σ = some (a.ex, a.st x) := by
 subst hs
 obtain ⟨m, e, τ, h1, x, h2, rfl, rfl⟩ := H hp
 exact ⟨_, List.mem_singleton.2 rfl, x, h2, m, h1⟩
theorem wpStrip_mono : ∀ n v {k k' : AV → Prop}, wpStrip n v k → (∀ y, k y → k' y) → wpStrip n v k' := by
 intro n
 induction n with
 | zero =>
  intro v k k' h hk
  cases v with
  | sc v => exact hk _ h
  | sl els tok =>
   cases tok with
   | zero => exact hk _ h
   | succ t => exact h.elim
  | _ => exact h.elim
 | succ n ih =>
  have lists : ∀ (cs : List AV) {k k' : List AV → Prop}, List.rec (motive := fun _ => (List AV → Prop) → Prop) (fun k => k []) (fun x _ ihl k => wpStrip n x fun y => ihl fun l => k (y :: l)) cs k → (∀ y, k y → k' y) →
    List.rec (motive := fun _ => (List AV → Prop) → Prop) (fun k => k []) (fun x _ ihl k => wpStrip n x fun y => ihl fun l => k (y :: l)) cs k' := by
   intro cs
   induction cs with
   | nil => intro k k' h hk; exact hk _ h
   | cons x cs ihc => intro k k' h hk; exact ih x h fun y hy => ihc hy fun l hl => hk _ hl
  intro v k k' h hk
  cases v with
  | sc v => exact hk _ h
  | sl els tok =>
   cases tok with
   | zero => exact hk _ h
   | succ t =>
    obtain ⟨h1, h2⟩ := iteP_false (show iteP (plainEls els) (k (.sl els 0)) False from h)
    show iteP (plainEls els) (k' (.sl els 0)) False
    rw [h1]; exact hk _ h2
  | agg cs => exact lists cs h fun l hl => hk _ hl
  | tup cs => exact lists cs h fun l hl => hk _ hl
  | ifc t u => exact ih u h fun y hy => hk _ hy
  | fn f a b => exact lists a h fun l hl => lists b hl fun m hm => hk _ hm
  | _ => exact h.elim
theorem wpBack_mono {h : Heap} {r : AV} {k k' : AV → Prop} (H : wpBack h r k) (hk : ∀ y, k y → k' y) : wpBack h r k' := by
 cases r with
 | rsl id off len m =>
  replace H : (match strip 8 h (.rsl id off len m) with | some y => k y | none => False) := H
  show (match strip 8 h (.rsl id off len m) with | some y => k' y | none => False)
  split at H
  ·exact hk _ H
  ·exact H.elim
 | sl els tok => exact wpStrip_mono 8 (.sl els tok) H hk
 | sc v => exact wpStrip_mono 8 (.sc v) H hk
 | agg v => exact wpStrip_mono 8 (.agg v) H hk
 | tup v => exact wpStrip_mono 8 (.tup v) H hk
 | fn f a b => exact wpStrip_mono 8 (.fn f a b) H hk
 | ifc t v => exact wpStrip_mono 8 (.ifc t v) H hk
 | cp v => exact wpStrip_mono 8 (.cp v) H hk
 | gp g o => exact wpStrip_mono 8 (.gp g o) H hk
 | ptr g o => exact wpStrip_mono 8 (.ptr g o) H hk
 | mp g => exact wpStrip_mono 8 (.mp g) H hk
theorem EvP.fresh {g : FuncId} {args args' : List AV} {h : Heap} {K : AV → Heap → Prop} (hf : C.fresh g = true) (hp : C.prim g = none) (ha : mapO (stripA 8) args = some args')
  (H : EvC C P g args' heapF fun r h' => wpBack h' r fun y => K y h) : EvP C P g args h K := by
 obtain ⟨m, r, h', h1, h2⟩ := H
 obtain ⟨y, h3, h4⟩ := wpBack_ok h2
 refine ⟨m, y, h, ?_, h4⟩
 unfold callP
 rw [hp]; simp only []; rw [hf]; simp only [cond_true]; rw [ha]; simp only []; rw [h1]; simp only []; rw [h3]
theorem EvP.freshV (O : TabOk P C T) {n g : Nat} {args args' : List AV} {h : Heap} {v : AV} (hf : C.fresh g = true) (hp : C.prim g = none) (ha : mapO (stripA 8) args = some args')
  (H : wpCall T C P n g args' heapF fun r h' => wpBack h' r fun y => y = v) : EvP C P g args h fun y h' => y = v ∧ h' = h := by
 refine EvP.fresh hf hp ha ?_
 obtain ⟨m, r, h', h1, h2⟩ := call_okW O n g args' heapF _ H
 obtain ⟨y, h3, h4⟩ := wpBack_ok h2
 subst h4
 refine ⟨m, r, h', h1, ?_⟩
 have key : ∀ {k : AV → Prop}, wpBack h' r (fun y' => y' = y) → k y → wpBack h' r k := by
  intro k hb hk
  exact wpBack_mono hb fun z hz => hz ▸ hk
 exact key h2 ⟨rfl, rfl⟩
end
end
end Go.Ef
namespace Go.Ef
open Go
noncomputable section
section
variable {P : Program} {C : Cfg} {T : Tab}
theorem EvP.freshK (O : TabOk P C T) {n g : Nat} {args args' : List AV} {h : Heap} {Q : AV → Prop} (hf : C.fresh g = true) (hp : C.prim g = none) (ha : mapO (stripA 8) args = some args')
  (H : wpCall T C P n g args' heapF fun r h' => wpBack h' r Q) : EvP C P g args h fun y h' => Q y ∧ h' = h := by
 refine EvP.fresh hf hp ha ?_
 obtain ⟨m, r, h', h1, h2⟩ := call_okW O n g args' heapF _ H
 exact ⟨m, r, h', h1, wpBack_mono h2 fun y hy => ⟨hy, rfl⟩⟩
end
end
end Go.Ef
namespace Go.Ef
open Go
noncomputable section
section
variable {P : Program} {C : Cfg} {T : Tab}
theorem Ev.round (O : TabOk P C T) {n f i : Nat} {t : Tidy} {σ : St} {N : St → Prop} {X : Ex → St → Prop} {K : KR} (hi : firstId 8 (loopAt P f i) = i) (ht : C.tidy f i = some t) (hcan : σ.tidy t.head t.nloc = σ)
  (hs : wpRound T C P n f i σ N X) (hN : ∀ τ, N τ → Ev C P f (.loop (loopAt P f i)) τ K) (hX : ∀ e τ, X e τ → K e τ) : Ev C P f (.loop (loopAt P f i)) σ K := by
 unfold wpRound at hs
 rw [ht] at hs
 refine Ev.loopT (t := t) (by rw [hi]; exact ht) ?_
 rw [hcan]
 refine (code_okW O n f _ _ _ hs).mono fun e τ h => ?_
 cases e with
 | normal => exact Ev.tidied (t := t) (τ := τ.tidy t.head t.nloc) (by rw [hi]; exact ht) (tidy_tidy _ _ _).symm (hN _ h)
 | exit j => exact hX _ _ h
 | ret => exact hX _ _ h
end
end
end Go.Ef
namespace Go.Ef
open Go Go.RowKit
noncomputable section
def imm0 (w : World) : M := { imm := fun b o => w.cell? ⟨b, o, none⟩, rho := fun _ => none, own := fun _ => none }
def GlobOk (C : Cfg) (w : World) : Prop := ∀ g cs, C.glob g = some cs → ∀ (i : Nat) (x : AV), cs[i]? = some x → ∃ c, w.cell? ⟨g, i, none⟩ = some c ∧ V (imm0 w) x c
theorem heap0_get (id : Nat) : heap0.get id = none := by show (bif Nat.blt id 1 then (Tr.leaf : Tr AObj).get id else none) = none; cases Nat.blt id 1 <;> rfl
theorem start {C : Cfg} {w : World} (hg : GlobOk C w) : W C (imm0 w) heap0 w where
 imm := fun _ _ _ h => h
 cells := fun id cs h => by rw [heap0_get] at h; cases h
 own := fun id k _ _ h => by rw [heap0_get] at h; cases h
 map := fun id es h => by rw [heap0_get] at h; cases h
 apart := fun i j b h => by simp [M.blk, heap0_get] at h
 next := fun id h => absurd (heap0_get id) h
 ro := Nat.zero_le _
 pos := Nat.zero_lt_one
 zero := rfl
 fresh := fun _ _ => ⟨rfl, rfl⟩
 glob := fun g cs h i x hx => hg g cs h i x hx
 ty := fun id t h => by simp [heap0, Tr.get_leaf] at h
theorem ext_below {w w' : World} {μ' : M} {h' : Heap} (X : Ext (imm0 w) heap0 w μ' h' w') : Below w.heap.size w w' :=
 ⟨X.os, X.tape, X.output, X.size, fun k hk => X.frame k hk fun id _ h => by simp [M.blk, heap0_get] at h⟩
theorem law_of_ev {P : Program} {C : Cfg} (F : Fit P C) (n : Nat) {g : FuncId} {args : List AV} {vs : Array Value} {w : World} {h' : Heap} {b : Bool} (hg : GlobOk C w) (hv : VLs (imm0 w) args vs)
  (hc : evCall C P n g args heap0 = some (.sc (.bool b), h')) : Calls P g vs w fun e w' => e = .returned (.bool b) ∧ Below w.heap.size w w' :=
 (call_ok F n hc (start hg) hv).mono fun e w' ⟨v, μ', he, h1, _, X⟩ => by
  cases h1 with
  | sc _ => exact ⟨he, ext_below X⟩
end
end Go.Ef
namespace Go.Ef
open Go Go.RowKit
noncomputable section
mutual
def lits : DataW Unit → List AV
 | .lit (.int k v) => [.sc (.int k v)]
 | .lit (.string b) => [.sc (.string ⟨⟨b⟩⟩)]
 | .lit (.bool b) => [.sc (.bool b)]
 | .agg ps => litsAll ps
 | _ => []
def litsAll : List (DataW Unit) → List AV
 | [] => []
 | d :: r => lits d ++ litsAll r
end
def vAt (P : Program) : Nat → TypeId → DataW Unit → Nat → Option Value
 | 0, _, _, _ => none
 | fuel + 1, t, d, i =>
  match P.underlying t with
  | some (.int k) => match d with
   | .lit (.int k' n) => if k' = k ∧ i = 0 then some (.int k n) else none
   | _ => none
  | some .string => match d with
   | .lit (.string b) => if i = 0 then some (.string ⟨⟨b⟩⟩) else none
   | _ => none
  | some (.array _ e) => match d with
   | .agg ds => if i % P.cellsOf e < P.cellsOf e then (ds[i / P.cellsOf e]?).bind fun d => vAt P fuel e d (i % P.cellsOf e) else none
   | _ => none
  | some (.struct fs) => match d with
   | .agg ds => (fs.toList.zip ds).findSome? fun x => if x.1.offset ≤ i ∧ i < x.1.offset + P.cellsOf x.1.type then vAt P fuel x.1.type x.2 (i - x.1.offset) else none
   | _ => none
  | _ => none
theorem take_drop_get {α : Type} {l : List α} {a n i : Nat} {x : α} (h : ((l.drop a).take n)[i]? = some x) : l[a + i]? = some x := by
 rw [List.getElem?_take] at h
 split at h
 ·rw [List.getElem?_drop] at h; exact h
 ·cases h
theorem at_trod {P : Program} {w : World} {base : Nat} {sp : Nat → Bool} : ∀ (g fuel : Nat) (t : TypeId) (cs : List Value) (d : DataW Unit) (p : List MemPlace), DataW.trod (fun _ => ()) P w base sp false fuel t cs = some (d, p) →
  ∀ (i : Nat) (v : Value), vAt P g t d i = some v → cs[i]? = some v := by
 intro g
 induction g with
 | zero => intro fuel t cs d p _ i v h; cases h
 | succ g ih =>
  intro fuel t cs d p h i v hv
  cases fuel with
  | zero => simp [DataW.trod] at h
  | succ fuel =>
   unfold vAt at hv
   split at hv
   ·rename_i k ht
    obtain ⟨z, rfl, hx, _⟩ := DataW.trod_int ht h
    cases hx
    simp only at hv
    split at hv
    ·rename_i hk
     obtain ⟨_, rfl⟩ := hk
     cases hv; rfl
    ·cases hv
   ·rename_i ht
    obtain ⟨z, rfl, hx, _⟩ := DataW.trod_string ht h
    cases hx
    simp only at hv
    split at hv
    ·rename_i hi
     subst hi
     cases hv; rfl
    ·cases hv
   ·rename_i n e ht
    simp only [DataW.trod, ht] at h
    split at h
    ·obtain ⟨xs, hm, hx⟩ := Option.map_eq_some_iff.1 h
     cases hx
     simp only at hv
     split at hv
     ·obtain ⟨d', hd', hv'⟩ := Option.bind_eq_some_iff.1 hv
      rw [List.getElem?_map] at hd'
      obtain ⟨x, hx, rfl⟩ := Option.map_eq_some_iff.1 hd'
      have hlen := Lib.mapM_length hm
      have hlt : i / P.cellsOf e < n := by
       have := (List.getElem?_eq_some_iff.1 hx).1
       simp at hlen
       omega
      obtain ⟨b, hb, hf⟩ := Lib.mapM_at hm (i / P.cellsOf e) (i / P.cellsOf e) (by simp [hlt])
      rw [hx] at hb
      cases hb
      have := ih fuel e _ x.1 x.2 hf _ _ hv'
      have := take_drop_get this
      rwa [Nat.mul_comm, Nat.div_add_mod] at this
     ·cases hv
    ·cases h
   ·rename_i fs ht
    simp only [DataW.trod, ht] at h
    split at h
    ·obtain ⟨xs, hm, hx⟩ := Option.map_eq_some_iff.1 h
     cases hx
     simp only at hv
     obtain ⟨⟨f, d'⟩, hmem, hf⟩ := List.exists_of_findSome?_eq_some hv
     simp only at hf
     split at hf
     ·rename_i hr
      obtain ⟨j, hj⟩ := List.getElem?_of_mem hmem
      rw [List.getElem?_zip_eq_some] at hj
      obtain ⟨hj1, hj2⟩ := hj
      rw [List.getElem?_map] at hj2
      obtain ⟨x, hx, hxd⟩ := Option.map_eq_some_iff.1 hj2
      simp only at hj1 hxd
      obtain ⟨b, hb, hfb⟩ := Lib.mapM_at hm j f hj1
      rw [hx] at hb
      cases hb
      subst hxd
      have := ih fuel f.type _ x.1 x.2 hfb _ _ hf
      have := take_drop_get this
      rwa [show f.offset + (i - f.offset) = i by omega] at this
     ·cases hf
    ·cases h
   ·cases hv
def same : AV → Option Value → Bool
 | .sc (.int k n), some (.int k' n') => decide (k = k') && decide (n = n')
 | .sc (.string a), some (.string b) => decide (a.data.toList = b.data.toList)
 | .sc (.bool a), some (.bool b) => a == b
 | _, _ => false
theorem same_V {w : World} {x : AV} {v : Value} (h : same x (some v) = true) : V (imm0 w) x v := by
 unfold same at h
 split at h
 ·rename_i e
  cases e
  simp only [Bool.and_eq_true, decide_eq_true_eq] at h
  obtain ⟨rfl, rfl⟩ := h
  exact .sc rfl
 ·rename_i a b e
  cases e
  obtain ⟨⟨la⟩⟩ := a
  obtain ⟨⟨lb⟩⟩ := b
  simp only [decide_eq_true_eq] at h
  subst h
  exact .sc rfl
 ·rename_i e
  cases e
  obtain rfl : _ = _ := by simpa using h
  exact .sc rfl
 ·cases h
def chk (P : Program) (t : TypeId) (d : DataW Unit) : Nat → List AV → Bool
 | _, [] => true
 | i, x :: r => same x (vAt P 5 t d i) && chk P t d (i + 1) r
theorem chk_at {P : Program} {t : TypeId} {d : DataW Unit} : ∀ (l : List AV) (k : Nat), chk P t d k l = true → ∀ (i : Nat) (x : AV), l[i]? = some x → ∃ v, vAt P 5 t d (k + i) = some v ∧ same x (some v) = true := by
 intro l
 induction l with
 | nil => intro k _ i x h; simp at h
 | cons y r ih =>
  intro k h i x hx
  simp only [chk, Bool.and_eq_true] at h
  cases i with
  | zero =>
   simp at hx; subst hx
   have h1 := h.1
   rw [Nat.add_zero]
   cases hv : vAt P 5 t d k with
   | some v => rw [hv] at h1; exact ⟨v, rfl, h1⟩
   | none => rw [hv] at h1; unfold same at h1; split at h1 <;> first | (rename_i e; cases e) | cases h1
  | succ i =>
   rw [List.getElem?_cons_succ] at hx
   have := ih (k + 1) h.2 i x hx
   rwa [show k + 1 + i = k + (i + 1) by omega] at this
theorem row_glob {P : Program} {W : World} {name : String} {d : DataW Unit} {rest : List (String × DataW Unit)} {g : Nat} {t : TypeId} {cs : List AV}
  (hg : P.globalNamed name = some g) (hty : (P.globals[g]?).map (·.type) = some t) (hc : chk P t d 0 cs = true) (h : laidMet P ((name, d) :: rest) W) :
  ∀ (i : Nat) (x : AV), cs[i]? = some x → ∃ c, W.cell? ⟨g, i, none⟩ = some c ∧ V (imm0 W) x c := by
 obtain ⟨ps, ⟨g', t', l, fuel, p, q, hg', ht', hvar, hd, _, _⟩, _⟩ := h
 obtain rfl := Option.some.inj (hg.symm.trans hg')
 obtain rfl := Option.some.inj (hty.symm.trans ht')
 intro i x hx
 obtain ⟨v, hv, hs⟩ := chk_at cs 0 hc i x hx
 rw [Nat.zero_add] at hv
 have hcell := at_trod 5 fuel t _ d p hd i v hv
 refine ⟨v, ?_, same_V hs⟩
 rw [World.var?_cell hg hvar i]
 simpa using hcell
end
end Go.Ef
