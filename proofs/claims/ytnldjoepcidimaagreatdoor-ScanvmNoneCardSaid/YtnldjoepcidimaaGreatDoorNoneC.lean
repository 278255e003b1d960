/- A part of the proof: definitions and lemmas. -/
import Derived.Test.YtnldjoepcidimaaGreatDoorNoneA
import Derived.Test.YtnldjoepcidimaaGreatDoorNoneB
import Derived.Scope
import Derived.Orders
import Derived.LoopN
namespace Go.Ef
open Go
noncomputable section
variable {P : Program} {C : Cfg} {E : Ent} {L : List Nat} {μ : M} {σ : St} {a : Act} {w : World}
theorem Rel.localIter {w' : World} {s : ByteArray} {pos : Nat} (R : Rel C E L μ σ a w) (G : Grew w w' (.stringIter s pos)) : Rel C E (L ++ [w.heap.size]) μ { σ with loc := σ.loc ++ [.iter s pos] } a w' := by
  have H := R.world
  have keep : ∀ id b, μ.blk σ.h id = some b → w'.heap[b]? = w.heap[b]? := fun id b hb => G.old b (H.blk_lt hb)
  have nn : ∀ p, μ.imm w.heap.size p = none := by
    intro p
    cases hv : μ.imm w.heap.size p with
    | none => rfl
    | some v => have := H.imm_lt hv; omega
  refine { world := ?_, ext := ?_, n := R.n, tm := fun t ht => (R.tm t ht).mono (.refl _) fun k b hk => ?_, defers := R.defers, len := by simp [R.len], loc := ?_, nodup := ?_ }
  · exact { imm := fun b o v h => by rw [cell_of_heap (G.old b (H.imm_lt h))]; exact H.imm b o v h, cells := fun id cs hg => H.old_cells (.refl _) hg (keep id) (fun _ _ _ h => h),
            own := fun id k e _ hg => H.old_own hg rfl (keep id) (fun _ _ _ h => h), map := fun id es hg => H.old_map (.refl _) hg (keep id) (fun _ _ _ h => h),
            apart := H.apart, next := H.next, ro := H.ro, pos := H.pos, zero := H.zero, fresh := H.fresh, glob := H.glob, ty := H.keepTy rfl (Nat.le_refl _) (.refl _) fun b' x hx => by rw [shape_of_heap (G.old b' (shape_lt hx))]; exact hx }
  · have X := R.ext
    exact { le := X.le, os := G.os.trans X.os, tape := G.tape.trans X.tape, output := G.output.trans X.output, size := by rw [G.size]; have := X.size; omega, ro := X.ro, next := X.next,
            frame := fun b hb hn => (G.old b (Nat.lt_of_lt_of_le hb X.size)).trans (X.frame b hb hn), came := X.came, imm := X.imm }
  · rw [List.getElem?_append_left (lt_of_get? hk)]; exact hk
  · intro k b o hk ho
    by_cases hlt : k < L.length
    · rw [List.getElem?_append_left hlt] at hk
      rw [List.getElem?_append_left (R.len ▸ hlt)] at ho
      obtain ⟨h1, h2, h3, h4⟩ := R.loc k b o hk ho
      exact ⟨h1.keep (.refl _) (G.old b h1.lt), h2, h3, h4⟩
    · have hk' := lt_of_get? hk
      simp at hk'
      have : k = L.length := by omega
      subst this
      simp at hk
      subst hk
      rw [R.len] at ho
      simp at ho
      subst ho
      refine ⟨G.new, nn, fun id hid => ?_, .inr R.ext.size⟩
      have := H.blk_lt hid; omega
  · have lt_of : ∀ (i b : Nat), L[i]? = some b → b < w.heap.size := by
      intro i b hi
      obtain ⟨o, ho⟩ := R.loc_at hi
      exact (R.loc i b o hi ho).1.lt
    intro i j b hi hj
    have li := lt_of_get? hi
    have lj := lt_of_get? hj
    simp at li lj
    by_cases e1 : i < L.length
    · rw [List.getElem?_append_left e1] at hi
      by_cases e2 : j < L.length
      · rw [List.getElem?_append_left e2] at hj
        exact R.nodup i j b hi hj
      · have : j = L.length := by omega
        subst this
        simp at hj
        have := lt_of i b hi; omega
    · have : i = L.length := by omega
      subst this
      simp at hi
      by_cases e2 : j < L.length
      · rw [List.getElem?_append_left e2] at hj
        have := lt_of j b hj; omega
      · omega
theorem Rel.setIter {s : ByteArray} {pos p k b : Nat} (R : Rel C E L μ σ a w) (hb : L[k]? = some b) (hc : σ.loc[k]? = some (.iter s pos)) :
  Rel C E L μ { σ with loc := σ.loc.set k (.iter s p) } a { w with heap := w.heap.setIfInBounds b (.stringIter s p) } := by
 obtain ⟨ok, hi, hne, hge0⟩ := R.loc k b _ hb hc
 have hge : E.w.heap.size ≤ b := hge0.resolve_left (by simp [LObj.still])
 have ok : w.heap[b]? = some (.stringIter s pos) := ok
 obtain ⟨s1, s2⟩ := MapKept.heap_set (o' := .stringIter s p) ok
 have H := R.world
 have other : ∀ b', b' ≠ b → ({ w with heap := w.heap.setIfInBounds b (.stringIter s p) } : World).heap[b']? = w.heap[b']? := s2
 have ne_of : ∀ j b', μ.blk σ.h j = some b' → b' ≠ b := fun j b' hb' e => hne j (e ▸ hb')
 have noshape : w.shape? b = none := by unfold World.shape?; rw [ok]
 refine { world := ?_, ext := ?_, n := R.n, tm := R.tm, defers := R.defers, len := by simpa using R.len, loc := ?_, nodup := R.nodup }
 ·refine { imm := ?_, cells := ?_, own := ?_, map := ?_, apart := H.apart, next := H.next, ro := H.ro, pos := H.pos, zero := H.zero, fresh := H.fresh, glob := H.glob, ty := H.keepTy rfl (Nat.le_refl _) (.refl _) fun b' x hx => ?_ }
  ·intro b' p v hv
   have hb' : b' ≠ b := by rintro rfl; rw [hi] at hv; cases hv
   rw [cell_of_heap (other b' hb')]; exact H.imm _ _ _ hv
  ·intro j l hj
   obtain ⟨b', base', sz', hr', ok', hi'⟩ := H.cells j l hj
   exact ⟨b', base', sz', hr', ok'.keep (.refl _) (other b' (ne_of j b' (by simp [M.blk, hj, hr']))), hi'⟩
  ·intro j k e0 n0 hj
   obtain ⟨b', E, R, hr', ⟨n, hq, hn⟩, q2, q3⟩ := H.own j k e0 n0 hj
   have hb' := other b' (ne_of j b' (by simp [M.blk, hj, hr']))
   exact ⟨b', E, R, hr', ⟨n, (shape_of_heap hb').trans hq, hn⟩, fun p a1 a2 => (frozen_of_heap hb' p).trans (q2 p a1 a2), q3⟩
  ·intro j es hj
   obtain ⟨b', hr', ⟨m, clk, hm, q⟩, hi'⟩ := H.map j es hj
   have hb' := other b' (ne_of j b' (by simp [M.blk, hj, hr']))
   exact ⟨b', hr', ⟨m, clk, hb'.trans hm, q⟩, hi'⟩
  ·have hb' : b' ≠ b := by rintro rfl; rw [noshape] at hx; cases hx
   rw [shape_of_heap (other b' hb')]; exact hx
 ·have X := R.ext
  refine { le := X.le, os := X.os, tape := X.tape, output := X.output, size := ?_, ro := X.ro, next := X.next, frame := fun b' hb' hn => (other b' (by omega)).trans (X.frame b' hb' hn), came := X.came, imm := X.imm }
  show _ ≤ (w.heap.setIfInBounds b (.stringIter s p)).size
  rw [Array.size_setIfInBounds]
  exact X.size
 ·intro j b' o hj ho
  simp only [List.getElem?_set] at ho
  by_cases e : k = j
  ·subst e
   have : b' = b := by rw [hb] at hj; exact (Option.some.inj hj).symm
   subst this
   simp only [if_true] at ho
   split at ho
   ·cases ho
    exact ⟨s1, hi, hne, .inr hge⟩
   ·cases ho
  ·simp only [e, if_false] at ho
   obtain ⟨g1, g2, g3, g4⟩ := R.loc j b' o hj ho
   have hb' : b' ≠ b := by rintro rfl; exact e (R.nodup k j b' hb hj)
   exact ⟨g1.keep (.refl _) (other b' hb'), g2, g3, g4⟩
theorem fine_range (R : Rel C E L μ σ a w) {o : Oper} {t : TypeId} {x : Operand} {r : Slot × St} (ho : o.op = .range t x) (h : opRange P σ t x = some r) : Fine P C E a w o r := by
 unfold opRange at h
 split at h
 ·rename_i s hx
  obtain ⟨hs, h⟩ := cond_some h
  cases h
  have hu : P.underlying t = some .string := by
   unfold isStringT at hs
   split at hs
   ·assumption
   ·cases hs
  have hv : a.eval x = .string s := V.sc_eq (val_rel R hx)
  have R' := R.localIter (grew_alloc w (.stringIter s 0))
  have hg : Gives P C E a w (Instr.range t (a.eval x)) (.lp (lenL σ.loc) 0, σ.setLoc (appL σ.loc [.iter s 0])) := by
   refine ⟨.pointer (some ⟨w.heap.size, 0, none⟩), w.alloc (.stringIter s 0), ?_, L ++ [w.heap.size], μ, ?_, ?_⟩
   ·rw [hv]
    simp [Instr.range, run_underlying hu]
   ·rw [appL_eq]; exact R'
   ·rw [lenL_eq]; exact ⟨_, by rw [← R.len]; simp, rfl⟩
  exact hg.fine (by simp [execOp, ho])
 ·cases h
theorem nextA_spec {s : ByteArray} {pos p : Nat} {v : AV} (h : nextA s pos = some (v, p)) :
  (s.size ≤ pos ∧ v = .tup [.sc (.bool false)] ∧ p = pos) ∨ ∃ c : Nat, pos < s.size ∧ Utf8.decode s pos = (c, 1) ∧ v = .tup [.sc (.bool true), .sc (goInt pos), .sc (.int .i32 c)] ∧ p = pos + 1 := by
 unfold nextA at h
 rw [getI_eq] at h
 split at h
 ·rename_i hn
  cases h
  refine .inl ⟨?_, rfl, rfl⟩
  have := List.getElem?_eq_none_iff.1 hn
  simpa using this
 ·rename_i b hb
  obtain ⟨h1, h2⟩ := cond_some h
  cases h2
  have hlt : pos < s.size := by simpa using lt_of_get? hb
  have h1 : b.toNat < 128 := by
   have := Nat.le_of_ble_eq_true h1
   omega
  refine .inr ⟨b.toNat, hlt, ?_, rfl, rfl⟩
  have e : s.get! (pos + 0) = b := by
   have hb' : s.data[pos]? = some b := by simpa using hb
   show s.data[pos + 0]! = b
   rw [getElem!_def, Nat.add_zero, hb']
  unfold Utf8.decode
  simp only [e]
  rw [if_pos h1]
theorem fine_next (R : Rel C E L μ σ a w) {o : Oper} {x : Operand} {str : Bool} {r : Slot × St} (ho : o.op = .next x str) (h : opNext σ x str = some r) : Fine P C E a w o r := by
 unfold opNext at h
 split at h
 ·rename_i k hx
  split at h
  ·rename_i s pos hc
   rw [getI_eq] at hc
   obtain ⟨hs, h⟩ := cond_some h
   subst hs
   split at h
   ·rename_i v p hn
    cases h
    obtain ⟨b, hb, hv⟩ := slot_rel R hx
    have ok : w.heap[b]? = some (.stringIter s pos) := (R.loc k b _ hb hc).1
    have hget : (getObj b).run P w = .ok (.stringIter s pos) w := by simp [getObj, Sem.run, ok]
    rcases nextA_spec hn with ⟨h1, rfl, hp⟩ | ⟨c, h1, h2, rfl, rfl⟩
    ·rw [hp]
     have hsame : σ.setLoc (listSet k (.iter s pos) σ.loc) = σ := by
      rw [listSet_eq, St.setLoc_eq]
      have : σ.loc.set k (.iter s pos) = σ.loc := by
       apply List.ext_getElem?
       intro i
       rw [List.getElem?_set]
       by_cases e : k = i
       ·subst e; rw [if_pos rfl, if_pos (lt_of_get? hc), hc]
       ·rw [if_neg e]
      rw [this]
     rw [hsame]
     have hg : Gives P C E a w (Instr.next (a.eval x) true o.type) (.v (.tup [.sc (.bool false)]), σ) := by
      refine give_V R (c := .tuple #[.bool false]) ?_ ?_
      ·rw [hv]
       simp [Instr.next, hget, Nat.not_lt.2 h1]
      ·refine V.tup rfl fun i x y hx hy => ?_
       cases i with
       | zero => simp at hx hy; subst hx; subst hy; exact V.sc rfl
       | succ i => simp at hx
     exact hg.fine (by simp [execOp, ho])
    ·have R' := R.setIter (p := pos + 1) hb hc
     rw [listSet_eq]
     have hg : Gives P C E a w (Instr.next (a.eval x) true o.type) (.v (.tup [.sc (.bool true), .sc (goInt pos), .sc (.int .i32 c)]), σ.setLoc (σ.loc.set k (.iter s (pos + 1)))) := by
      refine ⟨.tuple #[.bool true, goInt pos, .int .i32 c], _, ?_, L, μ, R', ?_⟩
      ·rw [hv]
       simp [Instr.next, hget, h1, h2, setObj, Sem.run, ok]
      ·refine V.tup rfl fun i x y hx hy => ?_
       match i with
       | 0 => simp at hx hy; subst hx; subst hy; exact V.sc rfl
       | 1 => simp at hx hy; subst hx; subst hy; exact V.sc rfl
       | 2 => simp at hx hy; subst hx; subst hy; exact V.sc rfl
       | i + 3 => simp at hx
     exact hg.fine (by simp [execOp, ho])
   ·cases h
  ·cases h
 ·cases h
end
end Go.Ef
namespace Go.Ef
open Go
section
variable {P : Program} {C : Cfg} {E : Ent} {L : List Nat} {μ : M} {σ : St} {a : Act} {w : World}
theorem fine_op (R : Rel C E L μ σ a w) {o : Oper} {call : CallF} {f : FuncId} (S : Sane P C) (K : CallOk P C call) (B : Bodied P call) {r : Slot × St} (h : evOp C P call f o σ = some r) : Fine P C E a w o r := by
 unfold evOp at h
 split at h <;> rename_i ho
 ·exact fine_move R (.inl ho) h
 ·exact fine_move R (.inr ho) h
 ·exact fine_pick R ho h
 ·exact fine_alloc R ho h
 ·exact fine_box R ho h
 ·exact fine_build R ho h
 ·exact fine_buildSlice R ho h
 ·exact fine_load R ho h
 ·exact fine_store R ho h
 ·exact fine_nil R ho h
 ·exact fine_bin R ho h
 ·exact fine_un R ho h
 ·exact fine_conv R ho h
 ·exact fine_iface R ho h
 ·exact fine_func R ho h
 ·exact fine_makeSlice R ho h
 ·exact fine_slice R ho h
 ·exact fine_fieldAddr R ho h
 ·exact fine_field R ho h
 ·exact fine_indexAddr R ho h
 ·exact fine_index R ho h
 ·exact fine_assert R ho h
 ·exact fine_extract R ho h
 ·exact fine_call R S K B ho h
 ·exact fine_lookup R ho h
 ·exact fine_makeMap R ho h
 ·exact fine_mapUpdate R (.inl ho) h
 ·exact fine_mapUpdate R (.inr ho) h
 ·exact fine_range R ho h
 ·exact fine_next R ho h
 ·cases h
theorem wanted_rel (R : Rel C E L μ σ a w) {ops : Array Oper} {o : Oper} {b : Bool} (h : wantedA ops o σ = some b) : Region.wanted o (yielded ops a.tmps) = b := by
 unfold wantedA at h
 unfold Region.wanted
 split at h
 ·rename_i hg; cases h; rw [hg]
 ·rename_i j want hg
  rw [hg]
  simp only []
  split at h
  ·rename_i oj hoj
   split at h
   ·rename_i t ht
    have hslot : ∀ s, σ.slot (.tmp t) = some s → t < a.tmps.size ∧ SlotRel L μ s (a.tmps.getD t undef) := by
     intro s hs
     refine ⟨?_, slot_rel R hs⟩
     simp only [St.slot] at hs
     cases hb : Nat.ble σ.n t with
     | true => simp [hb] at hs
     | false =>
      rw [← R.n]
      exact Nat.lt_of_not_ge fun hle => by simp [Nat.ble_eq_true_of_le hle] at hb
    have hy : ∀ v, t < a.tmps.size → a.tmps.getD t undef = v → yielded ops a.tmps j = (match some v with | some (.bool b) => some b | _ => none) := by
     intro v hlt hv
     unfold yielded
     rw [hoj]
     simp only [Option.bind_some, ht]
     rw [Array.getD_eq_getD_getElem?, Array.getElem?_eq_getElem hlt] at hv
     simp only [Option.getD_some] at hv
     rw [Array.getElem?_eq_getElem hlt, hv]
     cases v <;> rfl
    split at h
    ·rename_i b' hs
     cases h
     obtain ⟨h1, h2⟩ := hslot _ hs
     rw [hy _ h1 (V.sc_eq h2)]
     cases b' <;> cases want <;> rfl
    ·rename_i q hs
     cases h
     obtain ⟨h1, h2⟩ := hslot _ hs
     rw [hy _ h1 (V.sc_eq h2)]
     rfl
    ·cases h
   ·cases h
  ·cases h
theorem step_ok (R : Rel C E L μ σ a w) {ops : Array Oper} {i : Nat} {o : Oper} {call : CallF} {f : FuncId} (S : Sane P C) (K : CallOk P C call) (B : Bodied P call) {σ' : St} (hi : ops[i]? = some o) (h : evStep C P call f ops o σ = some σ')
  {Q : Exit → Act → World → Prop} {k : Act → World → Prop} (hk : ∀ L' μ' a' w', Rel C E L' μ' σ' a' w' → k a' w') : wpOp P ops Q i k a w := by
 unfold wpOp
 rw [hi]
 simp only []
 unfold evStep at h
 split at h
 ·rename_i hw
  rw [if_pos (wanted_rel R hw)]
  split at h
  ·rename_i s τ hop
   refine .inl (fine_op R S K B hop k Q fun c w' hout => ?_)
   obtain ⟨L', μ', R', hs⟩ := hout
   exact hk L' μ' _ _ (put_rel R' hs h)
  ·cases h
 ·rename_i hw
  rw [if_neg (by rw [wanted_rel R hw]; simp)]
  exact hk L μ _ _ (put_rel R (s := .v (.sc undef)) (v := undef) (V.sc rfl) h)
 ·cases h
theorem evOps_nil {call : CallF} {f : FuncId} {ops : Array Oper} (σ : St) : evOps C P call f ops [] σ = some σ := rfl
theorem evOps_cons {call : CallF} {f : FuncId} {ops : Array Oper} (o : Oper) (l : List Oper) (σ : St) : evOps C P call f ops (o :: l) σ = thenO (evStep C P call f ops o σ) (evOps C P call f ops l) := rfl
theorem thenO_some {α β : Type} {x : Option α} {k : α → Option β} {y : β} (h : thenO x k = some y) : ∃ z, x = some z ∧ k z = some y := by
 cases x with
 | none => cases h
 | some z => exact ⟨z, rfl, h⟩
theorem ops_ok {ops : Array Oper} {call : CallF} {f : FuncId} (S : Sane P C) (K : CallOk P C call) (B : Bodied P call) {Q : Exit → Act → World → Prop} : ∀ (l : List Oper) (idx : List Nat) (L : List Nat) (μ : M) (σ σ' : St) (a : Act) (w : World),
  idx.length = l.length → (∀ (j i : Nat) (o : Oper), idx[j]? = some i → l[j]? = some o → ops[i]? = some o) → Rel C E L μ σ a w → evOps C P call f ops l σ = some σ' → (∀ L' μ' a' w', Rel C E L' μ' σ' a' w' → Q .normal a' w') → wpOps P ops Q idx a w := by
 intro l
 induction l with
 | nil =>
  intro idx L μ σ σ' a w hl _ R h hq
  have : idx = [] := List.eq_nil_of_length_eq_zero (by simpa using hl)
  subst this
  rw [evOps_nil] at h; cases h
  exact hq L μ a w R
 | cons o l ih =>
  intro idx L μ σ σ' a w hl hg R h hq
  cases idx with
  | nil => simp at hl
  | cons i idx =>
   rw [evOps_cons] at h
   obtain ⟨τ, h1, h2⟩ := thenO_some h
   rw [wpOps_cons]
   refine step_ok R S K B (hg 0 i o rfl rfl) h1 fun L' μ' a' w' R' => ?_
   exact ih idx L' μ' τ σ' a' w' (by simpa using hl) (fun j i o hj ho => hg (j + 1) i o (by simpa using hj) (by simpa using ho)) R' h2 hq
theorem region_ok (R : Rel C E L μ σ a w) {ops : Array Oper} {id : Nat} {call : CallF} {f : FuncId} (S : Sane P C) (K : CallOk P C call) (B : Bodied P call) {σ' : St} (h : evOps C P call f ops ops.toList σ = some σ')
  {Q : Exit → Act → World → Prop} (hq : ∀ L' μ' a' w', Rel C E L' μ' σ' a' w' → Q .normal a' w') : (Code.region id ops false).wp P Q a w := by
 refine wp_region (ops_ok S K B ops.toList (List.range ops.size) L μ σ σ' a w (by simp) (fun j i o hj ho => ?_) R h hq)
 have := lt_of_get? hj
 simp at this
 simp [this] at hj
 subst hj
 simpa using ho
def resF (tmps : Array Value) (r : ResultVar) : Sem Value :=
 match r with
 | .tmp t => pure (tmps.getD t undef)
 | .cell x t => do loadVar t (← asAddr (tmps.getD x undef))
theorem results_eq (fn : Func) (tmps : Array Value) : results fn tmps = (do let vs ← fn.results.mapM (resF tmps); pure (if h : vs.size = 1 then vs[0] else .tuple vs)) := rfl
theorem results_ok (R : Rel C E L μ σ a w) : ∀ {rs : List ResultVar} {l : List AV}, evResults C P σ rs = some l →
  ∃ vs : List Value, (rs.mapM (resF a.tmps)).run P w = .ok vs w ∧ VLs μ l ⟨vs⟩ := by
 intro rs
 induction rs with
 | nil => intro l h; simp only [evResults] at h; cases h; exact ⟨[], by simp, rfl, fun i x y hx => by simp at hx⟩
 | cons r rs ih =>
  intro l h
  cases r with
  | tmp t =>
   simp only [evResults] at h
   split at h
   ·rename_i v l' hv hl
    cases h
    obtain ⟨vs, h1, h2⟩ := ih hl
    refine ⟨a.tmps.getD t undef :: vs, by simp only [List.mapM_cons, resF, Sem.run_bind, Sem.run_pure, Result.andThen_ok, h1], ?_⟩
    have hv' : V μ v (a.tmps.getD t undef) := val_rel R hv
    have := VLs.append (VLs.one hv') h2
    simp only [VLs, List.cons_append, List.nil_append] at this ⊢
    simpa using this
   ·cases h
  | cell x t =>
   simp only [evResults] at h
   split at h
   ·rename_i s l' hs hl
    split at h
    ·rename_i v hv
     cases h
     obtain ⟨vs, h1, h2⟩ := ih hl
     obtain ⟨y, hy, hvy⟩ := load_rel (P := P) R (slot_rel R hs) hv
     have hy2 : ((do loadVar t (← asAddr (a.tmps.getD x undef))) : Sem Value).run P w = .ok y w := by
      have hev : a.eval (.tmp x) = a.tmps.getD x undef := rfl
      rw [hev] at hy
      generalize a.tmps.getD x undef = q at hy
      cases q <;> simp [Instr.loadAt, Instr.sureAddr] at hy
      rename_i p
      cases p <;> simp at hy
      simpa [asAddr] using hy
     have hy3 : (resF a.tmps (.cell x t)).run P w = .ok y w := hy2
     refine ⟨y :: vs, by simp only [List.mapM_cons, Sem.run_bind, hy3, Result.andThen_ok, h1, Sem.run_pure], ?_⟩
     have := VLs.append (VLs.one hvy) h2
     simpa [VLs] using this
    ·cases h
   ·cases h
theorem pack_ok (R : Rel C E L μ σ a w) {fn : Func} {r : AV} {h' : Heap} (h : packR σ (evResults C P σ fn.results.toList) = some (r, h')) : ∃ v, (results fn a.tmps).run P w = .ok v w ∧ V μ r v ∧ h' = σ.h := by
 cases hl : evResults C P σ fn.results.toList with
 | none => rw [hl] at h; cases h
 | some l =>
  rw [hl] at h
  obtain ⟨vs, h1, h2, h3⟩ := results_ok (P := P) R hl
  have hrun : (results fn a.tmps).run P w = .ok (if h : (⟨vs⟩ : Array Value).size = 1 then (⟨vs⟩ : Array Value)[0] else .tuple ⟨vs⟩) w := by
   rw [results_eq]
   simp only [Array.mapM_eq_mapM_toList, Sem.run_bind, Sem.run_map, h1, Result.andThen_ok, Sem.run_pure]
  refine ⟨_, hrun, ?_⟩
  clear hrun h1
  match l, vs, h2, h3, h with
  | [], [], _, _, h => simp only [packR] at h; cases h; exact ⟨.sc rfl, rfl⟩
  | [x], [q], _, h3, h => simp only [packR] at h; cases h; exact ⟨h3 0 _ _ rfl rfl, rfl⟩
  | x :: y :: l, p :: q :: vs, h2, h3, h => simp only [packR] at h; cases h; exact ⟨.tup h2 h3, rfl⟩
end
end Go.Ef
namespace Go.Ef
open Go
theorem Tr.path_fuel {α : Type} (x : α) : ∀ f g n, n < f → n < g → Tr.path x f n = Tr.path x g n := by
 intro f
 induction f with
 | zero => intro g n h; omega
 | succ f ih =>
  intro g n h1 h2
  cases g with
  | zero => omega
  | succ g =>
   rw [Tr.path_succ, Tr.path_succ]
   cases n with
   | zero => rfl
   | succ n => simp only []; rw [ih g (n / 2) (by omega) (by omega)]
theorem Tr.set_leaf {α : Type} (x : α) (n : Nat) :
  (Tr.leaf : Tr α).set n x = match n with | 0 => .node .leaf (some x) .leaf | m + 1 => if m % 2 = 0 then .node ((Tr.leaf : Tr α).set (m / 2) x) none .leaf else .node .leaf none ((Tr.leaf : Tr α).set (m / 2) x) := by
 show Tr.path x (n + 1) n = _
 rw [Tr.path_succ]
 cases n with
 | zero => rfl
 | succ m =>
  simp only []
  show (if m % 2 = 0 then (Tr.path x (m + 1) (m / 2)).node none leaf else leaf.node none (Tr.path x (m + 1) (m / 2))) = if m % 2 = 0 then (Tr.path x (m / 2 + 1) (m / 2)).node none leaf else leaf.node none (Tr.path x (m / 2 + 1) (m / 2))
  rw [Tr.path_fuel x (m + 1) (m / 2 + 1) (m / 2) (by omega) (by omega)]
theorem Tr.set_node_comm {α : Type} {x y : α} {l r : Tr α} {v : Option α} (hl : ∀ m n, m ≠ n → (l.set m x).set n y = (l.set n y).set m x) (hr : ∀ m n, m ≠ n → (r.set m x).set n y = (r.set n y).set m x) (m n : Nat) (h : m ≠ n) :
  ((Tr.node l v r).set m x).set n y = ((Tr.node l v r).set n y).set m x := by
 cases m with
 | zero =>
  cases n with
  | zero => exact absurd rfl h
  | succ n =>
   simp only [Tr.set_node]
   by_cases e : n % 2 = 0 <;> simp [e, Tr.set_node]
 | succ m =>
  cases n with
  | zero =>
   simp only [Tr.set_node]
   by_cases e : m % 2 = 0 <;> simp [e, Tr.set_node]
  | succ n =>
   simp only [Tr.set_node]
   by_cases e : m % 2 = 0 <;> by_cases e' : n % 2 = 0 <;> simp only [e, e', if_true, if_false, Tr.set_node]
   ·rw [hl (m / 2) (n / 2) (by omega)]
   ·rw [hr (m / 2) (n / 2) (by omega)]
theorem Tr.set_comm {α : Type} (x y : α) : ∀ (t : Tr α) m n, m ≠ n → (t.set m x).set n y = (t.set n y).set m x := by
 intro t
 induction t with
 | leaf =>
  have key : ∀ k m n, m + n < k → m ≠ n → ((Tr.leaf : Tr α).set m x).set n y = ((Tr.leaf : Tr α).set n y).set m x := by
   intro k
   induction k with
   | zero => intro m n h; omega
   | succ k ih =>
    intro m n hk h
    cases m with
    | zero =>
     cases n with
     | zero => exact absurd rfl h
     | succ n =>
      rw [Tr.set_leaf x, Tr.set_leaf y]
      simp only [Tr.set_node]
      by_cases e : n % 2 = 0 <;> simp [e, Tr.set_node]
    | succ m =>
     cases n with
     | zero =>
      rw [Tr.set_leaf x, Tr.set_leaf y]
      simp only []
      by_cases e : m % 2 = 0 <;> simp [e, Tr.set_node]
     | succ n =>
      rw [Tr.set_leaf x, Tr.set_leaf y]
      simp only []
      by_cases e : m % 2 = 0 <;> by_cases e' : n % 2 = 0 <;> simp only [e, e', if_true, if_false, Tr.set_node]
      ·rw [ih (m / 2) (n / 2) (by omega) (by omega)]
      ·rw [ih (m / 2) (n / 2) (by omega) (by omega)]
  intro m n h
  exact key (m + n + 1) m n (by omega) h
 | node l v r ihl ihr => exact Tr.set_node_comm ihl ihr
inductive Cls where
 | p | l | h | q | r | c | o | n | w | s
 deriving DecidableEq
def newCls (C : Cfg) (f : FuncId) (d : Option Nat) : Cls := bif C.is f d 1 then .c else .o
def clsBuiltin (C : Cfg) (f : FuncId) (d : Option Nat) : Builtin → Cls
 | .min | .max => .p
 | .len => .h
 | .append => newCls C f d
 | .copy => .c
 | _ => .s
def clsCall (C : Cfg) (f : FuncId) (d : Option Nat) (c : Call) : Cls :=
 match c.callee with
 | .builtin b => clsBuiltin C f d b
 | .value (.func g) => bif (C.prim g).isNone && C.fresh g then .p else bif C.is f d 8 then .r else .c
 | .value _ => bif C.is f d 8 then .r else .c
 | _ => .c
def clsOf (C : Cfg) (P : Program) (f : FuncId) (o : Oper) : Cls :=
 match o.op with
 | .move _ | .assign _ | .pick .. | .binOp .. | .unOp .. | .makeInterface .. | .makeFunc .. | .field .. | .fieldAddr .. | .extract .. | .nilCheck _ | .index .. | .typeAssert .. | .build .. | .indexAddr .. => .p
 | .load .. => bif C.is f o.dst 3 then .l else bif C.is f o.dst 5 then .h else .q
 | .slice t .. => match P.underlying t with
  | some (.array _ _) => .q
  | _ => .p
 | .convert _ d _ => match elemT P d with
  | some _ => newCls C f o.dst
  | none => .q
 | .call c => clsCall C f o.dst c
 | .buildSlice .. => bif C.is f o.dst 7 then .p else newCls C f o.dst
 | .mapUpdate .. => .c
 | .insert .. => .c
 | .makeSlice .. | .makeMap .. => .n
 | .lookup .. => bif C.is f o.dst 5 then .h else .q
 | .alloc _ | .box _ _ => bif C.is f o.dst 1 then .n else .w
 | .store _ a _ => bif isW C f a then .w else .s
 | _ => .s
def clash : Cls → Cls → Bool
 | .p, _ | _, .p => false
 | .l, .l | .l, .h | .l, .q | .h, .l | .h, .h | .h, .q | .q, .l | .q, .h | .q, .q => false
 | .r, .l | .r, .h | .r, .q | .l, .r | .h, .r | .q, .r | .r, .r => false
 | .l, .c | .c, .l | .l, .o | .o, .l => false
 | .h, .o | .o, .h | .h, .w | .w, .h => false
 | .q, .o | .o, .q => false
 | .r, .w | .w, .r => false
 | .l, .n | .n, .l | .h, .n => false
 | _, _ => true
def quiet : Cls → Bool
 | .p | .l | .h | .q | .r => true
 | _ => false
def reads (ops : Array Oper) (o : Oper) : List Nat :=
 (o.op.operands.toList.filterMap fun | .tmp t => some t | _ => none) ++
 (match o.guard with
  | some (g, _) => match ops[g]? with
   | some og => og.dst.toList
   | none => []
  | none => [])
def meets (ops : Array Oper) (x y : Oper) : Bool :=
 match x.dst with
 | some d => (reads ops y).any (Nat.beq d) || (match y.dst with | some e => Nat.beq d e | none => false)
 | none => false
def apartOps (C : Cfg) (P : Program) (f : FuncId) (ops : Array Oper) (x y : Oper) : Bool :=
 !meets ops x y && !meets ops y x && !clash (clsOf C P f x) (clsOf C P f y)
def maskOf (acc : List Nat) (o : Oper) : Nat :=
 o.after.toList.foldl (fun s e => bif Region.binds .any e then Nat.lor (Nat.lor s (Nat.pow 2 e.on)) ((acc[e.on]?).getD 0) else s) 0
def masks : List Oper → List Nat → List Nat
 | [], acc => acc
 | o :: r, acc => masks r (acc ++ [maskOf acc o])
def rowOk (C : Cfg) (P : Program) (f : FuncId) (ops : Array Oper) (y : Oper) (m : Nat) : List Oper → Nat → Bool
 | [], _ => true
 | x :: r, j => (Nat.testBit m j || apartOps C P f ops x y) && rowOk C P f ops y m r (j + 1)
def rowsOk (C : Cfg) (P : Program) (f : FuncId) (ops : Array Oper) : List Oper → List Nat → Nat → Bool
 | y :: r, m :: ms, i => rowOk C P f ops y m (ops.toList.take i) 0 && y.after.all (fun e => !Region.binds .any e || Nat.blt e.on i) && rowsOk C P f ops r ms (i + 1)
 | [], _, _ => true
 | _, _, _ => false
def regOk (C : Cfg) (P : Program) (f : FuncId) (ops : Array Oper) : Bool := rowsOk C P f ops ops.toList (masks ops.toList []) 0
def ordB (C : Cfg) (P : Program) (f : FuncId) (ops : Array Oper) (j i : Nat) : Bool :=
 match (masks ops.toList [])[i]?, ops[j]?, ops[i]? with
 | some m, some x, some y => Nat.testBit m j || apartOps C P f ops x y
 | _, _, _ => false
def pairsB (C : Cfg) (P : Program) (f : FuncId) (ops : Array Oper) (p q : Nat) : List Nat → Bool
 | [] => true
 | j :: r => r.all (fun i => ordB C P f ops j i || (Nat.beq j p && Nat.beq i q)) && pairsB C P f ops p q r
def edgesB (ops : Array Oper) : Bool := (List.range ops.size).all fun i => match ops[i]? with
 | some o => o.after.all fun e => !Region.binds .any e || Nat.blt e.on i
 | none => false
def permB (n : Nat) (l : List Nat) : Bool := Nat.beq l.length n && (decide l.Nodup && ((l.all fun i => Nat.blt i n) && (List.range n).all fun i => l.any (Nat.beq i)))
def twoOk (C : Cfg) (P : Program) (f : FuncId) (id : Nat) (ops : Array Oper) : Bool :=
 match C.two f id with
 | some (p, q, l) => (!Nat.beq p q && edgesB ops) && ((permB ops.size (List.range ops.size) && permB ops.size l) && (pairsB C P f ops p q (List.range ops.size) && pairsB C P f ops q p l))
 | none => true
def codeOk (C : Cfg) (P : Program) (f : FuncId) : Code → Bool
 | .region id ops draw => !draw || (C.bad f id && twoOk C P f id ops) || regOk C P f ops
 | .seq a b => codeOk C P f a && codeOk C P f b
 | .cond _ a b => codeOk C P f a && codeOk C P f b
 | .block _ b => codeOk C P f b
 | .loop b => codeOk C P f b
 | .scope b => codeOk C P f b
 | _ => true
end Go.Ef
namespace Go.Ef
open Go
def St.wt (σ : St) (t : Tr Slot) : St := { σ with tm := t }
def mapR (t : Tr Slot) (r : Slot × St) : Slot × St := (r.1, r.2.wt t)
def Alike (xs : List Operand) (σ : St) (t : Tr Slot) : Prop := ∀ x ∈ xs, (σ.wt t).slot x = σ.slot x
theorem Alike.val {xs : List Operand} {σ : St} {t : Tr Slot} (h : Alike xs σ t) {x : Operand} (hx : x ∈ xs) : (σ.wt t).val x = σ.val x := by
 unfold St.val; rw [h x hx]
theorem mapO_congr {α β : Type} {f g : α → Option β} : ∀ {l : List α}, (∀ x ∈ l, f x = g x) → mapO f l = mapO g l := by
 intro l
 induction l with
 | nil => intro _; rfl
 | cons x l ih => intro h; rw [mapO_cons, mapO_cons, h x (by simp), ih fun y hy => h y (by simp [hy])]
section
variable {C : Cfg} {P : Program} {σ : St} {t : Tr Slot}
theorem resV_wt (v : Option AV) : resV (σ.wt t) v = (resV σ v).map (mapR t) := by cases v <;> rfl
theorem move_wt {x : Operand} (h : (σ.wt t).slot x = σ.slot x) : opMove (σ.wt t) x = (opMove σ x).map (mapR t) := by
 unfold opMove; rw [h]; cases σ.slot x <;> rfl
theorem alloc_wt {f : FuncId} {d : Option Nat} {e : TypeId} {cs : List AV} : (σ.wt t).alloc C f d e cs = mapR t (σ.alloc C f d e cs) := by
 unfold St.alloc; cases C.is f d 1 <;> rfl
theorem newSlice_wt {f : FuncId} {d : Option Nat} {k e : Nat} {els : List (List AV)} : (σ.wt t).newSlice C f d k e els = ((σ.newSlice C f d k e els).1, (σ.newSlice C f d k e els).2.wt t) := by
 unfold St.newSlice; cases C.is f d 1 <;> cases C.is f d 6 && plainEls els <;> rfl
theorem write_wt {new : List AV} {s : Slot} : (σ.wt t).write new s = (σ.write new s).map fun σ' => σ'.wt t := by
 cases s with
 | unk => rfl
 | lp k off =>
  simp only [St.write]
  show (match getI k σ.loc with | some (.cells cs) => _ | _ => _) = _
  cases getI k σ.loc with
  | none => rfl
  | some o =>
   cases o with
   | iter _ _ => rfl
   | raw _ _ _ => rfl
   | cells cs =>
    simp only []
    cases splice off new cs with
    | none => rfl
    | some cs' => simp only []; cases new.all AV.one <;> rfl
 | v av =>
  cases av <;> try rfl
  rename_i id off
  simp only [St.write]
  show (match σ.h.get id with | some (.cells cs) => _ | _ => _) = _
  cases σ.h.get id with
  | none => rfl
  | some o =>
   cases o <;> try rfl
   rename_i cs
   simp only []
   cases splice off new cs with
   | none => rfl
   | some cs' =>
    simp only []
    cases new.all AV.one
    ·rfl
    ·simp only [cond_true]
     show (match σ.h.put id (.cells cs') with | some h => _ | none => _) = _
     cases σ.h.put id (.cells cs') <;> rfl
theorem elems_wt {k : Nat} {x : AV} : (σ.wt t).elems k x = σ.elems k x := rfl
theorem load_wt {ty : TypeId} {s : Slot} : (σ.wt t).load C P ty s = σ.load C P ty s := by cases s <;> rfl
theorem parts_wt : ∀ {l : List (Nat × Operand)}, (∀ p ∈ l, (σ.wt t).slot p.2 = σ.slot p.2) → evParts (σ.wt t) l = evParts σ l := by
 intro l
 induction l with
 | nil => intro _; rfl
 | cons p l ih =>
  intro h
  obtain ⟨i, x⟩ := p
  simp only [evParts]
  rw [ih fun q hq => h q (by simp [hq])]
  have : (σ.wt t).val x = σ.val x := by unfold St.val; rw [h (i, x) (by simp)]
  rw [this]
theorem optVal_wt {x : Option Operand} (h : ∀ y, x = some y → (σ.wt t).slot y = σ.slot y) : optVal (σ.wt t) x = optVal σ x := by
 cases x with
 | none => rfl
 | some y =>
  simp only [optVal]
  have : (σ.wt t).val y = σ.val y := by unfold St.val; rw [h y rfl]
  rw [this]
theorem appendNil_wt {f : FuncId} {d : Option Nat} {e : TypeId} {i : TypeInfo} {new : List (List AV)} : appendNil C (σ.wt t) f d e i new = (appendNil C σ f d e i new).map (mapR t) := by
 unfold appendNil
 cases fits new.length i.bytes
 ·rfl
 ·simp only [cond_true, newSlice_wt]; rfl
theorem appendO_wt {e : TypeId} {i : TypeInfo} {els new : List (List AV)} {tok : Nat} : appendO (σ.wt t) e i els tok new = (appendO σ e i els tok new).map (mapR t) := by
 unfold appendO
 cases headLen i.size els && fits (lenL els + lenL new) i.bytes
 ·rfl
 ·simp only [cond_true]
  cases tok with
  | zero => rfl
  | succ id =>
   simp only []
   show (match σ.h.get id with | some (.own k e' n) => _ | _ => _) = _
   cases σ.h.get id with
   | none => rfl
   | some o =>
    cases o <;> try rfl
    rename_i k e' n
    simp only []
    cases (Nat.beq k i.size && Nat.beq e' e) && Nat.beq (lenL els) n
    ·rfl
    ·simp only [cond_true]
     show (match σ.h.put id (.own k e (n + lenL new)) with | some h => _ | none => _) = _
     cases σ.h.put id (.own k e (n + lenL new)) <;> rfl
theorem appendR_wt {i : TypeInfo} {id off len k : Nat} {new : List (List AV)} : appendR (σ.wt t) i id off len k new = (appendR σ i id off len k new).map (mapR t) := by
 unfold appendR
 cases Nat.beq k i.size && fits (len + new.length) i.bytes
 ·rfl
 ·simp only [cond_true]
  show (match σ.h.get id with | some (.cells cs) => _ | _ => _) = _
  cases σ.h.get id with
  | none => rfl
  | some o =>
   cases o <;> try rfl
   rename_i cs
   simp only []
   show (match stretch off (len * k) cs, σ.h.put id .dead with | some old, some h => _ | _, _ => _) = _
   cases stretch off (len * k) cs <;> cases σ.h.put id .dead <;> rfl
theorem appendS_wt {f : FuncId} {d : Option Nat} {e : TypeId} {i : TypeInfo} {s : AV} {new : List (List AV)} : appendS C (σ.wt t) f d e i s new = (appendS C σ f d e i s new).map (mapR t) := by
 unfold appendS
 split
 ·cases new.isEmpty
  ·exact appendNil_wt
  ·rfl
 ·cases new.isEmpty
  ·exact appendO_wt
  ·rfl
 ·cases new.isEmpty
  ·simp only [cond_false]
   cases C.is f d 1
   ·rfl
   ·exact appendR_wt
  ·rfl
 ·rfl
theorem evAppend_wt {f : FuncId} {d : Option Nat} {types : Array TypeId} {s x : AV} : evAppend C P (σ.wt t) f d types s x = (evAppend C P σ f d types s x).map (mapR t) := by
 unfold evAppend
 split
 ·rename_i u v _ _
  cases isRowT P v
  ·rfl
  ·simp only [cond_true]
   cases elemT P u with
   | none => rfl
   | some e =>
    simp only []
    cases P.info? e with
    | none => rfl
    | some i =>
     simp only []
     cases Nat.beq i.size 0
     ·simp only [cond_false, elems_wt]
      cases σ.elems i.size x with
      | none => rfl
      | some new =>
       simp only []
       cases new.all (fun e => e.all AV.one) && (zeroA P e).any (fun z => Nat.beq z.cells.length i.size)
       ·rfl
       ·exact appendS_wt
     ·rfl
 ·rfl
theorem copyR_wt {k : Nat} {dst : AV} {els : List (List AV)} : copyR (σ.wt t) k dst els = (copyR σ k dst els).map (mapR t) := by
 unfold copyR
 cases els.isEmpty
 ·simp only [cond_false]
  cases dst <;> try rfl
  rename_i id off len k'
  simp only []
  cases Nat.beq k k'
  ·rfl
  ·simp only [cond_true, write_wt]
   cases σ.write els.flatten (.v (.ptr id off)) <;> rfl
 ·rfl
theorem evCopy_wt {types : Array TypeId} {dst src : AV} : evCopy P (σ.wt t) types dst src = (evCopy P σ types dst src).map (mapR t) := by
 unfold evCopy
 cases types[0]? with
 | none => rfl
 | some u =>
  simp only []
  cases elemT P u with
  | none => rfl
  | some e =>
   simp only []
   cases sizeT P e with
   | none => rfl
   | some k =>
    simp only []
    cases Nat.beq k 0
    ·simp only [cond_false, elems_wt]
     cases σ.elems k src <;> cases lenA dst <;> try rfl
     simp only []
     cases isSlice dst
     ·rfl
     ·exact copyR_wt
    ·rfl
theorem evLen_wt {types : Array TypeId} {ty : TypeId} {x : AV} : evLen P (σ.wt t) types ty x = evLen P σ types ty x := by cases x <;> rfl
theorem evBuiltin_wt {f : FuncId} {d : Option Nat} {b : Builtin} {types : Array TypeId} {ty : TypeId} {args : List AV} : evBuiltin C P (σ.wt t) f d b types ty args = (evBuiltin C P σ f d b types ty args).map (mapR t) := by
 unfold evBuiltin
 split
 ·split
  ·rw [evLen_wt]; exact resV_wt _
  ·rfl
 ·split
  ·exact evAppend_wt
  ·rfl
 ·split
  ·exact evCopy_wt
  ·rfl
 ·exact resV_wt _
 ·exact resV_wt _
 ·rfl
theorem back_wt (r : Option (AV × Heap)) : back (σ.wt t) r = (back σ r).map (mapR t) := by
 cases r with
 | none => rfl
 | some p => obtain ⟨v, h⟩ := p; rfl
theorem toBytes_wt {f : FuncId} {q : Option Nat} {e : TypeId} {x : AV} : toBytes C P (σ.wt t) f q e x = (toBytes C P σ f q e x).map (mapR t) := by
 unfold toBytes
 split
 ·rename_i s _
  cases Nat.ble s.size maxRoom
  ·rfl
  ·simp only [cond_true, newSlice_wt]; rfl
 ·rfl
theorem evConvert_wt {f : FuncId} {q : Option Nat} {src dst : TypeId} {x : AV} : evConvert C P (σ.wt t) f q src dst x = (evConvert C P σ f q src dst x).map (mapR t) := by
 unfold evConvert
 split
 ·simp only [elems_wt]
  cases σ.elems 1 x with
  | none => rfl
  | some els =>
   simp only []
   cases isSlice x
   ·rfl
   ·exact resV_wt _
 ·exact toBytes_wt
 ·cases toVal 0 x with
  | none => rfl
  | some v => exact resV_wt _
theorem evSlice_wt {u : TypeId} {s : AV} {lo hi : Option AV} : evSlice P (σ.wt t) u s lo hi = evSlice P σ u s lo hi := by cases s <;> rfl
theorem evOp_wt {call : CallF} {f : FuncId} {o : Oper} (h : Alike o.op.operands.toList σ t) : evOp C P call f o (σ.wt t) = (evOp C P call f o σ).map (mapR t) := by
 have H := h
 unfold evOp
 split <;> rename_i ho <;> try rw [ho] at h
 ·exact move_wt (h _ (by simp [Op.operands]))
 ·exact move_wt (h _ (by simp [Op.operands]))
 ·rename_i c a b
  unfold opPick
  rw [h.val (x := c) (by simp [Op.operands])]
  split
  ·rename_i q _
   cases q
   ·exact move_wt (h _ (by simp [Op.operands]))
   ·exact move_wt (h _ (by simp [Op.operands]))
  ·rfl
 ·unfold opAlloc
  split
  ·rw [alloc_wt]; rfl
  ·rfl
 ·rename_i e x
  unfold opBox
  rw [h.val (x := x) (by simp [Op.operands])]
  cases σ.val x with
  | none => rfl
  | some v => simp only [alloc_wt]; rfl
 ·rename_i u parts
  unfold opBuild
  rw [parts_wt (fun p hp => h p.2 (by simp only [Op.operands]; exact List.mem_map.2 ⟨p, hp, rfl⟩))]
  cases evParts σ parts.toList with
  | none => rfl
  | some l => exact resV_wt _
 ·rename_i u len parts
  unfold opBuildSlice
  rw [parts_wt (fun p hp => h p.2 (by simp only [Op.operands]; exact List.mem_map.2 ⟨p, hp, rfl⟩))]
  cases evParts σ parts.toList with
  | none => rfl
  | some l =>
   simp only []
   cases elemT P u with
   | none => rfl
   | some e =>
    simp only []
    cases sizeT P e <;> cases zeroA P e <;> try rfl
    rename_i k z
    simp only []
    cases Nat.ble (len * k) 16777216 && Nat.beq z.cells.length k && Nat.ble 1 k
    ·rfl
    ·simp only [cond_true]
     cases fillA (fun i => some (i * k, k)) (List.replicate len z.cells).flatten l with
     | none => rfl
     | some cs =>
      simp only [St.litSlice]
      cases C.is f o.dst 7
      ·simp only [newSlice_wt]; rfl
      ·simp only [cond_true]; cases plainEls (chunks len k cs) <;> rfl
 ·rename_i u x
  unfold opLoad
  rw [h x (by simp [Op.operands])]
  cases σ.slot x with
  | none => rfl
  | some s =>
   simp only [load_wt]
   cases (C.is f o.dst 3 && isHeapPtr s) || (C.is f o.dst 5 && isLp s)
   ·exact resV_wt _
   ·rfl
 ·rename_i u x y
  unfold opStore
  rw [h x (by simp [Op.operands]), h.val (x := y) (by simp [Op.operands])]
  cases σ.slot x with
  | none => rfl
  | some s =>
   cases σ.val y with
   | none => rfl
   | some v =>
    simp only []
    cases sizeT P u with
    | none => rfl
    | some n =>
     simp only []
     cases wOk C f x s && Nat.beq v.cells.length n
     ·rfl
     ·simp only [cond_true, write_wt]
      cases σ.write v.cells s <;> rfl
 ·rename_i x
  unfold opNil
  rw [h x (by simp [Op.operands])]
  cases σ.slot x with
  | none => rfl
  | some s =>
   simp only []
   split <;> first | rfl | skip
 ·rename_i op u x y v
  unfold opBin
  rw [h.val (x := x) (by simp [Op.operands]), h.val (x := y) (by simp [Op.operands])]
  cases σ.val x with
  | none => rfl
  | some a =>
   cases σ.val y with
   | none => rfl
   | some b => exact resV_wt _
 ·rename_i op u x
  unfold opUn
  rw [h.val (x := x) (by simp [Op.operands])]
  split
  ·exact resV_wt _
  ·rfl
 ·rename_i s d x
  unfold opConv
  rw [h.val (x := x) (by simp [Op.operands])]
  cases σ.val x with
  | none => rfl
  | some a => exact evConvert_wt
 ·rename_i u x
  unfold opIface
  rw [h.val (x := x) (by simp [Op.operands])]
  split <;> rfl
 ·rename_i g first cap
  unfold opFunc
  rw [mapO_congr (f := (σ.wt t).val) (g := σ.val) (l := first.toList) (fun x hx => h.val (by simp only [Op.operands, Array.toList_append, List.mem_append]; first | exact .inl hx | exact .inr hx)), mapO_congr (f := (σ.wt t).val) (g := σ.val) (l := cap.toList) (fun x hx => h.val (by simp only [Op.operands, Array.toList_append, List.mem_append]; first | exact .inl hx | exact .inr hx))]
  cases mapO σ.val first.toList with
  | none => rfl
  | some l => simp only []; cases mapO σ.val cap.toList <;> rfl
 ·rename_i u x y
  unfold opMakeSlice
  rw [h.val (x := x) (by simp [Op.operands]), h.val (x := y) (by simp [Op.operands])]
  split
  ·rename_i l _ c e _ _ _
   cases decide (0 ≤ l) && decide (l ≤ c) && decide (c ≤ (maxRoom : Int))
   ·rfl
   ·simp only [cond_true]
    unfold makeS
    cases P.info? e <;> cases zeroA P e <;> try rfl
    rename_i i z
    simp only []
    cases Nat.ble (c.toNat * i.bytes) maxRoom && Nat.beq z.cells.length i.size && Nat.ble 1 i.size
    ·rfl
    ·simp only [cond_true]
     cases C.is f o.dst 2 || Nat.beq l.toNat 0 <;> rfl
  ·rfl
 ·rename_i u x lo hi mx
  unfold opSlice
  cases mx with
  | some m =>
   simp only []
   unfold opSlice3
   cases hi with
   | none => rfl
   | some hi =>
    simp only []
    rw [h.val (x := x) (by simp [Op.operands]), optVal_wt (x := lo) (fun y hy => h y (by simp [Op.operands, hy])), h.val (x := hi) (by simp [Op.operands]), h.val (x := m) (by simp [Op.operands])]
    cases σ.val x with
    | none => rfl
    | some s =>
     simp only []
     cases optVal σ lo <;> cases σ.val hi <;> cases σ.val m <;> try rfl
     exact resV_wt _
  | none =>
   simp only []
   rw [h.val (x := x) (by simp [Op.operands]), optVal_wt (x := lo) (fun y hy => h y (by simp [Op.operands, hy])), optVal_wt (x := hi) (fun y hy => h y (by simp [Op.operands, hy]))]
   cases σ.val x with
   | none => rfl
   | some s =>
    simp only []
    cases optVal σ lo <;> cases optVal σ hi <;> try rfl
    simp only [evSlice_wt]
    exact resV_wt _
 ·rename_i s x i
  unfold opFieldAddr
  rw [h x (by simp [Op.operands])]
  cases σ.slot x with
  | none => rfl
  | some p =>
   simp only []
   cases fieldsT P s with
   | none => rfl
   | some fs =>
    simp only []
    cases fs[i]? with
    | none => rfl
    | some fd =>
     simp only []
     cases Option.any (Nat.blt 0) (sizeT P fd.type)
     ·rfl
     ·simp only [cond_true]
      cases moveSlot p fd.offset <;> rfl
 ·rename_i u x i
  unfold opField
  rw [h.val (x := x) (by simp [Op.operands])]
  split
  ·cases fieldsT P u with
   | none => rfl
   | some fs =>
    simp only []
    cases fs[i]? with
    | none => rfl
    | some fd => exact resV_wt _
  ·rfl
 ·rename_i u x i
  unfold opIndexAddr
  rw [h x (by simp [Op.operands]), h.val (x := i) (by simp [Op.operands])]
  cases σ.slot x with
  | none => rfl
  | some s =>
   cases σ.val i with
   | none => rfl
   | some a =>
    simp only []
    split
    ·rename_i els tok
     unfold addrSl
     cases elemT P u with
     | none => rfl
     | some e =>
      simp only []
      cases sizeT P e <;> cases idx (lenL els) a <;> try rfl
      rename_i k j
      simp only []
      cases getI j els with
      | none => rfl
      | some l => simp only []; cases Nat.beq (lenL l) k <;> rfl
    ·rename_i id off len k
     unfold addrR
     cases elemT P u with
     | none => rfl
     | some e =>
      simp only []
      cases sizeT P e <;> cases idx len a <;> try rfl
      rename_i k' j
      simp only []
      cases Nat.beq k k' <;> rfl
    ·unfold addrA
     cases arrT P u with
     | none => rfl
     | some ne =>
      obtain ⟨n, e⟩ := ne
      simp only []
      cases sizeT P e <;> cases idx n a <;> try rfl
      rename_i k j
      simp only []
      cases moveSlot s (j * k) <;> rfl
 ·rename_i u x i
  unfold opIndex
  rw [h.val (x := x) (by simp [Op.operands]), h.val (x := i) (by simp [Op.operands])]
  cases σ.val x with
  | none => rfl
  | some v =>
   cases σ.val i with
   | none => rfl
   | some a =>
    simp only []
    split
    ·exact resV_wt _
    ·exact resV_wt _
    ·rfl
 ·rename_i x xt u ok
  unfold opAssert
  rw [h.val (x := x) (by simp [Op.operands])]
  have hfail : failAs P (σ.wt t) u ok = (failAs P σ u ok).map (mapR t) := by
   unfold failAs
   cases ok
   ·rfl
   ·simp only [cond_true]; cases zeroA P u <;> rfl
  split
  ·split
   ·rename_i q v _
    cases Nat.beq q u
    ·exact hfail
    ·rfl
   ·exact hfail
   ·rfl
  ·rfl
 ·rename_i x i
  unfold opExtract
  rw [h.val (x := x) (by simp [Op.operands])]
  split
  ·exact resV_wt _
  ·rfl
 ·rename_i c
  unfold opCall
  have hargs : ∀ x ∈ c.args.toList, x ∈ (Op.call c).operands.toList := by
   intro x hx
   simp only [Op.operands, Call.operands, Array.toList_append, List.mem_append]
   exact .inr hx
  rw [mapO_congr (f := (σ.wt t).val) (g := σ.val) (l := c.args.toList) (fun x hx => h.val (hargs x hx))]
  cases mapO σ.val c.args.toList with
  | none => rfl
  | some args =>
   simp only []
   split
   ·exact evBuiltin_wt
   ·rename_i x hx
    unfold callQ callVal quietCal
    rw [h.val (x := x) (by simp [Op.operands, Call.operands, hx])]
    cases C.is f o.dst 8 && !(match σ.val x with | some (.fn (.func g) _ _) => (C.prim g).isNone && (C.fresh g || (C.imp g || C.pure g)) | _ => false) with
    | true => rfl
    | false =>
     simp only [cond_false]
     split
     ·exact back_wt _
     ·rfl
   ·rename_i x name hx
    unfold callMeth
    rw [h.val (x := x) (by simp [Op.operands, Call.operands, hx])]
    split
    ·rename_i q v _
     cases evMethod P q v name with
     | none => rfl
     | some gr => obtain ⟨g, r⟩ := gr; exact back_wt _
    ·rfl
 ·rename_i u x i ok
  unfold opLookup
  rw [h.val (x := x) (by simp [Op.operands]), h.val (x := i) (by simp [Op.operands])]
  rcases σ.val x with _ | m
  ·rfl
  rcases σ.val i with _ | k
  ·rfl
  rcases mapT P u with _ | ⟨kt, et⟩
  ·cases k <;> rfl
  cases k <;> try rfl
  rename_i k
  simp only []
  cases P.underlying kt with
  | none => rfl
  | some d =>
   simp only []
   cases keyB d k
   ·rfl
   ·simp only [cond_true]
    have e : entriesA (σ.wt t).h m = entriesA σ.h m := rfl
    rw [e]
    cases entriesA σ.h m with
    | none => rfl
    | some es =>
     simp only []
     cases allKeys d es
     ·rfl
     simp only [cond_true]
     rcases findA d k es with _ | _ | v
     ·rfl
     ·simp only []
      cases zeroA P et <;> rfl
     ·rfl
 ·rename_i u hint
  unfold opMakeMap
  cases hint <;> rfl
 ·rename_i u x i y
  unfold opMapUpdate
  rw [h.val (x := x) (by simp [Op.operands]), h.val (x := i) (by simp [Op.operands]), h.val (x := y) (by simp [Op.operands])]
  rcases σ.val x with _ | m
  ·rfl
  cases m <;> try rfl
  rename_i id
  rcases σ.val i with _ | k
  ·rfl
  cases k <;> try rfl
  rename_i k
  rcases σ.val y with _ | v
  ·rfl
  rcases mapT P u with _ | ⟨kt, et⟩
  ·rfl
  simp only []
  cases P.underlying kt with
  | none => rfl
  | some d =>
   simp only []
   cases keyB d k
   ·rfl
   ·simp only [cond_true]
    have e : (σ.wt t).h = σ.h := rfl
    rw [e]
    rcases σ.h.get id with _ | o
    ·rfl
    cases o <;> try rfl
    rename_i es
    simp only []
    cases allKeys d es
    ·rfl
    simp only [cond_true]
    cases findI d k 0 es with
    | none => rfl
    | some q =>
     simp only []
     cases σ.h.put id (.map (setKey es k v q)) <;> rfl
 ·rename_i u x i y
  unfold opMapUpdate
  rw [h.val (x := x) (by simp [Op.operands]), h.val (x := i) (by simp [Op.operands]), h.val (x := y) (by simp [Op.operands])]
  rcases σ.val x with _ | m
  ·rfl
  cases m <;> try rfl
  rename_i id
  rcases σ.val i with _ | k
  ·rfl
  cases k <;> try rfl
  rename_i k
  rcases σ.val y with _ | v
  ·rfl
  rcases mapT P u with _ | ⟨kt, et⟩
  ·rfl
  simp only []
  cases P.underlying kt with
  | none => rfl
  | some d =>
   simp only []
   cases keyB d k
   ·rfl
   ·simp only [cond_true]
    have e : (σ.wt t).h = σ.h := rfl
    rw [e]
    rcases σ.h.get id with _ | o
    ·rfl
    cases o <;> try rfl
    rename_i es
    simp only []
    cases allKeys d es
    ·rfl
    simp only [cond_true]
    cases findI d k 0 es with
    | none => rfl
    | some q =>
     simp only []
     cases σ.h.put id (.map (setKey es k v q)) <;> rfl
 ·rename_i u x
  unfold opRange
  rw [h.val (x := x) (by simp [Op.operands])]
  rcases σ.val x with _ | v
  ·rfl
  cases v <;> try rfl
  rename_i v
  cases v <;> try rfl
  simp only []
  cases isStringT P u <;> rfl
 ·rename_i x str
  unfold opNext
  rw [h x (by simp [Op.operands])]
  rcases σ.slot x with _ | s
  ·rfl
  cases s <;> try rfl
  rename_i k off
  cases off <;> try rfl
  simp only []
  show (match getI k σ.loc with | some (.iter s pos) => _ | _ => _) = _
  rcases getI k σ.loc with _ | b
  ·rfl
  cases b <;> try rfl
  rename_i s pos
  simp only []
  cases str
  ·rfl
  ·simp only [cond_true]
   rcases nextA s pos with _ | ⟨v, p⟩ <;> rfl
 ·rfl
end
end Go.Ef
namespace Go.Ef
open Go
def obsO : Option AObj → Option AObj
 | some (.cells cs) => some (.cells cs)
 | some (.map es) => some (.map es)
 | _ => none
def Obs (h h' : Heap) : Prop := ∀ id, obsO (h'.get id) = obsO (h.get id)
theorem Obs.refl (h : Heap) : Obs h h := fun _ => rfl
theorem Obs.symm {h h' : Heap} (k : Obs h h') : Obs h' h := fun id => (k id).symm
theorem get_next (h : Heap) : h.get h.next = none := by
 show (bif Nat.blt h.next h.next then h.objs.get h.next else none) = none
 have : Nat.blt h.next h.next = false := by
  cases e : Nat.blt h.next h.next with
  | false => rfl
  | true => have := Nat.le_of_ble_eq_true e; omega
 rw [this]; rfl
theorem obs_new (h : Heap) (k e n : Nat) : Obs h (h.new (.own k e n)).2 := by
 intro id
 rw [new_get]
 by_cases e : h.next = id
 ·subst e; rw [if_pos rfl, get_next]; rfl
 ·rw [if_neg e]
theorem obs_put {h h' : Heap} {id k e n k' e' n' : Nat} (hg : h.get id = some (.own k e n)) (hp : h.put id (.own k' e' n') = some h') : Obs h h' := by
 intro j
 rw [put_get hp]
 by_cases e : id = j
 ·subst e; rw [if_pos rfl, hg]; rfl
 ·rw [if_neg e]
def Grow (h h' : Heap) : Prop := ∀ id o, h.get id = some o → h'.get id = some o
theorem grow_new (h : Heap) (o : AObj) : Grow h (h.new o).2 := by
 intro id x hx
 rw [new_get, if_neg, hx]
 rintro rfl
 rw [get_next] at hx
 cases hx
structure Keeps (cl : Cls) (σ σ' : St) : Prop where
 n : σ'.n = σ.n
 tm : σ'.tm = σ.tm
 d : σ'.d = σ.d
 loc : cl ≠ .s → cl ≠ .w → σ'.loc = σ.loc
 h : cl ≠ .s → cl ≠ .c → cl ≠ .o → cl ≠ .n → σ'.h = σ.h
 obs : cl = .o → Obs σ.h σ'.h
 grow : cl = .n → Grow σ.h σ'.h
theorem Keeps.same (cl : Cls) (σ : St) : Keeps cl σ σ := ⟨rfl, rfl, rfl, fun _ _ => rfl, fun _ _ _ _ => rfl, fun _ => .refl _, fun _ _ _ h => h⟩
theorem Keeps.eq {cl : Cls} {σ σ' : St} (k : Keeps cl σ σ') (hq : quiet cl = true) : σ' = σ := by
 cases σ; cases σ'
 obtain ⟨a, b, f, d, e, _, _⟩ := k
 simp only at a b f
 have d1 := d (by rintro rfl; cases hq) (by rintro rfl; cases hq)
 have e1 := e (by rintro rfl; cases hq) (by rintro rfl; cases hq) (by rintro rfl; cases hq) (by rintro rfl; cases hq)
 simp only at d1 e1
 rw [a, b, d1, e1, f]
theorem Keeps.any {σ σ' : St} (n : σ'.n = σ.n) (tm : σ'.tm = σ.tm) (d : σ'.d = σ.d) : Keeps .s σ σ' := ⟨n, tm, d, fun h => absurd rfl h, fun h => absurd rfl h, fun h => (by cases h), fun h => (by cases h)⟩
theorem Keeps.heap {σ σ' : St} (n : σ'.n = σ.n) (tm : σ'.tm = σ.tm) (d : σ'.d = σ.d) (l : σ'.loc = σ.loc) : Keeps .c σ σ' := ⟨n, tm, d, fun _ _ => l, fun _ h => absurd rfl h, fun h => (by cases h), fun h => (by cases h)⟩
theorem Keeps.news {σ σ' : St} (n : σ'.n = σ.n) (tm : σ'.tm = σ.tm) (d : σ'.d = σ.d) (l : σ'.loc = σ.loc) (g : Grow σ.h σ'.h) : Keeps .n σ σ' := ⟨n, tm, d, fun _ _ => l, fun _ _ _ h => absurd rfl h, fun h => (by cases h), fun _ => g⟩
theorem Keeps.owns {σ σ' : St} (n : σ'.n = σ.n) (tm : σ'.tm = σ.tm) (d : σ'.d = σ.d) (l : σ'.loc = σ.loc) (o : Obs σ.h σ'.h) : Keeps .o σ σ' := ⟨n, tm, d, fun _ _ => l, fun _ _ h => absurd rfl h, fun _ => o, fun h => (by cases h)⟩
theorem Keeps.box {σ σ' : St} (n : σ'.n = σ.n) (tm : σ'.tm = σ.tm) (d : σ'.d = σ.d) (l : σ'.h = σ.h) : Keeps .w σ σ' := ⟨n, tm, d, fun _ h => absurd rfl h, fun _ _ _ _ => l, fun h => (by cases h), fun h => (by cases h)⟩
section
variable {C : Cfg} {P : Program} {σ : St}
theorem resV_keeps {v : Option AV} {r : Slot × St} {cl : Cls} (h : resV σ v = some r) : Keeps cl σ r.2 := by
 cases v with
 | none => cases h
 | some u => cases h; exact .same _ _
theorem move_keeps {x : Operand} {r : Slot × St} {cl : Cls} (h : opMove σ x = some r) : Keeps cl σ r.2 := by
 unfold opMove at h; split at h
 ·cases h; exact .same _ _
 ·cases h
theorem alloc_keeps {f : FuncId} {d : Option Nat} {e : TypeId} {cs : List AV} : Keeps (bif C.is f d 1 then .n else .w) σ (σ.alloc C f d e cs).2 := by
 unfold St.alloc; cases C.is f d 1
 ·exact .box rfl rfl rfl rfl
 ·exact .news rfl rfl rfl rfl (grow_new _ _)
theorem newO_obs {k e : Nat} {els : List (List AV)} : Keeps .o σ (σ.newO k e els).2 := .owns rfl rfl rfl rfl (obs_new _ _ _ _)
theorem newR_keeps {k : Nat} {els : List (List AV)} : Keeps .c σ (σ.newR k els).2 := .heap rfl rfl rfl rfl
theorem newSlice_keeps {f : FuncId} {d : Option Nat} {k e : Nat} {els : List (List AV)} : Keeps (newCls C f d) σ (σ.newSlice C f d k e els).2 := by
 unfold St.newSlice newCls; cases C.is f d 1
 ·simp only [cond_false]
  cases C.is f d 6 && plainEls els
  ·exact newO_obs
  ·exact .same _ _
 ·exact newR_keeps
theorem write_keeps {new : List AV} {s : Slot} {σ' : St} (h : σ.write new s = some σ') : Keeps .s σ σ' := by
 have key : σ'.n = σ.n ∧ σ'.tm = σ.tm ∧ σ'.d = σ.d := by
  cases s with
  | unk => simp only [St.write] at h; cases h
  | lp k off =>
   simp only [St.write] at h
   split at h
   ·split at h
    ·obtain ⟨_, h⟩ := cond_some h; cases h; exact ⟨rfl, rfl, rfl⟩
    ·cases h
   ·cases h
  | v u =>
   cases u with
   | ptr id off =>
    simp only [St.write] at h
    split at h
    ·split at h
     ·obtain ⟨_, h⟩ := cond_some h
      split at h
      ·cases h; exact ⟨rfl, rfl, rfl⟩
      ·cases h
     ·cases h
    ·cases h
   | _ => cases h
 exact .any key.1 key.2.1 key.2.2
theorem write_ptr_keeps {new : List AV} {id off : Nat} {σ' : St} (h : σ.write new (.v (.ptr id off)) = some σ') : Keeps .c σ σ' := by
 simp only [St.write] at h
 split at h
 ·split at h
  ·obtain ⟨_, h⟩ := cond_some h
   split at h
   ·cases h; exact .heap rfl rfl rfl rfl
   ·cases h
  ·cases h
 ·cases h
theorem write_lp_keeps {new : List AV} {s : Slot} {σ' : St} (h : σ.write new s = some σ') (hl : isLp s = true) : Keeps .w σ σ' := by
 cases s with
 | unk => cases hl
 | v u => cases hl
 | lp k off =>
  simp only [St.write] at h
  split at h
  ·split at h
   ·obtain ⟨_, h⟩ := cond_some h; cases h; exact .box rfl rfl rfl rfl
   ·cases h
  ·cases h
theorem back_keeps {r0 : Option (AV × Heap)} {r : Slot × St} (h : back σ r0 = some r) : Keeps .c σ r.2 := by
 unfold back at h
 split at h
 ·cases h; exact .heap rfl rfl rfl rfl
 ·cases h
theorem append_keeps {f : FuncId} {d : Option Nat} {types : Array TypeId} {s x : AV} {r : Slot × St} (h : evAppend C P σ f d types s x = some r) : Keeps (newCls C f d) σ r.2 := by
 unfold evAppend at h
 split at h
 ·obtain ⟨_, h⟩ := cond_some h
  split at h
  ·split at h
   ·rename_i i hi
    cases hz : Nat.beq i.size 0 with
    | true => rw [hz] at h; cases h
    | false =>
     rw [hz] at h
     simp only [cond_false] at h
     split at h
     ·rename_i new hnew
      obtain ⟨_, h⟩ := cond_some h
      unfold appendS at h
      split at h
      ·cases hn : new.isEmpty with
       | true => rw [hn] at h; cases h; exact .same _ _
       | false =>
        rw [hn] at h
        simp only [cond_false, appendNil] at h
        obtain ⟨_, h⟩ := cond_some h
        cases h; exact newSlice_keeps
      ·cases hn : new.isEmpty with
       | true => rw [hn] at h; cases h; exact .same _ _
       | false =>
        rw [hn] at h
        simp only [cond_false, appendO] at h
        obtain ⟨_, h⟩ := cond_some h
        split at h
        ·cases h
        ·split at h
         ·rename_i hg
          obtain ⟨_, h⟩ := cond_some h
          split at h
          ·rename_i hp
           cases h
           unfold newCls
           cases C.is f d 1
           ·exact .owns rfl rfl rfl rfl (obs_put hg hp)
           ·exact .heap rfl rfl rfl rfl
          ·cases h
         ·cases h
      ·cases hn : new.isEmpty with
       | true => rw [hn] at h; cases h; exact .same _ _
       | false =>
        rw [hn] at h
        simp only [cond_false, appendR] at h
        obtain ⟨hm, h⟩ := cond_some h
        obtain ⟨_, h⟩ := cond_some h
        split at h
        ·split at h
         ·cases h
          unfold newCls
          rw [hm]
          exact .heap rfl rfl rfl rfl
         ·cases h
        ·cases h
      ·cases h
     ·cases h
   ·cases h
  ·cases h
 ·cases h
theorem copy_keeps {types : Array TypeId} {s x : AV} {r : Slot × St} (h : evCopy P σ types s x = some r) : Keeps .c σ r.2 := by
 unfold evCopy at h
 split at h
 ·split at h
  ·split at h
   ·rename_i k hk
    cases hz : Nat.beq k 0 with
    | true => rw [hz] at h; cases h
    | false =>
     rw [hz] at h
     simp only [cond_false] at h
     split at h
     ·rename_i els n _ _
      obtain ⟨_, h⟩ := cond_some h
      unfold copyR at h
      cases hn : (els.take n).isEmpty with
      | true => rw [hn] at h; cases h; exact .same _ _
      | false =>
       rw [hn] at h
       simp only [cond_false] at h
       split at h
       ·obtain ⟨_, h⟩ := cond_some h
        split at h
        ·rename_i hw; cases h; exact write_ptr_keeps hw
        ·cases h
       ·cases h
     ·cases h
   ·cases h
  ·cases h
 ·cases h
theorem callP_fresh {call : CallF} {g : FuncId} {args : List AV} {h : Heap} (hp : ((C.prim g).isNone && C.fresh g) = true) : ∀ h', callP C call g args h' = (callP C call g args h).map fun r => (r.1, h') := by
 intro h'
 simp only [Bool.and_eq_true] at hp
 unfold callP
 cases hq : C.prim g with
 | some p => rw [hq] at hp; cases hp.1
 | none =>
  simp only []
  rw [hp.2]
  simp only [cond_true]
  cases mapO (stripA 8) args with
  | none => rfl
  | some a =>
   simp only []
   cases call g a heapF with
   | none => rfl
   | some r =>
    obtain ⟨v, h2⟩ := r
    simp only []
    cases strip 8 h2 v <;> rfl
theorem callP_quiet {call : CallF} {g : FuncId} {args : List AV} {h h' : Heap} {v : AV} (hp : ((C.prim g).isNone && (C.fresh g || (C.imp g || C.pure g))) = true) (hc : callP C call g args h = some (v, h')) : h' = h := by
 simp only [Bool.and_eq_true, Bool.or_eq_true] at hp
 unfold callP at hc
 cases hq : C.prim g with
 | some p => rw [hq] at hp; cases hp.1
 | none =>
  rw [hq] at hc
  simp only [] at hc
  cases hf : C.fresh g with
  | true =>
   rw [hf] at hc
   simp only [cond_true] at hc
   split at hc
   ·split at hc
    ·split at hc
     ·cases hc; rfl
     ·cases hc
    ·cases hc
   ·cases hc
  | false =>
   rw [hf] at hc hp
   simp only [cond_false] at hc
   cases hi : C.imp g with
   | true =>
    rw [hi] at hc
    simp only [cond_true] at hc
    split at hc
    ·split at hc
     ·split at hc
      ·cases hc; rfl
      ·cases hc
     ·cases hc
    ·cases hc
   | false =>
    rw [hi] at hc hp
    have hpu : C.pure g = true := hp.2.elim (fun h => by cases h) (fun h => h.elim (fun h => by cases h) id)
    rw [hpu] at hc
    simp only [cond_false, cond_true] at hc
    split at hc
    ·split at hc
     ·cases hc; rfl
     ·cases hc
    ·cases hc
theorem callP_same {call : CallF} {g : FuncId} {args : List AV} {h h' : Heap} {v : AV} (hp : ((C.prim g).isNone && C.fresh g) = true) (hc : callP C call g args h = some (v, h')) : h' = h := by
 have := callP_fresh (call := call) (args := args) (h := h) hp h
 rw [hc] at this
 simp only [Option.map_some, Option.some.injEq, Prod.mk.injEq] at this
 exact this.2
theorem op_keeps {call : CallF} {f : FuncId} {o : Oper} {r : Slot × St} (h : evOp C P call f o σ = some r) : Keeps (clsOf C P f o) σ r.2 := by
 unfold evOp at h
 unfold clsOf
 split at h <;> rename_i ho <;> try rw [ho]
 ·exact move_keeps h
 ·exact move_keeps h
 ·unfold opPick at h
  split at h
  ·rename_i q _; cases q <;> exact move_keeps h
  ·cases h
 ·unfold opAlloc at h
  split at h
  ·cases h; exact alloc_keeps
  ·cases h
 ·unfold opBox at h
  split at h
  ·cases h; exact alloc_keeps
  ·cases h
 ·unfold opBuild at h
  split at h
  ·exact resV_keeps h
  ·cases h
 ·unfold opBuildSlice at h
  split at h
  ·split at h
   ·split at h
    ·obtain ⟨_, h⟩ := cond_some h
     split at h
     ·unfold St.litSlice at h
      cases h7 : C.is f o.dst 7 with
      | true =>
       rw [h7] at h
       simp only [cond_true] at h
       obtain ⟨_, h⟩ := cond_some h
       cases h; exact .same _ _
      | false => rw [h7] at h; cases h; exact newSlice_keeps
     ·cases h
    ·cases h
   ·cases h
  ·cases h
 ·unfold opLoad at h
  have key : ∀ cl, Keeps cl σ r.2 := by
   intro cl
   split at h
   ·rename_i s hs
    cases hq : (C.is f o.dst 3 && isHeapPtr s) || (C.is f o.dst 5 && isLp s) with
    | true => rw [hq] at h; cases h
    | false => rw [hq] at h; exact resV_keeps h
   ·cases h
  exact key _
 ·unfold opStore at h
  split at h
  ·split at h
   ·split at h
    ·obtain ⟨hb, h⟩ := cond_some h
     split at h
     ·rename_i hw
      cases h
      simp only [Bool.and_eq_true] at hb
      have hb := hb.1
      unfold wOk at hb
      simp only []
      cases hq : isW C f _ with
      | false => exact write_keeps hw
      | true =>
       rw [hq] at hb
       exact write_lp_keeps hw hb
     ·cases h
    ·cases h
   ·cases h
  ·cases h
 ·unfold opNil at h
  split at h
  ·split at h <;> first | (cases h; exact .same _ _) | (cases h; done)
  ·cases h
 ·unfold opBin at h
  split at h
  ·split at h
   ·exact resV_keeps h
   ·cases h
  ·cases h
 ·unfold opUn at h
  split at h
  ·exact resV_keeps h
  ·cases h
 ·rename_i s d x
  unfold opConv at h
  split at h
  ·unfold evConvert at h
   split at h
   ·rename_i e hs hd
    have hd' : elemT P d = none := by simp [elemT, hd]
    simp only [hd']
    split at h
    ·obtain ⟨_, h⟩ := cond_some h; exact resV_keeps h
    ·cases h
   ·rename_i e hs hd
    have hd' : elemT P d = some e := by simp [elemT, hd]
    simp only [hd']
    unfold toBytes at h
    split at h
    ·rename_i sb _ _
     obtain ⟨_, h⟩ := cond_some h; cases h; exact newSlice_keeps
    ·cases h
   ·split at h
    ·cases elemT P d <;> exact resV_keeps h
    ·cases h
  ·cases h
 ·unfold opIface at h
  split at h
  ·cases h; exact .same _ _
  ·cases h
 ·unfold opFunc at h
  split at h
  ·split at h
   ·cases h; exact .same _ _
   ·cases h
  ·cases h
 ·unfold opMakeSlice at h
  split at h
  ·obtain ⟨_, h⟩ := cond_some h
   unfold makeS at h
   split at h
   ·obtain ⟨_, h2⟩ := cond_some h
    clear h
    have h3 := Option.some.inj h2
    subst h3
    have key : ∀ (b : Bool) k e els, Keeps .n σ (bif b then σ.newO k e els else σ.newR k els).2 := by
     intro b k e els; cases b
     ·exact .news rfl rfl rfl rfl (grow_new _ _)
     ·exact .news rfl rfl rfl rfl (grow_new _ _)
    exact key _ _ _ _
   ·cases h
  ·cases h
 ·have key : ∀ cl, Keeps cl σ r.2 := by
   intro cl
   unfold opSlice at h
   split at h
   ·unfold opSlice3 at h
    split at h
    ·split at h
     ·split at h
      ·split at h
       ·split at h
        ·exact resV_keeps h
        ·cases h
       ·cases h
      ·cases h
     ·cases h
    ·cases h
   ·split at h
    ·split at h
     ·exact resV_keeps h
     ·cases h
    ·cases h
  exact key _
 ·unfold opFieldAddr at h
  split at h
  ·split at h
   ·split at h
    ·obtain ⟨_, h⟩ := cond_some h
     split at h
     ·cases h; exact .same _ _
     ·cases h
    ·cases h
   ·cases h
  ·cases h
 ·unfold opField at h
  split at h
  ·split at h
   ·split at h
    ·exact resV_keeps h
    ·cases h
   ·cases h
  ·cases h
 ·unfold opIndexAddr at h
  split at h
  ·split at h
   ·split at h
    ·unfold addrSl at h
     split at h
     ·split at h
      ·split at h
       ·obtain ⟨_, h⟩ := cond_some h; cases h; exact .same _ _
       ·cases h
      ·cases h
     ·cases h
    ·unfold addrR at h
     split at h
     ·split at h
      ·obtain ⟨_, h⟩ := cond_some h; cases h; exact .same _ _
      ·cases h
     ·cases h
    ·unfold addrA at h
     split at h
     ·split at h
      ·split at h
       ·cases h; exact .same _ _
       ·cases h
      ·cases h
     ·cases h
   ·cases h
  ·cases h
 ·unfold opIndex at h
  split at h
  ·split at h
   ·split at h
    ·exact resV_keeps h
    ·exact resV_keeps h
    ·cases h
   ·cases h
  ·cases h
 ·rename_i x xt t ok
  unfold opAssert at h
  have hf : ∀ {u : TypeId} {ok : Bool}, failAs P σ u ok = some r → Keeps .p σ r.2 := by
   intro u ok h
   unfold failAs at h
   obtain ⟨_, h⟩ := cond_some h
   split at h
   ·cases h; exact .same _ _
   ·cases h
  split at h
  ·split at h
   ·rename_i u v _
    cases hq : Nat.beq u t with
    | true => rw [hq] at h; cases h; exact .same _ _
    | false => rw [hq] at h; exact hf h
   ·exact hf h
   ·cases h
  ·cases h
 ·unfold opExtract at h
  split at h
  ·exact resV_keeps h
  ·cases h
 ·rename_i c
  simp only []
  unfold clsCall
  unfold opCall at h
  split at h
  ·cases h
  ·split at h
   ·rename_i b hb
    rw [hb]
    simp only []
    unfold evBuiltin at h
    split at h
    ·split at h
     ·exact resV_keeps h
     ·cases h
    ·split at h
     ·exact append_keeps h
     ·cases h
    ·split at h
     ·exact copy_keeps h
     ·cases h
    ·exact resV_keeps h
    ·exact resV_keeps h
    ·cases h
   ·rename_i x hx
    rw [hx]
    have h8 := (callQ_some h).2
    replace h := (callQ_some h).1
    unfold callVal at h
    split at h
    ·rename_i g first cap hval
     have kc : Keeps .c σ r.2 := back_keeps h
     have kr : C.is f o.dst 8 = true → Keeps .r σ r.2 := by
      intro e
      have hq := h8 e
      unfold quietCal at hq
      rw [hval] at hq
      unfold back at h
      split at h
      ·rename_i v h' hc
       have := callP_quiet hq hc
       subst this
       cases h
       exact .same _ _
      ·cases h
     have kx : Keeps (bif C.is f o.dst 8 then .r else .c) σ r.2 := by
      cases e : C.is f o.dst 8 with
      | true => exact kr e
      | false => exact kc
     split
     ·rename_i b hb; cases hb
     ·rename_i g' hg'
      cases hg'
      cases hq : (C.prim g').isNone && C.fresh g' with
      | false => exact kx
      | true =>
       have : g = g' := by
        have := val_slot hval
        simp only [St.slot] at this
        cases this; rfl
       subst this
       simp only [cond_true]
       unfold back at h
       split at h
       ·rename_i v h' hc
        have := callP_same hq hc
        subst this
        cases h
        exact .same _ _
       ·cases h
     ·exact kx
     ·rename_i h1 h2; exact absurd rfl (h2 _)
    ·cases h
   ·rename_i x name hx
    rw [hx]
    unfold callMeth at h
    split at h
    ·split at h
     ·exact back_keeps h
     ·cases h
    ·cases h
 ·unfold opLookup at h
  split at h
  ·split at h
   ·obtain ⟨_, h⟩ := cond_some h
    split at h
    ·obtain ⟨_, h⟩ := cond_some h
     split at h
     ·cases h; exact .same _ _
     ·split at h
      ·cases h; exact .same _ _
      ·cases h
     ·cases h
    ·cases h
   ·cases h
  ·cases h
 ·unfold opMakeMap at h
  split at h
  ·cases h; exact .news rfl rfl rfl rfl (grow_new _ _)
  ·cases h
 ·unfold opMapUpdate at h
  split at h
  ·split at h
   ·obtain ⟨_, h⟩ := cond_some h
    split at h
    ·obtain ⟨_, h⟩ := cond_some h
     split at h
     ·split at h
      ·cases h; exact .heap rfl rfl rfl rfl
      ·cases h
     ·cases h
    ·cases h
   ·cases h
  ·cases h
 ·unfold opMapUpdate at h
  split at h
  ·split at h
   ·obtain ⟨_, h⟩ := cond_some h
    split at h
    ·obtain ⟨_, h⟩ := cond_some h
     split at h
     ·split at h
      ·cases h; exact .heap rfl rfl rfl rfl
      ·cases h
     ·cases h
    ·cases h
   ·cases h
  ·cases h
 ·unfold opRange at h
  split at h
  ·obtain ⟨_, h⟩ := cond_some h
   cases h; exact .any rfl rfl rfl
  ·cases h
 ·unfold opNext at h
  split at h
  ·split at h
   ·obtain ⟨_, h⟩ := cond_some h
    split at h
    ·cases h; exact .any rfl rfl rfl
    ·cases h
   ·cases h
  ·cases h
 ·cases h
end
end Go.Ef
namespace Go.Ef
open Go
def St.mem (σ : St) (loc : List LObj) (h : Heap) : St := { σ with loc := loc, h := h }
def memR (loc : List LObj) (h : Heap) (r : Slot × St) : Slot × St := (r.1, r.2.mem loc h)
section
variable {C : Cfg} {P : Program} {σ : St} {loc : List LObj} {hp : Heap}
theorem mem_slot (x : Operand) : (σ.mem loc hp).slot x = σ.slot x := by cases x <;> rfl
theorem mem_val (x : Operand) : (σ.mem loc hp).val x = σ.val x := by unfold St.val; rw [mem_slot]
theorem resV_mem (v : Option AV) : resV (σ.mem loc hp) v = (resV σ v).map (memR loc hp) := by cases v <;> rfl
theorem move_mem {x : Operand} : opMove (σ.mem loc hp) x = (opMove σ x).map (memR loc hp) := by
 unfold opMove; rw [mem_slot]; cases σ.slot x <;> rfl
theorem parts_mem : ∀ l : List (Nat × Operand), evParts (σ.mem loc hp) l = evParts σ l := by
 intro l
 induction l with
 | nil => rfl
 | cons p l ih =>
  obtain ⟨i, x⟩ := p
  simp only [evParts]
  rw [ih, mem_val]
theorem optVal_mem (x : Option Operand) : optVal (σ.mem loc hp) x = optVal σ x := by
 cases x with
 | none => rfl
 | some y => simp only [optVal]; rw [mem_val]
theorem cls_cond {b : Bool} {x y z : Cls} (h : (bif b then x else y) = z) : (b = true ∧ z = x) ∨ (b = false ∧ z = y) := by
 cases b
 ·exact .inr ⟨rfl, h.symm⟩
 ·exact .inl ⟨rfl, h.symm⟩
theorem cls_new {f : FuncId} {d : Option Nat} {z : Cls} (h : newCls C f d = z) : z = .c ∨ z = .o := by
 rcases cls_cond h with ⟨_, e⟩ | ⟨_, e⟩
 ·exact .inl e
 ·exact .inr e
theorem evOp_mem {call : CallF} {f : FuncId} {o : Oper} (h : clsOf C P f o = .p) : evOp C P call f o (σ.mem loc hp) = (evOp C P call f o σ).map (memR loc hp) := by
 unfold evOp
 unfold clsOf at h
 split <;> rename_i ho <;> try rw [ho] at h
 ·exact move_mem
 ·exact move_mem
 ·rename_i c a b
  unfold opPick
  rw [mem_val]
  split
  ·rename_i q _
   cases q
   ·exact move_mem
   ·exact move_mem
  ·rfl
 ·rcases cls_cond h with ⟨_, e⟩ | ⟨_, e⟩ <;> cases e
 ·rcases cls_cond h with ⟨_, e⟩ | ⟨_, e⟩ <;> cases e
 ·rename_i u parts
  unfold opBuild
  rw [parts_mem]
  cases evParts σ parts.toList with
  | none => rfl
  | some l => exact resV_mem _
 ·rename_i u len parts
  rcases cls_cond h with ⟨h7, _⟩ | ⟨_, e⟩
  ·unfold opBuildSlice
   rw [parts_mem]
   cases evParts σ parts.toList with
   | none => rfl
   | some l =>
    simp only []
    cases elemT P u with
    | none => rfl
    | some e =>
     simp only []
     cases sizeT P e <;> cases zeroA P e <;> try rfl
     rename_i k z
     simp only []
     cases Nat.ble (len * k) 16777216 && Nat.beq z.cells.length k && Nat.ble 1 k
     ·rfl
     ·simp only [cond_true]
      cases fillA (fun i => some (i * k, k)) (List.replicate len z.cells).flatten l with
      | none => rfl
      | some cs =>
       simp only [St.litSlice]
       rw [h7]
       simp only [cond_true]
       cases plainEls (chunks len k cs) <;> rfl
  ·rcases cls_new e.symm with e | e <;> cases e
 ·simp only [] at h
  cases hb : C.is f o.dst 3 with
  | true => rw [hb] at h; cases h
  | false =>
   rw [hb] at h
   simp only [cond_false] at h
   cases hb : C.is f o.dst 5 <;> rw [hb] at h <;> cases h
 ·rcases cls_cond h with ⟨_, e⟩ | ⟨_, e⟩ <;> cases e
 ·rename_i x
  unfold opNil
  rw [mem_slot]
  cases σ.slot x with
  | none => rfl
  | some s =>
   simp only []
   split <;> first | rfl | skip
 ·rename_i op u x y v
  unfold opBin
  rw [mem_val, mem_val]
  cases σ.val x with
  | none => rfl
  | some a =>
   cases σ.val y with
   | none => rfl
   | some b => exact resV_mem _
 ·rename_i op u x
  unfold opUn
  rw [mem_val]
  split
  ·exact resV_mem _
  ·rfl
 ·rename_i s d x
  simp only [] at h
  cases hd : elemT P d with
  | none => rw [hd] at h; cases h
  | some e =>
   rw [hd] at h
   rcases cls_new h with e | e <;> cases e
 ·rename_i u x
  unfold opIface
  rw [mem_val]
  split <;> rfl
 ·rename_i g first cap
  unfold opFunc
  rw [mapO_congr (f := (σ.mem loc hp).val) (g := σ.val) (l := first.toList) (fun x _ => mem_val x), mapO_congr (f := (σ.mem loc hp).val) (g := σ.val) (l := cap.toList) (fun x _ => mem_val x)]
  cases mapO σ.val first.toList with
  | none => rfl
  | some l => simp only []; cases mapO σ.val cap.toList <;> rfl
 ·cases h
 ·rename_i u x lo hi mx
  unfold opSlice
  cases mx with
  | some m =>
   simp only []
   unfold opSlice3
   cases hi with
   | none => rfl
   | some hi =>
    simp only []
    rw [mem_val, optVal_mem, mem_val, mem_val]
    cases σ.val x with
    | none => rfl
    | some s =>
     simp only []
     cases optVal σ lo <;> cases σ.val hi <;> cases σ.val m <;> try rfl
     exact resV_mem _
  | none =>
   simp only []
   rw [mem_val, optVal_mem, optVal_mem]
   cases σ.val x with
   | none => rfl
   | some s =>
    simp only []
    cases optVal σ lo with
    | none => rfl
    | some l =>
     cases optVal σ hi with
     | none => rfl
     | some r =>
      simp only []
      have : evSlice P (σ.mem loc hp) u s l r = evSlice P σ u s l r := by
       unfold evSlice
       split <;> try rfl
       ·unfold sliceArr
        cases hu : P.underlying u with
        | none => rfl
        | some d =>
         cases d with
         | array n e => simp only [hu] at h; cases h
         | _ => rfl
      rw [this]
      exact resV_mem _
 ·rename_i s x i
  unfold opFieldAddr
  rw [mem_slot]
  cases σ.slot x with
  | none => rfl
  | some p =>
   simp only []
   cases fieldsT P s with
   | none => rfl
   | some fs =>
    simp only []
    cases fs[i]? with
    | none => rfl
    | some fd =>
     simp only []
     cases Option.any (Nat.blt 0) (sizeT P fd.type)
     ·rfl
     ·simp only [cond_true]
      cases moveSlot p fd.offset <;> rfl
 ·rename_i u x i
  unfold opField
  rw [mem_val]
  split
  ·cases fieldsT P u with
   | none => rfl
   | some fs =>
    simp only []
    cases fs[i]? with
    | none => rfl
    | some fd => exact resV_mem _
  ·rfl
 ·rename_i u x i
  unfold opIndexAddr
  rw [mem_slot, mem_val]
  cases σ.slot x with
  | none => rfl
  | some s =>
   cases σ.val i with
   | none => rfl
   | some a =>
    simp only []
    split
    ·rename_i els tok
     unfold addrSl
     cases elemT P u with
     | none => rfl
     | some e =>
      simp only []
      cases sizeT P e <;> cases idx (lenL els) a <;> try rfl
      rename_i k j
      simp only []
      cases getI j els with
      | none => rfl
      | some l => simp only []; cases Nat.beq (lenL l) k <;> rfl
    ·rename_i id off len k
     unfold addrR
     cases elemT P u with
     | none => rfl
     | some e =>
      simp only []
      cases sizeT P e <;> cases idx len a <;> try rfl
      rename_i k' j
      simp only []
      cases Nat.beq k k' <;> rfl
    ·unfold addrA
     cases arrT P u with
     | none => rfl
     | some ne =>
      obtain ⟨n, e⟩ := ne
      simp only []
      cases sizeT P e <;> cases idx n a <;> try rfl
      rename_i k j
      simp only []
      cases moveSlot s (j * k) <;> rfl
 ·rename_i u x i
  unfold opIndex
  rw [mem_val, mem_val]
  cases σ.val x with
  | none => rfl
  | some v =>
   cases σ.val i with
   | none => rfl
   | some a =>
    simp only []
    split
    ·exact resV_mem _
    ·exact resV_mem _
    ·rfl
 ·rename_i x xt u ok
  unfold opAssert
  rw [mem_val]
  have hfail : failAs P (σ.mem loc hp) u ok = (failAs P σ u ok).map (memR loc hp) := by
   unfold failAs
   cases ok
   ·rfl
   ·simp only [cond_true]; cases zeroA P u <;> rfl
  split
  ·split
   ·rename_i q v _
    cases Nat.beq q u
    ·exact hfail
    ·rfl
   ·exact hfail
   ·rfl
  ·rfl
 ·rename_i x i
  unfold opExtract
  rw [mem_val]
  split
  ·exact resV_mem _
  ·rfl
 ·rename_i c
  replace h : clsCall C f o.dst c = .p := h
  unfold clsCall at h
  unfold opCall
  rw [mapO_congr (f := (σ.mem loc hp).val) (g := σ.val) (l := c.args.toList) (fun x _ => mem_val x)]
  cases mapO σ.val c.args.toList with
  | none => rfl
  | some args =>
   simp only []
   split
   ·rename_i b hb
    rw [hb] at h
    replace h : clsBuiltin C f o.dst b = .p := h
    unfold evBuiltin
    cases b <;> simp only [clsBuiltin, reduceCtorEq] at h <;> first | exact resV_mem _ | (rcases cls_new h with e | e <;> cases e)
   ·rename_i x hx
    rw [hx] at h
    split at h
    ·rename_i hq; cases hq
    ·rename_i g hq
     cases hq
     rcases cls_cond h with ⟨hb, _⟩ | ⟨_, e⟩
     ·have hv : σ.val (.func g) = some (.fn (.func g) [] []) := rfl
      have hv' : (σ.mem loc hp).val (.func g) = some (.fn (.func g) [] []) := rfl
      have hq : quietCal C σ (.func g) = true := by
       unfold quietCal
       rw [hv]
       simp only [Bool.and_eq_true] at hb ⊢
       exact ⟨hb.1, by rw [hb.2]; rfl⟩
      have hq' : quietCal C (σ.mem loc hp) (.func g) = true := by
       unfold quietCal at hq ⊢
       rw [hv']; rw [hv] at hq; exact hq
      unfold callQ
      rw [hq, hq', Bool.not_true, Bool.and_false]
      simp only [cond_false]
      unfold callVal
      rw [hv, hv']
      simp only []
      show back (σ.mem loc hp) (callP C call g ([] ++ args ++ []) hp) = (back σ (callP C call g ([] ++ args ++ []) σ.h)).map (memR loc hp)
      rw [callP_fresh (h := σ.h) hb hp]
      cases hc : callP C call g ([] ++ args ++ []) σ.h with
      | none => rfl
      | some r =>
       obtain ⟨v, h2⟩ := r
       rfl
     ·rcases cls_cond e.symm with ⟨_, e⟩ | ⟨_, e⟩ <;> cases e
    ·rcases cls_cond h with ⟨_, e⟩ | ⟨_, e⟩ <;> cases e
    ·cases h
   ·rename_i x name hx
    rw [hx] at h
    cases h
 ·rcases cls_cond h with ⟨_, e⟩ | ⟨_, e⟩ <;> cases e
 ·cases h
 ·cases h
 ·cases h
 ·cases h
 ·cases h
 ·rfl
theorem load_heap {s : Slot} {u : TypeId} (h : isHeapPtr s = false) : ({ σ with h := hp } : St).load C P u s = σ.load C P u s := by
 have : ∀ n, ({ σ with h := hp } : St).read C n s = σ.read C n s := by
  intro n
  cases s with
  | unk => rfl
  | lp k off => rfl
  | v a => cases a <;> first | rfl | cases h
 unfold St.load; simp only [this]
theorem cls_call {f : FuncId} {d : Option Nat} {c : Call} {z : Cls} (h : clsCall C f d c = z) : z = .p ∨ z = .h ∨ z = .c ∨ z = .o ∨ z = .r ∨ z = .s := by
 have two : ∀ {b : Bool}, (bif b then Cls.r else Cls.c) = z → z = .p ∨ z = .h ∨ z = .c ∨ z = .o ∨ z = .r ∨ z = .s := by
  intro b h
  rcases cls_cond h with ⟨_, e⟩ | ⟨_, e⟩ <;> subst e <;> simp
 unfold clsCall at h
 split at h
 ·rename_i b _
  cases b <;> simp only [clsBuiltin] at h <;> first | (rcases cls_new h with e | e <;> subst e <;> simp) | (subst h; simp)
 ·rcases cls_cond h with ⟨_, e⟩ | ⟨_, e⟩
  ·subst e; simp
  ·exact two e.symm
 ·exact two h
 ·subst h; simp
theorem cls_l {f : FuncId} {o : Oper} (h : clsOf C P f o = .l) : ∃ u x, o.op = .load u x ∧ C.is f o.dst 3 = true := by
 unfold clsOf at h
 split at h <;> try (cases h; done)
 ·rename_i u x ho
  rcases cls_cond h with ⟨e, _⟩ | ⟨_, e⟩
  ·exact ⟨u, x, ho, e⟩
  ·rcases cls_cond e.symm with ⟨_, e⟩ | ⟨_, e⟩ <;> cases e
 ·split at h <;> cases h
 ·split at h
  ·rcases cls_new h with e | e <;> cases e
  ·cases h
 ·rcases cls_call h with e | e | e | e | e | e <;> cases e
 ·rcases cls_cond h with ⟨_, e⟩ | ⟨_, e⟩
  ·cases e
  ·rcases cls_new e.symm with e | e <;> cases e
 ·rcases cls_cond h with ⟨_, e⟩ | ⟨_, e⟩ <;> cases e
 ·rcases cls_cond h with ⟨_, e⟩ | ⟨_, e⟩ <;> cases e
 ·rcases cls_cond h with ⟨_, e⟩ | ⟨_, e⟩ <;> cases e
 ·rcases cls_cond h with ⟨_, e⟩ | ⟨_, e⟩ <;> cases e
theorem evOp_heap {call : CallF} {f : FuncId} {o : Oper} (h : clsOf C P f o = .l) : evOp C P call f o (σ.mem σ.loc hp) = (evOp C P call f o σ).map (memR σ.loc hp) := by
 obtain ⟨u, x, ho, hb⟩ := cls_l h
 unfold evOp
 rw [ho]
 simp only []
 unfold opLoad
 rw [mem_slot]
 cases σ.slot x with
 | none => rfl
 | some s =>
  simp only [hb, Bool.true_and]
  cases hs : isHeapPtr s with
  | true => rfl
  | false =>
   simp only [Bool.false_or]
   rw [show (σ.mem σ.loc hp).load C P u s = σ.load C P u s from load_heap hs]
   cases C.is f o.dst 5 && isLp s
   ·exact resV_mem _
   ·rfl
theorem obs_cells {α : Type} {h h' : Heap} (k : Obs h h') (id : Nat) (F : List AV → α) (d : α) :
  (match h'.get id with | some (.cells cs) => F cs | _ => d) = match h.get id with | some (.cells cs) => F cs | _ => d := by
 have e := k id
 cases h1 : h.get id with
 | none =>
  cases h2 : h'.get id with
  | none => rfl
  | some o => rw [h1, h2] at e; cases o <;> first | rfl | cases e
 | some o =>
  cases h2 : h'.get id with
  | none => rw [h1, h2] at e; cases o <;> first | rfl | cases e
  | some o' =>
   rw [h1, h2] at e
   cases o <;> cases o' <;> first | rfl | (cases e; done) | (cases e; rfl)
theorem obs_map {α : Type} {h h' : Heap} (k : Obs h h') (id : Nat) (F : List (AV × AV) → α) (d : α) :
  (match h'.get id with | some (.map cs) => F cs | _ => d) = match h.get id with | some (.map cs) => F cs | _ => d := by
 have e := k id
 cases h1 : h.get id with
 | none =>
  cases h2 : h'.get id with
  | none => rfl
  | some o => rw [h1, h2] at e; cases o <;> first | rfl | cases e
 | some o =>
  cases h2 : h'.get id with
  | none => rw [h1, h2] at e; cases o <;> first | rfl | cases e
  | some o' =>
   rw [h1, h2] at e
   cases o <;> cases o' <;> first | rfl | (cases e; done) | (cases e; rfl)
theorem read_obs (k : Obs σ.h hp) {s : Slot} (hs : loc = σ.loc ∨ isLp s = false) (n : Nat) : (σ.mem loc hp).read C n s = σ.read C n s := by
 cases s with
 | unk => rfl
 | lp i off =>
  rcases hs with rfl | hs
  ·rfl
  ·cases hs
 | v a =>
  cases a <;> try rfl
  rename_i id off
  exact obs_cells k id (fun cs => stretch off n cs) none
theorem load_obs (k : Obs σ.h hp) {s : Slot} (hs : loc = σ.loc ∨ isLp s = false) (u : TypeId) : (σ.mem loc hp).load C P u s = σ.load C P u s := by
 unfold St.load
 simp only [read_obs k hs]
theorem elems_obs (k : Obs σ.h hp) (n : Nat) (x : AV) : (σ.mem loc hp).elems n x = σ.elems n x := by
 unfold St.elems
 split <;> try rfl
 rename_i id off len k'
 cases Nat.beq n k'
 ·rfl
 ·exact obs_cells k id (fun cs => (stretch off (len * n) cs).map (chunks len n)) none
theorem evLen_obs (k : Obs σ.h hp) (types : Array TypeId) (ty : TypeId) (x : AV) : evLen P (σ.mem loc hp) types ty x = evLen P σ types ty x := by
 unfold evLen
 split <;> try rfl
 rename_i id
 cases types[0]? with
 | none => rfl
 | some t =>
  simp only []
  cases P.underlying t with
  | none => rfl
  | some d =>
   cases d <;> try rfl
   have e := obs_map k id (fun es => some (intA es.length)) none
   show (match some (TypeDesc.map _ _), hp.get id with | some (.map _ _), some (.map es) => some (intA es.length) | _, _ => none) = _
   cases h1 : hp.get id with
   | none => rw [h1] at e; cases h2 : σ.h.get id with
    | none => rfl
    | some o => rw [h2] at e; cases o <;> first | rfl | cases e
   | some o' => rw [h1] at e; cases h2 : σ.h.get id with
    | none => rw [h2] at e; cases o' <;> first | rfl | cases e
    | some o => rw [h2] at e; cases o <;> cases o' <;> first | rfl | (cases e; done) | (simp only [Option.some.injEq] at e; simp only [e])
theorem sliceArr_obs (k : Obs σ.h hp) (t : TypeId) (id off : Nat) (lo hi : Option AV) : sliceArr P (σ.mem loc hp) t id off lo hi = sliceArr P σ t id off lo hi := by
 unfold sliceArr
 cases P.underlying t with
 | none => rfl
 | some d =>
  cases d <;> try rfl
  rename_i n e
  simp only []
  cases sizeT P e with
  | none => rfl
  | some z =>
   cases evRange n lo hi with
   | none => rfl
   | some r =>
    obtain ⟨l, h⟩ := r
    exact obs_cells k id (fun cs => bif Nat.ble (off + n * z) cs.length then some (AV.rsl id (off + l * z) (h - l) z) else none) none
theorem evSlice_obs (k : Obs σ.h hp) (t : TypeId) (s : AV) (lo hi : Option AV) : evSlice P (σ.mem loc hp) t s lo hi = evSlice P σ t s lo hi := by
 unfold evSlice
 split <;> try rfl
 exact sliceArr_obs k _ _ _ _ _
theorem entries_obs (k : Obs σ.h hp) (m : AV) : entriesA hp m = entriesA σ.h m := by
 unfold entriesA
 split <;> try rfl
 exact obs_map k _ (fun es => some es) none
theorem opLoad_obs (k : Obs σ.h hp) {f : FuncId} {d : Option Nat} {u : TypeId} {x : Operand} (hl : loc = σ.loc ∨ C.is f d 5 = true) : opLoad C P (σ.mem loc hp) f d u x = (opLoad C P σ f d u x).map (memR loc hp) := by
 unfold opLoad
 rw [mem_slot]
 cases σ.slot x with
 | none => rfl
 | some s =>
  simp only []
  cases hb : (C.is f d 3 && isHeapPtr s) || (C.is f d 5 && isLp s) with
  | true => rfl
  | false =>
   simp only [cond_false]
   rw [load_obs k]
   ·exact resV_mem _
   ·rcases hl with hl | hl
    ·exact .inl hl
    ·rw [hl, Bool.true_and] at hb
     simp only [Bool.or_eq_false_iff] at hb
     exact .inr hb.2
theorem cls_len {f : FuncId} {d : Option Nat} {c : Call} (h : clsCall C f d c = .h) : c.callee = .builtin .len := by
 unfold clsCall at h
 split at h
 ·rename_i b hb
  rw [hb]
  cases b <;> simp only [clsBuiltin, reduceCtorEq] at h <;> first | rfl | (rcases cls_new h with e | e <;> cases e)
 ·rcases cls_cond h with ⟨_, e⟩ | ⟨_, e⟩
  ·cases e
  ·rcases cls_cond e.symm with ⟨_, e⟩ | ⟨_, e⟩ <;> cases e
 ·rcases cls_cond h with ⟨_, e⟩ | ⟨_, e⟩ <;> cases e
 ·cases h
theorem cls_h {f : FuncId} {o : Oper} (h : clsOf C P f o = .h) : (∃ u x, o.op = .load u x ∧ C.is f o.dst 5 = true) ∨ (∃ u x i ok, o.op = .lookup u x i ok) ∨ ∃ c, o.op = .call c ∧ c.callee = .builtin .len := by
 unfold clsOf at h
 split at h <;> try (cases h; done)
 ·rename_i u x ho
  rcases cls_cond h with ⟨_, e⟩ | ⟨_, e⟩
  ·cases e
  ·rcases cls_cond e.symm with ⟨e, _⟩ | ⟨_, e⟩
   ·exact .inl ⟨u, x, ho, e⟩
   ·cases e
 ·split at h <;> cases h
 ·split at h
  ·rcases cls_new h with e | e <;> cases e
  ·cases h
 ·rename_i c ho
  exact .inr (.inr ⟨c, ho, cls_len h⟩)
 ·rcases cls_cond h with ⟨_, e⟩ | ⟨_, e⟩
  ·cases e
  ·rcases cls_new e.symm with e | e <;> cases e
 ·rename_i u x i ok ho
  exact .inr (.inl ⟨u, x, i, ok, ho⟩)
 ·rcases cls_cond h with ⟨_, e⟩ | ⟨_, e⟩ <;> cases e
 ·rcases cls_cond h with ⟨_, e⟩ | ⟨_, e⟩ <;> cases e
 ·rcases cls_cond h with ⟨_, e⟩ | ⟨_, e⟩ <;> cases e
theorem lookup_obs (k : Obs σ.h hp) {u : TypeId} {x i : Operand} {ok : Bool} : opLookup P (σ.mem loc hp) u x i ok = (opLookup P σ u x i ok).map (memR loc hp) := by
 unfold opLookup
 rw [mem_val, mem_val]
 cases σ.val x with
 | none => rfl
 | some m =>
  cases σ.val i with
  | none => rfl
  | some v =>
   cases v <;> try rfl
   rename_i kv
   cases mapT P u with
   | none => rfl
   | some kt =>
    obtain ⟨kt, et⟩ := kt
    simp only []
    cases P.underlying kt with
    | none => rfl
    | some d =>
     simp only []
     cases keyB d kv
     ·rfl
     ·simp only [cond_true]
      rw [show entriesA (σ.mem loc hp).h m = entriesA σ.h m from entries_obs k m]
      cases entriesA σ.h m with
      | none => rfl
      | some es =>
       simp only []
       cases allKeys d es
       ·rfl
       simp only [cond_true]
       cases findA d kv es with
       | none => rfl
       | some r =>
        cases r with
        | some w => rfl
        | none =>
         simp only []
         cases zeroA P et <;> rfl
theorem evOp_h {call : CallF} {f : FuncId} {o : Oper} (h : clsOf C P f o = .h) (k : Obs σ.h hp) : evOp C P call f o (σ.mem loc hp) = (evOp C P call f o σ).map (memR loc hp) := by
 rcases cls_h h with ⟨u, x, ho, hb⟩ | ⟨u, x, i, ok, ho⟩ | ⟨c, ho, hc⟩
 ·unfold evOp
  rw [ho]
  exact opLoad_obs k (.inr hb)
 ·unfold evOp
  rw [ho]
  exact lookup_obs k
 ·unfold evOp
  rw [ho]
  simp only []
  unfold opCall
  rw [mapO_congr (f := (σ.mem loc hp).val) (g := σ.val) (l := c.args.toList) (fun x _ => mem_val x)]
  cases mapO σ.val c.args.toList with
  | none => rfl
  | some args =>
   simp only [hc]
   unfold evBuiltin
   simp only []
   split
   ·rw [evLen_obs k]; exact resV_mem _
   ·rfl
theorem cls_r {f : FuncId} {o : Oper} (h : clsOf C P f o = .r) : ∃ c x, o.op = .call c ∧ c.callee = .value x ∧ C.is f o.dst 8 = true := by
 unfold clsOf at h
 split at h <;> try (cases h; done)
 ·rcases cls_cond h with ⟨_, e⟩ | ⟨_, e⟩
  ·cases e
  ·rcases cls_cond e.symm with ⟨_, e⟩ | ⟨_, e⟩ <;> cases e
 ·split at h <;> cases h
 ·split at h
  ·rcases cls_new h with e | e <;> cases e
  ·cases h
 ·rename_i c ho
  unfold clsCall at h
  split at h
  ·rename_i b hb
   cases b <;> simp only [clsBuiltin, reduceCtorEq] at h <;> (rcases cls_new h with e | e <;> cases e)
  ·rename_i g hx
   rcases cls_cond h with ⟨_, e⟩ | ⟨_, e⟩
   ·cases e
   ·rcases cls_cond e.symm with ⟨e, _⟩ | ⟨_, e⟩
    ·exact ⟨c, _, ho, hx, e⟩
    ·cases e
  ·rename_i x _ hx
   rcases cls_cond h with ⟨e, _⟩ | ⟨_, e⟩
   ·exact ⟨c, _, ho, hx, e⟩
   ·cases e
  ·cases h
 ·rcases cls_cond h with ⟨_, e⟩ | ⟨_, e⟩
  ·cases e
  ·rcases cls_new e.symm with e | e <;> cases e
 ·rcases cls_cond h with ⟨_, e⟩ | ⟨_, e⟩ <;> cases e
 ·rcases cls_cond h with ⟨_, e⟩ | ⟨_, e⟩ <;> cases e
 ·rcases cls_cond h with ⟨_, e⟩ | ⟨_, e⟩ <;> cases e
 ·rcases cls_cond h with ⟨_, e⟩ | ⟨_, e⟩ <;> cases e
theorem evOp_r {call : CallF} {f : FuncId} {o : Oper} (h : clsOf C P f o = .r) : evOp C P call f o (σ.mem loc σ.h) = (evOp C P call f o σ).map (memR loc σ.h) := by
 obtain ⟨c, x, ho, hx, h8⟩ := cls_r h
 unfold evOp
 rw [ho]
 simp only []
 unfold opCall
 rw [mapO_congr (f := (σ.mem loc σ.h).val) (g := σ.val) (l := c.args.toList) (fun x _ => mem_val x), hx]
 cases mapO σ.val c.args.toList with
 | none => rfl
 | some args =>
  simp only []
  have hqq : quietCal C (σ.mem loc σ.h) x = quietCal C σ x := by unfold quietCal; rw [mem_val]
  unfold callQ
  rw [h8, hqq]
  cases hq : quietCal C σ x with
  | false => rfl
  | true =>
   simp only [Bool.not_true, Bool.and_false, cond_false]
   unfold callVal
   rw [mem_val]
   unfold quietCal at hq
   split
   ·rename_i g first cap hv
    rw [hv] at hq
    show back (σ.mem loc σ.h) (callP C call g (first ++ args ++ cap) σ.h) = _
    cases hc : callP C call g (first ++ args ++ cap) σ.h with
    | none => rfl
    | some r =>
     obtain ⟨v, h2⟩ := r
     have := callP_quiet hq hc
     subst this
     rfl
   ·rfl
theorem evOp_q {call : CallF} {f : FuncId} {o : Oper} (h : clsOf C P f o = .q) (k : Obs σ.h hp) : evOp C P call f o (σ.mem σ.loc hp) = (evOp C P call f o σ).map (memR σ.loc hp) := by
 unfold clsOf at h
 split at h <;> try (cases h; done)
 ·rename_i u x ho
  unfold evOp
  rw [ho]
  exact opLoad_obs k (.inl rfl)
 ·rename_i u x lo hi mx ho
  unfold evOp
  rw [ho]
  simp only []
  unfold opSlice
  cases mx with
  | some m =>
   simp only []
   unfold opSlice3
   cases hi with
   | none => rfl
   | some hi =>
    simp only []
    rw [mem_val, optVal_mem, mem_val, mem_val]
    cases σ.val x with
    | none => rfl
    | some s =>
     simp only []
     cases optVal σ lo <;> cases σ.val hi <;> cases σ.val m <;> try rfl
     exact resV_mem _
  | none =>
   simp only []
   rw [mem_val, optVal_mem, optVal_mem]
   cases σ.val x with
   | none => rfl
   | some s =>
    simp only []
    cases optVal σ lo <;> cases optVal σ hi <;> try rfl
    simp only [evSlice_obs k]
    exact resV_mem _
 ·rename_i s d x ho
  split at h
  ·rcases cls_new h with e | e <;> cases e
  ·rename_i hd
   unfold evOp
   rw [ho]
   simp only []
   unfold opConv
   rw [mem_val]
   cases σ.val x with
   | none => rfl
   | some a =>
    simp only []
    unfold evConvert
    split
    ·rw [elems_obs k]
     cases σ.elems 1 a with
     | none => rfl
     | some els =>
      simp only []
      cases isSlice a
      ·rfl
      ·exact resV_mem _
    ·rename_i e he
     exfalso
     unfold elemT at hd
     rw [he] at hd
     cases hd
    ·cases toVal 0 a with
     | none => rfl
     | some v => exact resV_mem _
 ·rcases cls_call h with e | e | e | e | e | e <;> cases e
 ·rcases cls_cond h with ⟨_, e⟩ | ⟨_, e⟩
  ·cases e
  ·rcases cls_new e.symm with e | e <;> cases e
 ·rename_i u x i ok ho
  unfold evOp
  rw [ho]
  exact lookup_obs k
 ·rcases cls_cond h with ⟨_, e⟩ | ⟨_, e⟩ <;> cases e
 ·rcases cls_cond h with ⟨_, e⟩ | ⟨_, e⟩ <;> cases e
 ·rcases cls_cond h with ⟨_, e⟩ | ⟨_, e⟩ <;> cases e
theorem grow_cells {α : Type} {h h' : Heap} (k : Grow h h') {id : Nat} {F : List AV → Option α} {r : α} (e : (match h.get id with | some (.cells cs) => F cs | _ => none) = some r) :
  (match h'.get id with | some (.cells cs) => F cs | _ => none) = some r := by
 cases h1 : h.get id with
 | none => rw [h1] at e; cases e
 | some o => rw [k id o h1]; rw [h1] at e; exact e
theorem grow_map {α : Type} {h h' : Heap} (k : Grow h h') {id : Nat} {F : List (AV × AV) → Option α} {r : α} (e : (match h.get id with | some (.map cs) => F cs | _ => none) = some r) :
  (match h'.get id with | some (.map cs) => F cs | _ => none) = some r := by
 cases h1 : h.get id with
 | none => rw [h1] at e; cases e
 | some o => rw [k id o h1]; rw [h1] at e; exact e
theorem read_grow (k : Grow σ.h hp) {s : Slot} {n : Nat} {cs : List AV} (e : σ.read C n s = some cs) : (σ.mem σ.loc hp).read C n s = some cs := by
 cases s with
 | unk => exact e
 | lp i off => exact e
 | v a =>
  cases a <;> try exact e
  exact grow_cells k (F := fun cs => stretch _ n cs) e
theorem load_grow (k : Grow σ.h hp) {s : Slot} {u : TypeId} {v : AV} (e : σ.load C P u s = some v) : (σ.mem σ.loc hp).load C P u s = some v := by
 unfold St.load at e ⊢
 split at e
 ·split at e
  ·rename_i n hn
   cases hr : σ.read C n s with
   | none => rw [hr] at e; cases e
   | some cs => rw [hr] at e; rw [read_grow k hr]; exact e
  ·cases e
 ·cases hr : σ.read C 1 s with
  | none => rw [hr] at e; cases e
  | some cs => rw [hr] at e; rw [read_grow k hr]; exact e
 ·cases e
theorem opLoad_grow (k : Grow σ.h hp) {f : FuncId} {d : Option Nat} {u : TypeId} {x : Operand} {r : Slot × St} (e : opLoad C P σ f d u x = some r) : opLoad C P (σ.mem σ.loc hp) f d u x = some (memR σ.loc hp r) := by
 unfold opLoad at e ⊢
 rw [mem_slot]
 cases hs : σ.slot x with
 | none => rw [hs] at e; cases e
 | some s =>
  rw [hs] at e
  simp only [] at e ⊢
  cases hb : (C.is f d 3 && isHeapPtr s) || (C.is f d 5 && isLp s) with
  | true => rw [hb] at e; cases e
  | false =>
   rw [hb] at e
   simp only [cond_false] at e ⊢
   cases hl : σ.load C P u s with
   | none => rw [hl] at e; cases e
   | some v => rw [hl] at e; rw [load_grow k hl, resV_mem, e]; rfl
theorem evLen_grow (k : Grow σ.h hp) {types : Array TypeId} {ty : TypeId} {x v : AV} (e : evLen P σ types ty x = some v) : evLen P (σ.mem σ.loc hp) types ty x = some v := by
 unfold evLen at e ⊢
 split at e <;> try exact e
 rename_i id
 cases h2 : σ.h.get id with
 | none =>
  exfalso
  rw [h2] at e
  cases ht : types[0]? with
  | none => rw [ht] at e; cases e
  | some t =>
   rw [ht] at e
   simp only [] at e
   cases hu : P.underlying t with
   | none => rw [hu] at e; cases e
   | some d => rw [hu] at e; cases d <;> cases e
 | some o => rw [h2] at e; rw [show (σ.mem σ.loc hp).h.get id = some o from k _ _ h2]; exact e
theorem lookup_grow (k : Grow σ.h hp) {u : TypeId} {x i : Operand} {ok : Bool} {r : Slot × St} (e : opLookup P σ u x i ok = some r) : opLookup P (σ.mem σ.loc hp) u x i ok = some (memR σ.loc hp r) := by
 have ent : ∀ m es, entriesA σ.h m = some es → entriesA hp m = some es := by
  intro m es h
  unfold entriesA at h ⊢
  split at h <;> try exact h
  exact grow_map k (F := fun es => some es) h
 unfold opLookup at e ⊢
 rw [mem_val, mem_val]
 cases hx : σ.val x with
 | none => rw [hx] at e; cases e
 | some m =>
  cases hi : σ.val i with
  | none => rw [hx, hi] at e; cases e
  | some v =>
   rw [hx, hi] at e
   cases v <;> try (cases e; done)
   rename_i kv
   cases hm : mapT P u with
   | none => rw [hm] at e; cases e
   | some kt =>
    obtain ⟨kt, et⟩ := kt
    rw [hm] at e
    simp only [] at e ⊢
    cases hd : P.underlying kt with
    | none => rw [hd] at e; cases e
    | some d =>
     rw [hd] at e
     simp only [] at e ⊢
     cases hb : keyB d kv with
     | false => rw [hb] at e; cases e
     | true =>
      rw [hb] at e
      simp only [cond_true] at e ⊢
      cases hes : entriesA σ.h m with
      | none => rw [hes] at e; cases e
      | some es =>
       rw [hes] at e
       rw [show entriesA (σ.mem σ.loc hp).h m = some es from ent _ _ hes]
       simp only [] at e ⊢
       cases hak : allKeys d es with
       | false => rw [hak] at e; cases e
       | true =>
       rw [hak] at e
       simp only [cond_true] at e ⊢
       cases hv : findA d kv es with
       | none => rw [hv] at e; cases e
       | some q =>
        rw [hv] at e
        cases q with
        | some w => cases e; rfl
        | none =>
         simp only [] at e ⊢
         cases hz : zeroA P et with
         | none => rw [hz] at e; cases e
         | some z => rw [hz] at e; cases e; rfl
theorem evOp_grow {call : CallF} {f : FuncId} {o : Oper} {r : Slot × St} (h : clsOf C P f o = .h) (k : Grow σ.h hp) (e : evOp C P call f o σ = some r) : evOp C P call f o (σ.mem σ.loc hp) = some (memR σ.loc hp r) := by
 rcases cls_h h with ⟨u, x, ho, _⟩ | ⟨u, x, i, ok, ho⟩ | ⟨c, ho, hc⟩
 ·unfold evOp at e ⊢
  rw [ho] at e ⊢
  exact opLoad_grow k e
 ·unfold evOp at e ⊢
  rw [ho] at e ⊢
  exact lookup_grow k e
 ·unfold evOp at e ⊢
  rw [ho] at e ⊢
  simp only [] at e ⊢
  unfold opCall at e ⊢
  rw [mapO_congr (f := (σ.mem σ.loc hp).val) (g := σ.val) (l := c.args.toList) (fun x _ => mem_val x)]
  cases ha : mapO σ.val c.args.toList with
  | none => rw [ha] at e; cases e
  | some args =>
   rw [ha] at e
   simp only [hc] at e ⊢
   unfold evBuiltin at e ⊢
   simp only [] at e ⊢
   split at e
   ·rename_i x
    cases hl : evLen P σ c.argTypes o.type x with
    | none => rw [hl] at e; cases e
    | some v => rw [hl] at e; rw [evLen_grow k hl]; cases e; rfl
   ·cases e
end
end Go.Ef
namespace Go.Ef
open Go
noncomputable section
def half (C : Cfg) (P : Program) (call : CallF) (f : FuncId) (ops : Array Oper) (o : Oper) (σ : St) : Option (Slot × St) :=
 match wantedA ops o σ with
 | some true => evOp C P call f o σ
 | some false => some (.v (.sc undef), σ)
 | none => none
def tmPut (d : Option Nat) (s : Slot) (t : Tr Slot) : Tr Slot := match d with
 | none => t
 | some k => t.set k s
def fitsD (n : Nat) (d : Option Nat) : Bool := match d with
 | none => true
 | some k => !Nat.ble n k
section
variable {C : Cfg} {P : Program} {call : CallF} {f : FuncId} {ops : Array Oper} {o x y : Oper} {σ σ' : St}
theorem evStep_eq : evStep C P call f ops o σ = thenO (half C P call f ops o σ) fun r => r.2.put o.dst r.1 := by
 unfold evStep half
 cases wantedA ops o σ with
 | none => rfl
 | some b =>
  cases b with
  | false => rfl
  | true => simp only []; cases evOp C P call f o σ <;> rfl
theorem put_eq {d : Option Nat} {s : Slot} : σ.put d s = bif fitsD σ.n d then some (σ.wt (tmPut d s σ.tm)) else none := by
 cases d with
 | none => rfl
 | some k => simp only [St.put, fitsD, tmPut]; cases Nat.ble σ.n k <;> rfl
theorem step_split (h : evStep C P call f ops o σ = some σ') : ∃ s τ, half C P call f ops o σ = some (s, τ) ∧ fitsD τ.n o.dst = true ∧ σ' = τ.wt (tmPut o.dst s τ.tm) := by
 rw [evStep_eq] at h
 obtain ⟨r, h1, h2⟩ := thenO_some h
 rw [put_eq] at h2
 obtain ⟨h3, h4⟩ := cond_some h2
 exact ⟨r.1, r.2, h1, h3, by cases h4; rfl⟩
theorem step_join {s : Slot} {τ : St} (h : half C P call f ops o σ = some (s, τ)) (hf : fitsD τ.n o.dst = true) : evStep C P call f ops o σ = some (τ.wt (tmPut o.dst s τ.tm)) := by
 rw [evStep_eq, h]
 simp only [thenO]
 rw [put_eq, hf]; rfl
theorem slot_wt {t : Tr Slot} {k : Nat} (h : t.get k = σ.tm.get k) : (σ.wt t).slot (.tmp k) = σ.slot (.tmp k) := by
 simp only [St.slot, St.wt]; rw [h]
theorem wanted_wt {t : Tr Slot} (h : ∀ k ∈ reads ops o, t.get k = σ.tm.get k) : wantedA ops o (σ.wt t) = wantedA ops o σ := by
 unfold wantedA
 cases hg : o.guard with
 | none => rfl
 | some g =>
  obtain ⟨j, want⟩ := g
  simp only []
  cases hj : ops[j]? with
  | none => rfl
  | some oj =>
   simp only []
   cases hd : oj.dst with
   | none => rfl
   | some k =>
    simp only []
    rw [slot_wt (h k (by simp [reads, hg, hj, hd]))]
theorem half_wt {t : Tr Slot} (h : ∀ k ∈ reads ops o, t.get k = σ.tm.get k) : half C P call f ops o (σ.wt t) = (half C P call f ops o σ).map (mapR t) := by
 unfold half
 rw [wanted_wt h]
 cases wantedA ops o σ with
 | none => rfl
 | some b =>
  cases b with
  | false => rfl
  | true =>
   simp only []
   refine evOp_wt fun z hz => ?_
   cases z with
   | tmp k => exact slot_wt (h k (by simp only [reads, List.mem_append, List.mem_filterMap]; exact .inl ⟨_, hz, rfl⟩))
   | _ => rfl
theorem half_keeps {r : Slot × St} (h : half C P call f ops o σ = some r) : Keeps (clsOf C P f o) σ r.2 := by
 unfold half at h
 split at h
 ·exact op_keeps h
 ·cases h; exact .same _ _
 ·cases h
theorem wanted_mem {loc : List LObj} {hp : Heap} : wantedA ops o (σ.mem loc hp) = wantedA ops o σ := rfl
theorem half_mem {loc : List LObj} {hp : Heap} (h : clsOf C P f o = .p) : half C P call f ops o (σ.mem loc hp) = (half C P call f ops o σ).map (memR loc hp) := by
 unfold half
 rw [wanted_mem]
 cases wantedA ops o σ with
 | none => rfl
 | some b =>
  cases b with
  | false => rfl
  | true => exact evOp_mem h
theorem half_heap {hp : Heap} (h : clsOf C P f o = .l) : half C P call f ops o (σ.mem σ.loc hp) = (half C P call f ops o σ).map (memR σ.loc hp) := by
 unfold half
 rw [wanted_mem]
 cases wantedA ops o σ with
 | none => rfl
 | some b =>
  cases b with
  | false => rfl
  | true => exact evOp_heap h
theorem half_h {loc : List LObj} {hp : Heap} (h : clsOf C P f o = .h) (k : Obs σ.h hp) : half C P call f ops o (σ.mem loc hp) = (half C P call f ops o σ).map (memR loc hp) := by
 unfold half
 rw [wanted_mem]
 cases wantedA ops o σ with
 | none => rfl
 | some b =>
  cases b with
  | false => rfl
  | true => exact evOp_h h k
theorem half_q {hp : Heap} (h : clsOf C P f o = .q) (k : Obs σ.h hp) : half C P call f ops o (σ.mem σ.loc hp) = (half C P call f ops o σ).map (memR σ.loc hp) := by
 unfold half
 rw [wanted_mem]
 cases wantedA ops o σ with
 | none => rfl
 | some b =>
  cases b with
  | false => rfl
  | true => exact evOp_q h k
theorem half_r {loc : List LObj} (h : clsOf C P f o = .r) : half C P call f ops o (σ.mem loc σ.h) = (half C P call f ops o σ).map (memR loc σ.h) := by
 unfold half
 rw [wanted_mem]
 cases wantedA ops o σ with
 | none => rfl
 | some b =>
  cases b with
  | false => rfl
  | true => exact evOp_r h
theorem half_grow {hp : Heap} {r : Slot × St} (h : clsOf C P f o = .h) (k : Grow σ.h hp) (e : half C P call f ops o σ = some r) : half C P call f ops o (σ.mem σ.loc hp) = some (memR σ.loc hp r) := by
 unfold half at e ⊢
 rw [wanted_mem]
 cases hw : wantedA ops o σ with
 | none => rw [hw] at e; cases e
 | some b =>
  rw [hw] at e
  cases b with
  | false => cases e; rfl
  | true => exact evOp_grow h k e
theorem half_quiet {cl : Cls} (hc : clash (clsOf C P f o) cl = false) (h1 : quiet (clsOf C P f o) = true) (k : Keeps cl σ σ' ∨ (Keeps cl σ' σ ∧ (cl = .n → clsOf C P f o = .p ∨ clsOf C P f o = .l))) {s : Slot} {τ : St} (h : half C P call f ops o σ = some (s, τ)) : half C P call f ops o σ' = some (s, σ') := by
 have ht : τ = σ := (half_keeps h).eq h1
 subst ht
 have hn : σ'.n = τ.n := k.elim (·.n) (·.1.n.symm)
 have htm : σ'.tm = τ.tm := k.elim (·.tm) (·.1.tm.symm)
 have hd : σ'.d = τ.d := k.elim (·.d) (·.1.d.symm)
 have hl : cl ≠ .s → cl ≠ .w → σ'.loc = τ.loc := fun e e' => k.elim (·.loc e e') (fun k => (k.1.loc e e').symm)
 have hh : cl ≠ .s → cl ≠ .c → cl ≠ .o → cl ≠ .n → σ'.h = τ.h := fun e e' e2 e3 => k.elim (·.h e e' e2 e3) (fun k => (k.1.h e e' e2 e3).symm)
 have ho : cl ≠ .s → cl ≠ .c → cl ≠ .n → Obs τ.h σ'.h := fun e e' e3 => by
  by_cases e2 : cl = .o
  ·exact k.elim (·.obs e2) (fun k => (k.1.obs e2).symm)
  ·rw [hh e e' e2 e3]; exact .refl _
 have hm : σ' = τ.mem σ'.loc σ'.h := by
  cases σ'; cases τ; simp only [St.mem] at *; subst hn; subst htm; subst hd; rfl
 cases hcl : clsOf C P f o with
 | s => rw [hcl] at h1; cases h1
 | c => rw [hcl] at h1; cases h1
 | o => rw [hcl] at h1; cases h1
 | n => rw [hcl] at h1; cases h1
 | w => rw [hcl] at h1; cases h1
 | p =>
  rw [hm, half_mem hcl, h]; rfl
 | l =>
  have hcs : cl ≠ .s := by intro e; subst e; rw [hcl] at hc; cases hc
  have hcw : cl ≠ .w := by intro e; subst e; rw [hcl] at hc; cases hc
  rw [hm, hl hcs hcw, half_heap hcl, h]; rfl
 | h =>
  have hcs : cl ≠ .s := by intro e; subst e; rw [hcl] at hc; cases hc
  have hcc : cl ≠ .c := by intro e; subst e; rw [hcl] at hc; cases hc
  by_cases hcn : cl = .n
  ·rcases k with k | ⟨_, k⟩
   ·subst hcn
    rw [hm, hl hcs (by intro e; cases e), half_grow hcl (k.grow rfl) h]; rfl
   ·rcases k hcn with e | e <;> rw [hcl] at e <;> cases e
  ·rw [hm, half_h hcl (ho hcs hcc hcn), h]; rfl
 | q =>
  have hcs : cl ≠ .s := by intro e; subst e; rw [hcl] at hc; cases hc
  have hcw : cl ≠ .w := by intro e; subst e; rw [hcl] at hc; cases hc
  have hcc : cl ≠ .c := by intro e; subst e; rw [hcl] at hc; cases hc
  have hcn : cl ≠ .n := by intro e; subst e; rw [hcl] at hc; cases hc
  rw [hm, hl hcs hcw, half_q hcl (ho hcs hcc hcn), h]; rfl
 | r =>
  have hcs : cl ≠ .s := by intro e; subst e; rw [hcl] at hc; cases hc
  have hcc : cl ≠ .c := by intro e; subst e; rw [hcl] at hc; cases hc
  have hco : cl ≠ .o := by intro e; subst e; rw [hcl] at hc; cases hc
  have hcn : cl ≠ .n := by intro e; subst e; rw [hcl] at hc; cases hc
  rw [hm, hh hcs hcc hco hcn, half_r hcl, h]; rfl
theorem clash_back {a b : Cls} (h : clash a b = false) (hq : quiet a = false) : clash b a = false ∧ (a = .n → b = .p ∨ b = .l) := by
 cases a <;> cases b <;> first | (cases hq; done) | (cases h; done) | exact ⟨rfl, fun _ => .inl rfl⟩ | exact ⟨rfl, fun _ => .inr rfl⟩ | exact ⟨rfl, fun e => absurd e (by decide)⟩
theorem tmPut_get {d : Option Nat} {s : Slot} {t : Tr Slot} {k : Nat} (h : d ≠ some k) : (tmPut d s t).get k = t.get k := by
 cases d with
 | none => rfl
 | some j => simp only [tmPut]; rw [Tr.get_set, if_neg (by intro e; exact h (by rw [e]))]
theorem tmPut_comm {d e : Option Nat} {s u : Slot} {t : Tr Slot} (h : ∀ k, d = some k → e ≠ some k) : tmPut d s (tmPut e u t) = tmPut e u (tmPut d s t) := by
 cases d with
 | none => rfl
 | some j =>
  cases e with
  | none => rfl
  | some k => exact Tr.set_comm _ _ _ _ _ (by intro q; exact h j rfl (by rw [q]))
theorem meets_spec (h : meets ops x y = false) : (∀ k ∈ reads ops y, x.dst ≠ some k) ∧ (∀ k, x.dst = some k → y.dst ≠ some k) := by
 unfold meets at h
 cases hd : x.dst with
 | none => exact ⟨fun k _ e => by simp at e, fun k e => by simp at e⟩
 | some d =>
  rw [hd] at h
  simp only [Bool.or_eq_false_iff] at h
  obtain ⟨h1, h2⟩ := h
  refine ⟨fun k hk e => ?_, fun k e e' => ?_⟩
  ·cases e
   have := List.any_eq_false.1 h1 d hk
   exact this (Nat.beq_refl d)
  ·cases e
   rw [e'] at h2
   simp only [Nat.beq_refl] at h2
   cases h2
theorem swap {σ1 σ2 : St} (ha : apartOps C P f ops x y = true) (h1 : evStep C P call f ops x σ = some σ1) (h2 : evStep C P call f ops y σ1 = some σ2) :
  ∃ σ3, evStep C P call f ops y σ = some σ3 ∧ evStep C P call f ops x σ3 = some σ2 := by
 simp only [apartOps, Bool.and_eq_true, Bool.not_eq_true'] at ha
 obtain ⟨⟨hxy, hyx⟩, hc⟩ := ha
 obtain ⟨mx, md⟩ := meets_spec hxy
 obtain ⟨my, _⟩ := meets_spec hyx
 obtain ⟨sx, τx, hx, fx, rfl⟩ := step_split h1
 obtain ⟨sy, τy', hy, fy, rfl⟩ := step_split h2
 have kx := half_keeps hx
 rw [half_wt (fun k hk => tmPut_get (mx k hk))] at hy
 cases hy0 : half C P call f ops y τx with
 | none => rw [hy0] at hy; cases hy
 | some r =>
  obtain ⟨sy0, τy⟩ := r
  rw [hy0] at hy
  simp only [Option.map_some, mapR, Option.some.injEq, Prod.mk.injEq] at hy
  obtain ⟨rfl, rfl⟩ := hy
  have ky := half_keeps hy0
  by_cases hq : quiet (clsOf C P f x) = true
  ·have ht : τx = σ := kx.eq hq
   subst ht
   refine ⟨_, step_join hy0 fy, ?_⟩
   have hx2 : half C P call f ops x τy = some (sx, τy) := half_quiet hc hq (.inl ky) hx
   have hx3 : half C P call f ops x (τy.wt (tmPut y.dst sy0 τy.tm)) = some (sx, τy.wt (tmPut y.dst sy0 τy.tm)) := by
    rw [half_wt (fun k hk => tmPut_get (my k hk)), hx2]; rfl
   have ntm : τy.tm = τx.tm := ky.tm
   have fx' : fitsD (τy.wt (tmPut y.dst sy0 τy.tm)).n x.dst = true := by
    show fitsD τy.n x.dst = true
    have hn : τy.n = τx.n := ky.n
    rw [hn]; exact fx
   rw [step_join hx3 fx']
   show some (τy.wt (tmPut x.dst sx (tmPut y.dst sy0 τy.tm))) = some (τy.wt (tmPut y.dst sy0 (tmPut x.dst sx τx.tm)))
   rw [ntm, tmPut_comm md]
  ·have hys : quiet (clsOf C P f y) = true := by
    cases hx' : clsOf C P f x <;> cases hy' : clsOf C P f y <;> rw [hx', hy'] at hc <;> rw [hx'] at hq <;> first | rfl | (cases hc; done) | exact absurd rfl hq
   have ht : τy = τx := ky.eq hys
   subst ht
   have hy2 : half C P call f ops y σ = some (sy0, σ) := half_quiet (clash_back hc (by simpa using hq)).1 hys (.inr ⟨kx, (clash_back hc (by simpa using hq)).2⟩) hy0
   have hn : τy.n = σ.n := kx.n
   have htm : τy.tm = σ.tm := kx.tm
   have fy' : fitsD τy.n y.dst = true := fy
   rw [hn] at fy'
   refine ⟨_, step_join hy2 fy', ?_⟩
   have hx3 : half C P call f ops x (σ.wt (tmPut y.dst sy0 σ.tm)) = some (sx, τy.wt (tmPut y.dst sy0 σ.tm)) := by
    rw [half_wt (fun k hk => tmPut_get (my k hk)), hx]; rfl
   rw [step_join hx3 fx]
   show some (τy.wt (tmPut x.dst sx (tmPut y.dst sy0 σ.tm))) = some (τy.wt (tmPut y.dst sy0 (tmPut x.dst sx τy.tm)))
   rw [htm, tmPut_comm md]
end
end
end Go.Ef
namespace Go.Ef
open Go
noncomputable section
section
variable {C : Cfg} {P : Program} {call : CallF} {f : FuncId} {ops : Array Oper}
theorem evIx_ops : ∀ (l : List Oper) (k : Nat) (σ : St), (∀ j, j < l.length → l[j]? = ops[k + j]?) → evIx C P call f ops (List.range' k l.length) σ = evOps C P call f ops l σ := by
 intro l
 induction l with
 | nil => intro k σ _; rfl
 | cons o l ih =>
  intro k σ h
  have h0 := h 0 (by simp)
  simp only [List.getElem?_cons_zero, Nat.add_zero] at h0
  rw [List.length_cons, List.range'_succ, evOps_cons]
  simp only [evIx]
  rw [← h0]
  simp only []
  have : evIx C P call f ops (List.range' (k + 1) l.length) = evOps C P call f ops l := by
   funext τ
   exact ih (k + 1) τ fun j hj => by
    have := h (j + 1) (by simp; omega)
    rw [List.getElem?_cons_succ] at this
    rw [this, show k + (j + 1) = k + 1 + j by omega]
  rw [this]
theorem evIx_range (σ : St) : evIx C P call f ops (List.range ops.size) σ = evOps C P call f ops ops.toList σ := by
 rw [List.range_eq_range', show ops.size = ops.toList.length by simp]
 exact evIx_ops ops.toList 0 σ fun j _ => by simp
theorem front {i : Nat} {y : Oper} (hi : ops[i]? = some y) {post : List Nat} : ∀ (pre : List Nat) (σ σ' : St), (∀ j ∈ pre, ∃ x, ops[j]? = some x ∧ apartOps C P f ops x y = true) → evIx C P call f ops (pre ++ i :: post) σ = some σ' →
  ∃ σ3, evStep C P call f ops y σ = some σ3 ∧ evIx C P call f ops (pre ++ post) σ3 = some σ' := by
 intro pre
 induction pre with
 | nil =>
  intro σ σ' _ h
  simp only [List.nil_append, evIx] at h
  rw [hi] at h
  exact thenO_some h
 | cons j pre ih =>
  intro σ σ' hp h
  obtain ⟨x, hj, ha⟩ := hp j (by simp)
  simp only [List.cons_append, evIx] at h
  rw [hj] at h
  obtain ⟨σ1, h1, h2⟩ := thenO_some h
  obtain ⟨σ2, h3, h4⟩ := ih σ1 σ' (fun k hk => hp k (by simp [hk])) h2
  obtain ⟨σ3, h5, h6⟩ := swap ha h1 h3
  refine ⟨σ3, h5, ?_⟩
  simp only [List.cons_append, evIx]
  rw [hj]
  simp only []
  rw [h6]
  exact h4
theorem rowOk_spec {y : Oper} {m : Nat} : ∀ (l : List Oper) (k : Nat), rowOk C P f ops y m l k = true → ∀ (d : Nat) (x : Oper), l[d]? = some x → Nat.testBit m (k + d) = true ∨ apartOps C P f ops x y = true := by
 intro l
 induction l with
 | nil => intro k _ d x h; simp at h
 | cons o l ih =>
  intro k h d x hd
  simp only [rowOk, Bool.and_eq_true, Bool.or_eq_true] at h
  cases d with
  | zero => simp at hd; subst hd; exact h.1
  | succ d =>
   rw [List.getElem?_cons_succ] at hd
   have := ih (k + 1) h.2 d x hd
   rwa [show k + 1 + d = k + (d + 1) by omega] at this
theorem rowsOk_spec : ∀ (l : List Oper) (ms : List Nat) (k : Nat), rowsOk C P f ops l ms k = true → ∀ (d : Nat) (y : Oper), l[d]? = some y →
  ∃ m, ms[d]? = some m ∧ (∀ (j : Nat) (x : Oper), j < k + d → ops[j]? = some x → Nat.testBit m j = true ∨ apartOps C P f ops x y = true) ∧ ∀ e ∈ y.after, Region.binds .any e = true → e.on < k + d := by
 intro l
 induction l with
 | nil => intro ms k _ d x h; simp at h
 | cons o l ih =>
  intro ms k h d y hd
  cases ms with
  | nil => cases h
  | cons m ms =>
   simp only [rowsOk, Bool.and_eq_true] at h
   obtain ⟨⟨h1, h2⟩, h3⟩ := h
   cases d with
   | zero =>
    simp at hd; subst hd
    refine ⟨m, rfl, fun j x hj hx => ?_, fun e he hb => ?_⟩
    ·have := rowOk_spec (ops.toList.take k) 0 h1 j x (by rw [List.getElem?_take]; simp at hj; simp [hj, hx])
     simpa using this
    ·have := Array.all_eq_true'.1 h2 e he
     simp only [hb, Bool.not_true, Bool.false_or] at this
     exact Nat.le_of_ble_eq_true this
   | succ d =>
    rw [List.getElem?_cons_succ] at hd
    obtain ⟨m', g1, g2, g3⟩ := ih ms (k + 1) h3 d y hd
    refine ⟨m', by simpa using g1, fun j x hj hx => g2 j x (by omega) hx, fun e he hb => ?_⟩
    have := g3 e he hb; omega
theorem fold_bits (acc : List Nat) : ∀ (l : List Edge) (s k : Nat), Nat.testBit (l.foldl (fun s e => bif Region.binds .any e then Nat.lor (Nat.lor s (Nat.pow 2 e.on)) ((acc[e.on]?).getD 0) else s) s) k = true →
  Nat.testBit s k = true ∨ ∃ e ∈ l, Region.binds .any e = true ∧ (k = e.on ∨ Nat.testBit ((acc[e.on]?).getD 0) k = true) := by
 intro l
 induction l with
 | nil => intro s k h; exact .inl h
 | cons e l ih =>
  intro s k h
  rw [List.foldl_cons] at h
  rcases ih _ k h with h1 | ⟨e', he, hb, h2⟩
  ·cases hb : Region.binds .any e with
   | false => rw [hb] at h1; exact .inl h1
   | true =>
    rw [hb] at h1
    simp only [cond_true] at h1
    have h1 : ((s ||| 2 ^ e.on) ||| ((acc[e.on]?).getD 0)).testBit k = true := h1
    rw [Nat.testBit_or, Nat.testBit_or, Nat.testBit_two_pow] at h1
    simp only [Bool.or_eq_true, decide_eq_true_eq] at h1
    rcases h1 with (h1 | h1) | h1
    ·exact .inl h1
    ·exact .inr ⟨e, by simp, hb, .inl h1.symm⟩
    ·exact .inr ⟨e, by simp, hb, .inr h1⟩
  ·exact .inr ⟨e', by simp [he], hb, h2⟩
theorem maskOf_bits {acc : List Nat} {o : Oper} {k : Nat} (h : Nat.testBit (maskOf acc o) k = true) : ∃ e ∈ o.after, Region.binds .any e = true ∧ (k = e.on ∨ ∃ m, acc[e.on]? = some m ∧ Nat.testBit m k = true) := by
 rcases fold_bits acc o.after.toList 0 k h with h | ⟨e, he, hb, h⟩
 ·simp at h
 ·refine ⟨e, by simpa using he, hb, ?_⟩
  rcases h with h | h
  ·exact .inl h
  ·cases hm : acc[e.on]? with
   | none => rw [hm] at h; simp at h
   | some m => rw [hm] at h; exact .inr ⟨m, rfl, h⟩
theorem masks_pre : ∀ (l : List Oper) (acc : List Nat), acc <+: masks l acc := by
 intro l
 induction l with
 | nil => intro acc; exact List.prefix_refl _
 | cons o l ih => intro acc; exact (List.prefix_append acc [maskOf acc o]).trans (ih (acc ++ [maskOf acc o]))
theorem masks_at : ∀ (l : List Oper) (acc : List Nat) (d : Nat) (o : Oper), l[d]? = some o → ∃ acc', acc' <+: masks l acc ∧ (masks l acc)[acc.length + d]? = some (maskOf acc' o) := by
 intro l
 induction l with
 | nil => intro acc d o h; simp at h
 | cons o l ih =>
  intro acc d x h
  cases d with
  | zero =>
   simp at h; subst h
   refine ⟨acc, masks_pre (o :: l) acc, ?_⟩
   obtain ⟨r, hr⟩ := masks_pre l (acc ++ [maskOf acc o])
   show (masks l (acc ++ [maskOf acc o]))[acc.length + 0]? = _
   rw [← hr]; simp
  | succ d =>
   rw [List.getElem?_cons_succ] at h
   obtain ⟨acc', h1, h2⟩ := ih (acc ++ [maskOf acc o]) d x h
   refine ⟨acc', h1, ?_⟩
   rw [List.length_append, List.length_singleton] at h2
   rwa [show acc.length + (d + 1) = acc.length + 1 + d by omega]
theorem prefix_get {l l' : List Nat} (h : l <+: l') {i m : Nat} (hi : l[i]? = some m) : l'[i]? = some m := by
 obtain ⟨r, rfl⟩ := h
 rw [List.getElem?_append_left (lt_of_get? hi)]; exact hi
theorem mask_bit {i : Nat} {o : Oper} {m k : Nat} (ho : ops[i]? = some o) (hm : (masks ops.toList [])[i]? = some m) (hb : Nat.testBit m k = true) :
  ∃ e ∈ o.after, Region.binds .any e = true ∧ (k = e.on ∨ ∃ m', (masks ops.toList [])[e.on]? = some m' ∧ Nat.testBit m' k = true) := by
 obtain ⟨acc', h1, h2⟩ := masks_at ops.toList [] i o (by simpa using ho)
 simp only [List.length_nil, Nat.zero_add] at h2
 rw [hm] at h2; cases h2
 obtain ⟨e, he, hbe, h⟩ := maskOf_bits hb
 refine ⟨e, he, hbe, ?_⟩
 rcases h with h | ⟨m', h3, h4⟩
 ·exact .inl h
 ·exact .inr ⟨m', prefix_get h1 h3, h4⟩
end
end
end Go.Ef
namespace Go.Ef
open Go
noncomputable section
theorem ready_mem {md : Region.Mode} {ops : Array Oper} {listed : Array Bool} {i : Nat} (h : i ∈ Region.ready md ops listed) :
  i < ops.size ∧ listed.getD i true = false ∧ ∃ o, ops[i]? = some o ∧ ∀ e ∈ o.after, Region.binds md e = true → listed.getD e.on false = true := by
 unfold Region.ready at h
 simp only [List.mem_filter, List.mem_range, Bool.and_eq_true, Bool.not_eq_true'] at h
 obtain ⟨h1, h2, h3⟩ := h
 refine ⟨h1, h2, ops[i], by simp [h1], fun e he hb => ?_⟩
 rw [Array.getElem?_eq_getElem h1] at h3
 simp only [Option.map_some, Option.getD_some] at h3
 have := Array.all_eq_true'.1 h3 e he
 simpa [hb] using this
theorem mem_ready {md : Region.Mode} {ops : Array Oper} {listed : Array Bool} {i : Nat} {o : Oper} (h2 : listed.getD i true = false) (ho : ops[i]? = some o) (h : ∀ e ∈ o.after, Region.binds md e = true → listed.getD e.on false = true) : i ∈ Region.ready md ops listed := by
 have h1 : i < ops.size := by
  rcases Nat.lt_or_ge i ops.size with h' | h'
  ·exact h'
  ·simp [Array.getElem?_eq_none h'] at ho
 unfold Region.ready
 simp only [List.mem_filter, List.mem_range, Bool.and_eq_true, Bool.not_eq_true']
 refine ⟨h1, h2, ?_⟩
 rw [ho]
 simp only [Option.map_some, Option.getD_some]
 rw [Array.all_eq_true']
 intro e he
 cases hb : Region.binds md e with
 | false => rfl
 | true => simpa using h e he hb
theorem setListed {l : Array Bool} {i j : Nat} {d : Bool} : (l.setIfInBounds i true).getD j d = if i = j ∧ j < l.size then true else l.getD j d := by
 rw [Array.getD_eq_getD_getElem?, Array.getD_eq_getD_getElem?, Array.getElem?_setIfInBounds]
 by_cases h : i = j
 ·subst h
  by_cases h' : i < l.size <;> simp [h']
 ·simp [h]
section
variable {C : Cfg} {P : Program} {E : Ent} {call : CallF} {f : FuncId} {ops : Array Oper}
structure Inv (ops : Array Oper) (rest : List Nat) (listed : Array Bool) : Prop where
 sz : listed.size = ops.size
 sort : rest.Pairwise (· < ·)
 mem : ∀ j, j ∈ rest ↔ j < ops.size ∧ listed.getD j true = false
 down : ∀ (j m : Nat), listed.getD j false = true → (masks ops.toList [])[j]? = some m → ∀ k, Nat.testBit m k = true → listed.getD k false = true
theorem getD_flip {l : Array Bool} {j : Nat} (h : j < l.size) : l.getD j true = l.getD j false := by
 simp [Array.getD_eq_getD_getElem?, h]
theorem any_ok (S : Sane P C) (K : CallOk P C call) (B : Bodied P call) (hr : regOk C P f ops = true) {σ' : St} {Q : Exit → Act → World → Prop} (hq : ∀ L' μ' a' w', Rel C E L' μ' σ' a' w' → Q .normal a' w') :
  ∀ (fuel : Nat) (rest : List Nat) (listed : Array Bool) (L : List Nat) (μ : M) (σ : St) (a : Act) (w : World), rest.length = fuel → Inv ops rest listed → Rel C E L μ σ a w → evIx C P call f ops rest σ = some σ' → wpAny P .any ops Q fuel listed a w := by
 intro fuel
 induction fuel with
 | zero =>
  intro rest listed L μ σ a w hl I R h
  have : rest = [] := List.eq_nil_of_length_eq_zero hl
  subst this
  simp only [evIx] at h; cases h
  refine ⟨?_, hq L μ a w R⟩
  apply List.eq_nil_iff_forall_not_mem.2
  intro i hi
  obtain ⟨h1, h2, _⟩ := ready_mem hi
  have := (I.mem i).2 ⟨h1, h2⟩
  simp at this
 | succ fuel ih =>
  intro rest listed L μ σ a w hl I R h
  refine ⟨fun hnil => ?_, fun i hi => ?_⟩
  ·cases rest with
   | nil => simp at hl
   | cons i rest =>
    exfalso
    obtain ⟨h1, h2⟩ := (I.mem i).1 (by simp)
    have ho : ops[i]? = some ops[i] := by simp [h1]
    obtain ⟨m, _, _, hb⟩ := rowsOk_spec _ _ 0 hr i ops[i] (by simp)
    have : i ∈ Region.ready .any ops listed := by
     refine mem_ready h2 ho fun e he hbe => ?_
     have hlt := hb e he hbe
     simp only [Nat.zero_add] at hlt
     cases hx : listed.getD e.on false with
     | true => rfl
     | false =>
      exfalso
      have hsz : e.on < listed.size := by rw [I.sz]; omega
      have hm := (I.mem e.on).2 ⟨by omega, by rw [getD_flip hsz]; exact hx⟩
      rcases List.mem_cons.1 hm with e1 | e1
      ·omega
      ·have := List.rel_of_pairwise_cons I.sort e1
       omega
    rw [hnil] at this
    simp at this
  ·obtain ⟨h1, h2, o, ho, hedge⟩ := ready_mem hi
   have hin := (I.mem i).2 ⟨h1, h2⟩
   obtain ⟨pre, post, rfl⟩ := List.append_of_mem hin
   obtain ⟨m, hm, hap, _⟩ := rowsOk_spec _ _ 0 hr i o (by simpa using ho)
   have hbits : ∀ k, Nat.testBit m k = true → listed.getD k false = true := by
    intro k hk
    obtain ⟨e, he, hbe, hor⟩ := mask_bit ho hm hk
    have hle := hedge e he hbe
    rcases hor with rfl | ⟨m', hm', hk'⟩
    ·exact hle
    ·exact I.down e.on m' hle hm' k hk'
   have hsorted := I.sort
   rw [List.pairwise_append] at hsorted
   obtain ⟨hs1, hs2, hs3⟩ := hsorted
   obtain ⟨σ3, h3, h4⟩ := front ho pre σ σ' (fun j hj => by
    have hji : j < i := hs3 j hj i (by simp)
    have hjo : ops[j]? = some ops[j] := by simp [Nat.lt_trans hji h1]
    refine ⟨_, hjo, ?_⟩
    rcases hap j ops[j] (by omega) hjo with hb | hb
    ·have hl := hbits j hb
     have := ((I.mem j).1 (by simp [hj])).2
     rw [getD_flip (by rw [I.sz]; omega), hl] at this
     cases this
    ·exact hb) h
   refine step_ok R S K B ho h3 fun L' μ' a' w' R' => ?_
   refine ih (pre ++ post) _ L' μ' σ3 a' w' (by simp at hl ⊢; omega) ⟨?_, ?_, ?_, ?_⟩ R' h4
   ·simp [I.sz]
   ·rw [List.pairwise_append]
    exact ⟨hs1, (List.pairwise_cons.1 hs2).2, fun x hx y hy => hs3 x hx y (by simp [hy])⟩
   ·intro j
    rw [setListed]
    have hmem := I.mem j
    by_cases e : i = j
    ·subst e
     simp only [I.sz, h1, and_self, if_true]
     refine ⟨fun hj => ?_, fun hj => by simp at hj⟩
     exfalso
     rcases List.mem_append.1 hj with hj | hj
     ·exact absurd (hs3 i hj i (by simp)) (by omega)
     ·exact absurd ((List.pairwise_cons.1 hs2).1 i hj) (by omega)
    ·rw [if_neg (fun q => e q.1), ← hmem]
     simp only [List.mem_append, List.mem_cons]
     exact ⟨fun q => q.elim .inl (fun q => .inr (.inr q)), fun q => q.elim .inl (fun q => q.elim (fun q => absurd q.symm e) .inr)⟩
   ·intro j m' hj hm' k hk
    rw [setListed] at hj ⊢
    split
    ·rfl
    ·split at hj
     ·rename_i e
      obtain ⟨rfl, _⟩ := e
      rw [hm] at hm'; cases hm'
      exact hbits k hk
     ·exact I.down j m' hj hm' k hk
theorem Rel.drawn {L : List Nat} {μ : M} {σ : St} {a : Act} {w : World} (R : Rel C E L μ σ a w) (n : Nat) : Rel C E L μ σ a { w with drawn := n } where
 world := {
  imm := R.world.imm
  cells := fun id cs h => let ⟨b, base, sz, h1, h2, h3⟩ := R.world.cells id cs h; ⟨b, base, sz, h1, h2.keep (.refl _) rfl, h3⟩
  own := fun id k t n h => let ⟨b, e, r, h1, h2⟩ := R.world.own id k t n h; ⟨b, e, r, h1, ⟨h2.shape, h2.free, h2.imm⟩⟩
  map := fun id es h => let ⟨b, h1, h2, h3⟩ := R.world.map id es h; ⟨b, h1, ⟨h2.map⟩, h3⟩
  apart := R.world.apart
  next := R.world.next
  ro := R.world.ro
  pos := R.world.pos
  zero := R.world.zero
  fresh := R.world.fresh
  glob := R.world.glob
  ty := R.world.ty }
 ext := ⟨R.ext.le, R.ext.os, R.ext.tape, R.ext.output, R.ext.size, R.ext.ro, R.ext.next, R.ext.frame, R.ext.came, R.ext.imm⟩
 n := R.n
 tm := R.tm
 defers := R.defers
 len := R.len
 loc := fun k b o h1 h2 => let ⟨h3, h4⟩ := R.loc k b o h1 h2; ⟨h3.keep (.refl _) rfl, h4⟩
 nodup := R.nodup
theorem draw_ok {L : List Nat} {μ : M} {σ : St} {a : Act} {w : World} (R : Rel C E L μ σ a w) {id : Nat} (S : Sane P C) (K : CallOk P C call) (B : Bodied P call) (hm : P.follows .mixedOrders = true) (hr : regOk C P f ops = true) {σ' : St} (h : evOps C P call f ops ops.toList σ = some σ')
  {Q : Exit → Act → World → Prop} (hq : ∀ L' μ' a' w', Rel C E L' μ' σ' a' w' → Q .normal a' w') : (Code.region id ops true).wp P Q a w := by
 refine wp_region_any hm (any_ok S K B hr hq ops.size (List.range ops.size) _ L μ σ a _ (by simp) ⟨by simp, List.pairwise_lt_range, fun j => ?_, fun j m hj => ?_⟩ (R.drawn _) ((evIx_range σ).trans h))
 ·rw [List.mem_range]
  constructor
  ·intro h'; exact ⟨h', by simp [Array.getD_eq_getD_getElem?, h']⟩
  ·exact fun h' => h'.1
 ·exfalso
  rw [Array.getD_eq_getD_getElem?, Array.getElem?_replicate] at hj
  split at hj <;> simp at hj
end
end
end Go.Ef
namespace Go.Ef
open Go
noncomputable section
section
variable {C : Cfg} {P : Program} {E : Ent} {call : CallF} {f : FuncId} {ops : Array Oper}
def OrdOk (C : Cfg) (P : Program) (f : FuncId) (ops : Array Oper) (j i : Nat) : Prop :=
 (∃ m, (masks ops.toList [])[i]? = some m ∧ Nat.testBit m j = true) ∨ ∃ x y, ops[j]? = some x ∧ ops[i]? = some y ∧ apartOps C P f ops x y = true
theorem ordB_ok {j i : Nat} (h : ordB C P f ops j i = true) : OrdOk C P f ops j i := by
 unfold ordB at h
 split at h
 ·rename_i m x y hm hx hy
  rw [Bool.or_eq_true] at h
  rcases h with h | h
  ·exact .inl ⟨m, hm, h⟩
  ·exact .inr ⟨x, y, hx, hy, h⟩
 ·cases h
theorem pairsB_ok {p q : Nat} : ∀ {l : List Nat}, pairsB C P f ops p q l = true → l.Pairwise fun j i => OrdOk C P f ops j i ∨ (j = p ∧ i = q) := by
 intro l
 induction l with
 | nil => intro _; exact .nil
 | cons j r ih =>
  intro h
  simp only [pairsB, Bool.and_eq_true] at h
  refine .cons (fun i hi => ?_) (ih h.2)
  have := List.all_eq_true.1 h.1 i hi
  rw [Bool.or_eq_true, Bool.and_eq_true] at this
  rcases this with h | ⟨h1, h2⟩
  ·exact .inl (ordB_ok h)
  ·exact .inr ⟨Nat.eq_of_beq_eq_true h1, Nat.eq_of_beq_eq_true h2⟩
theorem edgesB_ok (h : edgesB ops = true) {i : Nat} {o : Oper} (ho : ops[i]? = some o) : ∀ e ∈ o.after, Region.binds .any e = true → e.on < i := by
 intro e he hb
 have hi : i < ops.size := by
  rcases Nat.lt_or_ge i ops.size with h | h
  ·exact h
  ·simp [Array.getElem?_eq_none h] at ho
 have := List.all_eq_true.1 h i (List.mem_range.2 hi)
 rw [ho] at this
 simp only [] at this
 have := Array.all_eq_true'.1 this e he
 rw [hb] at this
 exact Nat.le_of_ble_eq_true this
structure InvB (ops : Array Oper) (rest : List Nat) (listed : Array Bool) : Prop where
 sz : listed.size = ops.size
 nd : rest.Nodup
 mem : ∀ j, j ∈ rest ↔ j < ops.size ∧ listed.getD j true = false
 down : ∀ (j m : Nat), listed.getD j false = true → (masks ops.toList [])[j]? = some m → ∀ k, Nat.testBit m k = true → listed.getD k false = true
theorem min_mem : ∀ {l : List Nat}, l ≠ [] → ∃ i ∈ l, ∀ j ∈ l, i ≤ j := by
 intro l
 induction l with
 | nil => intro h; exact absurd rfl h
 | cons a l ih =>
  intro _
  by_cases hl : l = []
  ·subst hl; exact ⟨a, by simp, fun j hj => by simp at hj; omega⟩
  ·obtain ⟨i, hi, hm⟩ := ih hl
   rcases Nat.le_total a i with h | h
   ·exact ⟨a, by simp, fun j hj => (List.mem_cons.1 hj).elim (fun e => e ▸ Nat.le_refl _) fun hj => Nat.le_trans h (hm j hj)⟩
   ·exact ⟨i, by simp [hi], fun j hj => (List.mem_cons.1 hj).elim (fun e => e ▸ h) fun hj => hm j hj⟩
theorem ready_ne (he : edgesB ops = true) {rest : List Nat} {listed : Array Bool} (I : InvB ops rest listed) (hne : rest ≠ []) : Region.ready .any ops listed ≠ [] := by
 obtain ⟨i, hi, hmin⟩ := min_mem hne
 obtain ⟨h1, h2⟩ := (I.mem i).1 hi
 have ho : ops[i]? = some ops[i] := by simp [h1]
 have : i ∈ Region.ready .any ops listed := by
  refine mem_ready h2 ho fun e hee hb => ?_
  have hlt := edgesB_ok he ho e hee hb
  cases hx : listed.getD e.on false with
  | true => rfl
  | false =>
   exfalso
   have hsz : e.on < listed.size := by rw [I.sz]; omega
   have hm := (I.mem e.on).2 ⟨by omega, by rw [getD_flip hsz]; exact hx⟩
   have := hmin _ hm
   omega
 intro h
 rw [h] at this
 simp at this
theorem InvB.next {pre post : List Nat} {i : Nat} {listed : Array Bool} (I : InvB ops (pre ++ i :: post) listed) (hb : ∀ m, (masks ops.toList [])[i]? = some m → ∀ k, Nat.testBit m k = true → listed.getD k false = true) : InvB ops (pre ++ post) (listed.setIfInBounds i true) := by
 have hi := ((I.mem i).1 (by simp)).1
 have hnd := I.nd
 rw [List.nodup_append] at hnd
 obtain ⟨d1, d2, d3⟩ := hnd
 rw [List.nodup_cons] at d2
 refine ⟨by simp [I.sz], ?_, ?_, ?_⟩
 ·rw [List.nodup_append]
  exact ⟨d1, d2.2, fun x hx y hy => d3 x hx y (by simp [hy])⟩
 ·intro j
  rw [setListed]
  have hmem := I.mem j
  by_cases e : i = j
  ·subst e
   simp only [I.sz, hi, and_self, if_true]
   refine ⟨fun hj => ?_, fun hj => by simp at hj⟩
   exfalso
   rcases List.mem_append.1 hj with hj | hj
   ·exact d3 i hj i (by simp) rfl
   ·exact d2.1 hj
  ·rw [if_neg (fun q => e q.1), ← hmem]
   simp only [List.mem_append, List.mem_cons]
   exact ⟨fun q => q.elim .inl (fun q => .inr (.inr q)), fun q => q.elim .inl (fun q => q.elim (fun q => absurd q.symm e) .inr)⟩
 ·intro j m' hj hm' k hk
  rw [setListed] at hj ⊢
  split
  ·rfl
  ·split at hj
   ·rename_i e
    obtain ⟨rfl, _⟩ := e
    exact hb m' hm' k hk
   ·exact I.down j m' hj hm' k hk
theorem bits_of {listed : Array Bool} {rest : List Nat} (I : InvB ops rest listed) {i : Nat} {o : Oper} (ho : ops[i]? = some o) (hedge : ∀ e ∈ o.after, Region.binds .any e = true → listed.getD e.on false = true) :
  ∀ m, (masks ops.toList [])[i]? = some m → ∀ k, Nat.testBit m k = true → listed.getD k false = true := by
 intro m hm k hk
 obtain ⟨e, he, hbe, hor⟩ := mask_bit ho hm hk
 have hle := hedge e he hbe
 rcases hor with rfl | ⟨m', hm', hk'⟩
 ·exact hle
 ·exact I.down e.on m' hle hm' k hk'
theorem ahead {pre post : List Nat} {i : Nat} {y : Oper} {listed : Array Bool} (I : InvB ops (pre ++ i :: post) listed) (hy : ops[i]? = some y) (hb : ∀ m, (masks ops.toList [])[i]? = some m → ∀ k, Nat.testBit m k = true → listed.getD k false = true)
  (hp : ∀ j ∈ pre, OrdOk C P f ops j i) : ∀ j ∈ pre, ∃ x, ops[j]? = some x ∧ apartOps C P f ops x y = true := by
 intro j hj
 rcases hp j hj with ⟨m, hm, hk⟩ | ⟨x, y', hx, hy', ha⟩
 ·exfalso
  have hl := hb m hm j hk
  have h1 := (I.mem j).1 (by simp [hj])
  rw [getD_flip (by rw [I.sz]; exact h1.1), hl] at h1
  exact absurd h1.2 (by decide)
 ·rw [hy] at hy'; cases hy'
  exact ⟨x, hx, ha⟩
theorem pw_drop {R : Nat → Nat → Prop} {pre post : List Nat} {i : Nat} (h : (pre ++ i :: post).Pairwise R) : (pre ++ post).Pairwise R := by
 refine h.sublist ?_
 exact List.Sublist.append (List.Sublist.refl _) (List.sublist_cons_self _ _)
theorem pw_before {R : Nat → Nat → Prop} {pre post : List Nat} {i : Nat} (h : (pre ++ i :: post).Pairwise R) : ∀ j ∈ pre, R j i := by
 rw [List.pairwise_append] at h
 exact fun j hj => h.2.2 j hj i (by simp)
theorem any_okB (S : Sane P C) (K : CallOk P C call) (B : Bodied P call) (he : edgesB ops = true) {σ' : St} {Q : Exit → Act → World → Prop} (hq : ∀ L' μ' a' w', Rel C E L' μ' σ' a' w' → Q .normal a' w') :
  ∀ (fuel : Nat) (rest : List Nat) (listed : Array Bool) (L : List Nat) (μ : M) (σ : St) (a : Act) (w : World), rest.length = fuel → InvB ops rest listed → rest.Pairwise (OrdOk C P f ops) → Rel C E L μ σ a w → evIx C P call f ops rest σ = some σ' → wpAny P .any ops Q fuel listed a w := by
 intro fuel
 induction fuel with
 | zero =>
  intro rest listed L μ σ a w hl I _ R h
  have : rest = [] := List.eq_nil_of_length_eq_zero hl
  subst this
  simp only [evIx] at h; cases h
  refine ⟨?_, hq L μ a w R⟩
  apply List.eq_nil_iff_forall_not_mem.2
  intro i hi
  obtain ⟨h1, h2, _⟩ := ready_mem hi
  have := (I.mem i).2 ⟨h1, h2⟩
  simp at this
 | succ fuel ih =>
  intro rest listed L μ σ a w hl I hpw R h
  refine ⟨fun hnil => absurd hnil (ready_ne he I (by intro e; subst e; simp at hl)), fun i hi => ?_⟩
  obtain ⟨h1, h2, o, ho, hedge⟩ := ready_mem hi
  have hin := (I.mem i).2 ⟨h1, h2⟩
  obtain ⟨pre, post, rfl⟩ := List.append_of_mem hin
  have hbits := bits_of I ho hedge
  obtain ⟨σ3, h3, h4⟩ := front ho pre σ σ' (ahead I ho hbits (pw_before hpw)) h
  refine step_ok R S K B ho h3 fun L' μ' a' w' R' => ?_
  exact ih (pre ++ post) _ L' μ' σ3 a' w' (by simp at hl ⊢; omega) (I.next hbits) (pw_drop hpw) R' h4
theorem any_ok2 (S : Sane P C) (K : CallOk P C call) (B : Bodied P call) (he : edgesB ops = true) {p q : Nat} (hpq : p ≠ q) {σ1 σ2 : St} {Q : Exit → Act → World → Prop} (hq1 : ∀ L' μ' a' w', Rel C E L' μ' σ1 a' w' → Q .normal a' w') (hq2 : ∀ L' μ' a' w', Rel C E L' μ' σ2 a' w' → Q .normal a' w') :
  ∀ (fuel : Nat) (r1 r2 : List Nat) (listed : Array Bool) (L : List Nat) (μ : M) (σ : St) (a : Act) (w : World), r1.length = fuel → r2.length = fuel → InvB ops r1 listed → InvB ops r2 listed →
   r1.Pairwise (fun j i => OrdOk C P f ops j i ∨ (j = p ∧ i = q)) → r2.Pairwise (fun j i => OrdOk C P f ops j i ∨ (j = q ∧ i = p)) → Rel C E L μ σ a w → evIx C P call f ops r1 σ = some σ1 → evIx C P call f ops r2 σ = some σ2 → wpAny P .any ops Q fuel listed a w := by
 intro fuel
 induction fuel with
 | zero =>
  intro r1 r2 listed L μ σ a w hl _ I _ _ _ R h _
  have : r1 = [] := List.eq_nil_of_length_eq_zero hl
  subst this
  simp only [evIx] at h; cases h
  refine ⟨?_, hq1 L μ a w R⟩
  apply List.eq_nil_iff_forall_not_mem.2
  intro i hi
  obtain ⟨h1, h2, _⟩ := ready_mem hi
  have := (I.mem i).2 ⟨h1, h2⟩
  simp at this
 | succ fuel ih =>
  intro r1 r2 listed L μ σ a w hl1 hl2 I1 I2 hp1 hp2 R e1 e2
  refine ⟨fun hnil => absurd hnil (ready_ne he I1 (by intro e; subst e; simp at hl1)), fun i hi => ?_⟩
  obtain ⟨h1, h2, o, ho, hedge⟩ := ready_mem hi
  have hin1 := (I1.mem i).2 ⟨h1, h2⟩
  have hin2 := (I2.mem i).2 ⟨h1, h2⟩
  obtain ⟨pre1, post1, rfl⟩ := List.append_of_mem hin1
  obtain ⟨pre2, post2, rfl⟩ := List.append_of_mem hin2
  have hbits := bits_of I1 ho hedge
  by_cases hiq : i = q
  ·subst hiq
   have hb : ∀ j ∈ pre2, OrdOk C P f ops j i := fun j hj => (pw_before hp2 j hj).resolve_right fun h => hpq h.2.symm
   obtain ⟨σ3, h3, h4⟩ := front ho pre2 σ σ2 (ahead I2 ho hbits hb) e2
   refine step_ok R S K B ho h3 fun L' μ' a' w' R' => ?_
   have I' := I2.next hbits
   refine any_okB S K B he hq2 fuel (pre2 ++ post2) _ L' μ' σ3 a' w' (by simp at hl2 ⊢; omega) I' ?_ R' h4
   have hni : i ∉ pre2 ++ post2 := by
    have hnd := I2.nd
    rw [List.nodup_append] at hnd
    obtain ⟨_, d2, d3⟩ := hnd
    rw [List.nodup_cons] at d2
    intro h
    rcases List.mem_append.1 h with h | h
    ·exact d3 i h i (by simp) rfl
    ·exact d2.1 h
   exact (pw_drop hp2).imp_of_mem fun ha _ h => h.resolve_right fun h' => hni (h'.1 ▸ ha)
  ·by_cases hip : i = p
   ·subst hip
    have hb : ∀ j ∈ pre1, OrdOk C P f ops j i := fun j hj => (pw_before hp1 j hj).resolve_right fun h => hpq h.2
    obtain ⟨σ3, h3, h4⟩ := front ho pre1 σ σ1 (ahead I1 ho hbits hb) e1
    refine step_ok R S K B ho h3 fun L' μ' a' w' R' => ?_
    have I' := I1.next hbits
    refine any_okB S K B he hq1 fuel (pre1 ++ post1) _ L' μ' σ3 a' w' (by simp at hl1 ⊢; omega) I' ?_ R' h4
    have hni : i ∉ pre1 ++ post1 := by
     have hnd := I1.nd
     rw [List.nodup_append] at hnd
     obtain ⟨_, d2, d3⟩ := hnd
     rw [List.nodup_cons] at d2
     intro h
     rcases List.mem_append.1 h with h | h
     ·exact d3 i h i (by simp) rfl
     ·exact d2.1 h
    exact (pw_drop hp1).imp_of_mem fun ha _ h => h.resolve_right fun h' => hni (h'.1 ▸ ha)
   ·have b1 : ∀ j ∈ pre1, OrdOk C P f ops j i := fun j hj => (pw_before hp1 j hj).resolve_right fun h => hiq h.2
    have b2 : ∀ j ∈ pre2, OrdOk C P f ops j i := fun j hj => (pw_before hp2 j hj).resolve_right fun h => hip h.2
    obtain ⟨σ3, h3, h4⟩ := front ho pre1 σ σ1 (ahead I1 ho hbits b1) e1
    obtain ⟨σ4, h5, h6⟩ := front ho pre2 σ σ2 (ahead I2 ho hbits b2) e2
    rw [h3] at h5; cases h5
    refine step_ok R S K B ho h3 fun L' μ' a' w' R' => ?_
    exact ih (pre1 ++ post1) (pre2 ++ post2) _ L' μ' σ3 a' w' (by simp at hl1 ⊢; omega) (by simp at hl2 ⊢; omega) (I1.next hbits) (I2.next hbits) (pw_drop hp1) (pw_drop hp2) R' h4 h6
theorem permB_ok {l : List Nat} (h : permB ops.size l = true) : l.length = ops.size ∧ InvB ops l (Array.replicate ops.size false) := by
 simp only [permB, Bool.and_eq_true, decide_eq_true_eq] at h
 obtain ⟨h1, h2, h3, h4⟩ := h
 have h1 := Nat.eq_of_beq_eq_true h1
 have h3 : ∀ i ∈ l, i < ops.size := fun i hi => Nat.le_of_ble_eq_true (List.all_eq_true.1 h3 i hi)
 refine ⟨h1, by simp, h2, fun j => ?_, fun j m hj => ?_⟩
 ·constructor
  ·intro hj
   have := h3 j hj
   exact ⟨this, by simp [Array.getD_eq_getD_getElem?, this]⟩
  ·rintro ⟨hj, _⟩
   obtain ⟨k, hk, e⟩ := List.any_eq_true.1 (List.all_eq_true.1 h4 j (List.mem_range.2 hj))
   rw [Nat.eq_of_beq_eq_true e]; exact hk
 ·exfalso
  rw [Array.getD_eq_getD_getElem?, Array.getElem?_replicate] at hj
  split at hj <;> simp at hj
theorem draw_ok2 {L : List Nat} {μ : M} {σ : St} {a : Act} {w : World} (R : Rel C E L μ σ a w) {id : Nat} (S : Sane P C) (K : CallOk P C call) (B : Bodied P call) (hm : P.follows .mixedOrders = true) {p q : Nat} {l1 l2 : List Nat}
  (hpq : p ≠ q) (he : edgesB ops = true) (k1 : permB ops.size l1 = true) (k2 : permB ops.size l2 = true) (o1 : pairsB C P f ops p q l1 = true) (o2 : pairsB C P f ops q p l2 = true)
  {σ1 σ2 : St} (h1 : evIx C P call f ops l1 σ = some σ1) (h2 : evIx C P call f ops l2 σ = some σ2)
  {Q : Exit → Act → World → Prop} (hq1 : ∀ L' μ' a' w', Rel C E L' μ' σ1 a' w' → Q .normal a' w') (hq2 : ∀ L' μ' a' w', Rel C E L' μ' σ2 a' w' → Q .normal a' w') : (Code.region id ops true).wp P Q a w := by
 obtain ⟨n1, I1⟩ := permB_ok k1
 obtain ⟨n2, I2⟩ := permB_ok k2
 exact wp_region_any hm (any_ok2 S K B he hpq hq1 hq2 ops.size l1 l2 _ L μ σ a _ n1 n2 I1 I2 (pairsB_ok o1) (pairsB_ok o2) (R.drawn _) h1 h2)
end
end
end Go.Ef
namespace Go.Ef
open Go
noncomputable section
structure Fit (P : Program) (C : Cfg) : Prop where
 sane : Sane P C
 mixed : P.follows .mixedOrders = true
 regs : ∀ (f : FuncId) (fn : Func) (c : Code), P.funcs[f]? = some fn → fn.body = some c → codeOk C P f c = true
def exOf : Ex → Exit
 | .normal => .normal
 | .exit i => .exit i
 | .ret => .ret
def RunOk (P : Program) (C : Cfg) (n : Nat) (run : Run) : Prop :=
 ∀ f c σ e σ', run f c σ = some (e, σ') → codeOk C P f c = true → ∀ E L μ a w Q, Rel C E L μ σ a w → (∀ L' μ' a' w', Rel C E L' μ' σ' a' w' → Q (exOf e) a' w') →
  c.wp P Q a w ∧ ∀ b, c = .loop b → Code.rounds P b Q n a w
theorem argTr_get : ∀ (l : List AV) (i : Nat) (t : Tr Slot) (k : Nat), (argTr i l t).get k = if i ≤ k ∧ k < i + l.length then (l[k - i]?).map .v else t.get k := by
 intro l
 induction l with
 | nil => intro i t k; simp only [argTr, List.length_nil]; rw [if_neg (by omega)]
 | cons x l ih =>
  intro i t k
  simp only [argTr, List.length_cons]
  rw [ih, Tr.get_set]
  by_cases h : k = i
  ·subst h
   rw [if_neg (by omega), if_pos rfl, if_pos (by omega)]; simp
  ·by_cases h2 : i + 1 ≤ k ∧ k < i + 1 + l.length
   ·rw [if_pos h2, if_pos (by omega), show k - i = (k - (i + 1)) + 1 by omega]; simp
   ·rw [if_neg h2, if_neg (fun e => h e.symm), if_neg (by omega)]
section
variable {P : Program} {C : Cfg}
theorem keepTm_get (σ : St) (m : Nat) : ∀ (l : List Nat) (t : Nat), (keepTm σ m l).get t = if t ∈ l then some ((σ.at t).keep m) else none := by
 intro l
 induction l with
 | nil => intro t; simp [keepTm, Tr.get_leaf]
 | cons x l ih =>
  intro t
  show ((keepTm σ m l).set x ((σ.at x).keep m)).get t = _
  rw [Tr.get_set]
  by_cases h : x = t
  ·subst h; simp
  ·rw [if_neg h, ih]
   have : t ≠ x := fun e => h e.symm
   simp [this]
theorem tidy_rel {E : Ent} {L : List Nat} {μ : M} {σ : St} {a : Act} {w : World} (R : Rel C E L μ σ a w) (l : List Nat) (m : Nat) : Rel C E (L.take m) μ (σ.tidy l m) a w where
 world := R.world
 ext := R.ext
 n := R.n
 tm := by
  intro t ht
  have h0 := R.tm t ht
  have hat : (σ.tm.get t).getD σ.d = σ.at t := by unfold St.at; cases σ.tm.get t <;> rfl
  rw [hat] at h0
  show SlotRel (L.take m) μ (((keepTm σ m l).get t).getD .unk) _
  rw [keepTm_get]
  by_cases h : t ∈ l
  ·rw [if_pos h, Option.getD_some]
   cases hs : σ.at t with
   | unk => trivial
   | v a => rw [hs] at h0; exact h0
   | lp k off =>
    rw [hs] at h0
    obtain ⟨b, h1, h2⟩ := h0
    simp only [Slot.keep]
    cases hb : Nat.blt k m with
    | false => trivial
    | true =>
     have hk : k < m := Nat.le_of_ble_eq_true hb
     exact ⟨b, by rw [List.getElem?_take, if_pos hk]; exact h1, h2⟩
  ·rw [if_neg h]; trivial
 defers := R.defers
 len := by
  show (L.take m).length = (σ.loc.take m).length
  simp [R.len]
 loc := by
  intro k b o hk ho
  rw [List.getElem?_take] at hk
  replace ho : (σ.loc.take m)[k]? = some o := ho
  rw [List.getElem?_take] at ho
  split at hk
  ·rename_i hlt
   rw [if_pos hlt] at ho
   exact R.loc k b o hk ho
  ·cases hk
 nodup := by
  intro i j b hi hj
  rw [List.getElem?_take] at hi hj
  split at hi
  ·split at hj
   ·exact R.nodup i j b hi hj
   ·cases hj
  ·cases hi
theorem enter_rel {μ : M} {h : Heap} {w : World} (H : W C μ h w) {args : List AV} {vs : Array Value} (hv : VLs μ args vs) (m : Nat) :
  Rel C ⟨μ, h, w⟩ [] μ { n := args.length + (m - args.length), tm := argTr 0 args .leaf, d := .v (.sc undef), loc := [], h := h } { tmps := vs ++ Array.replicate (m - vs.size) undef, defers := [] } w where
 world := H
 ext := .refl _ _ _
 n := by simp [hv.1]
 tm := by
  intro t ht
  simp only [] at ht ⊢
  rw [argTr_get]
  by_cases h0 : t < args.length
  ·rw [if_pos (by omega)]
   have hvs : t < vs.size := by rw [← hv.1]; exact h0
   have := hv.2 t args[t] vs[t] (by simp [h0]) (by simp [hvs])
   rw [Nat.sub_zero, List.getElem?_eq_getElem h0]
   rw [Array.getD_eq_getD_getElem?, Array.getElem?_append_left hvs, Array.getElem?_eq_getElem hvs]
   exact this
  ·rw [if_neg (by omega)]
   have hvs : vs.size ≤ t := by rw [← hv.1]; omega
   rw [Array.getD_eq_getD_getElem?, Array.getElem?_append_right hvs, Array.getElem?_replicate]
   rw [if_pos (by rw [← hv.1]; omega)]
   exact .sc rfl
 defers := rfl
 len := rfl
 loc := fun k b o hk => by simp at hk
 nodup := fun i j b hk => by simp at hk
theorem callWith_ok {run : Run} {n : Nat} (F : Fit P C) (H : RunOk P C n run) : CallOk P C (callWith C P run) ∧ Bodied P (callWith C P run) := by
 constructor
 ·intro g args h r h' hc μ w vs W0 hv
  unfold callWith at hc
  split at hc
  ·rename_i fn hf
   split at hc
   ·rename_i c hb
    unfold endOf at hc
    split at hc
    ·rename_i e σ' hrun
     refine calls_of_wp hf hb (H g c _ e σ' hrun (F.regs g fn c hf hb) ⟨μ, h, w⟩ [] μ _ w _ (enter_rel W0 hv fn.ntmps) fun L' μ' a' w' R' => ?_).1
     have fin : packR σ' (evResults C P σ' fn.results.toList) = some (r, h') → a'.defers = [] ∧ ∃ v, (results fn a'.tmps).run P w' = .ok v w' ∧ CallEnd C μ h w r h' (.returned v) w' := by
      intro hp
      obtain ⟨v, h1, h2, rfl⟩ := pack_ok (P := P) R' hp
      exact ⟨R'.defers, v, h1, v, μ', rfl, h2, R'.world, R'.ext⟩
     split at hc
     ·cases hc
     ·cases e with
      | normal => exact fin hc
      | ret => exact fin hc
      | exit i => rename_i hne; exact absurd rfl (hne i)
    ·cases hc
   ·cases hc
  ·cases hc
 ·intro g args h r hc
  unfold callWith at hc
  split at hc
  ·rename_i fn hf
   split at hc
   ·rename_i c hb
    exact ⟨fn, hf, by rw [hb]; rfl⟩
   ·cases hc
  ·cases hc
theorem draw_of_codeOk {f : FuncId} {id : Nat} {ops : Array Oper} (h : codeOk C P f (.region id ops true) = true) (hb : C.bad f id = true) : twoOk C P f id ops = true ∨ regOk C P f ops = true := by
 simpa only [codeOk, hb, Bool.not_true, Bool.false_or, Bool.true_and, Bool.or_eq_true] using h
theorem code1_ok {run : Run} {n : Nat} (F : Fit P C) (H : RunOk P C n run) : RunOk P C (n + 1) (evCode1 C P run) := by
 intro f c σ e σ' h hok E L μ a w Q R hq
 by_cases hl : ∃ b, c = .loop b
 ·obtain ⟨b, rfl⟩ := hl
  have hok' := hok
  simp only [codeOk] at hok'
  have key : Code.rounds P b Q (n + 1) a w := by
   simp only [evCode1] at h
   cases ht : C.tidy f (firstId 8 b) with
   | some t =>
    rw [ht] at h
    simp only [] at h
    unfold evLoop at h
    split at h
    ·rename_i e1 σ1 he
     refine (H f b _ e1 σ1 he hok' E _ μ a w _ (tidy_rel R _ _) fun L' μ' a' w' R' => ?_).1
     cases e1 with
     | normal => exact (H f (.loop b) σ1 e σ' h hok E L' μ' a' w' Q R' hq).2 b rfl
     | exit i => cases h; exact hq _ _ _ _ (tidy_rel R' _ _)
     | ret => cases h; exact hq _ _ _ _ (tidy_rel R' _ _)
    ·cases h
   | none =>
   rw [ht] at h
   simp only [] at h
   unfold evSeq at h
   split at h
   ·rename_i e1 σ1 he
    refine (H f b σ e1 σ1 he hok' E L μ a w _ R fun L' μ' a' w' R' => ?_).1
    split at h
    ·exact (H f (.loop b) σ1 e σ' h hok E L' μ' a' w' Q R' hq).2 b rfl
    ·rw [he] at h; cases h
     cases e with
     | normal => rename_i hne; exact absurd rfl hne
     | exit i => exact hq _ _ _ _ R'
     | ret => exact hq _ _ _ _ R'
   ·cases h
  exact ⟨wp_loop_rounds (n + 1) key, fun b' hb => by cases hb; exact key⟩
 refine ⟨?_, fun b hb => absurd ⟨b, hb⟩ hl⟩
 unfold evCode1 at h
 split at h
 ·cases h; exact wp_skip (hq L μ a w R)
 ·rename_i id ops draw
  obtain ⟨K, B⟩ := callWith_ok F H
  unfold evReg at h
  cases hd : draw && C.bad f id with
  | true =>
   rw [hd] at h
   simp only [cond_true] at h
   rw [Bool.and_eq_true] at hd
   obtain ⟨hdr, hbad⟩ := hd
   subst hdr
   unfold evTwo at h
   split at h
   ·rename_i p q l ht
    split at h
    ·rename_i σ1 e1
     split at h
     ·rename_i σ2 e2
      cases he : eqSt 30 σ1 σ2 with
      | false => rw [he] at h; cases h
      | true =>
       rw [he] at h
       cases h
       have e := eqSt_ok 30 _ _ he
       subst e
       have hr := draw_of_codeOk hok hbad
       rcases hr with hr | hr
       ·unfold twoOk at hr
        rw [ht] at hr
        simp only [Bool.and_eq_true, Bool.not_eq_true'] at hr
        obtain ⟨⟨k0, k1⟩, ⟨k2, k3⟩, k4, k5⟩ := hr
        exact draw_ok2 R F.sane K B F.mixed (by intro e; subst e; rw [show Nat.beq p p = true from Nat.beq_refl p] at k0; cases k0) k1 k2 k3 k4 k5 e1 e2 hq hq
       ·exact draw_ok R F.sane K B F.mixed hr (by rw [← evIx_range]; exact e1) hq
     ·cases h
    ·cases h
   ·cases h
  | false =>
   rw [hd] at h
   simp only [cond_false] at h
   split at h
   ·rename_i σ1 he
    cases h
    cases draw with
    | false => exact region_ok R F.sane K B he hq
    | true =>
     simp only [Bool.true_and] at hd
     simp only [codeOk, hd, Bool.not_true, Bool.false_or, Bool.false_and] at hok
     exact draw_ok R F.sane K B F.mixed hok he hq
   ·cases h
 ·rename_i x y
  simp only [codeOk, Bool.and_eq_true] at hok
  unfold evSeq at h
  split at h
  ·rename_i e1 σ1 he
   refine wp_seq (H f x σ e1 σ1 he hok.1 E L μ a w _ R fun L' μ' a' w' R' => ?_).1
   split at h
   ·exact (H f y σ1 e σ' h hok.2 E L' μ' a' w' Q R' hq).1
   ·rw [he] at h; cases h
    cases e with
    | normal => rename_i hne; exact absurd rfl hne
    | exit i => exact hq _ _ _ _ R'
    | ret => exact hq _ _ _ _ R'
  ·cases h
 ·rename_i x y z
  simp only [codeOk, Bool.and_eq_true] at hok
  unfold evCond at h
  split at h
  ·rename_i t ht
   have hv := V.sc_eq (val_rel R ht)
   refine wp_cond (t := t) hv ?_
   cases t with
   | true => exact (H f y σ e σ' h hok.1 E L μ a w Q R hq).1
   | false => exact (H f z σ e σ' h hok.2 E L μ a w Q R hq).1
  ·cases h
 ·rename_i id b
  simp only [codeOk] at hok
  unfold evBlk at h
  split at h
  ·rename_i e1 σ1 he
   refine wp_block (H f b σ e1 σ1 he hok E L μ a w _ R fun L' μ' a' w' R' => ?_).1
   split at h
   ·rename_i i
    cases hb : Nat.beq i id with
    | true =>
     rw [hb] at h; cases h
     have : i = id := Nat.eq_of_beq_eq_true hb
     simp only [exOf, Exit.inBlock, this, if_true]
     exact hq _ _ _ _ R'
    | false =>
     rw [hb] at h; rw [cond_false, he] at h; cases h
     have : i ≠ id := Nat.ne_of_beq_eq_false hb
     simp only [exOf, Exit.inBlock, this, if_false]
     exact hq _ _ _ _ R'
   ·rw [he] at h; cases h
    cases e with
    | normal => exact hq _ _ _ _ R'
    | exit i => rename_i hne; exact absurd rfl (hne i)
    | ret => exact hq _ _ _ _ R'
  ·cases h
 ·rename_i b; exact absurd ⟨b, rfl⟩ hl
 ·cases h; exact wp_exit (hq L μ a w R)
 ·cases h; exact wp_ret (hq L μ a w R)
 ·rename_i b
  simp only [codeOk] at hok
  refine wp_scope_straight (H f b σ e σ' h hok E L μ a w _ R fun L' μ' a' w' R' => ?_).1
  cases e <;> exact hq _ _ _ _ R'
 ·cases h; exact wp_label (hq L μ a w R)
 ·cases h
theorem code_ok (F : Fit P C) : ∀ n, RunOk P C n (evCode C P n) := by
 intro n
 induction n with
 | zero => intro f c σ e σ' h; cases h
 | succ n ih => exact code1_ok F ih
theorem call_ok (F : Fit P C) (n : Nat) {g : FuncId} {args : List AV} {h : Heap} {r : AV} {h' : Heap} (hc : evCall C P n g args h = some (r, h')) {μ : M} {w : World} {vs : Array Value} (H : W C μ h w) (hv : VLs μ args vs) : Calls P g vs w (CallEnd C μ h w r h') :=
 (callWith_ok F (code_ok F n)).1 g args h r h' hc μ w vs H hv
end
end
end Go.Ef
namespace Go.Ef
open Go
noncomputable section
def LeF (c c' : CallF) : Prop := ∀ g args h r, c g args h = some r → c' g args h = some r
section
variable {C : Cfg} {P : Program} {c c' : CallF}
theorem callP_le (l : LeF c c') : LeF (callP C c) (callP C c') := by
 intro g args h r hc
 unfold callP at hc ⊢
 split at hc
 ·rename_i p hp; exact hc
 ·rename_i hp
  cases hfr : C.fresh g with
  | true =>
   rw [hfr] at hc
   simp only [cond_true] at hc ⊢
   split at hc
   ·split at hc
    ·rename_i r0 h0 hcall
     rw [l _ _ _ _ hcall]
     exact hc
    ·cases hc
   ·cases hc
  | false =>
   rw [hfr] at hc
   cases himp : C.imp g with
   | true =>
    rw [himp] at hc
    simp only [cond_true, cond_false] at hc ⊢
    split at hc
    ·split at hc
     ·rename_i r0 h0 hcall
      rw [l _ _ _ _ hcall]
      exact hc
     ·cases hc
    ·cases hc
   | false =>
   rw [himp] at hc
   simp only [cond_false] at hc ⊢
   cases hpure : C.pure g with
   | false => rw [hpure] at hc; exact l _ _ _ _ hc
   | true =>
    rw [hpure] at hc
    simp only [cond_true] at hc ⊢
    split at hc
    ·rename_i r0 h0 hcall
     rw [l _ _ _ _ hcall]
     exact hc
    ·cases hc
theorem back_le (l : LeF c c') {σ : St} {g : FuncId} {args : List AV} {h : Heap} {r : Slot × St} (hb : back σ (c g args h) = some r) : back σ (c' g args h) = some r := by
 cases hq : c g args h with
 | none => rw [hq] at hb; cases hb
 | some v => rw [hq] at hb; rw [l _ _ _ _ hq]; exact hb
theorem op_le (l : LeF c c') {f : FuncId} {o : Oper} {σ : St} {r : Slot × St} (h : evOp C P c f o σ = some r) : evOp C P c' f o σ = some r := by
 cases ho : o.op <;> simp only [evOp, ho] at h ⊢ <;> try exact h
 rename_i k
 unfold opCall at h ⊢
 split at h
 ·cases h
 ·rename_i args hargs
  split at h
  ·exact h
  ·rename_i x hx
   unfold callQ at h ⊢
   cases hq : C.is f o.dst 8 && !quietCal C σ x with
   | true => rw [hq] at h; cases h
   | false =>
    rw [hq] at h
    simp only [cond_false] at h ⊢
    unfold callVal at h ⊢
    split at h
    ·exact back_le (callP_le l) h
    ·cases h
  ·rename_i x name hx
   unfold callMeth at h ⊢
   split at h
   ·split at h
    ·exact back_le (callP_le l) h
    ·cases h
   ·cases h
theorem step_le (l : LeF c c') {f : FuncId} {ops : Array Oper} {o : Oper} {σ σ' : St} (h : evStep C P c f ops o σ = some σ') : evStep C P c' f ops o σ = some σ' := by
 unfold evStep at h ⊢
 split at h
 ·split at h
  ·rename_i hop
   rw [op_le l hop]
   exact h
  ·cases h
 ·exact h
 ·cases h
theorem ops_le (l : LeF c c') {f : FuncId} {ops : Array Oper} : ∀ (os : List Oper) (σ σ' : St), evOps C P c f ops os σ = some σ' → evOps C P c' f ops os σ = some σ' := by
 intro os
 induction os with
 | nil => intro σ σ' h; exact h
 | cons o os ih =>
  intro σ σ' h
  rw [evOps_cons] at h ⊢
  obtain ⟨τ, h1, h2⟩ := thenO_some h
  rw [step_le l h1]
  exact ih τ σ' h2
def LeR (r r' : Run) : Prop := ∀ f c σ x, r f c σ = some x → r' f c σ = some x
theorem callWith_le {r r' : Run} (l : LeR r r') : LeF (callWith C P r) (callWith C P r') := by
 intro g args h x hc
 unfold callWith at hc ⊢
 split at hc
 ·split at hc
  ·unfold endOf at hc ⊢
   split at hc
   ·rename_i hr
    rw [l _ _ _ _ hr]
    exact hc
   ·cases hc
  ·cases hc
 ·cases hc
theorem seq_le {x x' : Option (Ex × St)} {k k' : St → Option (Ex × St)} (hx : ∀ y, x = some y → x' = some y) (hk : ∀ σ y, k σ = some y → k' σ = some y) {y : Ex × St} (h : evSeq x k = some y) : evSeq x' k' = some y := by
 cases hq : x with
 | none => rw [hq] at h; cases h
 | some z =>
  obtain ⟨e, σ⟩ := z
  rw [hx _ hq]
  rw [hq] at h
  cases e with
  | normal => exact hk _ _ h
  | exit i => exact h
  | ret => exact h
theorem ix_le (l : LeF c c') {f : FuncId} {ops : Array Oper} : ∀ (os : List Nat) (σ σ' : St), evIx C P c f ops os σ = some σ' → evIx C P c' f ops os σ = some σ' := by
 intro os
 induction os with
 | nil => intro σ σ' h; exact h
 | cons o os ih =>
  intro σ σ' h
  unfold evIx at h ⊢
  split at h
  ·obtain ⟨τ, h1, h2⟩ := thenO_some h
   rw [step_le l h1]
   exact ih _ _ h2
  ·cases h
theorem two_le (l : LeF c c') {f : FuncId} {id : Nat} {ops : Array Oper} {σ : St} {x : Ex × St} (h : evTwo C P c f id ops σ = some x) : evTwo C P c' f id ops σ = some x := by
 unfold evTwo at h ⊢
 split at h
 ·split at h
  ·rename_i h1
   split at h
   ·rename_i h2
    rw [ix_le l _ _ _ h1, ix_le l _ _ _ h2]
    exact h
   ·cases h
  ·cases h
 ·cases h
theorem code1_le {r r' : Run} (l : LeR r r') : LeR (evCode1 C P r) (evCode1 C P r') := by
 intro f c σ x h
 cases c with
 | region id ops draw =>
  simp only [evCode1, evReg] at h ⊢
  cases hd : draw && C.bad f id with
  | true =>
   rw [hd] at h
   simp only [cond_true] at h ⊢
   exact two_le (callWith_le l) h
  | false =>
   rw [hd] at h
   simp only [cond_false] at h ⊢
   split at h
   ·rename_i he
    rw [ops_le (callWith_le l) _ _ _ he]
    exact h
   ·cases h
 | seq a b => exact seq_le (fun y hy => l _ _ _ _ hy) (fun τ y hy => l _ _ _ _ hy) h
 | cond k a b =>
  simp only [evCode1, evCond] at h ⊢
  split at h
  ·rename_i t ht
   cases t with
   | true => exact l _ _ _ _ h
   | false => exact l _ _ _ _ h
  ·cases h
 | block id b =>
  simp only [evCode1] at h ⊢
  cases hq : r f b σ with
  | none => rw [hq] at h; cases h
  | some z => rw [hq] at h; rw [l _ _ _ _ hq]; exact h
 | loop b =>
  simp only [evCode1] at h ⊢
  split at h
  ·exact seq_le (fun y hy => l _ _ _ _ hy) (fun τ y hy => l _ _ _ _ hy) h
  ·rename_i t ht
   unfold evLoop at h ⊢
   split at h
   ·rename_i e τ he
    rw [l _ _ _ _ he]
    simp only []
    split at h
    ·exact l _ _ _ _ h
    ·exact h
   ·cases h
 | scope b => exact l _ _ _ _ h
 | _ => exact h
theorem code_le (n : Nat) : LeR (evCode C P n) (evCode C P (n + 1)) := by
 induction n with
 | zero => intro f c σ x h; cases h
 | succ n ih => exact code1_le ih
theorem code_mono {n m : Nat} (h : n ≤ m) : LeR (evCode C P n) (evCode C P m) := by
 induction h with
 | refl => intro f c σ x h; exact h
 | step _ ih => intro f c σ x h; exact code_le _ f c σ x (ih f c σ x h)
theorem call_mono {n m : Nat} (h : n ≤ m) : LeF (evCall C P n) (evCall C P m) := callWith_le (code_mono h)
end
end
end Go.Ef
namespace Go.Ef
open Go
noncomputable section
structure CAlt where
 α : Type
 post : α → Prop
 val : α → AV
 heap : α → Heap
structure CSpec where
 pre : Prop
 alts : List CAlt
structure LAlt where
 α : Type
 post : α → Prop
 ex : Ex
 st : α → St
structure LSpec where
 pre : Prop
 alts : List LAlt
def wpCAlts (l : List CAlt) (K : AV → Heap → Prop) : Prop :=
 List.rec (motive := fun _ => Prop) True (fun s r ih => List.rec (motive := fun _ => Prop) (∀ x, s.post x → K (s.val x) (s.heap x)) (fun _ _ _ => (∀ x, s.post x → K (s.val x) (s.heap x)) ∧ ih) r) l
def wpLAlts (l : List LAlt) (K : Ex → St → Prop) : Prop :=
 List.rec (motive := fun _ => Prop) True (fun s r ih => List.rec (motive := fun _ => Prop) (∀ x, s.post x → K s.ex (s.st x)) (fun _ _ _ => (∀ x, s.post x → K s.ex (s.st x)) ∧ ih) r) l
structure Tab where
 call : FuncId → Option (List AV → Heap → Option CSpec)
 loop : FuncId → Nat → Option (St → Option LSpec)
 exact : FuncId → Nat → Bool
 named : FuncId → Nat → Bool
 lazy : FuncId → Bool := fun _ => false
 sym : FuncId → Bool := fun _ => false
 symS : FuncId → Option Nat → Bool := fun _ _ => false
 symN : FuncId → Bool := fun _ => false
 deep : FuncId → Bool := fun _ => false
 hv : FuncId → Bool := fun _ => false
 hs : FuncId → Option Nat → Nat := fun _ _ => 0
def findLoop (n i : Nat) : Code → Option Code :=
 Nat.rec (motive := fun _ => Code → Option Code) (fun _ => none) (fun _ ih c => match c with
  | .seq a b => match ih a with
   | some x => some x
   | none => ih b
  | .cond _ a b => match ih a with
   | some x => some x
   | none => ih b
  | .block _ b => ih b
  | .scope b => ih b
  | .loop b => bif Nat.beq (firstId 8 b) i then some b else ih b
  | _ => none) n
def loopAt (P : Program) (f : FuncId) (i : Nat) : Code :=
 match P.funcs[f]? with
 | some fn => match fn.body with
  | some c => match findLoop 400 i c with
   | some b => b
   | none => .skip
  | none => .skip
 | none => .skip
def iteP (q : Bool) (A B : Prop) : Prop := Bool.rec (motive := fun _ => Prop) B A q
def inRange (n : Int) (m : Nat) : Bool := decide (0 ≤ n) && decide (n < m)
def byteAt (l : List UInt8) (n : Int) : Int := ((l[n.toNat]?).getD 0).toNat
def cutL {α : Type} (l : List α) (a b : Int) : List α := (l.take b.toNat).drop a.toNat
def byteD (e : List AV) : UInt8 := (byteOf e).getD 0
def isByteCell (e : List AV) : Bool := Nat.beq e.length 1 && (byteOf e).isSome
def bytesLt : List UInt8 → List UInt8 → Bool := Op.bytesLess
abbrev KS := Slot → St → Prop
abbrev KR := Ex → St → Prop
abbrev RunW := FuncId → Code → St → KR → Prop
def forceL (f : AV → (AV → Prop) → Prop) (l : List AV) (k : List AV → Prop) : Prop :=
 List.rec (motive := fun _ => (List AV → Prop) → Prop) (fun k => k []) (fun x _ ih k => f x fun y => ih fun l => k (y :: l)) l k
def forceA (n : Nat) : AV → (AV → Prop) → Prop :=
 Nat.rec (motive := fun _ => AV → (AV → Prop) → Prop) (fun a k => k a)
  (fun _ ih a k => match a with
   | .sc v => match v with
    | .int kd i => k (.sc (.int kd i))
    | .string s => match s with
     | ⟨a⟩ => match a with
      | ⟨l⟩ => k (.sc (.string ⟨⟨l⟩⟩))
    | v => k (.sc v)
   | .agg cs => forceL ih cs fun l => k (.agg l)
   | .tup cs => forceL ih cs fun l => k (.tup l)
   | a => k a) n
def forceO (v : Option Slot) (k : Option Slot → Prop) : Prop :=
 match v with
 | none => k none
 | some s => match s with
  | .v a => forceA 2 a fun a => k (some (.v a))
  | .lp i j => k (some (.lp i j))
  | .unk => k (some .unk)
def forceT (t : Tr Slot) (k : Tr Slot → Prop) : Prop :=
 Tr.rec (motive := fun _ => (Tr Slot → Prop) → Prop) (fun k => k .leaf) (fun _ v _ ihl ihr k => ihl fun l => ihr fun r => forceO v fun v => k (.node l v r)) t k
def forceC (l : List LObj) (k : List LObj → Prop) : Prop :=
 List.rec (motive := fun _ => (List LObj → Prop) → Prop) (fun k => k [])
  (fun x _ ih k => match x with
   | .cells cs => forceL (forceA 1) cs fun cs => ih fun l => k (.cells cs :: l)
   | .iter s p => ih fun l => k (.iter s p :: l)
   | .raw r o es => ih fun l => k (.raw r o es :: l)) l k
def forceH (t : Tr AObj) (k : Tr AObj → Prop) : Prop :=
 Tr.rec (motive := fun _ => (Tr AObj → Prop) → Prop) (fun k => k .leaf)
  (fun _ v _ ihl ihr k => ihl fun l => ihr fun r => match v with
   | none => k (.node l none r)
   | some o => match o with
    | .cells cs => forceL (forceA 1) cs fun cs => k (.node l (some (.cells cs)) r)
    | o => k (.node l (some o) r)) t k
def forceS (σ : St) (k : St → Prop) : Prop :=
 match σ with
 | ⟨n, tm, d, loc, h⟩ => forceT tm fun tm => forceC loc fun loc => match h with
  | ⟨nx, objs, ro, ty⟩ => forceH objs fun objs => k ⟨n, tm, d, loc, ⟨nx, objs, ro, ty⟩⟩
def forceN (σ : St) (k : St → Prop) : Prop :=
 match σ with
 | ⟨n, tm, d, loc, h⟩ => forceT tm fun tm => forceC loc fun loc => k ⟨n, tm, d, loc, h⟩
def forceZ (b : Bool) (σ : St) (k : St → Prop) : Prop := bif b then forceN σ k else forceS σ k
def wpRes (r : Res) (K : KS) : Prop :=
 match r with
 | some (s, σ) => K s σ
 | none => False
def wpPut (σ : St) (d : Option Nat) (s : Slot) (K : St → Prop) : Prop :=
 match s with
 | .v (.sc (.bool q)) => iteP q
   (match σ.put d (.v (.sc (.bool true))) with | some τ => K τ | none => False)
   (match σ.put d (.v (.sc (.bool false))) with | some τ => K τ | none => False)
 | s => match σ.put d s with | some τ => K τ | none => False
def namedAt (T : Tab) (f : FuncId) : Option Nat → Bool
 | some t => T.named f t
 | none => false
def wpPutN (T : Tab) (f : FuncId) (σ : St) (d : Option Nat) (s : Slot) (K : St → Prop) : Prop :=
 bif namedAt T f d then
  (match s with
   | .v (.sc (.int k n)) => ∀ m : Int, m = n → wpPut σ d (.v (.sc (.int k m))) K
   | .v (.sc (.string b)) => ∀ l : List UInt8, l = b.data.toList → wpPut σ d (.v (.sc (.string ⟨⟨l⟩⟩))) K
   | s => wpPut σ d s K)
 else wpPut σ d s K
def wpSel (n : Int) (F : Nat → Prop) (m : Nat) : Prop :=
 Nat.rec (motive := fun _ => Prop) False (fun j ih => iteP (decide (n = (j : Int))) (F j) ih) m
def wpIndex (P : Program) (σ : St) (t : TypeId) (x i : Operand) (K : KS) : Prop :=
 match σ.val x with
 | some (.sc (.string s)) => match σ.val i with
  | some (.sc (.int _ n)) => bif isStringT P t then iteP (inRange n s.data.toList.length) (K (.v (.sc (.int .u8 (byteAt s.data.toList n)))) σ) False else False
  | _ => False
 | some (.agg cs) => match σ.val i with
  | some (.sc (.int _ n)) => match arrT P t with
   | some (m, e) => match sizeT P e with
    | some z => wpSel n (fun j => wpRes (resV σ (partA P e (j * z) cs)) K) m
    | none => False
   | none => False
  | _ => False
 | _ => False
def optI (σ : St) : Option Operand → Option (Option Int)
 | none => some none
 | some x => match σ.val x with
  | some (.sc (.int _ n)) => some (some n)
  | _ => none
def wpCutStr (σ : St) (l : List UInt8) (lo hi : Option Int) (K : KS) : Prop :=
 match hi with
 | none => match lo with
  | none => K (.v (.sc (.string ⟨⟨l⟩⟩))) σ
  | some a => iteP (decide (0 ≤ a) && decide (a ≤ (l.length : Int))) (K (.v (.sc (.string ⟨⟨l.drop a.toNat⟩⟩))) σ) False
 | some b => match lo with
  | none => iteP (decide (0 ≤ b) && decide (b ≤ (l.length : Int))) (K (.v (.sc (.string ⟨⟨l.take b.toNat⟩⟩))) σ) False
  | some a => iteP (decide (0 ≤ a) && (decide (a ≤ b) && decide (b ≤ (l.length : Int)))) (K (.v (.sc (.string ⟨⟨cutL l a b⟩⟩))) σ) False
def wpCutSl (σ : St) (els : List (List AV)) (tok : Nat) (lo hi : Option Int) (K : KS) : Prop :=
 match tok with
 | 0 => (match hi with
  | none => match lo with
   | none => K (.v (.sl els 0)) σ
   | some a => iteP (decide (0 ≤ a) && decide (a ≤ (els.length : Int))) (K (.v (.sl (els.drop a.toNat) 0)) σ) False
  | some b => match lo with
   | none => iteP (decide (0 ≤ b) && decide (b ≤ (els.length : Int))) (K (.v (.sl (els.take b.toNat) 0)) σ) False
   | some a => iteP (decide (0 ≤ a) && (decide (a ≤ b) && decide (b ≤ (els.length : Int)))) (K (.v (.sl (cutL els a b) 0)) σ) False)
 | tok + 1 => (match hi with
  | none => match lo with
   | none => K (.v (.sl els (tok + 1))) σ
   | some a => iteP (decide (0 ≤ a) && decide (a ≤ (els.length : Int))) (iteP (decide (a = 0)) (K (.v (.sl els (tok + 1))) σ) (K (.v (.sl (els.drop a.toNat) 1)) σ)) False
  | some b => match lo with
   | none => iteP (decide (0 ≤ b) && decide (b ≤ (els.length : Int))) (iteP (decide (b = (els.length : Int))) (K (.v (.sl els (tok + 1))) σ) (K (.v (.sl (els.take b.toNat) 1)) σ)) False
   | some a => iteP (decide (0 ≤ a) && (decide (a ≤ b) && decide (b ≤ (els.length : Int)))) (iteP (decide (b = (els.length : Int)) && decide (a = 0)) (K (.v (.sl els (tok + 1))) σ) (K (.v (.sl (cutL els a b) 1)) σ)) False)
def cut3L (els : List (List AV)) (tok : Nat) (a b : Int) : AV := .sl (cutL els a b) (bif Nat.beq tok 0 then 0 else 1)
def wpSlice (P : Program) (σ : St) (t : TypeId) (x : Operand) (lo hi mx : Option Operand) (K : KS) : Prop :=
 match mx with
 | some m => match σ.val x with
  | some (.sl els tok) => match sliceOf P t with
   | some k => iteP (headLen k els) (match optI σ lo with
    | some l => match optI σ hi with
     | some (some b) => match optI σ (some m) with
      | some (some c) => iteP (decide (0 ≤ l.getD 0) && (decide (l.getD 0 ≤ b) && (decide (b ≤ c) && decide (c ≤ (els.length : Int))))) (K (.v (cut3L els tok (l.getD 0) b)) σ) False
      | _ => False
     | _ => False
    | none => False) False
   | none => False
  | _ => wpRes (opSlice P σ t x lo hi (some m)) K
 | none => match σ.val x with
  | some (.sc (.string s)) => match P.underlying t with
   | some .string => match optI σ lo with
    | some l => match optI σ hi with
     | some h => wpCutStr σ s.data.toList l h K
     | none => False
    | none => False
   | _ => False
  | some (.sl els tok) => match sliceOf P t with
   | some k => iteP (headLen k els) (match optI σ lo with
    | some l => match optI σ hi with
     | some h => wpCutSl σ els tok l h K
     | none => False
    | none => False) False
   | none => False
  | _ => wpRes (opSlice P σ t x lo hi none) K
def isU8 : AV → Bool
 | .sc (.int .u8 _) => true
 | _ => false
def u8V (cs : List AV) (o : Nat) : Int :=
 match cs[o]? with
 | some (.sc (.int .u8 v)) => v
 | _ => 0
def u8B : AV → UInt8
 | .sc (.int .u8 v) => UInt8.ofNat v.toNat
 | _ => 0
def setC (cs : List AV) (o : Nat) (v : AV) : List AV := cs.set o v
def cutC (cs : List AV) (o n : Nat) : List AV := (cs.drop o).take n
def inCells (o : Nat) (cs : List AV) : Bool := Nat.blt o cs.length && cs.all isU8
def endCells (o : Nat) (cs : List AV) : Bool := Nat.ble o cs.length && cs.all isU8
def ltLen (o : Nat) (cs : List AV) : Bool := Nat.blt o cs.length
def isU8T (P : Program) (t : TypeId) : Bool :=
 match P.underlying t with
 | some (.int .u8) => true
 | _ => false
def hasStr (h : Heap) (id o : Nat) : Bool :=
 match h.get id with
 | some (.cells cs) => match cs[o]? with
  | some (.sc (.string _)) => true
  | _ => false
 | _ => false
def strIn (h : Heap) (id o : Nat) : List UInt8 :=
 match h.get id with
 | some (.cells cs) => match cs[o]? with
  | some (.sc (.string s)) => s.data.toList
  | _ => []
 | _ => []
def overC (cs : List AV) (o : Nat) (new : List AV) : List AV := cs.take o ++ new ++ cs.drop (o + new.length)
def fitC (cs : List AV) (o : Nat) (new : List AV) : Bool := Nat.ble (o + new.length) cs.length && new.all AV.one
def flatC (els : List (List AV)) (n : Nat) : List AV := (els.take n).flatten
def repC (n : Int) (z : AV) : List AV := List.replicate n.toNat z
def wpLoad (T : Tab) (C : Cfg) (P : Program) (σ : St) (f : FuncId) (d : Option Nat) (t : TypeId) (a : Operand) (K : KS) : Prop :=
 match σ.slot a with
 | some (.v (.ptr id off)) => bif (T.sym f && !(C.is f d 3 || C.is f d 5)) && isU8T P t then
   (match σ.h.get id with
    | some (.cells cs) => iteP (inCells off cs) (K (.v (.sc (.int .u8 (u8V cs off)))) σ) False
    | _ => False)
   else bif (T.symS f d && !(C.is f d 3 || C.is f d 5)) && isStringT P t then iteP (hasStr σ.h id off) (K (.v (.sc (.string ⟨⟨strIn σ.h id off⟩⟩))) σ) False
   else wpRes (opLoad C P σ f d t a) K
 | _ => wpRes (opLoad C P σ f d t a) K
def wpStore (T : Tab) (C : Cfg) (P : Program) (σ : St) (f : FuncId) (t : TypeId) (a x : Operand) (K : KS) : Prop :=
 match σ.slot a with
 | some (.v (.ptr id off)) => bif (T.sym f && !isW C f a && isU8T P t) && (sizeT P t).any (Nat.beq 1) then
   (match σ.val x with
    | some (.sc (.int .u8 n)) => match σ.h.get id with
     | some (.cells cs) => match σ.h.put id (.cells (setC cs off (.sc (.int .u8 n)))) with
      | some h => iteP (ltLen off cs) (K (.v (.sc undef)) { σ with h := h }) False
      | none => False
     | _ => False
    | _ => False)
   else bif (T.symN f && !isW C f a && isStringT P t) && (sizeT P t).any (Nat.beq 1) then
   (match σ.val x with
    | some (.sc (.string s)) => match σ.h.get id with
     | some (.cells cs) => match σ.h.put id (.cells (setC cs off (.sc (.string s)))) with
      | some h => iteP (ltLen off cs) (K (.v (.sc undef)) { σ with h := h }) False
      | none => False
     | _ => False
    | _ => False)
   else wpRes (opStore C P σ f t a x) K
 | _ => wpRes (opStore C P σ f t a x) K
def wpMake (T : Tab) (C : Cfg) (P : Program) (σ : St) (f : FuncId) (d : Option Nat) (t : TypeId) (x y : Operand) (K : KS) : Prop :=
 bif T.symN f then
  (match σ.val x, σ.val y, elemT P t with
   | some (.sc (.int _ l)), some (.sc (.int _ c)), some e => match P.info? e, zeroA P e with
    | some i, some z => bif C.is f d 2 then False else
     bif Nat.beq i.size 1 && (Nat.beq z.cells.length 1 && z.one) then
      iteP (decide (0 ≤ l) && decide (l ≤ c) && decide (c ≤ maxRoom) && Nat.ble (c.toNat * i.bytes) maxRoom)
       (iteP (Nat.beq l.toNat 0) (K (.v (σ.newO 1 e []).1) (σ.newO 1 e []).2)
        (K (.v (.rsl σ.h.next 0 l.toNat 1)) { σ with h := (σ.h.new (.cells (repC l z))).2 })) False
     else False
    | _, _ => False
   | _, _, _ => False)
 else wpRes (opMakeSlice C P σ f d t x y) K
def wpCopyTo (σ : St) (id off : Nat) (new : List AV) (K : KS) : Prop :=
 match σ.h.get id with
 | some (.cells cs) => match σ.h.put id (.cells (overC cs off new)) with
  | some h => iteP (fitC cs off new) (iteP new.isEmpty (K (.v (intA 0)) σ) (K (.v (intA new.length)) { σ with h := h })) False
  | none => False
 | _ => False
def wpCopy (T : Tab) (P : Program) (σ : St) (f : FuncId) (types : Array TypeId) (dst src : AV) (K : KS) : Prop :=
 bif T.symN f then
  (match types[0]? with
   | some t => match elemT P t with
    | some e => bif (sizeT P e).any (Nat.beq 1) then
     (match dst with
     | .rsl id off n k => bif Nat.beq k 1 then
      (match src with
       | .sl els _ => iteP (els.all (fun e => Nat.beq e.length 1)) (wpCopyTo σ id off (flatC els n) K) False
       | .rsl id' off' len' k' => bif Nat.beq k' 1 then
        (match σ.h.get id' with
        | some (.cells cs') => iteP (Nat.ble (off' + len') cs'.length) (wpCopyTo σ id off (cutC cs' off' (min n len')) K) False
        | _ => False) else False
       | .sc (.slice none 0 0) => K (.v (intA 0)) σ
       | x => wpRes (evCopy P σ types dst x) K) else False
     | x => (match src with
      | .sl _ _ => False
      | .rsl _ _ _ _ => False
      | y => wpRes (evCopy P σ types x y) K)) else False
    | none => False
   | none => False)
 else wpRes (evCopy P σ types dst src) K
inductive Kd where
 | int (k : IntKind)
 | str
 | bool
 | sl
def kdT (P : Program) : Nat → TypeId → Option (List Kd)
 | 0, _ => none
 | n + 1, t => match P.underlying t with
  | some (.int k) => some [.int k]
  | some .string => some [.str]
  | some .bool => some [.bool]
  | some (.slice _) => some [.sl]
  | some (.struct fs) => (mapO (fun f => kdT P n f.type) fs.toList).map List.flatten
  | some (.array m e) => bif Nat.ble m 64 then (kdT P n e).map (fun l => (List.replicate m l).flatten) else none
  | _ => none
def cellAt (els : List (List AV)) (n : Int) (j : Nat) : Option AV :=
 match getI n.toNat els with
 | some c => getI j c
 | none => none
def cellInt (els : List (List AV)) (n : Int) (j : Nat) : Int :=
 match cellAt els n j with
 | some (.sc (.int _ v)) => v
 | _ => 0
def cellStr (els : List (List AV)) (n : Int) (j : Nat) : List UInt8 :=
 match cellAt els n j with
 | some (.sc (.string s)) => s.data.toList
 | _ => []
def cellBool (els : List (List AV)) (n : Int) (j : Nat) : Bool :=
 match cellAt els n j with
 | some (.sc (.bool b)) => b
 | _ => false
def cellSl (els : List (List AV)) (n : Int) (j : Nat) : List (List AV) :=
 match cellAt els n j with
 | some (.sl e _) => e
 | _ => []
def mkCells (els : List (List AV)) (n : Int) : Nat → List Kd → List AV
 | _, [] => []
 | j, .int k :: r => .sc (.int k (cellInt els n j)) :: mkCells els n (j + 1) r
 | j, .str :: r => .sc (.string ⟨⟨cellStr els n j⟩⟩) :: mkCells els n (j + 1) r
 | j, .bool :: r => .sc (.bool (cellBool els n j)) :: mkCells els n (j + 1) r
 | j, .sl :: r => .sl (cellSl els n j) 0 :: mkCells els n (j + 1) r
def exactAt (T : Tab) (f : FuncId) : Option Nat → Bool
 | some t => T.exact f t
 | none => false
def wpIndexAddr (T : Tab) (P : Program) (f : FuncId) (d : Option Nat) (σ : St) (t : TypeId) (x i : Operand) (K : KS) : Prop :=
 bif exactAt T f d then wpRes (opIndexAddr P σ t x i) K else
 match σ.slot x with
 | some (.v (.sl els _)) => match σ.val i with
  | some (.sc (.int _ n)) => match elemT P t with
   | some e => match sizeT P e with
    | some z => match kdT P (bif T.hv f then 6 else 3) e with
     | some ks => bif Nat.beq (mkCells els n 0 ks).length z then iteP (inRange n els.length) (getI n.toNat els = some (mkCells els n 0 ks) ∧ K (.v (.cp (mkCells els n 0 ks))) σ) False else False
     | none => wpRes (opIndexAddr P σ t x i) K
    | none => False
   | none => False
  | _ => False
 | some (.lp k off) => match σ.val i with
  | some (.sc (.int _ n)) => match arrT P t with
   | some (m, e) => match sizeT P e with
    | some z => wpSel n (fun j => match moveSlot (.lp k off) (j * z) with | some p => K p σ | none => False) m
    | none => False
   | none => False
  | _ => False
 | some (.v (.gp g off)) => match σ.val i with
  | some (.sc (.int _ n)) => match arrT P t with
   | some (m, e) => match sizeT P e with
    | some z => wpSel n (fun j => match moveSlot (.v (.gp g off)) (j * z) with | some p => K p σ | none => False) m
    | none => False
   | none => False
  | _ => False
 | some (.v (.rsl id off len k)) => match σ.val i with
  | some (.sc (.int _ n)) => match elemT P t with
   | some e => match sizeT P e with
    | some z => bif Nat.beq k z then iteP (inRange n len) (K (.v (.ptr id (off + n.toNat * k))) σ) False else False
    | none => False
   | none => False
  | _ => False
 | some (.v (.ptr id off)) => bif T.hv f then (match σ.val i with
  | some (.sc (.int _ n)) => match arrT P t with
   | some (m, e) => match sizeT P e with
    | some z => iteP (inRange n m) (K (.v (.ptr id (off + n.toNat * z))) σ) False
    | none => False
   | none => False
  | _ => False) else wpRes (opIndexAddr P σ t x i) K
 | _ => wpRes (opIndexAddr P σ t x i) K
def lk {α : Type} (a : α) : α := (Classical.choice (⟨⟨a, rfl⟩⟩ : Nonempty { x : α // x = a })).1
theorem lk_eq {α : Type} (a : α) : lk a = a := (Classical.choice (⟨⟨a, rfl⟩⟩ : Nonempty { x : α // x = a })).2
def strFits (a b : List UInt8) : Bool := lk (decide ((a.length : Int) + b.length ≤ 9223372036854775807))
theorem strFits_iff {a b : List UInt8} : (strFits a b = true) = ((a.length : Int) + b.length ≤ 9223372036854775807) := by unfold strFits; rw [lk_eq]; simp
def wpBinStr (σ : St) (op : BinOp) (a b : List UInt8) (K : KS) : Prop :=
 match op with
 | .add => iteP (strFits a b) (K (.v (.sc (.string ⟨⟨a ++ b⟩⟩))) σ) False
 | .eql => K (.v (.sc (.bool (decide (a = b))))) σ
 | .neq => K (.v (.sc (.bool (decide (a ≠ b))))) σ
 | .lss => K (.v (.sc (.bool (bytesLt a b)))) σ
 | .leq => K (.v (.sc (.bool (bytesLt a b || decide (a = b))))) σ
 | .gtr => K (.v (.sc (.bool (!(bytesLt a b || decide (a = b)))))) σ
 | .geq => K (.v (.sc (.bool (!bytesLt a b)))) σ
 | _ => False
def wpBinInt (P : Program) (σ : St) (op : BinOp) (t : TypeId) (x y : Operand) (k : IntKind) (m : Int) (k' : IntKind) (n : Int) (K : KS) : Prop :=
 match op with
 | .quo => bif decide (k = k') then iteP (decide (n = 0)) False (K (.v (.sc (.int k (k.wrap (m.tdiv n))))) σ) else False
 | .rem => bif decide (k = k') then iteP (decide (n = 0)) False (K (.v (.sc (.int k (m.tmod n)))) σ) else False
 | _ => wpRes (opBin P σ op t x y) K
def wpBin (P : Program) (σ : St) (op : BinOp) (t : TypeId) (x y : Operand) (K : KS) : Prop :=
 match σ.val x with
 | some (.sc (.string a)) => match σ.val y with
  | some (.sc (.string b)) => wpBinStr σ op a.data.toList b.data.toList K
  | _ => False
 | some (.sc (.int k m)) => match σ.val y with
  | some (.sc (.int k' n)) => wpBinInt P σ op t x y k m k' n K
  | _ => wpRes (opBin P σ op t x y) K
 | _ => wpRes (opBin P σ op t x y) K
def wpConv (C : Cfg) (P : Program) (σ : St) (f : FuncId) (q : Option Nat) (s d : TypeId) (x : Operand) (K : KS) : Prop :=
 match σ.val x with
 | some (.rsl id off len k) => match P.underlying s, P.underlying d with
  | some (.slice e), some .string => bif isU8T P e && Nat.beq k 1 then
    (match σ.h.get id with
     | some (.cells cs) => iteP (endCells (off + len) cs) (K (.v (.sc (.string ⟨⟨(cutC cs off len).map u8B⟩⟩))) σ) False
     | _ => False) else False
  | _, _ => False
 | some (.sl els _) => match P.underlying s, P.underlying d with
  | some (.slice e), some .string => match P.underlying e with
   | some (.int .u8) => iteP (els.all isByteCell) (K (.v (.sc (.string ⟨⟨els.map byteD⟩⟩))) σ) False
   | _ => False
  | _, _ => False
 | some (.sc (.string b)) => match P.underlying s, P.underlying d with
  | some .string, some (.slice e) => match P.underlying e with
   | some (.int .u8) => bif C.is f q 1 then iteP (Nat.ble b.data.toList.length maxRoom) (K (.v (.rsl σ.h.next 0 b.data.toList.length 1)) { σ with h := (σ.h.new (.cells (b.data.toList.map fun b => AV.sc (.int .u8 b.toNat)))).2 }) False
    else bif C.is f q 6 then False else iteP (Nat.ble b.data.toList.length maxRoom) (K (.v (.sl (b.data.toList.map fun b => [.sc (.int .u8 b.toNat)]) (σ.h.next + 1))) { σ with h := (σ.h.new (.own 1 e (b.data.toList.map fun b => [AV.sc (.int .u8 b.toNat)]).length)).2 }) False
   | _ => False
  | _, _ => wpRes (opConv C P σ f q s d x) K
 | _ => wpRes (opConv C P σ f q s d x) K
def wpElems (σ : St) (k : Nat) (x : AV) (K : List (List AV) → Prop) : Prop :=
 match x with
 | .sl els _ => iteP (els.all (fun e => Nat.beq e.length k)) (K els) False
 | .sc (.string s) => bif Nat.beq k 1 then K (s.data.toList.map fun b => [.sc (.int .u8 b.toNat)]) else False
 | x => match σ.elems k x with
  | some els => K els
  | none => False
def wpAppendO (σ : St) (e : TypeId) (i : TypeInfo) (els : List (List AV)) (tok : Nat) (new : List (List AV)) (K : KS) : Prop :=
 iteP (allLen i.size els && fits (els.length + new.length) i.bytes)
  (match tok with
   | 0 => False
   | id + 1 => match σ.h.get id with
    | some (.own k e' n) => bif Nat.beq k i.size && Nat.beq e' e then iteP (decide (els.length = n))
      (match σ.h.put id (.own k e (n + new.length)) with
      | some h => K (.v (.sl (els ++ new) (id + 1))) { σ with h := h }
      | none => False) False else False
    | _ => False) False
def wpAppendS (C : Cfg) (σ : St) (f : FuncId) (d : Option Nat) (e : TypeId) (i : TypeInfo) (s : AV) (new : List (List AV)) (K : KS) : Prop :=
 match s with
 | .sc (.slice none 0 0) => iteP new.isEmpty (K (.v s) σ) (iteP (fits new.length i.bytes) (K (.v (σ.newSlice C f d i.size e new).1) (σ.newSlice C f d i.size e new).2) False)
 | .sl els tok => iteP new.isEmpty (K (.v s) σ) (wpAppendO σ e i els tok new K)
 | s => wpRes (appendS C σ f d e i s new) K
def wpAppend (C : Cfg) (P : Program) (σ : St) (f : FuncId) (d : Option Nat) (types : Array TypeId) (s x : AV) (K : KS) : Prop :=
 match types[0]?, types[1]? with
 | some t, some u => bif isRowT P u then
  (match elemT P t with
   | some e => match P.info? e with
    | some i => bif Nat.beq i.size 0 then False else
     wpElems σ i.size x fun new =>
      iteP (new.all (fun e => e.all AV.one)) (bif (zeroA P e).any (fun z => Nat.beq z.cells.length i.size) then wpAppendS C σ f d e i s new K else False) False
    | none => False
   | none => False) else False
 | _, _ => False
def isOwn (h : Heap) (id k e n : Nat) : Bool :=
 match h.get id with
 | some (.own k' e' n') => Nat.beq k' k && (Nat.beq e' e && (Nat.beq n n' && Nat.ble h.ro id))
 | _ => false
def growH (h : Heap) (id k e n : Nat) : Heap :=
 match h.put id (.own k e n) with
 | some h' => h'
 | none => h
def wpAppendOG (σ : St) (e : TypeId) (i : TypeInfo) (els : List (List AV)) (tok : Nat) (new : List (List AV)) (K : KS) : Prop :=
 iteP (allLen i.size els && fits (els.length + new.length) i.bytes)
  (match tok with
   | 0 => False
   | id + 1 => iteP (isOwn σ.h id i.size e els.length) (K (.v (.sl (els ++ new) (id + 1))) { σ with h := growH σ.h id i.size e (els.length + new.length) }) False) False
def newOwnL (h : Heap) (k e n : Nat) : Heap := lk (h.new (.own k e n)).2
def wpAppendSG (C : Cfg) (σ : St) (f : FuncId) (d : Option Nat) (e : TypeId) (i : TypeInfo) (s : AV) (new : List (List AV)) (K : KS) : Prop :=
 match s with
 | .sc (.slice none 0 0) => iteP new.isEmpty (K (.v s) σ) (iteP (fits new.length i.bytes)
   (bif C.is f d 1 || C.is f d 6 then False else K (.v (.sl new (σ.h.next + 1))) { σ with h := newOwnL σ.h i.size e new.length }) False)
 | .sl els tok => iteP new.isEmpty (K (.v s) σ) (wpAppendOG σ e i els tok new K)
 | s => wpRes (appendS C σ f d e i s new) K
def wpAppendG (C : Cfg) (P : Program) (σ : St) (f : FuncId) (d : Option Nat) (types : Array TypeId) (s x : AV) (K : KS) : Prop :=
 match types[0]?, types[1]? with
 | some t, some u => bif isRowT P u then
  (match elemT P t with
   | some e => match P.info? e with
    | some i => bif Nat.beq i.size 0 then False else
     wpElems σ i.size x fun new =>
      iteP (new.all (fun e => e.all AV.one)) (bif (zeroA P e).any (fun z => Nat.beq z.cells.length i.size) then wpAppendSG C σ f d e i s new K else False) False
    | none => False
   | none => False) else False
 | _, _ => False
def wpBuiltin (C : Cfg) (P : Program) (σ : St) (f : FuncId) (d : Option Nat) (b : Builtin) (types : Array TypeId) (type : TypeId) (args : List AV) (K : KS) : Prop :=
 match b with
 | .append => match args with
  | [s, x] => wpAppend C P σ f d types s x K
  | _ => False
 | .len => match args with
  | [.sc (.string s)] => match types[0]? with
   | some t => bif isStringT P t then K (.v (intA s.data.toList.length)) σ else False
   | none => False
  | [.sl els _] => match types[0]? with
   | some t => match elemT P t with
    | some _ => K (.v (intA els.length)) σ
    | none => False
   | none => False
  | _ => wpRes (evBuiltin C P σ f d .len types type args) K
 | .min => match args with
  | [.sc (.int k x), .sc (.int _ y)] => K (.v (.sc (.int k (min x y)))) σ
  | _ => wpRes (evBuiltin C P σ f d .min types type args) K
 | .max => match args with
  | [.sc (.int k x), .sc (.int _ y)] => K (.v (.sc (.int k (max x y)))) σ
  | _ => wpRes (evBuiltin C P σ f d .max types type args) K
 | b => wpRes (evBuiltin C P σ f d b types type args) K
def wpStrip (n : Nat) : AV → (AV → Prop) → Prop :=
 Nat.rec (motive := fun _ => AV → (AV → Prop) → Prop)
  (fun v K => match v with
   | .sc v => K (.sc v)
   | .sl els 0 => K (.sl els 0)
   | _ => False)
  (fun _ ih v K => match v with
   | .sc v => K (.sc v)
   | .sl els 0 => K (.sl els 0)
   | .sl els (_ + 1) => iteP (plainEls els) (K (.sl els 0)) False
   | .agg cs => List.rec (motive := fun _ => (List AV → Prop) → Prop) (fun k => k []) (fun x _ ihl k => ih x fun y => ihl fun l => k (y :: l)) cs fun l => K (.agg l)
   | .tup cs => List.rec (motive := fun _ => (List AV → Prop) → Prop) (fun k => k []) (fun x _ ihl k => ih x fun y => ihl fun l => k (y :: l)) cs fun l => K (.tup l)
   | .ifc t v => ih v fun y => K (.ifc t y)
   | .fn f a b => List.rec (motive := fun _ => (List AV → Prop) → Prop) (fun k => k []) (fun x _ ihl k => ih x fun y => ihl fun l => k (y :: l)) a fun l =>
     List.rec (motive := fun _ => (List AV → Prop) → Prop) (fun k => k []) (fun x _ ihl k => ih x fun y => ihl fun l => k (y :: l)) b fun m => K (.fn f l m)
   | _ => False) n
def wpStrips (l : List AV) (K : List AV → Prop) : Prop :=
 List.rec (motive := fun _ => (List AV → Prop) → Prop) (fun k => k []) (fun x _ ihl k => wpStrip 8 x fun y => ihl fun l => k (y :: l)) l K
def wpBack (h : Heap) (r : AV) (K : AV → Prop) : Prop :=
 match r with
 | .rsl id off len k => match strip 8 h (.rsl id off len k) with
  | some y => K y
  | none => False
 | r => wpStrip 8 r K
def wpDeepA (l : List AV) (K : List AV → Prop) : Prop :=
 match mapO (stripA 8) l with
 | some m => K m
 | none => False
def wpDeepB (h : Heap) (r : AV) (K : AV → Prop) : Prop :=
 match strip 8 h r with
 | some y => K y
 | none => False
abbrev CallW := FuncId → List AV → Heap → (AV → Heap → Prop) → Prop
def wpCallP (T : Tab) (C : Cfg) (call : CallW) (g : FuncId) (args : List AV) (h : Heap) (K : AV → Heap → Prop) : Prop :=
 match T.call g with
 | some t => match t args h with
  | some s => s.pre ∧ wpCAlts s.alts K
  | none => False
 | none => match C.prim g with
  | some p => match p args h with
   | some (v, h') => K v h'
   | none => False
  | none => bif C.fresh g then (bif T.deep g then wpDeepA args fun args' => call g args' heapF fun r h' => wpDeepB h' r fun r' => K r' h
    else wpStrips args fun args' => call g args' heapF fun r h' => wpBack h' r fun r' => K r' h)
   else bif C.imp g then (match impA args h with
    | some (args', h1) => call g args' h1 fun r h' => bif T.deep g then wpDeepB h' r fun r' => K r' h else wpBack h' r fun r' => K r' h
    | none => False)
   else bif C.pure g then call g args { h with ro := h.next } fun r h' => wpBack h' r fun r' => K r' h
   else call g args h K
def wpCallV (T : Tab) (C : Cfg) (call : CallW) (σ : St) (x : Operand) (args : List AV) (K : KS) : Prop :=
 match σ.val x with
 | some (.fn (.func g) first cap) => wpCallP T C call g (first ++ args ++ cap) σ.h fun v h => K (.v v) { σ with h := h }
 | _ => False
def wpCallM (T : Tab) (C : Cfg) (P : Program) (call : CallW) (σ : St) (x : Operand) (name : String) (args : List AV) (K : KS) : Prop :=
 match σ.val x with
 | some (.ifc t v) => match evMethod P t v name with
  | some (g, r) => wpCallP T C call g (r :: args) σ.h fun v h => K (.v v) { σ with h := h }
  | none => False
 | _ => False
def wpOpCall (T : Tab) (C : Cfg) (P : Program) (call : CallW) (f : FuncId) (d : Option Nat) (type : TypeId) (c : Call) (σ : St) (K : KS) : Prop :=
 match mapO σ.val c.args.toList with
 | none => False
 | some args => match c.callee with
  | .builtin b => match b with
   | .copy => match args with
    | [s, x] => wpCopy T P σ f c.argTypes s x K
    | _ => False
   | .append => bif T.symN f then
     (match args with
      | [s, x] => wpAppendG C P σ f d c.argTypes s x K
      | _ => False) else wpBuiltin C P σ f d .append c.argTypes type args K
   | b => wpBuiltin C P σ f d b c.argTypes type args K
  | .value x => bif C.is f d 8 && !quietCal C σ x then False else wpCallV T C call σ x args K
  | .invoke x name => wpCallM T C P call σ x name args K
end
end Go.Ef
