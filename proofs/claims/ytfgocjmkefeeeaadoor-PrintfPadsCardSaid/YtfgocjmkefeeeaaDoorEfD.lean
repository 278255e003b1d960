/- The evaluator is sound: bodies, calls, laws; more fuel gives the same answer. -/
import Derived.Test.YtfgocjmkefeeeaaDoorEfC
import Derived.Orders
import Derived.LoopN
import Derived.Below
import Derived.DataReads
import GoSem.ClaimChange
/- A region that draws its order ends as the text's order does. -/
namespace Go.Ef
open Go
noncomputable section

def evIx (C : Cfg) (P : Program) (call : CallF) (f : FuncId) (ops : Array Oper) : List Nat → St → Option St
  | [], σ => some σ
  | i :: r, σ => match ops[i]? with
    | some o => thenO (evStep C P call f ops o σ) (evIx C P call f ops r)
    | none => none

section
variable {C : Cfg} {P : Program} {call : CallF} {f : FuncId} {ops : Array Oper}

theorem evIx_ops : ∀ (l : List Oper) (k : Nat) (σ : St), (∀ j, j < l.length → l[j]? = ops[k + j]?) → evIx C P call f ops (List.range' k l.length) σ = evOps C P call f ops l σ := by
  intro l
  induction l with
  | nil => intro k σ _; rfl
  | cons o l ih =>
    intro k σ h
    have h0 := h 0 (by simp)
    simp only [List.getElem?_cons_zero, Nat.add_zero] at h0
    rw [List.length_cons, List.range'_succ, evOps_cons]
    simp only [evIx]
    rw [← h0]
    simp only []
    have : evIx C P call f ops (List.range' (k + 1) l.length) = evOps C P call f ops l := by
      funext τ
      exact ih (k + 1) τ fun j hj => by
        have := h (j + 1) (by simp; omega)
        rw [List.getElem?_cons_succ] at this
        rw [this, show k + (j + 1) = k + 1 + j by omega]
    rw [this]

theorem evIx_range (σ : St) : evIx C P call f ops (List.range ops.size) σ = evOps C P call f ops ops.toList σ := by
  rw [List.range_eq_range', show ops.size = ops.toList.length by simp]
  exact evIx_ops ops.toList 0 σ fun j _ => by simp

theorem front {i : Nat} {y : Oper} (hi : ops[i]? = some y) {post : List Nat} : ∀ (pre : List Nat) (σ σ' : St), (∀ j ∈ pre, ∃ x, ops[j]? = some x ∧ apartOps C P f ops x y = true) → evIx C P call f ops (pre ++ i :: post) σ = some σ' →
    ∃ σ3, evStep C P call f ops y σ = some σ3 ∧ evIx C P call f ops (pre ++ post) σ3 = some σ' := by
  intro pre
  induction pre with
  | nil =>
    intro σ σ' _ h
    simp only [List.nil_append, evIx] at h
    rw [hi] at h
    exact thenO_some h
  | cons j pre ih =>
    intro σ σ' hp h
    obtain ⟨x, hj, ha⟩ := hp j (by simp)
    simp only [List.cons_append, evIx] at h
    rw [hj] at h
    obtain ⟨σ1, h1, h2⟩ := thenO_some h
    obtain ⟨σ2, h3, h4⟩ := ih σ1 σ' (fun k hk => hp k (by simp [hk])) h2
    obtain ⟨σ3, h5, h6⟩ := swap ha h1 h3
    refine ⟨σ3, h5, ?_⟩
    simp only [List.cons_append, evIx]
    rw [hj]
    simp only []
    rw [h6]
    exact h4

/- What regOk says. -/
theorem rowOk_spec {y : Oper} {m : Nat} : ∀ (l : List Oper) (k : Nat), rowOk C P f ops y m l k = true → ∀ (d : Nat) (x : Oper), l[d]? = some x → Nat.testBit m (k + d) = true ∨ apartOps C P f ops x y = true := by
  intro l
  induction l with
  | nil => intro k _ d x h; simp at h
  | cons o l ih =>
    intro k h d x hd
    simp only [rowOk, Bool.and_eq_true, Bool.or_eq_true] at h
    cases d with
    | zero => simp at hd; subst hd; exact h.1
    | succ d =>
      rw [List.getElem?_cons_succ] at hd
      have := ih (k + 1) h.2 d x hd
      rwa [show k + 1 + d = k + (d + 1) by omega] at this
theorem rowsOk_spec : ∀ (l : List Oper) (ms : List Nat) (k : Nat), rowsOk C P f ops l ms k = true → ∀ (d : Nat) (y : Oper), l[d]? = some y →
    ∃ m, ms[d]? = some m ∧ (∀ (j : Nat) (x : Oper), j < k + d → ops[j]? = some x → Nat.testBit m j = true ∨ apartOps C P f ops x y = true) ∧ ∀ e ∈ y.after, Region.binds .any e = true → e.on < k + d := by
  intro l
  induction l with
  | nil => intro ms k _ d x h; simp at h
  | cons o l ih =>
    intro ms k h d y hd
    cases ms with
    | nil => cases h
    | cons m ms =>
      simp only [rowsOk, Bool.and_eq_true] at h
      obtain ⟨⟨h1, h2⟩, h3⟩ := h
      cases d with
      | zero =>
        simp at hd; subst hd
        refine ⟨m, rfl, fun j x hj hx => ?_, fun e he hb => ?_⟩
        · have := rowOk_spec (ops.toList.take k) 0 h1 j x (by rw [List.getElem?_take]; simp at hj; simp [hj, hx])
          simpa using this
        · have := Array.all_eq_true'.1 h2 e he
          simp only [hb, Bool.not_true, Bool.false_or] at this
          exact Nat.le_of_ble_eq_true this
      | succ d =>
        rw [List.getElem?_cons_succ] at hd
        obtain ⟨m', g1, g2, g3⟩ := ih ms (k + 1) h3 d y hd
        refine ⟨m', by simpa using g1, fun j x hj hx => g2 j x (by omega) hx, fun e he hb => ?_⟩
        have := g3 e he hb; omega

theorem fold_bits (acc : List Nat) : ∀ (l : List Edge) (s k : Nat), Nat.testBit (l.foldl (fun s e => bif Region.binds .any e then Nat.lor (Nat.lor s (Nat.pow 2 e.on)) ((acc[e.on]?).getD 0) else s) s) k = true →
    Nat.testBit s k = true ∨ ∃ e ∈ l, Region.binds .any e = true ∧ (k = e.on ∨ Nat.testBit ((acc[e.on]?).getD 0) k = true) := by
  intro l
  induction l with
  | nil => intro s k h; exact .inl h
  | cons e l ih =>
    intro s k h
    rw [List.foldl_cons] at h
    rcases ih _ k h with h1 | ⟨e', he, hb, h2⟩
    · cases hb : Region.binds .any e with
      | false => rw [hb] at h1; exact .inl h1
      | true =>
        rw [hb] at h1
        simp only [cond_true] at h1
        have h1 : ((s ||| 2 ^ e.on) ||| ((acc[e.on]?).getD 0)).testBit k = true := h1
        rw [Nat.testBit_or, Nat.testBit_or, Nat.testBit_two_pow] at h1
        simp only [Bool.or_eq_true, decide_eq_true_eq] at h1
        rcases h1 with (h1 | h1) | h1
        · exact .inl h1
        · exact .inr ⟨e, by simp, hb, .inl h1.symm⟩
        · exact .inr ⟨e, by simp, hb, .inr h1⟩
    · exact .inr ⟨e', by simp [he], hb, h2⟩
theorem maskOf_bits {acc : List Nat} {o : Oper} {k : Nat} (h : Nat.testBit (maskOf acc o) k = true) : ∃ e ∈ o.after, Region.binds .any e = true ∧ (k = e.on ∨ ∃ m, acc[e.on]? = some m ∧ Nat.testBit m k = true) := by
  rcases fold_bits acc o.after.toList 0 k h with h | ⟨e, he, hb, h⟩
  · simp at h
  · refine ⟨e, by simpa using he, hb, ?_⟩
    rcases h with h | h
    · exact .inl h
    · cases hm : acc[e.on]? with
      | none => rw [hm] at h; simp at h
      | some m => rw [hm] at h; exact .inr ⟨m, rfl, h⟩

theorem masks_pre : ∀ (l : List Oper) (acc : List Nat), acc <+: masks l acc := by
  intro l
  induction l with
  | nil => intro acc; exact List.prefix_refl _
  | cons o l ih => intro acc; exact (List.prefix_append acc [maskOf acc o]).trans (ih (acc ++ [maskOf acc o]))
theorem masks_at : ∀ (l : List Oper) (acc : List Nat) (d : Nat) (o : Oper), l[d]? = some o → ∃ acc', acc' <+: masks l acc ∧ (masks l acc)[acc.length + d]? = some (maskOf acc' o) := by
  intro l
  induction l with
  | nil => intro acc d o h; simp at h
  | cons o l ih =>
    intro acc d x h
    cases d with
    | zero =>
      simp at h; subst h
      refine ⟨acc, masks_pre (o :: l) acc, ?_⟩
      obtain ⟨r, hr⟩ := masks_pre l (acc ++ [maskOf acc o])
      show (masks l (acc ++ [maskOf acc o]))[acc.length + 0]? = _
      rw [← hr]; simp
    | succ d =>
      rw [List.getElem?_cons_succ] at h
      obtain ⟨acc', h1, h2⟩ := ih (acc ++ [maskOf acc o]) d x h
      refine ⟨acc', h1, ?_⟩
      rw [List.length_append, List.length_singleton] at h2
      rwa [show acc.length + (d + 1) = acc.length + 1 + d by omega]
theorem prefix_get {l l' : List Nat} (h : l <+: l') {i m : Nat} (hi : l[i]? = some m) : l'[i]? = some m := by
  obtain ⟨r, rfl⟩ := h
  rw [List.getElem?_append_left (lt_of_get? hi)]; exact hi

/- Every bit of a mask is an edge, or a bit of an edge's mask. -/
theorem mask_bit {i : Nat} {o : Oper} {m k : Nat} (ho : ops[i]? = some o) (hm : (masks ops.toList [])[i]? = some m) (hb : Nat.testBit m k = true) :
    ∃ e ∈ o.after, Region.binds .any e = true ∧ (k = e.on ∨ ∃ m', (masks ops.toList [])[e.on]? = some m' ∧ Nat.testBit m' k = true) := by
  obtain ⟨acc', h1, h2⟩ := masks_at ops.toList [] i o (by simpa using ho)
  simp only [List.length_nil, Nat.zero_add] at h2
  rw [hm] at h2; cases h2
  obtain ⟨e, he, hbe, h⟩ := maskOf_bits hb
  refine ⟨e, he, hbe, ?_⟩
  rcases h with h | ⟨m', h3, h4⟩
  · exact .inl h
  · exact .inr ⟨m', prefix_get h1 h3, h4⟩

end
end
end Go.Ef

/- Regions that draw their order. -/
namespace Go.Ef
open Go
noncomputable section

theorem ready_mem {md : Region.Mode} {ops : Array Oper} {listed : Array Bool} {i : Nat} (h : i ∈ Region.ready md ops listed) :
    i < ops.size ∧ listed.getD i true = false ∧ ∃ o, ops[i]? = some o ∧ ∀ e ∈ o.after, Region.binds md e = true → listed.getD e.on false = true := by
  unfold Region.ready at h
  simp only [List.mem_filter, List.mem_range, Bool.and_eq_true, Bool.not_eq_true'] at h
  obtain ⟨h1, h2, h3⟩ := h
  refine ⟨h1, h2, ops[i], by simp [h1], fun e he hb => ?_⟩
  rw [Array.getElem?_eq_getElem h1] at h3
  simp only [Option.map_some, Option.getD_some] at h3
  have := Array.all_eq_true'.1 h3 e he
  simpa [hb] using this
theorem mem_ready {md : Region.Mode} {ops : Array Oper} {listed : Array Bool} {i : Nat} {o : Oper} (h2 : listed.getD i true = false) (ho : ops[i]? = some o) (h : ∀ e ∈ o.after, Region.binds md e = true → listed.getD e.on false = true) : i ∈ Region.ready md ops listed := by
  have h1 : i < ops.size := by
    rcases Nat.lt_or_ge i ops.size with h' | h'
    · exact h'
    · simp [Array.getElem?_eq_none h'] at ho
  unfold Region.ready
  simp only [List.mem_filter, List.mem_range, Bool.and_eq_true, Bool.not_eq_true']
  refine ⟨h1, h2, ?_⟩
  rw [ho]
  simp only [Option.map_some, Option.getD_some]
  rw [Array.all_eq_true']
  intro e he
  cases hb : Region.binds md e with
  | false => rfl
  | true => simpa using h e he hb
theorem setListed {l : Array Bool} {i j : Nat} {d : Bool} : (l.setIfInBounds i true).getD j d = if i = j ∧ j < l.size then true else l.getD j d := by
  rw [Array.getD_eq_getD_getElem?, Array.getD_eq_getD_getElem?, Array.getElem?_setIfInBounds]
  by_cases h : i = j
  · subst h
    by_cases h' : i < l.size <;> simp [h']
  · simp [h]

section
variable {C : Cfg} {P : Program} {E : Ent} {call : CallF} {f : FuncId} {ops : Array Oper}

structure Inv (ops : Array Oper) (rest : List Nat) (listed : Array Bool) : Prop where
  sz : listed.size = ops.size
  sort : rest.Pairwise (· < ·)
  mem : ∀ j, j ∈ rest ↔ j < ops.size ∧ listed.getD j true = false
  down : ∀ (j m : Nat), listed.getD j false = true → (masks ops.toList [])[j]? = some m → ∀ k, Nat.testBit m k = true → listed.getD k false = true

theorem getD_flip {l : Array Bool} {j : Nat} (h : j < l.size) : l.getD j true = l.getD j false := by
  simp [Array.getD_eq_getD_getElem?, h]

theorem any_ok (S : Sane P C) (K : CallOk P C call) (B : Bodied P call) (hr : regOk C P f ops = true) {σ' : St} {Q : Exit → Act → World → Prop} (hq : ∀ L' μ' a' w', Rel C E L' μ' σ' a' w' → Q .normal a' w') :
    ∀ (fuel : Nat) (rest : List Nat) (listed : Array Bool) (L : List Nat) (μ : M) (σ : St) (a : Act) (w : World), rest.length = fuel → Inv ops rest listed → Rel C E L μ σ a w → evIx C P call f ops rest σ = some σ' → wpAny P .any ops Q fuel listed a w := by
  intro fuel
  induction fuel with
  | zero =>
    intro rest listed L μ σ a w hl I R h
    have : rest = [] := List.eq_nil_of_length_eq_zero hl
    subst this
    simp only [evIx] at h; cases h
    refine ⟨?_, hq L μ a w R⟩
    apply List.eq_nil_iff_forall_not_mem.2
    intro i hi
    obtain ⟨h1, h2, _⟩ := ready_mem hi
    have := (I.mem i).2 ⟨h1, h2⟩
    simp at this
  | succ fuel ih =>
    intro rest listed L μ σ a w hl I R h
    refine ⟨fun hnil => ?_, fun i hi => ?_⟩
    · cases rest with
      | nil => simp at hl
      | cons i rest =>
        exfalso
        obtain ⟨h1, h2⟩ := (I.mem i).1 (by simp)
        have ho : ops[i]? = some ops[i] := by simp [h1]
        obtain ⟨m, _, _, hb⟩ := rowsOk_spec _ _ 0 hr i ops[i] (by simp)
        have : i ∈ Region.ready .any ops listed := by
          refine mem_ready h2 ho fun e he hbe => ?_
          have hlt := hb e he hbe
          simp only [Nat.zero_add] at hlt
          cases hx : listed.getD e.on false with
          | true => rfl
          | false =>
            exfalso
            have hsz : e.on < listed.size := by rw [I.sz]; omega
            have hm := (I.mem e.on).2 ⟨by omega, by rw [getD_flip hsz]; exact hx⟩
            rcases List.mem_cons.1 hm with e1 | e1
            · omega
            · have := List.rel_of_pairwise_cons I.sort e1
              omega
        rw [hnil] at this
        simp at this
    · obtain ⟨h1, h2, o, ho, hedge⟩ := ready_mem hi
      have hin := (I.mem i).2 ⟨h1, h2⟩
      obtain ⟨pre, post, rfl⟩ := List.append_of_mem hin
      obtain ⟨m, hm, hap, _⟩ := rowsOk_spec _ _ 0 hr i o (by simpa using ho)
      have hbits : ∀ k, Nat.testBit m k = true → listed.getD k false = true := by
        intro k hk
        obtain ⟨e, he, hbe, hor⟩ := mask_bit ho hm hk
        have hle := hedge e he hbe
        rcases hor with rfl | ⟨m', hm', hk'⟩
        · exact hle
        · exact I.down e.on m' hle hm' k hk'
      have hsorted := I.sort
      rw [List.pairwise_append] at hsorted
      obtain ⟨hs1, hs2, hs3⟩ := hsorted
      obtain ⟨σ3, h3, h4⟩ := front ho pre σ σ' (fun j hj => by
        have hji : j < i := hs3 j hj i (by simp)
        have hjo : ops[j]? = some ops[j] := by simp [Nat.lt_trans hji h1]
        refine ⟨_, hjo, ?_⟩
        rcases hap j ops[j] (by omega) hjo with hb | hb
        · have hl := hbits j hb
          have := ((I.mem j).1 (by simp [hj])).2
          rw [getD_flip (by rw [I.sz]; omega), hl] at this
          cases this
        · exact hb) h
      refine step_ok R S K B ho h3 fun L' μ' a' w' R' => ?_
      refine ih (pre ++ post) _ L' μ' σ3 a' w' (by simp at hl ⊢; omega) ⟨?_, ?_, ?_, ?_⟩ R' h4
      · simp [I.sz]
      · rw [List.pairwise_append]
        exact ⟨hs1, (List.pairwise_cons.1 hs2).2, fun x hx y hy => hs3 x hx y (by simp [hy])⟩
      · intro j
        rw [setListed]
        have hmem := I.mem j
        by_cases e : i = j
        · subst e
          simp only [I.sz, h1, and_self, if_true]
          refine ⟨fun hj => ?_, fun hj => by simp at hj⟩
          exfalso
          rcases List.mem_append.1 hj with hj | hj
          · exact absurd (hs3 i hj i (by simp)) (by omega)
          · exact absurd ((List.pairwise_cons.1 hs2).1 i hj) (by omega)
        · rw [if_neg (fun q => e q.1), ← hmem]
          simp only [List.mem_append, List.mem_cons]
          exact ⟨fun q => q.elim .inl (fun q => .inr (.inr q)), fun q => q.elim .inl (fun q => q.elim (fun q => absurd q.symm e) .inr)⟩
      · intro j m' hj hm' k hk
        rw [setListed] at hj ⊢
        split
        · rfl
        · split at hj
          · rename_i e
            obtain ⟨rfl, _⟩ := e
            rw [hm] at hm'; cases hm'
            exact hbits k hk
          · exact I.down j m' hj hm' k hk

theorem Rel.drawn {L : List Nat} {μ : M} {σ : St} {a : Act} {w : World} (R : Rel C E L μ σ a w) (n : Nat) : Rel C E L μ σ a { w with drawn := n } where
  world := {
    imm := R.world.imm
    cells := fun id cs h => let ⟨b, base, sz, h1, h2, h3⟩ := R.world.cells id cs h; ⟨b, base, sz, h1, h2.keep (.refl _) rfl, h3⟩
    own := fun id k t n h => let ⟨b, e, r, h1, h2⟩ := R.world.own id k t n h; ⟨b, e, r, h1, ⟨h2.shape, h2.free, h2.imm⟩⟩
    map := fun id es h => let ⟨b, h1, h2, h3⟩ := R.world.map id es h; ⟨b, h1, ⟨h2.map⟩, h3⟩
    apart := R.world.apart
    next := R.world.next
    ro := R.world.ro
    pos := R.world.pos
    zero := R.world.zero
    fresh := R.world.fresh
    glob := R.world.glob
    ty := R.world.ty }
  ext := ⟨R.ext.le, R.ext.os, R.ext.tape, R.ext.output, R.ext.size, R.ext.ro, R.ext.next, R.ext.frame, R.ext.came, R.ext.imm⟩
  n := R.n
  tm := R.tm
  defers := R.defers
  len := R.len
  loc := fun k b o h1 h2 => let ⟨h3, h4⟩ := R.loc k b o h1 h2; ⟨h3.keep (.refl _) rfl, h4⟩
  nodup := R.nodup

theorem draw_ok {L : List Nat} {μ : M} {σ : St} {a : Act} {w : World} (R : Rel C E L μ σ a w) {id : Nat} (S : Sane P C) (K : CallOk P C call) (B : Bodied P call) (hm : P.follows .mixedOrders = true) (hr : regOk C P f ops = true) {σ' : St} (h : evOps C P call f ops ops.toList σ = some σ')
    {Q : Exit → Act → World → Prop} (hq : ∀ L' μ' a' w', Rel C E L' μ' σ' a' w' → Q .normal a' w') : (Code.region id ops true).wp P Q a w := by
  refine wp_region_any hm (any_ok S K B hr hq ops.size (List.range ops.size) _ L μ σ a _ (by simp) ⟨by simp, List.pairwise_lt_range, fun j => ?_, fun j m hj => ?_⟩ (R.drawn _) ((evIx_range σ).trans h))
  · rw [List.mem_range]
    constructor
    · intro h'; exact ⟨h', by simp [Array.getD_eq_getD_getElem?, h']⟩
    · exact fun h' => h'.1
  · exfalso
    rw [Array.getD_eq_getD_getElem?, Array.getElem?_replicate] at hj
    split at hj <;> simp at hj

end
end
end Go.Ef

/- Bodies and calls: what is evaluated is what the program does. -/
namespace Go.Ef
open Go
noncomputable section

structure Fit (P : Program) (C : Cfg) : Prop where
  sane : Sane P C
  mixed : P.follows .mixedOrders = true
  regs : ∀ (f : FuncId) (fn : Func) (c : Code), P.funcs[f]? = some fn → fn.body = some c → codeOk C P f c = true

def exOf : Ex → Exit
  | .normal => .normal
  | .exit i => .exit i
  | .ret => .ret

def RunOk (P : Program) (C : Cfg) (n : Nat) (run : Run) : Prop :=
  ∀ f c σ e σ', run f c σ = some (e, σ') → codeOk C P f c = true → ∀ E L μ a w Q, Rel C E L μ σ a w → (∀ L' μ' a' w', Rel C E L' μ' σ' a' w' → Q (exOf e) a' w') →
    c.wp P Q a w ∧ ∀ b, c = .loop b → Code.rounds P b Q n a w

theorem argTr_get : ∀ (l : List AV) (i : Nat) (t : Tr Slot) (k : Nat), (argTr i l t).get k = if i ≤ k ∧ k < i + l.length then (l[k - i]?).map .v else t.get k := by
  intro l
  induction l with
  | nil => intro i t k; simp only [argTr, List.length_nil]; rw [if_neg (by omega)]
  | cons x l ih =>
    intro i t k
    simp only [argTr, List.length_cons]
    rw [ih, Tr.get_set]
    by_cases h : k = i
    · subst h
      rw [if_neg (by omega), if_pos rfl, if_pos (by omega)]; simp
    · by_cases h2 : i + 1 ≤ k ∧ k < i + 1 + l.length
      · rw [if_pos h2, if_pos (by omega), show k - i = (k - (i + 1)) + 1 by omega]; simp
      · rw [if_neg h2, if_neg (fun e => h e.symm), if_neg (by omega)]

section
variable {P : Program} {C : Cfg}

theorem keepTm_get (σ : St) (m : Nat) : ∀ (l : List Nat) (t : Nat), (keepTm σ m l).get t = if t ∈ l then some ((σ.at t).keep m) else none := by
  intro l
  induction l with
  | nil => intro t; simp [keepTm, Tr.get_leaf]
  | cons x l ih =>
    intro t
    show ((keepTm σ m l).set x ((σ.at x).keep m)).get t = _
    rw [Tr.get_set]
    by_cases h : x = t
    · subst h; simp
    · rw [if_neg h, ih]
      have : t ≠ x := fun e => h e.symm
      simp [this]

theorem tidy_rel {E : Ent} {L : List Nat} {μ : M} {σ : St} {a : Act} {w : World} (R : Rel C E L μ σ a w) (l : List Nat) (m : Nat) : Rel C E (L.take m) μ (σ.tidy l m) a w where
  world := R.world
  ext := R.ext
  n := R.n
  tm := by
    intro t ht
    have h0 := R.tm t ht
    have hat : (σ.tm.get t).getD σ.d = σ.at t := by unfold St.at; cases σ.tm.get t <;> rfl
    rw [hat] at h0
    show SlotRel (L.take m) μ (((keepTm σ m l).get t).getD .unk) _
    rw [keepTm_get]
    by_cases h : t ∈ l
    · rw [if_pos h, Option.getD_some]
      cases hs : σ.at t with
      | unk => trivial
      | v a => rw [hs] at h0; exact h0
      | lp k off =>
        rw [hs] at h0
        obtain ⟨b, h1, h2⟩ := h0
        simp only [Slot.keep]
        cases hb : Nat.blt k m with
        | false => trivial
        | true =>
          have hk : k < m := Nat.le_of_ble_eq_true hb
          exact ⟨b, by rw [List.getElem?_take, if_pos hk]; exact h1, h2⟩
    · rw [if_neg h]; trivial
  defers := R.defers
  len := by
    show (L.take m).length = (σ.loc.take m).length
    simp [R.len]
  loc := by
    intro k b o hk ho
    rw [List.getElem?_take] at hk
    replace ho : (σ.loc.take m)[k]? = some o := ho
    rw [List.getElem?_take] at ho
    split at hk
    · rename_i hlt
      rw [if_pos hlt] at ho
      exact R.loc k b o hk ho
    · cases hk
  nodup := by
    intro i j b hi hj
    rw [List.getElem?_take] at hi hj
    split at hi
    · split at hj
      · exact R.nodup i j b hi hj
      · cases hj
    · cases hi

theorem enter_rel {μ : M} {h : Heap} {w : World} (H : W C μ h w) {args : List AV} {vs : Array Value} (hv : VLs μ args vs) (m : Nat) :
    Rel C ⟨μ, h, w⟩ [] μ { n := args.length + (m - args.length), tm := argTr 0 args .leaf, d := .v (.sc undef), loc := [], h := h } { tmps := vs ++ Array.replicate (m - vs.size) undef, defers := [] } w where
  world := H
  ext := .refl _ _ _
  n := by simp [hv.1]
  tm := by
    intro t ht
    simp only [] at ht ⊢
    rw [argTr_get]
    by_cases h0 : t < args.length
    · rw [if_pos (by omega)]
      have hvs : t < vs.size := by rw [← hv.1]; exact h0
      have := hv.2 t args[t] vs[t] (by simp [h0]) (by simp [hvs])
      rw [Nat.sub_zero, List.getElem?_eq_getElem h0]
      rw [Array.getD_eq_getD_getElem?, Array.getElem?_append_left hvs, Array.getElem?_eq_getElem hvs]
      exact this
    · rw [if_neg (by omega)]
      have hvs : vs.size ≤ t := by rw [← hv.1]; omega
      rw [Array.getD_eq_getD_getElem?, Array.getElem?_append_right hvs, Array.getElem?_replicate]
      rw [if_pos (by rw [← hv.1]; omega)]
      exact .sc rfl
  defers := rfl
  len := rfl
  loc := fun k b o hk => by simp at hk
  nodup := fun i j b hk => by simp at hk

theorem callWith_ok {run : Run} {n : Nat} (F : Fit P C) (H : RunOk P C n run) : CallOk P C (callWith C P run) ∧ Bodied P (callWith C P run) := by
  constructor
  · intro g args h r h' hc μ w vs W0 hv
    unfold callWith at hc
    split at hc
    · rename_i fn hf
      split at hc
      · rename_i c hb
        unfold endOf at hc
        split at hc
        · rename_i e σ' hrun
          refine calls_of_wp hf hb (H g c _ e σ' hrun (F.regs g fn c hf hb) ⟨μ, h, w⟩ [] μ _ w _ (enter_rel W0 hv fn.ntmps) fun L' μ' a' w' R' => ?_).1
          have fin : packR σ' (evResults C P σ' fn.results.toList) = some (r, h') → a'.defers = [] ∧ ∃ v, (results fn a'.tmps).run P w' = .ok v w' ∧ CallEnd C μ h w r h' (.returned v) w' := by
            intro hp
            obtain ⟨v, h1, h2, rfl⟩ := pack_ok (P := P) R' hp
            exact ⟨R'.defers, v, h1, v, μ', rfl, h2, R'.world, R'.ext⟩
          split at hc
          · cases hc
          · cases e with
            | normal => exact fin hc
            | ret => exact fin hc
            | exit i => rename_i hne; exact absurd rfl (hne i)
        · cases hc
      · cases hc
    · cases hc
  · intro g args h r hc
    unfold callWith at hc
    split at hc
    · rename_i fn hf
      split at hc
      · rename_i c hb
        exact ⟨fn, hf, by rw [hb]; rfl⟩
      · cases hc
    · cases hc

theorem code1_ok {run : Run} {n : Nat} (F : Fit P C) (H : RunOk P C n run) : RunOk P C (n + 1) (evCode1 C P run) := by
  intro f c σ e σ' h hok E L μ a w Q R hq
  by_cases hl : ∃ b, c = .loop b
  · obtain ⟨b, rfl⟩ := hl
    have hok' := hok
    simp only [codeOk] at hok'
    have key : Code.rounds P b Q (n + 1) a w := by
      simp only [evCode1] at h
      cases ht : C.tidy f (firstId 8 b) with
      | some t =>
        rw [ht] at h
        simp only [] at h
        unfold evLoop at h
        split at h
        · rename_i e1 σ1 he
          refine (H f b _ e1 σ1 he hok' E _ μ a w _ (tidy_rel R _ _) fun L' μ' a' w' R' => ?_).1
          cases e1 with
          | normal => exact (H f (.loop b) σ1 e σ' h hok E L' μ' a' w' Q R' hq).2 b rfl
          | exit i => cases h; exact hq _ _ _ _ (tidy_rel R' _ _)
          | ret => cases h; exact hq _ _ _ _ (tidy_rel R' _ _)
        · cases h
      | none =>
      rw [ht] at h
      simp only [] at h
      unfold evSeq at h
      split at h
      · rename_i e1 σ1 he
        refine (H f b σ e1 σ1 he hok' E L μ a w _ R fun L' μ' a' w' R' => ?_).1
        split at h
        · exact (H f (.loop b) σ1 e σ' h hok E L' μ' a' w' Q R' hq).2 b rfl
        · rw [he] at h; cases h
          cases e with
          | normal => rename_i hne; exact absurd rfl hne
          | exit i => exact hq _ _ _ _ R'
          | ret => exact hq _ _ _ _ R'
      · cases h
    exact ⟨wp_loop_rounds (n + 1) key, fun b' hb => by cases hb; exact key⟩
  refine ⟨?_, fun b hb => absurd ⟨b, hb⟩ hl⟩
  unfold evCode1 at h
  split at h
  · cases h; exact wp_skip (hq L μ a w R)
  · rename_i id ops draw
    obtain ⟨K, B⟩ := callWith_ok F H
    unfold evReg at h
    cases hd : draw && C.bad f id with
    | true => rw [hd] at h; cases h
    | false =>
      rw [hd] at h
      simp only [cond_false] at h
      split at h
      · rename_i σ1 he
        cases h
        cases draw with
        | false => exact region_ok R F.sane K B he hq
        | true =>
          simp only [Bool.true_and] at hd
          simp only [codeOk, hd, Bool.not_true, Bool.false_or] at hok
          exact draw_ok R F.sane K B F.mixed hok he hq
      · cases h
  · rename_i x y
    simp only [codeOk, Bool.and_eq_true] at hok
    unfold evSeq at h
    split at h
    · rename_i e1 σ1 he
      refine wp_seq (H f x σ e1 σ1 he hok.1 E L μ a w _ R fun L' μ' a' w' R' => ?_).1
      split at h
      · exact (H f y σ1 e σ' h hok.2 E L' μ' a' w' Q R' hq).1
      · rw [he] at h; cases h
        cases e with
        | normal => rename_i hne; exact absurd rfl hne
        | exit i => exact hq _ _ _ _ R'
        | ret => exact hq _ _ _ _ R'
    · cases h
  · rename_i x y z
    simp only [codeOk, Bool.and_eq_true] at hok
    unfold evCond at h
    split at h
    · rename_i t ht
      have hv := V.sc_eq (val_rel R ht)
      refine wp_cond (t := t) hv ?_
      cases t with
      | true => exact (H f y σ e σ' h hok.1 E L μ a w Q R hq).1
      | false => exact (H f z σ e σ' h hok.2 E L μ a w Q R hq).1
    · cases h
  · rename_i id b
    simp only [codeOk] at hok
    unfold evBlk at h
    split at h
    · rename_i e1 σ1 he
      refine wp_block (H f b σ e1 σ1 he hok E L μ a w _ R fun L' μ' a' w' R' => ?_).1
      split at h
      · rename_i i
        cases hb : Nat.beq i id with
        | true =>
          rw [hb] at h; cases h
          have : i = id := Nat.eq_of_beq_eq_true hb
          simp only [exOf, Exit.inBlock, this, if_true]
          exact hq _ _ _ _ R'
        | false =>
          rw [hb] at h; rw [cond_false, he] at h; cases h
          have : i ≠ id := Nat.ne_of_beq_eq_false hb
          simp only [exOf, Exit.inBlock, this, if_false]
          exact hq _ _ _ _ R'
      · rw [he] at h; cases h
        cases e with
        | normal => exact hq _ _ _ _ R'
        | exit i => rename_i hne; exact absurd rfl (hne i)
        | ret => exact hq _ _ _ _ R'
    · cases h
  · rename_i b; exact absurd ⟨b, rfl⟩ hl
  · cases h; exact wp_exit (hq L μ a w R)
  · cases h; exact wp_ret (hq L μ a w R)
  · rename_i b
    simp only [codeOk] at hok
    refine wp_scope_straight (H f b σ e σ' h hok E L μ a w _ R fun L' μ' a' w' R' => ?_).1
    cases e <;> exact hq _ _ _ _ R'
  · cases h; exact wp_label (hq L μ a w R)
  · cases h

theorem code_ok (F : Fit P C) : ∀ n, RunOk P C n (evCode C P n) := by
  intro n
  induction n with
  | zero => intro f c σ e σ' h; cases h
  | succ n ih => exact code1_ok F ih

theorem call_ok (F : Fit P C) (n : Nat) {g : FuncId} {args : List AV} {h : Heap} {r : AV} {h' : Heap} (hc : evCall C P n g args h = some (r, h')) {μ : M} {w : World} {vs : Array Value} (H : W C μ h w) (hv : VLs μ args vs) : Calls P g vs w (CallEnd C μ h w r h') :=
  (callWith_ok F (code_ok F n)).1 g args h r h' hc μ w vs H hv

theorem codeOk_bad {f : FuncId} (h : ∀ id, C.bad f id = true) : ∀ c : Code, codeOk C P f c = true := by
  intro c
  induction c with
  | region id ops draw => simp [codeOk, h]
  | seq a b iha ihb => simp [codeOk, iha, ihb]
  | cond c a b iha ihb => simp [codeOk, iha, ihb]
  | block id b ih => simpa [codeOk] using ih
  | loop b ih => simpa [codeOk] using ih
  | scope b ih => simpa [codeOk] using ih
  | _ => simp [codeOk]

end
end
end Go.Ef

/- From the evaluation to a law: a call in a world that is given. -/
namespace Go.Ef
open Go Go.RowKit
noncomputable section

/- All that lies in the world stays as it is. -/
def imm0 (w : World) : M := { imm := fun b o => w.cell? ⟨b, o, none⟩, rho := fun _ => none, own := fun _ => none }

theorem imm0_bare (w : World) : (imm0 w).bare = imm0 w := rfl

def GlobOk (C : Cfg) (w : World) : Prop := ∀ g cs, C.glob g = some cs → ∀ (i : Nat) (x : AV), cs[i]? = some x → ∃ c, w.cell? ⟨g, i, none⟩ = some c ∧ V (imm0 w) x c

theorem heap0_get (id : Nat) : heap0.get id = none := rfl

theorem start {C : Cfg} {w : World} (hg : GlobOk C w) : W C (imm0 w) heap0 w where
  imm := fun _ _ _ h => h
  cells := fun id cs h => by rw [heap0_get] at h; cases h
  own := fun id k _ _ h => by rw [heap0_get] at h; cases h
  map := fun id es h => by rw [heap0_get] at h; cases h
  apart := fun i j b h => by simp [M.blk, heap0_get] at h
  next := fun id h => absurd (heap0_get id) h
  ro := Nat.zero_le _
  pos := Nat.zero_lt_one
  zero := rfl
  fresh := fun _ _ => ⟨rfl, rfl⟩
  glob := fun g cs h i x hx => hg g cs h i x hx
  ty := fun id t h => by simp [heap0, Tr.get_leaf] at h

theorem ext_below {w w' : World} {μ' : M} {h' : Heap} (X : Ext (imm0 w) heap0 w μ' h' w') : Below w.heap.size w w' :=
  ⟨X.os, X.tape, X.output, X.size, fun k hk => X.frame k hk fun id _ h => by simp [M.blk, heap0_get] at h⟩

theorem law_of_ev {P : Program} {C : Cfg} (F : Fit P C) (n : Nat) {g : FuncId} {args : List AV} {vs : Array Value} {w : World} {h' : Heap} {b : Bool} (hg : GlobOk C w) (hv : VLs (imm0 w) args vs)
    (hc : evCall C P n g args heap0 = some (.sc (.bool b), h')) : Calls P g vs w fun e w' => e = .returned (.bool b) ∧ Below w.heap.size w w' :=
  (call_ok F n hc (start hg) hv).mono fun e w' ⟨v, μ', he, h1, _, X⟩ => by
    cases h1 with
    | sc _ => exact ⟨he, ext_below X⟩

end
end Go.Ef

/- Functions that are taken as known: what is asked of one that changes nothing old. -/
namespace Go.Ef
open Go Go.RowKit
noncomputable section

theorem cell_lt {w : World} {b o : Nat} {v : Value} (h : w.cell? ⟨b, o, none⟩ = some v) : b < w.heap.size := by
  rcases Nat.lt_or_ge b w.heap.size with h' | h'
  · exact h'
  · simp [World.cell?, Array.getElem?_eq_none h'] at h

theorem W.below {C : Cfg} {μ : M} {h : Heap} {w w' : World} (H : W C μ h w) (hb : Below w.heap.size w w') : W C μ h w' where
  imm := fun b o v hv => (cell_of_heap (hb.block b (cell_lt (H.imm b o v hv))) _).trans (H.imm b o v hv)
  cells := fun _ _ hg => H.old_cells (.refl _) hg (fun b hq => hb.block b (H.blk_lt hq)) (fun _ _ _ hp => hp)
  own := fun _ _ _ _ hg => H.old_own hg rfl (fun b hq => hb.block b (H.blk_lt hq)) (fun _ _ _ hp => hp)
  map := fun _ _ hg => H.old_map (.refl _) hg (fun b hq => hb.block b (H.blk_lt hq)) (fun _ _ _ hp => hp)
  apart := H.apart
  next := H.next
  ro := H.ro
  pos := H.pos
  zero := H.zero
  fresh := H.fresh
  glob := H.glob
  ty := H.keepTy rfl (Nat.le_refl _) (.refl _) fun b x hx => by rw [shape_of_heap (hb.block b (shape_lt hx))]; exact hx

theorem callEnd_below {C : Cfg} {μ : M} {h : Heap} {w w' : World} {r : AV} {v : Value} (H : W C μ h w) (hb : Below w.heap.size w w') (hv : V μ r v) : CallEnd C μ h w r h (.returned v) w' :=
  ⟨v, μ, rfl, hv, H.below hb,
    { le := .refl _, os := hb.os, tape := hb.tape, output := hb.output, size := hb.size, ro := rfl, next := Nat.le_refl _, frame := fun b hq _ => hb.block b hq, came := fun id _ hq _ => ⟨id, hq, .inl rfl⟩, imm := fun _ _ _ h0 h1 => absurd h0 h1 }⟩


end
end Go.Ef

/- More fuel, the same answer. -/
namespace Go.Ef
open Go
noncomputable section

def LeF (c c' : CallF) : Prop := ∀ g args h r, c g args h = some r → c' g args h = some r

section
variable {C : Cfg} {P : Program} {c c' : CallF}

theorem callP_le (l : LeF c c') : LeF (callP C c) (callP C c') := by
  intro g args h r hc
  unfold callP at hc ⊢
  split at hc
  · rename_i p hp; exact hc
  · rename_i hp
    cases hfr : C.fresh g with
    | true =>
      rw [hfr] at hc
      simp only [cond_true] at hc ⊢
      split at hc
      · split at hc
        · rename_i r0 h0 hcall
          rw [l _ _ _ _ hcall]
          exact hc
        · cases hc
      · cases hc
    | false =>
      rw [hfr] at hc
      simp only [cond_false] at hc ⊢
      cases hpure : C.pure g with
      | false => rw [hpure] at hc; exact l _ _ _ _ hc
      | true =>
        rw [hpure] at hc
        simp only [cond_true] at hc ⊢
        split at hc
        · rename_i r0 h0 hcall
          rw [l _ _ _ _ hcall]
          exact hc
        · cases hc

theorem back_le (l : LeF c c') {σ : St} {g : FuncId} {args : List AV} {h : Heap} {r : Slot × St} (hb : back σ (c g args h) = some r) : back σ (c' g args h) = some r := by
  cases hq : c g args h with
  | none => rw [hq] at hb; cases hb
  | some v => rw [hq] at hb; rw [l _ _ _ _ hq]; exact hb

theorem op_le (l : LeF c c') {f : FuncId} {o : Oper} {σ : St} {r : Slot × St} (h : evOp C P c f o σ = some r) : evOp C P c' f o σ = some r := by
  cases ho : o.op <;> simp only [evOp, ho] at h ⊢ <;> try exact h
  rename_i k
  unfold opCall at h ⊢
  split at h
  · cases h
  · rename_i args hargs
    split at h
    · exact h
    · rename_i x hx
      unfold callVal at h ⊢
      split at h
      · exact back_le (callP_le l) h
      · cases h
    · rename_i x name hx
      unfold callMeth at h ⊢
      split at h
      · split at h
        · exact back_le (callP_le l) h
        · cases h
      · cases h

theorem step_le (l : LeF c c') {f : FuncId} {ops : Array Oper} {o : Oper} {σ σ' : St} (h : evStep C P c f ops o σ = some σ') : evStep C P c' f ops o σ = some σ' := by
  unfold evStep at h ⊢
  split at h
  · split at h
    · rename_i hop
      rw [op_le l hop]
      exact h
    · cases h
  · exact h
  · cases h
theorem ops_le (l : LeF c c') {f : FuncId} {ops : Array Oper} : ∀ (os : List Oper) (σ σ' : St), evOps C P c f ops os σ = some σ' → evOps C P c' f ops os σ = some σ' := by
  intro os
  induction os with
  | nil => intro σ σ' h; exact h
  | cons o os ih =>
    intro σ σ' h
    rw [evOps_cons] at h ⊢
    obtain ⟨τ, h1, h2⟩ := thenO_some h
    rw [step_le l h1]
    exact ih τ σ' h2

def LeR (r r' : Run) : Prop := ∀ f c σ x, r f c σ = some x → r' f c σ = some x

theorem callWith_le {r r' : Run} (l : LeR r r') : LeF (callWith C P r) (callWith C P r') := by
  intro g args h x hc
  unfold callWith at hc ⊢
  split at hc
  · split at hc
    · unfold endOf at hc ⊢
      split at hc
      · rename_i hr
        rw [l _ _ _ _ hr]
        exact hc
      · cases hc
    · cases hc
  · cases hc

theorem seq_le {x x' : Option (Ex × St)} {k k' : St → Option (Ex × St)} (hx : ∀ y, x = some y → x' = some y) (hk : ∀ σ y, k σ = some y → k' σ = some y) {y : Ex × St} (h : evSeq x k = some y) : evSeq x' k' = some y := by
  cases hq : x with
  | none => rw [hq] at h; cases h
  | some z =>
    obtain ⟨e, σ⟩ := z
    rw [hx _ hq]
    rw [hq] at h
    cases e with
    | normal => exact hk _ _ h
    | exit i => exact h
    | ret => exact h

theorem code1_le {r r' : Run} (l : LeR r r') : LeR (evCode1 C P r) (evCode1 C P r') := by
  intro f c σ x h
  cases c with
  | region id ops draw =>
    simp only [evCode1, evReg] at h ⊢
    cases hd : draw && C.bad f id with
    | true => rw [hd] at h; cases h
    | false =>
      rw [hd] at h
      simp only [cond_false] at h ⊢
      split at h
      · rename_i he
        rw [ops_le (callWith_le l) _ _ _ he]
        exact h
      · cases h
  | seq a b => exact seq_le (fun y hy => l _ _ _ _ hy) (fun τ y hy => l _ _ _ _ hy) h
  | cond k a b =>
    simp only [evCode1, evCond] at h ⊢
    split at h
    · rename_i t ht
      cases t with
      | true => exact l _ _ _ _ h
      | false => exact l _ _ _ _ h
    · cases h
  | block id b =>
    simp only [evCode1] at h ⊢
    cases hq : r f b σ with
    | none => rw [hq] at h; cases h
    | some z => rw [hq] at h; rw [l _ _ _ _ hq]; exact h
  | loop b =>
    simp only [evCode1] at h ⊢
    split at h
    · exact seq_le (fun y hy => l _ _ _ _ hy) (fun τ y hy => l _ _ _ _ hy) h
    · rename_i t ht
      unfold evLoop at h ⊢
      split at h
      · rename_i e τ he
        rw [l _ _ _ _ he]
        simp only []
        split at h
        · exact l _ _ _ _ h
        · exact h
      · cases h
  | scope b => exact l _ _ _ _ h
  | _ => exact h

theorem code_le (n : Nat) : LeR (evCode C P n) (evCode C P (n + 1)) := by
  induction n with
  | zero => intro f c σ x h; cases h
  | succ n ih => exact code1_le ih
theorem code_mono {n m : Nat} (h : n ≤ m) : LeR (evCode C P n) (evCode C P m) := by
  induction h with
  | refl => intro f c σ x h; exact h
  | step _ ih => intro f c σ x h; exact code_le _ f c σ x (ih f c σ x h)
theorem call_mono {n m : Nat} (h : n ≤ m) : LeF (evCall C P n) (evCall C P m) := callWith_le (code_mono h)

end
end
end Go.Ef

/- What an argument reads as. -/
namespace Go.Ef
open Go

theorem build_list {α : Type} {Q : Nat → α → Prop} : ∀ n : Nat, (∀ i, i < n → ∃ x, Q i x) → ∃ l : List α, l.length = n ∧ ∀ (i : Nat) (x : α), l[i]? = some x → Q i x := by
  intro n
  induction n with
  | zero => intro _; exact ⟨[], rfl, fun i x h => by simp at h⟩
  | succ n ih =>
    intro h
    obtain ⟨l, h1, h2⟩ := ih fun i hi => h i (by omega)
    obtain ⟨x, hx⟩ := h n (by omega)
    refine ⟨l ++ [x], by simp [h1], fun i y hy => ?_⟩
    rcases Nat.lt_trichotomy i n with hi | hi | hi
    · rw [List.getElem?_append_left (by omega)] at hy; exact h2 i y hy
    · subst hi
      rw [List.getElem?_append_right (by omega), h1] at hy
      simp at hy; subst hy; exact hx
    · have := lt_of_get? hy
      simp [h1] at this; omega

def CellsV (w : World) (avs : List AV) (cs : List Value) : Prop := avs.length = cs.length ∧ ∀ (i : Nat) (x : AV) (y : Value), avs[i]? = some x → cs[i]? = some y → V (imm0 w) x y

theorem trod_slice {H : Type} {enc : TypeId × Value → H} {P : Program} {w : World} {base : Nat} {spare : Nat → Bool} {held : Bool} {t e : TypeId} {k : Nat} (ht : P.underlying t = some (.slice e)) (hk : P.cellsOf e = k) (Good : List AV → Prop)
    (each : ∀ (fuel : Nat) (cs : List Value) (d : DataW H) (ps : List MemPlace), DataW.trod enc P w base spare held fuel e cs = some (d, ps) → cs.length = k → ∃ avs, Good avs ∧ CellsV w avs cs)
    {fuel b o len cap : Nat} {d : DataW H} {ps : List MemPlace} (h : DataW.trod enc P w base spare held fuel t [.slice (some ⟨b, o, none⟩) len cap] = some (d, ps)) :
    ∃ els : List (List AV), els.length = len ∧ (∀ a ∈ els, Good a ∧ a.length = k) ∧ V (imm0 w) (.sl els 0) (.slice (some ⟨b, o, none⟩) len cap) := by
  cases fuel with
  | zero => cases h
  | succ fuel =>
    simp only [DataW.trod, ht] at h
    split at h
    · rename_i hc
      rw [Option.bind_eq_some_iff] at h
      obtain ⟨elems, hel, _⟩ := h
      have hlen : elems.length = len := by simpa using mapM_some_length hel
      have hcell : ∀ i, i < len → ∃ (avs : List AV), Good avs ∧ avs.length = k ∧ ∃ cs : List Value, (∀ j, j < k → w.cell? ⟨b, o + i * k + j, none⟩ = cs[j]?) ∧ CellsV w avs cs := by
        intro i hi
        have := mapM_some_get hel i i (by simp [hi])
        rw [List.getElem?_eq_getElem (by omega)] at this
        rw [Option.bind_eq_some_iff] at this
        obtain ⟨cs, h1, h2⟩ := this
        obtain ⟨_, h4, h5⟩ := World.cells?_some h1
        rw [hk] at h4 h5
        obtain ⟨avs, g1, g2⟩ := each fuel cs _ _ h2 h4
        refine ⟨avs, g1, by rw [g2.1, h4], cs, fun j hj => ?_, g2⟩
        rw [← h5 j hj]
        congr 1
        unfold Addr.add
        split
        · split
          · rename_i q1 q2; simp [q1, q2]
          · rename_i q1 q2; simp [q1]
        · split
          · rename_i q1 q2; simp [q2]
          · simp
      obtain ⟨els, e1, e2⟩ := build_list len hcell
      refine ⟨els, e1, fun a ha => ?_, ?_⟩
      · obtain ⟨i, hi, rfl⟩ := List.getElem_of_mem ha
        obtain ⟨g1, g2, _⟩ := e2 i _ (List.getElem?_eq_getElem hi)
        exact ⟨g1, g2⟩
      · refine .sl0 (k := k) (c := fun i j => (w.cell? ⟨b, o + i * k + j, none⟩).getD undef) e1.symm hc.2.1 (fun a ha => ?_) (fun i a j x hx hy => ?_) (fun i a j x hx hy => ?_)
        · obtain ⟨i, hi, rfl⟩ := List.getElem_of_mem ha
          exact (e2 i _ (List.getElem?_eq_getElem hi)).2.1
        · obtain ⟨_, g2, cs, g3, g4⟩ := e2 i a hx
          have hj : j < k := g2 ▸ lt_of_get? hy
          have hjc : j < cs.length := by rw [← g4.1, g2]; exact hj
          show w.cell? _ = _
          rw [g3 j hj, List.getElem?_eq_getElem hjc]; rfl
        · obtain ⟨_, g2, cs, g3, g4⟩ := e2 i a hx
          have hj : j < k := g2 ▸ lt_of_get? hy
          have hjc : j < cs.length := by rw [← g4.1, g2]; exact hj
          rw [imm0_bare, g3 j hj, List.getElem?_eq_getElem hjc]
          exact g4.2 j x _ hy (List.getElem?_eq_getElem hjc)
    · cases h

end Go.Ef

