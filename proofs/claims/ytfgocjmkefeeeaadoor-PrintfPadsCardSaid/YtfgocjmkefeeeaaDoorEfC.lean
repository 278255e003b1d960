/- The evaluator is sound: calls, regions that draw their order. -/
import Derived.Test.YtfgocjmkefeeeaaDoorEfB
import Derived.Scope
/- Calls: what a call's end is; a call that changes nothing old, whose result is stripped of ids. -/
namespace Go.Ef
open Go

/- Lists of values. -/
def VLs (μ : M) (l : List AV) (vs : Array Value) : Prop := l.length = vs.size ∧ ∀ (i : Nat) (x : AV) (y : Value), l[i]? = some x → vs[i]? = some y → V μ x y

theorem VLs.append {μ : M} {l m : List AV} {vs ws : Array Value} (h : VLs μ l vs) (k : VLs μ m ws) : VLs μ (l ++ m) (vs ++ ws) := by
  refine ⟨by simp [h.1, k.1], fun i x y hx hy => ?_⟩
  by_cases hi : i < l.length
  · rw [List.getElem?_append_left hi] at hx
    rw [Array.getElem?_append_left (by rw [← h.1]; exact hi)] at hy
    exact h.2 i x y hx hy
  · rw [List.getElem?_append_right (by omega)] at hx
    rw [Array.getElem?_append_right (by rw [← h.1]; omega), ← h.1] at hy
    exact k.2 _ x y hx hy
theorem VLs.one {μ : M} {x : AV} {y : Value} (h : V μ x y) : VLs μ [x] #[y] := by
  refine ⟨rfl, fun i u v hu hv => ?_⟩
  match i with
  | 0 => simp at hu hv; subst hu; subst hv; exact h
  | i + 1 => simp at hu

/- How a call ends. -/
def CallEnd (C : Cfg) (μ : M) (h : Heap) (w : World) (r : AV) (h' : Heap) (e : Ending) (w' : World) : Prop :=
  ∃ v μ', e = .returned v ∧ V μ' r v ∧ W C μ' h' w' ∧ Ext μ h w μ' h' w'

def CallOk (P : Program) (C : Cfg) (call : CallF) : Prop :=
  ∀ g args h r h', call g args h = some (r, h') → ∀ μ w vs, W C μ h w → VLs μ args vs → Calls P g vs w (CallEnd C μ h w r h')

theorem W.setRo {C : Cfg} {μ : M} {h : Heap} {w : World} (H : W C μ h w) : W C μ { h with ro := h.next } w :=
  { imm := H.imm, cells := H.cells, own := H.own, map := H.map, apart := H.apart, next := H.next, ro := Nat.le_refl _, pos := H.pos, zero := H.zero, fresh := H.fresh, glob := H.glob, ty := H.ty }

open Classical in
/- What was made since is never written again. -/
noncomputable def frozenImm (μ : M) (h : Heap) (w : World) : Nat → Nat → Option Value := fun b p =>
  match μ.imm b p with
  | some v => some v
  | none => if ∃ id, h.ro ≤ id ∧ μ.blk h id = some b then w.cell? ⟨b, p, none⟩ else none

theorem frozenImm_old {μ : M} {h : Heap} {w : World} {b p : Nat} {v : Value} (hv : μ.imm b p = some v) : frozenImm μ h w b p = some v := by simp [frozenImm, hv]

noncomputable def frozenM (μ : M) (h : Heap) (w : World) : M := { imm := frozenImm μ h w, rho := fun _ => none, own := fun _ => none }

theorem bare_frozen {μ : M} {h : Heap} {w : World} : μ.bare.le (frozenM μ h w) := ⟨fun _ _ _ hv => frozenImm_old hv, fun _ _ h => (by cases h), fun _ _ _ _ _ h => (by cases h)⟩
theorem frozen_bare {μ : M} {h : Heap} {w : World} : (frozenM μ h w).bare = frozenM μ h w := rfl

theorem plain_V : ∀ n x, plainA n x = true → ∀ {μ : M} {v : Value}, V μ x v → V μ.bare x v := by
  intro n
  induction n with
  | zero =>
    intro x hx μ v hv
    cases x with
    | sc u => cases hv with | sc hq => exact .sc hq
    | sl els tok =>
      cases tok with
      | zero => cases hv with | sl0 h1 h2 h3 h4 h5 => exact .sl0 h1 h2 h3 h4 h5
      | succ t => simp [plainA] at hx
    | _ => simp [plainA] at hx
  | succ n ih =>
    have lists : ∀ {cs : List AV} {vs : Array Value} {μ : M}, cs.all (plainA n) = true → (∀ (i : Nat) (x : AV) (y : Value), cs[i]? = some x → vs[i]? = some y → V μ x y) →
        ∀ (i : Nat) (x : AV) (y : Value), cs[i]? = some x → vs[i]? = some y → V μ.bare x y :=
      fun hc hv i x y hx hy => ih x (List.all_eq_true.1 hc _ (List.mem_of_getElem? hx)) (hv i x y hx hy)
    intro x hx μ v hv
    cases x with
    | sc u => cases hv with | sc hq => exact .sc hq
    | agg cs => simp only [plainA] at hx; cases hv with | agg h1 h2 => exact .agg h1 (lists hx h2)
    | tup cs => simp only [plainA] at hx; cases hv with | tup h1 h2 => exact .tup h1 (lists hx h2)
    | sl els tok =>
      cases tok with
      | zero => cases hv with | sl0 h1 h2 h3 h4 h5 => exact .sl0 h1 h2 h3 h4 h5
      | succ t => simp [plainA] at hx
    | ifc t u => simp only [plainA] at hx; cases hv with | ifc h1 => exact .ifc (ih u hx h1)
    | fn f p q =>
      simp only [plainA, Bool.and_eq_true] at hx
      cases hv with
      | fn h1 h2 h3 h4 => exact .fn h1 h2 (lists hx.1 h3) (lists hx.2 h4)
    | _ => simp [plainA] at hx
theorem plainEls_V {els : List (List AV)} (hp : plainEls els = true) {μ : M} {tok b o n cap : Nat} (hv : V μ (.sl els (tok + 1)) (.slice (some ⟨b, o, none⟩) n cap)) : V μ.bare (.sl els 0) (.slice (some ⟨b, o, none⟩) n cap) := by
  cases hv with
  | sl1 h1 h2 h3 h4 h5 h6 =>
    exact .sl0 h1 h2 h3 h4 fun i e j x hx hy => plain_V 6 x (List.all_eq_true.1 (List.all_eq_true.1 hp e (List.mem_of_getElem? hx)) x (List.mem_of_getElem? hy)) (μ := μ) (h5 i e j x hx hy)

theorem stripA_ok : ∀ n x y, stripA n x = some y → ∀ {μ : M} {v : Value}, V μ x v → V μ.bare y v := by
  intro n
  induction n with
  | zero =>
    intro x y hs μ v hv
    cases x with
    | sc u => simp only [stripA] at hs; cases hs; cases hv with | sc hq => exact .sc hq
    | sl els tok =>
      cases tok with
      | zero => simp only [stripA] at hs; cases hs; cases hv with | sl0 h1 h2 h3 h4 h5 => exact .sl0 h1 h2 h3 h4 h5
      | succ t => simp only [stripA] at hs; cases hs
    | _ => simp only [stripA] at hs; cases hs
  | succ n ih =>
    have lists : ∀ {l r : List AV} {vs : Array Value} {μ : M}, mapO (stripA n) l = some r → l.length = vs.size → (∀ (i : Nat) (x : AV) (y : Value), l[i]? = some x → vs[i]? = some y → V μ x y) →
        r.length = vs.size ∧ ∀ (i : Nat) (x : AV) (y : Value), r[i]? = some x → vs[i]? = some y → V μ.bare x y := by
      intro l r vs μ hm hl hv
      refine ⟨by rw [(mapO_spec hm).1, hl], fun i x y hx hy => ?_⟩
      obtain ⟨z, hz, hf⟩ := mapO_back hm i x hx
      exact ih z x hf (hv i z y hz hy)
    intro x y hs μ v hv
    cases x with
    | sc u => simp only [stripA] at hs; cases hs; cases hv with | sc hq => exact .sc hq
    | agg cs =>
      simp only [stripA, Option.map_eq_some_iff] at hs
      obtain ⟨l, hl, rfl⟩ := hs
      cases hv with
      | agg h1 h2 => obtain ⟨q1, q2⟩ := lists hl h1 h2; exact .agg q1 q2
    | tup cs =>
      simp only [stripA, Option.map_eq_some_iff] at hs
      obtain ⟨l, hl, rfl⟩ := hs
      cases hv with
      | tup h1 h2 => obtain ⟨q1, q2⟩ := lists hl h1 h2; exact .tup q1 q2
    | sl els tok =>
      cases tok with
      | zero => simp only [stripA] at hs; cases hs; cases hv with | sl0 h1 h2 h3 h4 h5 => exact .sl0 h1 h2 h3 h4 h5
      | succ t =>
        simp only [stripA] at hs
        cases hp : plainEls els with
        | true =>
          rw [hp] at hs
          cases hs
          cases hv with
          | sl1 h1 h2 h3 h4 h5 h6 => exact plainEls_V hp (.sl1 h1 h2 h3 h4 h5 h6)
        | false =>
          rw [hp] at hs
          simp only [cond_false, Option.map_eq_some_iff] at hs
          obtain ⟨l, hm, rfl⟩ := hs
          cases hv with
          | @sl1 _ _ b o m cap k _ c h1 h2 h3 h4 h5 h6 =>
            have hsp := mapO_spec hm
            refine .sl0 (k := k) (c := c) (by rw [hsp.1]; exact h1) h2 (fun e he => ?_) (fun i e j x hx hy => ?_) (fun i e j x hx hy => ?_)
            · obtain ⟨i, hi, rfl⟩ := List.getElem_of_mem he
              obtain ⟨e0, he0, hf⟩ := mapO_back hm i _ (List.getElem?_eq_getElem hi)
              rw [(mapO_spec hf).1]; exact h3 e0 (List.mem_of_getElem? he0)
            · obtain ⟨e0, he0, hf⟩ := mapO_back hm i e hx
              obtain ⟨x0, hx0, hf0⟩ := mapO_back hf j x hy
              exact h4 i e0 j x0 he0 hx0
            · obtain ⟨e0, he0, hf⟩ := mapO_back hm i e hx
              obtain ⟨x0, hx0, hf0⟩ := mapO_back hf j x hy
              exact ih x0 x hf0 (μ := μ) (h5 i e0 j x0 he0 hx0)
    | fn f p q =>
      simp only [stripA] at hs
      split at hs
      · rename_i p' q' hp hq
        cases hs
        cases hv with
        | fn h1 h2 h3 h4 =>
          obtain ⟨a1, a2⟩ := lists hp h1 h3
          obtain ⟨b1, b2⟩ := lists hq h2 h4
          exact .fn a1 b1 a2 b2
      · cases hs
    | ifc t u =>
      simp only [stripA, Option.map_eq_some_iff] at hs
      obtain ⟨l, hl, rfl⟩ := hs
      cases hv with
      | ifc h1 => exact .ifc (ih u l hl h1)
    | _ => simp only [stripA] at hs; cases hs
theorem stripA_list {args args' : List AV} (h : mapO (stripA 8) args = some args') {μ : M} {vs : Array Value} (hv : VLs μ args vs) : VLs μ.bare args' vs := by
  refine ⟨by rw [(mapO_spec h).1, hv.1], fun i x y hx hy => ?_⟩
  obtain ⟨z, hz, hf⟩ := mapO_back h i x hx
  exact stripA_ok 8 z x hf (hv.2 i z y hz hy)

theorem strip_ok {C : Cfg} {μ : M} {h : Heap} {w : World} (H : W C μ h w) : ∀ n x y, strip n h x = some y → ∀ v, V μ x v → V (frozenM μ h w) y v := by
  intro n
  induction n with
  | zero =>
    intro x y hs v hv
    cases x with
    | sc u => simp only [strip] at hs; cases hs; cases hv with | sc hq => exact .sc hq
    | sl els tok =>
      cases tok with
      | zero =>
        simp only [strip] at hs; cases hs
        cases hv with
        | sl0 h1 h2 h3 h4 h5 => exact .sl0 h1 h2 h3 (fun i e j x hx hy => frozenImm_old (h4 i e j x hx hy)) fun i e j x hx hy => (h5 i e j x hx hy).mono bare_frozen
      | succ t => simp only [strip] at hs; cases hs
    | _ => simp only [strip] at hs; cases hs
  | succ n ih =>
    have lists : ∀ {l r : List AV} {vs : Array Value}, mapO (strip n h) l = some r → l.length = vs.size → (∀ (i : Nat) (x : AV) (y : Value), l[i]? = some x → vs[i]? = some y → V μ x y) →
        r.length = vs.size ∧ ∀ (i : Nat) (x : AV) (y : Value), r[i]? = some x → vs[i]? = some y → V (frozenM μ h w) x y := by
      intro l r vs hm hl hv
      refine ⟨by rw [(mapO_spec hm).1, hl], fun i x y hx hy => ?_⟩
      obtain ⟨z, hz, hf⟩ := mapO_back hm i x hx
      exact ih z x hf y (hv i z y hz hy)
    -- elements of a slice
    have elems : ∀ {els els' : List (List AV)} {b o m cap k : Nat} {c : Nat → Nat → Value}, mapO (mapO (strip n h)) els = some els' → m = els.length → m ≤ cap → (∀ e ∈ els, e.length = k) →
        (∀ (i : Nat) (e : List AV) (j : Nat) (x : AV), els[i]? = some e → e[j]? = some x → frozenImm μ h w b (o + i * k + j) = some (c i j)) →
        (∀ (i : Nat) (e : List AV) (j : Nat) (x : AV), els[i]? = some e → e[j]? = some x → V μ x (c i j)) → V (frozenM μ h w) (.sl els' 0) (.slice (some ⟨b, o, none⟩) m cap) := by
      intro els els' b o m cap k c hm h1 h2 h3 h4 h5
      have hsp := mapO_spec hm
      refine .sl0 (k := k) (c := c) (by rw [hsp.1]; exact h1) h2 (fun e he => ?_) (fun i e j x hx hy => ?_) (fun i e j x hx hy => ?_)
      · obtain ⟨i, hi, rfl⟩ := List.getElem_of_mem he
        obtain ⟨e0, he0, hf⟩ := mapO_back hm i _ (List.getElem?_eq_getElem hi)
        rw [(mapO_spec hf).1]; exact h3 e0 (List.mem_of_getElem? he0)
      · obtain ⟨e0, he0, hf⟩ := mapO_back hm i e hx
        obtain ⟨x0, hx0, hf0⟩ := mapO_back hf j x hy
        exact h4 i e0 j x0 he0 hx0
      · obtain ⟨e0, he0, hf⟩ := mapO_back hm i e hx
        obtain ⟨x0, hx0, hf0⟩ := mapO_back hf j x hy
        rw [frozen_bare]
        exact ih x0 x hf0 _ (h5 i e0 j x0 he0 hx0)
    intro x y hs v hv
    cases x with
    | sc u => simp only [strip] at hs; cases hs; cases hv with | sc hq => exact .sc hq
    | agg cs =>
      simp only [strip, Option.map_eq_some_iff] at hs
      obtain ⟨l, hl, rfl⟩ := hs
      cases hv with
      | agg h1 h2 => obtain ⟨q1, q2⟩ := lists hl h1 h2; exact .agg q1 q2
    | tup cs =>
      simp only [strip, Option.map_eq_some_iff] at hs
      obtain ⟨l, hl, rfl⟩ := hs
      cases hv with
      | tup h1 h2 => obtain ⟨q1, q2⟩ := lists hl h1 h2; exact .tup q1 q2
    | sl els tok =>
      cases tok with
      | zero =>
        simp only [strip] at hs; cases hs
        cases hv with
        | sl0 h1 h2 h3 h4 h5 => exact .sl0 h1 h2 h3 (fun i e j x hx hy => frozenImm_old (h4 i e j x hx hy)) fun i e j x hx hy => (h5 i e j x hx hy).mono bare_frozen
      | succ t =>
        simp only [strip] at hs
        cases hp : plainEls els with
        | true =>
          rw [hp] at hs
          cases hs
          cases hv with
          | sl1 h1 h2 h3 h4 h5 h6 => exact (plainEls_V hp (.sl1 h1 h2 h3 h4 h5 h6)).mono bare_frozen
        | false =>
        rw [hp] at hs
        simp only [cond_false, Option.map_eq_some_iff] at hs
        obtain ⟨l, hl, rfl⟩ := hs
        cases hv with
        | sl1 h1 h2 h3 h4 h5 h6 => exact elems hl h1 h2 h3 (fun i e j x hx hy => frozenImm_old (h4 i e j x hx hy)) h5
    | rsl id off len k =>
      simp only [strip] at hs
      obtain ⟨hro, hs⟩ := cond_some hs
      have hro := ble_true hro
      split at hs
      · rename_i cs hg
        split at hs
        · rename_i cs' hst
          simp only [Option.map_eq_some_iff] at hs
          obtain ⟨l, hl, rfl⟩ := hs
          obtain ⟨s1, s2, s3⟩ := stretch_spec hst
          obtain ⟨B, base, sz, hrho, ok, hnoimm⟩ := H.cells id cs hg
          have hblk : μ.blk h id = some B := by simp [M.blk, hg, hrho]
          have hck := chunks_get k len cs' s2
          cases hv with
          | rsl hrho' h2 h3 =>
            rename_i cap b' base' sz' o
            rw [hrho] at hrho'; cases hrho'
            have hcell : ∀ (i : Nat) (e : List AV) (j : Nat) (x : AV), (chunks len k cs')[i]? = some e → e[j]? = some x → ∃ z, w.cell? ⟨B, o + i * k + j, none⟩ = some z ∧ V μ x z := by
              intro i e j x hx hy
              obtain ⟨q1, q2⟩ := hck i e hx
              have hj : j < k := q1 ▸ lt_of_get? hy
              have hi := lt_of_get? hx
              rw [chunks_length] at hi
              have hlt := idx_lt (k := k) hi hj
              rw [q2 j hj, s3 _ hlt] at hy
              obtain ⟨z, hz, hvz⟩ := ok.cell _ _ hy
              rcases h3 with h3 | ⟨h3, _⟩
              · omega
              · refine ⟨z, ?_, hvz⟩
                rw [h3, show base + off + i * k + j = base + (off + (i * k + j)) by omega]; exact hz
            refine elems (k := k) (c := fun i j => (w.cell? ⟨B, o + i * k + j, none⟩).getD undef) hl (chunks_length _ _ _).symm h2 (fun e he => ?_) (fun i e j x hx hy => ?_) (fun i e j x hx hy => ?_)
            · obtain ⟨i, hi, rfl⟩ := List.getElem_of_mem he
              exact (hck i _ (List.getElem?_eq_getElem hi)).1
            · obtain ⟨z, hz, _⟩ := hcell i e j x hx hy
              simp only [frozenImm, hnoimm]
              rw [if_pos ⟨id, hro, hblk⟩, hz]; rfl
            · obtain ⟨z, hz, hvz⟩ := hcell i e j x hx hy
              simp only [hz, Option.getD_some]; exact hvz
        · cases hs
      · cases hs
    | fn f p q =>
      simp only [strip] at hs
      split at hs
      · rename_i p' q' hp hq
        cases hs
        cases hv with
        | fn h1 h2 h3 h4 =>
          obtain ⟨a1, a2⟩ := lists hp h1 h3
          obtain ⟨b1, b2⟩ := lists hq h2 h4
          exact .fn a1 b1 a2 b2
      · cases hs
    | ifc t u =>
      simp only [strip, Option.map_eq_some_iff] at hs
      obtain ⟨l, hl, rfl⟩ := hs
      cases hv with
      | ifc h1 => exact .ifc (ih u l hl _ h1)
    | _ => simp only [strip] at hs; cases hs

/- A call in which nothing old was written, and whose result has no ids: the old heap is as it was. -/
theorem pure_end {C : Cfg} {μ : M} {h : Heap} {w : World} (H : W C μ h w) {r r' : AV} {h1 : Heap} {n : Nat} (hst : strip n h1 r = some r') {e : Ending} {w' : World} (k : CallEnd C μ { h with ro := h.next } w r h1 e w') : CallEnd C μ h w r' h e w' := by
  obtain ⟨v, μ1, rfl, hv, H1, X⟩ := k
  have nolive : ∀ id, h.next ≤ id → μ.blk h id = none := by
    intro id hid
    cases hb : μ.blk h id with
    | none => rfl
    | some b => have := H.next id (blk_some hb); omega
  have hro : h1.ro = h.next := X.ro
  have keep : ∀ b, b < w.heap.size → w'.heap[b]? = w.heap[b]? := fun b hb => X.frame b hb fun id hid hq => by
    have := nolive id hid
    have hq : μ.blk h id = some b := hq
    rw [this] at hq; cases hq
  have nonew : ∀ b p, b < w.heap.size → μ.imm b p = none → frozenImm μ1 h1 w' b p = none := by
    intro b p hb hp
    have h0 : μ1.imm b p = none := by
      cases hq : μ1.imm b p with
      | none => rfl
      | some q =>
        obtain ⟨id, hid, hbl⟩ := X.imm b p hb hp (by simp [hq])
        have hbl : μ.blk h id = some b := hbl
        rw [nolive id hid] at hbl; cases hbl
    simp only [frozenImm, h0]
    rw [if_neg]
    rintro ⟨id, hid, hbl⟩
    obtain ⟨id0, q1, q2⟩ := X.came id b hbl hb
    have q1 : μ.blk h id0 = some b := q1
    rw [hro] at hid
    rcases q2 with rfl | ⟨q2, _⟩
    · rw [nolive _ hid] at q1; cases q1
    · have q2 : h.next ≤ id0 := q2
      rw [nolive _ q2] at q1; cases q1
  have le : μ.le { imm := frozenImm μ1 h1 w', rho := μ.rho, own := μ.own } := ⟨fun b o v hv => frozenImm_old (X.le.imm b o v hv), fun _ _ h => h, M.same_own fun _ => rfl⟩
  refine ⟨v, { imm := frozenImm μ1 h1 w', rho := μ.rho, own := μ.own }, rfl, (strip_ok H1 n r r' hst v hv).mono ⟨fun _ _ _ h => h, fun _ _ h => (by cases h), fun _ _ _ _ _ h => (by cases h)⟩, ?_, ?_⟩
  · exact { imm := fun b p q hq => by
              have hq2 : frozenImm μ1 h1 w' b p = some q := hq
              unfold frozenImm at hq2
              split at hq2
              · rename_i z hz; cases hq2; exact H1.imm _ _ _ hz
              · split at hq2
                · exact hq2
                · cases hq2
            cells := fun id cs hg => H.old_cells le hg (fun b hb => keep b (H.blk_lt hb)) (fun b hb p hp => nonew b p (H.blk_lt hb) hp)
            own := fun id k e _ hg => H.old_own hg rfl (fun b hb => keep b (H.blk_lt hb)) (fun b hb p hp => nonew b p (H.blk_lt hb) hp)
            map := fun id es hg => H.old_map le hg (fun b hb => keep b (H.blk_lt hb)) (fun b hb p hp => nonew b p (H.blk_lt hb) hp)
            apart := H.apart, next := H.next, ro := H.ro, pos := H.pos, zero := H.zero, fresh := H.fresh, glob := glob_mono le H.glob, ty := H.keepTy rfl (Nat.le_refl _) le fun b x hx => by rw [shape_of_heap (keep b (shape_lt hx))]; exact hx }
  · exact { le := le, os := X.os, tape := X.tape, output := X.output, size := X.size, ro := rfl, next := Nat.le_refl _, frame := fun b hb _ => keep b hb,
            came := fun id b hb _ => ⟨id, hb, .inl rfl⟩, imm := fun b p hb h0 h2 => absurd (nonew b p hb h0) h2 }

theorem heapF_get (id : Nat) : heapF.get id = none := rfl
theorem W.new {C : Cfg} {μ : M} {h : Heap} {w : World} (H : W C μ h w) : W C μ.bare heapF w where
  imm := H.imm
  cells := fun id cs h => by rw [heapF_get] at h; cases h
  own := fun id k _ _ h => by rw [heapF_get] at h; cases h
  map := fun id es h => by rw [heapF_get] at h; cases h
  apart := fun i j b h => by simp [M.blk, heapF_get] at h
  next := fun id h => absurd (heapF_get id) h
  ro := Nat.le_refl _
  pos := Nat.zero_lt_one
  zero := rfl
  fresh := fun _ _ => ⟨rfl, rfl⟩
  glob := H.glob
  ty := fun id t h => by simp [heapF, Tr.get_leaf] at h

/- A call that began with a heap of its own. -/
theorem fresh_end {C : Cfg} {μ : M} {h : Heap} {w : World} (H : W C μ h w) {r r' : AV} {h1 : Heap} {n : Nat} (hst : strip n h1 r = some r') {e : Ending} {w' : World} (k : CallEnd C μ.bare heapF w r h1 e w') : CallEnd C μ h w r' h e w' := by
  obtain ⟨v, μ1, rfl, hv, H1, X⟩ := k
  have nob : ∀ id, μ.bare.blk heapF id = none := fun id => by simp [M.blk, heapF_get]
  have keep : ∀ b, b < w.heap.size → w'.heap[b]? = w.heap[b]? := fun b hb => X.frame b hb fun id _ hq => by rw [nob] at hq; cases hq
  have nonew : ∀ b p, b < w.heap.size → μ.imm b p = none → frozenImm μ1 h1 w' b p = none := by
    intro b p hb hp
    have h0 : μ1.imm b p = none := by
      cases hq : μ1.imm b p with
      | none => rfl
      | some q =>
        obtain ⟨id, hid, hbl⟩ := X.imm b p hb hp (by simp [hq])
        rw [nob] at hbl; cases hbl
    simp only [frozenImm, h0]
    rw [if_neg]
    rintro ⟨id, hid, hbl⟩
    obtain ⟨id0, q1, _⟩ := X.came id b hbl hb
    rw [nob] at q1; cases q1
  have le : μ.le { imm := frozenImm μ1 h1 w', rho := μ.rho, own := μ.own } := ⟨fun b o v hv => frozenImm_old (X.le.imm b o v hv), fun _ _ h => h, M.same_own fun _ => rfl⟩
  refine ⟨v, { imm := frozenImm μ1 h1 w', rho := μ.rho, own := μ.own }, rfl, (strip_ok H1 n r r' hst v hv).mono ⟨fun _ _ _ h => h, fun _ _ h => (by cases h), fun _ _ _ _ _ h => (by cases h)⟩, ?_, ?_⟩
  · exact { imm := fun b p q hq => by
              have hq2 : frozenImm μ1 h1 w' b p = some q := hq
              unfold frozenImm at hq2
              split at hq2
              · rename_i z hz; cases hq2; exact H1.imm _ _ _ hz
              · split at hq2
                · exact hq2
                · cases hq2
            cells := fun id cs hg => H.old_cells le hg (fun b hb => keep b (H.blk_lt hb)) (fun b hb p hp => nonew b p (H.blk_lt hb) hp)
            own := fun id k e _ hg => H.old_own hg rfl (fun b hb => keep b (H.blk_lt hb)) (fun b hb p hp => nonew b p (H.blk_lt hb) hp)
            map := fun id es hg => H.old_map le hg (fun b hb => keep b (H.blk_lt hb)) (fun b hb p hp => nonew b p (H.blk_lt hb) hp)
            apart := H.apart, next := H.next, ro := H.ro, pos := H.pos, zero := H.zero, fresh := H.fresh, glob := glob_mono le H.glob, ty := H.keepTy rfl (Nat.le_refl _) le fun b x hx => by rw [shape_of_heap (keep b (shape_lt hx))]; exact hx }
  · exact { le := le, os := X.os, tape := X.tape, output := X.output, size := X.size, ro := rfl, next := Nat.le_refl _, frame := fun b hb _ => keep b hb,
            came := fun id b hb _ => ⟨id, hb, .inl rfl⟩, imm := fun b p hb h0 h2 => absurd (nonew b p hb h0) h2 }

/- What is known of a function: one with a body ends so; one without gives its value at once. -/
def Known (P : Program) (C : Cfg) (g : FuncId) (p : List AV → Heap → Option (AV × Heap)) : Prop :=
  ((∃ fn : Func, P.funcs[g]? = some fn ∧ fn.body.isSome = true) ∧
    ∀ args h r h', p args h = some (r, h') → ∀ μ w vs, W C μ h w → VLs μ args vs → Calls P g vs w (CallEnd C μ h w r h')) ∨
  ∀ args h r h', p args h = some (r, h') → ∀ μ w vs, W C μ h w → VLs μ args vs → ∃ v w', (callFunc g vs).run P w = .ok (.value v) w' ∧ CallEnd C μ h w r h' (.returned v) w'

/- What is asked of the program and of the functions that are taken as known. -/
structure Sane (P : Program) (C : Cfg) : Prop where
  plain : ∀ (g : FuncId) (fn : Func), P.funcs[g]? = some fn → fn.body.isSome = true → (fn.name == "runtime.NumGoroutine") = false
  prim : ∀ g p, C.prim g = some p → Known P C g p

/- A call's function has a body. -/
def Bodied (P : Program) (call : CallF) : Prop := ∀ g args h r, call g args h = some r → ∃ fn : Func, P.funcs[g]? = some fn ∧ fn.body.isSome = true

def EnterOk (P : Program) (C : Cfg) (call : CallF) : Prop :=
  ∀ g args h r h', call g args h = some (r, h') → ∀ μ w vs, W C μ h w → VLs μ args vs →
    ((callFunc g vs).run P w = .ok (.enter g vs) w ∧ Calls P g vs w (CallEnd C μ h w r h')) ∨
    ∃ v w', (callFunc g vs).run P w = .ok (.value v) w' ∧ CallEnd C μ h w r h' (.returned v) w'

theorem enter_run {P : Program} {C : Cfg} (S : Sane P C) {g : FuncId} (h : ∃ fn : Func, P.funcs[g]? = some fn ∧ fn.body.isSome = true) (vs : Array Value) (w : World) : (callFunc g vs).run P w = .ok (.enter g vs) w := by
  obtain ⟨fn, hf, hb⟩ := h
  have hnm := S.plain g fn hf hb
  have hnone : fn.body.isNone = false := by cases hq : fn.body with
    | none => rw [hq] at hb; cases hb
    | some _ => rfl
  simp only [callFunc, Sem.run_bind, run_program, Result.andThen_ok, hf]
  simp [hnm, hnone]

theorem callP_ok {P : Program} {C : Cfg} {call : CallF} (S : Sane P C) (K : CallOk P C call) (B : Bodied P call) : EnterOk P C (callP C call) := by
  intro g args h r h' hc μ w vs H hv
  unfold callP at hc
  split at hc
  · rename_i p hp
    rcases S.prim g p hp with ⟨hb, hk⟩ | hk
    · exact .inl ⟨enter_run S hb vs w, hk args h r h' hc μ w vs H hv⟩
    · exact .inr (hk args h r h' hc μ w vs H hv)
  · cases hfr : C.fresh g with
    | true =>
      rw [hfr] at hc
      simp only [cond_true] at hc
      split at hc
      · rename_i args' hargs
        split at hc
        · rename_i r0 h0 hcall
          split at hc
          · rename_i r1 hst
            cases hc
            exact .inl ⟨enter_run S (B g _ _ _ hcall) vs w, (K g args' _ r0 h0 hcall μ.bare w vs H.new (stripA_list hargs hv)).mono fun e w' k => fresh_end H hst k⟩
          · cases hc
        · cases hc
      · cases hc
    | false =>
    rw [hfr] at hc
    simp only [cond_false] at hc
    cases hpure : C.pure g with
    | false => rw [hpure] at hc; exact .inl ⟨enter_run S (B g args h _ hc) vs w, K g args h r h' hc μ w vs H hv⟩
    | true =>
      rw [hpure] at hc
      simp only [cond_true] at hc
      split at hc
      · rename_i r0 h0 hcall
        split at hc
        · rename_i r1 hst
          cases hc
          exact .inl ⟨enter_run S (B g args _ _ hcall) vs w, (K g args _ r0 h0 hcall μ w vs H.setRo hv).mono fun e w' k => pure_end H hst k⟩
        · cases hc
      · cases hc

section
variable {P : Program} {C : Cfg} {E : Ent} {L : List Nat} {μ : M} {σ : St} {a : Act} {w : World}
theorem fine_enter (R : Rel C E L μ σ a w) {o : Oper} {call : CallF} (K : EnterOk P C call) {g : FuncId} {args : List AV} {vs : Array Value} (hv : VLs μ args vs) (hex : (execOp a.eval o).run P w = (callFunc g vs).run P w) {r : Slot × St} (h : back σ (call g args σ.h) = some r) : Fine P C E a w o r := by
  unfold back at h
  split at h
  · rename_i v h' hc
    cases h
    intro next Q hn
    unfold Oper.wp
    rw [hex]
    rcases K g args σ.h v h' hc μ w vs R.world hv with ⟨h1, h2⟩ | ⟨q, w', h1, h2⟩
    · rw [h1]
      refine h2.mono fun e w' k => ?_
      obtain ⟨q, μ', rfl, h1, h2, h3⟩ := k
      exact hn q w' ⟨L, μ', R.step h3 h2, h1⟩
    · rw [h1]
      obtain ⟨q', μ', he, h1, h2, h3⟩ := h2
      cases he
      exact hn q w' ⟨L, μ', R.step h3 h2, h1⟩
  · cases h

theorem fine_call (R : Rel C E L μ σ a w) {o : Oper} {c : Call} {call : CallF} {f : FuncId} (S : Sane P C) (K : CallOk P C call) (B : Bodied P call) {r : Slot × St} (ho : o.op = .call c) (h : opCall C P call f o.dst o.type c σ = some r) : Fine P C E a w o r := by
  have K' := callP_ok S K B
  unfold opCall at h
  split at h
  · cases h
  · rename_i args hargs
    have hal := vals_rel R hargs
    split at h
    · rename_i b hb; exact fine_builtin R ho hb hargs h
    · rename_i x hx
      unfold callVal at h
      split at h
      · rename_i g first cap hval
        have hv := val_rel R hval
        generalize hev : a.eval x = cx at hv
        cases hv with
        | fn h1 h2 h3 h4 =>
          rename_i fs cs
          refine fine_enter R K' ((VLs.append ⟨h1, h3⟩ hal).append ⟨h2, h4⟩) (congrArg (fun x : Sem Next => x.run P w) ?_) h
          simp [execOp, ho, resolve, hx, hev, Deferred.ofValue, invoke]
      · cases h
    · rename_i x name hx
      unfold callMeth at h
      split at h
      · rename_i t v hval
        split at h
        · rename_i g rv hm
          have hv := val_rel R hval
          generalize hev : a.eval x = cx at hv
          cases hv with
          | ifc hvv =>
            rename_i cv
            have hmeth : rv = v ∧ ∀ (n : Nat) (w : World), (method (n + 1) t cv name).run P w = .ok (g, cv) w := by
              unfold evMethod at hm
              split at hm
              · rename_i i hi
                split at hm
                · rename_i m hfind
                  split at hm
                  · rename_i p hp
                    unfold pickFn at hm
                    obtain ⟨hpath, hm⟩ := cond_some hm
                    split at hm
                    · rename_i g' r' hfun
                      obtain ⟨hrp, hm⟩ := cond_some hm
                      cases hm
                      refine ⟨rfl, fun n w => ?_⟩
                      have hpl : m.path.toList = [] := by simpa using hpath
                      have hrp : r' = p := by simpa using hrp
                      subst hrp
                      unfold isPtrT at hp
                      split at hp
                      · rename_i e hu
                        cases hp
                        simp [method, typeInfo, hi, hfind, hpl, follow, hfun, receiverAt, run_underlying hu, Place.get]
                      · rename_i d hne hu
                        cases hp
                        have hu : P.underlying t = some d := hu
                        simp only [method, Sem.run_bind, typeInfo, run_program, Result.andThen_ok, hi, Sem.run_pure, hfind, hpl, follow, hfun, receiverAt, run_underlying hu]
                        cases d <;> first | (exact absurd rfl (hne _)) | simp [Place.get]
                      · cases hp
                    · cases hm
                  · cases hm
                · cases hm
              · cases hm
            obtain ⟨rfl, hrun⟩ := hmeth
            have hargs2 : VLs μ (rv :: args) (#[cv] ++ c.args.map a.eval) := VLs.append (VLs.one hvv) hal
            refine fine_enter R K' hargs2 ?_ h
            have hm1 : (method (P.types.size + Made.depth) t cv name).run P w = .ok (g, cv) w := hrun (P.types.size + 99) w
            have hext : (#[Value.iface t cv] ++ c.args.map a.eval).extract 1 (#[Value.iface t cv] ++ c.args.map a.eval).size = c.args.map a.eval := by
              apply Array.ext'
              simp
              exact List.take_of_length_le (by simp)
            have h0 : (#[Value.iface t cv] ++ c.args.map a.eval)[0]? = some (.iface t cv) := by rw [Array.getElem?_append_left (by simp)]; rfl
            simp only [execOp, ho, resolve, hx, hev, Sem.run_bind, Sem.run_pure, Result.andThen_ok, invoke, h0, hext, callMethod, run_program, hm1]
        · cases h
      · cases h

end
end Go.Ef

/- One operation of a region, whatever it is; regions in the order of the text; a function's results. -/
namespace Go.Ef
open Go

section
variable {P : Program} {C : Cfg} {E : Ent} {L : List Nat} {μ : M} {σ : St} {a : Act} {w : World}

theorem fine_op (R : Rel C E L μ σ a w) {o : Oper} {call : CallF} {f : FuncId} (S : Sane P C) (K : CallOk P C call) (B : Bodied P call) {r : Slot × St} (h : evOp C P call f o σ = some r) : Fine P C E a w o r := by
  unfold evOp at h
  split at h <;> rename_i ho
  · exact fine_move R (.inl ho) h
  · exact fine_move R (.inr ho) h
  · exact fine_pick R ho h
  · exact fine_alloc R ho h
  · exact fine_box R ho h
  · exact fine_build R ho h
  · exact fine_buildSlice R ho h
  · exact fine_load R ho h
  · exact fine_store R ho h
  · exact fine_nil R ho h
  · exact fine_bin R ho h
  · exact fine_un R ho h
  · exact fine_conv R ho h
  · exact fine_iface R ho h
  · exact fine_func R ho h
  · exact fine_makeSlice R ho h
  · exact fine_slice R ho h
  · exact fine_fieldAddr R ho h
  · exact fine_field R ho h
  · exact fine_indexAddr R ho h
  · exact fine_index R ho h
  · exact fine_assert R ho h
  · exact fine_extract R ho h
  · exact fine_call R S K B ho h
  · cases h

theorem wanted_rel (R : Rel C E L μ σ a w) {ops : Array Oper} {o : Oper} {b : Bool} (h : wantedA ops o σ = some b) : Region.wanted o (yielded ops a.tmps) = b := by
  unfold wantedA at h
  unfold Region.wanted
  split at h
  · rename_i hg; cases h; rw [hg]
  · rename_i j want hg
    rw [hg]
    simp only []
    split at h
    · rename_i oj hoj
      split at h
      · rename_i t ht
        have hslot : ∀ s, σ.slot (.tmp t) = some s → t < a.tmps.size ∧ SlotRel L μ s (a.tmps.getD t undef) := by
          intro s hs
          refine ⟨?_, slot_rel R hs⟩
          simp only [St.slot] at hs
          cases hb : Nat.ble σ.n t with
          | true => simp [hb] at hs
          | false =>
            rw [← R.n]
            exact Nat.lt_of_not_ge fun hle => by simp [Nat.ble_eq_true_of_le hle] at hb
        have hy : ∀ v, t < a.tmps.size → a.tmps.getD t undef = v → yielded ops a.tmps j = (match some v with | some (.bool b) => some b | _ => none) := by
          intro v hlt hv
          unfold yielded
          rw [hoj]
          simp only [Option.bind_some, ht]
          rw [Array.getD_eq_getD_getElem?, Array.getElem?_eq_getElem hlt] at hv
          simp only [Option.getD_some] at hv
          rw [Array.getElem?_eq_getElem hlt, hv]
          cases v <;> rfl
        split at h
        · rename_i b' hs
          cases h
          obtain ⟨h1, h2⟩ := hslot _ hs
          rw [hy _ h1 (V.sc_eq h2)]
          cases b' <;> cases want <;> rfl
        · rename_i q hs
          cases h
          obtain ⟨h1, h2⟩ := hslot _ hs
          rw [hy _ h1 (V.sc_eq h2)]
          rfl
        · cases h
      · cases h
    · cases h

theorem step_ok (R : Rel C E L μ σ a w) {ops : Array Oper} {i : Nat} {o : Oper} {call : CallF} {f : FuncId} (S : Sane P C) (K : CallOk P C call) (B : Bodied P call) {σ' : St} (hi : ops[i]? = some o) (h : evStep C P call f ops o σ = some σ')
    {Q : Exit → Act → World → Prop} {k : Act → World → Prop} (hk : ∀ L' μ' a' w', Rel C E L' μ' σ' a' w' → k a' w') : wpOp P ops Q i k a w := by
  unfold wpOp
  rw [hi]
  simp only []
  unfold evStep at h
  split at h
  · rename_i hw
    rw [if_pos (wanted_rel R hw)]
    split at h
    · rename_i s τ hop
      refine .inl (fine_op R S K B hop k Q fun c w' hout => ?_)
      obtain ⟨L', μ', R', hs⟩ := hout
      exact hk L' μ' _ _ (put_rel R' hs h)
    · cases h
  · rename_i hw
    rw [if_neg (by rw [wanted_rel R hw]; simp)]
    exact hk L μ _ _ (put_rel R (s := .v (.sc undef)) (v := undef) (V.sc rfl) h)
  · cases h

theorem evOps_nil {call : CallF} {f : FuncId} {ops : Array Oper} (σ : St) : evOps C P call f ops [] σ = some σ := rfl
theorem evOps_cons {call : CallF} {f : FuncId} {ops : Array Oper} (o : Oper) (l : List Oper) (σ : St) : evOps C P call f ops (o :: l) σ = thenO (evStep C P call f ops o σ) (evOps C P call f ops l) := rfl
theorem thenO_some {α β : Type} {x : Option α} {k : α → Option β} {y : β} (h : thenO x k = some y) : ∃ z, x = some z ∧ k z = some y := by
  cases x with
  | none => cases h
  | some z => exact ⟨z, rfl, h⟩

theorem ops_ok {ops : Array Oper} {call : CallF} {f : FuncId} (S : Sane P C) (K : CallOk P C call) (B : Bodied P call) {Q : Exit → Act → World → Prop} : ∀ (l : List Oper) (idx : List Nat) (L : List Nat) (μ : M) (σ σ' : St) (a : Act) (w : World),
    idx.length = l.length → (∀ (j i : Nat) (o : Oper), idx[j]? = some i → l[j]? = some o → ops[i]? = some o) → Rel C E L μ σ a w → evOps C P call f ops l σ = some σ' → (∀ L' μ' a' w', Rel C E L' μ' σ' a' w' → Q .normal a' w') → wpOps P ops Q idx a w := by
  intro l
  induction l with
  | nil =>
    intro idx L μ σ σ' a w hl _ R h hq
    have : idx = [] := List.eq_nil_of_length_eq_zero (by simpa using hl)
    subst this
    rw [evOps_nil] at h; cases h
    exact hq L μ a w R
  | cons o l ih =>
    intro idx L μ σ σ' a w hl hg R h hq
    cases idx with
    | nil => simp at hl
    | cons i idx =>
      rw [evOps_cons] at h
      obtain ⟨τ, h1, h2⟩ := thenO_some h
      rw [wpOps_cons]
      refine step_ok R S K B (hg 0 i o rfl rfl) h1 fun L' μ' a' w' R' => ?_
      exact ih idx L' μ' τ σ' a' w' (by simpa using hl) (fun j i o hj ho => hg (j + 1) i o (by simpa using hj) (by simpa using ho)) R' h2 hq

theorem region_ok (R : Rel C E L μ σ a w) {ops : Array Oper} {id : Nat} {call : CallF} {f : FuncId} (S : Sane P C) (K : CallOk P C call) (B : Bodied P call) {σ' : St} (h : evOps C P call f ops ops.toList σ = some σ')
    {Q : Exit → Act → World → Prop} (hq : ∀ L' μ' a' w', Rel C E L' μ' σ' a' w' → Q .normal a' w') : (Code.region id ops false).wp P Q a w := by
  refine wp_region (ops_ok S K B ops.toList (List.range ops.size) L μ σ σ' a w (by simp) (fun j i o hj ho => ?_) R h hq)
  have := lt_of_get? hj
  simp at this
  simp [this] at hj
  subst hj
  simpa using ho

/- Results. -/
def resF (tmps : Array Value) (r : ResultVar) : Sem Value :=
  match r with
  | .tmp t => pure (tmps.getD t undef)
  | .cell x t => do loadVar t (← asAddr (tmps.getD x undef))
theorem results_eq (fn : Func) (tmps : Array Value) : results fn tmps = (do let vs ← fn.results.mapM (resF tmps); pure (if h : vs.size = 1 then vs[0] else .tuple vs)) := rfl
theorem results_ok (R : Rel C E L μ σ a w) : ∀ {rs : List ResultVar} {l : List AV}, evResults C P σ rs = some l →
    ∃ vs : List Value, (rs.mapM (resF a.tmps)).run P w = .ok vs w ∧ VLs μ l ⟨vs⟩ := by
  intro rs
  induction rs with
  | nil => intro l h; simp only [evResults] at h; cases h; exact ⟨[], by simp, rfl, fun i x y hx => by simp at hx⟩
  | cons r rs ih =>
    intro l h
    cases r with
    | tmp t =>
      simp only [evResults] at h
      split at h
      · rename_i v l' hv hl
        cases h
        obtain ⟨vs, h1, h2⟩ := ih hl
        refine ⟨a.tmps.getD t undef :: vs, by simp only [List.mapM_cons, resF, Sem.run_bind, Sem.run_pure, Result.andThen_ok, h1], ?_⟩
        have hv' : V μ v (a.tmps.getD t undef) := val_rel R hv
        have := VLs.append (VLs.one hv') h2
        simp only [VLs, List.cons_append, List.nil_append] at this ⊢
        simpa using this
      · cases h
    | cell x t =>
      simp only [evResults] at h
      split at h
      · rename_i s l' hs hl
        split at h
        · rename_i v hv
          cases h
          obtain ⟨vs, h1, h2⟩ := ih hl
          obtain ⟨y, hy, hvy⟩ := load_rel (P := P) R (slot_rel R hs) hv
          have hy2 : ((do loadVar t (← asAddr (a.tmps.getD x undef))) : Sem Value).run P w = .ok y w := by
            have hev : a.eval (.tmp x) = a.tmps.getD x undef := rfl
            rw [hev] at hy
            generalize a.tmps.getD x undef = q at hy
            cases q <;> simp [Instr.loadAt, Instr.sureAddr] at hy
            rename_i p
            cases p <;> simp at hy
            simpa [asAddr] using hy
          have hy3 : (resF a.tmps (.cell x t)).run P w = .ok y w := hy2
          refine ⟨y :: vs, by simp only [List.mapM_cons, Sem.run_bind, hy3, Result.andThen_ok, h1, Sem.run_pure], ?_⟩
          have := VLs.append (VLs.one hvy) h2
          simpa [VLs] using this
        · cases h
      · cases h

theorem pack_ok (R : Rel C E L μ σ a w) {fn : Func} {r : AV} {h' : Heap} (h : packR σ (evResults C P σ fn.results.toList) = some (r, h')) : ∃ v, (results fn a.tmps).run P w = .ok v w ∧ V μ r v ∧ h' = σ.h := by
  cases hl : evResults C P σ fn.results.toList with
  | none => rw [hl] at h; cases h
  | some l =>
    rw [hl] at h
    obtain ⟨vs, h1, h2, h3⟩ := results_ok (P := P) R hl
    have hrun : (results fn a.tmps).run P w = .ok (if h : (⟨vs⟩ : Array Value).size = 1 then (⟨vs⟩ : Array Value)[0] else .tuple ⟨vs⟩) w := by
      rw [results_eq]
      simp only [Array.mapM_eq_mapM_toList, Sem.run_bind, Sem.run_map, h1, Result.andThen_ok, Sem.run_pure]
    refine ⟨_, hrun, ?_⟩
    clear hrun h1
    match l, vs, h2, h3, h with
    | [], [], _, _, h => simp only [packR] at h; cases h; exact ⟨.sc rfl, rfl⟩
    | [x], [q], _, h3, h => simp only [packR] at h; cases h; exact ⟨h3 0 _ _ rfl rfl, rfl⟩
    | x :: y :: l, p :: q :: vs, h2, h3, h => simp only [packR] at h; cases h; exact ⟨.tup h2 h3, rfl⟩

end
end Go.Ef

/- Regions that draw their order: operations that do not touch each other may be carried out in either order. -/
namespace Go.Ef
open Go

/- Two settings of a trie at different numbers. -/
theorem Tr.path_fuel {α : Type} (x : α) : ∀ f g n, n < f → n < g → Tr.path x f n = Tr.path x g n := by
  intro f
  induction f with
  | zero => intro g n h; omega
  | succ f ih =>
    intro g n h1 h2
    cases g with
    | zero => omega
    | succ g =>
      rw [Tr.path_succ, Tr.path_succ]
      cases n with
      | zero => rfl
      | succ n => simp only []; rw [ih g (n / 2) (by omega) (by omega)]
theorem Tr.set_leaf {α : Type} (x : α) (n : Nat) :
    (Tr.leaf : Tr α).set n x = match n with | 0 => .node .leaf (some x) .leaf | m + 1 => if m % 2 = 0 then .node ((Tr.leaf : Tr α).set (m / 2) x) none .leaf else .node .leaf none ((Tr.leaf : Tr α).set (m / 2) x) := by
  show Tr.path x (n + 1) n = _
  rw [Tr.path_succ]
  cases n with
  | zero => rfl
  | succ m =>
    simp only []
    show (if m % 2 = 0 then (Tr.path x (m + 1) (m / 2)).node none leaf else leaf.node none (Tr.path x (m + 1) (m / 2))) = if m % 2 = 0 then (Tr.path x (m / 2 + 1) (m / 2)).node none leaf else leaf.node none (Tr.path x (m / 2 + 1) (m / 2))
    rw [Tr.path_fuel x (m + 1) (m / 2 + 1) (m / 2) (by omega) (by omega)]
theorem Tr.set_leaf_node {α : Type} (x : α) (n : Nat) : (Tr.leaf : Tr α).set n x = (Tr.node .leaf none .leaf : Tr α).set n x := by
  rw [Tr.set_leaf, Tr.set_node]; cases n <;> rfl
theorem Tr.set_node_comm {α : Type} {x y : α} {l r : Tr α} {v : Option α} (hl : ∀ m n, m ≠ n → (l.set m x).set n y = (l.set n y).set m x) (hr : ∀ m n, m ≠ n → (r.set m x).set n y = (r.set n y).set m x) (m n : Nat) (h : m ≠ n) :
    ((Tr.node l v r).set m x).set n y = ((Tr.node l v r).set n y).set m x := by
  cases m with
  | zero =>
    cases n with
    | zero => exact absurd rfl h
    | succ n =>
      simp only [Tr.set_node]
      by_cases e : n % 2 = 0 <;> simp [e, Tr.set_node]
  | succ m =>
    cases n with
    | zero =>
      simp only [Tr.set_node]
      by_cases e : m % 2 = 0 <;> simp [e, Tr.set_node]
    | succ n =>
      simp only [Tr.set_node]
      by_cases e : m % 2 = 0 <;> by_cases e' : n % 2 = 0 <;> simp only [e, e', if_true, if_false, Tr.set_node]
      · rw [hl (m / 2) (n / 2) (by omega)]
      · rw [hr (m / 2) (n / 2) (by omega)]
theorem Tr.set_comm {α : Type} (x y : α) : ∀ (t : Tr α) m n, m ≠ n → (t.set m x).set n y = (t.set n y).set m x := by
  intro t
  induction t with
  | leaf =>
    have key : ∀ k m n, m + n < k → m ≠ n → ((Tr.leaf : Tr α).set m x).set n y = ((Tr.leaf : Tr α).set n y).set m x := by
      intro k
      induction k with
      | zero => intro m n h; omega
      | succ k ih =>
        intro m n hk h
        cases m with
        | zero =>
          cases n with
          | zero => exact absurd rfl h
          | succ n =>
            rw [Tr.set_leaf x, Tr.set_leaf y]
            simp only [Tr.set_node]
            by_cases e : n % 2 = 0 <;> simp [e, Tr.set_node]
        | succ m =>
          cases n with
          | zero =>
            rw [Tr.set_leaf x, Tr.set_leaf y]
            simp only []
            by_cases e : m % 2 = 0 <;> simp [e, Tr.set_node]
          | succ n =>
            rw [Tr.set_leaf x, Tr.set_leaf y]
            simp only []
            by_cases e : m % 2 = 0 <;> by_cases e' : n % 2 = 0 <;> simp only [e, e', if_true, if_false, Tr.set_node]
            · rw [ih (m / 2) (n / 2) (by omega) (by omega)]
            · rw [ih (m / 2) (n / 2) (by omega) (by omega)]
    intro m n h
    exact key (m + n + 1) m n (by omega) h
  | node l v r ihl ihr => exact Tr.set_node_comm ihl ihr


/- What an operation touches beside slots: nothing; the frame's boxes, reading; the heap, reading; the heap alone; anything. -/
inductive Cls where
  | p | l | q | c | s
  deriving DecidableEq

def clsBuiltin : Builtin → Cls
  | .min | .max => .p
  | .len => .q
  | .append | .copy => .c
  | _ => .s

def clsCall (C : Cfg) (c : Call) : Cls :=
  match c.callee with
  | .builtin b => clsBuiltin b
  | .value (.func g) => bif (C.prim g).isNone && (C.fresh g || C.pure g) then .q else .c
  | _ => .c

def clsOf (C : Cfg) (P : Program) (f : FuncId) (o : Oper) : Cls :=
  match o.op with
  | .move _ | .assign _ | .pick .. | .binOp .. | .unOp .. | .makeInterface .. | .makeFunc .. | .field .. | .fieldAddr .. | .extract .. | .nilCheck _ | .index .. | .typeAssert .. | .build .. | .indexAddr .. => .p
  | .load .. => bif C.is f o.dst 3 then .l else .q
  | .slice t .. => match P.underlying t with
    | some (.array _ _) => .q
    | _ => .p
  | .convert _ d _ => match elemT P d with
    | some _ => .c
    | none => .q
  | .call c => clsCall C c
  | .buildSlice .. | .makeSlice .. => .c
  | _ => .s

/- Must these two stay in order, as far as memory goes? -/
def clash : Cls → Cls → Bool
  | .p, _ | _, .p => false
  | .l, .l | .l, .q | .q, .l | .q, .q => false
  | .l, .c | .c, .l => false
  | _, _ => true

/- Slots that an operation reads. -/
def reads (ops : Array Oper) (o : Oper) : List Nat :=
  (o.op.operands.toList.filterMap fun | .tmp t => some t | _ => none) ++
  (match o.guard with
   | some (g, _) => match ops[g]? with
     | some og => og.dst.toList
     | none => []
   | none => [])

def meets (ops : Array Oper) (x y : Oper) : Bool :=
  match x.dst with
  | some d => (reads ops y).any (Nat.beq d) || (match y.dst with | some e => Nat.beq d e | none => false)
  | none => false

def apartOps (C : Cfg) (P : Program) (f : FuncId) (ops : Array Oper) (x y : Oper) : Bool :=
  !meets ops x y && !meets ops y x && !clash (clsOf C P f x) (clsOf C P f y)

/- Of each operation the ones that must come before it, as a number's bits. -/
def maskOf (acc : List Nat) (o : Oper) : Nat :=
  o.after.toList.foldl (fun s e => bif Region.binds .any e then Nat.lor (Nat.lor s (Nat.pow 2 e.on)) ((acc[e.on]?).getD 0) else s) 0
def masks : List Oper → List Nat → List Nat
  | [], acc => acc
  | o :: r, acc => masks r (acc ++ [maskOf acc o])

def rowOk (C : Cfg) (P : Program) (f : FuncId) (ops : Array Oper) (y : Oper) (m : Nat) : List Oper → Nat → Bool
  | [], _ => true
  | x :: r, j => (Nat.testBit m j || apartOps C P f ops x y) && rowOk C P f ops y m r (j + 1)
def rowsOk (C : Cfg) (P : Program) (f : FuncId) (ops : Array Oper) : List Oper → List Nat → Nat → Bool
  | y :: r, m :: ms, i => rowOk C P f ops y m (ops.toList.take i) 0 && y.after.all (fun e => !Region.binds .any e || Nat.blt e.on i) && rowsOk C P f ops r ms (i + 1)
  | [], _, _ => true
  | _, _, _ => false
def regOk (C : Cfg) (P : Program) (f : FuncId) (ops : Array Oper) : Bool := rowsOk C P f ops ops.toList (masks ops.toList []) 0

def codeOk (C : Cfg) (P : Program) (f : FuncId) : Code → Bool
  | .region id ops draw => !draw || C.bad f id || regOk C P f ops
  | .seq a b => codeOk C P f a && codeOk C P f b
  | .cond _ a b => codeOk C P f a && codeOk C P f b
  | .block _ b => codeOk C P f b
  | .loop b => codeOk C P f b
  | .scope b => codeOk C P f b
  | _ => true

end Go.Ef

/- What an operation does to a state depends on the slots that it reads, on the boxes and the heap. -/
namespace Go.Ef
open Go

def St.wt (σ : St) (t : Tr Slot) : St := { σ with tm := t }
def mapR (t : Tr Slot) (r : Slot × St) : Slot × St := (r.1, r.2.wt t)

/- The two states read alike at these operands. -/
def Alike (xs : List Operand) (σ : St) (t : Tr Slot) : Prop := ∀ x ∈ xs, (σ.wt t).slot x = σ.slot x

theorem Alike.val {xs : List Operand} {σ : St} {t : Tr Slot} (h : Alike xs σ t) {x : Operand} (hx : x ∈ xs) : (σ.wt t).val x = σ.val x := by
  unfold St.val; rw [h x hx]

theorem mapO_congr {α β : Type} {f g : α → Option β} : ∀ {l : List α}, (∀ x ∈ l, f x = g x) → mapO f l = mapO g l := by
  intro l
  induction l with
  | nil => intro _; rfl
  | cons x l ih => intro h; rw [mapO_cons, mapO_cons, h x (by simp), ih fun y hy => h y (by simp [hy])]

section
variable {C : Cfg} {P : Program} {σ : St} {t : Tr Slot}

theorem resV_wt (v : Option AV) : resV (σ.wt t) v = (resV σ v).map (mapR t) := by cases v <;> rfl
theorem move_wt {x : Operand} (h : (σ.wt t).slot x = σ.slot x) : opMove (σ.wt t) x = (opMove σ x).map (mapR t) := by
  unfold opMove; rw [h]; cases σ.slot x <;> rfl
theorem alloc_wt {f : FuncId} {d : Option Nat} {e : TypeId} {cs : List AV} : (σ.wt t).alloc C f d e cs = mapR t (σ.alloc C f d e cs) := by
  unfold St.alloc; cases C.is f d 1 <;> rfl
theorem newSlice_wt {f : FuncId} {d : Option Nat} {k e : Nat} {els : List (List AV)} : (σ.wt t).newSlice C f d k e els = ((σ.newSlice C f d k e els).1, (σ.newSlice C f d k e els).2.wt t) := by
  unfold St.newSlice; cases C.is f d 1 <;> rfl
theorem write_wt {new : List AV} {s : Slot} : (σ.wt t).write new s = (σ.write new s).map fun σ' => σ'.wt t := by
  cases s with
  | unk => rfl
  | lp k off =>
    simp only [St.write]
    show (match getI k σ.loc with | some (.cells cs) => _ | _ => _) = _
    cases getI k σ.loc with
    | none => rfl
    | some o =>
      cases o with
      | iter _ _ => rfl
      | cells cs =>
        simp only []
        cases splice off new cs with
        | none => rfl
        | some cs' => simp only []; cases new.all AV.one <;> rfl
  | v av =>
    cases av <;> try rfl
    rename_i id off
    simp only [St.write]
    show (match σ.h.get id with | some (.cells cs) => _ | _ => _) = _
    cases σ.h.get id with
    | none => rfl
    | some o =>
      cases o <;> try rfl
      rename_i cs
      simp only []
      cases splice off new cs with
      | none => rfl
      | some cs' =>
        simp only []
        cases new.all AV.one
        · rfl
        · simp only [cond_true]
          show (match σ.h.put id (.cells cs') with | some h => _ | none => _) = _
          cases σ.h.put id (.cells cs') <;> rfl
theorem elems_wt {k : Nat} {x : AV} : (σ.wt t).elems k x = σ.elems k x := rfl
theorem load_wt {ty : TypeId} {s : Slot} : (σ.wt t).load C P ty s = σ.load C P ty s := by cases s <;> rfl
theorem parts_wt : ∀ {l : List (Nat × Operand)}, (∀ p ∈ l, (σ.wt t).slot p.2 = σ.slot p.2) → evParts (σ.wt t) l = evParts σ l := by
  intro l
  induction l with
  | nil => intro _; rfl
  | cons p l ih =>
    intro h
    obtain ⟨i, x⟩ := p
    simp only [evParts]
    rw [ih fun q hq => h q (by simp [hq])]
    have : (σ.wt t).val x = σ.val x := by unfold St.val; rw [h (i, x) (by simp)]
    rw [this]
theorem optVal_wt {x : Option Operand} (h : ∀ y, x = some y → (σ.wt t).slot y = σ.slot y) : optVal (σ.wt t) x = optVal σ x := by
  cases x with
  | none => rfl
  | some y =>
    simp only [optVal]
    have : (σ.wt t).val y = σ.val y := by unfold St.val; rw [h y rfl]
    rw [this]

theorem appendNil_wt {f : FuncId} {d : Option Nat} {e : TypeId} {i : TypeInfo} {new : List (List AV)} : appendNil C (σ.wt t) f d e i new = (appendNil C σ f d e i new).map (mapR t) := by
  unfold appendNil
  cases fits new.length i.bytes
  · rfl
  · simp only [cond_true, newSlice_wt]; rfl
theorem appendO_wt {e : TypeId} {i : TypeInfo} {els new : List (List AV)} {tok : Nat} : appendO (σ.wt t) e i els tok new = (appendO σ e i els tok new).map (mapR t) := by
  unfold appendO
  cases allLen i.size els && fits (els.length + new.length) i.bytes
  · rfl
  · simp only [cond_true]
    cases tok with
    | zero => rfl
    | succ id =>
      simp only []
      show (match σ.h.get id with | some (.own k e' n) => _ | _ => _) = _
      cases σ.h.get id with
      | none => rfl
      | some o =>
        cases o <;> try rfl
        rename_i k e' n
        simp only []
        cases (Nat.beq k i.size && Nat.beq e' e) && Nat.beq els.length n
        · rfl
        · simp only [cond_true]
          show (match σ.h.put id (.own k e (n + new.length)) with | some h => _ | none => _) = _
          cases σ.h.put id (.own k e (n + new.length)) <;> rfl
theorem appendR_wt {i : TypeInfo} {id off len k : Nat} {new : List (List AV)} : appendR (σ.wt t) i id off len k new = (appendR σ i id off len k new).map (mapR t) := by
  unfold appendR
  cases Nat.beq k i.size && fits (len + new.length) i.bytes
  · rfl
  · simp only [cond_true]
    show (match σ.h.get id with | some (.cells cs) => _ | _ => _) = _
    cases σ.h.get id with
    | none => rfl
    | some o =>
      cases o <;> try rfl
      rename_i cs
      simp only []
      show (match stretch off (len * k) cs, σ.h.put id .dead with | some old, some h => _ | _, _ => _) = _
      cases stretch off (len * k) cs <;> cases σ.h.put id .dead <;> rfl
theorem appendS_wt {f : FuncId} {d : Option Nat} {e : TypeId} {i : TypeInfo} {s : AV} {new : List (List AV)} : appendS C (σ.wt t) f d e i s new = (appendS C σ f d e i s new).map (mapR t) := by
  unfold appendS
  split
  · cases new.isEmpty
    · exact appendNil_wt
    · rfl
  · cases new.isEmpty
    · exact appendO_wt
    · rfl
  · cases new.isEmpty
    · exact appendR_wt
    · rfl
  · rfl
theorem evAppend_wt {f : FuncId} {d : Option Nat} {types : Array TypeId} {s x : AV} : evAppend C P (σ.wt t) f d types s x = (evAppend C P σ f d types s x).map (mapR t) := by
  unfold evAppend
  split
  · rename_i u v _ _
    cases isRowT P v
    · rfl
    · simp only [cond_true]
      cases elemT P u with
      | none => rfl
      | some e =>
        simp only []
        cases P.info? e with
        | none => rfl
        | some i =>
          simp only []
          cases Nat.beq i.size 0
          · simp only [cond_false, elems_wt]
            cases σ.elems i.size x with
            | none => rfl
            | some new =>
              simp only []
              cases new.all (fun e => e.all AV.one) && (zeroA P e).any (fun z => Nat.beq z.cells.length i.size)
              · rfl
              · exact appendS_wt
          · rfl
  · rfl
theorem copyR_wt {k : Nat} {dst : AV} {els : List (List AV)} : copyR (σ.wt t) k dst els = (copyR σ k dst els).map (mapR t) := by
  unfold copyR
  cases els.isEmpty
  · simp only [cond_false]
    cases dst <;> try rfl
    rename_i id off len k'
    simp only []
    cases Nat.beq k k'
    · rfl
    · simp only [cond_true, write_wt]
      cases σ.write els.flatten (.v (.ptr id off)) <;> rfl
  · rfl
theorem evCopy_wt {types : Array TypeId} {dst src : AV} : evCopy P (σ.wt t) types dst src = (evCopy P σ types dst src).map (mapR t) := by
  unfold evCopy
  cases types[0]? with
  | none => rfl
  | some u =>
    simp only []
    cases elemT P u with
    | none => rfl
    | some e =>
      simp only []
      cases sizeT P e with
      | none => rfl
      | some k =>
        simp only []
        cases Nat.beq k 0
        · simp only [cond_false, elems_wt]
          cases σ.elems k src <;> cases lenA dst <;> try rfl
          simp only []
          cases isSlice dst
          · rfl
          · exact copyR_wt
        · rfl
theorem evLen_wt {types : Array TypeId} {ty : TypeId} {x : AV} : evLen P (σ.wt t) types ty x = evLen P σ types ty x := by cases x <;> rfl
theorem evBuiltin_wt {f : FuncId} {d : Option Nat} {b : Builtin} {types : Array TypeId} {ty : TypeId} {args : List AV} : evBuiltin C P (σ.wt t) f d b types ty args = (evBuiltin C P σ f d b types ty args).map (mapR t) := by
  unfold evBuiltin
  split
  · split
    · rw [evLen_wt]; exact resV_wt _
    · rfl
  · split
    · exact evAppend_wt
    · rfl
  · split
    · exact evCopy_wt
    · rfl
  · exact resV_wt _
  · exact resV_wt _
  · rfl
theorem back_wt (r : Option (AV × Heap)) : back (σ.wt t) r = (back σ r).map (mapR t) := by
  cases r with
  | none => rfl
  | some p => obtain ⟨v, h⟩ := p; rfl
theorem toBytes_wt {e : TypeId} {x : AV} : toBytes P (σ.wt t) e x = (toBytes P σ e x).map (mapR t) := by
  unfold toBytes
  split
  · rename_i s _
    cases Nat.ble s.size maxRoom <;> rfl
  · rfl
theorem evConvert_wt {src dst : TypeId} {x : AV} : evConvert P (σ.wt t) src dst x = (evConvert P σ src dst x).map (mapR t) := by
  unfold evConvert
  split
  · simp only [elems_wt]
    cases σ.elems 1 x with
    | none => rfl
    | some els =>
      simp only []
      cases isSlice x
      · rfl
      · exact resV_wt _
  · exact toBytes_wt
  · cases toVal 0 x with
    | none => rfl
    | some v => exact resV_wt _
theorem sliceArr_wt {u : TypeId} {id off : Nat} {lo hi : Option AV} : sliceArr P (σ.wt t) u id off lo hi = sliceArr P σ u id off lo hi := rfl
theorem evSlice_wt {u : TypeId} {s : AV} {lo hi : Option AV} : evSlice P (σ.wt t) u s lo hi = evSlice P σ u s lo hi := by cases s <;> rfl

theorem evOp_wt {call : CallF} {f : FuncId} {o : Oper} (h : Alike o.op.operands.toList σ t) : evOp C P call f o (σ.wt t) = (evOp C P call f o σ).map (mapR t) := by
  have H := h
  unfold evOp
  split <;> rename_i ho <;> try rw [ho] at h
  · exact move_wt (h _ (by simp [Op.operands]))
  · exact move_wt (h _ (by simp [Op.operands]))
  · rename_i c a b
    unfold opPick
    rw [h.val (x := c) (by simp [Op.operands])]
    split
    · rename_i q _
      cases q
      · exact move_wt (h _ (by simp [Op.operands]))
      · exact move_wt (h _ (by simp [Op.operands]))
    · rfl
  · unfold opAlloc
    split
    · rw [alloc_wt]; rfl
    · rfl
  · rename_i e x
    unfold opBox
    rw [h.val (x := x) (by simp [Op.operands])]
    cases σ.val x with
    | none => rfl
    | some v => simp only [alloc_wt]; rfl
  · rename_i u parts
    unfold opBuild
    rw [parts_wt (fun p hp => h p.2 (by simp only [Op.operands]; exact List.mem_map.2 ⟨p, hp, rfl⟩))]
    cases evParts σ parts.toList with
    | none => rfl
    | some l => exact resV_wt _
  · rename_i u len parts
    unfold opBuildSlice
    rw [parts_wt (fun p hp => h p.2 (by simp only [Op.operands]; exact List.mem_map.2 ⟨p, hp, rfl⟩))]
    cases evParts σ parts.toList with
    | none => rfl
    | some l =>
      simp only []
      cases elemT P u with
      | none => rfl
      | some e =>
        simp only []
        cases sizeT P e <;> cases zeroA P e <;> try rfl
        rename_i k z
        simp only []
        cases Nat.ble (len * k) 16777216 && Nat.beq z.cells.length k && Nat.ble 1 k
        · rfl
        · simp only [cond_true]
          cases fillA (fun i => some (i * k, k)) (List.replicate len z.cells).flatten l with
          | none => rfl
          | some cs => simp only [newSlice_wt]; rfl
  · rename_i u x
    unfold opLoad
    rw [h x (by simp [Op.operands])]
    cases σ.slot x with
    | none => rfl
    | some s =>
      simp only [load_wt]
      cases C.is f o.dst 3 && isHeapPtr s
      · exact resV_wt _
      · rfl
  · rename_i u x y
    unfold opStore
    rw [h x (by simp [Op.operands]), h.val (x := y) (by simp [Op.operands])]
    cases σ.slot x with
    | none => rfl
    | some s =>
      cases σ.val y with
      | none => rfl
      | some v =>
        simp only []
        cases sizeT P u with
        | none => rfl
        | some n =>
          simp only []
          cases Nat.beq v.cells.length n
          · rfl
          · simp only [cond_true, write_wt]
            cases σ.write v.cells s <;> rfl
  · rename_i x
    unfold opNil
    rw [h x (by simp [Op.operands])]
    cases σ.slot x with
    | none => rfl
    | some s =>
      simp only []
      split <;> first | rfl | skip
  · rename_i op u x y v
    unfold opBin
    rw [h.val (x := x) (by simp [Op.operands]), h.val (x := y) (by simp [Op.operands])]
    cases σ.val x with
    | none => rfl
    | some a =>
      cases σ.val y with
      | none => rfl
      | some b => exact resV_wt _
  · rename_i op u x
    unfold opUn
    rw [h.val (x := x) (by simp [Op.operands])]
    split
    · exact resV_wt _
    · rfl
  · rename_i s d x
    unfold opConv
    rw [h.val (x := x) (by simp [Op.operands])]
    cases σ.val x with
    | none => rfl
    | some a => exact evConvert_wt
  · rename_i u x
    unfold opIface
    rw [h.val (x := x) (by simp [Op.operands])]
    split <;> rfl
  · rename_i g first cap
    unfold opFunc
    rw [mapO_congr (f := (σ.wt t).val) (g := σ.val) (l := first.toList) (fun x hx => h.val (by simp only [Op.operands, Array.toList_append, List.mem_append]; first | exact .inl hx | exact .inr hx)), mapO_congr (f := (σ.wt t).val) (g := σ.val) (l := cap.toList) (fun x hx => h.val (by simp only [Op.operands, Array.toList_append, List.mem_append]; first | exact .inl hx | exact .inr hx))]
    cases mapO σ.val first.toList with
    | none => rfl
    | some l => simp only []; cases mapO σ.val cap.toList <;> rfl
  · rename_i u x y
    unfold opMakeSlice
    rw [h.val (x := x) (by simp [Op.operands]), h.val (x := y) (by simp [Op.operands])]
    split
    · rename_i l _ c e _ _ _
      cases decide (0 ≤ l) && decide (l ≤ c) && decide (c ≤ (maxRoom : Int))
      · rfl
      · simp only [cond_true]
        unfold makeS
        cases P.info? e <;> cases zeroA P e <;> try rfl
        rename_i i z
        simp only []
        cases Nat.ble (c.toNat * i.bytes) maxRoom && Nat.beq z.cells.length i.size && Nat.ble 1 i.size
        · rfl
        · simp only [cond_true]
          cases C.is f o.dst 2 || Nat.beq l.toNat 0 <;> rfl
    · rfl
  · rename_i u x lo hi mx
    unfold opSlice
    cases mx with
    | some _ => rfl
    | none =>
      simp only []
      rw [h.val (x := x) (by simp [Op.operands]), optVal_wt (x := lo) (fun y hy => h y (by simp [Op.operands, hy])), optVal_wt (x := hi) (fun y hy => h y (by simp [Op.operands, hy]))]
      cases σ.val x with
      | none => rfl
      | some s =>
        simp only []
        cases optVal σ lo <;> cases optVal σ hi <;> try rfl
        simp only [evSlice_wt]
        exact resV_wt _
  · rename_i s x i
    unfold opFieldAddr
    rw [h x (by simp [Op.operands])]
    cases σ.slot x with
    | none => rfl
    | some p =>
      simp only []
      cases fieldsT P s with
      | none => rfl
      | some fs =>
        simp only []
        cases fs[i]? with
        | none => rfl
        | some fd =>
          simp only []
          cases Option.any (Nat.blt 0) (sizeT P fd.type)
          · rfl
          · simp only [cond_true]
            cases moveSlot p fd.offset <;> rfl
  · rename_i u x i
    unfold opField
    rw [h.val (x := x) (by simp [Op.operands])]
    split
    · cases fieldsT P u with
      | none => rfl
      | some fs =>
        simp only []
        cases fs[i]? with
        | none => rfl
        | some fd => exact resV_wt _
    · rfl
  · rename_i u x i
    unfold opIndexAddr
    rw [h x (by simp [Op.operands]), h.val (x := i) (by simp [Op.operands])]
    cases σ.slot x with
    | none => rfl
    | some s =>
      cases σ.val i with
      | none => rfl
      | some a =>
        simp only []
        split
        · rename_i els tok
          unfold addrSl
          cases elemT P u with
          | none => rfl
          | some e =>
            simp only []
            cases sizeT P e <;> cases idx els.length a <;> try rfl
            rename_i k j
            simp only []
            cases getI j els with
            | none => rfl
            | some l => simp only []; cases Nat.beq l.length k <;> rfl
        · rename_i id off len k
          unfold addrR
          cases elemT P u with
          | none => rfl
          | some e =>
            simp only []
            cases sizeT P e <;> cases idx len a <;> try rfl
            rename_i k' j
            simp only []
            cases Nat.beq k k' <;> rfl
        · unfold addrA
          cases arrT P u with
          | none => rfl
          | some ne =>
            obtain ⟨n, e⟩ := ne
            simp only []
            cases sizeT P e <;> cases idx n a <;> try rfl
            rename_i k j
            simp only []
            cases moveSlot s (j * k) <;> rfl
  · rename_i u x i
    unfold opIndex
    rw [h.val (x := x) (by simp [Op.operands]), h.val (x := i) (by simp [Op.operands])]
    cases σ.val x with
    | none => rfl
    | some v =>
      cases σ.val i with
      | none => rfl
      | some a =>
        simp only []
        split
        · exact resV_wt _
        · exact resV_wt _
        · rfl
  · rename_i x xt u ok
    unfold opAssert
    rw [h.val (x := x) (by simp [Op.operands])]
    have hfail : failAs P (σ.wt t) u ok = (failAs P σ u ok).map (mapR t) := by
      unfold failAs
      cases ok
      · rfl
      · simp only [cond_true]; cases zeroA P u <;> rfl
    split
    · split
      · rename_i q v _
        cases Nat.beq q u
        · exact hfail
        · rfl
      · exact hfail
      · rfl
    · rfl
  · rename_i x i
    unfold opExtract
    rw [h.val (x := x) (by simp [Op.operands])]
    split
    · exact resV_wt _
    · rfl
  · rename_i c
    unfold opCall
    have hargs : ∀ x ∈ c.args.toList, x ∈ (Op.call c).operands.toList := by
      intro x hx
      simp only [Op.operands, Call.operands, Array.toList_append, List.mem_append]
      exact .inr hx
    rw [mapO_congr (f := (σ.wt t).val) (g := σ.val) (l := c.args.toList) (fun x hx => h.val (hargs x hx))]
    cases mapO σ.val c.args.toList with
    | none => rfl
    | some args =>
      simp only []
      split
      · exact evBuiltin_wt
      · rename_i x hx
        unfold callVal
        rw [h.val (x := x) (by simp [Op.operands, Call.operands, hx])]
        split
        · exact back_wt _
        · rfl
      · rename_i x name hx
        unfold callMeth
        rw [h.val (x := x) (by simp [Op.operands, Call.operands, hx])]
        split
        · rename_i q v _
          cases evMethod P q v name with
          | none => rfl
          | some gr => obtain ⟨g, r⟩ := gr; exact back_wt _
        · rfl
  · rfl

end
end Go.Ef

/- Two operations that do not touch each other may change places. -/
namespace Go.Ef
open Go

structure Keeps (cl : Cls) (σ σ' : St) : Prop where
  n : σ'.n = σ.n
  tm : σ'.tm = σ.tm
  loc : cl ≠ .s → σ'.loc = σ.loc
  h : cl ≠ .s → cl ≠ .c → σ'.h = σ.h
  d : σ'.d = σ.d
theorem Keeps.same (cl : Cls) (σ : St) : Keeps cl σ σ := ⟨rfl, rfl, fun _ => rfl, fun _ _ => rfl, rfl⟩
theorem Keeps.eq {cl : Cls} {σ σ' : St} (k : Keeps cl σ σ') (h1 : cl ≠ .s) (h2 : cl ≠ .c) : σ' = σ := by
  cases σ; cases σ'
  obtain ⟨a, b, d, e, f⟩ := k
  simp only at a b f
  have d1 := d h1
  have e1 := e h1 h2
  simp only at d1 e1
  rw [a, b, d1, e1, f]

section
variable {C : Cfg} {P : Program} {σ : St}

theorem resV_keeps {v : Option AV} {r : Slot × St} {cl : Cls} (h : resV σ v = some r) : Keeps cl σ r.2 := by
  cases v with
  | none => cases h
  | some u => cases h; exact .same _ _
theorem move_keeps {x : Operand} {r : Slot × St} {cl : Cls} (h : opMove σ x = some r) : Keeps cl σ r.2 := by
  unfold opMove at h; split at h
  · cases h; exact .same _ _
  · cases h
theorem alloc_keeps {f : FuncId} {d : Option Nat} {e : TypeId} {cs : List AV} : Keeps .s σ (σ.alloc C f d e cs).2 := by
  unfold St.alloc; cases C.is f d 1 <;> exact ⟨rfl, rfl, fun h => absurd rfl h, fun h => absurd rfl h, rfl⟩
theorem newO_keeps {k e : Nat} {els : List (List AV)} : Keeps .c σ (σ.newO k e els).2 := ⟨rfl, rfl, fun _ => rfl, fun _ h => absurd rfl h, rfl⟩
theorem newR_keeps {k : Nat} {els : List (List AV)} : Keeps .c σ (σ.newR k els).2 := ⟨rfl, rfl, fun _ => rfl, fun _ h => absurd rfl h, rfl⟩
theorem newSlice_keeps {f : FuncId} {d : Option Nat} {k e : Nat} {els : List (List AV)} : Keeps .c σ (σ.newSlice C f d k e els).2 := by
  unfold St.newSlice; cases C.is f d 1
  · exact newO_keeps
  · exact newR_keeps
theorem write_keeps {new : List AV} {s : Slot} {σ' : St} (h : σ.write new s = some σ') : Keeps .s σ σ' := by
  have key : σ'.n = σ.n ∧ σ'.tm = σ.tm ∧ σ'.d = σ.d := by
    cases s with
    | unk => simp only [St.write] at h; cases h
    | lp k off =>
      simp only [St.write] at h
      split at h
      · split at h
        · obtain ⟨_, h⟩ := cond_some h; cases h; exact ⟨rfl, rfl, rfl⟩
        · cases h
      · cases h
    | v u =>
      cases u with
      | ptr id off =>
        simp only [St.write] at h
        split at h
        · split at h
          · obtain ⟨_, h⟩ := cond_some h
            split at h
            · cases h; exact ⟨rfl, rfl, rfl⟩
            · cases h
          · cases h
        · cases h
      | _ => cases h
  exact ⟨key.1, key.2.1, fun h => absurd rfl h, fun h => absurd rfl h, key.2.2⟩
theorem write_ptr_keeps {new : List AV} {id off : Nat} {σ' : St} (h : σ.write new (.v (.ptr id off)) = some σ') : Keeps .c σ σ' := by
  simp only [St.write] at h
  split at h
  · split at h
    · obtain ⟨_, h⟩ := cond_some h
      split at h
      · cases h; exact ⟨rfl, rfl, fun _ => rfl, fun _ h => absurd rfl h, rfl⟩
      · cases h
    · cases h
  · cases h
theorem back_keeps {r0 : Option (AV × Heap)} {r : Slot × St} (h : back σ r0 = some r) : Keeps .c σ r.2 := by
  unfold back at h
  split at h
  · cases h; exact ⟨rfl, rfl, fun _ => rfl, fun _ h => absurd rfl h, rfl⟩
  · cases h
theorem append_keeps {f : FuncId} {d : Option Nat} {types : Array TypeId} {s x : AV} {r : Slot × St} (h : evAppend C P σ f d types s x = some r) : Keeps .c σ r.2 := by
  unfold evAppend at h
  split at h
  · obtain ⟨_, h⟩ := cond_some h
    split at h
    · split at h
      · rename_i i hi
        cases hz : Nat.beq i.size 0 with
        | true => rw [hz] at h; cases h
        | false =>
          rw [hz] at h
          simp only [cond_false] at h
          split at h
          · rename_i new hnew
            obtain ⟨_, h⟩ := cond_some h
            unfold appendS at h
            split at h
            · cases hn : new.isEmpty with
              | true => rw [hn] at h; cases h; exact .same _ _
              | false =>
                rw [hn] at h
                simp only [cond_false, appendNil] at h
                obtain ⟨_, h⟩ := cond_some h
                cases h; exact newSlice_keeps
            · cases hn : new.isEmpty with
              | true => rw [hn] at h; cases h; exact .same _ _
              | false =>
                rw [hn] at h
                simp only [cond_false, appendO] at h
                obtain ⟨_, h⟩ := cond_some h
                split at h
                · cases h
                · split at h
                  · obtain ⟨_, h⟩ := cond_some h
                    split at h
                    · cases h; exact ⟨rfl, rfl, fun _ => rfl, fun _ h => absurd rfl h, rfl⟩
                    · cases h
                  · cases h
            · cases hn : new.isEmpty with
              | true => rw [hn] at h; cases h; exact .same _ _
              | false =>
                rw [hn] at h
                simp only [cond_false, appendR] at h
                obtain ⟨_, h⟩ := cond_some h
                split at h
                · split at h
                  · cases h; exact ⟨rfl, rfl, fun _ => rfl, fun _ h => absurd rfl h, rfl⟩
                  · cases h
                · cases h
            · cases h
          · cases h
      · cases h
    · cases h
  · cases h
theorem copy_keeps {types : Array TypeId} {s x : AV} {r : Slot × St} (h : evCopy P σ types s x = some r) : Keeps .c σ r.2 := by
  unfold evCopy at h
  split at h
  · split at h
    · split at h
      · rename_i k hk
        cases hz : Nat.beq k 0 with
        | true => rw [hz] at h; cases h
        | false =>
          rw [hz] at h
          simp only [cond_false] at h
          split at h
          · rename_i els n _ _
            obtain ⟨_, h⟩ := cond_some h
            unfold copyR at h
            cases hn : (els.take n).isEmpty with
            | true => rw [hn] at h; cases h; exact .same _ _
            | false =>
              rw [hn] at h
              simp only [cond_false] at h
              split at h
              · obtain ⟨_, h⟩ := cond_some h
                split at h
                · rename_i hw; cases h; exact write_ptr_keeps hw
                · cases h
              · cases h
          · cases h
      · cases h
    · cases h
  · cases h

theorem callP_pure {call : CallF} {g : FuncId} {args : List AV} {h h' : Heap} {v : AV} (hp : ((C.prim g).isNone && (C.fresh g || C.pure g)) = true) (hc : callP C call g args h = some (v, h')) : h' = h := by
  simp only [Bool.and_eq_true] at hp
  unfold callP at hc
  split at hc
  · rename_i p hq; rw [hq] at hp; cases hp.1
  · cases hf : C.fresh g with
    | true =>
      rw [hf] at hc
      simp only [cond_true] at hc
      split at hc
      · split at hc
        · split at hc
          · cases hc; rfl
          · cases hc
        · cases hc
      · cases hc
    | false =>
      have hp2 := hp.2
      rw [hf, Bool.false_or] at hp2
      rw [hf, hp2] at hc
      simp only [cond_true, cond_false] at hc
      split at hc
      · split at hc
        · cases hc; rfl
        · cases hc
      · cases hc

theorem op_keeps {call : CallF} {f : FuncId} {o : Oper} {r : Slot × St} (h : evOp C P call f o σ = some r) : Keeps (clsOf C P f o) σ r.2 := by
  unfold evOp at h
  unfold clsOf
  split at h <;> rename_i ho <;> try rw [ho]
  · exact move_keeps h
  · exact move_keeps h
  · unfold opPick at h
    split at h
    · rename_i q _; cases q <;> exact move_keeps h
    · cases h
  · unfold opAlloc at h
    split at h
    · cases h; exact alloc_keeps
    · cases h
  · unfold opBox at h
    split at h
    · cases h; exact alloc_keeps
    · cases h
  · unfold opBuild at h
    split at h
    · exact resV_keeps h
    · cases h
  · unfold opBuildSlice at h
    split at h
    · split at h
      · split at h
        · obtain ⟨_, h⟩ := cond_some h
          split at h
          · cases h; exact newSlice_keeps
          · cases h
        · cases h
      · cases h
    · cases h
  · unfold opLoad at h
    have key : ∀ cl, Keeps cl σ r.2 := by
      intro cl
      split at h
      · rename_i s hs
        cases hq : C.is f o.dst 3 && isHeapPtr s with
        | true => rw [hq] at h; cases h
        | false => rw [hq] at h; exact resV_keeps h
      · cases h
    exact key _
  · unfold opStore at h
    split at h
    · split at h
      · split at h
        · obtain ⟨_, h⟩ := cond_some h
          split at h
          · rename_i hw; cases h; exact write_keeps hw
          · cases h
        · cases h
      · cases h
    · cases h
  · unfold opNil at h
    split at h
    · split at h <;> first | (cases h; exact .same _ _) | (cases h; done)
    · cases h
  · unfold opBin at h
    split at h
    · split at h
      · exact resV_keeps h
      · cases h
    · cases h
  · unfold opUn at h
    split at h
    · exact resV_keeps h
    · cases h
  · rename_i s d x
    unfold opConv at h
    split at h
    · unfold evConvert at h
      split at h
      · rename_i e hs hd
        have hd' : elemT P d = none := by simp [elemT, hd]
        simp only [hd']
        split at h
        · obtain ⟨_, h⟩ := cond_some h; exact resV_keeps h
        · cases h
      · rename_i e hs hd
        have hd' : elemT P d = some e := by simp [elemT, hd]
        simp only [hd']
        unfold toBytes at h
        split at h
        · rename_i sb _ _
          have hk : Keeps .c σ (σ.newO 1 e (byteEls sb)).2 := newO_keeps
          obtain ⟨_, h⟩ := cond_some h; cases h; exact hk
        · cases h
      · split at h
        · cases elemT P d <;> exact resV_keeps h
        · cases h
    · cases h
  · unfold opIface at h
    split at h
    · cases h; exact .same _ _
    · cases h
  · unfold opFunc at h
    split at h
    · split at h
      · cases h; exact .same _ _
      · cases h
    · cases h
  · unfold opMakeSlice at h
    split at h
    · obtain ⟨_, h⟩ := cond_some h
      unfold makeS at h
      split at h
      · obtain ⟨_, h2⟩ := cond_some h
        clear h
        have h3 := Option.some.inj h2
        subst h3
        have key : ∀ (b : Bool) k e els, Keeps .c σ (bif b then σ.newO k e els else σ.newR k els).2 := by
          intro b k e els; cases b
          · exact newR_keeps
          · exact newO_keeps
        exact key _ _ _ _
      · cases h
    · cases h
  · have key : ∀ cl, Keeps cl σ r.2 := by
      intro cl
      unfold opSlice at h
      split at h
      · cases h
      · split at h
        · split at h
          · exact resV_keeps h
          · cases h
        · cases h
    exact key _
  · unfold opFieldAddr at h
    split at h
    · split at h
      · split at h
        · obtain ⟨_, h⟩ := cond_some h
          split at h
          · cases h; exact .same _ _
          · cases h
        · cases h
      · cases h
    · cases h
  · unfold opField at h
    split at h
    · split at h
      · split at h
        · exact resV_keeps h
        · cases h
      · cases h
    · cases h
  · unfold opIndexAddr at h
    split at h
    · split at h
      · split at h
        · unfold addrSl at h
          split at h
          · split at h
            · split at h
              · obtain ⟨_, h⟩ := cond_some h; cases h; exact .same _ _
              · cases h
            · cases h
          · cases h
        · unfold addrR at h
          split at h
          · split at h
            · obtain ⟨_, h⟩ := cond_some h; cases h; exact .same _ _
            · cases h
          · cases h
        · unfold addrA at h
          split at h
          · split at h
            · split at h
              · cases h; exact .same _ _
              · cases h
            · cases h
          · cases h
      · cases h
    · cases h
  · unfold opIndex at h
    split at h
    · split at h
      · split at h
        · exact resV_keeps h
        · exact resV_keeps h
        · cases h
      · cases h
    · cases h
  · rename_i x xt t ok
    unfold opAssert at h
    have hf : ∀ {u : TypeId} {ok : Bool}, failAs P σ u ok = some r → Keeps .p σ r.2 := by
      intro u ok h
      unfold failAs at h
      obtain ⟨_, h⟩ := cond_some h
      split at h
      · cases h; exact .same _ _
      · cases h
    split at h
    · split at h
      · rename_i u v _
        cases hq : Nat.beq u t with
        | true => rw [hq] at h; cases h; exact .same _ _
        | false => rw [hq] at h; exact hf h
      · exact hf h
      · cases h
    · cases h
  · unfold opExtract at h
    split at h
    · exact resV_keeps h
    · cases h
  · rename_i c
    simp only []
    unfold clsCall
    unfold opCall at h
    split at h
    · cases h
    · split at h
      · rename_i b hb
        rw [hb]
        simp only []
        unfold evBuiltin at h
        split at h
        · split at h
          · exact resV_keeps h
          · cases h
        · split at h
          · exact append_keeps h
          · cases h
        · split at h
          · exact copy_keeps h
          · cases h
        · exact resV_keeps h
        · exact resV_keeps h
        · cases h
      · rename_i x hx
        rw [hx]
        unfold callVal at h
        split at h
        · rename_i g first cap hval
          have kc : Keeps .c σ r.2 := back_keeps h
          split
          · rename_i b hb; cases hb
          · rename_i g' hg'
            cases hg'
            cases hq : (C.prim g').isNone && (C.fresh g' || C.pure g') with
            | false => exact kc
            | true =>
              have : g = g' := by
                have := val_slot hval
                simp only [St.slot] at this
                cases this; rfl
              subst this
              simp only [cond_true]
              unfold back at h
              split at h
              · rename_i v h' hc
                have := callP_pure hq hc
                subst this
                cases h
                exact .same _ _
              · cases h
          · exact kc
        · cases h
      · rename_i x name hx
        rw [hx]
        unfold callMeth at h
        split at h
        · split at h
          · exact back_keeps h
          · cases h
        · cases h
  · cases h

end
end Go.Ef

/- Two steps that do not touch each other may change places. -/
namespace Go.Ef
open Go

def St.mem (σ : St) (loc : List LObj) (h : Heap) : St := { σ with loc := loc, h := h }
def memR (loc : List LObj) (h : Heap) (r : Slot × St) : Slot × St := (r.1, r.2.mem loc h)

section
variable {C : Cfg} {P : Program} {σ : St} {loc : List LObj} {hp : Heap}

theorem mem_slot (x : Operand) : (σ.mem loc hp).slot x = σ.slot x := by cases x <;> rfl
theorem mem_val (x : Operand) : (σ.mem loc hp).val x = σ.val x := by unfold St.val; rw [mem_slot]
theorem resV_mem (v : Option AV) : resV (σ.mem loc hp) v = (resV σ v).map (memR loc hp) := by cases v <;> rfl
theorem move_mem {x : Operand} : opMove (σ.mem loc hp) x = (opMove σ x).map (memR loc hp) := by
  unfold opMove; rw [mem_slot]; cases σ.slot x <;> rfl
theorem parts_mem : ∀ l : List (Nat × Operand), evParts (σ.mem loc hp) l = evParts σ l := by
  intro l
  induction l with
  | nil => rfl
  | cons p l ih =>
    obtain ⟨i, x⟩ := p
    simp only [evParts]
    rw [ih, mem_val]
theorem optVal_mem (x : Option Operand) : optVal (σ.mem loc hp) x = optVal σ x := by
  cases x with
  | none => rfl
  | some y => simp only [optVal]; rw [mem_val]

/- An operation that looks at slots alone. -/
theorem evOp_mem {call : CallF} {f : FuncId} {o : Oper} (h : clsOf C P f o = .p) : evOp C P call f o (σ.mem loc hp) = (evOp C P call f o σ).map (memR loc hp) := by
  unfold evOp
  unfold clsOf at h
  split <;> rename_i ho <;> try rw [ho] at h
  · exact move_mem
  · exact move_mem
  · rename_i c a b
    unfold opPick
    rw [mem_val]
    split
    · rename_i q _
      cases q
      · exact move_mem
      · exact move_mem
    · rfl
  · cases h
  · cases h
  · rename_i u parts
    unfold opBuild
    rw [parts_mem]
    cases evParts σ parts.toList with
    | none => rfl
    | some l => exact resV_mem _
  · cases h
  · simp only [] at h; cases hb : C.is f o.dst 3 <;> rw [hb] at h <;> cases h
  · cases h
  · rename_i x
    unfold opNil
    rw [mem_slot]
    cases σ.slot x with
    | none => rfl
    | some s =>
      simp only []
      split <;> first | rfl | skip
  · rename_i op u x y v
    unfold opBin
    rw [mem_val, mem_val]
    cases σ.val x with
    | none => rfl
    | some a =>
      cases σ.val y with
      | none => rfl
      | some b => exact resV_mem _
  · rename_i op u x
    unfold opUn
    rw [mem_val]
    split
    · exact resV_mem _
    · rfl
  · rename_i s d x
    simp only [] at h
    cases hd : elemT P d <;> rw [hd] at h <;> cases h
  · rename_i u x
    unfold opIface
    rw [mem_val]
    split <;> rfl
  · rename_i g first cap
    unfold opFunc
    rw [mapO_congr (f := (σ.mem loc hp).val) (g := σ.val) (l := first.toList) (fun x _ => mem_val x), mapO_congr (f := (σ.mem loc hp).val) (g := σ.val) (l := cap.toList) (fun x _ => mem_val x)]
    cases mapO σ.val first.toList with
    | none => rfl
    | some l => simp only []; cases mapO σ.val cap.toList <;> rfl
  · cases h
  · rename_i u x lo hi mx
    unfold opSlice
    cases mx with
    | some _ => rfl
    | none =>
      simp only []
      rw [mem_val, optVal_mem, optVal_mem]
      cases σ.val x with
      | none => rfl
      | some s =>
        simp only []
        cases optVal σ lo with
        | none => rfl
        | some l =>
          cases optVal σ hi with
          | none => rfl
          | some r =>
            simp only []
            have : evSlice P (σ.mem loc hp) u s l r = evSlice P σ u s l r := by
              unfold evSlice
              split <;> try rfl
              · unfold sliceArr
                cases hu : P.underlying u with
                | none => rfl
                | some d =>
                  cases d with
                  | array n e => simp only [hu] at h; cases h
                  | _ => rfl
            rw [this]
            exact resV_mem _
  · rename_i s x i
    unfold opFieldAddr
    rw [mem_slot]
    cases σ.slot x with
    | none => rfl
    | some p =>
      simp only []
      cases fieldsT P s with
      | none => rfl
      | some fs =>
        simp only []
        cases fs[i]? with
        | none => rfl
        | some fd =>
          simp only []
          cases Option.any (Nat.blt 0) (sizeT P fd.type)
          · rfl
          · simp only [cond_true]
            cases moveSlot p fd.offset <;> rfl
  · rename_i u x i
    unfold opField
    rw [mem_val]
    split
    · cases fieldsT P u with
      | none => rfl
      | some fs =>
        simp only []
        cases fs[i]? with
        | none => rfl
        | some fd => exact resV_mem _
    · rfl
  · rename_i u x i
    unfold opIndexAddr
    rw [mem_slot, mem_val]
    cases σ.slot x with
    | none => rfl
    | some s =>
      cases σ.val i with
      | none => rfl
      | some a =>
        simp only []
        split
        · rename_i els tok
          unfold addrSl
          cases elemT P u with
          | none => rfl
          | some e =>
            simp only []
            cases sizeT P e <;> cases idx els.length a <;> try rfl
            rename_i k j
            simp only []
            cases getI j els with
            | none => rfl
            | some l => simp only []; cases Nat.beq l.length k <;> rfl
        · rename_i id off len k
          unfold addrR
          cases elemT P u with
          | none => rfl
          | some e =>
            simp only []
            cases sizeT P e <;> cases idx len a <;> try rfl
            rename_i k' j
            simp only []
            cases Nat.beq k k' <;> rfl
        · unfold addrA
          cases arrT P u with
          | none => rfl
          | some ne =>
            obtain ⟨n, e⟩ := ne
            simp only []
            cases sizeT P e <;> cases idx n a <;> try rfl
            rename_i k j
            simp only []
            cases moveSlot s (j * k) <;> rfl
  · rename_i u x i
    unfold opIndex
    rw [mem_val, mem_val]
    cases σ.val x with
    | none => rfl
    | some v =>
      cases σ.val i with
      | none => rfl
      | some a =>
        simp only []
        split
        · exact resV_mem _
        · exact resV_mem _
        · rfl
  · rename_i x xt u ok
    unfold opAssert
    rw [mem_val]
    have hfail : failAs P (σ.mem loc hp) u ok = (failAs P σ u ok).map (memR loc hp) := by
      unfold failAs
      cases ok
      · rfl
      · simp only [cond_true]; cases zeroA P u <;> rfl
    split
    · split
      · rename_i q v _
        cases Nat.beq q u
        · exact hfail
        · rfl
      · exact hfail
      · rfl
    · rfl
  · rename_i x i
    unfold opExtract
    rw [mem_val]
    split
    · exact resV_mem _
    · rfl
  · rename_i c
    replace h : clsCall C c = .p := h
    unfold clsCall at h
    unfold opCall
    rw [mapO_congr (f := (σ.mem loc hp).val) (g := σ.val) (l := c.args.toList) (fun x _ => mem_val x)]
    cases mapO σ.val c.args.toList with
    | none => rfl
    | some args =>
      simp only []
      split
      · rename_i b hb
        rw [hb] at h
        replace h : clsBuiltin b = .p := h
        unfold evBuiltin
        cases b <;> simp only [clsBuiltin, reduceCtorEq] at h <;> exact resV_mem _
      · rename_i x hx
        rw [hx] at h
        split at h
        · rename_i hq; cases hq
        · rename_i g hq
          cases hb : (C.prim g).isNone && (C.fresh g || C.pure g) <;> rw [hb] at h <;> cases h
        · cases h
      · rename_i x name hx
        rw [hx] at h
        cases h
  · rfl

theorem load_heap {s : Slot} {u : TypeId} (h : isHeapPtr s = false) : ({ σ with h := hp } : St).load C P u s = σ.load C P u s := by
  have : ∀ n, ({ σ with h := hp } : St).read C n s = σ.read C n s := by
    intro n
    cases s with
    | unk => rfl
    | lp k off => rfl
    | v a => cases a <;> first | rfl | cases h
  unfold St.load; simp only [this]

theorem cls_l {f : FuncId} {o : Oper} (h : clsOf C P f o = .l) : ∃ u x, o.op = .load u x ∧ C.is f o.dst 3 = true := by
  unfold clsOf at h
  split at h <;> try (cases h; done)
  · rename_i u x ho
    cases hb : C.is f o.dst 3 with
    | false => rw [hb] at h; cases h
    | true => exact ⟨u, x, ho, rfl⟩
  · split at h <;> cases h
  · split at h <;> cases h
  · unfold clsCall at h
    split at h
    · rename_i b _
      cases b <;> cases h
    · rename_i g _
      cases hb : (C.prim g).isNone && (C.fresh g || C.pure g) <;> rw [hb] at h <;> cases h
    · cases h

theorem evOp_heap {call : CallF} {f : FuncId} {o : Oper} (h : clsOf C P f o = .l) : evOp C P call f o (σ.mem σ.loc hp) = (evOp C P call f o σ).map (memR σ.loc hp) := by
  obtain ⟨u, x, ho, hb⟩ := cls_l h
  unfold evOp
  rw [ho]
  simp only []
  unfold opLoad
  rw [mem_slot]
  cases σ.slot x with
  | none => rfl
  | some s =>
    simp only [hb, Bool.true_and]
    cases hs : isHeapPtr s with
    | true => rfl
    | false =>
      simp only [cond_false]
      rw [show (σ.mem σ.loc hp).load C P u s = σ.load C P u s from load_heap hs]
      exact resV_mem _

end
end Go.Ef

/- Two steps that do not touch each other may change places: the exchange. -/
namespace Go.Ef
open Go
noncomputable section

def half (C : Cfg) (P : Program) (call : CallF) (f : FuncId) (ops : Array Oper) (o : Oper) (σ : St) : Option (Slot × St) :=
  match wantedA ops o σ with
  | some true => evOp C P call f o σ
  | some false => some (.v (.sc undef), σ)
  | none => none

def tmPut (d : Option Nat) (s : Slot) (t : Tr Slot) : Tr Slot := match d with
  | none => t
  | some k => t.set k s
def fitsD (n : Nat) (d : Option Nat) : Bool := match d with
  | none => true
  | some k => !Nat.ble n k

section
variable {C : Cfg} {P : Program} {call : CallF} {f : FuncId} {ops : Array Oper} {o x y : Oper} {σ σ' : St}

theorem evStep_eq : evStep C P call f ops o σ = thenO (half C P call f ops o σ) fun r => r.2.put o.dst r.1 := by
  unfold evStep half
  cases wantedA ops o σ with
  | none => rfl
  | some b =>
    cases b with
    | false => rfl
    | true => simp only []; cases evOp C P call f o σ <;> rfl
theorem put_eq {d : Option Nat} {s : Slot} : σ.put d s = bif fitsD σ.n d then some (σ.wt (tmPut d s σ.tm)) else none := by
  cases d with
  | none => rfl
  | some k => simp only [St.put, fitsD, tmPut]; cases Nat.ble σ.n k <;> rfl
theorem step_split (h : evStep C P call f ops o σ = some σ') : ∃ s τ, half C P call f ops o σ = some (s, τ) ∧ fitsD τ.n o.dst = true ∧ σ' = τ.wt (tmPut o.dst s τ.tm) := by
  rw [evStep_eq] at h
  obtain ⟨r, h1, h2⟩ := thenO_some h
  rw [put_eq] at h2
  obtain ⟨h3, h4⟩ := cond_some h2
  exact ⟨r.1, r.2, h1, h3, by cases h4; rfl⟩
theorem step_join {s : Slot} {τ : St} (h : half C P call f ops o σ = some (s, τ)) (hf : fitsD τ.n o.dst = true) : evStep C P call f ops o σ = some (τ.wt (tmPut o.dst s τ.tm)) := by
  rw [evStep_eq, h]
  simp only [thenO]
  rw [put_eq, hf]; rfl

theorem slot_wt {t : Tr Slot} {k : Nat} (h : t.get k = σ.tm.get k) : (σ.wt t).slot (.tmp k) = σ.slot (.tmp k) := by
  simp only [St.slot, St.wt]; rw [h]
theorem wanted_wt {t : Tr Slot} (h : ∀ k ∈ reads ops o, t.get k = σ.tm.get k) : wantedA ops o (σ.wt t) = wantedA ops o σ := by
  unfold wantedA
  cases hg : o.guard with
  | none => rfl
  | some g =>
    obtain ⟨j, want⟩ := g
    simp only []
    cases hj : ops[j]? with
    | none => rfl
    | some oj =>
      simp only []
      cases hd : oj.dst with
      | none => rfl
      | some k =>
        simp only []
        rw [slot_wt (h k (by simp [reads, hg, hj, hd]))]
theorem half_wt {t : Tr Slot} (h : ∀ k ∈ reads ops o, t.get k = σ.tm.get k) : half C P call f ops o (σ.wt t) = (half C P call f ops o σ).map (mapR t) := by
  unfold half
  rw [wanted_wt h]
  cases wantedA ops o σ with
  | none => rfl
  | some b =>
    cases b with
    | false => rfl
    | true =>
      simp only []
      refine evOp_wt fun z hz => ?_
      cases z with
      | tmp k => exact slot_wt (h k (by simp only [reads, List.mem_append, List.mem_filterMap]; exact .inl ⟨_, hz, rfl⟩))
      | _ => rfl
theorem half_keeps {r : Slot × St} (h : half C P call f ops o σ = some r) : Keeps (clsOf C P f o) σ r.2 := by
  unfold half at h
  split at h
  · exact op_keeps h
  · cases h; exact .same _ _
  · cases h
theorem wanted_mem {loc : List LObj} {hp : Heap} : wantedA ops o (σ.mem loc hp) = wantedA ops o σ := rfl
theorem half_mem {loc : List LObj} {hp : Heap} (h : clsOf C P f o = .p) : half C P call f ops o (σ.mem loc hp) = (half C P call f ops o σ).map (memR loc hp) := by
  unfold half
  rw [wanted_mem]
  cases wantedA ops o σ with
  | none => rfl
  | some b =>
    cases b with
    | false => rfl
    | true => exact evOp_mem h
theorem half_heap {hp : Heap} (h : clsOf C P f o = .l) : half C P call f ops o (σ.mem σ.loc hp) = (half C P call f ops o σ).map (memR σ.loc hp) := by
  unfold half
  rw [wanted_mem]
  cases wantedA ops o σ with
  | none => rfl
  | some b =>
    cases b with
    | false => rfl
    | true => exact evOp_heap h

/- A quiet operation answers the same where only memory differs that it does not look at. -/
theorem half_quiet {cl : Cls} (hc : clash (clsOf C P f o) cl = false) (h1 : clsOf C P f o ≠ .s) (h2 : clsOf C P f o ≠ .c) (k : Keeps cl σ σ' ∨ Keeps cl σ' σ) {s : Slot} {τ : St} (h : half C P call f ops o σ = some (s, τ)) : half C P call f ops o σ' = some (s, σ') := by
  have ht : τ = σ := (half_keeps h).eq h1 h2
  subst ht
  have hn : σ'.n = τ.n := k.elim (·.n) (·.n.symm)
  have htm : σ'.tm = τ.tm := k.elim (·.tm) (·.tm.symm)
  have hd : σ'.d = τ.d := k.elim (·.d) (·.d.symm)
  have hl : cl ≠ .s → σ'.loc = τ.loc := fun e => k.elim (·.loc e) (fun k => (k.loc e).symm)
  have hh : cl ≠ .s → cl ≠ .c → σ'.h = τ.h := fun e e' => k.elim (·.h e e') (fun k => (k.h e e').symm)
  have hm : σ' = τ.mem σ'.loc σ'.h := by
    cases σ'; cases τ; simp only [St.mem] at *; subst hn; subst htm; subst hd; rfl
  cases hcl : clsOf C P f o with
  | s => exact absurd hcl h1
  | c => exact absurd hcl h2
  | p =>
    rw [hm, half_mem hcl, h]; rfl
  | l =>
    have hcs : cl ≠ .s := by intro e; subst e; rw [hcl] at hc; cases hc
    rw [hm, hl hcs, half_heap hcl, h]; rfl
  | q =>
    have hcs : cl ≠ .s := by intro e; subst e; rw [hcl] at hc; cases hc
    have hcc : cl ≠ .c := by intro e; subst e; rw [hcl] at hc; cases hc
    have : σ' = τ := by
      rw [hm, hl hcs, hh hcs hcc]; rfl
    rw [this]; exact h

theorem clash_symm (a b : Cls) : clash a b = clash b a := by cases a <;> cases b <;> rfl

theorem tmPut_get {d : Option Nat} {s : Slot} {t : Tr Slot} {k : Nat} (h : d ≠ some k) : (tmPut d s t).get k = t.get k := by
  cases d with
  | none => rfl
  | some j => simp only [tmPut]; rw [Tr.get_set, if_neg (by intro e; exact h (by rw [e]))]
theorem tmPut_comm {d e : Option Nat} {s u : Slot} {t : Tr Slot} (h : ∀ k, d = some k → e ≠ some k) : tmPut d s (tmPut e u t) = tmPut e u (tmPut d s t) := by
  cases d with
  | none => rfl
  | some j =>
    cases e with
    | none => rfl
    | some k => exact Tr.set_comm _ _ _ _ _ (by intro q; exact h j rfl (by rw [q]))
theorem meets_spec (h : meets ops x y = false) : (∀ k ∈ reads ops y, x.dst ≠ some k) ∧ (∀ k, x.dst = some k → y.dst ≠ some k) := by
  unfold meets at h
  cases hd : x.dst with
  | none => exact ⟨fun k _ e => by simp at e, fun k e => by simp at e⟩
  | some d =>
    rw [hd] at h
    simp only [Bool.or_eq_false_iff] at h
    obtain ⟨h1, h2⟩ := h
    refine ⟨fun k hk e => ?_, fun k e e' => ?_⟩
    · cases e
      have := List.any_eq_false.1 h1 d hk
      exact this (Nat.beq_refl d)
    · cases e
      rw [e'] at h2
      simp only [Nat.beq_refl] at h2
      cases h2

theorem swap {σ1 σ2 : St} (ha : apartOps C P f ops x y = true) (h1 : evStep C P call f ops x σ = some σ1) (h2 : evStep C P call f ops y σ1 = some σ2) :
    ∃ σ3, evStep C P call f ops y σ = some σ3 ∧ evStep C P call f ops x σ3 = some σ2 := by
  simp only [apartOps, Bool.and_eq_true, Bool.not_eq_true'] at ha
  obtain ⟨⟨hxy, hyx⟩, hc⟩ := ha
  obtain ⟨mx, md⟩ := meets_spec hxy
  obtain ⟨my, _⟩ := meets_spec hyx
  obtain ⟨sx, τx, hx, fx, rfl⟩ := step_split h1
  obtain ⟨sy, τy', hy, fy, rfl⟩ := step_split h2
  have kx := half_keeps hx
  rw [half_wt (fun k hk => tmPut_get (mx k hk))] at hy
  cases hy0 : half C P call f ops y τx with
  | none => rw [hy0] at hy; cases hy
  | some r =>
    obtain ⟨sy0, τy⟩ := r
    rw [hy0] at hy
    simp only [Option.map_some, mapR, Option.some.injEq, Prod.mk.injEq] at hy
    obtain ⟨rfl, rfl⟩ := hy
    have ky := half_keeps hy0
    by_cases hq : clsOf C P f x ≠ .s ∧ clsOf C P f x ≠ .c
    · have ht : τx = σ := kx.eq hq.1 hq.2
      subst ht
      refine ⟨_, step_join hy0 fy, ?_⟩
      have hx2 : half C P call f ops x τy = some (sx, τy) := half_quiet hc hq.1 hq.2 (.inl ky) hx
      have hx3 : half C P call f ops x (τy.wt (tmPut y.dst sy0 τy.tm)) = some (sx, τy.wt (tmPut y.dst sy0 τy.tm)) := by
        rw [half_wt (fun k hk => tmPut_get (my k hk)), hx2]; rfl
      have ntm : τy.tm = τx.tm := ky.tm
      have fx' : fitsD (τy.wt (tmPut y.dst sy0 τy.tm)).n x.dst = true := by
        show fitsD τy.n x.dst = true
        have hn : τy.n = τx.n := ky.n
        rw [hn]; exact fx
      rw [step_join hx3 fx']
      show some (τy.wt (tmPut x.dst sx (tmPut y.dst sy0 τy.tm))) = some (τy.wt (tmPut y.dst sy0 (tmPut x.dst sx τx.tm)))
      rw [ntm, tmPut_comm md]
    · have hxs : clsOf C P f x = .s ∨ clsOf C P f x = .c := by
        by_cases e : clsOf C P f x = .s
        · exact .inl e
        · by_cases e' : clsOf C P f x = .c
          · exact .inr e'
          · exact absurd ⟨e, e'⟩ hq
      have hys : clsOf C P f y ≠ .s ∧ clsOf C P f y ≠ .c := by
        refine ⟨fun e => ?_, fun e => ?_⟩ <;> rcases hxs with e' | e' <;> rw [e, e'] at hc <;> cases hc
      have ht : τy = τx := ky.eq hys.1 hys.2
      subst ht
      have hy2 : half C P call f ops y σ = some (sy0, σ) := half_quiet (by rw [clash_symm]; exact hc) hys.1 hys.2 (.inr kx) hy0
      have hn : τy.n = σ.n := kx.n
      have htm : τy.tm = σ.tm := kx.tm
      have fy' : fitsD τy.n y.dst = true := fy
      rw [hn] at fy'
      refine ⟨_, step_join hy2 fy', ?_⟩
      have hx3 : half C P call f ops x (σ.wt (tmPut y.dst sy0 σ.tm)) = some (sx, τy.wt (tmPut y.dst sy0 σ.tm)) := by
        rw [half_wt (fun k hk => tmPut_get (my k hk)), hx]; rfl
      rw [step_join hx3 fx]
      show some (τy.wt (tmPut x.dst sx (tmPut y.dst sy0 σ.tm))) = some (τy.wt (tmPut y.dst sy0 (tmPut x.dst sx τy.tm)))
      rw [htm, tmPut_comm md]

end
end
end Go.Ef

