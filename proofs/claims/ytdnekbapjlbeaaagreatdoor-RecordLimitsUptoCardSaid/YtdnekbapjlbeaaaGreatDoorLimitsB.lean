/- A part of the proof: definitions and lemmas. -/
import Derived.Test.YtdnekbapjlbeaaaGreatDoorLimitsA
import Derived.Laws.IdiomStrings
import Derived.Great.BuildSlice
import Derived.MapKept
import Derived.Scope
namespace Go.Ef
open Go
theorem foldl_size (off : Nat) : ∀ (l : List (Value × Nat)) (cs : Array Value), (l.foldl (fun cs (c, j) => cs.setIfInBounds (off + j) c) cs).size = cs.size
 | [], _ => rfl
 | x :: l, cs => by rw [List.foldl_cons, foldl_size off l]; simp
theorem foldl_get (off : Nat) : ∀ (l : List Value) (s : Nat) (cs : Array Value) (p : Nat), off + s + l.length ≤ cs.size →
  ((l.zipIdx s).foldl (fun cs (c, j) => cs.setIfInBounds (off + j) c) cs)[p]? = if off + s ≤ p ∧ p < off + s + l.length then l[p - (off + s)]? else cs[p]?
 | [], s, cs, p, _ => by simp; intro h1 h2; omega
 | x :: l, s, cs, p, h => by
  simp only [List.zipIdx_cons, List.foldl_cons]
  have hsz : off + s < cs.size := by simp at h; omega
  rw [foldl_get off l (s + 1) _ p (by simp at h ⊢; omega)]
  by_cases h1 : off + (s + 1) ≤ p ∧ p < off + (s + 1) + l.length
  ·rw [if_pos h1, if_pos (by simp; omega), show p - (off + s) = (p - (off + (s + 1))) + 1 by omega]
   simp
  ·rw [if_neg h1, Array.getElem?_setIfInBounds]
   by_cases h2 : off + s = p
   ·subst h2
    simp [hsz]
   ·rw [if_neg h2, if_neg (by simp; omega)]
theorem fill_rel {μ : M} {place place' : Nat → Option (Nat × Nat)} (hpl : ∀ i x, place i = some x → place' i = some x) : ∀ {parts : List (Nat × AV)} {parts' : List (Nat × Value)} {cells r : List AV} {cells' : Array Value},
  parts.length = parts'.length → (∀ (i : Nat) (n : Nat) (x : AV) (m : Nat) (y : Value), parts[i]? = some (n, x) → parts'[i]? = some (m, y) → n = m ∧ V μ x y) → V μ (.agg cells) (.agg cells') →
  fillA place cells parts = some r → ∃ r', Instr.fill place' cells' parts' = some r' ∧ V μ (.agg r) (.agg r') := by
 intro parts
 induction parts with
 | nil =>
  intro parts' cells r cells' hl _ hv h
  cases parts' with
  | nil => simp only [fillA] at h; cases h; exact ⟨cells', rfl, hv⟩
  | cons _ _ => simp at hl
 | cons p parts ih =>
  intro parts' cells r cells' hl hp hv h
  obtain ⟨n, x⟩ := p
  cases parts' with
  | nil => simp at hl
  | cons q parts' =>
   obtain ⟨m, y⟩ := q
   obtain ⟨rfl, hxy⟩ := hp 0 n x m y rfl rfl
   simp only [fillA] at h
   split at h
   ·cases h
   ·rename_i off size hpn
    obtain ⟨hb, h⟩ := cond_some h
    split at h
    ·rename_i cs hs
     obtain ⟨s1, s2, s3⟩ := splice_spec hs
     obtain ⟨c1, c2⟩ := V.cells hxy
     cases hv with
     | agg v1 v2 =>
      have hsz : y.cells.size = size := by rw [← c1]; exact beq_true hb
      have hget := foldl_get off y.cells.toList 0 cells'
      have hv' : V μ (.agg cs) (.agg (y.cells.zipIdx.foldl (fun cs (c, j) => cs.setIfInBounds (off + j) c) cells')) := by
       have hfold : y.cells.zipIdx.foldl (fun cs (c, j) => cs.setIfInBounds (off + j) c) cells' = (y.cells.toList.zipIdx 0).foldl (fun cs (c, j) => cs.setIfInBounds (off + j) c) cells' := by
        rw [← Array.foldl_toList]; simp
       rw [hfold]
       refine .agg (by rw [s2, v1, foldl_size]) fun i u v hu hw => ?_
       rw [hget i (by simp; omega)] at hw
       rw [s3] at hu
       simp only [Nat.add_zero, Array.length_toList] at hw
       by_cases hin : off ≤ i ∧ i < off + x.cells.length
       ·rw [if_pos hin] at hu
        rw [if_pos (by omega)] at hw
        exact c2 _ u v hu (by simpa using hw)
       ·rw [if_neg hin] at hu
        rw [if_neg (by omega)] at hw
        exact v2 i u v hu hw
      obtain ⟨r', h1, h2⟩ := ih (by simpa using hl) (fun i a b c d he hf => hp (i + 1) a b c d (by simpa using he) (by simpa using hf)) hv' h
      refine ⟨r', ?_, h2⟩
      simp only [Instr.fill, hpl n _ hpn]
      rw [if_neg (by simp; omega)]
      exact h1
    ·cases h
theorem fill_len {place : Nat → Option (Nat × Nat)} : ∀ {parts : List (Nat × AV)} {cells r : List AV}, fillA place cells parts = some r → r.length = cells.length := by
 intro parts
 induction parts with
 | nil => intro cells r h; simp only [fillA] at h; cases h; rfl
 | cons p parts ih =>
  intro cells r h
  obtain ⟨n, x⟩ := p
  simp only [fillA] at h
  split at h
  ·cases h
  ·obtain ⟨_, h⟩ := cond_some h
   split at h
   ·rename_i cs hs
    rw [ih h, (splice_spec hs).2.1]
   ·cases h
theorem chunks_flatten (k : Nat) : ∀ (n : Nat) (cs : List AV), cs.length = n * k → (chunks n k cs).flatten = cs
 | 0, cs, h => by
  have : cs = [] := List.eq_nil_of_length_eq_zero (by simpa using h)
  subst this; rfl
 | n + 1, cs, h => by
  rw [Nat.succ_mul] at h
  simp only [chunks, List.flatten_cons]
  rw [chunks_flatten k n (cs.drop k) (by simp; omega)]
  exact List.take_append_drop k cs
section
variable {P : Program} {C : Cfg} {E : Ent} {L : List Nat} {μ : M} {σ : St} {a : Act} {w : World}
theorem parts_rel (R : Rel C E L μ σ a w) : ∀ {parts : List (Nat × Operand)} {l : List (Nat × AV)}, evParts σ parts = some l →
  l.length = (parts.map fun (i, x) => (i, a.eval x)).length ∧
  ∀ (i : Nat) (n : Nat) (x : AV) (m : Nat) (y : Value), l[i]? = some (n, x) → (parts.map fun (i, x) => (i, a.eval x))[i]? = some (m, y) → n = m ∧ V μ x y := by
 intro parts
 induction parts with
 | nil => intro l h; simp only [evParts] at h; cases h; exact ⟨rfl, fun i n x m y h => by simp at h⟩
 | cons p parts ih =>
  intro l h
  obtain ⟨i, x⟩ := p
  simp only [evParts] at h
  split at h
  ·rename_i v hv
   split at h
   ·rename_i l' hl'
    cases h
    obtain ⟨h1, h2⟩ := ih hl'
    refine ⟨by simpa using h1, fun j n u m y hu hy => ?_⟩
    cases j with
    | zero =>
     simp at hu hy
     obtain ⟨rfl, rfl⟩ := hu
     obtain ⟨rfl, rfl⟩ := hy
     exact ⟨rfl, val_rel R hv⟩
    | succ j => exact h2 j n u m y (by simpa using hu) (by simpa using hy)
   ·cases h
  ·cases h
theorem agg_cells {z : AV} {v : Value} (h : V μ z v) : V μ (.agg z.cells) (.agg v.cells) := by
 obtain ⟨h1, h2⟩ := V.cells h
 exact .agg h1 h2
theorem places_some : ∀ {fs : List Field}, (∀ f ∈ fs, (sizeT P f.type).isSome = true) → ∃ pl, fs.mapM (fun f => (P.info? f.type).map fun i => (f.offset, i.size)) = some pl ∧
  ∀ (i : Nat) (f : Field), fs[i]? = some f → ∀ n, sizeT P f.type = some n → pl[i]? = some (f.offset, n) := by
 intro fs
 induction fs with
 | nil => intro _; exact ⟨[], by simp, fun i f h => by simp at h⟩
 | cons f fs ih =>
  intro h
  obtain ⟨pl, h1, h2⟩ := ih fun g hg => h g (by simp [hg])
  have hf := h f (by simp)
  obtain ⟨n, hn⟩ := Option.isSome_iff_exists.1 hf
  obtain ⟨i0, hi0, hs0⟩ := sizeT_spec hn
  refine ⟨(f.offset, n) :: pl, by simp [List.mapM_cons, hi0, h1, hs0], fun i g hg m hm => ?_⟩
  cases i with
  | zero => simp at hg; subst hg; rw [hn] at hm; cases hm; rfl
  | succ i => exact h2 i g (by simpa using hg) m hm
theorem fine_build (R : Rel C E L μ σ a w) {o : Oper} {t : TypeId} {parts : Array (Nat × Operand)} {r : Slot × St} (ho : o.op = .build t parts) (h : opBuild P σ t parts = some r) : Fine P C E a w o r := by
 unfold opBuild at h
 split at h
 ·rename_i l hl
  obtain ⟨p1, p2⟩ := parts_rel R hl
  have hparts : (parts.map fun (i, x) => (i, a.eval x)).toList = parts.toList.map fun (i, x) => (i, a.eval x) := by simp
  rw [← hparts] at p1 p2
  refine (give_res R (m := Instr.build t (parts.map fun (i, x) => (i, a.eval x))) h fun u hu => ?_).fine (by simp [execOp, ho])
  have fin : ∀ cells r, P.built t (parts.map fun (i, x) => (i, a.eval x)).toList = some cells → V μ (.agg r) (.agg cells) → u = .agg r → ∃ c, (Instr.build t (parts.map fun (i, x) => (i, a.eval x))).run P w = .ok c w ∧ V μ u c := by
   intro cells r hb hv hu
   exact ⟨_, run_build w t _ cells hb, hu ▸ hv⟩
  unfold evBuild at hu
  split at hu
  ·rename_i z hz
   obtain ⟨i, v, hi, hzv, ho2⟩ := zeroA_spec hz
   have hzr := agg_cells (ofVal_V 2 v z ho2 μ)
   split at hu
   ·rename_i fields hus
    obtain ⟨hall, hu⟩ := cond_some hu
    cases hf : fillA (placeS P fields) z.cells l with
    | none => rw [hf] at hu; cases hu
    | some r =>
     rw [hf] at hu
     obtain ⟨pl, hpl, hpl2⟩ := places_some (P := P) (fs := fields.toList) (fun f hf => by
      have := Array.all_eq_true_iff_forall_mem.1 hall f (by simpa using hf)
      exact this)
     obtain ⟨r', h1, h2⟩ := fill_rel (place' := (pl.toArray[·]?)) (fun i x hx => by
      unfold placeS at hx
      split at hx
      ·rename_i f hf'
       split at hx
       ·rename_i n hn
        cases hx
        simpa using hpl2 i f (by simpa using hf') n hn
       ·cases hx
      ·cases hx) p1 p2 hzr hf
     exact fin r' r (by unfold Program.built; simp only [hi, hus, hzv, hpl]; exact h1) h2 (Option.some.inj hu).symm
   ·rename_i n e hus
    split at hu
    ·rename_i k hk
     obtain ⟨ie, hie, rfl⟩ := sizeT_spec hk
     cases hf : fillA (fun i => some (i * ie.size, ie.size)) z.cells l with
     | none => rw [hf] at hu; cases hu
     | some r =>
      rw [hf] at hu
      obtain ⟨r', h1, h2⟩ := fill_rel (place' := fun i => some (i * ie.size, ie.size)) (fun i x hx => hx) p1 p2 hzr hf
      exact fin r' r (by unfold Program.built; simp only [hi, hus, hzv, hie]; exact h1) h2 (Option.some.inj hu).symm
    ·cases hu
   ·cases hu
  ·cases hu
 ·cases h
theorem give_newO (R : Rel C E L μ σ a w) {k n cap : Nat} {els : List (List AV)} {w' : World} {c : Array Value} {t : TypeId} {fz : Nat × Nat} {m : Sem Value} (G : Grew w w' (.cells c t fz)) (hk : ∀ e ∈ els, e.length = k) (hn : n = els.length) (hcap : n ≤ cap)
  (hsz : cap * k ≤ c.size) (hfz : c.size ≤ fz.1 ∨ fz.2 = 0) (hb : Begins μ c els.flatten) (hr : m.run P w = .ok (.slice (some ⟨w.heap.size, 0, none⟩) n cap) w') : Gives P C E a w m (.v (σ.newO k t els).1, (σ.newO k t els).2) := by
 obtain ⟨ν, h1, h2, h3⟩ := R.world.growOwn G hk hn hcap hsz hfz hb
 subst hn
 exact ⟨_, _, hr, L, ν, R.step h2 h1, h3⟩
theorem give_newR (R : Rel C E L μ σ a w) {k n cap : Nat} {els : List (List AV)} {w' : World} {c : Array Value} {t : TypeId} {fz : Nat × Nat} {m : Sem Value} (G : Grew w w' (.cells c t fz)) (hn : n = els.length) (hcap : n ≤ cap)
  (hsz : cap * k ≤ c.size) (hfz : c.size ≤ fz.1 ∨ fz.2 = 0) (hb : Begins μ c els.flatten) (hr : m.run P w = .ok (.slice (some ⟨w.heap.size, 0, none⟩) n cap) w') : Gives P C E a w m (.v (σ.newR k els).1, (σ.newR k els).2) := by
 obtain ⟨ν, h1, h2, h3⟩ := R.world.growRow (k := k) G hcap hsz hfz hb
 subst hn
 exact ⟨_, _, hr, L, ν, R.step h2 h1, h3⟩
theorem give_newSlice (R : Rel C E L μ σ a w) {f : FuncId} {d : Option Nat} {k n cap : Nat} {els : List (List AV)} {w' : World} {c : Array Value} {t : TypeId} {fz : Nat × Nat} {m : Sem Value} (G : Grew w w' (.cells c t fz)) (hk : ∀ e ∈ els, e.length = k) (hn : n = els.length) (hcap : n ≤ cap)
  (hsz : cap * k ≤ c.size) (hfz : c.size ≤ fz.1 ∨ fz.2 = 0) (hb : Begins μ c els.flatten) (hr : m.run P w = .ok (.slice (some ⟨w.heap.size, 0, none⟩) n cap) w') : Gives P C E a w m (.v (σ.newSlice C f d k t els).1, (σ.newSlice C f d k t els).2) := by
 unfold St.newSlice
 cases C.is f d 1 with
 | true => exact give_newR R G hn hcap hsz hfz hb hr
 | false =>
  simp only [cond_false]
  cases hp : C.is f d 6 && plainEls els with
  | false => exact give_newO R G hk hn hcap hsz hfz hb hr
  | true =>
   simp only [Bool.and_eq_true] at hp
   obtain ⟨ν, h1, h2, h3⟩ := R.world.growImm G hk hn hcap hb fun e he x hx y hv => plain_V 6 x (List.all_eq_true.1 (List.all_eq_true.1 hp.2 e he) x hx) hv
   exact ⟨_, _, hr, L, ν, R.step h2 h1, h3⟩
theorem give_litSlice (R : Rel C E L μ σ a w) {f : FuncId} {d : Option Nat} {k n cap : Nat} {els : List (List AV)} {w' : World} {c : Array Value} {t : TypeId} {fz : Nat × Nat} {m : Sem Value} (G : Grew w w' (.cells c t fz)) (hk : ∀ e ∈ els, e.length = k) (hn : n = els.length) (hcap : n ≤ cap)
  (hsz : cap * k ≤ c.size) (hfz : c.size ≤ fz.1 ∨ fz.2 = 0) (hb : Begins μ c els.flatten) (hr : m.run P w = .ok (.slice (some ⟨w.heap.size, 0, none⟩) n cap) w') {r : Slot × St} (h : σ.litSlice C f d k t els = some r) : Gives P C E a w m r := by
 unfold St.litSlice at h
 cases h7 : C.is f d 7 with
 | false =>
  rw [h7] at h
  cases h
  exact give_newSlice R G hk hn hcap hsz hfz hb hr
 | true =>
  rw [h7] at h
  simp only [cond_true] at h
  obtain ⟨hp, h⟩ := cond_some h
  cases h
  obtain ⟨ν, h1, h2, h3⟩ := R.world.growImm G hk hn hcap hb fun e he x hx y hv => plain_V 6 x (List.all_eq_true.1 (List.all_eq_true.1 hp e he) x hx) hv
  exact ⟨_, _, hr, L, ν, R.step h2 h1, h3⟩
theorem flatten_replicate_get {z : List AV} {n k : Nat} (hk : z.length = k) : (List.replicate n z).flatten.length = n * k ∧ ∀ (p : Nat) (x : AV), (List.replicate n z).flatten[p]? = some x → z[p % k]? = some x ∧ p < n * k := by
 have hall : ∀ e ∈ List.replicate n z, e.length = k := fun e he => by rw [List.eq_of_mem_replicate he]; exact hk
 obtain ⟨h1, h2⟩ := flatten_get hall
 rw [List.length_replicate] at h1
 refine ⟨h1, fun p x hx => ?_⟩
 have hp : p < n * k := h1 ▸ lt_of_get? hx
 have hk0 : 0 < k := by
  rcases Nat.eq_zero_or_pos k with h0 | h0
  ·simp [h0] at hp
  ·exact h0
 have hpe : p / k * k + p % k = p := by rw [Nat.mul_comm]; exact Nat.div_add_mod p k
 have := h2 (p / k) z (p % k) (by simp [List.getElem?_replicate]; exact Nat.div_lt_of_lt_mul (by rw [Nat.mul_comm]; exact hp)) (Nat.mod_lt _ hk0)
 rw [hpe, hx] at this
 exact ⟨this.symm, hp⟩
theorem zero_begins {z : AV} {v : Value} {n k : Nat} (hv : V μ z v) (hk : z.cells.length = k) {c : Array Value} {q : Nat} (hq : n ≤ q) (hc : c = madeCells v.cells (q * k)) :
  Begins μ c (List.replicate n z.cells).flatten := by
 obtain ⟨f1, f2⟩ := flatten_replicate_get (n := n) hk
 obtain ⟨v1, v2⟩ := V.cells hv
 subst hc
 have hle : n * k ≤ q * k := Nat.mul_le_mul_right _ hq
 refine ⟨by rw [f1, size_madeCells]; exact hle, fun i x hx => ?_⟩
 obtain ⟨g1, g2⟩ := f2 i x hx
 have hk0 : 0 < k := by
  rcases Nat.eq_zero_or_pos k with h0 | h0
  ·simp [h0] at g2
  ·exact h0
 have hlt : i % k < v.cells.size := by rw [← v1, hk]; exact Nat.mod_lt _ hk0
 refine ⟨v.cells[i % k]'hlt, ?_, v2 _ _ _ g1 (Array.getElem?_eq_getElem hlt)⟩
 have : i < q * k := by omega
 simp only [madeCells, Array.getElem?_map, Array.getElem?_range, this, if_true, Option.map_some]
 rw [← v1, hk, getElem!_pos v.cells (i % k) hlt]
theorem fine_makeSlice (R : Rel C E L μ σ a w) {o : Oper} {t : TypeId} {x y : Operand} {f : FuncId} {r : Slot × St} (ho : o.op = .makeSlice t x y) (h : opMakeSlice C P σ f o.dst t x y = some r) : Fine P C E a w o r := by
 unfold opMakeSlice at h
 split at h
 ·rename_i kl l kc c e hl hc he
  obtain ⟨hb, h⟩ := cond_some h
  simp only [Bool.and_eq_true, decide_eq_true_eq] at hb
  obtain ⟨⟨b1, b2⟩, b3⟩ := hb
  unfold makeS at h
  split at h
  ·rename_i i z hi hz
   obtain ⟨hq, h⟩ := cond_some h
   simp only [Bool.and_eq_true] at hq
   obtain ⟨⟨q1, q2⟩, q3⟩ := hq
   obtain ⟨i', v, hi', hzv, ho2⟩ := zeroA_spec hz
   rw [hi] at hi'; cases hi'
   have q1 := ble_true q1
   have q2 := beq_true q2
   have hbnd : maxRoom = 140737488355328 := by decide
   have hbytes : (i.bytes : Int) * c ≤ 281474976710656 := by
    have e1 : (i.bytes : Int) * c = ((c.toNat * i.bytes : Nat) : Int) := by
     rw [Int.natCast_mul, Int.toNat_of_nonneg (by omega), Int.mul_comm]
    rw [e1]; omega
   have hrun := run_make (P := P) w t e i v (elemT_spec he) hi hzv kl kc l c b1 b2 hbytes (by omega)
   have hv := ofVal_V 2 v z ho2 μ
   have hk : ∀ e ∈ List.replicate l.toNat z.cells, e.length = i.size := fun e he => by rw [List.eq_of_mem_replicate he]; exact q2
   have hbeg : Begins μ (madeCells v.cells (c.toNat * i.size)) (List.replicate l.toNat z.cells).flatten := zero_begins hv q2 (by omega) rfl
   have G := grew_alloc w (.cells (madeCells v.cells (c.toNat * i.size)) e)
   have hx := V.sc_eq (val_rel R hl)
   have hy := V.sc_eq (val_rel R hc)
   have hg : Gives P C E a w (Instr.makeSlice t (a.eval x) (a.eval y)) r := by
    rw [hx, hy]
    cases hm : C.is f o.dst 2 || Nat.beq l.toNat 0 with
    | true =>
     rw [hm] at h
     simp only [cond_true] at h
     have h := Option.some.inj h
     subst h
     exact give_newO R G hk (by simp) (by omega) (by rw [size_madeCells]; exact Nat.le_refl _) (.inr rfl) hbeg hrun
    | false =>
     rw [hm] at h
     simp only [cond_false] at h
     have h := Option.some.inj h
     subst h
     exact give_newR R G (by simp) (by omega) (by rw [size_madeCells]; exact Nat.le_refl _) (.inr rfl) hbeg hrun
   exact hg.fine (by simp [execOp, ho])
  ·cases h
 ·cases h
theorem fine_buildSlice (R : Rel C E L μ σ a w) {o : Oper} {t : TypeId} {len : Nat} {parts : Array (Nat × Operand)} {f : FuncId} {r : Slot × St} (ho : o.op = .buildSlice t len parts) (h : opBuildSlice C P σ f o.dst t len parts = some r) : Fine P C E a w o r := by
 unfold opBuildSlice at h
 split at h
 ·rename_i l hl
  obtain ⟨p1, p2⟩ := parts_rel R hl
  have hparts : (parts.map fun (i, x) => (i, a.eval x)).toList = parts.toList.map fun (i, x) => (i, a.eval x) := by simp
  rw [← hparts] at p1 p2
  split at h
  ·rename_i e he
   split at h
   ·rename_i k z hk hz
    obtain ⟨hq, h⟩ := cond_some h
    simp only [Bool.and_eq_true] at hq
    obtain ⟨⟨q1, q2⟩, q3⟩ := hq
    have q1 := ble_true q1
    have q2 := beq_true q2
    have q3 := ble_true q3
    obtain ⟨i, v, hi, hzv, ho2⟩ := zeroA_spec hz
    obtain ⟨i', hi', rfl⟩ := sizeT_spec hk
    rw [hi] at hi'; cases hi'
    have hv := ofVal_V 2 v z ho2 μ
    split at h
    ·rename_i cs hf
     obtain ⟨f1, f2⟩ := flatten_replicate_get (n := len) q2
     obtain ⟨b1, b2⟩ := zero_begins hv q2 (Nat.le_refl len) rfl
     have hzr : V μ (.agg (List.replicate len z.cells).flatten) (.agg (madeCells v.cells (len * i.size))) := by
      refine .agg (by rw [f1, size_madeCells]) fun p x y hx hy => ?_
      obtain ⟨y', hy', hv'⟩ := b2 p x hx
      rw [hy] at hy'; cases hy'; exact hv'
     obtain ⟨r', h1, h2⟩ := fill_rel (place' := fun j => some (j * i.size, i.size)) (fun i x hx => hx) p1 p2 hzr hf
     cases h2 with
     | agg a1 a2 =>
      have hcs : cs.length = len * i.size := by
       have := fill_len hf
       rw [this, f1]
      have hchunk := chunks_get i.size len cs hcs
      have hk2 : ∀ e ∈ chunks len i.size cs, e.length = i.size := by
       intro e he
       obtain ⟨j, hj, rfl⟩ := List.getElem_of_mem he
       exact (hchunk j _ (List.getElem?_eq_getElem hj)).1
      have hflat : (chunks len i.size cs).flatten = cs := chunks_flatten i.size len cs hcs
      refine (give_litSlice R (f := f) (d := o.dst) (k := i.size) (els := chunks len i.size cs) (n := len) (cap := len) (grew_alloc w (.cells r' e)) hk2 (chunks_length _ _ _).symm (Nat.le_refl _) (by omega) (.inr rfl) ?_ (m := Instr.buildSlice t len (parts.map fun (i, x) => (i, a.eval x))) ?_ h).fine (by simp [execOp, ho])
      ·rw [hflat]
       refine ⟨by omega, fun p x hx => ?_⟩
       have hp : p < r'.size := a1 ▸ lt_of_get? hx
       exact ⟨_, Array.getElem?_eq_getElem hp, a2 p x _ hx (Array.getElem?_eq_getElem hp)⟩
      ·by_cases h0 : len * i.size = 0
       ·have hl0 : len = 0 := by
         rcases Nat.mul_eq_zero.1 h0 with q | q
         ·exact q
         ·omega
        subst hl0
        simp only [Nat.zero_mul] at h1
        have hm0 : madeCells v.cells 0 = #[] := by simp [madeCells]
        rw [hm0] at h1
        have e1 : ∀ g : Nat → Value, (Array.range 0).map g = #[] := fun g => by simp
        rw [Array.toList_map] at h1
        simp [Instr.buildSlice, run_underlying (elemT_spec he), sizeOf, typeInfo, hi, newRow, e1, h1]
       ·exact run_buildSlice w t e len _ r' i v (elemT_spec he) hi hzv (by omega) h0 h1
    ·cases h
   ·cases h
  ·cases h
 ·cases h
end
end Go.Ef
namespace Go.Ef
open Go
theorem isRowT_spec {P : Program} {u : TypeId} (h : isRowT P u = true) : (∃ e, P.underlying u = some (.slice e)) ∨ P.underlying u = some .string := by
 unfold isRowT at h
 split at h
 ·rename_i e he; exact .inl ⟨e, he⟩
 ·rename_i he; exact .inr he
 ·cases h
section
variable {P : Program} {w : World} {t u ty e : TypeId} {i : TypeInfo} {z : Value}
theorem run_append_in (ht : P.underlying t = some (.slice e)) (hu : isRowT P u = true) (hi : P.info? e = some i) {b o sLen sCap m : Nat} {x : Value} {news : List Value} (hlen : (Builtin.lenOf x).run P w = .ok m w) (hnew : (Builtin.firstCells i.size m x).run P w = .ok ⟨news⟩ w)
  (hroom : sLen + m ≤ sCap) (hc : ∀ j, j < news.length → (w.cell? ⟨b, o + sLen * i.size + j, none⟩).isSome = true) (hf : ∀ j, j < news.length → w.frozen? ⟨b, o + sLen * i.size + j, none⟩ = false) (h1 : ∀ v ∈ news, v.oneCell' = true) :
  (Builtin.append_ #[t, u] ty #[.slice (some ⟨b, o, none⟩) sLen sCap, x]).run P w = .ok (.slice (some ⟨b, o, none⟩) (sLen + m) sCap) (w.setCells b (o + sLen * i.size) news) := by
 have hst := run_storeCells_cells (P := P) b (o + sLen * i.size) news 0 w (by simpa using hc) (by simpa using hf) h1
 simp only [Nat.add_zero] at hst
 rcases isRowT_spec hu with ⟨e2, hu⟩ | hu <;>
  simp [Builtin.append_, run_underlying ht, run_underlying hu, sizeOf, typeInfo, hi, hlen, hroom, hnew, Addr.add_lit, hst]
theorem run_append_zero (ht : P.underlying t = some (.slice e)) (hu : isRowT P u = true) (hi : P.info? e = some i) {base : Option Addr} {sLen sCap : Nat} {x : Value} (hlen : (Builtin.lenOf x).run P w = .ok 0 w) (hnew : (Builtin.firstCells i.size 0 x).run P w = .ok #[] w) (hroom : sLen ≤ sCap) :
  (Builtin.append_ #[t, u] ty #[.slice base sLen sCap, x]).run P w = .ok (.slice base sLen sCap) w := by
 rcases isRowT_spec hu with ⟨e2, hu⟩ | hu <;> cases base <;>
  simp [Builtin.append_, run_underlying ht, run_underlying hu, sizeOf, typeInfo, hi, hlen, hroom, hnew, storeCells]
theorem run_append_out (ht : P.underlying t = some (.slice e)) (hu : isRowT P u = true) (hi : P.info? e = some i) (hz : i.zero = some z) {base : Option Addr} {sLen sCap m : Nat} {x : Value} {olds news : List Value} (hlen : (Builtin.lenOf x).run P w = .ok m w) (hnew : (Builtin.firstCells i.size m x).run P w.drew = .ok ⟨news⟩ w.drew)
  (hold : (Builtin.firstCells i.size sLen (.slice base sLen sCap)).run P w.drew = .ok ⟨olds⟩ w.drew) (hg : sCap < sLen + m) (h63 : ((sLen + m : Nat) : Int) ≤ 9223372036854775807) (hfit : (sLen + m) * i.bytes ≤ 140737488355328) :
  (Builtin.append_ #[t, u] ty #[.slice base sLen sCap, x]).run P w =
   .ok (.slice (some ⟨w.heap.size, 0, none⟩) (sLen + m) (grownCap w (sLen + m) sCap e)) (w.drew.alloc (.cells (olds.toArray ++ news.toArray ++ Builtin.zeroCells z.cells (grownCap w (sLen + m) sCap e - (sLen + m))) e)) := by
 have hn : ¬ (sLen + m ≤ sCap) := by omega
 have h63' : ¬ (9223372036854775807 < ((sLen : Int) + (m : Int))) := by omega
 have h48 := growslice_fits hg hfit
 have h48' : ¬ (281474976710656 < Builtin.nextslicecap (sLen + m) sCap * i.bytes) := by omega
 rcases isRowT_spec hu with ⟨e2, hu⟩ | hu <;>
  (simp [Builtin.append_, run_underlying ht, run_underlying hu, sizeOf, typeInfo, zeroValue, hi, hz, hlen, hn, h63', h48', Question.forced, hnew, hold, newRow, grownCap]
   try (congr 2; apply Array.ext'; simp [List.append_assoc]))
end
theorem fits_spec {n b : Nat} (h : fits n b = true) : n * b ≤ 140737488355328 ∧ n ≤ 140737488355328 := by
 unfold fits at h
 simp only [Bool.and_eq_true] at h
 have hb : maxRoom = 140737488355328 := by decide
 exact ⟨hb ▸ ble_true h.1, hb ▸ ble_true h.2⟩
theorem grownCap_ge' (w : World) (need old : Nat) (e : TypeId) : need ≤ grownCap w need old e := by simp [grownCap, Question.cut]
theorem zeroCells_size (z : Array Value) (n : Nat) : (Builtin.zeroCells z n).size = n * z.size := by simp [Builtin.zeroCells]
section
variable {P : Program} {C : Cfg} {E : Ent} {L : List Nat} {μ : M} {σ : St} {a : Act} {w : World}
theorem flatten_app {els new : List (List AV)} {k : Nat} (h1 : ∀ e ∈ els, e.length = k) (h2 : ∀ e ∈ new, e.length = k) : ∀ e ∈ els ++ new, e.length = k := by
 intro e he
 rcases List.mem_append.1 he with h | h
 ·exact h1 e h
 ·exact h2 e h
theorem begins_two {cs ds : List AV} {olds news : List Value} {rest : Array Value} (h1 : cs.length = olds.length) (h2 : ds.length = news.length) (h3 : ∀ (i : Nat) (x : AV) (y : Value), cs[i]? = some x → olds[i]? = some y → V μ x y)
  (h4 : ∀ (i : Nat) (x : AV) (y : Value), ds[i]? = some x → news[i]? = some y → V μ x y) : Begins μ (olds.toArray ++ news.toArray ++ rest) (cs ++ ds) := by
 refine ⟨by simp; omega, fun i x hx => ?_⟩
 by_cases hi : i < cs.length
 ·rw [List.getElem?_append_left hi] at hx
  have ho : olds[i]? = some (olds[i]'(by omega)) := List.getElem?_eq_getElem (by omega)
  refine ⟨_, ?_, h3 i x _ hx ho⟩
  rw [Array.getElem?_append_left (by simp; omega), Array.getElem?_append_left (by simp; omega)]
  simp
 ·rw [List.getElem?_append_right (by omega)] at hx
  have hd := lt_of_get? hx
  have ho : news[i - cs.length]? = some (news[i - cs.length]'(by omega)) := List.getElem?_eq_getElem (by omega)
  refine ⟨_, ?_, h4 _ x _ hx ho⟩
  rw [Array.getElem?_append_left (by simp; omega), Array.getElem?_append_right (by simp; omega)]
  simp only [List.size_toArray]
  rw [← h1]
  simp
theorem rel_of_holds {c : Value} {k : Nat} {els : List (List AV)} {vals : List Value} (H : Holds μ w c k els vals) : els.flatten.length = vals.length := by
 rw [H.size]; exact (flatten_get H.lens).1
theorem give_append_nil (R : Rel C E L μ σ a w) {f : FuncId} {d : Option Nat} {t u ty e : TypeId} {i : TypeInfo} {x : Value} {new : List (List AV)} {vals : List Value} {r : Slot × St} (ht : P.underlying t = some (.slice e)) (hu : isRowT P u = true) (hi : P.info? e = some i)
  {z : Value} (hz : i.zero = some z) (hzs : z.cells.size = i.size) (H : Holds μ w x i.size new vals) (hne : new ≠ []) (h : appendNil C σ f d e i new = some r) : Gives P C E a w (Builtin.append_ #[t, u] ty #[.slice none 0 0, x]) r := by
 unfold appendNil at h
 obtain ⟨hb, h⟩ := cond_some h
 have h := Option.some.inj h
 subst h
 obtain ⟨b1, b2⟩ := fits_spec hb
 have hpos : 0 < new.length := List.length_pos_iff.2 hne
 have hrun := run_append_out (P := P) (w := w) (ty := ty) (base := none) (sLen := 0) (sCap := 0) (m := new.length) (olds := []) (news := vals) ht hu hi hz (H.len w)
  (by have := H.first (P := P) w.drew (fun _ => rfl) new.length (Nat.le_refl _); rwa [← H.size, List.take_length] at this) (by simp [Builtin.firstCells]) (by omega) (by omega) (by rw [Nat.zero_add]; exact b1)
 simp only [Nat.zero_add] at hrun
 refine give_newSlice R (f := f) (d := d) (grew_drew w _) H.lens rfl (grownCap_ge' w new.length 0 e) ?_ (.inr rfl) ?_ hrun
 ·simp only [Array.size_append, List.size_toArray, List.length_nil, Nat.zero_add, zeroCells_size, hzs, H.size]
  rw [← Nat.add_mul]
  have := grownCap_ge' w new.length 0 e
  exact Nat.le_of_eq (by congr 1; omega)
 ·have := begins_two (μ := μ) (cs := []) (ds := new.flatten) (olds := []) (news := vals) (rest := Builtin.zeroCells z.cells (grownCap w new.length 0 e - new.length)) rfl (rel_of_holds H) (fun i x y hx => by simp at hx) H.rel
  simpa using this
theorem sl1_of {els : List (List AV)} {id : Nat} {c : Value} (h : V μ (.sl els (id + 1)) c) : ∃ b o cap k, ∃ f : Nat → Nat → Value, c = .slice (some ⟨b, o, none⟩) els.length cap ∧ els.length ≤ cap ∧ (∀ e ∈ els, e.length = k) ∧
  (∀ (i : Nat) (e : List AV) (j : Nat) (x : AV), els[i]? = some e → e[j]? = some x → μ.imm b (o + i * k + j) = some (f i j)) ∧
  (∀ (i : Nat) (e : List AV) (j : Nat) (x : AV), els[i]? = some e → e[j]? = some x → V μ x (f i j)) ∧ TokOk μ id b o els.length cap k := by
 cases h with
 | sl1 h1 h2 h3 h4 h5 h6 => subst h1; exact ⟨_, _, _, _, _, rfl, h2, h3, h4, h5, h6⟩
theorem all_len {k : Nat} {els : List (List AV)} (h : ∀ e ∈ els, e.length = k) : (els.all fun e => Nat.beq e.length k) = true :=
 List.all_eq_true.2 fun e he => by rw [h e he]; exact Nat.beq_refl _
theorem give_append_own (R : Rel C E L μ σ a w) {t u ty e : TypeId} {i : TypeInfo} {x s : Value} {els new : List (List AV)} {tok : Nat} {vals : List Value} {r : Slot × St} (ht : P.underlying t = some (.slice e)) (hu : isRowT P u = true) (hi : P.info? e = some i)
  {z : Value} (hz : i.zero = some z) (hzs : z.cells.size = i.size) (hs : V μ (.sl els tok) s) (H : Holds μ w x i.size new vals) (hne : new ≠ []) (hones : ∀ v ∈ vals, v.oneCell' = true) (h : appendO σ e i els tok new = some r) :
  Gives P C E a w (Builtin.append_ #[t, u] ty #[s, x]) r := by
 unfold appendO at h
 simp only [lenL_eq, appL_eq] at h
 obtain ⟨hb, h⟩ := cond_some h
 simp only [Bool.and_eq_true] at hb
 obtain ⟨hb1, hb2⟩ := hb
 obtain ⟨b1, b2⟩ := fits_spec hb2
 have hpos : 0 < new.length := List.length_pos_iff.2 hne
 split at h
 ·cases h
 ·rename_i id _
  split at h
  ·rename_i k e' n hg
   obtain ⟨hk, h4⟩ := cond_some h
   clear h
   simp only [Bool.and_eq_true] at hk
   obtain ⟨⟨hk, he'⟩, hkn⟩ := hk
   have hkn := beq_true hkn
   subst hkn
   have hk := beq_true hk
   have he' := (beq_true he').symm
   subst hk
   subst he'
   split at h4
   ·rename_i h1 hp
    have h := Option.some.inj h4
    subst h
    have hlen : ∀ e ∈ els, e.length = i.size := by
     obtain ⟨_, _, _, k', _, _, _, hk', _, _, _⟩ := sl1_of hs
     intro e he
     rw [hk' e he]
     cases els with
     | nil => cases he
     | cons e0 es => rw [← hk' e0 (by simp)]; exact beq_true hb1
    obtain ⟨olds, Hs⟩ := elems_rel R hs (k := i.size) (els := els) (by simp only [St.elems]; rw [show (els.all fun e => Nat.beq e.length i.size) = true from all_len hlen]; rfl)
    obtain ⟨b, o, cap, k', c, rfl, hcap, hk', himm, hV, htok⟩ := sl1_of hs
    obtain ⟨B, En, Rm, hown, hO⟩ := R.world.own id _ _ _ hg
    have hid0 : id ≠ 0 := by rintro rfl; rw [R.world.zero] at hg; cases hg
    have hnk : els.length * k' = els.length * i.size := by
     cases els with
     | nil => simp
     | cons e0 es => rw [← hk' e0 (by simp), hlen e0 (by simp)]
    have htok' : (cap = 0 ∧ Rm = 0) ∨ (B = b ∧ En = o + els.length * i.size ∧ cap = els.length + Rm) := by
     rcases htok with h0 | ⟨B', E', R', m', q1, _, q2⟩
     ·exact absurd h0 hid0
     ·rw [hown] at q1; cases q1
      have q2 := q2 rfl
      rw [hnk] at q2; exact q2
    obtain ⟨p1, p2, p3⟩ := put_rest hp
    have hall := flatten_app hlen H.lens
    have hfn := rel_of_holds H
    obtain ⟨f1, f2⟩ := flatten_get H.lens
    by_cases hroom : els.length + new.length ≤ cap
    ·-- in place
     obtain ⟨rfl, rfl, hcapR⟩ : B = b ∧ En = o + els.length * i.size ∧ cap = els.length + Rm := by
      rcases htok' with ⟨q1, _⟩ | q
      ·omega
      ·exact q
     have hmR : new.length * i.size ≤ Rm * i.size := Nat.mul_le_mul_right _ (by omega)
     have hvl := H.size
     obtain ⟨ns, hshape, hfit⟩ := hO.shape
     have hcell : ∀ j, j < vals.length → (w.cell? ⟨B, o + els.length * i.size + j, none⟩).isSome = true := fun j hj => cell_of_shape hshape (by omega)
     have hrun := run_append_in (P := P) (w := w) (ty := ty) (b := B) (o := o) (sLen := els.length) (sCap := cap) (m := new.length) ht hu hi (H.len w)
      (by have := H.first (P := P) w (fun _ => rfl) new.length (Nat.le_refl _); rwa [← H.size, List.take_length] at this) hroom hcell (fun j hj => hO.free _ (by omega) (by omega)) hones
     have hblk : μ.blk σ.h id = some B := by simp [M.blk, hg, hown]
     obtain ⟨r1, r2, r3⟩ := sc_rest B vals (o + els.length * i.size) w
     have l1 := le_addImm (μ := μ) (b := B) (o := o + els.length * i.size) (n := new.length * i.size) (f := fun p => vals[p - (o + els.length * i.size)]?) (fun p q1 q2 => hO.imm p q1 (by omega))
     have l2 := le_bumpOwn (μ := μ.addImm B (o + els.length * i.size) (new.length * i.size) (fun p => vals[p - (o + els.length * i.size)]?)) (id := id) (b' := B) (e' := o + els.length * i.size + new.length * i.size) (q' := Rm - new.length) (n' := els.length + new.length) (show _ = some (B, o + els.length * i.size, Rm, els.length) from hown) (by omega)
     have l := l1.trans l2
     have hin := World.cell?_setCells_in B vals (o + els.length * i.size) w hcell
     have hout : ∀ (p : Nat), (p < o + els.length * i.size ∨ o + els.length * i.size + vals.length ≤ p) → (w.setCells B (o + els.length * i.size) vals).cell? ⟨B, p, none⟩ = w.cell? ⟨B, p, none⟩ :=
      fun p hp => World.cell?_setCells_out B vals _ w _ (fun _ _ => hp)
     have hsub : Rm * i.size = new.length * i.size + (Rm - new.length) * i.size := by rw [← Nat.add_mul]; congr 1; omega
     obtain ⟨s1, s2⟩ := R.world.bump hg hblk hp (b' := B) (w' := w.setCells B (o + els.length * i.size) vals) (ν := (μ.addImm B (o + els.length * i.size) (new.length * i.size) (fun p => vals[p - (o + els.length * i.size)]?)).addOwn id (B, o + els.length * i.size + new.length * i.size, Rm - new.length, els.length + new.length))
      (fun r _ hr => sc_heap B r hr vals _ w) (Nat.le_of_eq (sc_size B vals _ w).symm) (fun r x hx => by rw [sc_shape]; exact hx) r1 r2 r3 l (fun _ => rfl) (fun j hj => if_neg hj) (fun b' p v hv => by
       have hv2 : (if b' = B ∧ o + els.length * i.size ≤ p ∧ p < o + els.length * i.size + new.length * i.size then vals[p - (o + els.length * i.size)]? else μ.imm b' p) = some v := hv
       clear hv
       by_cases e1 : b' = B ∧ o + els.length * i.size ≤ p ∧ p < o + els.length * i.size + new.length * i.size
       ·rw [if_pos e1] at hv2
        refine .inr ⟨.inl e1.1, ?_⟩
        rw [e1.1]
        have hj : p - (o + els.length * i.size) < vals.length := by omega
        have := hin _ hj
        rw [show o + els.length * i.size + (p - (o + els.length * i.size)) = p by omega] at this
        rw [this, ← hv2, List.getElem?_eq_getElem hj]
       ·rw [if_neg e1] at hv2
        by_cases e2 : b' = B
        ·subst e2
         refine .inr ⟨.inl rfl, ?_⟩
         rw [hout p (by omega)]
         exact R.world.imm _ _ _ hv2
        ·exact .inl ⟨e2, hv2⟩)
      (if_pos rfl) ⟨⟨ns, (sc_shape B B vals _ w).trans hshape, by omega⟩, fun p q1 q2 => (World.frozen?_setCells B vals _ w _).trans (hO.free p (by omega) (by omega)), fun p q1 q2 => by
       show (if B = B ∧ o + els.length * i.size ≤ p ∧ p < o + els.length * i.size + new.length * i.size then vals[p - (o + els.length * i.size)]? else μ.imm B p) = none
       rw [if_neg (by omega)]
       exact hO.imm p (by omega) (by omega)⟩ (.inl rfl)
     refine ⟨_, _, hrun, L, _, R.step s2 s1, ?_⟩
     show V _ (.sl (els ++ new) (id + 1)) _
     refine V.sl1 (k := i.size) (c := fun p j => if p < els.length then c p j else (vals[(p - els.length) * i.size + j]?).getD undef) (by simp) hroom hall (fun p e0 j y he hy => ?_) (fun p e0 j y he hy => ?_)
      (.inr ⟨_, _, _, _, if_pos rfl, Nat.le_refl _, fun _ => .inr ⟨rfl, by rw [Nat.add_mul]; omega, by omega⟩⟩)
     ·by_cases hpl : p < els.length
      ·rw [List.getElem?_append_left hpl] at he
       simp only [hpl, if_true]
       have := l.imm _ _ _ (himm p e0 j y he hy)
       have hkk : k' = i.size := by rw [← hk' e0 (List.mem_of_getElem? he), hlen e0 (List.mem_of_getElem? he)]
       rw [hkk] at this; exact this
      ·rw [List.getElem?_append_right (by omega)] at he
       simp only [hpl, if_false]
       have hj : j < i.size := by rw [← H.lens e0 (List.mem_of_getElem? he)]; exact lt_of_get? hy
       have hpn := lt_of_get? he
       have hidx := idx_lt (k := i.size) hpn hj
       have hpos2 : o + p * i.size + j = o + els.length * i.size + ((p - els.length) * i.size + j) := by
        have : p * i.size = els.length * i.size + (p - els.length) * i.size := by rw [← Nat.add_mul]; congr 1; omega
        omega
       rw [hpos2]
       show (if B = B ∧ o + els.length * i.size ≤ o + els.length * i.size + ((p - els.length) * i.size + j) ∧ o + els.length * i.size + ((p - els.length) * i.size + j) < o + els.length * i.size + new.length * i.size then vals[o + els.length * i.size + ((p - els.length) * i.size + j) - (o + els.length * i.size)]? else _) = _
       rw [if_pos ⟨rfl, by omega, by omega⟩, Nat.add_sub_cancel_left, List.getElem?_eq_getElem (by omega)]
       rfl
     ·by_cases hpl : p < els.length
      ·rw [List.getElem?_append_left hpl] at he
       simp only [hpl, if_true]
       exact (hV p e0 j y he hy).mono l
      ·rw [List.getElem?_append_right (by omega)] at he
       simp only [hpl, if_false]
       have hj : j < i.size := by rw [← H.lens e0 (List.mem_of_getElem? he)]; exact lt_of_get? hy
       have hpn := lt_of_get? he
       have hidx := idx_lt (k := i.size) hpn hj
       have hv : vals[(p - els.length) * i.size + j]? = some (vals[(p - els.length) * i.size + j]'(by omega)) := List.getElem?_eq_getElem (by omega)
       rw [hv]
       exact (H.rel _ y _ (by rw [f2 _ e0 j he hj]; exact hy) hv).mono l
    ·-- a new array
     have hrun := run_append_out (P := P) (w := w) (ty := ty) (base := some ⟨b, o, none⟩) (sLen := els.length) (sCap := cap) (m := new.length) (olds := olds) (news := vals) ht hu hi hz (H.len w)
      (by have := H.first (P := P) w.drew (fun _ => rfl) new.length (Nat.le_refl _); rwa [← H.size, List.take_length] at this)
      (by have := Hs.first (P := P) w.drew (fun _ => rfl) els.length (Nat.le_refl _); rwa [← Hs.size, List.take_length] at this) (by omega) (by omega) b1
     have hge := grownCap_ge' w (els.length + new.length) cap e
     obtain ⟨ν, g1, g2, g3⟩ := R.world.regrow (id := id) (m := els.length) (c := olds.toArray ++ vals.toArray ++ Builtin.zeroCells z.cells (grownCap w (els.length + new.length) cap e - (els.length + new.length))) (t := e) (fz := (0, 0)) (k := i.size) (n := els.length + new.length) (cap := grownCap w (els.length + new.length) cap e) (els := els ++ new) (grew_drew w _) hg hp (by omega) hall (by simp) hge (by
       simp only [Array.size_append, List.size_toArray, zeroCells_size, hzs, H.size, Hs.size]
       rw [← Nat.add_mul, ← Nat.add_mul]
       exact Nat.le_of_eq (by congr 1; omega)) (.inr rfl) (by
       rw [List.flatten_append]
       exact begins_two (rel_of_holds Hs) hfn Hs.rel H.rel)
     exact ⟨_, _, hrun, L, ν, R.step g2 g1, g3⟩
   ·cases h4
  ·cases h
theorem give_append_row (R : Rel C E L μ σ a w) {t u ty e : TypeId} {i : TypeInfo} {x s : Value} {new : List (List AV)} {id off len k : Nat} {vals : List Value} {r : Slot × St} (ht : P.underlying t = some (.slice e)) (hu : isRowT P u = true) (hi : P.info? e = some i)
  {z : Value} (hz : i.zero = some z) (hzs : z.cells.size = i.size) (hs : V μ (.rsl id off len k) s) (H : Holds μ w x i.size new vals) (hne : new ≠ []) (hones : ∀ v ∈ vals, v.oneCell' = true) (h : appendR σ i id off len k new = some r) :
  Gives P C E a w (Builtin.append_ #[t, u] ty #[s, x]) r := by
 unfold appendR at h
 obtain ⟨hb, h⟩ := cond_some h
 simp only [Bool.and_eq_true] at hb
 obtain ⟨hb1, hb2⟩ := hb
 have hk := beq_true hb1
 subst hk
 obtain ⟨b1, b2⟩ := fits_spec hb2
 have hpos : 0 < new.length := List.length_pos_iff.2 hne
 split at h
 ·rename_i cs hg
  split at h
  ·rename_i old h1 hst hp
   have h := Option.some.inj h
   subst h
   obtain ⟨s1, s2, s3⟩ := stretch_spec hst
   obtain ⟨B, base, sz, hrho, ok, hnoimm⟩ := R.world.cells id cs hg
   obtain ⟨olds, Hs⟩ := elems_rel R hs (k := i.size) (els := chunks len i.size old) (by simp only [St.elems, hg, hst]; simp)
   have hfo : (chunks len i.size old).flatten = old := chunks_flatten i.size len old s2
   have hol := rel_of_holds Hs
   have hor := Hs.rel
   rw [hfo] at hol hor
   have hsz' := Hs.size
   rw [chunks_length] at hsz'
   obtain ⟨p1, p2, p3⟩ := put_rest hp
   have hfn := rel_of_holds H
   obtain ⟨f1, f2⟩ := flatten_get H.lens
   cases hs with
   | rsl hrho' hcap hq =>
    rename_i cap b' base' sz' o
    rw [hrho] at hrho'; cases hrho'
    by_cases hroom : len + new.length ≤ cap
    ·obtain ⟨rfl, hfit⟩ : o = base + off ∧ o + cap * i.size ≤ sz := by
      rcases hq with q | q
      ·omega
      ·exact q
     have hcapm : (len + new.length) * i.size ≤ cap * i.size := Nat.mul_le_mul_right _ hroom
     rw [Nat.add_mul] at hcapm
     have hvl := H.size
     obtain ⟨es, hshape⟩ := ok.shape
     have hcell : ∀ j, j < vals.length → (w.cell? ⟨B, base + off + len * i.size + j, none⟩).isSome = true := fun j hj => cell_of_shape hshape (by omega)
     have hrun := run_append_in (P := P) (w := w) (ty := ty) (b := B) (o := base + off) (sLen := len) (sCap := cap) (m := new.length) ht hu hi (H.len w)
      (by have := H.first (P := P) w (fun _ => rfl) new.length (Nat.le_refl _); rwa [← H.size, List.take_length] at this) hroom hcell (fun j hj => ok.free _ (by omega)) hones
     have hblk : μ.blk σ.h id = some B := by simp [M.blk, hg, hrho]
     obtain ⟨r1, r2, r3⟩ := sc_rest B vals (base + off + len * i.size) w
     have l := le_addRho (μ := μ) (id := σ.h.next) (r := (B, base + off, sz)) (R.world.fresh σ.h.next (Nat.le_refl _)).1
     have hin := World.cell?_setCells_in B vals (base + off + len * i.size) w hcell
     obtain ⟨t1, t2⟩ := R.world.swap hblk hp (.cells (old ++ new.flatten)) (w' := w.setCells B (base + off + len * i.size) vals) (ν := μ.addRho σ.h.next (B, base + off, sz))
      (fun r hr => sc_heap B r hr vals _ w) (sc_size B vals _ w) (fun r x hx => by rw [sc_shape]; exact hx) r1 r2 r3 l (fun j hj => if_neg hj) (fun _ _ => rfl) (fun b' p v hv => by
       have hv2 : μ.imm b' p = some v := hv
       refine .inl ⟨?_, hv2⟩
       clear hv
       rintro rfl
       rw [hnoimm] at hv2; cases hv2)
      ⟨base + off, sz, if_pos rfl, ⟨⟨es, (sc_shape B B vals _ w).trans hshape⟩, by rw [List.length_append, s2, f1]; omega, fun p hp => (World.frozen?_setCells B vals _ w _).trans (ok.free p hp), fun j y hy => by
       by_cases hj : j < old.length
       ·rw [List.getElem?_append_left hj, s3 j (by omega)] at hy
        obtain ⟨v, hv, hvv⟩ := ok.cell _ _ hy
        refine ⟨v, ?_, hvv.mono l⟩
        rw [World.cell?_setCells_out B vals _ w _ (fun _ _ => .inl (by simp only []; omega)), Nat.add_assoc]
        exact hv
       ·rw [List.getElem?_append_right (by omega)] at hy
        have hjn : j - old.length < vals.length := by rw [← hfn]; exact lt_of_get? hy
        have hv : vals[j - old.length]? = some (vals[j - old.length]'hjn) := List.getElem?_eq_getElem hjn
        refine ⟨_, ?_, (H.rel _ y _ hy hv).mono l⟩
        have := hin _ hjn
        rw [show base + off + len * i.size + (j - old.length) = base + off + j by omega] at this
        exact this⟩, fun p => hnoimm p⟩
     refine ⟨_, _, hrun, L, _, R.step t2 t1, ?_⟩
     show V _ (.rsl h1.next 0 (len + new.length) i.size) _
     rw [p2]
     exact V.rsl (if_pos rfl) hroom (.inr ⟨by omega, hfit⟩)
    ·have hrun := run_append_out (P := P) (w := w) (ty := ty) (base := some ⟨B, o, none⟩) (sLen := len) (sCap := cap) (m := new.length) (olds := olds) (news := vals) ht hu hi hz (H.len w)
      (by have := H.first (P := P) w.drew (fun _ => rfl) new.length (Nat.le_refl _); rwa [← H.size, List.take_length] at this)
      (by have := Hs.first (P := P) w.drew (fun _ => rfl) len (by rw [chunks_length]; exact Nat.le_refl _); rwa [← hsz', List.take_length] at this) (by omega) (by omega) b1
     obtain ⟨k1, k2⟩ := R.world.kill hp (by rw [hg]; simp)
     have hge := grownCap_ge' w (len + new.length) cap e
     obtain ⟨ν, g1, g2, g3⟩ := k1.growRow (fz := (0, 0)) (c := olds.toArray ++ vals.toArray ++ Builtin.zeroCells z.cells (grownCap w (len + new.length) cap e - (len + new.length))) (t := e) (k := i.size) (n := len + new.length) (cap := grownCap w (len + new.length) cap e) (cs := old ++ new.flatten) (grew_drew w _) hge (by
       simp only [Array.size_append, List.size_toArray, zeroCells_size, hzs, H.size, hsz']
       rw [← Nat.add_mul, ← Nat.add_mul]
       exact Nat.le_of_eq (by congr 1; omega)) (.inr rfl) (begins_two hol hfn hor H.rel)
     exact ⟨_, _, hrun, L, ν, R.step (k2.trans g2) g1, g3⟩
  ·cases h
 ·cases h
end
end Go.Ef
namespace Go.Ef
open Go
section
variable {P : Program} {C : Cfg} {E : Ent} {L : List Nat} {μ : M} {σ : St} {a : Act} {w : World}
theorem ones_of {c : Value} {k : Nat} {els : List (List AV)} {vals : List Value} (H : Holds μ w c k els vals) (h : els.all (fun e => e.all AV.one) = true) : ∀ v ∈ vals, v.oneCell' = true := by
 intro v hv
 obtain ⟨i, hi, rfl⟩ := List.getElem_of_mem hv
 have hf : i < els.flatten.length := by rw [rel_of_holds H]; exact hi
 have hx : els.flatten[i]? = some (els.flatten[i]'hf) := List.getElem?_eq_getElem hf
 have hm := List.getElem_mem hf
 obtain ⟨e, he, hxe⟩ := List.mem_flatten.1 hm
 exact (H.rel i _ _ hx (List.getElem?_eq_getElem hi)).one (List.all_eq_true.1 (List.all_eq_true.1 h e he) _ hxe)
theorem give_append (R : Rel C E L μ σ a w) {f : FuncId} {d : Option Nat} {types : Array TypeId} {ty : TypeId} {s x : AV} {sv xv : Value} (hs : V μ s sv) (hx : V μ x xv) {r : Slot × St} (h : evAppend C P σ f d types s x = some r) :
  Gives P C E a w (Builtin.append_ types ty #[sv, xv]) r := by
 unfold evAppend at h
 split at h
 ·rename_i t u ht0 hu0
  obtain ⟨hrow, h⟩ := cond_some h
  split at h
  ·rename_i e he
   split at h
   ·rename_i i hi
    cases hz0 : Nat.beq i.size 0 with
    | true => rw [hz0] at h; cases h
    | false =>
     rw [hz0] at h
     simp only [cond_false] at h
     split at h
     ·rename_i new hnew
      obtain ⟨hb, h⟩ := cond_some h
      simp only [Bool.and_eq_true] at hb
      obtain ⟨hb1, hb2⟩ := hb
      obtain ⟨vals, H⟩ := elems_rel R hx hnew
      have hones := ones_of H hb1
      cases hzz : zeroA P e with
      | none => rw [hzz] at hb2; cases hb2
      | some zz =>
       rw [hzz] at hb2
       obtain ⟨i', z, hi', hz, ho2⟩ := zeroA_spec hzz
       rw [hi] at hi'; cases hi'
       have hzs : z.cells.size = i.size := by
        rw [← (V.cells (ofVal_V 2 z zz ho2 μ)).1]
        exact beq_true hb2
       have key : Gives P C E a w (Builtin.append_ #[t, u] ty #[sv, xv]) r := by
        have zero : ∀ base n m, n ≤ m → sv = .slice base n m → new = [] → r = (.v s, σ) → Gives P C E a w (Builtin.append_ #[t, u] ty #[sv, xv]) r := by
         intro base n m hnm hsv hnn hr
         subst hnn
         rw [hr, hsv]
         refine give_V R (run_append_zero (elemT_spec he) hrow hi (H.len w) ?_ hnm) (hsv ▸ hs)
         have := H.first (P := P) w (fun _ => rfl) 0 (Nat.zero_le _)
         simpa using this
        unfold appendS at h
        split at h
        ·have hsv := V.sc_eq hs
         cases hn : new.isEmpty with
         | true =>
          rw [hn] at h
          exact zero none 0 0 (Nat.le_refl _) hsv (List.isEmpty_iff.1 hn) (Option.some.inj h).symm
         | false =>
          rw [hn] at h
          rw [hsv]
          exact give_append_nil R (elemT_spec he) hrow hi hz hzs H (fun e => by simp [e] at hn) h
        ·rename_i els tok
         cases hn : new.isEmpty with
         | true =>
          rw [hn] at h
          cases hs with
          | sl0 h1 h2 h3 h4 h5 => exact zero _ _ _ h2 rfl (List.isEmpty_iff.1 hn) (Option.some.inj h).symm
          | sl1 h1 h2 h3 h4 h5 h6 => exact zero _ _ _ h2 rfl (List.isEmpty_iff.1 hn) (Option.some.inj h).symm
         | false =>
          rw [hn] at h
          exact give_append_own R (elemT_spec he) hrow hi hz hzs hs H (fun e => by simp [e] at hn) hones h
        ·rename_i id off len k
         cases hn : new.isEmpty with
         | true =>
          rw [hn] at h
          cases hs with
          | rsl h1 h2 h3 => exact zero _ _ _ h2 rfl (List.isEmpty_iff.1 hn) (Option.some.inj h).symm
         | false =>
          rw [hn] at h
          have h := (cond_some h).2
          exact give_append_row R (elemT_spec he) hrow hi hz hzs hs H (fun e => by simp [e] at hn) hones h
        ·cases h
       obtain ⟨c, w', hr, hout⟩ := key
       refine ⟨c, w', ?_, hout⟩
       rw [← hr]
       unfold Builtin.append_
       simp only [ht0, hu0]
       rfl
     ·cases h
   ·cases h
  ·cases h
 ·cases h
theorem lenA_spec {x : AV} {c : Value} {n : Nat} (h : lenA x = some n) (hs : isSlice x = true) (hv : V μ x c) : ∃ b cap, c = .slice b n cap := by
 unfold lenA at h
 split at h
 ·cases h; exact ⟨none, 0, V.sc_eq hv⟩
 ·cases h
  cases hv with
  | sl0 h1 => exact ⟨_, _, by rw [h1]⟩
  | sl1 h1 => exact ⟨_, _, by rw [h1]⟩
 ·cases h
  cases hv with
  | rsl => exact ⟨_, _, rfl⟩
 ·simp [isSlice] at hs
 ·cases h
theorem give_copy (R : Rel C E L μ σ a w) {types : Array TypeId} {ty : TypeId} {s x : AV} {sv xv : Value} (hs : V μ s sv) (hx : V μ x xv) {r : Slot × St} (h : evCopy P σ types s x = some r) :
  Gives P C E a w (Builtin.copy_ types ty #[sv, xv]) r := by
 unfold evCopy at h
 split at h
 ·rename_i t ht
  split at h
  ·rename_i e he
   split at h
   ·rename_i k hk
    cases hk0 : Nat.beq k 0 with
    | true => rw [hk0] at h; cases h
    | false =>
     rw [hk0] at h
     simp only [cond_false] at h
     split at h
     ·rename_i els n hels hn
      obtain ⟨hsl, h⟩ := cond_some h
      obtain ⟨vals, H⟩ := elems_rel R hx hels
      obtain ⟨b, cap, rfl⟩ := lenA_spec hn hsl hs
      have hmin : Nat.min els.length n = (els.take n).length := by rw [List.length_take]; exact Nat.min_comm _ _
      have hfirst := H.first (P := P) w (fun _ => rfl) (els.take n).length (by rw [List.length_take]; exact Nat.min_le_right _ _)
      have hrunsz := run_sizeT (P := P) hk w
      unfold copyR at h
      cases hemp : (els.take n).isEmpty with
      | true =>
       rw [hemp] at h
       have h := Option.some.inj h
       subst h
       have h0 : (els.take n).length = 0 := by rw [List.isEmpty_iff.1 hemp]; rfl
       rw [h0] at hfirst
       refine give_V R (c := goInt 0) ?_ (.sc rfl)
       cases b <;> simp [Builtin.copy_, ht, run_underlying (elemT_spec he), H.len, hrunsz, hmin, h0, hfirst, storeCells]
      | false =>
       rw [hemp] at h
       simp only [cond_false] at h
       split at h
       ·rename_i id off len k' _
        obtain ⟨hkk0, hq⟩ := cond_some h
        clear h
        have hkk := beq_true hkk0
        clear hkk0
        subst hkk
        split at hq
        ·rename_i σ' hwr
         have hq := Option.some.inj hq
         subst hq
         have hn' : n = len := by simp only [lenA] at hn; exact (Option.some.inj hn).symm
         subst hn'
         generalize hsv : Value.slice b n cap = sv at hs
         cases hs with
         | rsl hrho h2 h3 =>
          rename_i cap' B base sz o
          cases hsv
          have hne : (els.take n).length ≠ 0 := fun e => by rw [List.length_eq_zero_iff.1 e] at hemp; cases hemp
          have hlt : 0 < n := by rw [List.length_take] at hne; omega
          rcases h3 with h3 | ⟨h3, h4⟩
          ·omega
          ·subst h3
           have hkl : ∀ e ∈ els.take n, e.length = k := fun e he => H.lens e (List.mem_of_mem_take he)
           obtain ⟨f1, f2⟩ := flatten_get hkl
           obtain ⟨g1, g2⟩ := flatten_get H.lens
           have hle : (els.take n).length * k ≤ els.length * k := Nat.mul_le_mul_right _ (by rw [List.length_take]; exact Nat.min_le_right _ _)
           have hvl : (vals.take ((els.take n).length * k)).length = (els.take n).length * k := by rw [List.length_take, H.size]; omega
           have hpre : ∀ (p : Nat) (y : AV), (els.take n).flatten[p]? = some y → els.flatten[p]? = some y := by
            intro p y hp
            have hsplit : els.flatten = (els.take n).flatten ++ (els.drop n).flatten := by rw [← List.flatten_append, List.take_append_drop]
            rw [hsplit, List.getElem?_append_left (lt_of_get? hp)]; exact hp
           obtain ⟨b', o', hc, hrun, hR⟩ := write_rel (P := P) R (s := .v (.ptr id off)) (c := .pointer (some ⟨B, base + off, none⟩)) (V.ptr hrho) (vs := vals.take ((els.take n).length * k)) hwr (by rw [f1, hvl]) (fun p y v hy hv => by
            rw [List.getElem?_take] at hv
            split at hv
            ·exact H.rel p y v (hpre p y hy) hv
            ·cases hv)
           cases hc
           refine ⟨goInt (els.take n).length, _, ?_, L, μ, hR, .sc rfl⟩
           have hlt2 : (els.take n).length = min n els.length := List.length_take
           rw [hlt2] at hfirst hrun hmin ⊢
           simp [Builtin.copy_, ht, run_underlying (elemT_spec he), H.len, hrunsz, hmin, hfirst, hrun]
        ·cases hq
       ·cases h
     ·cases h
   ·cases h
  ·cases h
 ·cases h
end
end Go.Ef
namespace Go.Ef
open Go
def OptRel (μ : M) : Option AV → Option Value → Prop
 | none, none => True
 | some u, some v => V μ u v
 | _, _ => False
section
variable {P : Program} {C : Cfg} {E : Ent} {L : List Nat} {μ : M} {σ : St} {a : Act} {w : World}
theorem give_len (R : Rel C E L μ σ a w) {types : Array TypeId} {ty : TypeId} {x v : AV} {c : Value} (hx : V μ x c) (h : evLen P σ types ty x = some v) : ∃ q, (Builtin.len_ types ty #[c]).run P w = .ok q w ∧ V μ v q := by
 unfold evLen at h
 simp only [lenL_eq] at h
 split at h
 ·split at h
  ·rename_i t ht
   split at h
   ·rename_i e he
    cases h
    have : ∃ b cap, c = .slice b _ cap := lenA_spec (x := .sl _ _) rfl rfl hx
    obtain ⟨b, cap, rfl⟩ := this
    exact ⟨_, by simp [Builtin.len_, ht, run_underlying (elemT_spec he)]; rfl, .sc rfl⟩
   ·cases h
  ·cases h
 ·split at h
  ·rename_i t ht
   split at h
   ·rename_i e he
    cases h
    have : ∃ b cap, c = .slice b _ cap := lenA_spec (x := .rsl _ _ _ _) rfl rfl hx
    obtain ⟨b, cap, rfl⟩ := this
    exact ⟨_, by simp [Builtin.len_, ht, run_underlying (elemT_spec he)]; rfl, .sc rfl⟩
   ·cases h
  ·cases h
 ·rename_i id
  split at h
  ·rename_i t ht
   split at h
   ·rename_i ke ee es hu hg
    cases h
    obtain ⟨b, hr, ⟨m, clk, hm, hsz, _⟩, _⟩ := R.world.map id es hg
    cases hx with
    | mp hr' =>
     rw [hr] at hr'; cases hr'
     refine ⟨goInt m.size, ?_, by rw [hsz]; exact .sc rfl⟩
     have hget : (getObj b).run P w = .ok (.map m clk) w := by simp [getObj, Sem.run, hm]
     simp [Builtin.len_, ht, run_underlying hu, hget]
   ·cases h
  ·cases h
 ·split at h
  ·rename_i r hr
   obtain ⟨hb, h⟩ := cond_some h
   cases h
   rw [V.sc_eq hx]
   exact ⟨r, pureRun_run hr w, .sc hb⟩
  ·cases h
 ·cases h
theorem minmax_rel {s : Array Value → Sem Value} {l : List AV} {v : AV} {cs : Array Value} (hl : l.length = cs.size) (hc : ∀ (i : Nat) (u : AV) (q : Value), l[i]? = some u → cs[i]? = some q → V μ u q) (h : evMinMax P s l = some v) :
  ∃ q, (s cs).run P w = .ok q w ∧ V μ v q := by
 unfold evMinMax at h
 split at h
 ·rename_i vs hvs
  split at h
  ·rename_i r hr
   obtain ⟨hb, h⟩ := cond_some h
   cases h
   have : Value.agg cs = .agg ⟨vs⟩ := by
    have := toVal_V 1 (.agg l) (.agg ⟨vs⟩) (by simp only [toVal, hvs, Option.map_some]) μ (.agg cs) (.agg hl hc)
    exact this
   cases this
   exact ⟨r, pureRun_run hr w, .sc hb⟩
  ·cases h
 ·cases h
theorem bound_spec {n d r : Nat} {x : Option AV} {c : Option Value} (h : bound n d x = some r) (hx : OptRel μ x c) :
  (x = none ∧ c = none ∧ r = d) ∨ ∃ k i, c = some (.int k i) ∧ 0 ≤ i ∧ i ≤ (n : Int) ∧ i.toNat = r := by
 unfold bound at h
 split at h
 ·cases h
  cases c with
  | none => exact .inl ⟨rfl, rfl, rfl⟩
  | some v => exact hx.elim
 ·rename_i k i
  obtain ⟨hb, h⟩ := cond_some h
  simp only [Bool.and_eq_true, decide_eq_true_eq] at hb
  cases h
  cases c with
  | none => exact hx.elim
  | some v => exact .inr ⟨k, i, by rw [V.sc_eq hx], hb.1, hb.2, rfl⟩
 ·cases h
theorem range_spec {n cap l h : Nat} {lo hi : Option AV} {lv hv : Option Value} (hr : evRange n lo hi = some (l, h)) (hcap : n ≤ cap) (hl : OptRel μ lo lv)
  (hh : OptRel μ hi hv) (b : Bool) (w : World) : (Instr.sliceBounds b n cap lv hv none).run P w = .ok (l, h, cap) w ∧ l ≤ h ∧ h ≤ n := by
 unfold evRange at hr
 split at hr
 ·rename_i h' hbh
  split at hr
  ·rename_i l' hbl
   cases hr
   rcases bound_spec hbh hh with ⟨_, rfl, rfl⟩ | ⟨k, i, rfl, q1, q2, rfl⟩ <;> rcases bound_spec hbl hl with ⟨_, rfl, rfl⟩ | ⟨k', i', rfl, q1', q2', rfl⟩
   ·exact ⟨by simp [Instr.sliceBounds], by omega, by omega⟩
   ·exact ⟨by simp [Instr.sliceBounds, Instr.sliceBound, asIntOf, q1', q2'], by omega, by omega⟩
   ·have q3 : i ≤ (cap : Int) := by omega
    exact ⟨by simp [Instr.sliceBounds, Instr.sliceBound, asIntOf, q1, q3], by omega, by omega⟩
   ·have q3 : i ≤ (cap : Int) := by omega
    have q4 : i' ≤ max i 0 := by omega
    exact ⟨by simp [Instr.sliceBounds, Instr.sliceBound, asIntOf, q1, q3, q1', q4], by omega, by omega⟩
  ·cases hr
 ·cases hr
theorem range_spec3 {n cap m l h : Nat} {lo : Option AV} {hi mx : AV} {lv : Option Value} {hv mv : Value} (hm : bound n 0 (some mx) = some m) (hr : evRange m lo (some hi) = some (l, h)) (hcap : n ≤ cap) (hl : OptRel μ lo lv)
  (hh : V μ hi hv) (hmx : V μ mx mv) (b : Bool) (w : World) : (Instr.sliceBounds b n cap lv (some hv) (some mv)).run P w = .ok (l, h, m) w ∧ l ≤ h ∧ h ≤ m ∧ m ≤ n := by
 unfold evRange at hr
 split at hr
 ·rename_i h' hbh
  split at hr
  ·rename_i l' hbl
   cases hr
   rcases bound_spec (c := some mv) hm hmx with ⟨e, _, _⟩ | ⟨k2, i2, e2, p1, p2, rfl⟩
   ·cases e
   rcases bound_spec (c := some hv) hbh hh with ⟨e, _, _⟩ | ⟨k, i, e, q1, q2, rfl⟩
   ·cases e
   have e2 := Option.some.inj e2
   have e := Option.some.inj e
   subst e2; subst e
   have p3 : i2 ≤ (cap : Int) := by omega
   have q3 : i ≤ max i2 0 := by omega
   rcases bound_spec hbl hl with ⟨_, rfl, rfl⟩ | ⟨k', i', rfl, q1', q2', rfl⟩
   ·exact ⟨by simp [Instr.sliceBounds, Instr.sliceBound, asIntOf, p1, p3, q1, q3], by omega, by omega, by omega⟩
   ·have q4 : i' ≤ max i 0 := by omega
    exact ⟨by simp [Instr.sliceBounds, Instr.sliceBound, asIntOf, p1, p3, q1, q3, q1', q4], by omega, by omega, by omega⟩
  ·cases hr
 ·cases hr
theorem optVal_rel {σ : St} (R : Rel C E L μ σ a w) {x : Option Operand} {v : Option AV} (h : optVal σ x = some v) : OptRel μ v (x.map a.eval) := by
 cases x with
 | none => simp only [optVal] at h; cases h; trivial
 | some x =>
  simp only [optVal] at h
  split at h
  ·rename_i u hu; cases h; exact val_rel R hu
  ·cases h
theorem sliceOf_spec {t : TypeId} {k : Nat} (h : sliceOf P t = some k) : ∃ e, P.underlying t = some (.slice e) ∧ sizeT P e = some k := by
 unfold sliceOf at h
 split at h
 ·rename_i e he; exact ⟨e, elemT_spec he, h⟩
 ·cases h
theorem cut_get {els : List (List AV)} {l h i : Nat} {e : List AV} (he : ((els.take h).drop l)[i]? = some e) : els[l + i]? = some e := by
 rw [List.getElem?_drop, List.getElem?_take] at he
 split at he
 ·exact he
 ·cases he
theorem fine_slice3 (R : Rel C E L μ σ a w) {o : Oper} {t : TypeId} {x : Operand} {lo hi : Option Operand} {m : Operand} {r : Slot × St} (ho : o.op = .slice t x lo hi (some m)) (h : opSlice3 P σ t x lo hi m = some r) : Fine P C E a w o r := by
 unfold opSlice3 at h
 split at h
 ·rename_i hi
  split at h
  ·rename_i s hs
   split at h
   ·rename_i lov hlo
    split at h
    ·rename_i hv hhv
     split at h
     ·rename_i mv hmv
      have hx := val_rel R hs
      have rl := optVal_rel R hlo
      have rh := val_rel R hhv
      have rm := val_rel R hmv
      refine (give_res R (m := Instr.sliceAt t (a.eval x) (lo.map a.eval) (some (a.eval hi)) (some (a.eval m))) h fun u hu => ?_).fine (by simp [execOp, ho])
      unfold evSlice3 at hu
      split at hu
      ·rename_i els tok
       split at hu
       ·rename_i k mm hk hm
        split at hu
        ·rename_i l hh hr
         obtain ⟨hhead, hu⟩ := cond_some hu
         have hu := Option.some.inj hu
         subst hu
         obtain ⟨e, hue, hke⟩ := sliceOf_spec hk
         have main : ∀ (ν : M) (b o' n cap k' : Nat) (c : Nat → Nat → Value), a.eval x = .slice (some ⟨b, o', none⟩) n cap → n = els.length → n ≤ cap → (∀ e ∈ els, e.length = k') →
           (∀ (i : Nat) (e : List AV) (j : Nat) (x : AV), els[i]? = some e → e[j]? = some x → μ.imm b (o' + i * k' + j) = some (c i j)) →
           (∀ (i : Nat) (e : List AV) (j : Nat) (x : AV), els[i]? = some e → e[j]? = some x → V ν x (c i j)) → ((tok = 0 ∧ ν = μ.bare) ∨ (ν = μ ∧ ∃ id, tok = id + 1)) →
           ∃ q, (Instr.sliceAt t (a.eval x) (lo.map a.eval) (some (a.eval hi)) (some (a.eval m))).run P w = .ok q w ∧ V μ (cut3 els tok l hh) q := by
          intro ν b o' n cap k' c hev hn hcap hk' h4 h5 htok
          subst hn
          obtain ⟨hrun, l1, l2, l3⟩ := range_spec3 (P := P) hm hr hcap rl rh rm true w
          have hkk : els ≠ [] → k' = k := by
           intro hne
           cases els with
           | nil => exact absurd rfl hne
           | cons e0 es => rw [← hk' e0 (by simp)]; exact beq_true hhead
          refine ⟨.slice (some ⟨b, if mm = l then o' else o' + l * k, none⟩) (hh - l) (mm - l), ?_, ?_⟩
          ·simp only [Instr.sliceAt, Sem.run_bind, run_underlying hue, Result.andThen_ok, Instr.slice, hev, hrun, run_sizeT hke, Sem.run_pure]
           by_cases hcl : mm = l
           ·simp [hcl]
           ·simp [hcl, Addr.add_lit]
          ·have hsame : ∀ (i : Nat) (e : List AV) (j : Nat) (x : AV), ((els.take hh).drop l)[i]? = some e → e[j]? = some x → μ.imm b ((if mm = l then o' else o' + l * k) + i * k' + j) = some (c (l + i) j) := by
            intro i e j y he hy
            have hi := lt_of_get? he
            simp at hi
            rw [if_neg (by omega)]
            have := h4 (l + i) e j y (cut_get he) hy
            have hne : els ≠ [] := by intro e0; rw [e0] at hi; simp at hi
            rw [← hkk hne]
            rw [show o' + l * k' + i * k' + j = o' + (l + i) * k' + j by rw [Nat.add_mul]; omega]
            exact this
           have hlen : hh - l = ((els.take hh).drop l).length := by simp; omega
           have hmem : ∀ e ∈ (els.take hh).drop l, e.length = k' := fun e he => hk' e (List.mem_of_mem_take (List.mem_of_mem_drop he))
           unfold cut3
           rcases htok with ⟨rfl, rfl⟩ | ⟨rfl, id, rfl⟩
           ·exact V.sl0 (c := fun i j => c (l + i) j) hlen (by omega) hmem hsame fun i e j y he hy => h5 (l + i) e j y (cut_get he) hy
           ·simp only [show Nat.beq (id + 1) 0 = false from rfl, cond_false]
            exact V.sl1 (id := 0) (c := fun i j => c (l + i) j) hlen (by omega) hmem hsame (fun i e j y he hy => h5 (l + i) e j y (cut_get he) hy) (.inl rfl)
         generalize hev : a.eval x = cx at hx main
         cases hx with
         | sl0 h1 h2 h3 h4 h5 => exact main _ _ _ _ _ _ _ rfl h1 h2 h3 h4 h5 (.inl ⟨rfl, rfl⟩)
         | sl1 h1 h2 h3 h4 h5 h6 => exact main _ _ _ _ _ _ _ rfl h1 h2 h3 h4 h5 (.inr ⟨rfl, _, rfl⟩)
        ·cases hu
       ·cases hu
      ·split at hu
       ·rename_i k mm hk hm
        split at hu
        ·rename_i q hr
         obtain ⟨l, hh⟩ := q
         have hu := Option.some.inj hu
         subst hu
         obtain ⟨e, hue, hke⟩ := sliceOf_spec hk
         obtain ⟨hrun, l1, l2, l3⟩ := range_spec3 (P := P) hm hr (Nat.le_refl 0) rl rh rm true w
         rw [V.sc_eq hx]
         refine ⟨.slice none 0 0, ?_, .sc rfl⟩
         have : hh = 0 := by omega
         subst this
         have : l = 0 := by omega
         subst this
         have : mm = 0 := by omega
         subst this
         simp only [Instr.sliceAt, Sem.run_bind, run_underlying hue, Result.andThen_ok, Instr.slice, hrun, run_sizeT hke, Sem.run_pure]
         simp
        ·cases hu
       ·cases hu
      ·cases hu
     ·cases h
    ·cases h
   ·cases h
  ·cases h
 ·cases h
theorem cutB_eq (b : ByteArray) (l h : Nat) : cutB b l h = b.extract l h := by
 unfold cutB
 rw [dropL_eq, takeL_eq]
 apply ByteArray.ext
 apply Array.ext'
 simp [List.drop_take]
theorem fine_slice (R : Rel C E L μ σ a w) {o : Oper} {t : TypeId} {x : Operand} {lo hi mx : Option Operand} {r : Slot × St} (ho : o.op = .slice t x lo hi mx) (h : opSlice P σ t x lo hi mx = some r) : Fine P C E a w o r := by
 unfold opSlice at h
 split at h
 ·exact fine_slice3 R ho h
 ·split at h
  ·rename_i s hs
   split at h
   ·rename_i lov hiv hlo hhi
    have hx := val_rel R hs
    have rl := optVal_rel R hlo
    have rh := optVal_rel R hhi
    refine (give_res R (m := Instr.sliceAt t (a.eval x) (lo.map a.eval) (hi.map a.eval) none) h fun u hu => ?_).fine (by simp [execOp, ho])
    unfold evSlice at hu
    simp only [lenL_eq, cutB_eq, ← Lib.size_eq] at hu
    split at hu
    ·rename_i els tok
     split at hu
     ·rename_i k l hh hk hr
      obtain ⟨hhead, hu⟩ := cond_some hu
      have hu := Option.some.inj hu
      subst hu
      obtain ⟨e, hue, hke⟩ := sliceOf_spec hk
      have main : ∀ (ν : M) (b o' n cap k' : Nat) (c : Nat → Nat → Value), a.eval x = .slice (some ⟨b, o', none⟩) n cap → n = els.length → n ≤ cap → (∀ e ∈ els, e.length = k') →
        (∀ (i : Nat) (e : List AV) (j : Nat) (x : AV), els[i]? = some e → e[j]? = some x → μ.imm b (o' + i * k' + j) = some (c i j)) →
        (∀ (i : Nat) (e : List AV) (j : Nat) (x : AV), els[i]? = some e → e[j]? = some x → V ν x (c i j)) → ((tok = 0 ∧ ν = μ.bare) ∨ (ν = μ ∧ ∃ id, tok = id + 1 ∧ TokOk μ id b o' n cap k')) →
        ∃ q, (Instr.sliceAt t (a.eval x) (lo.map a.eval) (hi.map a.eval) none).run P w = .ok q w ∧ V μ (cutS els tok l hh) q := by
       intro ν b o' n cap k' c hev hn hcap hk' h4 h5 htok
       subst hn
       obtain ⟨hrun, l1, l2⟩ := range_spec (P := P) hr hcap rl rh true w
       have hkk : els ≠ [] → k' = k := by
        intro hne
        cases els with
        | nil => exact absurd rfl hne
        | cons e0 es => rw [← hk' e0 (by simp)]; exact beq_true hhead
       refine ⟨.slice (some ⟨b, if cap = l then o' else o' + l * k, none⟩) (hh - l) (cap - l), ?_, ?_⟩
       ·simp only [Instr.sliceAt, Sem.run_bind, run_underlying hue, Result.andThen_ok, Instr.slice, hev, hrun, run_sizeT hke, Sem.run_pure]
        by_cases hcl : cap = l
        ·simp [hcl]
        ·simp [hcl, Addr.add_lit]
       ·have hsame : ∀ (i : Nat) (e : List AV) (j : Nat) (x : AV), ((els.take hh).drop l)[i]? = some e → e[j]? = some x → μ.imm b ((if cap = l then o' else o' + l * k) + i * k' + j) = some (c (l + i) j) := by
         intro i e j y he hy
         have hi := lt_of_get? he
         simp at hi
         rw [if_neg (by omega)]
         have := h4 (l + i) e j y (cut_get he) hy
         have hne : els ≠ [] := by intro e0; rw [e0] at hi; simp at hi
         rw [← hkk hne]
         rw [show o' + l * k' + i * k' + j = o' + (l + i) * k' + j by rw [Nat.add_mul]; omega]
         exact this
        have hlen : hh - l = ((els.take hh).drop l).length := by simp; omega
        have hmem : ∀ e ∈ (els.take hh).drop l, e.length = k' := fun e he => hk' e (List.mem_of_mem_take (List.mem_of_mem_drop he))
        unfold cutS
        simp only [lenL_eq, dropL_eq, takeL_eq]
        rcases htok with ⟨rfl, rfl⟩ | ⟨rfl, id, rfl, ht⟩
        ·exact V.sl0 (c := fun i j => c (l + i) j) hlen (by omega) hmem hsame fun i e j y he hy => h5 (l + i) e j y (cut_get he) hy
        ·simp only [show Nat.beq (id + 1) 0 = false from rfl, cond_false]
         cases hcut : Nat.beq hh els.length && Nat.beq l 0 with
         | false => exact V.sl1 (id := 0) (c := fun i j => c (l + i) j) hlen (by omega) hmem hsame (fun i e j y he hy => h5 (l + i) e j y (cut_get he) hy) (.inl rfl)
         | true =>
          simp only [Bool.and_eq_true] at hcut
          have q1 := beq_true hcut.1
          have q2 := beq_true hcut.2
          subst q2
          subst q1
          simp only [cond_true]
          have e0 : (if cap = 0 then o' else o' + 0 * k) = o' := by split <;> omega
          rw [e0, Nat.sub_zero, Nat.sub_zero]
          exact V.sl1 (id := id) (k := k') (c := c) rfl hcap hk' h4 h5 ht
      generalize hev : a.eval x = cx at hx main
      cases hx with
      | sl0 h1 h2 h3 h4 h5 => exact main _ _ _ _ _ _ _ rfl h1 h2 h3 h4 h5 (.inl ⟨rfl, rfl⟩)
      | sl1 h1 h2 h3 h4 h5 h6 => exact main _ _ _ _ _ _ _ rfl h1 h2 h3 h4 h5 (.inr ⟨rfl, _, rfl, h6⟩)
     ·cases hu
    ·rename_i id off len k
     split at hu
     ·rename_i k' l hh hk hr
      obtain ⟨hb, hu⟩ := cond_some hu
      have hu := Option.some.inj hu
      subst hu
      have := beq_true hb
      subst this
      obtain ⟨e, hue, hke⟩ := sliceOf_spec hk
      generalize hev : a.eval x = cx at hx
      cases hx with
      | rsl hrho h2 h3 =>
       rename_i cap b base sz o'
       obtain ⟨hrun, l1, l2⟩ := range_spec (P := P) hr h2 rl rh true w
       refine ⟨.slice (some ⟨b, if cap = l then o' else o' + l * k, none⟩) (hh - l) (cap - l), ?_, V.rsl hrho (by omega) ?_⟩
       ·simp only [Instr.sliceAt, Sem.run_bind, run_underlying hue, Result.andThen_ok, Instr.slice, hrun, run_sizeT hke, Sem.run_pure]
        by_cases hcl : cap = l
        ·simp [hcl]
        ·simp [hcl, Addr.add_lit]
       ·by_cases hcl : cap = l
        ·exact .inl (by omega)
        ·rw [if_neg hcl]
         rcases h3 with h3 | ⟨h3, h4⟩
         ·omega
         ·have hcapk : cap * k = l * k + (cap - l) * k := by rw [← Nat.add_mul]; congr 1; omega
          exact .inr ⟨by omega, by omega⟩
     ·cases hu
    ·rename_i id off
     unfold sliceArr at hu
     split at hu
     ·rename_i n e hue
      split at hu
      ·rename_i k l hh hk hr
       split at hu
       ·rename_i cs hg
        obtain ⟨hb, hu⟩ := cond_some hu
        have hu := Option.some.inj hu
        subst hu
        have hb := ble_true hb
        obtain ⟨B, base, sz, hrho, ok, _⟩ := R.world.cells id cs hg
        have hfit := ok.fit
        generalize hev : a.eval x = cx at hx
        cases hx with
        | ptr hrho' =>
         rw [hrho] at hrho'; cases hrho'
         obtain ⟨hrun, l1, l2⟩ := range_spec (P := P) hr (Nat.le_refl n) rl rh false w
         refine ⟨.slice (some ⟨B, if n = l then base + off else base + off + l * k, none⟩) (hh - l) (n - l), ?_, V.rsl hrho (by omega) ?_⟩
         ·simp only [Instr.sliceAt, Sem.run_bind, run_underlying hue, Result.andThen_ok, Instr.sureAddr, Sem.run_pure, hrun, run_sizeT hk]
          by_cases hcl : n = l
          ·simp [hcl]
          ·simp [hcl, Addr.add_lit]
         ·by_cases hcl : n = l
          ·exact .inl (by omega)
          ·rw [if_neg hcl]
           have hcapk : n * k = l * k + (n - l) * k := by rw [← Nat.add_mul]; congr 1; omega
           exact .inr ⟨by omega, by omega⟩
       ·cases hu
      ·cases hu
     ·cases hu
    ·split at hu
     ·rename_i k q hk hr
      have hu := Option.some.inj hu
      subst hu
      obtain ⟨e, hue, hke⟩ := sliceOf_spec hk
      obtain ⟨l, hh⟩ := q
      obtain ⟨hrun, l1, l2⟩ := range_spec (P := P) hr (Nat.le_refl 0) rl rh true w
      rw [V.sc_eq hx]
      refine ⟨.slice none 0 0, ?_, .sc rfl⟩
      have : hh = 0 := by omega
      subst this
      have : l = 0 := by omega
      subst this
      simp only [Instr.sliceAt, Sem.run_bind, run_underlying hue, Result.andThen_ok, Instr.slice, hrun, run_sizeT hke, Sem.run_pure]
      simp
     ·cases hu
    ·rename_i b
     split at hu
     ·rename_i hue
      split at hu
      ·rename_i l hh hr
       have hu := Option.some.inj hu
       subst hu
       obtain ⟨hrun, l1, l2⟩ := range_spec (P := P) hr (Nat.le_refl b.size) rl rh false w
       rw [V.sc_eq hx]
       refine ⟨.string (b.extract l hh), ?_, .sc rfl⟩
       simp [Instr.sliceAt, run_underlying hue, Instr.slice, hrun]
      ·cases hu
     ·cases hu
    ·cases hu
   ·cases h
  ·cases h
end
end Go.Ef
namespace Go.Ef
open Go
section
variable {P : Program} {C : Cfg} {E : Ent} {L : List Nat} {μ : M} {σ : St} {a : Act} {w : World}
theorem byteOf_spec {e : List AV} {b : UInt8} (h : byteOf e = some b) : ∃ n : Int, e = [.sc (.int .u8 n)] ∧ b = UInt8.ofNat n.toNat := by
 unfold byteOf at h
 split at h
 ·cases h; exact ⟨_, rfl, rfl⟩
 ·cases h
theorem push_fold : ∀ (ns : List Int) (l : List UInt8), ns.foldl (fun r n => r.push (UInt8.ofNat n.toNat)) (⟨⟨l⟩⟩ : ByteArray) = ⟨⟨l ++ ns.map fun n => UInt8.ofNat n.toNat⟩⟩
 | [], l => by simp
 | n :: ns, l => by
  have := push_fold ns (l ++ [UInt8.ofNat n.toNat])
  simp only [List.foldl_cons, List.map_cons]
  rw [show (⟨⟨l⟩⟩ : ByteArray).push (UInt8.ofNat n.toNat) = ⟨⟨l ++ [UInt8.ofNat n.toNat]⟩⟩ by simp [ByteArray.push]]
  rw [this]
  simp
theorem bytes_vals {els : List (List AV)} {bs : List UInt8} {vals : List Value} {c : Value} (H : Holds μ w c 1 els vals) (h : mapO byteOf els = some bs) : ∃ ns : List Int, vals = ns.map (Value.int .u8) ∧ bs = ns.map fun n => UInt8.ofNat n.toNat := by
 obtain ⟨h1, h2⟩ := mapO_spec h
 have hsz := H.size
 obtain ⟨f1, f2⟩ := flatten_get H.lens
 refine ⟨els.map fun e => match e with | [.sc (.int _ n)] => n | _ => 0, ?_, ?_⟩
 ·apply List.ext_getElem?
  intro i
  by_cases hi : i < els.length
  ·have he := List.getElem?_eq_getElem hi
   obtain ⟨b, hb, hbo⟩ := h2 i _ he
   obtain ⟨n, hn, rfl⟩ := byteOf_spec hbo
   have hv : vals[i]? = some (vals[i]'(by omega)) := List.getElem?_eq_getElem (by omega)
   have hfl := f2 i _ 0 he (by omega)
   rw [Nat.mul_one, Nat.add_zero, hn] at hfl
   have := V.sc_eq (H.rel i _ _ (by rw [hfl]; rfl) hv)
   rw [hv, this]
   simp only [List.getElem?_map, he, Option.map_some, hn]
  ·rw [List.getElem?_eq_none (by omega), List.getElem?_eq_none (by simp; omega)]
 ·apply List.ext_getElem?
  intro i
  by_cases hi : i < els.length
  ·have he := List.getElem?_eq_getElem hi
   obtain ⟨b, hb, hbo⟩ := h2 i _ he
   obtain ⟨n, hn, rfl⟩ := byteOf_spec hbo
   rw [hb]
   simp only [List.getElem?_map, he, Option.map_some, hn]
  ·rw [List.getElem?_eq_none (by omega), List.getElem?_eq_none (by simp; omega)]
theorem isSlice_V {x : AV} {c : Value} (h : isSlice x = true) (hv : V μ x c) : ∃ b n m, c = .slice b n m := by
 cases hv with
 | sc hs =>
  unfold isSlice at h
  split at h <;> first | (cases h; done) | skip
  ·rename_i he; cases he; exact ⟨_, _, _, rfl⟩
  ·rename_i he; cases he
  ·rename_i he; cases he
 | sl0 => exact ⟨_, _, _, rfl⟩
 | sl1 => exact ⟨_, _, _, rfl⟩
 | rsl => exact ⟨_, _, _, rfl⟩
 | _ => simp [isSlice] at h
theorem give_convert (R : Rel C E L μ σ a w) {f : FuncId} {q : Option Nat} {src dst : TypeId} {x : AV} {c : Value} (hx : V μ x c) {r : Slot × St} (h : evConvert C P σ f q src dst x = some r) : Gives P C E a w (convert src dst c) r := by
 unfold evConvert at h
 split at h
 ·rename_i e hs hd
  split at h
  ·rename_i els hels
   obtain ⟨hsl, h⟩ := cond_some h
   obtain ⟨vals, H⟩ := elems_rel R hx hels
   obtain ⟨b, n, m, rfl⟩ := isSlice_V hsl hx
   refine give_res R h fun u hu => ?_
   unfold bytesOf at hu
   split at hu
   ·rename_i he
    split at hu
    ·rename_i bs hbs
     cases hu
     obtain ⟨ns, hv, rfl⟩ := bytes_vals H hbs
     refine ⟨.string ⟨⟨ns.map fun n => UInt8.ofNat n.toNat⟩⟩, ?_, .sc rfl⟩
     rw [run_convert_bytes_string w src dst e b n m hs he hd]
     have hlen := H.len (P := P) w
     have hfirst := H.first (P := P) w (fun _ => rfl) els.length (Nat.le_refl _)
     rw [Nat.mul_one, List.take_of_length_le (by rw [H.size]; omega)] at hfirst
     have hn : n = els.length := by
      simp [Builtin.lenOf] at hlen; exact hlen
     cases b with
     | none =>
      simp [Builtin.firstCells] at hfirst
      have : ns = [] := by
       have h0 : vals = [] := by simpa using hfirst.symm
       rw [hv] at h0
       exact List.map_eq_nil_iff.1 h0
      subst this
      rfl
     | some ad =>
      have hload : (loadCells ad n).run P w = .ok (ns.map (Value.int .u8)).toArray w := by
       simp only [Builtin.firstCells, Nat.mul_one] at hfirst
       rw [hn, ← hv]; exact hfirst
      rw [run_bytesToString w ad n m ns hload]
      have := push_fold ns []
      simp only [List.nil_append] at this
      exact congrArg (fun q => Result.ok (Value.string q) w) this
    ·cases hu
   ·cases hu
  ·cases h
 ·rename_i e hs hd
  unfold toBytes at h
  split at h
  ·rename_i s he
   obtain ⟨hb, h⟩ := cond_some h
   have h := Option.some.inj h
   subst h
   rw [V.sc_eq hx]
   have hrun := run_bytes_of_string (P := P) w src dst e s hs hd he
   have hcap := grownCap_ge' w s.size 0 e
   have hrow : (bytesRow s (grownCap w s.size 0 e)).size = grownCap w s.size 0 e := by
    simp only [bytesRow, Array.size_append, Array.size_map, Array.size_replicate]
    have : s.data.size = s.size := rfl
    omega
   refine give_newSlice R (k := 1) (n := s.size) (cap := grownCap w s.size 0 e) (grew_drew w _) (fun e he => ?_) (by simp [byteEls]) hcap (by rw [hrow]; omega) (.inl (Nat.le_refl _)) ?_ hrun
   ·obtain ⟨q, _, rfl⟩ := List.mem_map.1 he; rfl
   ·show Begins μ _ (s.data.toList.map fun b => [AV.sc (.int .u8 b.toNat)]).flatten
    rw [byteEls_flat]
    have hds : s.data.size = s.size := rfl
    refine ⟨by rw [hrow]; simp; omega, fun i y hy => ?_⟩
    simp only [List.getElem?_map, Option.map_eq_some_iff] at hy
    obtain ⟨q, hq, rfl⟩ := hy
    refine ⟨.int .u8 q.toNat, ?_, .sc rfl⟩
    have hi : i < s.data.size := by have := lt_of_get? hq; simpa using this
    rw [bytesRow, Array.getElem?_append_left (by simpa using hi)]
    simp only [Array.getElem?_map]
    rw [← Array.getElem?_toList, hq]
    rfl
  ·cases h
 ·split at h
  ·rename_i v hv
   rw [toVal_V 0 x v hv μ _ hx]
   exact give_res R h fun u hu => scOp_spec hu μ w
  ·cases h
theorem fine_conv (R : Rel C E L μ σ a w) {o : Oper} {src dst : TypeId} {x : Operand} {f : FuncId} {q : Option Nat} {r : Slot × St} (ho : o.op = .convert src dst x) (h : opConv C P σ f q src dst x = some r) : Fine P C E a w o r := by
 unfold opConv at h
 split at h
 ·rename_i v hv
  exact (give_convert R (val_rel R hv) h).fine (by simp [execOp, ho])
 ·cases h
theorem arr1 {cs : Array Value} {x : AV} (h : [x].length = cs.size) (hv : ∀ (i : Nat) (u : AV) (q : Value), [x][i]? = some u → cs[i]? = some q → V μ u q) : ∃ c, cs = #[c] ∧ V μ x c := by
 match cs, h with
 | ⟨[c]⟩, _ => exact ⟨c, rfl, hv 0 x c rfl rfl⟩
theorem arr2 {cs : Array Value} {x y : AV} (h : [x, y].length = cs.size) (hv : ∀ (i : Nat) (u : AV) (q : Value), [x, y][i]? = some u → cs[i]? = some q → V μ u q) : ∃ c d, cs = #[c, d] ∧ V μ x c ∧ V μ y d := by
 match cs, h with
 | ⟨[c, d]⟩, _ => exact ⟨c, d, rfl, hv 0 x c rfl rfl, hv 1 y d rfl rfl⟩
theorem fine_builtin (R : Rel C E L μ σ a w) {o : Oper} {c : Call} {b : Builtin} {f : FuncId} {args : List AV} {r : Slot × St} (ho : o.op = .call c) (hc : c.callee = .builtin b) (hargs : mapO σ.val c.args.toList = some args)
  (h : evBuiltin C P σ f o.dst b c.argTypes o.type args = some r) : Fine P C E a w o r := by
 obtain ⟨h1, h2⟩ := vals_rel R hargs
 have exec : ∀ (m : Sem Value), builtin b c.argTypes o.type (c.args.map fun | .const _ => true | _ => false) (c.args.map a.eval) = (do pure (Next.value (← m))) → execOp a.eval o = (do pure (Next.value (← m))) := by
  intro m hm
  simp only [execOp, ho, resolve, hc]
  exact hm
 unfold evBuiltin at h
 split at h
 ·split at h
  ·rename_i x
   obtain ⟨q, hq, hv⟩ := arr1 h1 h2
   refine (give_res R (m := Builtin.len_ c.argTypes o.type (c.args.map a.eval)) h fun u hu => ?_).fine (exec _ rfl)
   rw [hq]
   exact give_len R hv hu
  ·cases h
 ·split at h
  ·rename_i s x
   obtain ⟨q, q', hq, hv, hv'⟩ := arr2 h1 h2
   have := give_append R (ty := o.type) hv hv' h
   rw [← hq] at this
   exact this.fine (exec _ rfl)
  ·cases h
 ·split at h
  ·rename_i s x
   obtain ⟨q, q', hq, hv, hv'⟩ := arr2 h1 h2
   have := give_copy R (ty := o.type) hv hv' h
   rw [← hq] at this
   exact this.fine (exec _ rfl)
  ·cases h
 ·exact (give_res R (m := Builtin.min_ c.argTypes o.type (c.args.map a.eval)) h fun u hu => minmax_rel h1 h2 hu).fine (exec _ rfl)
 ·exact (give_res R (m := Builtin.max_ c.argTypes o.type (c.args.map a.eval)) h fun u hu => minmax_rel h1 h2 hu).fine (exec _ rfl)
 ·cases h
end
end Go.Ef
namespace Go.Ef
open Go
def VLs (μ : M) (l : List AV) (vs : Array Value) : Prop := l.length = vs.size ∧ ∀ (i : Nat) (x : AV) (y : Value), l[i]? = some x → vs[i]? = some y → V μ x y
theorem VLs.append {μ : M} {l m : List AV} {vs ws : Array Value} (h : VLs μ l vs) (k : VLs μ m ws) : VLs μ (l ++ m) (vs ++ ws) := by
 refine ⟨by simp [h.1, k.1], fun i x y hx hy => ?_⟩
 by_cases hi : i < l.length
 ·rw [List.getElem?_append_left hi] at hx
  rw [Array.getElem?_append_left (by rw [← h.1]; exact hi)] at hy
  exact h.2 i x y hx hy
 ·rw [List.getElem?_append_right (by omega)] at hx
  rw [Array.getElem?_append_right (by rw [← h.1]; omega), ← h.1] at hy
  exact k.2 _ x y hx hy
theorem VLs.one {μ : M} {x : AV} {y : Value} (h : V μ x y) : VLs μ [x] #[y] := by
 refine ⟨rfl, fun i u v hu hv => ?_⟩
 match i with
 | 0 => simp at hu hv; subst hu; subst hv; exact h
 | i + 1 => simp at hu
def CallEnd (C : Cfg) (μ : M) (h : Heap) (w : World) (r : AV) (h' : Heap) (e : Ending) (w' : World) : Prop :=
 ∃ v μ', e = .returned v ∧ V μ' r v ∧ W C μ' h' w' ∧ Ext μ h w μ' h' w'
def CallOk (P : Program) (C : Cfg) (call : CallF) : Prop :=
 ∀ g args h r h', call g args h = some (r, h') → ∀ μ w vs, W C μ h w → VLs μ args vs → Calls P g vs w (CallEnd C μ h w r h')
theorem W.setRo {C : Cfg} {μ : M} {h : Heap} {w : World} (H : W C μ h w) : W C μ { h with ro := h.next } w :=
 { imm := H.imm, cells := H.cells, own := H.own, map := H.map, apart := H.apart, next := H.next, ro := Nat.le_refl _, pos := H.pos, zero := H.zero, fresh := H.fresh, glob := H.glob, ty := H.ty }
open Classical in
noncomputable def frozenImm (μ : M) (h : Heap) (w : World) : Nat → Nat → Option Value := fun b p =>
 match μ.imm b p with
 | some v => some v
 | none => if ∃ id, h.ro ≤ id ∧ μ.blk h id = some b then w.cell? ⟨b, p, none⟩ else none
theorem frozenImm_old {μ : M} {h : Heap} {w : World} {b p : Nat} {v : Value} (hv : μ.imm b p = some v) : frozenImm μ h w b p = some v := by simp [frozenImm, hv]
noncomputable def frozenM (μ : M) (h : Heap) (w : World) : M := { imm := frozenImm μ h w, rho := fun _ => none, own := fun _ => none }
theorem bare_frozen {μ : M} {h : Heap} {w : World} : μ.bare.le (frozenM μ h w) := ⟨fun _ _ _ hv => frozenImm_old hv, fun _ _ h => (by cases h), fun _ _ _ _ _ h => (by cases h)⟩
theorem frozen_bare {μ : M} {h : Heap} {w : World} : (frozenM μ h w).bare = frozenM μ h w := rfl
theorem plainEls_V {els : List (List AV)} (hp : plainEls els = true) {μ : M} {tok b o n cap : Nat} (hv : V μ (.sl els (tok + 1)) (.slice (some ⟨b, o, none⟩) n cap)) : V μ.bare (.sl els 0) (.slice (some ⟨b, o, none⟩) n cap) := by
 cases hv with
 | sl1 h1 h2 h3 h4 h5 h6 =>
  exact .sl0 h1 h2 h3 h4 fun i e j x hx hy => plain_V 6 x (List.all_eq_true.1 (List.all_eq_true.1 hp e (List.mem_of_getElem? hx)) x (List.mem_of_getElem? hy)) (μ := μ) (h5 i e j x hx hy)
theorem stripA_ok : ∀ n x y, stripA n x = some y → ∀ {μ : M} {v : Value}, V μ x v → V μ.bare y v := by
 intro n
 induction n with
 | zero =>
  intro x y hs μ v hv
  cases x with
  | sc u => simp only [stripA] at hs; cases hs; cases hv with | sc hq => exact .sc hq
  | sl els tok =>
   cases tok with
   | zero => simp only [stripA] at hs; cases hs; cases hv with | sl0 h1 h2 h3 h4 h5 => exact .sl0 h1 h2 h3 h4 h5
   | succ t => simp only [stripA] at hs; cases hs
  | _ => simp only [stripA] at hs; cases hs
 | succ n ih =>
  have lists : ∀ {l r : List AV} {vs : Array Value} {μ : M}, mapO (stripA n) l = some r → l.length = vs.size → (∀ (i : Nat) (x : AV) (y : Value), l[i]? = some x → vs[i]? = some y → V μ x y) →
    r.length = vs.size ∧ ∀ (i : Nat) (x : AV) (y : Value), r[i]? = some x → vs[i]? = some y → V μ.bare x y := by
   intro l r vs μ hm hl hv
   refine ⟨by rw [(mapO_spec hm).1, hl], fun i x y hx hy => ?_⟩
   obtain ⟨z, hz, hf⟩ := mapO_back hm i x hx
   exact ih z x hf (hv i z y hz hy)
  intro x y hs μ v hv
  cases x with
  | sc u => simp only [stripA] at hs; cases hs; cases hv with | sc hq => exact .sc hq
  | agg cs =>
   simp only [stripA, Option.map_eq_some_iff] at hs
   obtain ⟨l, hl, rfl⟩ := hs
   cases hv with
   | agg h1 h2 => obtain ⟨q1, q2⟩ := lists hl h1 h2; exact .agg q1 q2
  | tup cs =>
   simp only [stripA, Option.map_eq_some_iff] at hs
   obtain ⟨l, hl, rfl⟩ := hs
   cases hv with
   | tup h1 h2 => obtain ⟨q1, q2⟩ := lists hl h1 h2; exact .tup q1 q2
  | sl els tok =>
   cases tok with
   | zero => simp only [stripA] at hs; cases hs; cases hv with | sl0 h1 h2 h3 h4 h5 => exact .sl0 h1 h2 h3 h4 h5
   | succ t =>
    simp only [stripA] at hs
    cases hp : plainEls els with
    | true =>
     rw [hp] at hs
     cases hs
     cases hv with
     | sl1 h1 h2 h3 h4 h5 h6 => exact plainEls_V hp (.sl1 h1 h2 h3 h4 h5 h6)
    | false =>
     rw [hp] at hs
     simp only [cond_false, Option.map_eq_some_iff] at hs
     obtain ⟨l, hm, rfl⟩ := hs
     cases hv with
     | @sl1 _ _ b o m cap k _ c h1 h2 h3 h4 h5 h6 =>
      have hsp := mapO_spec hm
      refine .sl0 (k := k) (c := c) (by rw [hsp.1]; exact h1) h2 (fun e he => ?_) (fun i e j x hx hy => ?_) (fun i e j x hx hy => ?_)
      ·obtain ⟨i, hi, rfl⟩ := List.getElem_of_mem he
       obtain ⟨e0, he0, hf⟩ := mapO_back hm i _ (List.getElem?_eq_getElem hi)
       rw [(mapO_spec hf).1]; exact h3 e0 (List.mem_of_getElem? he0)
      ·obtain ⟨e0, he0, hf⟩ := mapO_back hm i e hx
       obtain ⟨x0, hx0, hf0⟩ := mapO_back hf j x hy
       exact h4 i e0 j x0 he0 hx0
      ·obtain ⟨e0, he0, hf⟩ := mapO_back hm i e hx
       obtain ⟨x0, hx0, hf0⟩ := mapO_back hf j x hy
       exact ih x0 x hf0 (μ := μ) (h5 i e0 j x0 he0 hx0)
  | fn f p q =>
   simp only [stripA] at hs
   split at hs
   ·rename_i p' q' hp hq
    cases hs
    cases hv with
    | fn h1 h2 h3 h4 =>
     obtain ⟨a1, a2⟩ := lists hp h1 h3
     obtain ⟨b1, b2⟩ := lists hq h2 h4
     exact .fn a1 b1 a2 b2
   ·cases hs
  | ifc t u =>
   simp only [stripA, Option.map_eq_some_iff] at hs
   obtain ⟨l, hl, rfl⟩ := hs
   cases hv with
   | ifc h1 => exact .ifc (ih u l hl h1)
  | _ => simp only [stripA] at hs; cases hs
theorem stripA_list {args args' : List AV} (h : mapO (stripA 8) args = some args') {μ : M} {vs : Array Value} (hv : VLs μ args vs) : VLs μ.bare args' vs := by
 refine ⟨by rw [(mapO_spec h).1, hv.1], fun i x y hx hy => ?_⟩
 obtain ⟨z, hz, hf⟩ := mapO_back h i x hx
 exact stripA_ok 8 z x hf (hv.2 i z y hz hy)
theorem strip_ok {C : Cfg} {μ : M} {h : Heap} {w : World} (H : W C μ h w) : ∀ n x y, strip n h x = some y → ∀ v, V μ x v → V (frozenM μ h w) y v := by
 intro n
 induction n with
 | zero =>
  intro x y hs v hv
  cases x with
  | sc u => simp only [strip] at hs; cases hs; cases hv with | sc hq => exact .sc hq
  | sl els tok =>
   cases tok with
   | zero =>
    simp only [strip] at hs; cases hs
    cases hv with
    | sl0 h1 h2 h3 h4 h5 => exact .sl0 h1 h2 h3 (fun i e j x hx hy => frozenImm_old (h4 i e j x hx hy)) fun i e j x hx hy => (h5 i e j x hx hy).mono bare_frozen
   | succ t => simp only [strip] at hs; cases hs
  | _ => simp only [strip] at hs; cases hs
 | succ n ih =>
  have lists : ∀ {l r : List AV} {vs : Array Value}, mapO (strip n h) l = some r → l.length = vs.size → (∀ (i : Nat) (x : AV) (y : Value), l[i]? = some x → vs[i]? = some y → V μ x y) →
    r.length = vs.size ∧ ∀ (i : Nat) (x : AV) (y : Value), r[i]? = some x → vs[i]? = some y → V (frozenM μ h w) x y := by
   intro l r vs hm hl hv
   refine ⟨by rw [(mapO_spec hm).1, hl], fun i x y hx hy => ?_⟩
   obtain ⟨z, hz, hf⟩ := mapO_back hm i x hx
   exact ih z x hf y (hv i z y hz hy)
  -- elements of a slice
  have elems : ∀ {els els' : List (List AV)} {b o m cap k : Nat} {c : Nat → Nat → Value}, mapO (mapO (strip n h)) els = some els' → m = els.length → m ≤ cap → (∀ e ∈ els, e.length = k) →
    (∀ (i : Nat) (e : List AV) (j : Nat) (x : AV), els[i]? = some e → e[j]? = some x → frozenImm μ h w b (o + i * k + j) = some (c i j)) →
    (∀ (i : Nat) (e : List AV) (j : Nat) (x : AV), els[i]? = some e → e[j]? = some x → V μ x (c i j)) → V (frozenM μ h w) (.sl els' 0) (.slice (some ⟨b, o, none⟩) m cap) := by
   intro els els' b o m cap k c hm h1 h2 h3 h4 h5
   have hsp := mapO_spec hm
   refine .sl0 (k := k) (c := c) (by rw [hsp.1]; exact h1) h2 (fun e he => ?_) (fun i e j x hx hy => ?_) (fun i e j x hx hy => ?_)
   ·obtain ⟨i, hi, rfl⟩ := List.getElem_of_mem he
    obtain ⟨e0, he0, hf⟩ := mapO_back hm i _ (List.getElem?_eq_getElem hi)
    rw [(mapO_spec hf).1]; exact h3 e0 (List.mem_of_getElem? he0)
   ·obtain ⟨e0, he0, hf⟩ := mapO_back hm i e hx
    obtain ⟨x0, hx0, hf0⟩ := mapO_back hf j x hy
    exact h4 i e0 j x0 he0 hx0
   ·obtain ⟨e0, he0, hf⟩ := mapO_back hm i e hx
    obtain ⟨x0, hx0, hf0⟩ := mapO_back hf j x hy
    rw [frozen_bare]
    exact ih x0 x hf0 _ (h5 i e0 j x0 he0 hx0)
  intro x y hs v hv
  cases x with
  | sc u => simp only [strip] at hs; cases hs; cases hv with | sc hq => exact .sc hq
  | agg cs =>
   simp only [strip, Option.map_eq_some_iff] at hs
   obtain ⟨l, hl, rfl⟩ := hs
   cases hv with
   | agg h1 h2 => obtain ⟨q1, q2⟩ := lists hl h1 h2; exact .agg q1 q2
  | tup cs =>
   simp only [strip, Option.map_eq_some_iff] at hs
   obtain ⟨l, hl, rfl⟩ := hs
   cases hv with
   | tup h1 h2 => obtain ⟨q1, q2⟩ := lists hl h1 h2; exact .tup q1 q2
  | sl els tok =>
   cases tok with
   | zero =>
    simp only [strip] at hs; cases hs
    cases hv with
    | sl0 h1 h2 h3 h4 h5 => exact .sl0 h1 h2 h3 (fun i e j x hx hy => frozenImm_old (h4 i e j x hx hy)) fun i e j x hx hy => (h5 i e j x hx hy).mono bare_frozen
   | succ t =>
    simp only [strip] at hs
    cases hp : plainEls els with
    | true =>
     rw [hp] at hs
     cases hs
     cases hv with
     | sl1 h1 h2 h3 h4 h5 h6 => exact (plainEls_V hp (.sl1 h1 h2 h3 h4 h5 h6)).mono bare_frozen
    | false =>
    rw [hp] at hs
    simp only [cond_false, Option.map_eq_some_iff] at hs
    obtain ⟨l, hl, rfl⟩ := hs
    cases hv with
    | sl1 h1 h2 h3 h4 h5 h6 => exact elems hl h1 h2 h3 (fun i e j x hx hy => frozenImm_old (h4 i e j x hx hy)) h5
  | rsl id off len k =>
   simp only [strip] at hs
   obtain ⟨hro, hs⟩ := cond_some hs
   have hro := ble_true hro
   split at hs
   ·rename_i cs hg
    split at hs
    ·rename_i cs' hst
     simp only [Option.map_eq_some_iff] at hs
     obtain ⟨l, hl, rfl⟩ := hs
     obtain ⟨s1, s2, s3⟩ := stretch_spec hst
     obtain ⟨B, base, sz, hrho, ok, hnoimm⟩ := H.cells id cs hg
     have hblk : μ.blk h id = some B := by simp [M.blk, hg, hrho]
     have hck := chunks_get k len cs' s2
     cases hv with
     | rsl hrho' h2 h3 =>
      rename_i cap b' base' sz' o
      rw [hrho] at hrho'; cases hrho'
      have hcell : ∀ (i : Nat) (e : List AV) (j : Nat) (x : AV), (chunks len k cs')[i]? = some e → e[j]? = some x → ∃ z, w.cell? ⟨B, o + i * k + j, none⟩ = some z ∧ V μ x z := by
       intro i e j x hx hy
       obtain ⟨q1, q2⟩ := hck i e hx
       have hj : j < k := q1 ▸ lt_of_get? hy
       have hi := lt_of_get? hx
       rw [chunks_length] at hi
       have hlt := idx_lt (k := k) hi hj
       rw [q2 j hj, s3 _ hlt] at hy
       obtain ⟨z, hz, hvz⟩ := ok.cell _ _ hy
       rcases h3 with h3 | ⟨h3, _⟩
       ·omega
       ·refine ⟨z, ?_, hvz⟩
        rw [h3, show base + off + i * k + j = base + (off + (i * k + j)) by omega]; exact hz
      refine elems (k := k) (c := fun i j => (w.cell? ⟨B, o + i * k + j, none⟩).getD undef) hl (chunks_length _ _ _).symm h2 (fun e he => ?_) (fun i e j x hx hy => ?_) (fun i e j x hx hy => ?_)
      ·obtain ⟨i, hi, rfl⟩ := List.getElem_of_mem he
       exact (hck i _ (List.getElem?_eq_getElem hi)).1
      ·obtain ⟨z, hz, _⟩ := hcell i e j x hx hy
       simp only [frozenImm, hnoimm]
       rw [if_pos ⟨id, hro, hblk⟩, hz]; rfl
      ·obtain ⟨z, hz, hvz⟩ := hcell i e j x hx hy
       simp only [hz, Option.getD_some]; exact hvz
    ·cases hs
   ·cases hs
  | fn f p q =>
   simp only [strip] at hs
   split at hs
   ·rename_i p' q' hp hq
    cases hs
    cases hv with
    | fn h1 h2 h3 h4 =>
     obtain ⟨a1, a2⟩ := lists hp h1 h3
     obtain ⟨b1, b2⟩ := lists hq h2 h4
     exact .fn a1 b1 a2 b2
   ·cases hs
  | ifc t u =>
   simp only [strip, Option.map_eq_some_iff] at hs
   obtain ⟨l, hl, rfl⟩ := hs
   cases hv with
   | ifc h1 => exact .ifc (ih u l hl _ h1)
  | _ => simp only [strip] at hs; cases hs
theorem pure_end {C : Cfg} {μ : M} {h : Heap} {w : World} (H : W C μ h w) {r r' : AV} {h1 : Heap} {n : Nat} (hst : strip n h1 r = some r') {e : Ending} {w' : World} (k : CallEnd C μ { h with ro := h.next } w r h1 e w') : CallEnd C μ h w r' h e w' := by
  obtain ⟨v, μ1, rfl, hv, H1, X⟩ := k
  have nolive : ∀ id, h.next ≤ id → μ.blk h id = none := by
    intro id hid
    cases hb : μ.blk h id with
    | none => rfl
    | some b => have := H.next id (blk_some hb); omega
  have hro : h1.ro = h.next := X.ro
  have keep : ∀ b, b < w.heap.size → w'.heap[b]? = w.heap[b]? := fun b hb => X.frame b hb fun id hid hq => by
    have := nolive id hid
    have hq : μ.blk h id = some b := hq
    rw [this] at hq; cases hq
  have nonew : ∀ b p, b < w.heap.size → μ.imm b p = none → frozenImm μ1 h1 w' b p = none := by
    intro b p hb hp
    have h0 : μ1.imm b p = none := by
      cases hq : μ1.imm b p with
      | none => rfl
      | some q =>
        obtain ⟨id, hid, hbl⟩ := X.imm b p hb hp (by simp [hq])
        have hbl : μ.blk h id = some b := hbl
        rw [nolive id hid] at hbl; cases hbl
    simp only [frozenImm, h0]
    rw [if_neg]
    rintro ⟨id, hid, hbl⟩
    obtain ⟨id0, q1, q2⟩ := X.came id b hbl hb
    have q1 : μ.blk h id0 = some b := q1
    rw [hro] at hid
    rcases q2 with rfl | ⟨q2, _⟩
    · rw [nolive _ hid] at q1; cases q1
    · have q2 : h.next ≤ id0 := q2
      rw [nolive _ q2] at q1; cases q1
  have le : μ.le { imm := frozenImm μ1 h1 w', rho := μ.rho, own := μ.own } := ⟨fun b o v hv => frozenImm_old (X.le.imm b o v hv), fun _ _ h => h, M.same_own fun _ => rfl⟩
  refine ⟨v, { imm := frozenImm μ1 h1 w', rho := μ.rho, own := μ.own }, rfl, (strip_ok H1 n r r' hst v hv).mono ⟨fun _ _ _ h => h, fun _ _ h => (by cases h), fun _ _ _ _ _ h => (by cases h)⟩, ?_, ?_⟩
  · exact { imm := fun b p q hq => by
              have hq2 : frozenImm μ1 h1 w' b p = some q := hq
              unfold frozenImm at hq2
              split at hq2
              · rename_i z hz; cases hq2; exact H1.imm _ _ _ hz
              · split at hq2
                · exact hq2
                · cases hq2
            cells := fun id cs hg => H.old_cells le hg (fun b hb => keep b (H.blk_lt hb)) (fun b hb p hp => nonew b p (H.blk_lt hb) hp)
            own := fun id k e _ hg => H.old_own hg rfl (fun b hb => keep b (H.blk_lt hb)) (fun b hb p hp => nonew b p (H.blk_lt hb) hp)
            map := fun id es hg => H.old_map le hg (fun b hb => keep b (H.blk_lt hb)) (fun b hb p hp => nonew b p (H.blk_lt hb) hp)
            apart := H.apart, next := H.next, ro := H.ro, pos := H.pos, zero := H.zero, fresh := H.fresh, glob := glob_mono le H.glob, ty := H.keepTy rfl (Nat.le_refl _) le fun b x hx => by rw [shape_of_heap (keep b (shape_lt hx))]; exact hx }
  · exact { le := le, os := X.os, tape := X.tape, output := X.output, size := X.size, ro := rfl, next := Nat.le_refl _, frame := fun b hb _ => keep b hb,
            came := fun id b hb _ => ⟨id, hb, .inl rfl⟩, imm := fun b p hb h0 h2 => absurd (nonew b p hb h0) h2 }
theorem heapF_get (id : Nat) : heapF.get id = none := by show (bif Nat.blt id 1 then (Tr.leaf : Tr AObj).get id else none) = none; cases Nat.blt id 1 <;> rfl
theorem W.new {C : Cfg} {μ : M} {h : Heap} {w : World} (H : W C μ h w) : W C μ.bare heapF w where
 imm := H.imm
 cells := fun id cs h => by rw [heapF_get] at h; cases h
 own := fun id k _ _ h => by rw [heapF_get] at h; cases h
 map := fun id es h => by rw [heapF_get] at h; cases h
 apart := fun i j b h => by simp [M.blk, heapF_get] at h
 next := fun id h => absurd (heapF_get id) h
 ro := Nat.le_refl _
 pos := Nat.zero_lt_one
 zero := rfl
 fresh := fun _ _ => ⟨rfl, rfl⟩
 glob := H.glob
 ty := fun id t h => by simp [heapF, Tr.get_leaf] at h
theorem fresh_end {C : Cfg} {μ : M} {h : Heap} {w : World} (H : W C μ h w) {r r' : AV} {h1 : Heap} {n : Nat} (hst : strip n h1 r = some r') {e : Ending} {w' : World} (k : CallEnd C μ.bare heapF w r h1 e w') : CallEnd C μ h w r' h e w' := by
  obtain ⟨v, μ1, rfl, hv, H1, X⟩ := k
  have nob : ∀ id, μ.bare.blk heapF id = none := fun id => by simp [M.blk, heapF_get]
  have keep : ∀ b, b < w.heap.size → w'.heap[b]? = w.heap[b]? := fun b hb => X.frame b hb fun id _ hq => by rw [nob] at hq; cases hq
  have nonew : ∀ b p, b < w.heap.size → μ.imm b p = none → frozenImm μ1 h1 w' b p = none := by
    intro b p hb hp
    have h0 : μ1.imm b p = none := by
      cases hq : μ1.imm b p with
      | none => rfl
      | some q =>
        obtain ⟨id, hid, hbl⟩ := X.imm b p hb hp (by simp [hq])
        rw [nob] at hbl; cases hbl
    simp only [frozenImm, h0]
    rw [if_neg]
    rintro ⟨id, hid, hbl⟩
    obtain ⟨id0, q1, _⟩ := X.came id b hbl hb
    rw [nob] at q1; cases q1
  have le : μ.le { imm := frozenImm μ1 h1 w', rho := μ.rho, own := μ.own } := ⟨fun b o v hv => frozenImm_old (X.le.imm b o v hv), fun _ _ h => h, M.same_own fun _ => rfl⟩
  refine ⟨v, { imm := frozenImm μ1 h1 w', rho := μ.rho, own := μ.own }, rfl, (strip_ok H1 n r r' hst v hv).mono ⟨fun _ _ _ h => h, fun _ _ h => (by cases h), fun _ _ _ _ _ h => (by cases h)⟩, ?_, ?_⟩
  · exact { imm := fun b p q hq => by
              have hq2 : frozenImm μ1 h1 w' b p = some q := hq
              unfold frozenImm at hq2
              split at hq2
              · rename_i z hz; cases hq2; exact H1.imm _ _ _ hz
              · split at hq2
                · exact hq2
                · cases hq2
            cells := fun id cs hg => H.old_cells le hg (fun b hb => keep b (H.blk_lt hb)) (fun b hb p hp => nonew b p (H.blk_lt hb) hp)
            own := fun id k e _ hg => H.old_own hg rfl (fun b hb => keep b (H.blk_lt hb)) (fun b hb p hp => nonew b p (H.blk_lt hb) hp)
            map := fun id es hg => H.old_map le hg (fun b hb => keep b (H.blk_lt hb)) (fun b hb p hp => nonew b p (H.blk_lt hb) hp)
            apart := H.apart, next := H.next, ro := H.ro, pos := H.pos, zero := H.zero, fresh := H.fresh, glob := glob_mono le H.glob, ty := H.keepTy rfl (Nat.le_refl _) le fun b x hx => by rw [shape_of_heap (keep b (shape_lt hx))]; exact hx }
  · exact { le := le, os := X.os, tape := X.tape, output := X.output, size := X.size, ro := rfl, next := Nat.le_refl _, frame := fun b hb _ => keep b hb,
            came := fun id b hb _ => ⟨id, hb, .inl rfl⟩, imm := fun b p hb h0 h2 => absurd (nonew b p hb h0) h2 }
def Known (P : Program) (C : Cfg) (g : FuncId) (p : List AV → Heap → Option (AV × Heap)) : Prop :=
 ((∃ fn : Func, P.funcs[g]? = some fn ∧ fn.body.isSome = true) ∧
  ∀ args h r h', p args h = some (r, h') → ∀ μ w vs, W C μ h w → VLs μ args vs → Calls P g vs w (CallEnd C μ h w r h')) ∨
 ∀ args h r h', p args h = some (r, h') → ∀ μ w vs, W C μ h w → VLs μ args vs → ∃ v w', (callFunc g vs).run P w = .ok (.value v) w' ∧ CallEnd C μ h w r h' (.returned v) w'
structure Sane (P : Program) (C : Cfg) : Prop where
 plain : ∀ (g : FuncId) (fn : Func), P.funcs[g]? = some fn → fn.body.isSome = true → (fn.name == "runtime.NumGoroutine") = false
 prim : ∀ g p, C.prim g = some p → Known P C g p
def Bodied (P : Program) (call : CallF) : Prop := ∀ g args h r, call g args h = some r → ∃ fn : Func, P.funcs[g]? = some fn ∧ fn.body.isSome = true
def EnterOk (P : Program) (C : Cfg) (call : CallF) : Prop :=
 ∀ g args h r h', call g args h = some (r, h') → ∀ μ w vs, W C μ h w → VLs μ args vs →
  ((callFunc g vs).run P w = .ok (.enter g vs) w ∧ Calls P g vs w (CallEnd C μ h w r h')) ∨
  ∃ v w', (callFunc g vs).run P w = .ok (.value v) w' ∧ CallEnd C μ h w r h' (.returned v) w'
theorem enter_run {P : Program} {C : Cfg} (S : Sane P C) {g : FuncId} (h : ∃ fn : Func, P.funcs[g]? = some fn ∧ fn.body.isSome = true) (vs : Array Value) (w : World) : (callFunc g vs).run P w = .ok (.enter g vs) w := by
 obtain ⟨fn, hf, hb⟩ := h
 have hnm := S.plain g fn hf hb
 have hnone : fn.body.isNone = false := by cases hq : fn.body with
  | none => rw [hq] at hb; cases hb
  | some _ => rfl
 simp only [callFunc, Sem.run_bind, run_program, Result.andThen_ok, hf]
 simp [hnm, hnone]
theorem callP_ok {P : Program} {C : Cfg} {call : CallF} (S : Sane P C) (K : CallOk P C call) (B : Bodied P call) : EnterOk P C (callP C call) := by
 intro g args h r h' hc μ w vs H hv
 unfold callP at hc
 split at hc
 ·rename_i p hp
  rcases S.prim g p hp with ⟨hb, hk⟩ | hk
  ·exact .inl ⟨enter_run S hb vs w, hk args h r h' hc μ w vs H hv⟩
  ·exact .inr (hk args h r h' hc μ w vs H hv)
 ·cases hfr : C.fresh g with
  | true =>
   rw [hfr] at hc
   simp only [cond_true] at hc
   split at hc
   ·rename_i args' hargs
    split at hc
    ·rename_i r0 h0 hcall
     split at hc
     ·rename_i r1 hst
      cases hc
      exact .inl ⟨enter_run S (B g _ _ _ hcall) vs w, (K g args' _ r0 h0 hcall μ.bare w vs H.new (stripA_list hargs hv)).mono fun e w' k => fresh_end H hst k⟩
     ·cases hc
    ·cases hc
   ·cases hc
  | false =>
  rw [hfr] at hc
  simp only [cond_false] at hc
  cases hpure : C.pure g with
  | false => rw [hpure] at hc; exact .inl ⟨enter_run S (B g args h _ hc) vs w, K g args h r h' hc μ w vs H hv⟩
  | true =>
   rw [hpure] at hc
   simp only [cond_true] at hc
   split at hc
   ·rename_i r0 h0 hcall
    split at hc
    ·rename_i r1 hst
     cases hc
     exact .inl ⟨enter_run S (B g args _ _ hcall) vs w, (K g args _ r0 h0 hcall μ w vs H.setRo hv).mono fun e w' k => pure_end H hst k⟩
    ·cases hc
   ·cases hc
section
variable {P : Program} {C : Cfg} {E : Ent} {L : List Nat} {μ : M} {σ : St} {a : Act} {w : World}
theorem fine_enter (R : Rel C E L μ σ a w) {o : Oper} {call : CallF} (K : EnterOk P C call) {g : FuncId} {args : List AV} {vs : Array Value} (hv : VLs μ args vs) (hex : (execOp a.eval o).run P w = (callFunc g vs).run P w) {r : Slot × St} (h : back σ (call g args σ.h) = some r) : Fine P C E a w o r := by
 unfold back at h
 split at h
 ·rename_i v h' hc
  cases h
  intro next Q hn
  unfold Oper.wp
  rw [hex]
  rcases K g args σ.h v h' hc μ w vs R.world hv with ⟨h1, h2⟩ | ⟨q, w', h1, h2⟩
  ·rw [h1]
   refine h2.mono fun e w' k => ?_
   obtain ⟨q, μ', rfl, h1, h2, h3⟩ := k
   exact hn q w' ⟨L, μ', R.step h3 h2, h1⟩
  ·rw [h1]
   obtain ⟨q', μ', he, h1, h2, h3⟩ := h2
   cases he
   exact hn q w' ⟨L, μ', R.step h3 h2, h1⟩
 ·cases h
theorem fine_call (R : Rel C E L μ σ a w) {o : Oper} {c : Call} {call : CallF} {f : FuncId} (S : Sane P C) (K : CallOk P C call) (B : Bodied P call) {r : Slot × St} (ho : o.op = .call c) (h : opCall C P call f o.dst o.type c σ = some r) : Fine P C E a w o r := by
 have K' := callP_ok S K B
 unfold opCall at h
 split at h
 ·cases h
 ·rename_i args hargs
  have hal := vals_rel R hargs
  split at h
  ·rename_i b hb; exact fine_builtin R ho hb hargs h
  ·rename_i x hx
   unfold callVal at h
   split at h
   ·rename_i g first cap hval
    have hv := val_rel R hval
    generalize hev : a.eval x = cx at hv
    cases hv with
    | fn h1 h2 h3 h4 =>
     rename_i fs cs
     refine fine_enter R K' ((VLs.append ⟨h1, h3⟩ hal).append ⟨h2, h4⟩) (congrArg (fun x : Sem Next => x.run P w) ?_) h
     simp [execOp, ho, resolve, hx, hev, Deferred.ofValue, invoke]
   ·cases h
  ·rename_i x name hx
   unfold callMeth at h
   split at h
   ·rename_i t v hval
    split at h
    ·rename_i g rv hm
     have hv := val_rel R hval
     generalize hev : a.eval x = cx at hv
     cases hv with
     | ifc hvv =>
      rename_i cv
      have hmeth : rv = v ∧ ∀ (n : Nat) (w : World), (method (n + 1) t cv name).run P w = .ok (g, cv) w := by
       unfold evMethod at hm
       split at hm
       ·rename_i i hi
        split at hm
        ·rename_i m hfind
         split at hm
         ·rename_i p hp
          unfold pickFn at hm
          obtain ⟨hpath, hm⟩ := cond_some hm
          split at hm
          ·rename_i g' r' hfun
           obtain ⟨hrp, hm⟩ := cond_some hm
           cases hm
           refine ⟨rfl, fun n w => ?_⟩
           have hpl : m.path.toList = [] := by simpa using hpath
           have hrp : r' = p := by simpa using hrp
           subst hrp
           unfold isPtrT at hp
           split at hp
           ·rename_i e hu
            cases hp
            simp [method, typeInfo, hi, hfind, hpl, follow, hfun, receiverAt, run_underlying hu, Place.get]
           ·rename_i d hne hu
            cases hp
            have hu : P.underlying t = some d := hu
            simp only [method, Sem.run_bind, typeInfo, run_program, Result.andThen_ok, hi, Sem.run_pure, hfind, hpl, follow, hfun, receiverAt, run_underlying hu]
            cases d <;> first | (exact absurd rfl (hne _)) | simp [Place.get]
           ·cases hp
          ·cases hm
         ·cases hm
        ·cases hm
       ·cases hm
      obtain ⟨rfl, hrun⟩ := hmeth
      have hargs2 : VLs μ (rv :: args) (#[cv] ++ c.args.map a.eval) := VLs.append (VLs.one hvv) hal
      refine fine_enter R K' hargs2 ?_ h
      have hm1 : (method (P.types.size + Made.depth) t cv name).run P w = .ok (g, cv) w := hrun (P.types.size + 99) w
      have hext : (#[Value.iface t cv] ++ c.args.map a.eval).extract 1 (#[Value.iface t cv] ++ c.args.map a.eval).size = c.args.map a.eval := by
       apply Array.ext'
       simp
       exact List.take_of_length_le (by simp)
      have h0 : (#[Value.iface t cv] ++ c.args.map a.eval)[0]? = some (.iface t cv) := by rw [Array.getElem?_append_left (by simp)]; rfl
      simp only [execOp, ho, resolve, hx, hev, Sem.run_bind, Sem.run_pure, Result.andThen_ok, invoke, h0, hext, callMethod, run_program, hm1]
    ·cases h
   ·cases h
end
end Go.Ef
namespace Go.Ef
open Go
noncomputable section
variable {P : Program} {C : Cfg} {E : Ent} {L : List Nat} {μ : M} {σ : St} {a : Act} {w : World}
theorem findA_spec {d : TypeDesc} {k : Value} : ∀ (es : List (AV × AV)) (m : List MapEntry) (i : Nat) (q : Option AV), m.length = es.length →
  (∀ (j : Nat) (x v : AV), es[j]? = some (x, v) → ∃ e, m[j]? = some e ∧ V μ x e.key ∧ V μ v e.val) → findA d k es = some q →
  (q = none ∧ Instr.findNow d k m i = some none) ∨ ∃ v j e, q = some v ∧ Instr.findNow d k m i = some (some (j, e)) ∧ V μ v e := by
 intro es
 induction es with
 | nil =>
  intro m i q hl _ h
  cases h
  have : m = [] := List.length_eq_zero_iff.1 hl
  subst this
  exact .inl ⟨rfl, rfl⟩
 | cons e es ih =>
  intro m i q hl hm h
  obtain ⟨x, v⟩ := e
  cases m with
  | nil => cases hl
  | cons f m =>
   obtain ⟨f', h0, h1, h2⟩ := hm 0 x v rfl
   cases h0
   have next : ∀ q, findA d k es = some q → (q = none ∧ Instr.findNow d k m (i + 1) = some none) ∨ ∃ v j e, q = some v ∧ Instr.findNow d k m (i + 1) = some (some (j, e)) ∧ V μ v e :=
    fun q hq => ih m (i + 1) q (by simpa using hl) (fun j y u hj => hm (j + 1) y u hj) hq
   unfold findA at h
   split at h
   ·rename_i e1 e2
    cases e2
   ·rename_i k' v' r' e1
    cases e1
    have hk := V.sc_eq h1
    rw [← hk] at h
    split at h
    ·rename_i hs
     cases h
     exact .inr ⟨v, i, f.val, rfl, by simp [Instr.findNow, hs], h2⟩
    ·rename_i hs
     rcases next q h with ⟨g1, g2⟩ | ⟨u, j, e, g1, g2, g3⟩
     ·exact .inl ⟨g1, by simp [Instr.findNow, hs, g2]⟩
     ·exact .inr ⟨u, j, e, g1, by simp [Instr.findNow, hs, g2], g3⟩
    ·cases h
   ·cases h
theorem mapT_spec {t k e : TypeId} (h : mapT P t = some (k, e)) : P.underlying t = some (.map k e) := by
 unfold mapT at h
 split at h
 ·rename_i k' e' hu; cases h; exact hu
 ·cases h
theorem keyB_ok {d : TypeDesc} {k : Value} (h : keyB d k = true) : MapKept.IsKey d k := by
 cases d <;> cases k <;> simp_all [keyB, MapKept.IsKey]
theorem twoA_V {ok b : Bool} {v : AV} {c : Value} (h : V μ v c) : V μ (twoA ok v b) (if ok then .tuple #[c, .bool b] else c) := by
 cases ok with
 | false => exact h
 | true =>
  refine .tup rfl fun i x y hx hy => ?_
  match i with
  | 0 => simp at hx hy; subst hx; subst hy; exact h
  | 1 => simp at hx hy; subst hx; subst hy; exact .sc rfl
  | i + 2 => simp at hx
theorem fine_lookup (R : Rel C E L μ σ a w) {o : Oper} {t : TypeId} {x i : Operand} {ok : Bool} {r : Slot × St} (ho : o.op = .lookup t x i ok) (h : opLookup P σ t x i ok = some r) : Fine P C E a w o r := by
 unfold opLookup at h
 split at h
 ·rename_i m k kt et hm hi ht
  have ht := mapT_spec ht
  have hx := val_rel R hm
  generalize hxv : a.eval x = xv at hx
  have hk := V.sc_eq (val_rel R hi)
  split at h
  ·rename_i d hd
   obtain ⟨hkb, h⟩ := cond_some h
   have hkey := keyB_ok hkb
   split at h
   ·rename_i es hes
    -- the entries in the world
    have ents : ∃ m' : Array MapEntry, ((xv = .map none ∧ m' = #[]) ∨ ∃ b clk, xv = .map (some b) ∧ w.heap[b]? = some (.map m' clk)) ∧ m'.toList.length = es.length ∧ ∀ (j : Nat) (x v : AV), es[j]? = some (x, v) → ∃ e, m'.toList[j]? = some e ∧ V μ x e.key ∧ V μ v e.val := by
     unfold entriesA at hes
     split at hes
     ·rename_i id
      split at hes
      ·rename_i es' hg
       cases hes
       obtain ⟨b, hr, ⟨m', clk, hb, hsz, q⟩, _⟩ := R.world.map id es hg
       cases hx with
       | mp hr' =>
        rw [hr] at hr'
        cases hr'
        exact ⟨m', .inr ⟨b, clk, rfl, hb⟩, by simpa using hsz, fun j x v hj => by simpa using q j x v hj⟩
      ·cases hes
     ·cases hes
      exact ⟨#[], .inl ⟨V.sc_eq hx, rfl⟩, rfl, fun j x v hj => by cases hj⟩
     ·cases hes
    obtain ⟨m', hxm, hlen, hq⟩ := ents
    have found : ∀ (j : Nat) (c : Value), Instr.findNow d k m'.toList 0 = some (some (j, c)) → (Instr.lookup t xv (a.eval i) ok).run P w = .ok (if ok then .tuple #[c, .bool true] else c) w := by
     intro j c hf
     rw [hk]
     rcases hxm with ⟨rfl, rfl⟩ | ⟨b, clk, rfl, hb⟩
     ·cases hf
     ·cases ok <;> simp [Instr.lookup, run_underlying ht, MapKept.run_getObj_map hb, MapKept.run_checkKey hd hkey, MapKept.run_findKey hd hf]
    have lost : ∀ c : Value, Instr.findNow d k m'.toList 0 = some none → (zeroValue et).run P w = .ok c w → (Instr.lookup t xv (a.eval i) ok).run P w = .ok (if ok then .tuple #[c, .bool false] else c) w := by
     intro c hf hz
     rw [hk]
     rcases hxm with ⟨rfl, rfl⟩ | ⟨b, clk, rfl, hb⟩
     ·cases ok <;> simp [Instr.lookup, run_underlying ht, MapKept.run_checkKey hd hkey, MapKept.run_findKey (l := []) hd hf, hz]
     ·cases ok <;> simp [Instr.lookup, run_underlying ht, MapKept.run_getObj_map hb, MapKept.run_checkKey hd hkey, MapKept.run_findKey hd hf, hz]
    have ex : execOp a.eval o = (do pure (Next.value (← Instr.lookup t xv (a.eval i) ok))) := by simp [execOp, ho, hxv]
    split at h
    ·rename_i v hf
     cases h
     rcases findA_spec es m'.toList 0 _ hlen hq hf with ⟨g1, _⟩ | ⟨u, j, e, g1, g2, g3⟩
     ·cases g1
     ·cases g1
      exact (give_V R (found j e g2) (twoA_V g3)).fine ex
    ·rename_i hf
     split at h
     ·rename_i z hz
      cases h
      obtain ⟨ti, v, hi', hzv, ho2⟩ := zeroA_spec hz
      rcases findA_spec es m'.toList 0 _ hlen hq hf with ⟨_, g2⟩ | ⟨u, j, e, g1, _, _⟩
      ·exact (give_V R (lost v g2 (by simp [zeroValue, typeInfo, hi', hzv])) (twoA_V (ofVal_V 2 v z ho2 μ))).fine ex
      ·cases g1
     ·cases h
    ·cases h
   ·cases h
  ·cases h
 ·cases h
theorem W.growMap {h : Heap} {w' : World} (H : W C μ h w) (G : Grew w w' (.map #[] 0)) :
  W C (μ.addRho h.next (w.heap.size, 0, 0)) (h.new (.map [])).2 w' ∧ Ext μ h w (μ.addRho h.next (w.heap.size, 0, 0)) (h.new (.map [])).2 w' := by
 have l := le_addRho (r := (w.heap.size, 0, 0)) (H.fresh h.next (Nat.le_refl _)).1
 refine H.grow G (.map []) l (fun i hi => if_neg hi) (fun _ _ => rfl) (fun b p v hv => .inl hv) ⟨if_pos rfl, ⟨#[], 0, G.new, rfl, fun i k v hi => by cases hi⟩, fun p => ?_⟩
 show μ.imm w.heap.size p = none
 cases hv : μ.imm w.heap.size p with
 | none => rfl
 | some v => have := H.imm_lt hv; omega
theorem fine_makeMap (R : Rel C E L μ σ a w) {o : Oper} {t : TypeId} {hint : Option Operand} {r : Slot × St} (ho : o.op = .makeMap t hint) (h : opMakeMap σ hint = some r) : Fine P C E a w o r := by
 unfold opMakeMap at h
 split at h
 ·cases h
  have G := grew_alloc w (.map #[] 0)
  obtain ⟨h1, h2⟩ := R.world.growMap G
  have hg : Gives P C E a w (Instr.makeMap t none) (.v (.mp σ.h.next), { σ with h := (σ.h.new (.map [])).2 }) :=
   ⟨_, _, rfl, L, _, R.step h2 h1, V.mp (if_pos rfl)⟩
  exact hg.fine (by simp [execOp, ho])
 ·cases h
theorem W.putMap {h h' : Heap} (H : W C μ h w) {id : Nat} {es es' : List (AV × AV)} (hg : h.get id = some (.map es)) (hp : h.put id (.map es') = some h')
    {b : Nat} {w' : World} {m m' : Array MapEntry} {clk clk' : Nat} (hr : μ.rho id = some (b, 0, 0)) (hb : w.heap[b]? = some (.map m clk)) (hw : w' = { w with heap := w.heap.setIfInBounds b (.map m' clk') })
    (hsz : m'.size = es'.length) (hm : ∀ (i : Nat) (k v : AV), es'[i]? = some (k, v) → ∃ e, m'[i]? = some e ∧ V μ k e.key ∧ V μ v e.val) : W C μ h' w' ∧ Ext μ h w μ h' w' := by
  obtain ⟨s1, s2⟩ := MapKept.heap_set (o' := .map m' clk') hb
  have new : w'.heap[b]? = some (.map m' clk') := by rw [hw]; exact s1
  have other : ∀ b', b' ≠ b → w'.heap[b']? = w.heap[b']? := fun b' hb' => by rw [hw]; exact s2 b' hb'
  have hblk : μ.blk h id = some b := by simp [M.blk, hg, hr]
  have hsame : ∀ j, μ.blk h' j = μ.blk h j := by
    intro j
    simp only [M.blk]
    rw [put_get hp]
    by_cases e : id = j
    · subst e; rw [if_pos rfl, hg]
    · rw [if_neg e]
  obtain ⟨p1, p2, p3⟩ := put_rest hp
  have himm : ∀ p, μ.imm b p = none := by
    obtain ⟨b', hr', _, hi⟩ := H.map id es hg
    rw [hr] at hr'; cases hr'; exact hi
  have ne_of : ∀ j b', j ≠ id → μ.blk h j = some b' → b' ≠ b := fun j b' hj hb' e => hj (H.apart j id b (e ▸ hb') hblk)
  have noshape : w.shape? b = none := by unfold World.shape?; rw [hb]
  refine ⟨{ imm := ?_, cells := ?_, own := ?_, map := ?_, apart := ?_, next := ?_, ro := ?_, pos := ?_, zero := ?_, fresh := ?_, glob := H.glob, ty := H.keepTy (put_ty hp) (by rw [p2]; exact Nat.le_refl _) (.refl _) fun b' x hx => ?_ }, ?_⟩
  · intro b' p v hv
    have hb' : b' ≠ b := by rintro rfl; rw [himm] at hv; cases hv
    rw [cell_of_heap (other b' hb')]; exact H.imm _ _ _ hv
  · intro j l hj
    rw [put_get hp] at hj
    by_cases e : id = j
    · subst e; simp at hj
    · simp only [e, if_false] at hj
      obtain ⟨b', base', sz', hr', ok', hi'⟩ := H.cells j l hj
      exact ⟨b', base', sz', hr', ok'.keep (.refl _) (other b' (ne_of j b' (fun q => e q.symm) (by simp [M.blk, hj, hr']))), hi'⟩
  · intro j k e0 n0 hj
    rw [put_get hp] at hj
    by_cases e : id = j
    · subst e; simp at hj
    · simp only [e, if_false] at hj
      obtain ⟨b', E, R, hr', ⟨n, hq, hn⟩, q2, q3⟩ := H.own j k e0 n0 hj
      have hb' := other b' (ne_of j b' (fun q => e q.symm) (by simp [M.blk, hj, hr']))
      exact ⟨b', E, R, hr', ⟨n, (shape_of_heap hb').trans hq, hn⟩, fun p a1 a2 => (frozen_of_heap hb' p).trans (q2 p a1 a2), q3⟩
  · intro j es2 hj
    rw [put_get hp] at hj
    by_cases e : id = j
    · subst e
      simp at hj; subst hj
      exact ⟨b, hr, ⟨m', clk', new, hsz, hm⟩, himm⟩
    · simp only [e, if_false] at hj
      obtain ⟨b', hr', ⟨m2, clk2, hm2, q⟩, hi'⟩ := H.map j es2 hj
      have hb' := other b' (ne_of j b' (fun q => e q.symm) (by simp [M.blk, hj, hr']))
      exact ⟨b', hr', ⟨m2, clk2, hb'.trans hm2, q⟩, hi'⟩
  · intro i j x hi hj; rw [hsame] at hi hj; exact H.apart i j x hi hj
  · intro j hj
    rw [put_get hp] at hj
    rw [p2]
    by_cases e : id = j
    · subst e; exact H.next id (by rw [hg]; simp)
    · simp only [e, if_false] at hj; exact H.next j hj
  · rw [p1, p2]; exact H.ro
  · rw [p2]; exact H.pos
  · rw [put_get hp]; have := H.zero; by_cases e : id = 0
    · subst e; rw [hg] at this; cases this
    · simp only [e, if_false]; exact this
  · rw [p2]; exact H.fresh
  · by_cases e : b' = b
    · subst e; rw [noshape] at hx; cases hx
    · rw [shape_of_heap (other b' e)]; exact hx
  · exact { le := .refl _, os := by rw [hw], tape := by rw [hw], output := by rw [hw], size := by rw [hw]; simp, ro := p1, next := by rw [p2]; exact Nat.le_refl _,
            frame := fun b' hb' hn => other b' (fun e => hn id p3 (e ▸ hblk)), came := fun j b' hj _ => ⟨j, by rw [← hsame]; exact hj, .inl rfl⟩, imm := fun _ _ _ a1 a2 => absurd a1 a2 }
theorem keyB_sc {d : TypeDesc} {k : Value} (h : keyB d k = true) : isSc k = true := by
 cases d <;> cases k <;> first | rfl | simp [keyB] at h
theorem findI_spec {d : TypeDesc} {k : Value} (hkey : MapKept.IsKey d k) : ∀ (es : List (AV × AV)) (m : List MapEntry) (i : Nat) (q : Option Nat), m.length = es.length →
  (∀ (j : Nat) (x v : AV), es[j]? = some (x, v) → ∃ e, m[j]? = some e ∧ V μ x e.key ∧ V μ v e.val) → findI d k i es = some q →
  (q = none ∧ Instr.findNow d k m i = some none) ∨ ∃ j c e, q = some (i + j) ∧ Instr.findNow d k m i = some (some (i + j, c)) ∧ m[j]? = some e ∧ e.key = k := by
 intro es
 induction es with
 | nil =>
  intro m i q hl _ h
  cases h
  have : m = [] := List.length_eq_zero_iff.1 hl
  subst this
  exact .inl ⟨rfl, rfl⟩
 | cons e es ih =>
  intro m i q hl hm h
  obtain ⟨x, v⟩ := e
  cases m with
  | nil => cases hl
  | cons f m =>
   obtain ⟨f', h0, h1, h2⟩ := hm 0 x v rfl
   cases h0
   cases x with
   | sc k' =>
    simp only [findI] at h
    have hk := V.sc_eq h1
    split at h
    ·rename_i hs
     obtain ⟨hb, h⟩ := cond_some h
     cases h
     obtain ⟨r, hr, hiff⟩ := MapKept.sameNow_of_keys hkey (keyB_ok hb)
     rw [hs] at hr
     cases hr
     rw [← hk] at hs
     exact .inr ⟨0, f.val, f, rfl, by simp [Instr.findNow, hs], rfl, hk.trans (hiff.1 rfl).symm⟩
    ·rename_i hs
     rw [← hk] at hs
     rcases ih m (i + 1) q (by simpa using hl) (fun j y u hj => hm (j + 1) y u hj) h with ⟨g1, g2⟩ | ⟨j, c, e, g1, g2, g3, g4⟩
     ·exact .inl ⟨g1, by simp [Instr.findNow, hs, g2]⟩
     ·have hij : i + 1 + j = i + (j + 1) := by omega
      exact .inr ⟨j + 1, c, e, by rw [g1, hij], by simp [Instr.findNow, hs, g2, hij], by simpa using g3, g4⟩
    ·cases h
   | _ => simp [findI] at h
theorem fine_mapUpdate (R : Rel C E L μ σ a w) {o : Oper} {t : TypeId} {x i y : Operand} {r : Slot × St} (ho : o.op = .mapUpdate t x i y) (h : opMapUpdate P σ t x i y = some r) : Fine P C E a w o r := by
 unfold opMapUpdate at h
 split at h
 ·rename_i id k v kt et hm hi hy ht
  have ht := mapT_spec ht
  have hx := val_rel R hm
  have hv := val_rel R hy
  generalize hxv : a.eval x = xv at hx
  have hk := V.sc_eq (val_rel R hi)
  split at h
  ·rename_i d hd
   obtain ⟨hkb, h⟩ := cond_some h
   have hkey := keyB_ok hkb
   split at h
   ·rename_i es hg
    split at h
    ·rename_i q hf
     split at h
     ·rename_i h' hp
      cases h
      obtain ⟨b, hr, ⟨m', clk, hb, hsz, hq⟩, _⟩ := R.world.map id es hg
      have hxb : xv = .map (some b) := by
       cases hx with
       | mp hr' => rw [hr] at hr'; cases hr'; rfl
      subst hxb
      have fin : ∀ (m2 : Array MapEntry) (clk2 : Nat), (Instr.mapUpdate t (.map (some b)) (a.eval i) (a.eval y)).run P w = .ok () { w with heap := w.heap.setIfInBounds b (.map m2 clk2) } →
        m2.size = (setKey es k v q).length → (∀ (j : Nat) (x u : AV), (setKey es k v q)[j]? = some (x, u) → ∃ e, m2[j]? = some e ∧ V μ x e.key ∧ V μ u e.val) →
        Fine P C E a w o (.v (.sc undef), { σ with h := h' }) := by
       intro m2 clk2 hrun hs2 hq2
       obtain ⟨h1, h2⟩ := R.world.putMap hg hp hr hb rfl hs2 hq2
       intro next Q hn
       unfold Oper.wp
       have : (execOp a.eval o).run P w = .ok .skip { w with heap := w.heap.setIfInBounds b (.map m2 clk2) } := by
        simp [execOp, ho, hxv, hrun]
       rw [this]
       exact hn undef _ ⟨L, μ, R.step h2 h1, V.sc rfl⟩
      rcases findI_spec hkey es m'.toList 0 q (by simpa using hsz) (fun j x u hj => by simpa using hq j x u hj) hf with ⟨g1, g2⟩ | ⟨j, c, e, g1, g2, g3, g4⟩
      ·subst g1
       refine fin (m'.push { key := k, val := a.eval y, born := clk }) (clk + 1) ?_ (by simp [setKey, hsz]) ?_
       ·rw [hk]
        simp [Instr.mapUpdate, run_underlying ht, MapKept.run_getObj_map hb, MapKept.run_checkKey hd hkey, MapKept.run_findKey hd g2, MapKept.run_setObj_map _ hb]
       ·intro j x u hj
        simp only [setKey] at hj
        by_cases hjl : j < es.length
        ·rw [List.getElem?_append_left hjl] at hj
         obtain ⟨e, he, h3⟩ := hq j x u hj
         exact ⟨e, by rw [Array.getElem?_push, if_neg (by omega)]; exact he, h3⟩
        ·rw [List.getElem?_append_right (by omega)] at hj
         have hj0 : j - es.length = 0 := by
          cases hz : j - es.length with
          | zero => rfl
          | succ n => rw [hz] at hj; simp at hj
         rw [hj0] at hj
         simp at hj
         obtain ⟨rfl, rfl⟩ := hj
         exact ⟨_, by rw [Array.getElem?_push, if_pos (by omega)], .sc (keyB_sc hkb), hv⟩
      ·simp only [Nat.zero_add] at g1 g2
       subst g1
       have hj : m'[j]? = some e := by simpa using g3
       refine fin (m'.modify j fun e => { e with key := k, val := a.eval y }) clk ?_ (by simp [setKey, hsz]) ?_
       ·rw [hk]
        have hst := MapKept.run_keyThatStays (P := P) (w := w) hkey
        simp [Instr.mapUpdate, run_underlying ht, MapKept.run_getObj_map hb, MapKept.run_checkKey hd hkey, MapKept.run_findKey hd g2, MapKept.run_setObj_map _ hb, hj, g4, hst]
       ·intro n x u hn
        simp only [setKey, List.getElem?_set] at hn
        by_cases hjn : j = n
        ·subst hjn
         rw [if_pos rfl] at hn
         split at hn
         ·cases hn
          exact ⟨_, by rw [Array.getElem?_modify, if_pos rfl, hj]; rfl, .sc (keyB_sc hkb), hv⟩
         ·cases hn
        ·rw [if_neg hjn] at hn
         obtain ⟨f, hf', h3⟩ := hq n x u hn
         exact ⟨f, by rw [Array.getElem?_modify, if_neg hjn]; exact hf', h3⟩
     ·cases h
    ·cases h
   ·cases h
  ·cases h
 ·cases h
end
end Go.Ef
namespace Go.Ef
open Go
section
variable {P : Program} {C : Cfg} {E : Ent} {L : List Nat} {μ : M} {σ : St} {a : Act} {w : World}
theorem fine_op (R : Rel C E L μ σ a w) {o : Oper} {call : CallF} {f : FuncId} (S : Sane P C) (K : CallOk P C call) (B : Bodied P call) {r : Slot × St} (h : evOp C P call f o σ = some r) : Fine P C E a w o r := by
 unfold evOp at h
 split at h <;> rename_i ho
 ·exact fine_move R (.inl ho) h
 ·exact fine_move R (.inr ho) h
 ·exact fine_pick R ho h
 ·exact fine_alloc R ho h
 ·exact fine_box R ho h
 ·exact fine_build R ho h
 ·exact fine_buildSlice R ho h
 ·exact fine_load R ho h
 ·exact fine_store R ho h
 ·exact fine_nil R ho h
 ·exact fine_bin R ho h
 ·exact fine_un R ho h
 ·exact fine_conv R ho h
 ·exact fine_iface R ho h
 ·exact fine_func R ho h
 ·exact fine_makeSlice R ho h
 ·exact fine_slice R ho h
 ·exact fine_fieldAddr R ho h
 ·exact fine_field R ho h
 ·exact fine_indexAddr R ho h
 ·exact fine_index R ho h
 ·exact fine_assert R ho h
 ·exact fine_extract R ho h
 ·exact fine_call R S K B ho h
 ·exact fine_lookup R ho h
 ·exact fine_makeMap R ho h
 ·exact fine_mapUpdate R ho h
 ·cases h
theorem wanted_rel (R : Rel C E L μ σ a w) {ops : Array Oper} {o : Oper} {b : Bool} (h : wantedA ops o σ = some b) : Region.wanted o (yielded ops a.tmps) = b := by
 unfold wantedA at h
 unfold Region.wanted
 split at h
 ·rename_i hg; cases h; rw [hg]
 ·rename_i j want hg
  rw [hg]
  simp only []
  split at h
  ·rename_i oj hoj
   split at h
   ·rename_i t ht
    have hslot : ∀ s, σ.slot (.tmp t) = some s → t < a.tmps.size ∧ SlotRel L μ s (a.tmps.getD t undef) := by
     intro s hs
     refine ⟨?_, slot_rel R hs⟩
     simp only [St.slot] at hs
     cases hb : Nat.ble σ.n t with
     | true => simp [hb] at hs
     | false =>
      rw [← R.n]
      exact Nat.lt_of_not_ge fun hle => by simp [Nat.ble_eq_true_of_le hle] at hb
    have hy : ∀ v, t < a.tmps.size → a.tmps.getD t undef = v → yielded ops a.tmps j = (match some v with | some (.bool b) => some b | _ => none) := by
     intro v hlt hv
     unfold yielded
     rw [hoj]
     simp only [Option.bind_some, ht]
     rw [Array.getD_eq_getD_getElem?, Array.getElem?_eq_getElem hlt] at hv
     simp only [Option.getD_some] at hv
     rw [Array.getElem?_eq_getElem hlt, hv]
     cases v <;> rfl
    split at h
    ·rename_i b' hs
     cases h
     obtain ⟨h1, h2⟩ := hslot _ hs
     rw [hy _ h1 (V.sc_eq h2)]
     cases b' <;> cases want <;> rfl
    ·rename_i q hs
     cases h
     obtain ⟨h1, h2⟩ := hslot _ hs
     rw [hy _ h1 (V.sc_eq h2)]
     rfl
    ·cases h
   ·cases h
  ·cases h
theorem step_ok (R : Rel C E L μ σ a w) {ops : Array Oper} {i : Nat} {o : Oper} {call : CallF} {f : FuncId} (S : Sane P C) (K : CallOk P C call) (B : Bodied P call) {σ' : St} (hi : ops[i]? = some o) (h : evStep C P call f ops o σ = some σ')
  {Q : Exit → Act → World → Prop} {k : Act → World → Prop} (hk : ∀ L' μ' a' w', Rel C E L' μ' σ' a' w' → k a' w') : wpOp P ops Q i k a w := by
 unfold wpOp
 rw [hi]
 simp only []
 unfold evStep at h
 split at h
 ·rename_i hw
  rw [if_pos (wanted_rel R hw)]
  split at h
  ·rename_i s τ hop
   refine .inl (fine_op R S K B hop k Q fun c w' hout => ?_)
   obtain ⟨L', μ', R', hs⟩ := hout
   exact hk L' μ' _ _ (put_rel R' hs h)
  ·cases h
 ·rename_i hw
  rw [if_neg (by rw [wanted_rel R hw]; simp)]
  exact hk L μ _ _ (put_rel R (s := .v (.sc undef)) (v := undef) (V.sc rfl) h)
 ·cases h
theorem evOps_nil {call : CallF} {f : FuncId} {ops : Array Oper} (σ : St) : evOps C P call f ops [] σ = some σ := rfl
theorem evOps_cons {call : CallF} {f : FuncId} {ops : Array Oper} (o : Oper) (l : List Oper) (σ : St) : evOps C P call f ops (o :: l) σ = thenO (evStep C P call f ops o σ) (evOps C P call f ops l) := rfl
theorem thenO_some {α β : Type} {x : Option α} {k : α → Option β} {y : β} (h : thenO x k = some y) : ∃ z, x = some z ∧ k z = some y := by
 cases x with
 | none => cases h
 | some z => exact ⟨z, rfl, h⟩
theorem ops_ok {ops : Array Oper} {call : CallF} {f : FuncId} (S : Sane P C) (K : CallOk P C call) (B : Bodied P call) {Q : Exit → Act → World → Prop} : ∀ (l : List Oper) (idx : List Nat) (L : List Nat) (μ : M) (σ σ' : St) (a : Act) (w : World),
  idx.length = l.length → (∀ (j i : Nat) (o : Oper), idx[j]? = some i → l[j]? = some o → ops[i]? = some o) → Rel C E L μ σ a w → evOps C P call f ops l σ = some σ' → (∀ L' μ' a' w', Rel C E L' μ' σ' a' w' → Q .normal a' w') → wpOps P ops Q idx a w := by
 intro l
 induction l with
 | nil =>
  intro idx L μ σ σ' a w hl _ R h hq
  have : idx = [] := List.eq_nil_of_length_eq_zero (by simpa using hl)
  subst this
  rw [evOps_nil] at h; cases h
  exact hq L μ a w R
 | cons o l ih =>
  intro idx L μ σ σ' a w hl hg R h hq
  cases idx with
  | nil => simp at hl
  | cons i idx =>
   rw [evOps_cons] at h
   obtain ⟨τ, h1, h2⟩ := thenO_some h
   rw [wpOps_cons]
   refine step_ok R S K B (hg 0 i o rfl rfl) h1 fun L' μ' a' w' R' => ?_
   exact ih idx L' μ' τ σ' a' w' (by simpa using hl) (fun j i o hj ho => hg (j + 1) i o (by simpa using hj) (by simpa using ho)) R' h2 hq
theorem region_ok (R : Rel C E L μ σ a w) {ops : Array Oper} {id : Nat} {call : CallF} {f : FuncId} (S : Sane P C) (K : CallOk P C call) (B : Bodied P call) {σ' : St} (h : evOps C P call f ops ops.toList σ = some σ')
  {Q : Exit → Act → World → Prop} (hq : ∀ L' μ' a' w', Rel C E L' μ' σ' a' w' → Q .normal a' w') : (Code.region id ops false).wp P Q a w := by
 refine wp_region (ops_ok S K B ops.toList (List.range ops.size) L μ σ σ' a w (by simp) (fun j i o hj ho => ?_) R h hq)
 have := lt_of_get? hj
 simp at this
 simp [this] at hj
 subst hj
 simpa using ho
def resF (tmps : Array Value) (r : ResultVar) : Sem Value :=
 match r with
 | .tmp t => pure (tmps.getD t undef)
 | .cell x t => do loadVar t (← asAddr (tmps.getD x undef))
theorem results_eq (fn : Func) (tmps : Array Value) : results fn tmps = (do let vs ← fn.results.mapM (resF tmps); pure (if h : vs.size = 1 then vs[0] else .tuple vs)) := rfl
theorem results_ok (R : Rel C E L μ σ a w) : ∀ {rs : List ResultVar} {l : List AV}, evResults C P σ rs = some l →
  ∃ vs : List Value, (rs.mapM (resF a.tmps)).run P w = .ok vs w ∧ VLs μ l ⟨vs⟩ := by
 intro rs
 induction rs with
 | nil => intro l h; simp only [evResults] at h; cases h; exact ⟨[], by simp, rfl, fun i x y hx => by simp at hx⟩
 | cons r rs ih =>
  intro l h
  cases r with
  | tmp t =>
   simp only [evResults] at h
   split at h
   ·rename_i v l' hv hl
    cases h
    obtain ⟨vs, h1, h2⟩ := ih hl
    refine ⟨a.tmps.getD t undef :: vs, by simp only [List.mapM_cons, resF, Sem.run_bind, Sem.run_pure, Result.andThen_ok, h1], ?_⟩
    have hv' : V μ v (a.tmps.getD t undef) := val_rel R hv
    have := VLs.append (VLs.one hv') h2
    simp only [VLs, List.cons_append, List.nil_append] at this ⊢
    simpa using this
   ·cases h
  | cell x t =>
   simp only [evResults] at h
   split at h
   ·rename_i s l' hs hl
    split at h
    ·rename_i v hv
     cases h
     obtain ⟨vs, h1, h2⟩ := ih hl
     obtain ⟨y, hy, hvy⟩ := load_rel (P := P) R (slot_rel R hs) hv
     have hy2 : ((do loadVar t (← asAddr (a.tmps.getD x undef))) : Sem Value).run P w = .ok y w := by
      have hev : a.eval (.tmp x) = a.tmps.getD x undef := rfl
      rw [hev] at hy
      generalize a.tmps.getD x undef = q at hy
      cases q <;> simp [Instr.loadAt, Instr.sureAddr] at hy
      rename_i p
      cases p <;> simp at hy
      simpa [asAddr] using hy
     have hy3 : (resF a.tmps (.cell x t)).run P w = .ok y w := hy2
     refine ⟨y :: vs, by simp only [List.mapM_cons, Sem.run_bind, hy3, Result.andThen_ok, h1, Sem.run_pure], ?_⟩
     have := VLs.append (VLs.one hvy) h2
     simpa [VLs] using this
    ·cases h
   ·cases h
theorem pack_ok (R : Rel C E L μ σ a w) {fn : Func} {r : AV} {h' : Heap} (h : packR σ (evResults C P σ fn.results.toList) = some (r, h')) : ∃ v, (results fn a.tmps).run P w = .ok v w ∧ V μ r v ∧ h' = σ.h := by
 cases hl : evResults C P σ fn.results.toList with
 | none => rw [hl] at h; cases h
 | some l =>
  rw [hl] at h
  obtain ⟨vs, h1, h2, h3⟩ := results_ok (P := P) R hl
  have hrun : (results fn a.tmps).run P w = .ok (if h : (⟨vs⟩ : Array Value).size = 1 then (⟨vs⟩ : Array Value)[0] else .tuple ⟨vs⟩) w := by
   rw [results_eq]
   simp only [Array.mapM_eq_mapM_toList, Sem.run_bind, Sem.run_map, h1, Result.andThen_ok, Sem.run_pure]
  refine ⟨_, hrun, ?_⟩
  clear hrun h1
  match l, vs, h2, h3, h with
  | [], [], _, _, h => simp only [packR] at h; cases h; exact ⟨.sc rfl, rfl⟩
  | [x], [q], _, h3, h => simp only [packR] at h; cases h; exact ⟨h3 0 _ _ rfl rfl, rfl⟩
  | x :: y :: l, p :: q :: vs, h2, h3, h => simp only [packR] at h; cases h; exact ⟨.tup h2 h3, rfl⟩
end
end Go.Ef
namespace Go.Ef
open Go
theorem Tr.path_fuel {α : Type} (x : α) : ∀ f g n, n < f → n < g → Tr.path x f n = Tr.path x g n := by
 intro f
 induction f with
 | zero => intro g n h; omega
 | succ f ih =>
  intro g n h1 h2
  cases g with
  | zero => omega
  | succ g =>
   rw [Tr.path_succ, Tr.path_succ]
   cases n with
   | zero => rfl
   | succ n => simp only []; rw [ih g (n / 2) (by omega) (by omega)]
theorem Tr.set_leaf {α : Type} (x : α) (n : Nat) :
  (Tr.leaf : Tr α).set n x = match n with | 0 => .node .leaf (some x) .leaf | m + 1 => if m % 2 = 0 then .node ((Tr.leaf : Tr α).set (m / 2) x) none .leaf else .node .leaf none ((Tr.leaf : Tr α).set (m / 2) x) := by
 show Tr.path x (n + 1) n = _
 rw [Tr.path_succ]
 cases n with
 | zero => rfl
 | succ m =>
  simp only []
  show (if m % 2 = 0 then (Tr.path x (m + 1) (m / 2)).node none leaf else leaf.node none (Tr.path x (m + 1) (m / 2))) = if m % 2 = 0 then (Tr.path x (m / 2 + 1) (m / 2)).node none leaf else leaf.node none (Tr.path x (m / 2 + 1) (m / 2))
  rw [Tr.path_fuel x (m + 1) (m / 2 + 1) (m / 2) (by omega) (by omega)]
theorem Tr.set_node_comm {α : Type} {x y : α} {l r : Tr α} {v : Option α} (hl : ∀ m n, m ≠ n → (l.set m x).set n y = (l.set n y).set m x) (hr : ∀ m n, m ≠ n → (r.set m x).set n y = (r.set n y).set m x) (m n : Nat) (h : m ≠ n) :
  ((Tr.node l v r).set m x).set n y = ((Tr.node l v r).set n y).set m x := by
 cases m with
 | zero =>
  cases n with
  | zero => exact absurd rfl h
  | succ n =>
   simp only [Tr.set_node]
   by_cases e : n % 2 = 0 <;> simp [e, Tr.set_node]
 | succ m =>
  cases n with
  | zero =>
   simp only [Tr.set_node]
   by_cases e : m % 2 = 0 <;> simp [e, Tr.set_node]
  | succ n =>
   simp only [Tr.set_node]
   by_cases e : m % 2 = 0 <;> by_cases e' : n % 2 = 0 <;> simp only [e, e', if_true, if_false, Tr.set_node]
   ·rw [hl (m / 2) (n / 2) (by omega)]
   ·rw [hr (m / 2) (n / 2) (by omega)]
theorem Tr.set_comm {α : Type} (x y : α) : ∀ (t : Tr α) m n, m ≠ n → (t.set m x).set n y = (t.set n y).set m x := by
 intro t
 induction t with
 | leaf =>
  have key : ∀ k m n, m + n < k → m ≠ n → ((Tr.leaf : Tr α).set m x).set n y = ((Tr.leaf : Tr α).set n y).set m x := by
   intro k
   induction k with
   | zero => intro m n h; omega
   | succ k ih =>
    intro m n hk h
    cases m with
    | zero =>
     cases n with
     | zero => exact absurd rfl h
     | succ n =>
      rw [Tr.set_leaf x, Tr.set_leaf y]
      simp only [Tr.set_node]
      by_cases e : n % 2 = 0 <;> simp [e, Tr.set_node]
    | succ m =>
     cases n with
     | zero =>
      rw [Tr.set_leaf x, Tr.set_leaf y]
      simp only []
      by_cases e : m % 2 = 0 <;> simp [e, Tr.set_node]
     | succ n =>
      rw [Tr.set_leaf x, Tr.set_leaf y]
      simp only []
      by_cases e : m % 2 = 0 <;> by_cases e' : n % 2 = 0 <;> simp only [e, e', if_true, if_false, Tr.set_node]
      ·rw [ih (m / 2) (n / 2) (by omega) (by omega)]
      ·rw [ih (m / 2) (n / 2) (by omega) (by omega)]
  intro m n h
  exact key (m + n + 1) m n (by omega) h
 | node l v r ihl ihr => exact Tr.set_node_comm ihl ihr
inductive Cls where
 | p | l | h | q | c | o | w | s
 deriving DecidableEq
def newCls (C : Cfg) (f : FuncId) (d : Option Nat) : Cls := bif C.is f d 1 then .c else .o
def clsBuiltin (C : Cfg) (f : FuncId) (d : Option Nat) : Builtin → Cls
 | .min | .max => .p
 | .len => .q
 | .append => newCls C f d
 | .copy => .c
 | _ => .s
def clsCall (C : Cfg) (f : FuncId) (d : Option Nat) (c : Call) : Cls :=
 match c.callee with
 | .builtin b => clsBuiltin C f d b
 | .value (.func g) => bif (C.prim g).isNone && C.fresh g then .p else .c
 | _ => .c
def clsOf (C : Cfg) (P : Program) (f : FuncId) (o : Oper) : Cls :=
 match o.op with
 | .move _ | .assign _ | .pick .. | .binOp .. | .unOp .. | .makeInterface .. | .makeFunc .. | .field .. | .fieldAddr .. | .extract .. | .nilCheck _ | .index .. | .typeAssert .. | .build .. | .indexAddr .. => .p
 | .load .. => bif C.is f o.dst 3 then .l else bif C.is f o.dst 5 then .h else .q
 | .slice t .. => match P.underlying t with
  | some (.array _ _) => .q
  | _ => .p
 | .convert _ d _ => match elemT P d with
  | some _ => newCls C f o.dst
  | none => .q
 | .call c => clsCall C f o.dst c
 | .buildSlice .. => bif C.is f o.dst 7 then .p else newCls C f o.dst
 | .makeSlice .. | .makeMap .. | .mapUpdate .. => .c
 | .lookup .. => .q
 | .alloc _ | .box _ _ => bif C.is f o.dst 1 then .c else .w
 | .store _ a _ => bif isW C f a then .w else .s
 | _ => .s
def clash : Cls → Cls → Bool
 | .p, _ | _, .p => false
 | .l, .l | .l, .h | .l, .q | .h, .l | .h, .h | .h, .q | .q, .l | .q, .h | .q, .q => false
 | .l, .c | .c, .l | .l, .o | .o, .l => false
 | .h, .o | .o, .h | .h, .w | .w, .h => false
 | .q, .o | .o, .q => false
 | _, _ => true
def quiet : Cls → Bool
 | .p | .l | .h | .q => true
 | _ => false
def reads (ops : Array Oper) (o : Oper) : List Nat :=
 (o.op.operands.toList.filterMap fun | .tmp t => some t | _ => none) ++
 (match o.guard with
  | some (g, _) => match ops[g]? with
   | some og => og.dst.toList
   | none => []
  | none => [])
def meets (ops : Array Oper) (x y : Oper) : Bool :=
 match x.dst with
 | some d => (reads ops y).any (Nat.beq d) || (match y.dst with | some e => Nat.beq d e | none => false)
 | none => false
def apartOps (C : Cfg) (P : Program) (f : FuncId) (ops : Array Oper) (x y : Oper) : Bool :=
 !meets ops x y && !meets ops y x && !clash (clsOf C P f x) (clsOf C P f y)
def maskOf (acc : List Nat) (o : Oper) : Nat :=
 o.after.toList.foldl (fun s e => bif Region.binds .any e then Nat.lor (Nat.lor s (Nat.pow 2 e.on)) ((acc[e.on]?).getD 0) else s) 0
def masks : List Oper → List Nat → List Nat
 | [], acc => acc
 | o :: r, acc => masks r (acc ++ [maskOf acc o])
def rowOk (C : Cfg) (P : Program) (f : FuncId) (ops : Array Oper) (y : Oper) (m : Nat) : List Oper → Nat → Bool
 | [], _ => true
 | x :: r, j => (Nat.testBit m j || apartOps C P f ops x y) && rowOk C P f ops y m r (j + 1)
def rowsOk (C : Cfg) (P : Program) (f : FuncId) (ops : Array Oper) : List Oper → List Nat → Nat → Bool
 | y :: r, m :: ms, i => rowOk C P f ops y m (ops.toList.take i) 0 && y.after.all (fun e => !Region.binds .any e || Nat.blt e.on i) && rowsOk C P f ops r ms (i + 1)
 | [], _, _ => true
 | _, _, _ => false
def regOk (C : Cfg) (P : Program) (f : FuncId) (ops : Array Oper) : Bool := rowsOk C P f ops ops.toList (masks ops.toList []) 0
def codeOk (C : Cfg) (P : Program) (f : FuncId) : Code → Bool
 | .region id ops draw => !draw || C.bad f id || regOk C P f ops
 | .seq a b => codeOk C P f a && codeOk C P f b
 | .cond _ a b => codeOk C P f a && codeOk C P f b
 | .block _ b => codeOk C P f b
 | .loop b => codeOk C P f b
 | .scope b => codeOk C P f b
 | _ => true
end Go.Ef
namespace Go.Ef
open Go
def St.wt (σ : St) (t : Tr Slot) : St := { σ with tm := t }
def mapR (t : Tr Slot) (r : Slot × St) : Slot × St := (r.1, r.2.wt t)
def Alike (xs : List Operand) (σ : St) (t : Tr Slot) : Prop := ∀ x ∈ xs, (σ.wt t).slot x = σ.slot x
theorem Alike.val {xs : List Operand} {σ : St} {t : Tr Slot} (h : Alike xs σ t) {x : Operand} (hx : x ∈ xs) : (σ.wt t).val x = σ.val x := by
 unfold St.val; rw [h x hx]
theorem mapO_congr {α β : Type} {f g : α → Option β} : ∀ {l : List α}, (∀ x ∈ l, f x = g x) → mapO f l = mapO g l := by
 intro l
 induction l with
 | nil => intro _; rfl
 | cons x l ih => intro h; rw [mapO_cons, mapO_cons, h x (by simp), ih fun y hy => h y (by simp [hy])]
section
variable {C : Cfg} {P : Program} {σ : St} {t : Tr Slot}
theorem resV_wt (v : Option AV) : resV (σ.wt t) v = (resV σ v).map (mapR t) := by cases v <;> rfl
theorem move_wt {x : Operand} (h : (σ.wt t).slot x = σ.slot x) : opMove (σ.wt t) x = (opMove σ x).map (mapR t) := by
 unfold opMove; rw [h]; cases σ.slot x <;> rfl
theorem alloc_wt {f : FuncId} {d : Option Nat} {e : TypeId} {cs : List AV} : (σ.wt t).alloc C f d e cs = mapR t (σ.alloc C f d e cs) := by
 unfold St.alloc; cases C.is f d 1 <;> rfl
theorem newSlice_wt {f : FuncId} {d : Option Nat} {k e : Nat} {els : List (List AV)} : (σ.wt t).newSlice C f d k e els = ((σ.newSlice C f d k e els).1, (σ.newSlice C f d k e els).2.wt t) := by
 unfold St.newSlice; cases C.is f d 1 <;> cases C.is f d 6 && plainEls els <;> rfl
theorem write_wt {new : List AV} {s : Slot} : (σ.wt t).write new s = (σ.write new s).map fun σ' => σ'.wt t := by
 cases s with
 | unk => rfl
 | lp k off =>
  simp only [St.write]
  show (match getI k σ.loc with | some (.cells cs) => _ | _ => _) = _
  cases getI k σ.loc with
  | none => rfl
  | some o =>
   cases o with
   | iter _ _ => rfl
   | cells cs =>
    simp only []
    cases splice off new cs with
    | none => rfl
    | some cs' => simp only []; cases new.all AV.one <;> rfl
 | v av =>
  cases av <;> try rfl
  rename_i id off
  simp only [St.write]
  show (match σ.h.get id with | some (.cells cs) => _ | _ => _) = _
  cases σ.h.get id with
  | none => rfl
  | some o =>
   cases o <;> try rfl
   rename_i cs
   simp only []
   cases splice off new cs with
   | none => rfl
   | some cs' =>
    simp only []
    cases new.all AV.one
    ·rfl
    ·simp only [cond_true]
     show (match σ.h.put id (.cells cs') with | some h => _ | none => _) = _
     cases σ.h.put id (.cells cs') <;> rfl
theorem elems_wt {k : Nat} {x : AV} : (σ.wt t).elems k x = σ.elems k x := rfl
theorem load_wt {ty : TypeId} {s : Slot} : (σ.wt t).load C P ty s = σ.load C P ty s := by cases s <;> rfl
theorem parts_wt : ∀ {l : List (Nat × Operand)}, (∀ p ∈ l, (σ.wt t).slot p.2 = σ.slot p.2) → evParts (σ.wt t) l = evParts σ l := by
 intro l
 induction l with
 | nil => intro _; rfl
 | cons p l ih =>
  intro h
  obtain ⟨i, x⟩ := p
  simp only [evParts]
  rw [ih fun q hq => h q (by simp [hq])]
  have : (σ.wt t).val x = σ.val x := by unfold St.val; rw [h (i, x) (by simp)]
  rw [this]
theorem optVal_wt {x : Option Operand} (h : ∀ y, x = some y → (σ.wt t).slot y = σ.slot y) : optVal (σ.wt t) x = optVal σ x := by
 cases x with
 | none => rfl
 | some y =>
  simp only [optVal]
  have : (σ.wt t).val y = σ.val y := by unfold St.val; rw [h y rfl]
  rw [this]
theorem appendNil_wt {f : FuncId} {d : Option Nat} {e : TypeId} {i : TypeInfo} {new : List (List AV)} : appendNil C (σ.wt t) f d e i new = (appendNil C σ f d e i new).map (mapR t) := by
 unfold appendNil
 cases fits new.length i.bytes
 ·rfl
 ·simp only [cond_true, newSlice_wt]; rfl
theorem appendO_wt {e : TypeId} {i : TypeInfo} {els new : List (List AV)} {tok : Nat} : appendO (σ.wt t) e i els tok new = (appendO σ e i els tok new).map (mapR t) := by
 unfold appendO
 cases headLen i.size els && fits (lenL els + lenL new) i.bytes
 ·rfl
 ·simp only [cond_true]
  cases tok with
  | zero => rfl
  | succ id =>
   simp only []
   show (match σ.h.get id with | some (.own k e' n) => _ | _ => _) = _
   cases σ.h.get id with
   | none => rfl
   | some o =>
    cases o <;> try rfl
    rename_i k e' n
    simp only []
    cases (Nat.beq k i.size && Nat.beq e' e) && Nat.beq (lenL els) n
    ·rfl
    ·simp only [cond_true]
     show (match σ.h.put id (.own k e (n + lenL new)) with | some h => _ | none => _) = _
     cases σ.h.put id (.own k e (n + lenL new)) <;> rfl
theorem appendR_wt {i : TypeInfo} {id off len k : Nat} {new : List (List AV)} : appendR (σ.wt t) i id off len k new = (appendR σ i id off len k new).map (mapR t) := by
 unfold appendR
 cases Nat.beq k i.size && fits (len + new.length) i.bytes
 ·rfl
 ·simp only [cond_true]
  show (match σ.h.get id with | some (.cells cs) => _ | _ => _) = _
  cases σ.h.get id with
  | none => rfl
  | some o =>
   cases o <;> try rfl
   rename_i cs
   simp only []
   show (match stretch off (len * k) cs, σ.h.put id .dead with | some old, some h => _ | _, _ => _) = _
   cases stretch off (len * k) cs <;> cases σ.h.put id .dead <;> rfl
theorem appendS_wt {f : FuncId} {d : Option Nat} {e : TypeId} {i : TypeInfo} {s : AV} {new : List (List AV)} : appendS C (σ.wt t) f d e i s new = (appendS C σ f d e i s new).map (mapR t) := by
 unfold appendS
 split
 ·cases new.isEmpty
  ·exact appendNil_wt
  ·rfl
 ·cases new.isEmpty
  ·exact appendO_wt
  ·rfl
 ·cases new.isEmpty
  ·simp only [cond_false]
   cases C.is f d 1
   ·rfl
   ·exact appendR_wt
  ·rfl
 ·rfl
theorem evAppend_wt {f : FuncId} {d : Option Nat} {types : Array TypeId} {s x : AV} : evAppend C P (σ.wt t) f d types s x = (evAppend C P σ f d types s x).map (mapR t) := by
 unfold evAppend
 split
 ·rename_i u v _ _
  cases isRowT P v
  ·rfl
  ·simp only [cond_true]
   cases elemT P u with
   | none => rfl
   | some e =>
    simp only []
    cases P.info? e with
    | none => rfl
    | some i =>
     simp only []
     cases Nat.beq i.size 0
     ·simp only [cond_false, elems_wt]
      cases σ.elems i.size x with
      | none => rfl
      | some new =>
       simp only []
       cases new.all (fun e => e.all AV.one) && (zeroA P e).any (fun z => Nat.beq z.cells.length i.size)
       ·rfl
       ·exact appendS_wt
     ·rfl
 ·rfl
theorem copyR_wt {k : Nat} {dst : AV} {els : List (List AV)} : copyR (σ.wt t) k dst els = (copyR σ k dst els).map (mapR t) := by
 unfold copyR
 cases els.isEmpty
 ·simp only [cond_false]
  cases dst <;> try rfl
  rename_i id off len k'
  simp only []
  cases Nat.beq k k'
  ·rfl
  ·simp only [cond_true, write_wt]
   cases σ.write els.flatten (.v (.ptr id off)) <;> rfl
 ·rfl
theorem evCopy_wt {types : Array TypeId} {dst src : AV} : evCopy P (σ.wt t) types dst src = (evCopy P σ types dst src).map (mapR t) := by
 unfold evCopy
 cases types[0]? with
 | none => rfl
 | some u =>
  simp only []
  cases elemT P u with
  | none => rfl
  | some e =>
   simp only []
   cases sizeT P e with
   | none => rfl
   | some k =>
    simp only []
    cases Nat.beq k 0
    ·simp only [cond_false, elems_wt]
     cases σ.elems k src <;> cases lenA dst <;> try rfl
     simp only []
     cases isSlice dst
     ·rfl
     ·exact copyR_wt
    ·rfl
theorem evLen_wt {types : Array TypeId} {ty : TypeId} {x : AV} : evLen P (σ.wt t) types ty x = evLen P σ types ty x := by cases x <;> rfl
theorem evBuiltin_wt {f : FuncId} {d : Option Nat} {b : Builtin} {types : Array TypeId} {ty : TypeId} {args : List AV} : evBuiltin C P (σ.wt t) f d b types ty args = (evBuiltin C P σ f d b types ty args).map (mapR t) := by
 unfold evBuiltin
 split
 ·split
  ·rw [evLen_wt]; exact resV_wt _
  ·rfl
 ·split
  ·exact evAppend_wt
  ·rfl
 ·split
  ·exact evCopy_wt
  ·rfl
 ·exact resV_wt _
 ·exact resV_wt _
 ·rfl
theorem back_wt (r : Option (AV × Heap)) : back (σ.wt t) r = (back σ r).map (mapR t) := by
 cases r with
 | none => rfl
 | some p => obtain ⟨v, h⟩ := p; rfl
theorem toBytes_wt {f : FuncId} {q : Option Nat} {e : TypeId} {x : AV} : toBytes C P (σ.wt t) f q e x = (toBytes C P σ f q e x).map (mapR t) := by
 unfold toBytes
 split
 ·rename_i s _
  cases Nat.ble s.size maxRoom
  ·rfl
  ·simp only [cond_true, newSlice_wt]; rfl
 ·rfl
theorem evConvert_wt {f : FuncId} {q : Option Nat} {src dst : TypeId} {x : AV} : evConvert C P (σ.wt t) f q src dst x = (evConvert C P σ f q src dst x).map (mapR t) := by
 unfold evConvert
 split
 ·simp only [elems_wt]
  cases σ.elems 1 x with
  | none => rfl
  | some els =>
   simp only []
   cases isSlice x
   ·rfl
   ·exact resV_wt _
 ·exact toBytes_wt
 ·cases toVal 0 x with
  | none => rfl
  | some v => exact resV_wt _
theorem evSlice_wt {u : TypeId} {s : AV} {lo hi : Option AV} : evSlice P (σ.wt t) u s lo hi = evSlice P σ u s lo hi := by cases s <;> rfl
theorem evOp_wt {call : CallF} {f : FuncId} {o : Oper} (h : Alike o.op.operands.toList σ t) : evOp C P call f o (σ.wt t) = (evOp C P call f o σ).map (mapR t) := by
 have H := h
 unfold evOp
 split <;> rename_i ho <;> try rw [ho] at h
 ·exact move_wt (h _ (by simp [Op.operands]))
 ·exact move_wt (h _ (by simp [Op.operands]))
 ·rename_i c a b
  unfold opPick
  rw [h.val (x := c) (by simp [Op.operands])]
  split
  ·rename_i q _
   cases q
   ·exact move_wt (h _ (by simp [Op.operands]))
   ·exact move_wt (h _ (by simp [Op.operands]))
  ·rfl
 ·unfold opAlloc
  split
  ·rw [alloc_wt]; rfl
  ·rfl
 ·rename_i e x
  unfold opBox
  rw [h.val (x := x) (by simp [Op.operands])]
  cases σ.val x with
  | none => rfl
  | some v => simp only [alloc_wt]; rfl
 ·rename_i u parts
  unfold opBuild
  rw [parts_wt (fun p hp => h p.2 (by simp only [Op.operands]; exact List.mem_map.2 ⟨p, hp, rfl⟩))]
  cases evParts σ parts.toList with
  | none => rfl
  | some l => exact resV_wt _
 ·rename_i u len parts
  unfold opBuildSlice
  rw [parts_wt (fun p hp => h p.2 (by simp only [Op.operands]; exact List.mem_map.2 ⟨p, hp, rfl⟩))]
  cases evParts σ parts.toList with
  | none => rfl
  | some l =>
   simp only []
   cases elemT P u with
   | none => rfl
   | some e =>
    simp only []
    cases sizeT P e <;> cases zeroA P e <;> try rfl
    rename_i k z
    simp only []
    cases Nat.ble (len * k) 16777216 && Nat.beq z.cells.length k && Nat.ble 1 k
    ·rfl
    ·simp only [cond_true]
     cases fillA (fun i => some (i * k, k)) (List.replicate len z.cells).flatten l with
     | none => rfl
     | some cs =>
      simp only [St.litSlice]
      cases C.is f o.dst 7
      ·simp only [newSlice_wt]; rfl
      ·simp only [cond_true]; cases plainEls (chunks len k cs) <;> rfl
 ·rename_i u x
  unfold opLoad
  rw [h x (by simp [Op.operands])]
  cases σ.slot x with
  | none => rfl
  | some s =>
   simp only [load_wt]
   cases (C.is f o.dst 3 && isHeapPtr s) || (C.is f o.dst 5 && isLp s)
   ·exact resV_wt _
   ·rfl
 ·rename_i u x y
  unfold opStore
  rw [h x (by simp [Op.operands]), h.val (x := y) (by simp [Op.operands])]
  cases σ.slot x with
  | none => rfl
  | some s =>
   cases σ.val y with
   | none => rfl
   | some v =>
    simp only []
    cases sizeT P u with
    | none => rfl
    | some n =>
     simp only []
     cases wOk C f x s && Nat.beq v.cells.length n
     ·rfl
     ·simp only [cond_true, write_wt]
      cases σ.write v.cells s <;> rfl
 ·rename_i x
  unfold opNil
  rw [h x (by simp [Op.operands])]
  cases σ.slot x with
  | none => rfl
  | some s =>
   simp only []
   split <;> first | rfl | skip
 ·rename_i op u x y v
  unfold opBin
  rw [h.val (x := x) (by simp [Op.operands]), h.val (x := y) (by simp [Op.operands])]
  cases σ.val x with
  | none => rfl
  | some a =>
   cases σ.val y with
   | none => rfl
   | some b => exact resV_wt _
 ·rename_i op u x
  unfold opUn
  rw [h.val (x := x) (by simp [Op.operands])]
  split
  ·exact resV_wt _
  ·rfl
 ·rename_i s d x
  unfold opConv
  rw [h.val (x := x) (by simp [Op.operands])]
  cases σ.val x with
  | none => rfl
  | some a => exact evConvert_wt
 ·rename_i u x
  unfold opIface
  rw [h.val (x := x) (by simp [Op.operands])]
  split <;> rfl
 ·rename_i g first cap
  unfold opFunc
  rw [mapO_congr (f := (σ.wt t).val) (g := σ.val) (l := first.toList) (fun x hx => h.val (by simp only [Op.operands, Array.toList_append, List.mem_append]; first | exact .inl hx | exact .inr hx)), mapO_congr (f := (σ.wt t).val) (g := σ.val) (l := cap.toList) (fun x hx => h.val (by simp only [Op.operands, Array.toList_append, List.mem_append]; first | exact .inl hx | exact .inr hx))]
  cases mapO σ.val first.toList with
  | none => rfl
  | some l => simp only []; cases mapO σ.val cap.toList <;> rfl
 ·rename_i u x y
  unfold opMakeSlice
  rw [h.val (x := x) (by simp [Op.operands]), h.val (x := y) (by simp [Op.operands])]
  split
  ·rename_i l _ c e _ _ _
   cases decide (0 ≤ l) && decide (l ≤ c) && decide (c ≤ (maxRoom : Int))
   ·rfl
   ·simp only [cond_true]
    unfold makeS
    cases P.info? e <;> cases zeroA P e <;> try rfl
    rename_i i z
    simp only []
    cases Nat.ble (c.toNat * i.bytes) maxRoom && Nat.beq z.cells.length i.size && Nat.ble 1 i.size
    ·rfl
    ·simp only [cond_true]
     cases C.is f o.dst 2 || Nat.beq l.toNat 0 <;> rfl
  ·rfl
 ·rename_i u x lo hi mx
  unfold opSlice
  cases mx with
  | some m =>
   simp only []
   unfold opSlice3
   cases hi with
   | none => rfl
   | some hi =>
    simp only []
    rw [h.val (x := x) (by simp [Op.operands]), optVal_wt (x := lo) (fun y hy => h y (by simp [Op.operands, hy])), h.val (x := hi) (by simp [Op.operands]), h.val (x := m) (by simp [Op.operands])]
    cases σ.val x with
    | none => rfl
    | some s =>
     simp only []
     cases optVal σ lo <;> cases σ.val hi <;> cases σ.val m <;> try rfl
     exact resV_wt _
  | none =>
   simp only []
   rw [h.val (x := x) (by simp [Op.operands]), optVal_wt (x := lo) (fun y hy => h y (by simp [Op.operands, hy])), optVal_wt (x := hi) (fun y hy => h y (by simp [Op.operands, hy]))]
   cases σ.val x with
   | none => rfl
   | some s =>
    simp only []
    cases optVal σ lo <;> cases optVal σ hi <;> try rfl
    simp only [evSlice_wt]
    exact resV_wt _
 ·rename_i s x i
  unfold opFieldAddr
  rw [h x (by simp [Op.operands])]
  cases σ.slot x with
  | none => rfl
  | some p =>
   simp only []
   cases fieldsT P s with
   | none => rfl
   | some fs =>
    simp only []
    cases fs[i]? with
    | none => rfl
    | some fd =>
     simp only []
     cases Option.any (Nat.blt 0) (sizeT P fd.type)
     ·rfl
     ·simp only [cond_true]
      cases moveSlot p fd.offset <;> rfl
 ·rename_i u x i
  unfold opField
  rw [h.val (x := x) (by simp [Op.operands])]
  split
  ·cases fieldsT P u with
   | none => rfl
   | some fs =>
    simp only []
    cases fs[i]? with
    | none => rfl
    | some fd => exact resV_wt _
  ·rfl
 ·rename_i u x i
  unfold opIndexAddr
  rw [h x (by simp [Op.operands]), h.val (x := i) (by simp [Op.operands])]
  cases σ.slot x with
  | none => rfl
  | some s =>
   cases σ.val i with
   | none => rfl
   | some a =>
    simp only []
    split
    ·rename_i els tok
     unfold addrSl
     cases elemT P u with
     | none => rfl
     | some e =>
      simp only []
      cases sizeT P e <;> cases idx (lenL els) a <;> try rfl
      rename_i k j
      simp only []
      cases getI j els with
      | none => rfl
      | some l => simp only []; cases Nat.beq (lenL l) k <;> rfl
    ·rename_i id off len k
     unfold addrR
     cases elemT P u with
     | none => rfl
     | some e =>
      simp only []
      cases sizeT P e <;> cases idx len a <;> try rfl
      rename_i k' j
      simp only []
      cases Nat.beq k k' <;> rfl
    ·unfold addrA
     cases arrT P u with
     | none => rfl
     | some ne =>
      obtain ⟨n, e⟩ := ne
      simp only []
      cases sizeT P e <;> cases idx n a <;> try rfl
      rename_i k j
      simp only []
      cases moveSlot s (j * k) <;> rfl
 ·rename_i u x i
  unfold opIndex
  rw [h.val (x := x) (by simp [Op.operands]), h.val (x := i) (by simp [Op.operands])]
  cases σ.val x with
  | none => rfl
  | some v =>
   cases σ.val i with
   | none => rfl
   | some a =>
    simp only []
    split
    ·exact resV_wt _
    ·exact resV_wt _
    ·rfl
 ·rename_i x xt u ok
  unfold opAssert
  rw [h.val (x := x) (by simp [Op.operands])]
  have hfail : failAs P (σ.wt t) u ok = (failAs P σ u ok).map (mapR t) := by
   unfold failAs
   cases ok
   ·rfl
   ·simp only [cond_true]; cases zeroA P u <;> rfl
  split
  ·split
   ·rename_i q v _
    cases Nat.beq q u
    ·exact hfail
    ·rfl
   ·exact hfail
   ·rfl
  ·rfl
 ·rename_i x i
  unfold opExtract
  rw [h.val (x := x) (by simp [Op.operands])]
  split
  ·exact resV_wt _
  ·rfl
 ·rename_i c
  unfold opCall
  have hargs : ∀ x ∈ c.args.toList, x ∈ (Op.call c).operands.toList := by
   intro x hx
   simp only [Op.operands, Call.operands, Array.toList_append, List.mem_append]
   exact .inr hx
  rw [mapO_congr (f := (σ.wt t).val) (g := σ.val) (l := c.args.toList) (fun x hx => h.val (hargs x hx))]
  cases mapO σ.val c.args.toList with
  | none => rfl
  | some args =>
   simp only []
   split
   ·exact evBuiltin_wt
   ·rename_i x hx
    unfold callVal
    rw [h.val (x := x) (by simp [Op.operands, Call.operands, hx])]
    split
    ·exact back_wt _
    ·rfl
   ·rename_i x name hx
    unfold callMeth
    rw [h.val (x := x) (by simp [Op.operands, Call.operands, hx])]
    split
    ·rename_i q v _
     cases evMethod P q v name with
     | none => rfl
     | some gr => obtain ⟨g, r⟩ := gr; exact back_wt _
    ·rfl
 ·rename_i u x i ok
  unfold opLookup
  rw [h.val (x := x) (by simp [Op.operands]), h.val (x := i) (by simp [Op.operands])]
  rcases σ.val x with _ | m
  ·rfl
  rcases σ.val i with _ | k
  ·rfl
  rcases mapT P u with _ | ⟨kt, et⟩
  ·cases k <;> rfl
  cases k <;> try rfl
  rename_i k
  simp only []
  cases P.underlying kt with
  | none => rfl
  | some d =>
   simp only []
   cases keyB d k
   ·rfl
   ·simp only [cond_true]
    have e : entriesA (σ.wt t).h m = entriesA σ.h m := rfl
    rw [e]
    cases entriesA σ.h m with
    | none => rfl
    | some es =>
     simp only []
     rcases findA d k es with _ | _ | v
     ·rfl
     ·simp only []
      cases zeroA P et <;> rfl
     ·rfl
 ·rename_i u hint
  unfold opMakeMap
  cases hint <;> rfl
 ·rename_i u x i y
  unfold opMapUpdate
  rw [h.val (x := x) (by simp [Op.operands]), h.val (x := i) (by simp [Op.operands]), h.val (x := y) (by simp [Op.operands])]
  rcases σ.val x with _ | m
  ·rfl
  cases m <;> try rfl
  rename_i id
  rcases σ.val i with _ | k
  ·rfl
  cases k <;> try rfl
  rename_i k
  rcases σ.val y with _ | v
  ·rfl
  rcases mapT P u with _ | ⟨kt, et⟩
  ·rfl
  simp only []
  cases P.underlying kt with
  | none => rfl
  | some d =>
   simp only []
   cases keyB d k
   ·rfl
   ·simp only [cond_true]
    have e : (σ.wt t).h = σ.h := rfl
    rw [e]
    rcases σ.h.get id with _ | o
    ·rfl
    cases o <;> try rfl
    rename_i es
    simp only []
    cases findI d k 0 es with
    | none => rfl
    | some q =>
     simp only []
     cases σ.h.put id (.map (setKey es k v q)) <;> rfl
 ·rfl
end
end Go.Ef
namespace Go.Ef
open Go
def obsO : Option AObj → Option AObj
 | some (.cells cs) => some (.cells cs)
 | some (.map es) => some (.map es)
 | _ => none
def Obs (h h' : Heap) : Prop := ∀ id, obsO (h'.get id) = obsO (h.get id)
theorem Obs.refl (h : Heap) : Obs h h := fun _ => rfl
theorem Obs.symm {h h' : Heap} (k : Obs h h') : Obs h' h := fun id => (k id).symm
theorem get_next (h : Heap) : h.get h.next = none := by
 show (bif Nat.blt h.next h.next then h.objs.get h.next else none) = none
 have : Nat.blt h.next h.next = false := by
  cases e : Nat.blt h.next h.next with
  | false => rfl
  | true => have := Nat.le_of_ble_eq_true e; omega
 rw [this]; rfl
theorem obs_new (h : Heap) (k e n : Nat) : Obs h (h.new (.own k e n)).2 := by
 intro id
 rw [new_get]
 by_cases e : h.next = id
 ·subst e; rw [if_pos rfl, get_next]; rfl
 ·rw [if_neg e]
theorem obs_put {h h' : Heap} {id k e n k' e' n' : Nat} (hg : h.get id = some (.own k e n)) (hp : h.put id (.own k' e' n') = some h') : Obs h h' := by
 intro j
 rw [put_get hp]
 by_cases e : id = j
 ·subst e; rw [if_pos rfl, hg]; rfl
 ·rw [if_neg e]
structure Keeps (cl : Cls) (σ σ' : St) : Prop where
 n : σ'.n = σ.n
 tm : σ'.tm = σ.tm
 d : σ'.d = σ.d
 loc : cl ≠ .s → cl ≠ .w → σ'.loc = σ.loc
 h : cl ≠ .s → cl ≠ .c → cl ≠ .o → σ'.h = σ.h
 obs : cl = .o → Obs σ.h σ'.h
theorem Keeps.same (cl : Cls) (σ : St) : Keeps cl σ σ := ⟨rfl, rfl, rfl, fun _ _ => rfl, fun _ _ _ => rfl, fun _ => .refl _⟩
theorem Keeps.eq {cl : Cls} {σ σ' : St} (k : Keeps cl σ σ') (hq : quiet cl = true) : σ' = σ := by
 cases σ; cases σ'
 obtain ⟨a, b, f, d, e, _⟩ := k
 simp only at a b f
 have d1 := d (by rintro rfl; cases hq) (by rintro rfl; cases hq)
 have e1 := e (by rintro rfl; cases hq) (by rintro rfl; cases hq) (by rintro rfl; cases hq)
 simp only at d1 e1
 rw [a, b, d1, e1, f]
theorem Keeps.any {σ σ' : St} (n : σ'.n = σ.n) (tm : σ'.tm = σ.tm) (d : σ'.d = σ.d) : Keeps .s σ σ' := ⟨n, tm, d, fun h => absurd rfl h, fun h => absurd rfl h, fun h => by cases h⟩
theorem Keeps.heap {σ σ' : St} (n : σ'.n = σ.n) (tm : σ'.tm = σ.tm) (d : σ'.d = σ.d) (l : σ'.loc = σ.loc) : Keeps .c σ σ' := ⟨n, tm, d, fun _ _ => l, fun _ h => absurd rfl h, fun h => by cases h⟩
theorem Keeps.owns {σ σ' : St} (n : σ'.n = σ.n) (tm : σ'.tm = σ.tm) (d : σ'.d = σ.d) (l : σ'.loc = σ.loc) (o : Obs σ.h σ'.h) : Keeps .o σ σ' := ⟨n, tm, d, fun _ _ => l, fun _ _ h => absurd rfl h, fun _ => o⟩
theorem Keeps.box {σ σ' : St} (n : σ'.n = σ.n) (tm : σ'.tm = σ.tm) (d : σ'.d = σ.d) (l : σ'.h = σ.h) : Keeps .w σ σ' := ⟨n, tm, d, fun _ h => absurd rfl h, fun _ _ _ => l, fun h => by cases h⟩
section
variable {C : Cfg} {P : Program} {σ : St}
theorem resV_keeps {v : Option AV} {r : Slot × St} {cl : Cls} (h : resV σ v = some r) : Keeps cl σ r.2 := by
 cases v with
 | none => cases h
 | some u => cases h; exact .same _ _
theorem move_keeps {x : Operand} {r : Slot × St} {cl : Cls} (h : opMove σ x = some r) : Keeps cl σ r.2 := by
 unfold opMove at h; split at h
 ·cases h; exact .same _ _
 ·cases h
theorem alloc_keeps {f : FuncId} {d : Option Nat} {e : TypeId} {cs : List AV} : Keeps (bif C.is f d 1 then .c else .w) σ (σ.alloc C f d e cs).2 := by
 unfold St.alloc; cases C.is f d 1
 ·exact .box rfl rfl rfl rfl
 ·exact .heap rfl rfl rfl rfl
theorem newO_obs {k e : Nat} {els : List (List AV)} : Keeps .o σ (σ.newO k e els).2 := .owns rfl rfl rfl rfl (obs_new _ _ _ _)
theorem newO_keeps {k e : Nat} {els : List (List AV)} : Keeps .c σ (σ.newO k e els).2 := .heap rfl rfl rfl rfl
theorem newR_keeps {k : Nat} {els : List (List AV)} : Keeps .c σ (σ.newR k els).2 := .heap rfl rfl rfl rfl
theorem newSlice_keeps {f : FuncId} {d : Option Nat} {k e : Nat} {els : List (List AV)} : Keeps (newCls C f d) σ (σ.newSlice C f d k e els).2 := by
 unfold St.newSlice newCls; cases C.is f d 1
 ·simp only [cond_false]
  cases C.is f d 6 && plainEls els
  ·exact newO_obs
  ·exact .same _ _
 ·exact newR_keeps
theorem write_keeps {new : List AV} {s : Slot} {σ' : St} (h : σ.write new s = some σ') : Keeps .s σ σ' := by
 have key : σ'.n = σ.n ∧ σ'.tm = σ.tm ∧ σ'.d = σ.d := by
  cases s with
  | unk => simp only [St.write] at h; cases h
  | lp k off =>
   simp only [St.write] at h
   split at h
   ·split at h
    ·obtain ⟨_, h⟩ := cond_some h; cases h; exact ⟨rfl, rfl, rfl⟩
    ·cases h
   ·cases h
  | v u =>
   cases u with
   | ptr id off =>
    simp only [St.write] at h
    split at h
    ·split at h
     ·obtain ⟨_, h⟩ := cond_some h
      split at h
      ·cases h; exact ⟨rfl, rfl, rfl⟩
      ·cases h
     ·cases h
    ·cases h
   | _ => cases h
 exact .any key.1 key.2.1 key.2.2
theorem write_ptr_keeps {new : List AV} {id off : Nat} {σ' : St} (h : σ.write new (.v (.ptr id off)) = some σ') : Keeps .c σ σ' := by
 simp only [St.write] at h
 split at h
 ·split at h
  ·obtain ⟨_, h⟩ := cond_some h
   split at h
   ·cases h; exact .heap rfl rfl rfl rfl
   ·cases h
  ·cases h
 ·cases h
theorem write_lp_keeps {new : List AV} {s : Slot} {σ' : St} (h : σ.write new s = some σ') (hl : isLp s = true) : Keeps .w σ σ' := by
 cases s with
 | unk => cases hl
 | v u => cases hl
 | lp k off =>
  simp only [St.write] at h
  split at h
  ·split at h
   ·obtain ⟨_, h⟩ := cond_some h; cases h; exact .box rfl rfl rfl rfl
   ·cases h
  ·cases h
theorem back_keeps {r0 : Option (AV × Heap)} {r : Slot × St} (h : back σ r0 = some r) : Keeps .c σ r.2 := by
 unfold back at h
 split at h
 ·cases h; exact .heap rfl rfl rfl rfl
 ·cases h
theorem append_keeps {f : FuncId} {d : Option Nat} {types : Array TypeId} {s x : AV} {r : Slot × St} (h : evAppend C P σ f d types s x = some r) : Keeps (newCls C f d) σ r.2 := by
 unfold evAppend at h
 split at h
 ·obtain ⟨_, h⟩ := cond_some h
  split at h
  ·split at h
   ·rename_i i hi
    cases hz : Nat.beq i.size 0 with
    | true => rw [hz] at h; cases h
    | false =>
     rw [hz] at h
     simp only [cond_false] at h
     split at h
     ·rename_i new hnew
      obtain ⟨_, h⟩ := cond_some h
      unfold appendS at h
      split at h
      ·cases hn : new.isEmpty with
       | true => rw [hn] at h; cases h; exact .same _ _
       | false =>
        rw [hn] at h
        simp only [cond_false, appendNil] at h
        obtain ⟨_, h⟩ := cond_some h
        cases h; exact newSlice_keeps
      ·cases hn : new.isEmpty with
       | true => rw [hn] at h; cases h; exact .same _ _
       | false =>
        rw [hn] at h
        simp only [cond_false, appendO] at h
        obtain ⟨_, h⟩ := cond_some h
        split at h
        ·cases h
        ·split at h
         ·rename_i hg
          obtain ⟨_, h⟩ := cond_some h
          split at h
          ·rename_i hp
           cases h
           unfold newCls
           cases C.is f d 1
           ·exact .owns rfl rfl rfl rfl (obs_put hg hp)
           ·exact .heap rfl rfl rfl rfl
          ·cases h
         ·cases h
      ·cases hn : new.isEmpty with
       | true => rw [hn] at h; cases h; exact .same _ _
       | false =>
        rw [hn] at h
        simp only [cond_false, appendR] at h
        obtain ⟨hm, h⟩ := cond_some h
        obtain ⟨_, h⟩ := cond_some h
        split at h
        ·split at h
         ·cases h
          unfold newCls
          rw [hm]
          exact .heap rfl rfl rfl rfl
         ·cases h
        ·cases h
      ·cases h
     ·cases h
   ·cases h
  ·cases h
 ·cases h
theorem copy_keeps {types : Array TypeId} {s x : AV} {r : Slot × St} (h : evCopy P σ types s x = some r) : Keeps .c σ r.2 := by
 unfold evCopy at h
 split at h
 ·split at h
  ·split at h
   ·rename_i k hk
    cases hz : Nat.beq k 0 with
    | true => rw [hz] at h; cases h
    | false =>
     rw [hz] at h
     simp only [cond_false] at h
     split at h
     ·rename_i els n _ _
      obtain ⟨_, h⟩ := cond_some h
      unfold copyR at h
      cases hn : (els.take n).isEmpty with
      | true => rw [hn] at h; cases h; exact .same _ _
      | false =>
       rw [hn] at h
       simp only [cond_false] at h
       split at h
       ·obtain ⟨_, h⟩ := cond_some h
        split at h
        ·rename_i hw; cases h; exact write_ptr_keeps hw
        ·cases h
       ·cases h
     ·cases h
   ·cases h
  ·cases h
 ·cases h
theorem callP_fresh {call : CallF} {g : FuncId} {args : List AV} {h : Heap} (hp : ((C.prim g).isNone && C.fresh g) = true) : ∀ h', callP C call g args h' = (callP C call g args h).map fun r => (r.1, h') := by
 intro h'
 simp only [Bool.and_eq_true] at hp
 unfold callP
 cases hq : C.prim g with
 | some p => rw [hq] at hp; cases hp.1
 | none =>
  simp only []
  rw [hp.2]
  simp only [cond_true]
  cases mapO (stripA 8) args with
  | none => rfl
  | some a =>
   simp only []
   cases call g a heapF with
   | none => rfl
   | some r =>
    obtain ⟨v, h2⟩ := r
    simp only []
    cases strip 8 h2 v <;> rfl
theorem callP_same {call : CallF} {g : FuncId} {args : List AV} {h h' : Heap} {v : AV} (hp : ((C.prim g).isNone && C.fresh g) = true) (hc : callP C call g args h = some (v, h')) : h' = h := by
 have := callP_fresh (call := call) (args := args) (h := h) hp h
 rw [hc] at this
 simp only [Option.map_some, Option.some.injEq, Prod.mk.injEq] at this
 exact this.2
theorem op_keeps {call : CallF} {f : FuncId} {o : Oper} {r : Slot × St} (h : evOp C P call f o σ = some r) : Keeps (clsOf C P f o) σ r.2 := by
 unfold evOp at h
 unfold clsOf
 split at h <;> rename_i ho <;> try rw [ho]
 ·exact move_keeps h
 ·exact move_keeps h
 ·unfold opPick at h
  split at h
  ·rename_i q _; cases q <;> exact move_keeps h
  ·cases h
 ·unfold opAlloc at h
  split at h
  ·cases h; exact alloc_keeps
  ·cases h
 ·unfold opBox at h
  split at h
  ·cases h; exact alloc_keeps
  ·cases h
 ·unfold opBuild at h
  split at h
  ·exact resV_keeps h
  ·cases h
 ·unfold opBuildSlice at h
  split at h
  ·split at h
   ·split at h
    ·obtain ⟨_, h⟩ := cond_some h
     split at h
     ·unfold St.litSlice at h
      cases h7 : C.is f o.dst 7 with
      | true =>
       rw [h7] at h
       simp only [cond_true] at h
       obtain ⟨_, h⟩ := cond_some h
       cases h; exact .same _ _
      | false => rw [h7] at h; cases h; exact newSlice_keeps
     ·cases h
    ·cases h
   ·cases h
  ·cases h
 ·unfold opLoad at h
  have key : ∀ cl, Keeps cl σ r.2 := by
   intro cl
   split at h
   ·rename_i s hs
    cases hq : (C.is f o.dst 3 && isHeapPtr s) || (C.is f o.dst 5 && isLp s) with
    | true => rw [hq] at h; cases h
    | false => rw [hq] at h; exact resV_keeps h
   ·cases h
  exact key _
 ·unfold opStore at h
  split at h
  ·split at h
   ·split at h
    ·obtain ⟨hb, h⟩ := cond_some h
     split at h
     ·rename_i hw
      cases h
      simp only [Bool.and_eq_true] at hb
      have hb := hb.1
      unfold wOk at hb
      simp only []
      cases hq : isW C f _ with
      | false => exact write_keeps hw
      | true =>
       rw [hq] at hb
       exact write_lp_keeps hw hb
     ·cases h
    ·cases h
   ·cases h
  ·cases h
 ·unfold opNil at h
  split at h
  ·split at h <;> first | (cases h; exact .same _ _) | (cases h; done)
  ·cases h
 ·unfold opBin at h
  split at h
  ·split at h
   ·exact resV_keeps h
   ·cases h
  ·cases h
 ·unfold opUn at h
  split at h
  ·exact resV_keeps h
  ·cases h
 ·rename_i s d x
  unfold opConv at h
  split at h
  ·unfold evConvert at h
   split at h
   ·rename_i e hs hd
    have hd' : elemT P d = none := by simp [elemT, hd]
    simp only [hd']
    split at h
    ·obtain ⟨_, h⟩ := cond_some h; exact resV_keeps h
    ·cases h
   ·rename_i e hs hd
    have hd' : elemT P d = some e := by simp [elemT, hd]
    simp only [hd']
    unfold toBytes at h
    split at h
    ·rename_i sb _ _
     obtain ⟨_, h⟩ := cond_some h; cases h; exact newSlice_keeps
    ·cases h
   ·split at h
    ·cases elemT P d <;> exact resV_keeps h
    ·cases h
  ·cases h
 ·unfold opIface at h
  split at h
  ·cases h; exact .same _ _
  ·cases h
 ·unfold opFunc at h
  split at h
  ·split at h
   ·cases h; exact .same _ _
   ·cases h
  ·cases h
 ·unfold opMakeSlice at h
  split at h
  ·obtain ⟨_, h⟩ := cond_some h
   unfold makeS at h
   split at h
   ·obtain ⟨_, h2⟩ := cond_some h
    clear h
    have h3 := Option.some.inj h2
    subst h3
    have key : ∀ (b : Bool) k e els, Keeps .c σ (bif b then σ.newO k e els else σ.newR k els).2 := by
     intro b k e els; cases b
     ·exact newR_keeps
     ·exact newO_keeps
    exact key _ _ _ _
   ·cases h
  ·cases h
 ·have key : ∀ cl, Keeps cl σ r.2 := by
   intro cl
   unfold opSlice at h
   split at h
   ·unfold opSlice3 at h
    split at h
    ·split at h
     ·split at h
      ·split at h
       ·split at h
        ·exact resV_keeps h
        ·cases h
       ·cases h
      ·cases h
     ·cases h
    ·cases h
   ·split at h
    ·split at h
     ·exact resV_keeps h
     ·cases h
    ·cases h
  exact key _
 ·unfold opFieldAddr at h
  split at h
  ·split at h
   ·split at h
    ·obtain ⟨_, h⟩ := cond_some h
     split at h
     ·cases h; exact .same _ _
     ·cases h
    ·cases h
   ·cases h
  ·cases h
 ·unfold opField at h
  split at h
  ·split at h
   ·split at h
    ·exact resV_keeps h
    ·cases h
   ·cases h
  ·cases h
 ·unfold opIndexAddr at h
  split at h
  ·split at h
   ·split at h
    ·unfold addrSl at h
     split at h
     ·split at h
      ·split at h
       ·obtain ⟨_, h⟩ := cond_some h; cases h; exact .same _ _
       ·cases h
      ·cases h
     ·cases h
    ·unfold addrR at h
     split at h
     ·split at h
      ·obtain ⟨_, h⟩ := cond_some h; cases h; exact .same _ _
      ·cases h
     ·cases h
    ·unfold addrA at h
     split at h
     ·split at h
      ·split at h
       ·cases h; exact .same _ _
       ·cases h
      ·cases h
     ·cases h
   ·cases h
  ·cases h
 ·unfold opIndex at h
  split at h
  ·split at h
   ·split at h
    ·exact resV_keeps h
    ·exact resV_keeps h
    ·cases h
   ·cases h
  ·cases h
 ·rename_i x xt t ok
  unfold opAssert at h
  have hf : ∀ {u : TypeId} {ok : Bool}, failAs P σ u ok = some r → Keeps .p σ r.2 := by
   intro u ok h
   unfold failAs at h
   obtain ⟨_, h⟩ := cond_some h
   split at h
   ·cases h; exact .same _ _
   ·cases h
  split at h
  ·split at h
   ·rename_i u v _
    cases hq : Nat.beq u t with
    | true => rw [hq] at h; cases h; exact .same _ _
    | false => rw [hq] at h; exact hf h
   ·exact hf h
   ·cases h
  ·cases h
 ·unfold opExtract at h
  split at h
  ·exact resV_keeps h
  ·cases h
 ·rename_i c
  simp only []
  unfold clsCall
  unfold opCall at h
  split at h
  ·cases h
  ·split at h
   ·rename_i b hb
    rw [hb]
    simp only []
    unfold evBuiltin at h
    split at h
    ·split at h
     ·exact resV_keeps h
     ·cases h
    ·split at h
     ·exact append_keeps h
     ·cases h
    ·split at h
     ·exact copy_keeps h
     ·cases h
    ·exact resV_keeps h
    ·exact resV_keeps h
    ·cases h
   ·rename_i x hx
    rw [hx]
    unfold callVal at h
    split at h
    ·rename_i g first cap hval
     have kc : Keeps .c σ r.2 := back_keeps h
     split
     ·rename_i b hb; cases hb
     ·rename_i g' hg'
      cases hg'
      cases hq : (C.prim g').isNone && C.fresh g' with
      | false => exact kc
      | true =>
       have : g = g' := by
        have := val_slot hval
        simp only [St.slot] at this
        cases this; rfl
       subst this
       simp only [cond_true]
       unfold back at h
       split at h
       ·rename_i v h' hc
        have := callP_same hq hc
        subst this
        cases h
        exact .same _ _
       ·cases h
     ·exact kc
    ·cases h
   ·rename_i x name hx
    rw [hx]
    unfold callMeth at h
    split at h
    ·split at h
     ·exact back_keeps h
     ·cases h
    ·cases h
 ·unfold opLookup at h
  split at h
  ·split at h
   ·obtain ⟨_, h⟩ := cond_some h
    split at h
    ·split at h
     ·cases h; exact .same _ _
     ·split at h
      ·cases h; exact .same _ _
      ·cases h
     ·cases h
    ·cases h
   ·cases h
  ·cases h
 ·unfold opMakeMap at h
  split at h
  ·cases h; exact .heap rfl rfl rfl rfl
  ·cases h
 ·unfold opMapUpdate at h
  split at h
  ·split at h
   ·obtain ⟨_, h⟩ := cond_some h
    split at h
    ·split at h
     ·split at h
      ·cases h; exact .heap rfl rfl rfl rfl
      ·cases h
     ·cases h
    ·cases h
   ·cases h
  ·cases h
 ·cases h
end
end Go.Ef
namespace Go.Ef
open Go
def St.mem (σ : St) (loc : List LObj) (h : Heap) : St := { σ with loc := loc, h := h }
def memR (loc : List LObj) (h : Heap) (r : Slot × St) : Slot × St := (r.1, r.2.mem loc h)
section
variable {C : Cfg} {P : Program} {σ : St} {loc : List LObj} {hp : Heap}
theorem mem_slot (x : Operand) : (σ.mem loc hp).slot x = σ.slot x := by cases x <;> rfl
theorem mem_val (x : Operand) : (σ.mem loc hp).val x = σ.val x := by unfold St.val; rw [mem_slot]
theorem resV_mem (v : Option AV) : resV (σ.mem loc hp) v = (resV σ v).map (memR loc hp) := by cases v <;> rfl
theorem move_mem {x : Operand} : opMove (σ.mem loc hp) x = (opMove σ x).map (memR loc hp) := by
 unfold opMove; rw [mem_slot]; cases σ.slot x <;> rfl
theorem parts_mem : ∀ l : List (Nat × Operand), evParts (σ.mem loc hp) l = evParts σ l := by
 intro l
 induction l with
 | nil => rfl
 | cons p l ih =>
  obtain ⟨i, x⟩ := p
  simp only [evParts]
  rw [ih, mem_val]
theorem optVal_mem (x : Option Operand) : optVal (σ.mem loc hp) x = optVal σ x := by
 cases x with
 | none => rfl
 | some y => simp only [optVal]; rw [mem_val]
theorem cls_cond {b : Bool} {x y z : Cls} (h : (bif b then x else y) = z) : (b = true ∧ z = x) ∨ (b = false ∧ z = y) := by
 cases b
 ·exact .inr ⟨rfl, h.symm⟩
 ·exact .inl ⟨rfl, h.symm⟩
theorem cls_new {f : FuncId} {d : Option Nat} {z : Cls} (h : newCls C f d = z) : z = .c ∨ z = .o := by
 rcases cls_cond h with ⟨_, e⟩ | ⟨_, e⟩
 ·exact .inl e
 ·exact .inr e
theorem evOp_mem {call : CallF} {f : FuncId} {o : Oper} (h : clsOf C P f o = .p) : evOp C P call f o (σ.mem loc hp) = (evOp C P call f o σ).map (memR loc hp) := by
 unfold evOp
 unfold clsOf at h
 split <;> rename_i ho <;> try rw [ho] at h
 ·exact move_mem
 ·exact move_mem
 ·rename_i c a b
  unfold opPick
  rw [mem_val]
  split
  ·rename_i q _
   cases q
   ·exact move_mem
   ·exact move_mem
  ·rfl
 ·rcases cls_cond h with ⟨_, e⟩ | ⟨_, e⟩ <;> cases e
 ·rcases cls_cond h with ⟨_, e⟩ | ⟨_, e⟩ <;> cases e
 ·rename_i u parts
  unfold opBuild
  rw [parts_mem]
  cases evParts σ parts.toList with
  | none => rfl
  | some l => exact resV_mem _
 ·rename_i u len parts
  rcases cls_cond h with ⟨h7, _⟩ | ⟨_, e⟩
  ·unfold opBuildSlice
   rw [parts_mem]
   cases evParts σ parts.toList with
   | none => rfl
   | some l =>
    simp only []
    cases elemT P u with
    | none => rfl
    | some e =>
     simp only []
     cases sizeT P e <;> cases zeroA P e <;> try rfl
     rename_i k z
     simp only []
     cases Nat.ble (len * k) 16777216 && Nat.beq z.cells.length k && Nat.ble 1 k
     ·rfl
     ·simp only [cond_true]
      cases fillA (fun i => some (i * k, k)) (List.replicate len z.cells).flatten l with
      | none => rfl
      | some cs =>
       simp only [St.litSlice]
       rw [h7]
       simp only [cond_true]
       cases plainEls (chunks len k cs) <;> rfl
  ·rcases cls_new e.symm with e | e <;> cases e
 ·simp only [] at h
  cases hb : C.is f o.dst 3 with
  | true => rw [hb] at h; cases h
  | false =>
   rw [hb] at h
   simp only [cond_false] at h
   cases hb : C.is f o.dst 5 <;> rw [hb] at h <;> cases h
 ·rcases cls_cond h with ⟨_, e⟩ | ⟨_, e⟩ <;> cases e
 ·rename_i x
  unfold opNil
  rw [mem_slot]
  cases σ.slot x with
  | none => rfl
  | some s =>
   simp only []
   split <;> first | rfl | skip
 ·rename_i op u x y v
  unfold opBin
  rw [mem_val, mem_val]
  cases σ.val x with
  | none => rfl
  | some a =>
   cases σ.val y with
   | none => rfl
   | some b => exact resV_mem _
 ·rename_i op u x
  unfold opUn
  rw [mem_val]
  split
  ·exact resV_mem _
  ·rfl
 ·rename_i s d x
  simp only [] at h
  cases hd : elemT P d with
  | none => rw [hd] at h; cases h
  | some e =>
   rw [hd] at h
   rcases cls_new h with e | e <;> cases e
 ·rename_i u x
  unfold opIface
  rw [mem_val]
  split <;> rfl
 ·rename_i g first cap
  unfold opFunc
  rw [mapO_congr (f := (σ.mem loc hp).val) (g := σ.val) (l := first.toList) (fun x _ => mem_val x), mapO_congr (f := (σ.mem loc hp).val) (g := σ.val) (l := cap.toList) (fun x _ => mem_val x)]
  cases mapO σ.val first.toList with
  | none => rfl
  | some l => simp only []; cases mapO σ.val cap.toList <;> rfl
 ·cases h
 ·rename_i u x lo hi mx
  unfold opSlice
  cases mx with
  | some m =>
   simp only []
   unfold opSlice3
   cases hi with
   | none => rfl
   | some hi =>
    simp only []
    rw [mem_val, optVal_mem, mem_val, mem_val]
    cases σ.val x with
    | none => rfl
    | some s =>
     simp only []
     cases optVal σ lo <;> cases σ.val hi <;> cases σ.val m <;> try rfl
     exact resV_mem _
  | none =>
   simp only []
   rw [mem_val, optVal_mem, optVal_mem]
   cases σ.val x with
   | none => rfl
   | some s =>
    simp only []
    cases optVal σ lo with
    | none => rfl
    | some l =>
     cases optVal σ hi with
     | none => rfl
     | some r =>
      simp only []
      have : evSlice P (σ.mem loc hp) u s l r = evSlice P σ u s l r := by
       unfold evSlice
       split <;> try rfl
       ·unfold sliceArr
        cases hu : P.underlying u with
        | none => rfl
        | some d =>
         cases d with
         | array n e => simp only [hu] at h; cases h
         | _ => rfl
      rw [this]
      exact resV_mem _
 ·rename_i s x i
  unfold opFieldAddr
  rw [mem_slot]
  cases σ.slot x with
  | none => rfl
  | some p =>
   simp only []
   cases fieldsT P s with
   | none => rfl
   | some fs =>
    simp only []
    cases fs[i]? with
    | none => rfl
    | some fd =>
     simp only []
     cases Option.any (Nat.blt 0) (sizeT P fd.type)
     ·rfl
     ·simp only [cond_true]
      cases moveSlot p fd.offset <;> rfl
 ·rename_i u x i
  unfold opField
  rw [mem_val]
  split
  ·cases fieldsT P u with
   | none => rfl
   | some fs =>
    simp only []
    cases fs[i]? with
    | none => rfl
    | some fd => exact resV_mem _
  ·rfl
 ·rename_i u x i
  unfold opIndexAddr
  rw [mem_slot, mem_val]
  cases σ.slot x with
  | none => rfl
  | some s =>
   cases σ.val i with
   | none => rfl
   | some a =>
    simp only []
    split
    ·rename_i els tok
     unfold addrSl
     cases elemT P u with
     | none => rfl
     | some e =>
      simp only []
      cases sizeT P e <;> cases idx (lenL els) a <;> try rfl
      rename_i k j
      simp only []
      cases getI j els with
      | none => rfl
      | some l => simp only []; cases Nat.beq (lenL l) k <;> rfl
    ·rename_i id off len k
     unfold addrR
     cases elemT P u with
     | none => rfl
     | some e =>
      simp only []
      cases sizeT P e <;> cases idx len a <;> try rfl
      rename_i k' j
      simp only []
      cases Nat.beq k k' <;> rfl
    ·unfold addrA
     cases arrT P u with
     | none => rfl
     | some ne =>
      obtain ⟨n, e⟩ := ne
      simp only []
      cases sizeT P e <;> cases idx n a <;> try rfl
      rename_i k j
      simp only []
      cases moveSlot s (j * k) <;> rfl
 ·rename_i u x i
  unfold opIndex
  rw [mem_val, mem_val]
  cases σ.val x with
  | none => rfl
  | some v =>
   cases σ.val i with
   | none => rfl
   | some a =>
    simp only []
    split
    ·exact resV_mem _
    ·exact resV_mem _
    ·rfl
 ·rename_i x xt u ok
  unfold opAssert
  rw [mem_val]
  have hfail : failAs P (σ.mem loc hp) u ok = (failAs P σ u ok).map (memR loc hp) := by
   unfold failAs
   cases ok
   ·rfl
   ·simp only [cond_true]; cases zeroA P u <;> rfl
  split
  ·split
   ·rename_i q v _
    cases Nat.beq q u
    ·exact hfail
    ·rfl
   ·exact hfail
   ·rfl
  ·rfl
 ·rename_i x i
  unfold opExtract
  rw [mem_val]
  split
  ·exact resV_mem _
  ·rfl
 ·rename_i c
  replace h : clsCall C f o.dst c = .p := h
  unfold clsCall at h
  unfold opCall
  rw [mapO_congr (f := (σ.mem loc hp).val) (g := σ.val) (l := c.args.toList) (fun x _ => mem_val x)]
  cases mapO σ.val c.args.toList with
  | none => rfl
  | some args =>
   simp only []
   split
   ·rename_i b hb
    rw [hb] at h
    replace h : clsBuiltin C f o.dst b = .p := h
    unfold evBuiltin
    cases b <;> simp only [clsBuiltin, reduceCtorEq] at h <;> first | exact resV_mem _ | (rcases cls_new h with e | e <;> cases e)
   ·rename_i x hx
    rw [hx] at h
    split at h
    ·rename_i hq; cases hq
    ·rename_i g hq
     cases hq
     rcases cls_cond h with ⟨hb, _⟩ | ⟨_, e⟩
     ·unfold callVal
      rw [mem_val]
      have hv : σ.val (.func g) = some (.fn (.func g) [] []) := rfl
      rw [hv]
      simp only []
      show back (σ.mem loc hp) (callP C call g ([] ++ args ++ []) hp) = (back σ (callP C call g ([] ++ args ++ []) σ.h)).map (memR loc hp)
      rw [callP_fresh (h := σ.h) hb hp]
      cases hc : callP C call g ([] ++ args ++ []) σ.h with
      | none => rfl
      | some r =>
       obtain ⟨v, h2⟩ := r
       rfl
     ·cases e
    ·cases h
   ·rename_i x name hx
    rw [hx] at h
    cases h
 ·cases h
 ·cases h
 ·cases h
 ·rfl
theorem load_heap {s : Slot} {u : TypeId} (h : isHeapPtr s = false) : ({ σ with h := hp } : St).load C P u s = σ.load C P u s := by
 have : ∀ n, ({ σ with h := hp } : St).read C n s = σ.read C n s := by
  intro n
  cases s with
  | unk => rfl
  | lp k off => rfl
  | v a => cases a <;> first | rfl | cases h
 unfold St.load; simp only [this]
theorem cls_l {f : FuncId} {o : Oper} (h : clsOf C P f o = .l) : ∃ u x, o.op = .load u x ∧ C.is f o.dst 3 = true := by
 unfold clsOf at h
 split at h <;> try (cases h; done)
 ·rename_i u x ho
  rcases cls_cond h with ⟨e, _⟩ | ⟨_, e⟩
  ·exact ⟨u, x, ho, e⟩
  ·rcases cls_cond e.symm with ⟨_, e⟩ | ⟨_, e⟩ <;> cases e
 ·split at h <;> cases h
 ·split at h
  ·rcases cls_new h with e | e <;> cases e
  ·cases h
 ·unfold clsCall at h
  split at h
  ·rename_i b _
   cases b <;> simp only [clsBuiltin, reduceCtorEq] at h <;> (rcases cls_new h with e | e <;> cases e)
  ·rcases cls_cond h with ⟨_, e⟩ | ⟨_, e⟩ <;> cases e
  ·cases h
 ·rcases cls_cond h with ⟨_, e⟩ | ⟨_, e⟩
  ·cases e
  ·rcases cls_new e.symm with e | e <;> cases e
 ·rcases cls_cond h with ⟨_, e⟩ | ⟨_, e⟩ <;> cases e
 ·rcases cls_cond h with ⟨_, e⟩ | ⟨_, e⟩ <;> cases e
 ·rcases cls_cond h with ⟨_, e⟩ | ⟨_, e⟩ <;> cases e
theorem evOp_heap {call : CallF} {f : FuncId} {o : Oper} (h : clsOf C P f o = .l) : evOp C P call f o (σ.mem σ.loc hp) = (evOp C P call f o σ).map (memR σ.loc hp) := by
 obtain ⟨u, x, ho, hb⟩ := cls_l h
 unfold evOp
 rw [ho]
 simp only []
 unfold opLoad
 rw [mem_slot]
 cases σ.slot x with
 | none => rfl
 | some s =>
  simp only [hb, Bool.true_and]
  cases hs : isHeapPtr s with
  | true => rfl
  | false =>
   simp only [Bool.false_or]
   rw [show (σ.mem σ.loc hp).load C P u s = σ.load C P u s from load_heap hs]
   cases C.is f o.dst 5 && isLp s
   ·exact resV_mem _
   ·rfl
theorem obs_cells {α : Type} {h h' : Heap} (k : Obs h h') (id : Nat) (F : List AV → α) (d : α) :
  (match h'.get id with | some (.cells cs) => F cs | _ => d) = match h.get id with | some (.cells cs) => F cs | _ => d := by
 have e := k id
 cases h1 : h.get id with
 | none =>
  cases h2 : h'.get id with
  | none => rfl
  | some o => rw [h1, h2] at e; cases o <;> first | rfl | cases e
 | some o =>
  cases h2 : h'.get id with
  | none => rw [h1, h2] at e; cases o <;> first | rfl | cases e
  | some o' =>
   rw [h1, h2] at e
   cases o <;> cases o' <;> first | rfl | (cases e; done) | (cases e; rfl)
theorem obs_map {α : Type} {h h' : Heap} (k : Obs h h') (id : Nat) (F : List (AV × AV) → α) (d : α) :
  (match h'.get id with | some (.map cs) => F cs | _ => d) = match h.get id with | some (.map cs) => F cs | _ => d := by
 have e := k id
 cases h1 : h.get id with
 | none =>
  cases h2 : h'.get id with
  | none => rfl
  | some o => rw [h1, h2] at e; cases o <;> first | rfl | cases e
 | some o =>
  cases h2 : h'.get id with
  | none => rw [h1, h2] at e; cases o <;> first | rfl | cases e
  | some o' =>
   rw [h1, h2] at e
   cases o <;> cases o' <;> first | rfl | (cases e; done) | (cases e; rfl)
theorem read_obs (k : Obs σ.h hp) {s : Slot} (hs : loc = σ.loc ∨ isLp s = false) (n : Nat) : (σ.mem loc hp).read C n s = σ.read C n s := by
 cases s with
 | unk => rfl
 | lp i off =>
  rcases hs with rfl | hs
  ·rfl
  ·cases hs
 | v a =>
  cases a <;> try rfl
  rename_i id off
  exact obs_cells k id (fun cs => stretch off n cs) none
theorem load_obs (k : Obs σ.h hp) {s : Slot} (hs : loc = σ.loc ∨ isLp s = false) (u : TypeId) : (σ.mem loc hp).load C P u s = σ.load C P u s := by
 unfold St.load
 simp only [read_obs k hs]
theorem elems_obs (k : Obs σ.h hp) (n : Nat) (x : AV) : (σ.mem loc hp).elems n x = σ.elems n x := by
 unfold St.elems
 split <;> try rfl
 rename_i id off len k'
 cases Nat.beq n k'
 ·rfl
 ·exact obs_cells k id (fun cs => (stretch off (len * n) cs).map (chunks len n)) none
theorem evLen_obs (k : Obs σ.h hp) (types : Array TypeId) (ty : TypeId) (x : AV) : evLen P (σ.mem loc hp) types ty x = evLen P σ types ty x := by
 unfold evLen
 split <;> try rfl
 rename_i id
 cases types[0]? with
 | none => rfl
 | some t =>
  simp only []
  cases P.underlying t with
  | none => rfl
  | some d =>
   cases d <;> try rfl
   have e := obs_map k id (fun es => some (intA es.length)) none
   show (match some (TypeDesc.map _ _), hp.get id with | some (.map _ _), some (.map es) => some (intA es.length) | _, _ => none) = _
   cases h1 : hp.get id with
   | none => rw [h1] at e; cases h2 : σ.h.get id with
    | none => rfl
    | some o => rw [h2] at e; cases o <;> first | rfl | cases e
   | some o' => rw [h1] at e; cases h2 : σ.h.get id with
    | none => rw [h2] at e; cases o' <;> first | rfl | cases e
    | some o => rw [h2] at e; cases o <;> cases o' <;> first | rfl | (cases e; done) | (simp only [Option.some.injEq] at e; simp only [e])
theorem sliceArr_obs (k : Obs σ.h hp) (t : TypeId) (id off : Nat) (lo hi : Option AV) : sliceArr P (σ.mem loc hp) t id off lo hi = sliceArr P σ t id off lo hi := by
 unfold sliceArr
 cases P.underlying t with
 | none => rfl
 | some d =>
  cases d <;> try rfl
  rename_i n e
  simp only []
  cases sizeT P e with
  | none => rfl
  | some z =>
   cases evRange n lo hi with
   | none => rfl
   | some r =>
    obtain ⟨l, h⟩ := r
    exact obs_cells k id (fun cs => bif Nat.ble (off + n * z) cs.length then some (AV.rsl id (off + l * z) (h - l) z) else none) none
theorem evSlice_obs (k : Obs σ.h hp) (t : TypeId) (s : AV) (lo hi : Option AV) : evSlice P (σ.mem loc hp) t s lo hi = evSlice P σ t s lo hi := by
 unfold evSlice
 split <;> try rfl
 exact sliceArr_obs k _ _ _ _ _
theorem entries_obs (k : Obs σ.h hp) (m : AV) : entriesA hp m = entriesA σ.h m := by
 unfold entriesA
 split <;> try rfl
 exact obs_map k _ (fun es => some es) none
theorem opLoad_obs (k : Obs σ.h hp) {f : FuncId} {d : Option Nat} {u : TypeId} {x : Operand} (hl : loc = σ.loc ∨ C.is f d 5 = true) : opLoad C P (σ.mem loc hp) f d u x = (opLoad C P σ f d u x).map (memR loc hp) := by
 unfold opLoad
 rw [mem_slot]
 cases σ.slot x with
 | none => rfl
 | some s =>
  simp only []
  cases hb : (C.is f d 3 && isHeapPtr s) || (C.is f d 5 && isLp s) with
  | true => rfl
  | false =>
   simp only [cond_false]
   rw [load_obs k]
   ·exact resV_mem _
   ·rcases hl with hl | hl
    ·exact .inl hl
    ·rw [hl, Bool.true_and] at hb
     simp only [Bool.or_eq_false_iff] at hb
     exact .inr hb.2
theorem cls_h {f : FuncId} {o : Oper} (h : clsOf C P f o = .h) : ∃ u x, o.op = .load u x ∧ C.is f o.dst 5 = true := by
 unfold clsOf at h
 split at h <;> try (cases h; done)
 ·rename_i u x ho
  rcases cls_cond h with ⟨_, e⟩ | ⟨_, e⟩
  ·cases e
  ·rcases cls_cond e.symm with ⟨e, _⟩ | ⟨_, e⟩
   ·exact ⟨u, x, ho, e⟩
   ·cases e
 ·split at h <;> cases h
 ·split at h
  ·rcases cls_new h with e | e <;> cases e
  ·cases h
 ·unfold clsCall at h
  split at h
  ·rename_i b _
   cases b <;> simp only [clsBuiltin, reduceCtorEq] at h <;> (rcases cls_new h with e | e <;> cases e)
  ·rcases cls_cond h with ⟨_, e⟩ | ⟨_, e⟩ <;> cases e
  ·cases h
 ·rcases cls_cond h with ⟨_, e⟩ | ⟨_, e⟩
  ·cases e
  ·rcases cls_new e.symm with e | e <;> cases e
 ·rcases cls_cond h with ⟨_, e⟩ | ⟨_, e⟩ <;> cases e
 ·rcases cls_cond h with ⟨_, e⟩ | ⟨_, e⟩ <;> cases e
 ·rcases cls_cond h with ⟨_, e⟩ | ⟨_, e⟩ <;> cases e
theorem evOp_h {call : CallF} {f : FuncId} {o : Oper} (h : clsOf C P f o = .h) (k : Obs σ.h hp) : evOp C P call f o (σ.mem loc hp) = (evOp C P call f o σ).map (memR loc hp) := by
 obtain ⟨u, x, ho, hb⟩ := cls_h h
 unfold evOp
 rw [ho]
 exact opLoad_obs k (.inr hb)
theorem evOp_q {call : CallF} {f : FuncId} {o : Oper} (h : clsOf C P f o = .q) (k : Obs σ.h hp) : evOp C P call f o (σ.mem σ.loc hp) = (evOp C P call f o σ).map (memR σ.loc hp) := by
 unfold clsOf at h
 split at h <;> try (cases h; done)
 ·rename_i u x ho
  unfold evOp
  rw [ho]
  exact opLoad_obs k (.inl rfl)
 ·rename_i u x lo hi mx ho
  unfold evOp
  rw [ho]
  simp only []
  unfold opSlice
  cases mx with
  | some m =>
   simp only []
   unfold opSlice3
   cases hi with
   | none => rfl
   | some hi =>
    simp only []
    rw [mem_val, optVal_mem, mem_val, mem_val]
    cases σ.val x with
    | none => rfl
    | some s =>
     simp only []
     cases optVal σ lo <;> cases σ.val hi <;> cases σ.val m <;> try rfl
     exact resV_mem _
  | none =>
   simp only []
   rw [mem_val, optVal_mem, optVal_mem]
   cases σ.val x with
   | none => rfl
   | some s =>
    simp only []
    cases optVal σ lo <;> cases optVal σ hi <;> try rfl
    simp only [evSlice_obs k]
    exact resV_mem _
 ·rename_i s d x ho
  split at h
  ·rcases cls_new h with e | e <;> cases e
  ·rename_i hd
   unfold evOp
   rw [ho]
   simp only []
   unfold opConv
   rw [mem_val]
   cases σ.val x with
   | none => rfl
   | some a =>
    simp only []
    unfold evConvert
    split
    ·rw [elems_obs k]
     cases σ.elems 1 a with
     | none => rfl
     | some els =>
      simp only []
      cases isSlice a
      ·rfl
      ·exact resV_mem _
    ·rename_i e he
     exfalso
     unfold elemT at hd
     rw [he] at hd
     cases hd
    ·cases toVal 0 a with
     | none => rfl
     | some v => exact resV_mem _
 ·rename_i c ho
  unfold clsCall at h
  split at h
  ·rename_i b hc
   have hb : b = .len := by
    cases b <;> simp only [clsBuiltin, reduceCtorEq] at h <;> first | rfl | (rcases cls_new h with e | e <;> cases e)
   subst hb
   unfold evOp
   rw [ho]
   simp only []
   unfold opCall
   rw [mapO_congr (f := (σ.mem σ.loc hp).val) (g := σ.val) (l := c.args.toList) (fun x _ => mem_val x)]
   cases mapO σ.val c.args.toList with
   | none => rfl
   | some args =>
    simp only [hc]
    unfold evBuiltin
    simp only []
    split
    ·rw [evLen_obs k]; exact resV_mem _
    ·rfl
  ·rcases cls_cond h with ⟨_, e⟩ | ⟨_, e⟩ <;> cases e
  ·cases h
 ·rcases cls_cond h with ⟨_, e⟩ | ⟨_, e⟩
  ·cases e
  ·rcases cls_new e.symm with e | e <;> cases e
 ·rename_i u x i ok ho
  unfold evOp
  rw [ho]
  simp only []
  unfold opLookup
  rw [mem_val, mem_val]
  cases σ.val x with
  | none => rfl
  | some m =>
   cases σ.val i with
   | none => rfl
   | some v =>
    cases v <;> try rfl
    rename_i kv
    cases mapT P u with
    | none => rfl
    | some kt =>
     obtain ⟨kt, et⟩ := kt
     simp only []
     cases P.underlying kt with
     | none => rfl
     | some d =>
      simp only []
      cases keyB d kv
      ·rfl
      ·simp only [cond_true]
       rw [show entriesA (σ.mem σ.loc hp).h m = entriesA σ.h m from entries_obs k m]
       cases entriesA σ.h m with
       | none => rfl
       | some es =>
        simp only []
        cases findA d kv es with
        | none => rfl
        | some r =>
         cases r with
         | some w => rfl
         | none =>
          simp only []
          cases zeroA P et <;> rfl
 ·rcases cls_cond h with ⟨_, e⟩ | ⟨_, e⟩ <;> cases e
 ·rcases cls_cond h with ⟨_, e⟩ | ⟨_, e⟩ <;> cases e
 ·rcases cls_cond h with ⟨_, e⟩ | ⟨_, e⟩ <;> cases e
end
end Go.Ef
