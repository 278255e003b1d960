/- A part of the proof: definitions and lemmas. -/
import Derived.Test.YtfgocjmkefeeeaaGreatDoorFormatsA
import Derived.Scope
import Derived.Orders
import Derived.LoopN
import Derived.Below
import Derived.Deep.Draws
import Derived.Shelf.Strings.Builder1
import Derived.Lib.UnsafeStr
import Derived.Shelf.RegionOpenPlain
import Derived.Lib.Walk
import Derived.WalkKit
import Derived.Lib.Bytealg
import Derived.Shelf.Strings.OnBuilder
import Derived.Shelf.Strings.Repeat
namespace Go.Ef
open Go
theorem isRowT_spec {P : Program} {u : TypeId} (h : isRowT P u = true) : (∃ e, P.underlying u = some (.slice e)) ∨ P.underlying u = some .string := by
 unfold isRowT at h
 split at h
 ·rename_i e he; exact .inl ⟨e, he⟩
 ·rename_i he; exact .inr he
 ·cases h
section
variable {P : Program} {w : World} {t u ty e : TypeId} {i : TypeInfo} {z : Value}
theorem run_append_in (ht : P.underlying t = some (.slice e)) (hu : isRowT P u = true) (hi : P.info? e = some i) {b o sLen sCap m : Nat} {x : Value} {news : List Value} (hlen : (Builtin.lenOf x).run P w = .ok m w) (hnew : (Builtin.firstCells i.size m x).run P w = .ok ⟨news⟩ w)
  (hroom : sLen + m ≤ sCap) (hc : ∀ j, j < news.length → (w.cell? ⟨b, o + sLen * i.size + j, none⟩).isSome = true) (hf : ∀ j, j < news.length → w.frozen? ⟨b, o + sLen * i.size + j, none⟩ = false) (h1 : ∀ v ∈ news, v.oneCell' = true) :
  (Builtin.append_ #[t, u] ty #[.slice (some ⟨b, o, none⟩) sLen sCap, x]).run P w = .ok (.slice (some ⟨b, o, none⟩) (sLen + m) sCap) (w.setCells b (o + sLen * i.size) news) := by
 have hst := run_storeCells_cells (P := P) b (o + sLen * i.size) news 0 w (by simpa using hc) (by simpa using hf) h1
 simp only [Nat.add_zero] at hst
 rcases isRowT_spec hu with ⟨e2, hu⟩ | hu <;>
  simp [Builtin.append_, run_underlying ht, run_underlying hu, sizeOf, typeInfo, hi, hlen, hroom, hnew, Addr.add_lit, hst]
theorem run_append_zero (ht : P.underlying t = some (.slice e)) (hu : isRowT P u = true) (hi : P.info? e = some i) {base : Option Addr} {sLen sCap : Nat} {x : Value} (hlen : (Builtin.lenOf x).run P w = .ok 0 w) (hnew : (Builtin.firstCells i.size 0 x).run P w = .ok #[] w) (hroom : sLen ≤ sCap) :
  (Builtin.append_ #[t, u] ty #[.slice base sLen sCap, x]).run P w = .ok (.slice base sLen sCap) w := by
 rcases isRowT_spec hu with ⟨e2, hu⟩ | hu <;> cases base <;>
  simp [Builtin.append_, run_underlying ht, run_underlying hu, sizeOf, typeInfo, hi, hlen, hroom, hnew, storeCells]
theorem run_append_out (ht : P.underlying t = some (.slice e)) (hu : isRowT P u = true) (hi : P.info? e = some i) (hz : i.zero = some z) {base : Option Addr} {sLen sCap m : Nat} {x : Value} {olds news : List Value} (hlen : (Builtin.lenOf x).run P w = .ok m w) (hnew : (Builtin.firstCells i.size m x).run P w.drew = .ok ⟨news⟩ w.drew)
  (hold : (Builtin.firstCells i.size sLen (.slice base sLen sCap)).run P w.drew = .ok ⟨olds⟩ w.drew) (hg : sCap < sLen + m) (h63 : ((sLen + m : Nat) : Int) ≤ 9223372036854775807) (hfit : (sLen + m) * i.bytes ≤ 140737488355328) :
  (Builtin.append_ #[t, u] ty #[.slice base sLen sCap, x]).run P w =
   .ok (.slice (some ⟨w.heap.size, 0, none⟩) (sLen + m) (grownCap w (sLen + m) sCap e)) (w.drew.alloc (.cells (olds.toArray ++ news.toArray ++ Builtin.zeroCells z.cells (grownCap w (sLen + m) sCap e - (sLen + m))) e)) := by
 have hn : ¬ (sLen + m ≤ sCap) := by omega
 have h63' : ¬ (9223372036854775807 < ((sLen : Int) + (m : Int))) := by omega
 have h48 := growslice_fits hg hfit
 have h48' : ¬ (281474976710656 < Builtin.nextslicecap (sLen + m) sCap * i.bytes) := by omega
 rcases isRowT_spec hu with ⟨e2, hu⟩ | hu <;>
  (simp [Builtin.append_, run_underlying ht, run_underlying hu, sizeOf, typeInfo, zeroValue, hi, hz, hlen, hn, h63', h48', Question.forced, hnew, hold, newRow, grownCap]
   try (congr 2; apply Array.ext'; simp [List.append_assoc]))
end
theorem fits_spec {n b : Nat} (h : fits n b = true) : n * b ≤ 140737488355328 ∧ n ≤ 140737488355328 := by
 unfold fits at h
 simp only [Bool.and_eq_true] at h
 have hb : maxRoom = 140737488355328 := by decide
 exact ⟨hb ▸ ble_true h.1, hb ▸ ble_true h.2⟩
theorem grownCap_ge' (w : World) (need old : Nat) (e : TypeId) : need ≤ grownCap w need old e := by simp [grownCap, Question.cut]
theorem zeroCells_size (z : Array Value) (n : Nat) : (Builtin.zeroCells z n).size = n * z.size := by simp [Builtin.zeroCells]
section
variable {P : Program} {C : Cfg} {E : Ent} {L : List Nat} {μ : M} {σ : St} {a : Act} {w : World}
theorem flatten_app {els new : List (List AV)} {k : Nat} (h1 : ∀ e ∈ els, e.length = k) (h2 : ∀ e ∈ new, e.length = k) : ∀ e ∈ els ++ new, e.length = k := by
 intro e he
 rcases List.mem_append.1 he with h | h
 ·exact h1 e h
 ·exact h2 e h
theorem begins_two {cs ds : List AV} {olds news : List Value} {rest : Array Value} (h1 : cs.length = olds.length) (h2 : ds.length = news.length) (h3 : ∀ (i : Nat) (x : AV) (y : Value), cs[i]? = some x → olds[i]? = some y → V μ x y)
  (h4 : ∀ (i : Nat) (x : AV) (y : Value), ds[i]? = some x → news[i]? = some y → V μ x y) : Begins μ (olds.toArray ++ news.toArray ++ rest) (cs ++ ds) := by
 refine ⟨by simp; omega, fun i x hx => ?_⟩
 by_cases hi : i < cs.length
 ·rw [List.getElem?_append_left hi] at hx
  have ho : olds[i]? = some (olds[i]'(by omega)) := List.getElem?_eq_getElem (by omega)
  refine ⟨_, ?_, h3 i x _ hx ho⟩
  rw [Array.getElem?_append_left (by simp; omega), Array.getElem?_append_left (by simp; omega)]
  simp
 ·rw [List.getElem?_append_right (by omega)] at hx
  have hd := lt_of_get? hx
  have ho : news[i - cs.length]? = some (news[i - cs.length]'(by omega)) := List.getElem?_eq_getElem (by omega)
  refine ⟨_, ?_, h4 _ x _ hx ho⟩
  rw [Array.getElem?_append_left (by simp; omega), Array.getElem?_append_right (by simp; omega)]
  simp only [List.size_toArray]
  rw [← h1]
  simp
theorem rel_of_holds {c : Value} {k : Nat} {els : List (List AV)} {vals : List Value} (H : Holds μ w c k els vals) : els.flatten.length = vals.length := by
 rw [H.size]; exact (flatten_get H.lens).1
theorem give_append_nil (R : Rel C E L μ σ a w) {f : FuncId} {d : Option Nat} {t u ty e : TypeId} {i : TypeInfo} {x : Value} {new : List (List AV)} {vals : List Value} {r : Slot × St} (ht : P.underlying t = some (.slice e)) (hu : isRowT P u = true) (hi : P.info? e = some i)
  {z : Value} (hz : i.zero = some z) (hzs : z.cells.size = i.size) (H : Holds μ w x i.size new vals) (hne : new ≠ []) (h : appendNil C σ f d e i new = some r) : Gives P C E a w (Builtin.append_ #[t, u] ty #[.slice none 0 0, x]) r := by
 unfold appendNil at h
 obtain ⟨hb, h⟩ := cond_some h
 have h := Option.some.inj h
 subst h
 obtain ⟨b1, b2⟩ := fits_spec hb
 have hpos : 0 < new.length := List.length_pos_iff.2 hne
 have hrun := run_append_out (P := P) (w := w) (ty := ty) (base := none) (sLen := 0) (sCap := 0) (m := new.length) (olds := []) (news := vals) ht hu hi hz (H.len w)
  (by have := H.first (P := P) w.drew (fun _ => rfl) new.length (Nat.le_refl _); rwa [← H.size, List.take_length] at this) (by simp [Builtin.firstCells]) (by omega) (by omega) (by rw [Nat.zero_add]; exact b1)
 simp only [Nat.zero_add] at hrun
 refine give_newSlice R (f := f) (d := d) (grew_drew w _) H.lens rfl (grownCap_ge' w new.length 0 e) ?_ ?_ hrun
 ·simp only [Array.size_append, List.size_toArray, List.length_nil, Nat.zero_add, zeroCells_size, hzs, H.size]
  rw [← Nat.add_mul]
  have := grownCap_ge' w new.length 0 e
  exact Nat.le_of_eq (by congr 1; omega)
 ·have := begins_two (μ := μ) (cs := []) (ds := new.flatten) (olds := []) (news := vals) (rest := Builtin.zeroCells z.cells (grownCap w new.length 0 e - new.length)) rfl (rel_of_holds H) (fun i x y hx => by simp at hx) H.rel
  simpa using this
theorem sl1_of {els : List (List AV)} {id : Nat} {c : Value} (h : V μ (.sl els (id + 1)) c) : ∃ b o cap k, ∃ f : Nat → Nat → Value, c = .slice (some ⟨b, o, none⟩) els.length cap ∧ els.length ≤ cap ∧ (∀ e ∈ els, e.length = k) ∧
  (∀ (i : Nat) (e : List AV) (j : Nat) (x : AV), els[i]? = some e → e[j]? = some x → μ.imm b (o + i * k + j) = some (f i j)) ∧
  (∀ (i : Nat) (e : List AV) (j : Nat) (x : AV), els[i]? = some e → e[j]? = some x → V μ x (f i j)) ∧ TokOk μ id b o els.length cap k := by
 cases h with
 | sl1 h1 h2 h3 h4 h5 h6 => subst h1; exact ⟨_, _, _, _, _, rfl, h2, h3, h4, h5, h6⟩
theorem give_append_own (R : Rel C E L μ σ a w) {t u ty e : TypeId} {i : TypeInfo} {x s : Value} {els new : List (List AV)} {tok : Nat} {vals : List Value} {r : Slot × St} (ht : P.underlying t = some (.slice e)) (hu : isRowT P u = true) (hi : P.info? e = some i)
  {z : Value} (hz : i.zero = some z) (hzs : z.cells.size = i.size) (hs : V μ (.sl els tok) s) (H : Holds μ w x i.size new vals) (hne : new ≠ []) (hones : ∀ v ∈ vals, v.oneCell' = true) (h : appendO σ e i els tok new = some r) :
  Gives P C E a w (Builtin.append_ #[t, u] ty #[s, x]) r := by
 unfold appendO at h
 obtain ⟨hb, h⟩ := cond_some h
 simp only [Bool.and_eq_true] at hb
 obtain ⟨hb1, hb2⟩ := hb
 have hlen := allLen_spec hb1
 obtain ⟨b1, b2⟩ := fits_spec hb2
 have hpos : 0 < new.length := List.length_pos_iff.2 hne
 split at h
 ·cases h
 ·rename_i id _
  split at h
  ·rename_i k e' n hg
   obtain ⟨hk, h4⟩ := cond_some h
   clear h
   simp only [Bool.and_eq_true] at hk
   obtain ⟨⟨hk, he'⟩, hkn⟩ := hk
   have hkn := beq_true hkn
   subst hkn
   have hk := beq_true hk
   have he' := (beq_true he').symm
   subst hk
   subst he'
   split at h4
   ·rename_i h1 hp
    have h := Option.some.inj h4
    subst h
    obtain ⟨olds, Hs⟩ := elems_rel R hs (k := i.size) (els := els) (by simp only [St.elems]; rw [show (els.all fun e => Nat.beq e.length i.size) = true from hb1]; rfl)
    obtain ⟨b, o, cap, k', c, rfl, hcap, hk', himm, hV, htok⟩ := sl1_of hs
    obtain ⟨B, En, Rm, hown, hO⟩ := R.world.own id _ _ _ hg
    have hid0 : id ≠ 0 := by rintro rfl; rw [R.world.zero] at hg; cases hg
    have hnk : els.length * k' = els.length * i.size := by
     cases els with
     | nil => simp
     | cons e0 es => rw [← hk' e0 (by simp), hlen e0 (by simp)]
    have htok' : (cap = 0 ∧ Rm = 0) ∨ (B = b ∧ En = o + els.length * i.size ∧ cap = els.length + Rm) := by
     rcases htok with h0 | ⟨B', E', R', m', q1, _, q2⟩
     ·exact absurd h0 hid0
     ·rw [hown] at q1; cases q1
      have q2 := q2 rfl
      rw [hnk] at q2; exact q2
    obtain ⟨p1, p2, p3⟩ := put_rest hp
    have hall := flatten_app hlen H.lens
    have hfn := rel_of_holds H
    obtain ⟨f1, f2⟩ := flatten_get H.lens
    by_cases hroom : els.length + new.length ≤ cap
    ·-- in place
     obtain ⟨rfl, rfl, hcapR⟩ : B = b ∧ En = o + els.length * i.size ∧ cap = els.length + Rm := by
      rcases htok' with ⟨q1, _⟩ | q
      ·omega
      ·exact q
     have hmR : new.length * i.size ≤ Rm * i.size := Nat.mul_le_mul_right _ (by omega)
     have hvl := H.size
     obtain ⟨ns, hshape, hfit⟩ := hO.shape
     have hcell : ∀ j, j < vals.length → (w.cell? ⟨B, o + els.length * i.size + j, none⟩).isSome = true := fun j hj => cell_of_shape hshape (by omega)
     have hrun := run_append_in (P := P) (w := w) (ty := ty) (b := B) (o := o) (sLen := els.length) (sCap := cap) (m := new.length) ht hu hi (H.len w)
      (by have := H.first (P := P) w (fun _ => rfl) new.length (Nat.le_refl _); rwa [← H.size, List.take_length] at this) hroom hcell (fun j hj => hO.free _ (by omega) (by omega)) hones
     have hblk : μ.blk σ.h id = some B := by simp [M.blk, hg, hown]
     obtain ⟨r1, r2, r3⟩ := sc_rest B vals (o + els.length * i.size) w
     have l1 := le_addImm (μ := μ) (b := B) (o := o + els.length * i.size) (n := new.length * i.size) (f := fun p => vals[p - (o + els.length * i.size)]?) (fun p q1 q2 => hO.imm p q1 (by omega))
     have l2 := le_bumpOwn (μ := μ.addImm B (o + els.length * i.size) (new.length * i.size) (fun p => vals[p - (o + els.length * i.size)]?)) (id := id) (b' := B) (e' := o + els.length * i.size + new.length * i.size) (q' := Rm - new.length) (n' := els.length + new.length) (show _ = some (B, o + els.length * i.size, Rm, els.length) from hown) (by omega)
     have l := l1.trans l2
     have hin := World.cell?_setCells_in B vals (o + els.length * i.size) w hcell
     have hout : ∀ (p : Nat), (p < o + els.length * i.size ∨ o + els.length * i.size + vals.length ≤ p) → (w.setCells B (o + els.length * i.size) vals).cell? ⟨B, p, none⟩ = w.cell? ⟨B, p, none⟩ :=
      fun p hp => World.cell?_setCells_out B vals _ w _ (fun _ _ => hp)
     have hsub : Rm * i.size = new.length * i.size + (Rm - new.length) * i.size := by rw [← Nat.add_mul]; congr 1; omega
     obtain ⟨s1, s2⟩ := R.world.bump hg hblk hp (b' := B) (w' := w.setCells B (o + els.length * i.size) vals) (ν := (μ.addImm B (o + els.length * i.size) (new.length * i.size) (fun p => vals[p - (o + els.length * i.size)]?)).addOwn id (B, o + els.length * i.size + new.length * i.size, Rm - new.length, els.length + new.length))
      (fun r _ hr => sc_heap B r hr vals _ w) (Nat.le_of_eq (sc_size B vals _ w).symm) (fun r x hx => by rw [sc_shape]; exact hx) r1 r2 r3 l (fun _ => rfl) (fun j hj => if_neg hj) (fun b' p v hv => by
       have hv2 : (if b' = B ∧ o + els.length * i.size ≤ p ∧ p < o + els.length * i.size + new.length * i.size then vals[p - (o + els.length * i.size)]? else μ.imm b' p) = some v := hv
       clear hv
       by_cases e1 : b' = B ∧ o + els.length * i.size ≤ p ∧ p < o + els.length * i.size + new.length * i.size
       ·rw [if_pos e1] at hv2
        refine .inr ⟨.inl e1.1, ?_⟩
        rw [e1.1]
        have hj : p - (o + els.length * i.size) < vals.length := by omega
        have := hin _ hj
        rw [show o + els.length * i.size + (p - (o + els.length * i.size)) = p by omega] at this
        rw [this, ← hv2, List.getElem?_eq_getElem hj]
       ·rw [if_neg e1] at hv2
        by_cases e2 : b' = B
        ·subst e2
         refine .inr ⟨.inl rfl, ?_⟩
         rw [hout p (by omega)]
         exact R.world.imm _ _ _ hv2
        ·exact .inl ⟨e2, hv2⟩)
      (if_pos rfl) ⟨⟨ns, (sc_shape B B vals _ w).trans hshape, by omega⟩, fun p q1 q2 => (World.frozen?_setCells B vals _ w _).trans (hO.free p (by omega) (by omega)), fun p q1 q2 => by
       show (if B = B ∧ o + els.length * i.size ≤ p ∧ p < o + els.length * i.size + new.length * i.size then vals[p - (o + els.length * i.size)]? else μ.imm B p) = none
       rw [if_neg (by omega)]
       exact hO.imm p (by omega) (by omega)⟩ (.inl rfl)
     refine ⟨_, _, hrun, L, _, R.step s2 s1, ?_⟩
     show V _ (.sl (els ++ new) (id + 1)) _
     refine V.sl1 (k := i.size) (c := fun p j => if p < els.length then c p j else (vals[(p - els.length) * i.size + j]?).getD undef) (by simp) hroom hall (fun p e0 j y he hy => ?_) (fun p e0 j y he hy => ?_)
      (.inr ⟨_, _, _, _, if_pos rfl, Nat.le_refl _, fun _ => .inr ⟨rfl, by rw [Nat.add_mul]; omega, by omega⟩⟩)
     ·by_cases hpl : p < els.length
      ·rw [List.getElem?_append_left hpl] at he
       simp only [hpl, if_true]
       have := l.imm _ _ _ (himm p e0 j y he hy)
       have hkk : k' = i.size := by rw [← hk' e0 (List.mem_of_getElem? he), hlen e0 (List.mem_of_getElem? he)]
       rw [hkk] at this; exact this
      ·rw [List.getElem?_append_right (by omega)] at he
       simp only [hpl, if_false]
       have hj : j < i.size := by rw [← H.lens e0 (List.mem_of_getElem? he)]; exact lt_of_get? hy
       have hpn := lt_of_get? he
       have hidx := idx_lt (k := i.size) hpn hj
       have hpos2 : o + p * i.size + j = o + els.length * i.size + ((p - els.length) * i.size + j) := by
        have : p * i.size = els.length * i.size + (p - els.length) * i.size := by rw [← Nat.add_mul]; congr 1; omega
        omega
       rw [hpos2]
       show (if B = B ∧ o + els.length * i.size ≤ o + els.length * i.size + ((p - els.length) * i.size + j) ∧ o + els.length * i.size + ((p - els.length) * i.size + j) < o + els.length * i.size + new.length * i.size then vals[o + els.length * i.size + ((p - els.length) * i.size + j) - (o + els.length * i.size)]? else _) = _
       rw [if_pos ⟨rfl, by omega, by omega⟩, Nat.add_sub_cancel_left, List.getElem?_eq_getElem (by omega)]
       rfl
     ·by_cases hpl : p < els.length
      ·rw [List.getElem?_append_left hpl] at he
       simp only [hpl, if_true]
       exact (hV p e0 j y he hy).mono l
      ·rw [List.getElem?_append_right (by omega)] at he
       simp only [hpl, if_false]
       have hj : j < i.size := by rw [← H.lens e0 (List.mem_of_getElem? he)]; exact lt_of_get? hy
       have hpn := lt_of_get? he
       have hidx := idx_lt (k := i.size) hpn hj
       have hv : vals[(p - els.length) * i.size + j]? = some (vals[(p - els.length) * i.size + j]'(by omega)) := List.getElem?_eq_getElem (by omega)
       rw [hv]
       exact (H.rel _ y _ (by rw [f2 _ e0 j he hj]; exact hy) hv).mono l
    ·-- a new array
     have hrun := run_append_out (P := P) (w := w) (ty := ty) (base := some ⟨b, o, none⟩) (sLen := els.length) (sCap := cap) (m := new.length) (olds := olds) (news := vals) ht hu hi hz (H.len w)
      (by have := H.first (P := P) w.drew (fun _ => rfl) new.length (Nat.le_refl _); rwa [← H.size, List.take_length] at this)
      (by have := Hs.first (P := P) w.drew (fun _ => rfl) els.length (Nat.le_refl _); rwa [← Hs.size, List.take_length] at this) (by omega) (by omega) b1
     have hge := grownCap_ge' w (els.length + new.length) cap e
     obtain ⟨ν, g1, g2, g3⟩ := R.world.regrow (id := id) (m := els.length) (c := olds.toArray ++ vals.toArray ++ Builtin.zeroCells z.cells (grownCap w (els.length + new.length) cap e - (els.length + new.length))) (t := e) (fz := (0, 0)) (k := i.size) (n := els.length + new.length) (cap := grownCap w (els.length + new.length) cap e) (els := els ++ new) (grew_drew w _) hg hp (by omega) hall (by simp) hge (by
       simp only [Array.size_append, List.size_toArray, zeroCells_size, hzs, H.size, Hs.size]
       rw [← Nat.add_mul, ← Nat.add_mul]
       exact Nat.le_of_eq (by congr 1; omega)) (.inr rfl) (by
       rw [List.flatten_append]
       exact begins_two (rel_of_holds Hs) hfn Hs.rel H.rel)
     exact ⟨_, _, hrun, L, ν, R.step g2 g1, g3⟩
   ·cases h4
  ·cases h
theorem give_append_row (R : Rel C E L μ σ a w) {t u ty e : TypeId} {i : TypeInfo} {x s : Value} {new : List (List AV)} {id off len k : Nat} {vals : List Value} {r : Slot × St} (ht : P.underlying t = some (.slice e)) (hu : isRowT P u = true) (hi : P.info? e = some i)
  {z : Value} (hz : i.zero = some z) (hzs : z.cells.size = i.size) (hs : V μ (.rsl id off len k) s) (H : Holds μ w x i.size new vals) (hne : new ≠ []) (hones : ∀ v ∈ vals, v.oneCell' = true) (h : appendR σ i id off len k new = some r) :
  Gives P C E a w (Builtin.append_ #[t, u] ty #[s, x]) r := by
 unfold appendR at h
 obtain ⟨hb, h⟩ := cond_some h
 simp only [Bool.and_eq_true] at hb
 obtain ⟨hb1, hb2⟩ := hb
 have hk := beq_true hb1
 subst hk
 obtain ⟨b1, b2⟩ := fits_spec hb2
 have hpos : 0 < new.length := List.length_pos_iff.2 hne
 split at h
 ·rename_i cs hg
  split at h
  ·rename_i old h1 hst hp
   have h := Option.some.inj h
   subst h
   obtain ⟨s1, s2, s3⟩ := stretch_spec hst
   obtain ⟨B, base, sz, hrho, ok, hnoimm⟩ := R.world.cells id cs hg
   obtain ⟨olds, Hs⟩ := elems_rel R hs (k := i.size) (els := chunks len i.size old) (by simp only [St.elems, hg, hst]; simp)
   have hfo : (chunks len i.size old).flatten = old := chunks_flatten i.size len old s2
   have hol := rel_of_holds Hs
   have hor := Hs.rel
   rw [hfo] at hol hor
   have hsz' := Hs.size
   rw [chunks_length] at hsz'
   obtain ⟨p1, p2, p3⟩ := put_rest hp
   have hfn := rel_of_holds H
   obtain ⟨f1, f2⟩ := flatten_get H.lens
   cases hs with
   | rsl hrho' hcap hq =>
    rename_i cap b' base' sz' o
    rw [hrho] at hrho'; cases hrho'
    by_cases hroom : len + new.length ≤ cap
    ·obtain ⟨rfl, hfit⟩ : o = base + off ∧ o + cap * i.size ≤ sz := by
      rcases hq with q | q
      ·omega
      ·exact q
     have hcapm : (len + new.length) * i.size ≤ cap * i.size := Nat.mul_le_mul_right _ hroom
     rw [Nat.add_mul] at hcapm
     have hvl := H.size
     obtain ⟨es, hshape⟩ := ok.shape
     have hcell : ∀ j, j < vals.length → (w.cell? ⟨B, base + off + len * i.size + j, none⟩).isSome = true := fun j hj => cell_of_shape hshape (by omega)
     have hrun := run_append_in (P := P) (w := w) (ty := ty) (b := B) (o := base + off) (sLen := len) (sCap := cap) (m := new.length) ht hu hi (H.len w)
      (by have := H.first (P := P) w (fun _ => rfl) new.length (Nat.le_refl _); rwa [← H.size, List.take_length] at this) hroom hcell (fun j hj => ok.free _) hones
     have hblk : μ.blk σ.h id = some B := by simp [M.blk, hg, hrho]
     obtain ⟨r1, r2, r3⟩ := sc_rest B vals (base + off + len * i.size) w
     have l := le_addRho (μ := μ) (id := σ.h.next) (r := (B, base + off, sz)) (R.world.fresh σ.h.next (Nat.le_refl _)).1
     have hin := World.cell?_setCells_in B vals (base + off + len * i.size) w hcell
     obtain ⟨t1, t2⟩ := R.world.swap hblk hp (.cells (old ++ new.flatten)) (w' := w.setCells B (base + off + len * i.size) vals) (ν := μ.addRho σ.h.next (B, base + off, sz))
      (fun r hr => sc_heap B r hr vals _ w) (sc_size B vals _ w) (fun r x hx => by rw [sc_shape]; exact hx) r1 r2 r3 l (fun j hj => if_neg hj) (fun _ _ => rfl) (fun b' p v hv => by
       have hv2 : μ.imm b' p = some v := hv
       refine .inl ⟨?_, hv2⟩
       clear hv
       rintro rfl
       rw [hnoimm] at hv2; cases hv2)
      ⟨base + off, sz, if_pos rfl, ⟨⟨es, (sc_shape B B vals _ w).trans hshape⟩, by rw [List.length_append, s2, f1]; omega, fun p => (World.frozen?_setCells B vals _ w _).trans (ok.free p), fun j y hy => by
       by_cases hj : j < old.length
       ·rw [List.getElem?_append_left hj, s3 j (by omega)] at hy
        obtain ⟨v, hv, hvv⟩ := ok.cell _ _ hy
        refine ⟨v, ?_, hvv.mono l⟩
        rw [World.cell?_setCells_out B vals _ w _ (fun _ _ => .inl (by simp only []; omega)), Nat.add_assoc]
        exact hv
       ·rw [List.getElem?_append_right (by omega)] at hy
        have hjn : j - old.length < vals.length := by rw [← hfn]; exact lt_of_get? hy
        have hv : vals[j - old.length]? = some (vals[j - old.length]'hjn) := List.getElem?_eq_getElem hjn
        refine ⟨_, ?_, (H.rel _ y _ hy hv).mono l⟩
        have := hin _ hjn
        rw [show base + off + len * i.size + (j - old.length) = base + off + j by omega] at this
        exact this⟩, fun p => hnoimm p⟩
     refine ⟨_, _, hrun, L, _, R.step t2 t1, ?_⟩
     show V _ (.rsl h1.next 0 (len + new.length) i.size) _
     rw [p2]
     exact V.rsl (if_pos rfl) hroom (.inr ⟨by omega, hfit⟩)
    ·have hrun := run_append_out (P := P) (w := w) (ty := ty) (base := some ⟨B, o, none⟩) (sLen := len) (sCap := cap) (m := new.length) (olds := olds) (news := vals) ht hu hi hz (H.len w)
      (by have := H.first (P := P) w.drew (fun _ => rfl) new.length (Nat.le_refl _); rwa [← H.size, List.take_length] at this)
      (by have := Hs.first (P := P) w.drew (fun _ => rfl) len (by rw [chunks_length]; exact Nat.le_refl _); rwa [← hsz', List.take_length] at this) (by omega) (by omega) b1
     obtain ⟨k1, k2⟩ := R.world.kill hp (by rw [hg]; simp)
     have hge := grownCap_ge' w (len + new.length) cap e
     obtain ⟨ν, g1, g2, g3⟩ := k1.growRow (c := olds.toArray ++ vals.toArray ++ Builtin.zeroCells z.cells (grownCap w (len + new.length) cap e - (len + new.length))) (t := e) (k := i.size) (n := len + new.length) (cap := grownCap w (len + new.length) cap e) (cs := old ++ new.flatten) (grew_drew w _) hge (by
       simp only [Array.size_append, List.size_toArray, zeroCells_size, hzs, H.size, hsz']
       rw [← Nat.add_mul, ← Nat.add_mul]
       exact Nat.le_of_eq (by congr 1; omega)) (begins_two hol hfn hor H.rel)
     exact ⟨_, _, hrun, L, ν, R.step (k2.trans g2) g1, g3⟩
  ·cases h
 ·cases h
end
end Go.Ef
namespace Go.Ef
open Go
section
variable {P : Program} {C : Cfg} {E : Ent} {L : List Nat} {μ : M} {σ : St} {a : Act} {w : World}
theorem ones_of {c : Value} {k : Nat} {els : List (List AV)} {vals : List Value} (H : Holds μ w c k els vals) (h : els.all (fun e => e.all AV.one) = true) : ∀ v ∈ vals, v.oneCell' = true := by
 intro v hv
 obtain ⟨i, hi, rfl⟩ := List.getElem_of_mem hv
 have hf : i < els.flatten.length := by rw [rel_of_holds H]; exact hi
 have hx : els.flatten[i]? = some (els.flatten[i]'hf) := List.getElem?_eq_getElem hf
 have hm := List.getElem_mem hf
 obtain ⟨e, he, hxe⟩ := List.mem_flatten.1 hm
 exact (H.rel i _ _ hx (List.getElem?_eq_getElem hi)).one (List.all_eq_true.1 (List.all_eq_true.1 h e he) _ hxe)
theorem give_append (R : Rel C E L μ σ a w) {f : FuncId} {d : Option Nat} {types : Array TypeId} {ty : TypeId} {s x : AV} {sv xv : Value} (hs : V μ s sv) (hx : V μ x xv) {r : Slot × St} (h : evAppend C P σ f d types s x = some r) :
  Gives P C E a w (Builtin.append_ types ty #[sv, xv]) r := by
 unfold evAppend at h
 split at h
 ·rename_i t u ht0 hu0
  obtain ⟨hrow, h⟩ := cond_some h
  split at h
  ·rename_i e he
   split at h
   ·rename_i i hi
    cases hz0 : Nat.beq i.size 0 with
    | true => rw [hz0] at h; cases h
    | false =>
     rw [hz0] at h
     simp only [cond_false] at h
     split at h
     ·rename_i new hnew
      obtain ⟨hb, h⟩ := cond_some h
      simp only [Bool.and_eq_true] at hb
      obtain ⟨hb1, hb2⟩ := hb
      obtain ⟨vals, H⟩ := elems_rel R hx hnew
      have hones := ones_of H hb1
      cases hzz : zeroA P e with
      | none => rw [hzz] at hb2; cases hb2
      | some zz =>
       rw [hzz] at hb2
       obtain ⟨i', z, hi', hz, ho2⟩ := zeroA_spec hzz
       rw [hi] at hi'; cases hi'
       have hzs : z.cells.size = i.size := by
        rw [← (V.cells (ofVal_V 2 z zz ho2 μ)).1]
        exact beq_true hb2
       have key : Gives P C E a w (Builtin.append_ #[t, u] ty #[sv, xv]) r := by
        have zero : ∀ base n m, n ≤ m → sv = .slice base n m → new = [] → r = (.v s, σ) → Gives P C E a w (Builtin.append_ #[t, u] ty #[sv, xv]) r := by
         intro base n m hnm hsv hnn hr
         subst hnn
         rw [hr, hsv]
         refine give_V R (run_append_zero (elemT_spec he) hrow hi (H.len w) ?_ hnm) (hsv ▸ hs)
         have := H.first (P := P) w (fun _ => rfl) 0 (Nat.zero_le _)
         simpa using this
        unfold appendS at h
        split at h
        ·have hsv := V.sc_eq hs
         cases hn : new.isEmpty with
         | true =>
          rw [hn] at h
          exact zero none 0 0 (Nat.le_refl _) hsv (List.isEmpty_iff.1 hn) (Option.some.inj h).symm
         | false =>
          rw [hn] at h
          rw [hsv]
          exact give_append_nil R (elemT_spec he) hrow hi hz hzs H (fun e => by simp [e] at hn) h
        ·rename_i els tok
         cases hn : new.isEmpty with
         | true =>
          rw [hn] at h
          cases hs with
          | sl0 h1 h2 h3 h4 h5 => exact zero _ _ _ h2 rfl (List.isEmpty_iff.1 hn) (Option.some.inj h).symm
          | sl1 h1 h2 h3 h4 h5 h6 => exact zero _ _ _ h2 rfl (List.isEmpty_iff.1 hn) (Option.some.inj h).symm
         | false =>
          rw [hn] at h
          exact give_append_own R (elemT_spec he) hrow hi hz hzs hs H (fun e => by simp [e] at hn) hones h
        ·rename_i id off len k
         cases hn : new.isEmpty with
         | true =>
          rw [hn] at h
          cases hs with
          | rsl h1 h2 h3 => exact zero _ _ _ h2 rfl (List.isEmpty_iff.1 hn) (Option.some.inj h).symm
         | false =>
          rw [hn] at h
          exact give_append_row R (elemT_spec he) hrow hi hz hzs hs H (fun e => by simp [e] at hn) hones h
        ·cases h
       obtain ⟨c, w', hr, hout⟩ := key
       refine ⟨c, w', ?_, hout⟩
       rw [← hr]
       unfold Builtin.append_
       simp only [ht0, hu0]
       rfl
     ·cases h
   ·cases h
  ·cases h
 ·cases h
theorem lenA_spec {x : AV} {c : Value} {n : Nat} (h : lenA x = some n) (hs : isSlice x = true) (hv : V μ x c) : ∃ b cap, c = .slice b n cap := by
 unfold lenA at h
 split at h
 ·cases h; exact ⟨none, 0, V.sc_eq hv⟩
 ·cases h
  cases hv with
  | sl0 h1 => exact ⟨_, _, by rw [h1]⟩
  | sl1 h1 => exact ⟨_, _, by rw [h1]⟩
 ·cases h
  cases hv with
  | rsl => exact ⟨_, _, rfl⟩
 ·simp [isSlice] at hs
 ·cases h
theorem give_copy (R : Rel C E L μ σ a w) {types : Array TypeId} {ty : TypeId} {s x : AV} {sv xv : Value} (hs : V μ s sv) (hx : V μ x xv) {r : Slot × St} (h : evCopy P σ types s x = some r) :
  Gives P C E a w (Builtin.copy_ types ty #[sv, xv]) r := by
 unfold evCopy at h
 split at h
 ·rename_i t ht
  split at h
  ·rename_i e he
   split at h
   ·rename_i k hk
    cases hk0 : Nat.beq k 0 with
    | true => rw [hk0] at h; cases h
    | false =>
     rw [hk0] at h
     simp only [cond_false] at h
     split at h
     ·rename_i els n hels hn
      obtain ⟨hsl, h⟩ := cond_some h
      obtain ⟨vals, H⟩ := elems_rel R hx hels
      obtain ⟨b, cap, rfl⟩ := lenA_spec hn hsl hs
      have hmin : Nat.min els.length n = (els.take n).length := by rw [List.length_take]; exact Nat.min_comm _ _
      have hfirst := H.first (P := P) w (fun _ => rfl) (els.take n).length (by rw [List.length_take]; exact Nat.min_le_right _ _)
      have hrunsz := run_sizeT (P := P) hk w
      unfold copyR at h
      cases hemp : (els.take n).isEmpty with
      | true =>
       rw [hemp] at h
       have h := Option.some.inj h
       subst h
       have h0 : (els.take n).length = 0 := by rw [List.isEmpty_iff.1 hemp]; rfl
       rw [h0] at hfirst
       refine give_V R (c := goInt 0) ?_ (.sc rfl)
       cases b <;> simp [Builtin.copy_, ht, run_underlying (elemT_spec he), H.len, hrunsz, hmin, h0, hfirst, storeCells]
      | false =>
       rw [hemp] at h
       simp only [cond_false] at h
       split at h
       ·rename_i id off len k' _
        obtain ⟨hkk0, hq⟩ := cond_some h
        clear h
        have hkk := beq_true hkk0
        clear hkk0
        subst hkk
        split at hq
        ·rename_i σ' hwr
         have hq := Option.some.inj hq
         subst hq
         have hn' : n = len := by simp only [lenA] at hn; exact (Option.some.inj hn).symm
         subst hn'
         generalize hsv : Value.slice b n cap = sv at hs
         cases hs with
         | rsl hrho h2 h3 =>
          rename_i cap' B base sz o
          cases hsv
          have hne : (els.take n).length ≠ 0 := fun e => by rw [List.length_eq_zero_iff.1 e] at hemp; cases hemp
          have hlt : 0 < n := by rw [List.length_take] at hne; omega
          rcases h3 with h3 | ⟨h3, h4⟩
          ·omega
          ·subst h3
           have hkl : ∀ e ∈ els.take n, e.length = k := fun e he => H.lens e (List.mem_of_mem_take he)
           obtain ⟨f1, f2⟩ := flatten_get hkl
           obtain ⟨g1, g2⟩ := flatten_get H.lens
           have hle : (els.take n).length * k ≤ els.length * k := Nat.mul_le_mul_right _ (by rw [List.length_take]; exact Nat.min_le_right _ _)
           have hvl : (vals.take ((els.take n).length * k)).length = (els.take n).length * k := by rw [List.length_take, H.size]; omega
           have hpre : ∀ (p : Nat) (y : AV), (els.take n).flatten[p]? = some y → els.flatten[p]? = some y := by
            intro p y hp
            have hsplit : els.flatten = (els.take n).flatten ++ (els.drop n).flatten := by rw [← List.flatten_append, List.take_append_drop]
            rw [hsplit, List.getElem?_append_left (lt_of_get? hp)]; exact hp
           obtain ⟨b', o', hc, hrun, hR⟩ := write_rel (P := P) R (s := .v (.ptr id off)) (c := .pointer (some ⟨B, base + off, none⟩)) (V.ptr hrho) (vs := vals.take ((els.take n).length * k)) hwr (by rw [f1, hvl]) (fun p y v hy hv => by
            rw [List.getElem?_take] at hv
            split at hv
            ·exact H.rel p y v (hpre p y hy) hv
            ·cases hv)
           cases hc
           refine ⟨goInt (els.take n).length, _, ?_, L, μ, hR, .sc rfl⟩
           have hlt2 : (els.take n).length = min n els.length := List.length_take
           rw [hlt2] at hfirst hrun hmin ⊢
           simp [Builtin.copy_, ht, run_underlying (elemT_spec he), H.len, hrunsz, hmin, hfirst, hrun]
        ·cases hq
       ·cases h
     ·cases h
   ·cases h
  ·cases h
 ·cases h
end
end Go.Ef
namespace Go.Ef
open Go
def OptRel (μ : M) : Option AV → Option Value → Prop
 | none, none => True
 | some u, some v => V μ u v
 | _, _ => False
section
variable {P : Program} {C : Cfg} {E : Ent} {L : List Nat} {μ : M} {σ : St} {a : Act} {w : World}
theorem give_len (R : Rel C E L μ σ a w) {types : Array TypeId} {ty : TypeId} {x v : AV} {c : Value} (hx : V μ x c) (h : evLen P σ types ty x = some v) : ∃ q, (Builtin.len_ types ty #[c]).run P w = .ok q w ∧ V μ v q := by
 unfold evLen at h
 split at h
 ·split at h
  ·rename_i t ht
   split at h
   ·rename_i e he
    cases h
    have : ∃ b cap, c = .slice b _ cap := lenA_spec (x := .sl _ _) rfl rfl hx
    obtain ⟨b, cap, rfl⟩ := this
    exact ⟨_, by simp [Builtin.len_, ht, run_underlying (elemT_spec he)]; rfl, .sc rfl⟩
   ·cases h
  ·cases h
 ·split at h
  ·rename_i t ht
   split at h
   ·rename_i e he
    cases h
    have : ∃ b cap, c = .slice b _ cap := lenA_spec (x := .rsl _ _ _ _) rfl rfl hx
    obtain ⟨b, cap, rfl⟩ := this
    exact ⟨_, by simp [Builtin.len_, ht, run_underlying (elemT_spec he)]; rfl, .sc rfl⟩
   ·cases h
  ·cases h
 ·rename_i id
  split at h
  ·rename_i t ht
   split at h
   ·rename_i ke ee es hu hg
    cases h
    obtain ⟨b, hr, ⟨m, clk, hm, hsz, _⟩, _⟩ := R.world.map id es hg
    cases hx with
    | mp hr' =>
     rw [hr] at hr'; cases hr'
     refine ⟨goInt m.size, ?_, by rw [hsz]; exact .sc rfl⟩
     have hget : (getObj b).run P w = .ok (.map m clk) w := by simp [getObj, Sem.run, hm]
     simp [Builtin.len_, ht, run_underlying hu, hget]
   ·cases h
  ·cases h
 ·split at h
  ·rename_i r hr
   obtain ⟨hb, h⟩ := cond_some h
   cases h
   rw [V.sc_eq hx]
   exact ⟨r, pureRun_run hr w, .sc hb⟩
  ·cases h
 ·cases h
theorem minmax_rel {s : Array Value → Sem Value} {l : List AV} {v : AV} {cs : Array Value} (hl : l.length = cs.size) (hc : ∀ (i : Nat) (u : AV) (q : Value), l[i]? = some u → cs[i]? = some q → V μ u q) (h : evMinMax P s l = some v) :
  ∃ q, (s cs).run P w = .ok q w ∧ V μ v q := by
 unfold evMinMax at h
 split at h
 ·rename_i vs hvs
  split at h
  ·rename_i r hr
   obtain ⟨hb, h⟩ := cond_some h
   cases h
   have : Value.agg cs = .agg ⟨vs⟩ := by
    have := toVal_V 1 (.agg l) (.agg ⟨vs⟩) (by simp only [toVal, hvs, Option.map_some]) μ (.agg cs) (.agg hl hc)
    exact this
   cases this
   exact ⟨r, pureRun_run hr w, .sc hb⟩
  ·cases h
 ·cases h
theorem bound_spec {n d r : Nat} {x : Option AV} {c : Option Value} (h : bound n d x = some r) (hx : OptRel μ x c) :
  (x = none ∧ c = none ∧ r = d) ∨ ∃ k i, c = some (.int k i) ∧ 0 ≤ i ∧ i ≤ (n : Int) ∧ i.toNat = r := by
 unfold bound at h
 split at h
 ·cases h
  cases c with
  | none => exact .inl ⟨rfl, rfl, rfl⟩
  | some v => exact hx.elim
 ·rename_i k i
  obtain ⟨hb, h⟩ := cond_some h
  simp only [Bool.and_eq_true, decide_eq_true_eq] at hb
  cases h
  cases c with
  | none => exact hx.elim
  | some v => exact .inr ⟨k, i, by rw [V.sc_eq hx], hb.1, hb.2, rfl⟩
 ·cases h
theorem range_spec {n cap l h : Nat} {lo hi : Option AV} {lv hv : Option Value} (hr : evRange n lo hi = some (l, h)) (hcap : n ≤ cap) (hl : OptRel μ lo lv)
  (hh : OptRel μ hi hv) (b : Bool) (w : World) : (Instr.sliceBounds b n cap lv hv none).run P w = .ok (l, h, cap) w ∧ l ≤ h ∧ h ≤ n := by
 unfold evRange at hr
 split at hr
 ·rename_i h' hbh
  split at hr
  ·rename_i l' hbl
   cases hr
   rcases bound_spec hbh hh with ⟨_, rfl, rfl⟩ | ⟨k, i, rfl, q1, q2, rfl⟩ <;> rcases bound_spec hbl hl with ⟨_, rfl, rfl⟩ | ⟨k', i', rfl, q1', q2', rfl⟩
   ·exact ⟨by simp [Instr.sliceBounds], by omega, by omega⟩
   ·exact ⟨by simp [Instr.sliceBounds, Instr.sliceBound, asIntOf, q1', q2'], by omega, by omega⟩
   ·have q3 : i ≤ (cap : Int) := by omega
    exact ⟨by simp [Instr.sliceBounds, Instr.sliceBound, asIntOf, q1, q3], by omega, by omega⟩
   ·have q3 : i ≤ (cap : Int) := by omega
    have q4 : i' ≤ max i 0 := by omega
    exact ⟨by simp [Instr.sliceBounds, Instr.sliceBound, asIntOf, q1, q3, q1', q4], by omega, by omega⟩
  ·cases hr
 ·cases hr
theorem optVal_rel {σ : St} (R : Rel C E L μ σ a w) {x : Option Operand} {v : Option AV} (h : optVal σ x = some v) : OptRel μ v (x.map a.eval) := by
 cases x with
 | none => simp only [optVal] at h; cases h; trivial
 | some x =>
  simp only [optVal] at h
  split at h
  ·rename_i u hu; cases h; exact val_rel R hu
  ·cases h
theorem sliceOf_spec {t : TypeId} {k : Nat} (h : sliceOf P t = some k) : ∃ e, P.underlying t = some (.slice e) ∧ sizeT P e = some k := by
 unfold sliceOf at h
 split at h
 ·rename_i e he; exact ⟨e, elemT_spec he, h⟩
 ·cases h
theorem cut_get {els : List (List AV)} {l h i : Nat} {e : List AV} (he : ((els.take h).drop l)[i]? = some e) : els[l + i]? = some e := by
 rw [List.getElem?_drop, List.getElem?_take] at he
 split at he
 ·exact he
 ·cases he
theorem fine_slice (R : Rel C E L μ σ a w) {o : Oper} {t : TypeId} {x : Operand} {lo hi mx : Option Operand} {r : Slot × St} (ho : o.op = .slice t x lo hi mx) (h : opSlice P σ t x lo hi mx = some r) : Fine P C E a w o r := by
 unfold opSlice at h
 split at h
 ·cases h
 ·split at h
  ·rename_i s hs
   split at h
   ·rename_i lov hiv hlo hhi
    have hx := val_rel R hs
    have rl := optVal_rel R hlo
    have rh := optVal_rel R hhi
    refine (give_res R (m := Instr.sliceAt t (a.eval x) (lo.map a.eval) (hi.map a.eval) none) h fun u hu => ?_).fine (by simp [execOp, ho])
    unfold evSlice at hu
    split at hu
    ·rename_i els tok
     split at hu
     ·rename_i k l hh hk hr
      obtain ⟨hhead, hu⟩ := cond_some hu
      have hu := Option.some.inj hu
      subst hu
      obtain ⟨e, hue, hke⟩ := sliceOf_spec hk
      have main : ∀ (ν : M) (b o' n cap k' : Nat) (c : Nat → Nat → Value), a.eval x = .slice (some ⟨b, o', none⟩) n cap → n = els.length → n ≤ cap → (∀ e ∈ els, e.length = k') →
        (∀ (i : Nat) (e : List AV) (j : Nat) (x : AV), els[i]? = some e → e[j]? = some x → μ.imm b (o' + i * k' + j) = some (c i j)) →
        (∀ (i : Nat) (e : List AV) (j : Nat) (x : AV), els[i]? = some e → e[j]? = some x → V ν x (c i j)) → ((tok = 0 ∧ ν = μ.bare) ∨ (ν = μ ∧ ∃ id, tok = id + 1 ∧ TokOk μ id b o' n cap k')) →
        ∃ q, (Instr.sliceAt t (a.eval x) (lo.map a.eval) (hi.map a.eval) none).run P w = .ok q w ∧ V μ (cutS els tok l hh) q := by
       intro ν b o' n cap k' c hev hn hcap hk' h4 h5 htok
       subst hn
       obtain ⟨hrun, l1, l2⟩ := range_spec (P := P) hr hcap rl rh true w
       have hkk : els ≠ [] → k' = k := by
        intro hne
        cases els with
        | nil => exact absurd rfl hne
        | cons e0 es => rw [← hk' e0 (by simp)]; exact beq_true hhead
       refine ⟨.slice (some ⟨b, if cap = l then o' else o' + l * k, none⟩) (hh - l) (cap - l), ?_, ?_⟩
       ·simp only [Instr.sliceAt, Sem.run_bind, run_underlying hue, Result.andThen_ok, Instr.slice, hev, hrun, run_sizeT hke, Sem.run_pure]
        by_cases hcl : cap = l
        ·simp [hcl]
        ·simp [hcl, Addr.add_lit]
       ·have hsame : ∀ (i : Nat) (e : List AV) (j : Nat) (x : AV), ((els.take hh).drop l)[i]? = some e → e[j]? = some x → μ.imm b ((if cap = l then o' else o' + l * k) + i * k' + j) = some (c (l + i) j) := by
         intro i e j y he hy
         have hi := lt_of_get? he
         simp at hi
         rw [if_neg (by omega)]
         have := h4 (l + i) e j y (cut_get he) hy
         have hne : els ≠ [] := by intro e0; rw [e0] at hi; simp at hi
         rw [← hkk hne]
         rw [show o' + l * k' + i * k' + j = o' + (l + i) * k' + j by rw [Nat.add_mul]; omega]
         exact this
        have hlen : hh - l = ((els.take hh).drop l).length := by simp; omega
        have hmem : ∀ e ∈ (els.take hh).drop l, e.length = k' := fun e he => hk' e (List.mem_of_mem_take (List.mem_of_mem_drop he))
        unfold cutS
        rcases htok with ⟨rfl, rfl⟩ | ⟨rfl, id, rfl, ht⟩
        ·exact V.sl0 (c := fun i j => c (l + i) j) hlen (by omega) hmem hsame fun i e j y he hy => h5 (l + i) e j y (cut_get he) hy
        ·simp only [show Nat.beq (id + 1) 0 = false from rfl, cond_false]
         cases hcut : Nat.beq hh els.length && Nat.beq l 0 with
         | false => exact V.sl1 (id := 0) (c := fun i j => c (l + i) j) hlen (by omega) hmem hsame (fun i e j y he hy => h5 (l + i) e j y (cut_get he) hy) (.inl rfl)
         | true =>
          simp only [Bool.and_eq_true] at hcut
          have q1 := beq_true hcut.1
          have q2 := beq_true hcut.2
          subst q2
          subst q1
          simp only [cond_true]
          have e0 : (if cap = 0 then o' else o' + 0 * k) = o' := by split <;> omega
          rw [e0, Nat.sub_zero, Nat.sub_zero]
          exact V.sl1 (id := id) (k := k') (c := c) rfl hcap hk' h4 h5 ht
      generalize hev : a.eval x = cx at hx main
      cases hx with
      | sl0 h1 h2 h3 h4 h5 => exact main _ _ _ _ _ _ _ rfl h1 h2 h3 h4 h5 (.inl ⟨rfl, rfl⟩)
      | sl1 h1 h2 h3 h4 h5 h6 => exact main _ _ _ _ _ _ _ rfl h1 h2 h3 h4 h5 (.inr ⟨rfl, _, rfl, h6⟩)
     ·cases hu
    ·rename_i id off len k
     split at hu
     ·rename_i k' l hh hk hr
      obtain ⟨hb, hu⟩ := cond_some hu
      have hu := Option.some.inj hu
      subst hu
      have := beq_true hb
      subst this
      obtain ⟨e, hue, hke⟩ := sliceOf_spec hk
      generalize hev : a.eval x = cx at hx
      cases hx with
      | rsl hrho h2 h3 =>
       rename_i cap b base sz o'
       obtain ⟨hrun, l1, l2⟩ := range_spec (P := P) hr h2 rl rh true w
       refine ⟨.slice (some ⟨b, if cap = l then o' else o' + l * k, none⟩) (hh - l) (cap - l), ?_, V.rsl hrho (by omega) ?_⟩
       ·simp only [Instr.sliceAt, Sem.run_bind, run_underlying hue, Result.andThen_ok, Instr.slice, hrun, run_sizeT hke, Sem.run_pure]
        by_cases hcl : cap = l
        ·simp [hcl]
        ·simp [hcl, Addr.add_lit]
       ·by_cases hcl : cap = l
        ·exact .inl (by omega)
        ·rw [if_neg hcl]
         rcases h3 with h3 | ⟨h3, h4⟩
         ·omega
         ·have hcapk : cap * k = l * k + (cap - l) * k := by rw [← Nat.add_mul]; congr 1; omega
          exact .inr ⟨by omega, by omega⟩
     ·cases hu
    ·rename_i id off
     unfold sliceArr at hu
     split at hu
     ·rename_i n e hue
      split at hu
      ·rename_i k l hh hk hr
       split at hu
       ·rename_i cs hg
        obtain ⟨hb, hu⟩ := cond_some hu
        have hu := Option.some.inj hu
        subst hu
        have hb := ble_true hb
        obtain ⟨B, base, sz, hrho, ok, _⟩ := R.world.cells id cs hg
        have hfit := ok.fit
        generalize hev : a.eval x = cx at hx
        cases hx with
        | ptr hrho' =>
         rw [hrho] at hrho'; cases hrho'
         obtain ⟨hrun, l1, l2⟩ := range_spec (P := P) hr (Nat.le_refl n) rl rh false w
         refine ⟨.slice (some ⟨B, if n = l then base + off else base + off + l * k, none⟩) (hh - l) (n - l), ?_, V.rsl hrho (by omega) ?_⟩
         ·simp only [Instr.sliceAt, Sem.run_bind, run_underlying hue, Result.andThen_ok, Instr.sureAddr, Sem.run_pure, hrun, run_sizeT hk]
          by_cases hcl : n = l
          ·simp [hcl]
          ·simp [hcl, Addr.add_lit]
         ·by_cases hcl : n = l
          ·exact .inl (by omega)
          ·rw [if_neg hcl]
           have hcapk : n * k = l * k + (n - l) * k := by rw [← Nat.add_mul]; congr 1; omega
           exact .inr ⟨by omega, by omega⟩
       ·cases hu
      ·cases hu
     ·cases hu
    ·split at hu
     ·rename_i k q hk hr
      have hu := Option.some.inj hu
      subst hu
      obtain ⟨e, hue, hke⟩ := sliceOf_spec hk
      obtain ⟨l, hh⟩ := q
      obtain ⟨hrun, l1, l2⟩ := range_spec (P := P) hr (Nat.le_refl 0) rl rh true w
      rw [V.sc_eq hx]
      refine ⟨.slice none 0 0, ?_, .sc rfl⟩
      have : hh = 0 := by omega
      subst this
      have : l = 0 := by omega
      subst this
      simp only [Instr.sliceAt, Sem.run_bind, run_underlying hue, Result.andThen_ok, Instr.slice, hrun, run_sizeT hke, Sem.run_pure]
      simp
     ·cases hu
    ·rename_i b
     split at hu
     ·rename_i hue
      split at hu
      ·rename_i l hh hr
       have hu := Option.some.inj hu
       subst hu
       obtain ⟨hrun, l1, l2⟩ := range_spec (P := P) hr (Nat.le_refl b.size) rl rh false w
       rw [V.sc_eq hx]
       refine ⟨.string (b.extract l hh), ?_, .sc rfl⟩
       simp [Instr.sliceAt, run_underlying hue, Instr.slice, hrun]
      ·cases hu
     ·cases hu
    ·cases hu
   ·cases h
  ·cases h
end
end Go.Ef
namespace Go.Ef
open Go
section
variable {P : Program} {C : Cfg} {E : Ent} {L : List Nat} {μ : M} {σ : St} {a : Act} {w : World}
theorem byteOf_spec {e : List AV} {b : UInt8} (h : byteOf e = some b) : ∃ n : Int, e = [.sc (.int .u8 n)] ∧ b = UInt8.ofNat n.toNat := by
 unfold byteOf at h
 split at h
 ·cases h; exact ⟨_, rfl, rfl⟩
 ·cases h
theorem push_fold : ∀ (ns : List Int) (l : List UInt8), ns.foldl (fun r n => r.push (UInt8.ofNat n.toNat)) (⟨⟨l⟩⟩ : ByteArray) = ⟨⟨l ++ ns.map fun n => UInt8.ofNat n.toNat⟩⟩
 | [], l => by simp
 | n :: ns, l => by
  have := push_fold ns (l ++ [UInt8.ofNat n.toNat])
  simp only [List.foldl_cons, List.map_cons]
  rw [show (⟨⟨l⟩⟩ : ByteArray).push (UInt8.ofNat n.toNat) = ⟨⟨l ++ [UInt8.ofNat n.toNat]⟩⟩ by simp [ByteArray.push]]
  rw [this]
  simp
theorem bytes_vals {els : List (List AV)} {bs : List UInt8} {vals : List Value} {c : Value} (H : Holds μ w c 1 els vals) (h : mapO byteOf els = some bs) : ∃ ns : List Int, vals = ns.map (Value.int .u8) ∧ bs = ns.map fun n => UInt8.ofNat n.toNat := by
 obtain ⟨h1, h2⟩ := mapO_spec h
 have hsz := H.size
 obtain ⟨f1, f2⟩ := flatten_get H.lens
 refine ⟨els.map fun e => match e with | [.sc (.int _ n)] => n | _ => 0, ?_, ?_⟩
 ·apply List.ext_getElem?
  intro i
  by_cases hi : i < els.length
  ·have he := List.getElem?_eq_getElem hi
   obtain ⟨b, hb, hbo⟩ := h2 i _ he
   obtain ⟨n, hn, rfl⟩ := byteOf_spec hbo
   have hv : vals[i]? = some (vals[i]'(by omega)) := List.getElem?_eq_getElem (by omega)
   have hfl := f2 i _ 0 he (by omega)
   rw [Nat.mul_one, Nat.add_zero, hn] at hfl
   have := V.sc_eq (H.rel i _ _ (by rw [hfl]; rfl) hv)
   rw [hv, this]
   simp only [List.getElem?_map, he, Option.map_some, hn]
  ·rw [List.getElem?_eq_none (by omega), List.getElem?_eq_none (by simp; omega)]
 ·apply List.ext_getElem?
  intro i
  by_cases hi : i < els.length
  ·have he := List.getElem?_eq_getElem hi
   obtain ⟨b, hb, hbo⟩ := h2 i _ he
   obtain ⟨n, hn, rfl⟩ := byteOf_spec hbo
   rw [hb]
   simp only [List.getElem?_map, he, Option.map_some, hn]
  ·rw [List.getElem?_eq_none (by omega), List.getElem?_eq_none (by simp; omega)]
theorem isSlice_V {x : AV} {c : Value} (h : isSlice x = true) (hv : V μ x c) : ∃ b n m, c = .slice b n m := by
 cases hv with
 | sc hs =>
  unfold isSlice at h
  split at h <;> first | (cases h; done) | skip
  ·rename_i he; cases he; exact ⟨_, _, _, rfl⟩
  ·rename_i he; cases he
  ·rename_i he; cases he
 | sl0 => exact ⟨_, _, _, rfl⟩
 | sl1 => exact ⟨_, _, _, rfl⟩
 | rsl => exact ⟨_, _, _, rfl⟩
 | _ => simp [isSlice] at h
theorem give_convert (R : Rel C E L μ σ a w) {src dst : TypeId} {x : AV} {c : Value} (hx : V μ x c) {r : Slot × St} (h : evConvert P σ src dst x = some r) : Gives P C E a w (convert src dst c) r := by
 unfold evConvert at h
 split at h
 ·rename_i e hs hd
  split at h
  ·rename_i els hels
   obtain ⟨hsl, h⟩ := cond_some h
   obtain ⟨vals, H⟩ := elems_rel R hx hels
   obtain ⟨b, n, m, rfl⟩ := isSlice_V hsl hx
   refine give_res R h fun u hu => ?_
   unfold bytesOf at hu
   split at hu
   ·rename_i he
    split at hu
    ·rename_i bs hbs
     cases hu
     obtain ⟨ns, hv, rfl⟩ := bytes_vals H hbs
     refine ⟨.string ⟨⟨ns.map fun n => UInt8.ofNat n.toNat⟩⟩, ?_, .sc rfl⟩
     rw [run_convert_bytes_string w src dst e b n m hs he hd]
     have hlen := H.len (P := P) w
     have hfirst := H.first (P := P) w (fun _ => rfl) els.length (Nat.le_refl _)
     rw [Nat.mul_one, List.take_of_length_le (by rw [H.size]; omega)] at hfirst
     have hn : n = els.length := by
      simp [Builtin.lenOf] at hlen; exact hlen
     cases b with
     | none =>
      simp [Builtin.firstCells] at hfirst
      have : ns = [] := by
       have h0 : vals = [] := by simpa using hfirst.symm
       rw [hv] at h0
       exact List.map_eq_nil_iff.1 h0
      subst this
      rfl
     | some ad =>
      have hload : (loadCells ad n).run P w = .ok (ns.map (Value.int .u8)).toArray w := by
       simp only [Builtin.firstCells, Nat.mul_one] at hfirst
       rw [hn, ← hv]; exact hfirst
      rw [run_bytesToString w ad n m ns hload]
      have := push_fold ns []
      simp only [List.nil_append] at this
      exact congrArg (fun q => Result.ok (Value.string q) w) this
    ·cases hu
   ·cases hu
  ·cases h
 ·rename_i e hs hd
  unfold toBytes at h
  split at h
  ·rename_i s he
   obtain ⟨hb, h⟩ := cond_some h
   have h := Option.some.inj h
   subst h
   rw [V.sc_eq hx]
   have hrun := run_bytes_of_string (P := P) w src dst e s hs hd he
   have hcap := grownCap_ge' w s.size 0 e
   have hrow : (bytesRow s (grownCap w s.size 0 e)).size = grownCap w s.size 0 e := by
    simp only [bytesRow, Array.size_append, Array.size_map, Array.size_replicate]
    have : s.data.size = s.size := rfl
    omega
   refine give_newO R (k := 1) (n := s.size) (cap := grownCap w s.size 0 e) (grew_drew w _) (fun e he => ?_) (by simp [byteEls]) hcap (by rw [hrow]; omega) (.inl (Nat.le_refl _)) ?_ hrun
   ·obtain ⟨q, _, rfl⟩ := List.mem_map.1 he; rfl
   ·show Begins μ _ (s.data.toList.map fun b => [AV.sc (.int .u8 b.toNat)]).flatten
    rw [byteEls_flat]
    have hds : s.data.size = s.size := rfl
    refine ⟨by rw [hrow]; simp; omega, fun i y hy => ?_⟩
    simp only [List.getElem?_map, Option.map_eq_some_iff] at hy
    obtain ⟨q, hq, rfl⟩ := hy
    refine ⟨.int .u8 q.toNat, ?_, .sc rfl⟩
    have hi : i < s.data.size := by have := lt_of_get? hq; simpa using this
    rw [bytesRow, Array.getElem?_append_left (by simpa using hi)]
    simp only [Array.getElem?_map]
    rw [← Array.getElem?_toList, hq]
    rfl
  ·cases h
 ·split at h
  ·rename_i v hv
   rw [toVal_V 0 x v hv μ _ hx]
   exact give_res R h fun u hu => scOp_spec hu μ w
  ·cases h
theorem fine_conv (R : Rel C E L μ σ a w) {o : Oper} {src dst : TypeId} {x : Operand} {r : Slot × St} (ho : o.op = .convert src dst x) (h : opConv P σ src dst x = some r) : Fine P C E a w o r := by
 unfold opConv at h
 split at h
 ·rename_i v hv
  exact (give_convert R (val_rel R hv) h).fine (by simp [execOp, ho])
 ·cases h
theorem arr1 {cs : Array Value} {x : AV} (h : [x].length = cs.size) (hv : ∀ (i : Nat) (u : AV) (q : Value), [x][i]? = some u → cs[i]? = some q → V μ u q) : ∃ c, cs = #[c] ∧ V μ x c := by
 match cs, h with
 | ⟨[c]⟩, _ => exact ⟨c, rfl, hv 0 x c rfl rfl⟩
theorem arr2 {cs : Array Value} {x y : AV} (h : [x, y].length = cs.size) (hv : ∀ (i : Nat) (u : AV) (q : Value), [x, y][i]? = some u → cs[i]? = some q → V μ u q) : ∃ c d, cs = #[c, d] ∧ V μ x c ∧ V μ y d := by
 match cs, h with
 | ⟨[c, d]⟩, _ => exact ⟨c, d, rfl, hv 0 x c rfl rfl, hv 1 y d rfl rfl⟩
theorem fine_builtin (R : Rel C E L μ σ a w) {o : Oper} {c : Call} {b : Builtin} {f : FuncId} {args : List AV} {r : Slot × St} (ho : o.op = .call c) (hc : c.callee = .builtin b) (hargs : mapO σ.val c.args.toList = some args)
  (h : evBuiltin C P σ f o.dst b c.argTypes o.type args = some r) : Fine P C E a w o r := by
 obtain ⟨h1, h2⟩ := vals_rel R hargs
 have exec : ∀ (m : Sem Value), builtin b c.argTypes o.type (c.args.map fun | .const _ => true | _ => false) (c.args.map a.eval) = (do pure (Next.value (← m))) → execOp a.eval o = (do pure (Next.value (← m))) := by
  intro m hm
  simp only [execOp, ho, resolve, hc]
  exact hm
 unfold evBuiltin at h
 split at h
 ·split at h
  ·rename_i x
   obtain ⟨q, hq, hv⟩ := arr1 h1 h2
   refine (give_res R (m := Builtin.len_ c.argTypes o.type (c.args.map a.eval)) h fun u hu => ?_).fine (exec _ rfl)
   rw [hq]
   exact give_len R hv hu
  ·cases h
 ·split at h
  ·rename_i s x
   obtain ⟨q, q', hq, hv, hv'⟩ := arr2 h1 h2
   have := give_append R (ty := o.type) hv hv' h
   rw [← hq] at this
   exact this.fine (exec _ rfl)
  ·cases h
 ·split at h
  ·rename_i s x
   obtain ⟨q, q', hq, hv, hv'⟩ := arr2 h1 h2
   have := give_copy R (ty := o.type) hv hv' h
   rw [← hq] at this
   exact this.fine (exec _ rfl)
  ·cases h
 ·exact (give_res R (m := Builtin.min_ c.argTypes o.type (c.args.map a.eval)) h fun u hu => minmax_rel h1 h2 hu).fine (exec _ rfl)
 ·exact (give_res R (m := Builtin.max_ c.argTypes o.type (c.args.map a.eval)) h fun u hu => minmax_rel h1 h2 hu).fine (exec _ rfl)
 ·cases h
end
end Go.Ef
namespace Go.Ef
open Go
def VLs (μ : M) (l : List AV) (vs : Array Value) : Prop := l.length = vs.size ∧ ∀ (i : Nat) (x : AV) (y : Value), l[i]? = some x → vs[i]? = some y → V μ x y
theorem VLs.append {μ : M} {l m : List AV} {vs ws : Array Value} (h : VLs μ l vs) (k : VLs μ m ws) : VLs μ (l ++ m) (vs ++ ws) := by
 refine ⟨by simp [h.1, k.1], fun i x y hx hy => ?_⟩
 by_cases hi : i < l.length
 ·rw [List.getElem?_append_left hi] at hx
  rw [Array.getElem?_append_left (by rw [← h.1]; exact hi)] at hy
  exact h.2 i x y hx hy
 ·rw [List.getElem?_append_right (by omega)] at hx
  rw [Array.getElem?_append_right (by rw [← h.1]; omega), ← h.1] at hy
  exact k.2 _ x y hx hy
theorem VLs.one {μ : M} {x : AV} {y : Value} (h : V μ x y) : VLs μ [x] #[y] := by
 refine ⟨rfl, fun i u v hu hv => ?_⟩
 match i with
 | 0 => simp at hu hv; subst hu; subst hv; exact h
 | i + 1 => simp at hu
def CallEnd (C : Cfg) (μ : M) (h : Heap) (w : World) (r : AV) (h' : Heap) (e : Ending) (w' : World) : Prop :=
 ∃ v μ', e = .returned v ∧ V μ' r v ∧ W C μ' h' w' ∧ Ext μ h w μ' h' w'
def CallOk (P : Program) (C : Cfg) (call : CallF) : Prop :=
 ∀ g args h r h', call g args h = some (r, h') → ∀ μ w vs, W C μ h w → VLs μ args vs → Calls P g vs w (CallEnd C μ h w r h')
theorem W.setRo {C : Cfg} {μ : M} {h : Heap} {w : World} (H : W C μ h w) : W C μ { h with ro := h.next } w :=
 { imm := H.imm, cells := H.cells, own := H.own, map := H.map, apart := H.apart, next := H.next, ro := Nat.le_refl _, pos := H.pos, zero := H.zero, fresh := H.fresh, glob := H.glob, ty := H.ty }
open Classical in
noncomputable def frozenImm (μ : M) (h : Heap) (w : World) : Nat → Nat → Option Value := fun b p =>
 match μ.imm b p with
 | some v => some v
 | none => if ∃ id, h.ro ≤ id ∧ μ.blk h id = some b then w.cell? ⟨b, p, none⟩ else none
theorem frozenImm_old {μ : M} {h : Heap} {w : World} {b p : Nat} {v : Value} (hv : μ.imm b p = some v) : frozenImm μ h w b p = some v := by simp [frozenImm, hv]
noncomputable def frozenM (μ : M) (h : Heap) (w : World) : M := { imm := frozenImm μ h w, rho := fun _ => none, own := fun _ => none }
theorem bare_frozen {μ : M} {h : Heap} {w : World} : μ.bare.le (frozenM μ h w) := ⟨fun _ _ _ hv => frozenImm_old hv, fun _ _ h => (by cases h), fun _ _ _ _ _ h => (by cases h)⟩
theorem frozen_bare {μ : M} {h : Heap} {w : World} : (frozenM μ h w).bare = frozenM μ h w := rfl
theorem plain_V : ∀ n x, plainA n x = true → ∀ {μ : M} {v : Value}, V μ x v → V μ.bare x v := by
 intro n
 induction n with
 | zero =>
  intro x hx μ v hv
  cases x with
  | sc u => cases hv with | sc hq => exact .sc hq
  | sl els tok =>
   cases tok with
   | zero => cases hv with | sl0 h1 h2 h3 h4 h5 => exact .sl0 h1 h2 h3 h4 h5
   | succ t => simp [plainA] at hx
  | _ => simp [plainA] at hx
 | succ n ih =>
  have lists : ∀ {cs : List AV} {vs : Array Value} {μ : M}, cs.all (plainA n) = true → (∀ (i : Nat) (x : AV) (y : Value), cs[i]? = some x → vs[i]? = some y → V μ x y) →
    ∀ (i : Nat) (x : AV) (y : Value), cs[i]? = some x → vs[i]? = some y → V μ.bare x y :=
   fun hc hv i x y hx hy => ih x (List.all_eq_true.1 hc _ (List.mem_of_getElem? hx)) (hv i x y hx hy)
  intro x hx μ v hv
  cases x with
  | sc u => cases hv with | sc hq => exact .sc hq
  | agg cs => simp only [plainA] at hx; cases hv with | agg h1 h2 => exact .agg h1 (lists hx h2)
  | tup cs => simp only [plainA] at hx; cases hv with | tup h1 h2 => exact .tup h1 (lists hx h2)
  | sl els tok =>
   cases tok with
   | zero => cases hv with | sl0 h1 h2 h3 h4 h5 => exact .sl0 h1 h2 h3 h4 h5
   | succ t => simp [plainA] at hx
  | ifc t u => simp only [plainA] at hx; cases hv with | ifc h1 => exact .ifc (ih u hx h1)
  | fn f p q =>
   simp only [plainA, Bool.and_eq_true] at hx
   cases hv with
   | fn h1 h2 h3 h4 => exact .fn h1 h2 (lists hx.1 h3) (lists hx.2 h4)
  | _ => simp [plainA] at hx
theorem plainEls_V {els : List (List AV)} (hp : plainEls els = true) {μ : M} {tok b o n cap : Nat} (hv : V μ (.sl els (tok + 1)) (.slice (some ⟨b, o, none⟩) n cap)) : V μ.bare (.sl els 0) (.slice (some ⟨b, o, none⟩) n cap) := by
 cases hv with
 | sl1 h1 h2 h3 h4 h5 h6 =>
  exact .sl0 h1 h2 h3 h4 fun i e j x hx hy => plain_V 6 x (List.all_eq_true.1 (List.all_eq_true.1 hp e (List.mem_of_getElem? hx)) x (List.mem_of_getElem? hy)) (μ := μ) (h5 i e j x hx hy)
theorem stripA_ok : ∀ n x y, stripA n x = some y → ∀ {μ : M} {v : Value}, V μ x v → V μ.bare y v := by
 intro n
 induction n with
 | zero =>
  intro x y hs μ v hv
  cases x with
  | sc u => simp only [stripA] at hs; cases hs; cases hv with | sc hq => exact .sc hq
  | sl els tok =>
   cases tok with
   | zero => simp only [stripA] at hs; cases hs; cases hv with | sl0 h1 h2 h3 h4 h5 => exact .sl0 h1 h2 h3 h4 h5
   | succ t => simp only [stripA] at hs; cases hs
  | _ => simp only [stripA] at hs; cases hs
 | succ n ih =>
  have lists : ∀ {l r : List AV} {vs : Array Value} {μ : M}, mapO (stripA n) l = some r → l.length = vs.size → (∀ (i : Nat) (x : AV) (y : Value), l[i]? = some x → vs[i]? = some y → V μ x y) →
    r.length = vs.size ∧ ∀ (i : Nat) (x : AV) (y : Value), r[i]? = some x → vs[i]? = some y → V μ.bare x y := by
   intro l r vs μ hm hl hv
   refine ⟨by rw [(mapO_spec hm).1, hl], fun i x y hx hy => ?_⟩
   obtain ⟨z, hz, hf⟩ := mapO_back hm i x hx
   exact ih z x hf (hv i z y hz hy)
  intro x y hs μ v hv
  cases x with
  | sc u => simp only [stripA] at hs; cases hs; cases hv with | sc hq => exact .sc hq
  | agg cs =>
   simp only [stripA, Option.map_eq_some_iff] at hs
   obtain ⟨l, hl, rfl⟩ := hs
   cases hv with
   | agg h1 h2 => obtain ⟨q1, q2⟩ := lists hl h1 h2; exact .agg q1 q2
  | tup cs =>
   simp only [stripA, Option.map_eq_some_iff] at hs
   obtain ⟨l, hl, rfl⟩ := hs
   cases hv with
   | tup h1 h2 => obtain ⟨q1, q2⟩ := lists hl h1 h2; exact .tup q1 q2
  | sl els tok =>
   cases tok with
   | zero => simp only [stripA] at hs; cases hs; cases hv with | sl0 h1 h2 h3 h4 h5 => exact .sl0 h1 h2 h3 h4 h5
   | succ t =>
    simp only [stripA] at hs
    cases hp : plainEls els with
    | true =>
     rw [hp] at hs
     cases hs
     cases hv with
     | sl1 h1 h2 h3 h4 h5 h6 => exact plainEls_V hp (.sl1 h1 h2 h3 h4 h5 h6)
    | false =>
     rw [hp] at hs
     simp only [cond_false, Option.map_eq_some_iff] at hs
     obtain ⟨l, hm, rfl⟩ := hs
     cases hv with
     | @sl1 _ _ b o m cap k _ c h1 h2 h3 h4 h5 h6 =>
      have hsp := mapO_spec hm
      refine .sl0 (k := k) (c := c) (by rw [hsp.1]; exact h1) h2 (fun e he => ?_) (fun i e j x hx hy => ?_) (fun i e j x hx hy => ?_)
      ·obtain ⟨i, hi, rfl⟩ := List.getElem_of_mem he
       obtain ⟨e0, he0, hf⟩ := mapO_back hm i _ (List.getElem?_eq_getElem hi)
       rw [(mapO_spec hf).1]; exact h3 e0 (List.mem_of_getElem? he0)
      ·obtain ⟨e0, he0, hf⟩ := mapO_back hm i e hx
       obtain ⟨x0, hx0, hf0⟩ := mapO_back hf j x hy
       exact h4 i e0 j x0 he0 hx0
      ·obtain ⟨e0, he0, hf⟩ := mapO_back hm i e hx
       obtain ⟨x0, hx0, hf0⟩ := mapO_back hf j x hy
       exact ih x0 x hf0 (μ := μ) (h5 i e0 j x0 he0 hx0)
  | fn f p q =>
   simp only [stripA] at hs
   split at hs
   ·rename_i p' q' hp hq
    cases hs
    cases hv with
    | fn h1 h2 h3 h4 =>
     obtain ⟨a1, a2⟩ := lists hp h1 h3
     obtain ⟨b1, b2⟩ := lists hq h2 h4
     exact .fn a1 b1 a2 b2
   ·cases hs
  | ifc t u =>
   simp only [stripA, Option.map_eq_some_iff] at hs
   obtain ⟨l, hl, rfl⟩ := hs
   cases hv with
   | ifc h1 => exact .ifc (ih u l hl h1)
  | _ => simp only [stripA] at hs; cases hs
theorem stripA_list {args args' : List AV} (h : mapO (stripA 8) args = some args') {μ : M} {vs : Array Value} (hv : VLs μ args vs) : VLs μ.bare args' vs := by
 refine ⟨by rw [(mapO_spec h).1, hv.1], fun i x y hx hy => ?_⟩
 obtain ⟨z, hz, hf⟩ := mapO_back h i x hx
 exact stripA_ok 8 z x hf (hv.2 i z y hz hy)
theorem strip_ok {C : Cfg} {μ : M} {h : Heap} {w : World} (H : W C μ h w) : ∀ n x y, strip n h x = some y → ∀ v, V μ x v → V (frozenM μ h w) y v := by
 intro n
 induction n with
 | zero =>
  intro x y hs v hv
  cases x with
  | sc u => simp only [strip] at hs; cases hs; cases hv with | sc hq => exact .sc hq
  | sl els tok =>
   cases tok with
   | zero =>
    simp only [strip] at hs; cases hs
    cases hv with
    | sl0 h1 h2 h3 h4 h5 => exact .sl0 h1 h2 h3 (fun i e j x hx hy => frozenImm_old (h4 i e j x hx hy)) fun i e j x hx hy => (h5 i e j x hx hy).mono bare_frozen
   | succ t => simp only [strip] at hs; cases hs
  | _ => simp only [strip] at hs; cases hs
 | succ n ih =>
  have lists : ∀ {l r : List AV} {vs : Array Value}, mapO (strip n h) l = some r → l.length = vs.size → (∀ (i : Nat) (x : AV) (y : Value), l[i]? = some x → vs[i]? = some y → V μ x y) →
    r.length = vs.size ∧ ∀ (i : Nat) (x : AV) (y : Value), r[i]? = some x → vs[i]? = some y → V (frozenM μ h w) x y := by
   intro l r vs hm hl hv
   refine ⟨by rw [(mapO_spec hm).1, hl], fun i x y hx hy => ?_⟩
   obtain ⟨z, hz, hf⟩ := mapO_back hm i x hx
   exact ih z x hf y (hv i z y hz hy)
  -- elements of a slice
  have elems : ∀ {els els' : List (List AV)} {b o m cap k : Nat} {c : Nat → Nat → Value}, mapO (mapO (strip n h)) els = some els' → m = els.length → m ≤ cap → (∀ e ∈ els, e.length = k) →
    (∀ (i : Nat) (e : List AV) (j : Nat) (x : AV), els[i]? = some e → e[j]? = some x → frozenImm μ h w b (o + i * k + j) = some (c i j)) →
    (∀ (i : Nat) (e : List AV) (j : Nat) (x : AV), els[i]? = some e → e[j]? = some x → V μ x (c i j)) → V (frozenM μ h w) (.sl els' 0) (.slice (some ⟨b, o, none⟩) m cap) := by
   intro els els' b o m cap k c hm h1 h2 h3 h4 h5
   have hsp := mapO_spec hm
   refine .sl0 (k := k) (c := c) (by rw [hsp.1]; exact h1) h2 (fun e he => ?_) (fun i e j x hx hy => ?_) (fun i e j x hx hy => ?_)
   ·obtain ⟨i, hi, rfl⟩ := List.getElem_of_mem he
    obtain ⟨e0, he0, hf⟩ := mapO_back hm i _ (List.getElem?_eq_getElem hi)
    rw [(mapO_spec hf).1]; exact h3 e0 (List.mem_of_getElem? he0)
   ·obtain ⟨e0, he0, hf⟩ := mapO_back hm i e hx
    obtain ⟨x0, hx0, hf0⟩ := mapO_back hf j x hy
    exact h4 i e0 j x0 he0 hx0
   ·obtain ⟨e0, he0, hf⟩ := mapO_back hm i e hx
    obtain ⟨x0, hx0, hf0⟩ := mapO_back hf j x hy
    rw [frozen_bare]
    exact ih x0 x hf0 _ (h5 i e0 j x0 he0 hx0)
  intro x y hs v hv
  cases x with
  | sc u => simp only [strip] at hs; cases hs; cases hv with | sc hq => exact .sc hq
  | agg cs =>
   simp only [strip, Option.map_eq_some_iff] at hs
   obtain ⟨l, hl, rfl⟩ := hs
   cases hv with
   | agg h1 h2 => obtain ⟨q1, q2⟩ := lists hl h1 h2; exact .agg q1 q2
  | tup cs =>
   simp only [strip, Option.map_eq_some_iff] at hs
   obtain ⟨l, hl, rfl⟩ := hs
   cases hv with
   | tup h1 h2 => obtain ⟨q1, q2⟩ := lists hl h1 h2; exact .tup q1 q2
  | sl els tok =>
   cases tok with
   | zero =>
    simp only [strip] at hs; cases hs
    cases hv with
    | sl0 h1 h2 h3 h4 h5 => exact .sl0 h1 h2 h3 (fun i e j x hx hy => frozenImm_old (h4 i e j x hx hy)) fun i e j x hx hy => (h5 i e j x hx hy).mono bare_frozen
   | succ t =>
    simp only [strip] at hs
    cases hp : plainEls els with
    | true =>
     rw [hp] at hs
     cases hs
     cases hv with
     | sl1 h1 h2 h3 h4 h5 h6 => exact (plainEls_V hp (.sl1 h1 h2 h3 h4 h5 h6)).mono bare_frozen
    | false =>
    rw [hp] at hs
    simp only [cond_false, Option.map_eq_some_iff] at hs
    obtain ⟨l, hl, rfl⟩ := hs
    cases hv with
    | sl1 h1 h2 h3 h4 h5 h6 => exact elems hl h1 h2 h3 (fun i e j x hx hy => frozenImm_old (h4 i e j x hx hy)) h5
  | rsl id off len k =>
   simp only [strip] at hs
   obtain ⟨hro, hs⟩ := cond_some hs
   have hro := ble_true hro
   split at hs
   ·rename_i cs hg
    split at hs
    ·rename_i cs' hst
     simp only [Option.map_eq_some_iff] at hs
     obtain ⟨l, hl, rfl⟩ := hs
     obtain ⟨s1, s2, s3⟩ := stretch_spec hst
     obtain ⟨B, base, sz, hrho, ok, hnoimm⟩ := H.cells id cs hg
     have hblk : μ.blk h id = some B := by simp [M.blk, hg, hrho]
     have hck := chunks_get k len cs' s2
     cases hv with
     | rsl hrho' h2 h3 =>
      rename_i cap b' base' sz' o
      rw [hrho] at hrho'; cases hrho'
      have hcell : ∀ (i : Nat) (e : List AV) (j : Nat) (x : AV), (chunks len k cs')[i]? = some e → e[j]? = some x → ∃ z, w.cell? ⟨B, o + i * k + j, none⟩ = some z ∧ V μ x z := by
       intro i e j x hx hy
       obtain ⟨q1, q2⟩ := hck i e hx
       have hj : j < k := q1 ▸ lt_of_get? hy
       have hi := lt_of_get? hx
       rw [chunks_length] at hi
       have hlt := idx_lt (k := k) hi hj
       rw [q2 j hj, s3 _ hlt] at hy
       obtain ⟨z, hz, hvz⟩ := ok.cell _ _ hy
       rcases h3 with h3 | ⟨h3, _⟩
       ·omega
       ·refine ⟨z, ?_, hvz⟩
        rw [h3, show base + off + i * k + j = base + (off + (i * k + j)) by omega]; exact hz
      refine elems (k := k) (c := fun i j => (w.cell? ⟨B, o + i * k + j, none⟩).getD undef) hl (chunks_length _ _ _).symm h2 (fun e he => ?_) (fun i e j x hx hy => ?_) (fun i e j x hx hy => ?_)
      ·obtain ⟨i, hi, rfl⟩ := List.getElem_of_mem he
       exact (hck i _ (List.getElem?_eq_getElem hi)).1
      ·obtain ⟨z, hz, _⟩ := hcell i e j x hx hy
       simp only [frozenImm, hnoimm]
       rw [if_pos ⟨id, hro, hblk⟩, hz]; rfl
      ·obtain ⟨z, hz, hvz⟩ := hcell i e j x hx hy
       simp only [hz, Option.getD_some]; exact hvz
    ·cases hs
   ·cases hs
  | fn f p q =>
   simp only [strip] at hs
   split at hs
   ·rename_i p' q' hp hq
    cases hs
    cases hv with
    | fn h1 h2 h3 h4 =>
     obtain ⟨a1, a2⟩ := lists hp h1 h3
     obtain ⟨b1, b2⟩ := lists hq h2 h4
     exact .fn a1 b1 a2 b2
   ·cases hs
  | ifc t u =>
   simp only [strip, Option.map_eq_some_iff] at hs
   obtain ⟨l, hl, rfl⟩ := hs
   cases hv with
   | ifc h1 => exact .ifc (ih u l hl _ h1)
  | _ => simp only [strip] at hs; cases hs
theorem pure_end {C : Cfg} {μ : M} {h : Heap} {w : World} (H : W C μ h w) {r r' : AV} {h1 : Heap} {n : Nat} (hst : strip n h1 r = some r') {e : Ending} {w' : World} (k : CallEnd C μ { h with ro := h.next } w r h1 e w') : CallEnd C μ h w r' h e w' := by
  obtain ⟨v, μ1, rfl, hv, H1, X⟩ := k
  have nolive : ∀ id, h.next ≤ id → μ.blk h id = none := by
    intro id hid
    cases hb : μ.blk h id with
    | none => rfl
    | some b => have := H.next id (blk_some hb); omega
  have hro : h1.ro = h.next := X.ro
  have keep : ∀ b, b < w.heap.size → w'.heap[b]? = w.heap[b]? := fun b hb => X.frame b hb fun id hid hq => by
    have := nolive id hid
    have hq : μ.blk h id = some b := hq
    rw [this] at hq; cases hq
  have nonew : ∀ b p, b < w.heap.size → μ.imm b p = none → frozenImm μ1 h1 w' b p = none := by
    intro b p hb hp
    have h0 : μ1.imm b p = none := by
      cases hq : μ1.imm b p with
      | none => rfl
      | some q =>
        obtain ⟨id, hid, hbl⟩ := X.imm b p hb hp (by simp [hq])
        have hbl : μ.blk h id = some b := hbl
        rw [nolive id hid] at hbl; cases hbl
    simp only [frozenImm, h0]
    rw [if_neg]
    rintro ⟨id, hid, hbl⟩
    obtain ⟨id0, q1, q2⟩ := X.came id b hbl hb
    have q1 : μ.blk h id0 = some b := q1
    rw [hro] at hid
    rcases q2 with rfl | ⟨q2, _⟩
    · rw [nolive _ hid] at q1; cases q1
    · have q2 : h.next ≤ id0 := q2
      rw [nolive _ q2] at q1; cases q1
  have le : μ.le { imm := frozenImm μ1 h1 w', rho := μ.rho, own := μ.own } := ⟨fun b o v hv => frozenImm_old (X.le.imm b o v hv), fun _ _ h => h, M.same_own fun _ => rfl⟩
  refine ⟨v, { imm := frozenImm μ1 h1 w', rho := μ.rho, own := μ.own }, rfl, (strip_ok H1 n r r' hst v hv).mono ⟨fun _ _ _ h => h, fun _ _ h => (by cases h), fun _ _ _ _ _ h => (by cases h)⟩, ?_, ?_⟩
  · exact { imm := fun b p q hq => by
              have hq2 : frozenImm μ1 h1 w' b p = some q := hq
              unfold frozenImm at hq2
              split at hq2
              · rename_i z hz; cases hq2; exact H1.imm _ _ _ hz
              · split at hq2
                · exact hq2
                · cases hq2
            cells := fun id cs hg => H.old_cells le hg (fun b hb => keep b (H.blk_lt hb)) (fun b hb p hp => nonew b p (H.blk_lt hb) hp)
            own := fun id k e _ hg => H.old_own hg rfl (fun b hb => keep b (H.blk_lt hb)) (fun b hb p hp => nonew b p (H.blk_lt hb) hp)
            map := fun id es hg => H.old_map le hg (fun b hb => keep b (H.blk_lt hb)) (fun b hb p hp => nonew b p (H.blk_lt hb) hp)
            apart := H.apart, next := H.next, ro := H.ro, pos := H.pos, zero := H.zero, fresh := H.fresh, glob := glob_mono le H.glob, ty := H.keepTy rfl (Nat.le_refl _) le fun b x hx => by rw [shape_of_heap (keep b (shape_lt hx))]; exact hx }
  · exact { le := le, os := X.os, tape := X.tape, output := X.output, size := X.size, ro := rfl, next := Nat.le_refl _, frame := fun b hb _ => keep b hb,
            came := fun id b hb _ => ⟨id, hb, .inl rfl⟩, imm := fun b p hb h0 h2 => absurd (nonew b p hb h0) h2 }
theorem heapF_get (id : Nat) : heapF.get id = none := rfl
theorem W.new {C : Cfg} {μ : M} {h : Heap} {w : World} (H : W C μ h w) : W C μ.bare heapF w where
 imm := H.imm
 cells := fun id cs h => by rw [heapF_get] at h; cases h
 own := fun id k _ _ h => by rw [heapF_get] at h; cases h
 map := fun id es h => by rw [heapF_get] at h; cases h
 apart := fun i j b h => by simp [M.blk, heapF_get] at h
 next := fun id h => absurd (heapF_get id) h
 ro := Nat.le_refl _
 pos := Nat.zero_lt_one
 zero := rfl
 fresh := fun _ _ => ⟨rfl, rfl⟩
 glob := H.glob
 ty := fun id t h => by simp [heapF, Tr.get_leaf] at h
theorem fresh_end {C : Cfg} {μ : M} {h : Heap} {w : World} (H : W C μ h w) {r r' : AV} {h1 : Heap} {n : Nat} (hst : strip n h1 r = some r') {e : Ending} {w' : World} (k : CallEnd C μ.bare heapF w r h1 e w') : CallEnd C μ h w r' h e w' := by
  obtain ⟨v, μ1, rfl, hv, H1, X⟩ := k
  have nob : ∀ id, μ.bare.blk heapF id = none := fun id => by simp [M.blk, heapF_get]
  have keep : ∀ b, b < w.heap.size → w'.heap[b]? = w.heap[b]? := fun b hb => X.frame b hb fun id _ hq => by rw [nob] at hq; cases hq
  have nonew : ∀ b p, b < w.heap.size → μ.imm b p = none → frozenImm μ1 h1 w' b p = none := by
    intro b p hb hp
    have h0 : μ1.imm b p = none := by
      cases hq : μ1.imm b p with
      | none => rfl
      | some q =>
        obtain ⟨id, hid, hbl⟩ := X.imm b p hb hp (by simp [hq])
        rw [nob] at hbl; cases hbl
    simp only [frozenImm, h0]
    rw [if_neg]
    rintro ⟨id, hid, hbl⟩
    obtain ⟨id0, q1, _⟩ := X.came id b hbl hb
    rw [nob] at q1; cases q1
  have le : μ.le { imm := frozenImm μ1 h1 w', rho := μ.rho, own := μ.own } := ⟨fun b o v hv => frozenImm_old (X.le.imm b o v hv), fun _ _ h => h, M.same_own fun _ => rfl⟩
  refine ⟨v, { imm := frozenImm μ1 h1 w', rho := μ.rho, own := μ.own }, rfl, (strip_ok H1 n r r' hst v hv).mono ⟨fun _ _ _ h => h, fun _ _ h => (by cases h), fun _ _ _ _ _ h => (by cases h)⟩, ?_, ?_⟩
  · exact { imm := fun b p q hq => by
              have hq2 : frozenImm μ1 h1 w' b p = some q := hq
              unfold frozenImm at hq2
              split at hq2
              · rename_i z hz; cases hq2; exact H1.imm _ _ _ hz
              · split at hq2
                · exact hq2
                · cases hq2
            cells := fun id cs hg => H.old_cells le hg (fun b hb => keep b (H.blk_lt hb)) (fun b hb p hp => nonew b p (H.blk_lt hb) hp)
            own := fun id k e _ hg => H.old_own hg rfl (fun b hb => keep b (H.blk_lt hb)) (fun b hb p hp => nonew b p (H.blk_lt hb) hp)
            map := fun id es hg => H.old_map le hg (fun b hb => keep b (H.blk_lt hb)) (fun b hb p hp => nonew b p (H.blk_lt hb) hp)
            apart := H.apart, next := H.next, ro := H.ro, pos := H.pos, zero := H.zero, fresh := H.fresh, glob := glob_mono le H.glob, ty := H.keepTy rfl (Nat.le_refl _) le fun b x hx => by rw [shape_of_heap (keep b (shape_lt hx))]; exact hx }
  · exact { le := le, os := X.os, tape := X.tape, output := X.output, size := X.size, ro := rfl, next := Nat.le_refl _, frame := fun b hb _ => keep b hb,
            came := fun id b hb _ => ⟨id, hb, .inl rfl⟩, imm := fun b p hb h0 h2 => absurd (nonew b p hb h0) h2 }
def Known (P : Program) (C : Cfg) (g : FuncId) (p : List AV → Heap → Option (AV × Heap)) : Prop :=
 ((∃ fn : Func, P.funcs[g]? = some fn ∧ fn.body.isSome = true) ∧
  ∀ args h r h', p args h = some (r, h') → ∀ μ w vs, W C μ h w → VLs μ args vs → Calls P g vs w (CallEnd C μ h w r h')) ∨
 ∀ args h r h', p args h = some (r, h') → ∀ μ w vs, W C μ h w → VLs μ args vs → ∃ v w', (callFunc g vs).run P w = .ok (.value v) w' ∧ CallEnd C μ h w r h' (.returned v) w'
structure Sane (P : Program) (C : Cfg) : Prop where
 plain : ∀ (g : FuncId) (fn : Func), P.funcs[g]? = some fn → fn.body.isSome = true → (fn.name == "runtime.NumGoroutine") = false
 prim : ∀ g p, C.prim g = some p → Known P C g p
def Bodied (P : Program) (call : CallF) : Prop := ∀ g args h r, call g args h = some r → ∃ fn : Func, P.funcs[g]? = some fn ∧ fn.body.isSome = true
def EnterOk (P : Program) (C : Cfg) (call : CallF) : Prop :=
 ∀ g args h r h', call g args h = some (r, h') → ∀ μ w vs, W C μ h w → VLs μ args vs →
  ((callFunc g vs).run P w = .ok (.enter g vs) w ∧ Calls P g vs w (CallEnd C μ h w r h')) ∨
  ∃ v w', (callFunc g vs).run P w = .ok (.value v) w' ∧ CallEnd C μ h w r h' (.returned v) w'
theorem enter_run {P : Program} {C : Cfg} (S : Sane P C) {g : FuncId} (h : ∃ fn : Func, P.funcs[g]? = some fn ∧ fn.body.isSome = true) (vs : Array Value) (w : World) : (callFunc g vs).run P w = .ok (.enter g vs) w := by
 obtain ⟨fn, hf, hb⟩ := h
 have hnm := S.plain g fn hf hb
 have hnone : fn.body.isNone = false := by cases hq : fn.body with
  | none => rw [hq] at hb; cases hb
  | some _ => rfl
 simp only [callFunc, Sem.run_bind, run_program, Result.andThen_ok, hf]
 simp [hnm, hnone]
theorem callP_ok {P : Program} {C : Cfg} {call : CallF} (S : Sane P C) (K : CallOk P C call) (B : Bodied P call) : EnterOk P C (callP C call) := by
 intro g args h r h' hc μ w vs H hv
 unfold callP at hc
 split at hc
 ·rename_i p hp
  rcases S.prim g p hp with ⟨hb, hk⟩ | hk
  ·exact .inl ⟨enter_run S hb vs w, hk args h r h' hc μ w vs H hv⟩
  ·exact .inr (hk args h r h' hc μ w vs H hv)
 ·cases hfr : C.fresh g with
  | true =>
   rw [hfr] at hc
   simp only [cond_true] at hc
   split at hc
   ·rename_i args' hargs
    split at hc
    ·rename_i r0 h0 hcall
     split at hc
     ·rename_i r1 hst
      cases hc
      exact .inl ⟨enter_run S (B g _ _ _ hcall) vs w, (K g args' _ r0 h0 hcall μ.bare w vs H.new (stripA_list hargs hv)).mono fun e w' k => fresh_end H hst k⟩
     ·cases hc
    ·cases hc
   ·cases hc
  | false =>
  rw [hfr] at hc
  simp only [cond_false] at hc
  cases hpure : C.pure g with
  | false => rw [hpure] at hc; exact .inl ⟨enter_run S (B g args h _ hc) vs w, K g args h r h' hc μ w vs H hv⟩
  | true =>
   rw [hpure] at hc
   simp only [cond_true] at hc
   split at hc
   ·rename_i r0 h0 hcall
    split at hc
    ·rename_i r1 hst
     cases hc
     exact .inl ⟨enter_run S (B g args _ _ hcall) vs w, (K g args _ r0 h0 hcall μ w vs H.setRo hv).mono fun e w' k => pure_end H hst k⟩
    ·cases hc
   ·cases hc
section
variable {P : Program} {C : Cfg} {E : Ent} {L : List Nat} {μ : M} {σ : St} {a : Act} {w : World}
theorem fine_enter (R : Rel C E L μ σ a w) {o : Oper} {call : CallF} (K : EnterOk P C call) {g : FuncId} {args : List AV} {vs : Array Value} (hv : VLs μ args vs) (hex : (execOp a.eval o).run P w = (callFunc g vs).run P w) {r : Slot × St} (h : back σ (call g args σ.h) = some r) : Fine P C E a w o r := by
 unfold back at h
 split at h
 ·rename_i v h' hc
  cases h
  intro next Q hn
  unfold Oper.wp
  rw [hex]
  rcases K g args σ.h v h' hc μ w vs R.world hv with ⟨h1, h2⟩ | ⟨q, w', h1, h2⟩
  ·rw [h1]
   refine h2.mono fun e w' k => ?_
   obtain ⟨q, μ', rfl, h1, h2, h3⟩ := k
   exact hn q w' ⟨L, μ', R.step h3 h2, h1⟩
  ·rw [h1]
   obtain ⟨q', μ', he, h1, h2, h3⟩ := h2
   cases he
   exact hn q w' ⟨L, μ', R.step h3 h2, h1⟩
 ·cases h
theorem fine_call (R : Rel C E L μ σ a w) {o : Oper} {c : Call} {call : CallF} {f : FuncId} (S : Sane P C) (K : CallOk P C call) (B : Bodied P call) {r : Slot × St} (ho : o.op = .call c) (h : opCall C P call f o.dst o.type c σ = some r) : Fine P C E a w o r := by
 have K' := callP_ok S K B
 unfold opCall at h
 split at h
 ·cases h
 ·rename_i args hargs
  have hal := vals_rel R hargs
  split at h
  ·rename_i b hb; exact fine_builtin R ho hb hargs h
  ·rename_i x hx
   unfold callVal at h
   split at h
   ·rename_i g first cap hval
    have hv := val_rel R hval
    generalize hev : a.eval x = cx at hv
    cases hv with
    | fn h1 h2 h3 h4 =>
     rename_i fs cs
     refine fine_enter R K' ((VLs.append ⟨h1, h3⟩ hal).append ⟨h2, h4⟩) (congrArg (fun x : Sem Next => x.run P w) ?_) h
     simp [execOp, ho, resolve, hx, hev, Deferred.ofValue, invoke]
   ·cases h
  ·rename_i x name hx
   unfold callMeth at h
   split at h
   ·rename_i t v hval
    split at h
    ·rename_i g rv hm
     have hv := val_rel R hval
     generalize hev : a.eval x = cx at hv
     cases hv with
     | ifc hvv =>
      rename_i cv
      have hmeth : rv = v ∧ ∀ (n : Nat) (w : World), (method (n + 1) t cv name).run P w = .ok (g, cv) w := by
       unfold evMethod at hm
       split at hm
       ·rename_i i hi
        split at hm
        ·rename_i m hfind
         split at hm
         ·rename_i p hp
          unfold pickFn at hm
          obtain ⟨hpath, hm⟩ := cond_some hm
          split at hm
          ·rename_i g' r' hfun
           obtain ⟨hrp, hm⟩ := cond_some hm
           cases hm
           refine ⟨rfl, fun n w => ?_⟩
           have hpl : m.path.toList = [] := by simpa using hpath
           have hrp : r' = p := by simpa using hrp
           subst hrp
           unfold isPtrT at hp
           split at hp
           ·rename_i e hu
            cases hp
            simp [method, typeInfo, hi, hfind, hpl, follow, hfun, receiverAt, run_underlying hu, Place.get]
           ·rename_i d hne hu
            cases hp
            have hu : P.underlying t = some d := hu
            simp only [method, Sem.run_bind, typeInfo, run_program, Result.andThen_ok, hi, Sem.run_pure, hfind, hpl, follow, hfun, receiverAt, run_underlying hu]
            cases d <;> first | (exact absurd rfl (hne _)) | simp [Place.get]
           ·cases hp
          ·cases hm
         ·cases hm
        ·cases hm
       ·cases hm
      obtain ⟨rfl, hrun⟩ := hmeth
      have hargs2 : VLs μ (rv :: args) (#[cv] ++ c.args.map a.eval) := VLs.append (VLs.one hvv) hal
      refine fine_enter R K' hargs2 ?_ h
      have hm1 : (method (P.types.size + Made.depth) t cv name).run P w = .ok (g, cv) w := hrun (P.types.size + 99) w
      have hext : (#[Value.iface t cv] ++ c.args.map a.eval).extract 1 (#[Value.iface t cv] ++ c.args.map a.eval).size = c.args.map a.eval := by
       apply Array.ext'
       simp
       exact List.take_of_length_le (by simp)
      have h0 : (#[Value.iface t cv] ++ c.args.map a.eval)[0]? = some (.iface t cv) := by rw [Array.getElem?_append_left (by simp)]; rfl
      simp only [execOp, ho, resolve, hx, hev, Sem.run_bind, Sem.run_pure, Result.andThen_ok, invoke, h0, hext, callMethod, run_program, hm1]
    ·cases h
   ·cases h
end
end Go.Ef
namespace Go.Ef
open Go
section
variable {P : Program} {C : Cfg} {E : Ent} {L : List Nat} {μ : M} {σ : St} {a : Act} {w : World}
theorem fine_op (R : Rel C E L μ σ a w) {o : Oper} {call : CallF} {f : FuncId} (S : Sane P C) (K : CallOk P C call) (B : Bodied P call) {r : Slot × St} (h : evOp C P call f o σ = some r) : Fine P C E a w o r := by
 unfold evOp at h
 split at h <;> rename_i ho
 ·exact fine_move R (.inl ho) h
 ·exact fine_move R (.inr ho) h
 ·exact fine_pick R ho h
 ·exact fine_alloc R ho h
 ·exact fine_box R ho h
 ·exact fine_build R ho h
 ·exact fine_buildSlice R ho h
 ·exact fine_load R ho h
 ·exact fine_store R ho h
 ·exact fine_nil R ho h
 ·exact fine_bin R ho h
 ·exact fine_un R ho h
 ·exact fine_conv R ho h
 ·exact fine_iface R ho h
 ·exact fine_func R ho h
 ·exact fine_makeSlice R ho h
 ·exact fine_slice R ho h
 ·exact fine_fieldAddr R ho h
 ·exact fine_field R ho h
 ·exact fine_indexAddr R ho h
 ·exact fine_index R ho h
 ·exact fine_assert R ho h
 ·exact fine_extract R ho h
 ·exact fine_call R S K B ho h
 ·cases h
theorem wanted_rel (R : Rel C E L μ σ a w) {ops : Array Oper} {o : Oper} {b : Bool} (h : wantedA ops o σ = some b) : Region.wanted o (yielded ops a.tmps) = b := by
 unfold wantedA at h
 unfold Region.wanted
 split at h
 ·rename_i hg; cases h; rw [hg]
 ·rename_i j want hg
  rw [hg]
  simp only []
  split at h
  ·rename_i oj hoj
   split at h
   ·rename_i t ht
    have hslot : ∀ s, σ.slot (.tmp t) = some s → t < a.tmps.size ∧ SlotRel L μ s (a.tmps.getD t undef) := by
     intro s hs
     refine ⟨?_, slot_rel R hs⟩
     simp only [St.slot] at hs
     cases hb : Nat.ble σ.n t with
     | true => simp [hb] at hs
     | false =>
      rw [← R.n]
      exact Nat.lt_of_not_ge fun hle => by simp [Nat.ble_eq_true_of_le hle] at hb
    have hy : ∀ v, t < a.tmps.size → a.tmps.getD t undef = v → yielded ops a.tmps j = (match some v with | some (.bool b) => some b | _ => none) := by
     intro v hlt hv
     unfold yielded
     rw [hoj]
     simp only [Option.bind_some, ht]
     rw [Array.getD_eq_getD_getElem?, Array.getElem?_eq_getElem hlt] at hv
     simp only [Option.getD_some] at hv
     rw [Array.getElem?_eq_getElem hlt, hv]
     cases v <;> rfl
    split at h
    ·rename_i b' hs
     cases h
     obtain ⟨h1, h2⟩ := hslot _ hs
     rw [hy _ h1 (V.sc_eq h2)]
     cases b' <;> cases want <;> rfl
    ·rename_i q hs
     cases h
     obtain ⟨h1, h2⟩ := hslot _ hs
     rw [hy _ h1 (V.sc_eq h2)]
     rfl
    ·cases h
   ·cases h
  ·cases h
theorem step_ok (R : Rel C E L μ σ a w) {ops : Array Oper} {i : Nat} {o : Oper} {call : CallF} {f : FuncId} (S : Sane P C) (K : CallOk P C call) (B : Bodied P call) {σ' : St} (hi : ops[i]? = some o) (h : evStep C P call f ops o σ = some σ')
  {Q : Exit → Act → World → Prop} {k : Act → World → Prop} (hk : ∀ L' μ' a' w', Rel C E L' μ' σ' a' w' → k a' w') : wpOp P ops Q i k a w := by
 unfold wpOp
 rw [hi]
 simp only []
 unfold evStep at h
 split at h
 ·rename_i hw
  rw [if_pos (wanted_rel R hw)]
  split at h
  ·rename_i s τ hop
   refine .inl (fine_op R S K B hop k Q fun c w' hout => ?_)
   obtain ⟨L', μ', R', hs⟩ := hout
   exact hk L' μ' _ _ (put_rel R' hs h)
  ·cases h
 ·rename_i hw
  rw [if_neg (by rw [wanted_rel R hw]; simp)]
  exact hk L μ _ _ (put_rel R (s := .v (.sc undef)) (v := undef) (V.sc rfl) h)
 ·cases h
theorem evOps_nil {call : CallF} {f : FuncId} {ops : Array Oper} (σ : St) : evOps C P call f ops [] σ = some σ := rfl
theorem evOps_cons {call : CallF} {f : FuncId} {ops : Array Oper} (o : Oper) (l : List Oper) (σ : St) : evOps C P call f ops (o :: l) σ = thenO (evStep C P call f ops o σ) (evOps C P call f ops l) := rfl
theorem thenO_some {α β : Type} {x : Option α} {k : α → Option β} {y : β} (h : thenO x k = some y) : ∃ z, x = some z ∧ k z = some y := by
 cases x with
 | none => cases h
 | some z => exact ⟨z, rfl, h⟩
theorem ops_ok {ops : Array Oper} {call : CallF} {f : FuncId} (S : Sane P C) (K : CallOk P C call) (B : Bodied P call) {Q : Exit → Act → World → Prop} : ∀ (l : List Oper) (idx : List Nat) (L : List Nat) (μ : M) (σ σ' : St) (a : Act) (w : World),
  idx.length = l.length → (∀ (j i : Nat) (o : Oper), idx[j]? = some i → l[j]? = some o → ops[i]? = some o) → Rel C E L μ σ a w → evOps C P call f ops l σ = some σ' → (∀ L' μ' a' w', Rel C E L' μ' σ' a' w' → Q .normal a' w') → wpOps P ops Q idx a w := by
 intro l
 induction l with
 | nil =>
  intro idx L μ σ σ' a w hl _ R h hq
  have : idx = [] := List.eq_nil_of_length_eq_zero (by simpa using hl)
  subst this
  rw [evOps_nil] at h; cases h
  exact hq L μ a w R
 | cons o l ih =>
  intro idx L μ σ σ' a w hl hg R h hq
  cases idx with
  | nil => simp at hl
  | cons i idx =>
   rw [evOps_cons] at h
   obtain ⟨τ, h1, h2⟩ := thenO_some h
   rw [wpOps_cons]
   refine step_ok R S K B (hg 0 i o rfl rfl) h1 fun L' μ' a' w' R' => ?_
   exact ih idx L' μ' τ σ' a' w' (by simpa using hl) (fun j i o hj ho => hg (j + 1) i o (by simpa using hj) (by simpa using ho)) R' h2 hq
theorem region_ok (R : Rel C E L μ σ a w) {ops : Array Oper} {id : Nat} {call : CallF} {f : FuncId} (S : Sane P C) (K : CallOk P C call) (B : Bodied P call) {σ' : St} (h : evOps C P call f ops ops.toList σ = some σ')
  {Q : Exit → Act → World → Prop} (hq : ∀ L' μ' a' w', Rel C E L' μ' σ' a' w' → Q .normal a' w') : (Code.region id ops false).wp P Q a w := by
 refine wp_region (ops_ok S K B ops.toList (List.range ops.size) L μ σ σ' a w (by simp) (fun j i o hj ho => ?_) R h hq)
 have := lt_of_get? hj
 simp at this
 simp [this] at hj
 subst hj
 simpa using ho
def resF (tmps : Array Value) (r : ResultVar) : Sem Value :=
 match r with
 | .tmp t => pure (tmps.getD t undef)
 | .cell x t => do loadVar t (← asAddr (tmps.getD x undef))
theorem results_eq (fn : Func) (tmps : Array Value) : results fn tmps = (do let vs ← fn.results.mapM (resF tmps); pure (if h : vs.size = 1 then vs[0] else .tuple vs)) := rfl
theorem results_ok (R : Rel C E L μ σ a w) : ∀ {rs : List ResultVar} {l : List AV}, evResults C P σ rs = some l →
  ∃ vs : List Value, (rs.mapM (resF a.tmps)).run P w = .ok vs w ∧ VLs μ l ⟨vs⟩ := by
 intro rs
 induction rs with
 | nil => intro l h; simp only [evResults] at h; cases h; exact ⟨[], by simp, rfl, fun i x y hx => by simp at hx⟩
 | cons r rs ih =>
  intro l h
  cases r with
  | tmp t =>
   simp only [evResults] at h
   split at h
   ·rename_i v l' hv hl
    cases h
    obtain ⟨vs, h1, h2⟩ := ih hl
    refine ⟨a.tmps.getD t undef :: vs, by simp only [List.mapM_cons, resF, Sem.run_bind, Sem.run_pure, Result.andThen_ok, h1], ?_⟩
    have hv' : V μ v (a.tmps.getD t undef) := val_rel R hv
    have := VLs.append (VLs.one hv') h2
    simp only [VLs, List.cons_append, List.nil_append] at this ⊢
    simpa using this
   ·cases h
  | cell x t =>
   simp only [evResults] at h
   split at h
   ·rename_i s l' hs hl
    split at h
    ·rename_i v hv
     cases h
     obtain ⟨vs, h1, h2⟩ := ih hl
     obtain ⟨y, hy, hvy⟩ := load_rel (P := P) R (slot_rel R hs) hv
     have hy2 : ((do loadVar t (← asAddr (a.tmps.getD x undef))) : Sem Value).run P w = .ok y w := by
      have hev : a.eval (.tmp x) = a.tmps.getD x undef := rfl
      rw [hev] at hy
      generalize a.tmps.getD x undef = q at hy
      cases q <;> simp [Instr.loadAt, Instr.sureAddr] at hy
      rename_i p
      cases p <;> simp at hy
      simpa [asAddr] using hy
     have hy3 : (resF a.tmps (.cell x t)).run P w = .ok y w := hy2
     refine ⟨y :: vs, by simp only [List.mapM_cons, Sem.run_bind, hy3, Result.andThen_ok, h1, Sem.run_pure], ?_⟩
     have := VLs.append (VLs.one hvy) h2
     simpa [VLs] using this
    ·cases h
   ·cases h
theorem pack_ok (R : Rel C E L μ σ a w) {fn : Func} {r : AV} {h' : Heap} (h : packR σ (evResults C P σ fn.results.toList) = some (r, h')) : ∃ v, (results fn a.tmps).run P w = .ok v w ∧ V μ r v ∧ h' = σ.h := by
 cases hl : evResults C P σ fn.results.toList with
 | none => rw [hl] at h; cases h
 | some l =>
  rw [hl] at h
  obtain ⟨vs, h1, h2, h3⟩ := results_ok (P := P) R hl
  have hrun : (results fn a.tmps).run P w = .ok (if h : (⟨vs⟩ : Array Value).size = 1 then (⟨vs⟩ : Array Value)[0] else .tuple ⟨vs⟩) w := by
   rw [results_eq]
   simp only [Array.mapM_eq_mapM_toList, Sem.run_bind, Sem.run_map, h1, Result.andThen_ok, Sem.run_pure]
  refine ⟨_, hrun, ?_⟩
  clear hrun h1
  match l, vs, h2, h3, h with
  | [], [], _, _, h => simp only [packR] at h; cases h; exact ⟨.sc rfl, rfl⟩
  | [x], [q], _, h3, h => simp only [packR] at h; cases h; exact ⟨h3 0 _ _ rfl rfl, rfl⟩
  | x :: y :: l, p :: q :: vs, h2, h3, h => simp only [packR] at h; cases h; exact ⟨.tup h2 h3, rfl⟩
end
end Go.Ef
namespace Go.Ef
open Go
theorem Tr.path_fuel {α : Type} (x : α) : ∀ f g n, n < f → n < g → Tr.path x f n = Tr.path x g n := by
 intro f
 induction f with
 | zero => intro g n h; omega
 | succ f ih =>
  intro g n h1 h2
  cases g with
  | zero => omega
  | succ g =>
   rw [Tr.path_succ, Tr.path_succ]
   cases n with
   | zero => rfl
   | succ n => simp only []; rw [ih g (n / 2) (by omega) (by omega)]
theorem Tr.set_leaf {α : Type} (x : α) (n : Nat) :
  (Tr.leaf : Tr α).set n x = match n with | 0 => .node .leaf (some x) .leaf | m + 1 => if m % 2 = 0 then .node ((Tr.leaf : Tr α).set (m / 2) x) none .leaf else .node .leaf none ((Tr.leaf : Tr α).set (m / 2) x) := by
 show Tr.path x (n + 1) n = _
 rw [Tr.path_succ]
 cases n with
 | zero => rfl
 | succ m =>
  simp only []
  show (if m % 2 = 0 then (Tr.path x (m + 1) (m / 2)).node none leaf else leaf.node none (Tr.path x (m + 1) (m / 2))) = if m % 2 = 0 then (Tr.path x (m / 2 + 1) (m / 2)).node none leaf else leaf.node none (Tr.path x (m / 2 + 1) (m / 2))
  rw [Tr.path_fuel x (m + 1) (m / 2 + 1) (m / 2) (by omega) (by omega)]
theorem Tr.set_node_comm {α : Type} {x y : α} {l r : Tr α} {v : Option α} (hl : ∀ m n, m ≠ n → (l.set m x).set n y = (l.set n y).set m x) (hr : ∀ m n, m ≠ n → (r.set m x).set n y = (r.set n y).set m x) (m n : Nat) (h : m ≠ n) :
  ((Tr.node l v r).set m x).set n y = ((Tr.node l v r).set n y).set m x := by
 cases m with
 | zero =>
  cases n with
  | zero => exact absurd rfl h
  | succ n =>
   simp only [Tr.set_node]
   by_cases e : n % 2 = 0 <;> simp [e, Tr.set_node]
 | succ m =>
  cases n with
  | zero =>
   simp only [Tr.set_node]
   by_cases e : m % 2 = 0 <;> simp [e, Tr.set_node]
  | succ n =>
   simp only [Tr.set_node]
   by_cases e : m % 2 = 0 <;> by_cases e' : n % 2 = 0 <;> simp only [e, e', if_true, if_false, Tr.set_node]
   ·rw [hl (m / 2) (n / 2) (by omega)]
   ·rw [hr (m / 2) (n / 2) (by omega)]
theorem Tr.set_comm {α : Type} (x y : α) : ∀ (t : Tr α) m n, m ≠ n → (t.set m x).set n y = (t.set n y).set m x := by
 intro t
 induction t with
 | leaf =>
  have key : ∀ k m n, m + n < k → m ≠ n → ((Tr.leaf : Tr α).set m x).set n y = ((Tr.leaf : Tr α).set n y).set m x := by
   intro k
   induction k with
   | zero => intro m n h; omega
   | succ k ih =>
    intro m n hk h
    cases m with
    | zero =>
     cases n with
     | zero => exact absurd rfl h
     | succ n =>
      rw [Tr.set_leaf x, Tr.set_leaf y]
      simp only [Tr.set_node]
      by_cases e : n % 2 = 0 <;> simp [e, Tr.set_node]
    | succ m =>
     cases n with
     | zero =>
      rw [Tr.set_leaf x, Tr.set_leaf y]
      simp only []
      by_cases e : m % 2 = 0 <;> simp [e, Tr.set_node]
     | succ n =>
      rw [Tr.set_leaf x, Tr.set_leaf y]
      simp only []
      by_cases e : m % 2 = 0 <;> by_cases e' : n % 2 = 0 <;> simp only [e, e', if_true, if_false, Tr.set_node]
      ·rw [ih (m / 2) (n / 2) (by omega) (by omega)]
      ·rw [ih (m / 2) (n / 2) (by omega) (by omega)]
  intro m n h
  exact key (m + n + 1) m n (by omega) h
 | node l v r ihl ihr => exact Tr.set_node_comm ihl ihr
inductive Cls where
 | p | l | q | c | s
 deriving DecidableEq
def clsBuiltin : Builtin → Cls
 | .min | .max => .p
 | .len => .q
 | .append | .copy => .c
 | _ => .s
def clsCall (C : Cfg) (c : Call) : Cls :=
 match c.callee with
 | .builtin b => clsBuiltin b
 | .value (.func g) => bif (C.prim g).isNone && (C.fresh g || C.pure g) then .q else .c
 | _ => .c
def clsOf (C : Cfg) (P : Program) (f : FuncId) (o : Oper) : Cls :=
 match o.op with
 | .move _ | .assign _ | .pick .. | .binOp .. | .unOp .. | .makeInterface .. | .makeFunc .. | .field .. | .fieldAddr .. | .extract .. | .nilCheck _ | .index .. | .typeAssert .. | .build .. | .indexAddr .. => .p
 | .load .. => bif C.is f o.dst 3 then .l else .q
 | .slice t .. => match P.underlying t with
  | some (.array _ _) => .q
  | _ => .p
 | .convert _ d _ => match elemT P d with
  | some _ => .c
  | none => .q
 | .call c => clsCall C c
 | .buildSlice .. | .makeSlice .. => .c
 | _ => .s
def clash : Cls → Cls → Bool
 | .p, _ | _, .p => false
 | .l, .l | .l, .q | .q, .l | .q, .q => false
 | .l, .c | .c, .l => false
 | _, _ => true
def reads (ops : Array Oper) (o : Oper) : List Nat :=
 (o.op.operands.toList.filterMap fun | .tmp t => some t | _ => none) ++
 (match o.guard with
  | some (g, _) => match ops[g]? with
   | some og => og.dst.toList
   | none => []
  | none => [])
def meets (ops : Array Oper) (x y : Oper) : Bool :=
 match x.dst with
 | some d => (reads ops y).any (Nat.beq d) || (match y.dst with | some e => Nat.beq d e | none => false)
 | none => false
def apartOps (C : Cfg) (P : Program) (f : FuncId) (ops : Array Oper) (x y : Oper) : Bool :=
 !meets ops x y && !meets ops y x && !clash (clsOf C P f x) (clsOf C P f y)
def maskOf (acc : List Nat) (o : Oper) : Nat :=
 o.after.toList.foldl (fun s e => bif Region.binds .any e then Nat.lor (Nat.lor s (Nat.pow 2 e.on)) ((acc[e.on]?).getD 0) else s) 0
def masks : List Oper → List Nat → List Nat
 | [], acc => acc
 | o :: r, acc => masks r (acc ++ [maskOf acc o])
def rowOk (C : Cfg) (P : Program) (f : FuncId) (ops : Array Oper) (y : Oper) (m : Nat) : List Oper → Nat → Bool
 | [], _ => true
 | x :: r, j => (Nat.testBit m j || apartOps C P f ops x y) && rowOk C P f ops y m r (j + 1)
def rowsOk (C : Cfg) (P : Program) (f : FuncId) (ops : Array Oper) : List Oper → List Nat → Nat → Bool
 | y :: r, m :: ms, i => rowOk C P f ops y m (ops.toList.take i) 0 && y.after.all (fun e => !Region.binds .any e || Nat.blt e.on i) && rowsOk C P f ops r ms (i + 1)
 | [], _, _ => true
 | _, _, _ => false
def regOk (C : Cfg) (P : Program) (f : FuncId) (ops : Array Oper) : Bool := rowsOk C P f ops ops.toList (masks ops.toList []) 0
def codeOk (C : Cfg) (P : Program) (f : FuncId) : Code → Bool
 | .region id ops draw => !draw || C.bad f id || regOk C P f ops
 | .seq a b => codeOk C P f a && codeOk C P f b
 | .cond _ a b => codeOk C P f a && codeOk C P f b
 | .block _ b => codeOk C P f b
 | .loop b => codeOk C P f b
 | .scope b => codeOk C P f b
 | _ => true
end Go.Ef
namespace Go.Ef
open Go
def St.wt (σ : St) (t : Tr Slot) : St := { σ with tm := t }
def mapR (t : Tr Slot) (r : Slot × St) : Slot × St := (r.1, r.2.wt t)
def Alike (xs : List Operand) (σ : St) (t : Tr Slot) : Prop := ∀ x ∈ xs, (σ.wt t).slot x = σ.slot x
theorem Alike.val {xs : List Operand} {σ : St} {t : Tr Slot} (h : Alike xs σ t) {x : Operand} (hx : x ∈ xs) : (σ.wt t).val x = σ.val x := by
 unfold St.val; rw [h x hx]
theorem mapO_congr {α β : Type} {f g : α → Option β} : ∀ {l : List α}, (∀ x ∈ l, f x = g x) → mapO f l = mapO g l := by
 intro l
 induction l with
 | nil => intro _; rfl
 | cons x l ih => intro h; rw [mapO_cons, mapO_cons, h x (by simp), ih fun y hy => h y (by simp [hy])]
section
variable {C : Cfg} {P : Program} {σ : St} {t : Tr Slot}
theorem resV_wt (v : Option AV) : resV (σ.wt t) v = (resV σ v).map (mapR t) := by cases v <;> rfl
theorem move_wt {x : Operand} (h : (σ.wt t).slot x = σ.slot x) : opMove (σ.wt t) x = (opMove σ x).map (mapR t) := by
 unfold opMove; rw [h]; cases σ.slot x <;> rfl
theorem alloc_wt {f : FuncId} {d : Option Nat} {e : TypeId} {cs : List AV} : (σ.wt t).alloc C f d e cs = mapR t (σ.alloc C f d e cs) := by
 unfold St.alloc; cases C.is f d 1 <;> rfl
theorem newSlice_wt {f : FuncId} {d : Option Nat} {k e : Nat} {els : List (List AV)} : (σ.wt t).newSlice C f d k e els = ((σ.newSlice C f d k e els).1, (σ.newSlice C f d k e els).2.wt t) := by
 unfold St.newSlice; cases C.is f d 1 <;> rfl
theorem write_wt {new : List AV} {s : Slot} : (σ.wt t).write new s = (σ.write new s).map fun σ' => σ'.wt t := by
 cases s with
 | unk => rfl
 | lp k off =>
  simp only [St.write]
  show (match getI k σ.loc with | some (.cells cs) => _ | _ => _) = _
  cases getI k σ.loc with
  | none => rfl
  | some o =>
   cases o with
   | iter _ _ => rfl
   | cells cs =>
    simp only []
    cases splice off new cs with
    | none => rfl
    | some cs' => simp only []; cases new.all AV.one <;> rfl
 | v av =>
  cases av <;> try rfl
  rename_i id off
  simp only [St.write]
  show (match σ.h.get id with | some (.cells cs) => _ | _ => _) = _
  cases σ.h.get id with
  | none => rfl
  | some o =>
   cases o <;> try rfl
   rename_i cs
   simp only []
   cases splice off new cs with
   | none => rfl
   | some cs' =>
    simp only []
    cases new.all AV.one
    ·rfl
    ·simp only [cond_true]
     show (match σ.h.put id (.cells cs') with | some h => _ | none => _) = _
     cases σ.h.put id (.cells cs') <;> rfl
theorem elems_wt {k : Nat} {x : AV} : (σ.wt t).elems k x = σ.elems k x := rfl
theorem load_wt {ty : TypeId} {s : Slot} : (σ.wt t).load C P ty s = σ.load C P ty s := by cases s <;> rfl
theorem parts_wt : ∀ {l : List (Nat × Operand)}, (∀ p ∈ l, (σ.wt t).slot p.2 = σ.slot p.2) → evParts (σ.wt t) l = evParts σ l := by
 intro l
 induction l with
 | nil => intro _; rfl
 | cons p l ih =>
  intro h
  obtain ⟨i, x⟩ := p
  simp only [evParts]
  rw [ih fun q hq => h q (by simp [hq])]
  have : (σ.wt t).val x = σ.val x := by unfold St.val; rw [h (i, x) (by simp)]
  rw [this]
theorem optVal_wt {x : Option Operand} (h : ∀ y, x = some y → (σ.wt t).slot y = σ.slot y) : optVal (σ.wt t) x = optVal σ x := by
 cases x with
 | none => rfl
 | some y =>
  simp only [optVal]
  have : (σ.wt t).val y = σ.val y := by unfold St.val; rw [h y rfl]
  rw [this]
theorem appendNil_wt {f : FuncId} {d : Option Nat} {e : TypeId} {i : TypeInfo} {new : List (List AV)} : appendNil C (σ.wt t) f d e i new = (appendNil C σ f d e i new).map (mapR t) := by
 unfold appendNil
 cases fits new.length i.bytes
 ·rfl
 ·simp only [cond_true, newSlice_wt]; rfl
theorem appendO_wt {e : TypeId} {i : TypeInfo} {els new : List (List AV)} {tok : Nat} : appendO (σ.wt t) e i els tok new = (appendO σ e i els tok new).map (mapR t) := by
 unfold appendO
 cases allLen i.size els && fits (els.length + new.length) i.bytes
 ·rfl
 ·simp only [cond_true]
  cases tok with
  | zero => rfl
  | succ id =>
   simp only []
   show (match σ.h.get id with | some (.own k e' n) => _ | _ => _) = _
   cases σ.h.get id with
   | none => rfl
   | some o =>
    cases o <;> try rfl
    rename_i k e' n
    simp only []
    cases (Nat.beq k i.size && Nat.beq e' e) && Nat.beq els.length n
    ·rfl
    ·simp only [cond_true]
     show (match σ.h.put id (.own k e (n + new.length)) with | some h => _ | none => _) = _
     cases σ.h.put id (.own k e (n + new.length)) <;> rfl
theorem appendR_wt {i : TypeInfo} {id off len k : Nat} {new : List (List AV)} : appendR (σ.wt t) i id off len k new = (appendR σ i id off len k new).map (mapR t) := by
 unfold appendR
 cases Nat.beq k i.size && fits (len + new.length) i.bytes
 ·rfl
 ·simp only [cond_true]
  show (match σ.h.get id with | some (.cells cs) => _ | _ => _) = _
  cases σ.h.get id with
  | none => rfl
  | some o =>
   cases o <;> try rfl
   rename_i cs
   simp only []
   show (match stretch off (len * k) cs, σ.h.put id .dead with | some old, some h => _ | _, _ => _) = _
   cases stretch off (len * k) cs <;> cases σ.h.put id .dead <;> rfl
theorem appendS_wt {f : FuncId} {d : Option Nat} {e : TypeId} {i : TypeInfo} {s : AV} {new : List (List AV)} : appendS C (σ.wt t) f d e i s new = (appendS C σ f d e i s new).map (mapR t) := by
 unfold appendS
 split
 ·cases new.isEmpty
  ·exact appendNil_wt
  ·rfl
 ·cases new.isEmpty
  ·exact appendO_wt
  ·rfl
 ·cases new.isEmpty
  ·exact appendR_wt
  ·rfl
 ·rfl
theorem evAppend_wt {f : FuncId} {d : Option Nat} {types : Array TypeId} {s x : AV} : evAppend C P (σ.wt t) f d types s x = (evAppend C P σ f d types s x).map (mapR t) := by
 unfold evAppend
 split
 ·rename_i u v _ _
  cases isRowT P v
  ·rfl
  ·simp only [cond_true]
   cases elemT P u with
   | none => rfl
   | some e =>
    simp only []
    cases P.info? e with
    | none => rfl
    | some i =>
     simp only []
     cases Nat.beq i.size 0
     ·simp only [cond_false, elems_wt]
      cases σ.elems i.size x with
      | none => rfl
      | some new =>
       simp only []
       cases new.all (fun e => e.all AV.one) && (zeroA P e).any (fun z => Nat.beq z.cells.length i.size)
       ·rfl
       ·exact appendS_wt
     ·rfl
 ·rfl
theorem copyR_wt {k : Nat} {dst : AV} {els : List (List AV)} : copyR (σ.wt t) k dst els = (copyR σ k dst els).map (mapR t) := by
 unfold copyR
 cases els.isEmpty
 ·simp only [cond_false]
  cases dst <;> try rfl
  rename_i id off len k'
  simp only []
  cases Nat.beq k k'
  ·rfl
  ·simp only [cond_true, write_wt]
   cases σ.write els.flatten (.v (.ptr id off)) <;> rfl
 ·rfl
theorem evCopy_wt {types : Array TypeId} {dst src : AV} : evCopy P (σ.wt t) types dst src = (evCopy P σ types dst src).map (mapR t) := by
 unfold evCopy
 cases types[0]? with
 | none => rfl
 | some u =>
  simp only []
  cases elemT P u with
  | none => rfl
  | some e =>
   simp only []
   cases sizeT P e with
   | none => rfl
   | some k =>
    simp only []
    cases Nat.beq k 0
    ·simp only [cond_false, elems_wt]
     cases σ.elems k src <;> cases lenA dst <;> try rfl
     simp only []
     cases isSlice dst
     ·rfl
     ·exact copyR_wt
    ·rfl
theorem evLen_wt {types : Array TypeId} {ty : TypeId} {x : AV} : evLen P (σ.wt t) types ty x = evLen P σ types ty x := by cases x <;> rfl
theorem evBuiltin_wt {f : FuncId} {d : Option Nat} {b : Builtin} {types : Array TypeId} {ty : TypeId} {args : List AV} : evBuiltin C P (σ.wt t) f d b types ty args = (evBuiltin C P σ f d b types ty args).map (mapR t) := by
 unfold evBuiltin
 split
 ·split
  ·rw [evLen_wt]; exact resV_wt _
  ·rfl
 ·split
  ·exact evAppend_wt
  ·rfl
 ·split
  ·exact evCopy_wt
  ·rfl
 ·exact resV_wt _
 ·exact resV_wt _
 ·rfl
theorem back_wt (r : Option (AV × Heap)) : back (σ.wt t) r = (back σ r).map (mapR t) := by
 cases r with
 | none => rfl
 | some p => obtain ⟨v, h⟩ := p; rfl
theorem toBytes_wt {e : TypeId} {x : AV} : toBytes P (σ.wt t) e x = (toBytes P σ e x).map (mapR t) := by
 unfold toBytes
 split
 ·rename_i s _
  cases Nat.ble s.size maxRoom <;> rfl
 ·rfl
theorem evConvert_wt {src dst : TypeId} {x : AV} : evConvert P (σ.wt t) src dst x = (evConvert P σ src dst x).map (mapR t) := by
 unfold evConvert
 split
 ·simp only [elems_wt]
  cases σ.elems 1 x with
  | none => rfl
  | some els =>
   simp only []
   cases isSlice x
   ·rfl
   ·exact resV_wt _
 ·exact toBytes_wt
 ·cases toVal 0 x with
  | none => rfl
  | some v => exact resV_wt _
theorem evSlice_wt {u : TypeId} {s : AV} {lo hi : Option AV} : evSlice P (σ.wt t) u s lo hi = evSlice P σ u s lo hi := by cases s <;> rfl
theorem evOp_wt {call : CallF} {f : FuncId} {o : Oper} (h : Alike o.op.operands.toList σ t) : evOp C P call f o (σ.wt t) = (evOp C P call f o σ).map (mapR t) := by
 have H := h
 unfold evOp
 split <;> rename_i ho <;> try rw [ho] at h
 ·exact move_wt (h _ (by simp [Op.operands]))
 ·exact move_wt (h _ (by simp [Op.operands]))
 ·rename_i c a b
  unfold opPick
  rw [h.val (x := c) (by simp [Op.operands])]
  split
  ·rename_i q _
   cases q
   ·exact move_wt (h _ (by simp [Op.operands]))
   ·exact move_wt (h _ (by simp [Op.operands]))
  ·rfl
 ·unfold opAlloc
  split
  ·rw [alloc_wt]; rfl
  ·rfl
 ·rename_i e x
  unfold opBox
  rw [h.val (x := x) (by simp [Op.operands])]
  cases σ.val x with
  | none => rfl
  | some v => simp only [alloc_wt]; rfl
 ·rename_i u parts
  unfold opBuild
  rw [parts_wt (fun p hp => h p.2 (by simp only [Op.operands]; exact List.mem_map.2 ⟨p, hp, rfl⟩))]
  cases evParts σ parts.toList with
  | none => rfl
  | some l => exact resV_wt _
 ·rename_i u len parts
  unfold opBuildSlice
  rw [parts_wt (fun p hp => h p.2 (by simp only [Op.operands]; exact List.mem_map.2 ⟨p, hp, rfl⟩))]
  cases evParts σ parts.toList with
  | none => rfl
  | some l =>
   simp only []
   cases elemT P u with
   | none => rfl
   | some e =>
    simp only []
    cases sizeT P e <;> cases zeroA P e <;> try rfl
    rename_i k z
    simp only []
    cases Nat.ble (len * k) 16777216 && Nat.beq z.cells.length k && Nat.ble 1 k
    ·rfl
    ·simp only [cond_true]
     cases fillA (fun i => some (i * k, k)) (List.replicate len z.cells).flatten l with
     | none => rfl
     | some cs => simp only [newSlice_wt]; rfl
 ·rename_i u x
  unfold opLoad
  rw [h x (by simp [Op.operands])]
  cases σ.slot x with
  | none => rfl
  | some s =>
   simp only [load_wt]
   cases C.is f o.dst 3 && isHeapPtr s
   ·exact resV_wt _
   ·rfl
 ·rename_i u x y
  unfold opStore
  rw [h x (by simp [Op.operands]), h.val (x := y) (by simp [Op.operands])]
  cases σ.slot x with
  | none => rfl
  | some s =>
   cases σ.val y with
   | none => rfl
   | some v =>
    simp only []
    cases sizeT P u with
    | none => rfl
    | some n =>
     simp only []
     cases Nat.beq v.cells.length n
     ·rfl
     ·simp only [cond_true, write_wt]
      cases σ.write v.cells s <;> rfl
 ·rename_i x
  unfold opNil
  rw [h x (by simp [Op.operands])]
  cases σ.slot x with
  | none => rfl
  | some s =>
   simp only []
   split <;> first | rfl | skip
 ·rename_i op u x y v
  unfold opBin
  rw [h.val (x := x) (by simp [Op.operands]), h.val (x := y) (by simp [Op.operands])]
  cases σ.val x with
  | none => rfl
  | some a =>
   cases σ.val y with
   | none => rfl
   | some b => exact resV_wt _
 ·rename_i op u x
  unfold opUn
  rw [h.val (x := x) (by simp [Op.operands])]
  split
  ·exact resV_wt _
  ·rfl
 ·rename_i s d x
  unfold opConv
  rw [h.val (x := x) (by simp [Op.operands])]
  cases σ.val x with
  | none => rfl
  | some a => exact evConvert_wt
 ·rename_i u x
  unfold opIface
  rw [h.val (x := x) (by simp [Op.operands])]
  split <;> rfl
 ·rename_i g first cap
  unfold opFunc
  rw [mapO_congr (f := (σ.wt t).val) (g := σ.val) (l := first.toList) (fun x hx => h.val (by simp only [Op.operands, Array.toList_append, List.mem_append]; first | exact .inl hx | exact .inr hx)), mapO_congr (f := (σ.wt t).val) (g := σ.val) (l := cap.toList) (fun x hx => h.val (by simp only [Op.operands, Array.toList_append, List.mem_append]; first | exact .inl hx | exact .inr hx))]
  cases mapO σ.val first.toList with
  | none => rfl
  | some l => simp only []; cases mapO σ.val cap.toList <;> rfl
 ·rename_i u x y
  unfold opMakeSlice
  rw [h.val (x := x) (by simp [Op.operands]), h.val (x := y) (by simp [Op.operands])]
  split
  ·rename_i l _ c e _ _ _
   cases decide (0 ≤ l) && decide (l ≤ c) && decide (c ≤ (maxRoom : Int))
   ·rfl
   ·simp only [cond_true]
    unfold makeS
    cases P.info? e <;> cases zeroA P e <;> try rfl
    rename_i i z
    simp only []
    cases Nat.ble (c.toNat * i.bytes) maxRoom && Nat.beq z.cells.length i.size && Nat.ble 1 i.size
    ·rfl
    ·simp only [cond_true]
     cases C.is f o.dst 2 || Nat.beq l.toNat 0 <;> rfl
  ·rfl
 ·rename_i u x lo hi mx
  unfold opSlice
  cases mx with
  | some _ => rfl
  | none =>
   simp only []
   rw [h.val (x := x) (by simp [Op.operands]), optVal_wt (x := lo) (fun y hy => h y (by simp [Op.operands, hy])), optVal_wt (x := hi) (fun y hy => h y (by simp [Op.operands, hy]))]
   cases σ.val x with
   | none => rfl
   | some s =>
    simp only []
    cases optVal σ lo <;> cases optVal σ hi <;> try rfl
    simp only [evSlice_wt]
    exact resV_wt _
 ·rename_i s x i
  unfold opFieldAddr
  rw [h x (by simp [Op.operands])]
  cases σ.slot x with
  | none => rfl
  | some p =>
   simp only []
   cases fieldsT P s with
   | none => rfl
   | some fs =>
    simp only []
    cases fs[i]? with
    | none => rfl
    | some fd =>
     simp only []
     cases Option.any (Nat.blt 0) (sizeT P fd.type)
     ·rfl
     ·simp only [cond_true]
      cases moveSlot p fd.offset <;> rfl
 ·rename_i u x i
  unfold opField
  rw [h.val (x := x) (by simp [Op.operands])]
  split
  ·cases fieldsT P u with
   | none => rfl
   | some fs =>
    simp only []
    cases fs[i]? with
    | none => rfl
    | some fd => exact resV_wt _
  ·rfl
 ·rename_i u x i
  unfold opIndexAddr
  rw [h x (by simp [Op.operands]), h.val (x := i) (by simp [Op.operands])]
  cases σ.slot x with
  | none => rfl
  | some s =>
   cases σ.val i with
   | none => rfl
   | some a =>
    simp only []
    split
    ·rename_i els tok
     unfold addrSl
     cases elemT P u with
     | none => rfl
     | some e =>
      simp only []
      cases sizeT P e <;> cases idx els.length a <;> try rfl
      rename_i k j
      simp only []
      cases getI j els with
      | none => rfl
      | some l => simp only []; cases Nat.beq l.length k <;> rfl
    ·rename_i id off len k
     unfold addrR
     cases elemT P u with
     | none => rfl
     | some e =>
      simp only []
      cases sizeT P e <;> cases idx len a <;> try rfl
      rename_i k' j
      simp only []
      cases Nat.beq k k' <;> rfl
    ·unfold addrA
     cases arrT P u with
     | none => rfl
     | some ne =>
      obtain ⟨n, e⟩ := ne
      simp only []
      cases sizeT P e <;> cases idx n a <;> try rfl
      rename_i k j
      simp only []
      cases moveSlot s (j * k) <;> rfl
 ·rename_i u x i
  unfold opIndex
  rw [h.val (x := x) (by simp [Op.operands]), h.val (x := i) (by simp [Op.operands])]
  cases σ.val x with
  | none => rfl
  | some v =>
   cases σ.val i with
   | none => rfl
   | some a =>
    simp only []
    split
    ·exact resV_wt _
    ·exact resV_wt _
    ·rfl
 ·rename_i x xt u ok
  unfold opAssert
  rw [h.val (x := x) (by simp [Op.operands])]
  have hfail : failAs P (σ.wt t) u ok = (failAs P σ u ok).map (mapR t) := by
   unfold failAs
   cases ok
   ·rfl
   ·simp only [cond_true]; cases zeroA P u <;> rfl
  split
  ·split
   ·rename_i q v _
    cases Nat.beq q u
    ·exact hfail
    ·rfl
   ·exact hfail
   ·rfl
  ·rfl
 ·rename_i x i
  unfold opExtract
  rw [h.val (x := x) (by simp [Op.operands])]
  split
  ·exact resV_wt _
  ·rfl
 ·rename_i c
  unfold opCall
  have hargs : ∀ x ∈ c.args.toList, x ∈ (Op.call c).operands.toList := by
   intro x hx
   simp only [Op.operands, Call.operands, Array.toList_append, List.mem_append]
   exact .inr hx
  rw [mapO_congr (f := (σ.wt t).val) (g := σ.val) (l := c.args.toList) (fun x hx => h.val (hargs x hx))]
  cases mapO σ.val c.args.toList with
  | none => rfl
  | some args =>
   simp only []
   split
   ·exact evBuiltin_wt
   ·rename_i x hx
    unfold callVal
    rw [h.val (x := x) (by simp [Op.operands, Call.operands, hx])]
    split
    ·exact back_wt _
    ·rfl
   ·rename_i x name hx
    unfold callMeth
    rw [h.val (x := x) (by simp [Op.operands, Call.operands, hx])]
    split
    ·rename_i q v _
     cases evMethod P q v name with
     | none => rfl
     | some gr => obtain ⟨g, r⟩ := gr; exact back_wt _
    ·rfl
 ·rfl
end
end Go.Ef
namespace Go.Ef
open Go
structure Keeps (cl : Cls) (σ σ' : St) : Prop where
 n : σ'.n = σ.n
 tm : σ'.tm = σ.tm
 loc : cl ≠ .s → σ'.loc = σ.loc
 h : cl ≠ .s → cl ≠ .c → σ'.h = σ.h
 d : σ'.d = σ.d
theorem Keeps.same (cl : Cls) (σ : St) : Keeps cl σ σ := ⟨rfl, rfl, fun _ => rfl, fun _ _ => rfl, rfl⟩
theorem Keeps.eq {cl : Cls} {σ σ' : St} (k : Keeps cl σ σ') (h1 : cl ≠ .s) (h2 : cl ≠ .c) : σ' = σ := by
 cases σ; cases σ'
 obtain ⟨a, b, d, e, f⟩ := k
 simp only at a b f
 have d1 := d h1
 have e1 := e h1 h2
 simp only at d1 e1
 rw [a, b, d1, e1, f]
section
variable {C : Cfg} {P : Program} {σ : St}
theorem resV_keeps {v : Option AV} {r : Slot × St} {cl : Cls} (h : resV σ v = some r) : Keeps cl σ r.2 := by
 cases v with
 | none => cases h
 | some u => cases h; exact .same _ _
theorem move_keeps {x : Operand} {r : Slot × St} {cl : Cls} (h : opMove σ x = some r) : Keeps cl σ r.2 := by
 unfold opMove at h; split at h
 ·cases h; exact .same _ _
 ·cases h
theorem alloc_keeps {f : FuncId} {d : Option Nat} {e : TypeId} {cs : List AV} : Keeps .s σ (σ.alloc C f d e cs).2 := by
 unfold St.alloc; cases C.is f d 1 <;> exact ⟨rfl, rfl, fun h => absurd rfl h, fun h => absurd rfl h, rfl⟩
theorem newO_keeps {k e : Nat} {els : List (List AV)} : Keeps .c σ (σ.newO k e els).2 := ⟨rfl, rfl, fun _ => rfl, fun _ h => absurd rfl h, rfl⟩
theorem newR_keeps {k : Nat} {els : List (List AV)} : Keeps .c σ (σ.newR k els).2 := ⟨rfl, rfl, fun _ => rfl, fun _ h => absurd rfl h, rfl⟩
theorem newSlice_keeps {f : FuncId} {d : Option Nat} {k e : Nat} {els : List (List AV)} : Keeps .c σ (σ.newSlice C f d k e els).2 := by
 unfold St.newSlice; cases C.is f d 1
 ·exact newO_keeps
 ·exact newR_keeps
theorem write_keeps {new : List AV} {s : Slot} {σ' : St} (h : σ.write new s = some σ') : Keeps .s σ σ' := by
 have key : σ'.n = σ.n ∧ σ'.tm = σ.tm ∧ σ'.d = σ.d := by
  cases s with
  | unk => simp only [St.write] at h; cases h
  | lp k off =>
   simp only [St.write] at h
   split at h
   ·split at h
    ·obtain ⟨_, h⟩ := cond_some h; cases h; exact ⟨rfl, rfl, rfl⟩
    ·cases h
   ·cases h
  | v u =>
   cases u with
   | ptr id off =>
    simp only [St.write] at h
    split at h
    ·split at h
     ·obtain ⟨_, h⟩ := cond_some h
      split at h
      ·cases h; exact ⟨rfl, rfl, rfl⟩
      ·cases h
     ·cases h
    ·cases h
   | _ => cases h
 exact ⟨key.1, key.2.1, fun h => absurd rfl h, fun h => absurd rfl h, key.2.2⟩
theorem write_ptr_keeps {new : List AV} {id off : Nat} {σ' : St} (h : σ.write new (.v (.ptr id off)) = some σ') : Keeps .c σ σ' := by
 simp only [St.write] at h
 split at h
 ·split at h
  ·obtain ⟨_, h⟩ := cond_some h
   split at h
   ·cases h; exact ⟨rfl, rfl, fun _ => rfl, fun _ h => absurd rfl h, rfl⟩
   ·cases h
  ·cases h
 ·cases h
theorem back_keeps {r0 : Option (AV × Heap)} {r : Slot × St} (h : back σ r0 = some r) : Keeps .c σ r.2 := by
 unfold back at h
 split at h
 ·cases h; exact ⟨rfl, rfl, fun _ => rfl, fun _ h => absurd rfl h, rfl⟩
 ·cases h
theorem append_keeps {f : FuncId} {d : Option Nat} {types : Array TypeId} {s x : AV} {r : Slot × St} (h : evAppend C P σ f d types s x = some r) : Keeps .c σ r.2 := by
 unfold evAppend at h
 split at h
 ·obtain ⟨_, h⟩ := cond_some h
  split at h
  ·split at h
   ·rename_i i hi
    cases hz : Nat.beq i.size 0 with
    | true => rw [hz] at h; cases h
    | false =>
     rw [hz] at h
     simp only [cond_false] at h
     split at h
     ·rename_i new hnew
      obtain ⟨_, h⟩ := cond_some h
      unfold appendS at h
      split at h
      ·cases hn : new.isEmpty with
       | true => rw [hn] at h; cases h; exact .same _ _
       | false =>
        rw [hn] at h
        simp only [cond_false, appendNil] at h
        obtain ⟨_, h⟩ := cond_some h
        cases h; exact newSlice_keeps
      ·cases hn : new.isEmpty with
       | true => rw [hn] at h; cases h; exact .same _ _
       | false =>
        rw [hn] at h
        simp only [cond_false, appendO] at h
        obtain ⟨_, h⟩ := cond_some h
        split at h
        ·cases h
        ·split at h
         ·obtain ⟨_, h⟩ := cond_some h
          split at h
          ·cases h; exact ⟨rfl, rfl, fun _ => rfl, fun _ h => absurd rfl h, rfl⟩
          ·cases h
         ·cases h
      ·cases hn : new.isEmpty with
       | true => rw [hn] at h; cases h; exact .same _ _
       | false =>
        rw [hn] at h
        simp only [cond_false, appendR] at h
        obtain ⟨_, h⟩ := cond_some h
        split at h
        ·split at h
         ·cases h; exact ⟨rfl, rfl, fun _ => rfl, fun _ h => absurd rfl h, rfl⟩
         ·cases h
        ·cases h
      ·cases h
     ·cases h
   ·cases h
  ·cases h
 ·cases h
theorem copy_keeps {types : Array TypeId} {s x : AV} {r : Slot × St} (h : evCopy P σ types s x = some r) : Keeps .c σ r.2 := by
 unfold evCopy at h
 split at h
 ·split at h
  ·split at h
   ·rename_i k hk
    cases hz : Nat.beq k 0 with
    | true => rw [hz] at h; cases h
    | false =>
     rw [hz] at h
     simp only [cond_false] at h
     split at h
     ·rename_i els n _ _
      obtain ⟨_, h⟩ := cond_some h
      unfold copyR at h
      cases hn : (els.take n).isEmpty with
      | true => rw [hn] at h; cases h; exact .same _ _
      | false =>
       rw [hn] at h
       simp only [cond_false] at h
       split at h
       ·obtain ⟨_, h⟩ := cond_some h
        split at h
        ·rename_i hw; cases h; exact write_ptr_keeps hw
        ·cases h
       ·cases h
     ·cases h
   ·cases h
  ·cases h
 ·cases h
theorem callP_pure {call : CallF} {g : FuncId} {args : List AV} {h h' : Heap} {v : AV} (hp : ((C.prim g).isNone && (C.fresh g || C.pure g)) = true) (hc : callP C call g args h = some (v, h')) : h' = h := by
 simp only [Bool.and_eq_true] at hp
 unfold callP at hc
 split at hc
 ·rename_i p hq; rw [hq] at hp; cases hp.1
 ·cases hf : C.fresh g with
  | true =>
   rw [hf] at hc
   simp only [cond_true] at hc
   split at hc
   ·split at hc
    ·split at hc
     ·cases hc; rfl
     ·cases hc
    ·cases hc
   ·cases hc
  | false =>
   have hp2 := hp.2
   rw [hf, Bool.false_or] at hp2
   rw [hf, hp2] at hc
   simp only [cond_true, cond_false] at hc
   split at hc
   ·split at hc
    ·cases hc; rfl
    ·cases hc
   ·cases hc
theorem op_keeps {call : CallF} {f : FuncId} {o : Oper} {r : Slot × St} (h : evOp C P call f o σ = some r) : Keeps (clsOf C P f o) σ r.2 := by
 unfold evOp at h
 unfold clsOf
 split at h <;> rename_i ho <;> try rw [ho]
 ·exact move_keeps h
 ·exact move_keeps h
 ·unfold opPick at h
  split at h
  ·rename_i q _; cases q <;> exact move_keeps h
  ·cases h
 ·unfold opAlloc at h
  split at h
  ·cases h; exact alloc_keeps
  ·cases h
 ·unfold opBox at h
  split at h
  ·cases h; exact alloc_keeps
  ·cases h
 ·unfold opBuild at h
  split at h
  ·exact resV_keeps h
  ·cases h
 ·unfold opBuildSlice at h
  split at h
  ·split at h
   ·split at h
    ·obtain ⟨_, h⟩ := cond_some h
     split at h
     ·cases h; exact newSlice_keeps
     ·cases h
    ·cases h
   ·cases h
  ·cases h
 ·unfold opLoad at h
  have key : ∀ cl, Keeps cl σ r.2 := by
   intro cl
   split at h
   ·rename_i s hs
    cases hq : C.is f o.dst 3 && isHeapPtr s with
    | true => rw [hq] at h; cases h
    | false => rw [hq] at h; exact resV_keeps h
   ·cases h
  exact key _
 ·unfold opStore at h
  split at h
  ·split at h
   ·split at h
    ·obtain ⟨_, h⟩ := cond_some h
     split at h
     ·rename_i hw; cases h; exact write_keeps hw
     ·cases h
    ·cases h
   ·cases h
  ·cases h
 ·unfold opNil at h
  split at h
  ·split at h <;> first | (cases h; exact .same _ _) | (cases h; done)
  ·cases h
 ·unfold opBin at h
  split at h
  ·split at h
   ·exact resV_keeps h
   ·cases h
  ·cases h
 ·unfold opUn at h
  split at h
  ·exact resV_keeps h
  ·cases h
 ·rename_i s d x
  unfold opConv at h
  split at h
  ·unfold evConvert at h
   split at h
   ·rename_i e hs hd
    have hd' : elemT P d = none := by simp [elemT, hd]
    simp only [hd']
    split at h
    ·obtain ⟨_, h⟩ := cond_some h; exact resV_keeps h
    ·cases h
   ·rename_i e hs hd
    have hd' : elemT P d = some e := by simp [elemT, hd]
    simp only [hd']
    unfold toBytes at h
    split at h
    ·rename_i sb _ _
     have hk : Keeps .c σ (σ.newO 1 e (byteEls sb)).2 := newO_keeps
     obtain ⟨_, h⟩ := cond_some h; cases h; exact hk
    ·cases h
   ·split at h
    ·cases elemT P d <;> exact resV_keeps h
    ·cases h
  ·cases h
 ·unfold opIface at h
  split at h
  ·cases h; exact .same _ _
  ·cases h
 ·unfold opFunc at h
  split at h
  ·split at h
   ·cases h; exact .same _ _
   ·cases h
  ·cases h
 ·unfold opMakeSlice at h
  split at h
  ·obtain ⟨_, h⟩ := cond_some h
   unfold makeS at h
   split at h
   ·obtain ⟨_, h2⟩ := cond_some h
    clear h
    have h3 := Option.some.inj h2
    subst h3
    have key : ∀ (b : Bool) k e els, Keeps .c σ (bif b then σ.newO k e els else σ.newR k els).2 := by
     intro b k e els; cases b
     ·exact newR_keeps
     ·exact newO_keeps
    exact key _ _ _ _
   ·cases h
  ·cases h
 ·have key : ∀ cl, Keeps cl σ r.2 := by
   intro cl
   unfold opSlice at h
   split at h
   ·cases h
   ·split at h
    ·split at h
     ·exact resV_keeps h
     ·cases h
    ·cases h
  exact key _
 ·unfold opFieldAddr at h
  split at h
  ·split at h
   ·split at h
    ·obtain ⟨_, h⟩ := cond_some h
     split at h
     ·cases h; exact .same _ _
     ·cases h
    ·cases h
   ·cases h
  ·cases h
 ·unfold opField at h
  split at h
  ·split at h
   ·split at h
    ·exact resV_keeps h
    ·cases h
   ·cases h
  ·cases h
 ·unfold opIndexAddr at h
  split at h
  ·split at h
   ·split at h
    ·unfold addrSl at h
     split at h
     ·split at h
      ·split at h
       ·obtain ⟨_, h⟩ := cond_some h; cases h; exact .same _ _
       ·cases h
      ·cases h
     ·cases h
    ·unfold addrR at h
     split at h
     ·split at h
      ·obtain ⟨_, h⟩ := cond_some h; cases h; exact .same _ _
      ·cases h
     ·cases h
    ·unfold addrA at h
     split at h
     ·split at h
      ·split at h
       ·cases h; exact .same _ _
       ·cases h
      ·cases h
     ·cases h
   ·cases h
  ·cases h
 ·unfold opIndex at h
  split at h
  ·split at h
   ·split at h
    ·exact resV_keeps h
    ·exact resV_keeps h
    ·cases h
   ·cases h
  ·cases h
 ·rename_i x xt t ok
  unfold opAssert at h
  have hf : ∀ {u : TypeId} {ok : Bool}, failAs P σ u ok = some r → Keeps .p σ r.2 := by
   intro u ok h
   unfold failAs at h
   obtain ⟨_, h⟩ := cond_some h
   split at h
   ·cases h; exact .same _ _
   ·cases h
  split at h
  ·split at h
   ·rename_i u v _
    cases hq : Nat.beq u t with
    | true => rw [hq] at h; cases h; exact .same _ _
    | false => rw [hq] at h; exact hf h
   ·exact hf h
   ·cases h
  ·cases h
 ·unfold opExtract at h
  split at h
  ·exact resV_keeps h
  ·cases h
 ·rename_i c
  simp only []
  unfold clsCall
  unfold opCall at h
  split at h
  ·cases h
  ·split at h
   ·rename_i b hb
    rw [hb]
    simp only []
    unfold evBuiltin at h
    split at h
    ·split at h
     ·exact resV_keeps h
     ·cases h
    ·split at h
     ·exact append_keeps h
     ·cases h
    ·split at h
     ·exact copy_keeps h
     ·cases h
    ·exact resV_keeps h
    ·exact resV_keeps h
    ·cases h
   ·rename_i x hx
    rw [hx]
    unfold callVal at h
    split at h
    ·rename_i g first cap hval
     have kc : Keeps .c σ r.2 := back_keeps h
     split
     ·rename_i b hb; cases hb
     ·rename_i g' hg'
      cases hg'
      cases hq : (C.prim g').isNone && (C.fresh g' || C.pure g') with
      | false => exact kc
      | true =>
       have : g = g' := by
        have := val_slot hval
        simp only [St.slot] at this
        cases this; rfl
       subst this
       simp only [cond_true]
       unfold back at h
       split at h
       ·rename_i v h' hc
        have := callP_pure hq hc
        subst this
        cases h
        exact .same _ _
       ·cases h
     ·exact kc
    ·cases h
   ·rename_i x name hx
    rw [hx]
    unfold callMeth at h
    split at h
    ·split at h
     ·exact back_keeps h
     ·cases h
    ·cases h
 ·cases h
end
end Go.Ef
namespace Go.Ef
open Go
def St.mem (σ : St) (loc : List LObj) (h : Heap) : St := { σ with loc := loc, h := h }
def memR (loc : List LObj) (h : Heap) (r : Slot × St) : Slot × St := (r.1, r.2.mem loc h)
section
variable {C : Cfg} {P : Program} {σ : St} {loc : List LObj} {hp : Heap}
theorem mem_slot (x : Operand) : (σ.mem loc hp).slot x = σ.slot x := by cases x <;> rfl
theorem mem_val (x : Operand) : (σ.mem loc hp).val x = σ.val x := by unfold St.val; rw [mem_slot]
theorem resV_mem (v : Option AV) : resV (σ.mem loc hp) v = (resV σ v).map (memR loc hp) := by cases v <;> rfl
theorem move_mem {x : Operand} : opMove (σ.mem loc hp) x = (opMove σ x).map (memR loc hp) := by
 unfold opMove; rw [mem_slot]; cases σ.slot x <;> rfl
theorem parts_mem : ∀ l : List (Nat × Operand), evParts (σ.mem loc hp) l = evParts σ l := by
 intro l
 induction l with
 | nil => rfl
 | cons p l ih =>
  obtain ⟨i, x⟩ := p
  simp only [evParts]
  rw [ih, mem_val]
theorem optVal_mem (x : Option Operand) : optVal (σ.mem loc hp) x = optVal σ x := by
 cases x with
 | none => rfl
 | some y => simp only [optVal]; rw [mem_val]
theorem evOp_mem {call : CallF} {f : FuncId} {o : Oper} (h : clsOf C P f o = .p) : evOp C P call f o (σ.mem loc hp) = (evOp C P call f o σ).map (memR loc hp) := by
 unfold evOp
 unfold clsOf at h
 split <;> rename_i ho <;> try rw [ho] at h
 ·exact move_mem
 ·exact move_mem
 ·rename_i c a b
  unfold opPick
  rw [mem_val]
  split
  ·rename_i q _
   cases q
   ·exact move_mem
   ·exact move_mem
  ·rfl
 ·cases h
 ·cases h
 ·rename_i u parts
  unfold opBuild
  rw [parts_mem]
  cases evParts σ parts.toList with
  | none => rfl
  | some l => exact resV_mem _
 ·cases h
 ·simp only [] at h; cases hb : C.is f o.dst 3 <;> rw [hb] at h <;> cases h
 ·cases h
 ·rename_i x
  unfold opNil
  rw [mem_slot]
  cases σ.slot x with
  | none => rfl
  | some s =>
   simp only []
   split <;> first | rfl | skip
 ·rename_i op u x y v
  unfold opBin
  rw [mem_val, mem_val]
  cases σ.val x with
  | none => rfl
  | some a =>
   cases σ.val y with
   | none => rfl
   | some b => exact resV_mem _
 ·rename_i op u x
  unfold opUn
  rw [mem_val]
  split
  ·exact resV_mem _
  ·rfl
 ·rename_i s d x
  simp only [] at h
  cases hd : elemT P d <;> rw [hd] at h <;> cases h
 ·rename_i u x
  unfold opIface
  rw [mem_val]
  split <;> rfl
 ·rename_i g first cap
  unfold opFunc
  rw [mapO_congr (f := (σ.mem loc hp).val) (g := σ.val) (l := first.toList) (fun x _ => mem_val x), mapO_congr (f := (σ.mem loc hp).val) (g := σ.val) (l := cap.toList) (fun x _ => mem_val x)]
  cases mapO σ.val first.toList with
  | none => rfl
  | some l => simp only []; cases mapO σ.val cap.toList <;> rfl
 ·cases h
 ·rename_i u x lo hi mx
  unfold opSlice
  cases mx with
  | some _ => rfl
  | none =>
   simp only []
   rw [mem_val, optVal_mem, optVal_mem]
   cases σ.val x with
   | none => rfl
   | some s =>
    simp only []
    cases optVal σ lo with
    | none => rfl
    | some l =>
     cases optVal σ hi with
     | none => rfl
     | some r =>
      simp only []
      have : evSlice P (σ.mem loc hp) u s l r = evSlice P σ u s l r := by
       unfold evSlice
       split <;> try rfl
       ·unfold sliceArr
        cases hu : P.underlying u with
        | none => rfl
        | some d =>
         cases d with
         | array n e => simp only [hu] at h; cases h
         | _ => rfl
      rw [this]
      exact resV_mem _
 ·rename_i s x i
  unfold opFieldAddr
  rw [mem_slot]
  cases σ.slot x with
  | none => rfl
  | some p =>
   simp only []
   cases fieldsT P s with
   | none => rfl
   | some fs =>
    simp only []
    cases fs[i]? with
    | none => rfl
    | some fd =>
     simp only []
     cases Option.any (Nat.blt 0) (sizeT P fd.type)
     ·rfl
     ·simp only [cond_true]
      cases moveSlot p fd.offset <;> rfl
 ·rename_i u x i
  unfold opField
  rw [mem_val]
  split
  ·cases fieldsT P u with
   | none => rfl
   | some fs =>
    simp only []
    cases fs[i]? with
    | none => rfl
    | some fd => exact resV_mem _
  ·rfl
 ·rename_i u x i
  unfold opIndexAddr
  rw [mem_slot, mem_val]
  cases σ.slot x with
  | none => rfl
  | some s =>
   cases σ.val i with
   | none => rfl
   | some a =>
    simp only []
    split
    ·rename_i els tok
     unfold addrSl
     cases elemT P u with
     | none => rfl
     | some e =>
      simp only []
      cases sizeT P e <;> cases idx els.length a <;> try rfl
      rename_i k j
      simp only []
      cases getI j els with
      | none => rfl
      | some l => simp only []; cases Nat.beq l.length k <;> rfl
    ·rename_i id off len k
     unfold addrR
     cases elemT P u with
     | none => rfl
     | some e =>
      simp only []
      cases sizeT P e <;> cases idx len a <;> try rfl
      rename_i k' j
      simp only []
      cases Nat.beq k k' <;> rfl
    ·unfold addrA
     cases arrT P u with
     | none => rfl
     | some ne =>
      obtain ⟨n, e⟩ := ne
      simp only []
      cases sizeT P e <;> cases idx n a <;> try rfl
      rename_i k j
      simp only []
      cases moveSlot s (j * k) <;> rfl
 ·rename_i u x i
  unfold opIndex
  rw [mem_val, mem_val]
  cases σ.val x with
  | none => rfl
  | some v =>
   cases σ.val i with
   | none => rfl
   | some a =>
    simp only []
    split
    ·exact resV_mem _
    ·exact resV_mem _
    ·rfl
 ·rename_i x xt u ok
  unfold opAssert
  rw [mem_val]
  have hfail : failAs P (σ.mem loc hp) u ok = (failAs P σ u ok).map (memR loc hp) := by
   unfold failAs
   cases ok
   ·rfl
   ·simp only [cond_true]; cases zeroA P u <;> rfl
  split
  ·split
   ·rename_i q v _
    cases Nat.beq q u
    ·exact hfail
    ·rfl
   ·exact hfail
   ·rfl
  ·rfl
 ·rename_i x i
  unfold opExtract
  rw [mem_val]
  split
  ·exact resV_mem _
  ·rfl
 ·rename_i c
  replace h : clsCall C c = .p := h
  unfold clsCall at h
  unfold opCall
  rw [mapO_congr (f := (σ.mem loc hp).val) (g := σ.val) (l := c.args.toList) (fun x _ => mem_val x)]
  cases mapO σ.val c.args.toList with
  | none => rfl
  | some args =>
   simp only []
   split
   ·rename_i b hb
    rw [hb] at h
    replace h : clsBuiltin b = .p := h
    unfold evBuiltin
    cases b <;> simp only [clsBuiltin, reduceCtorEq] at h <;> exact resV_mem _
   ·rename_i x hx
    rw [hx] at h
    split at h
    ·rename_i hq; cases hq
    ·rename_i g hq
     cases hb : (C.prim g).isNone && (C.fresh g || C.pure g) <;> rw [hb] at h <;> cases h
    ·cases h
   ·rename_i x name hx
    rw [hx] at h
    cases h
 ·rfl
theorem load_heap {s : Slot} {u : TypeId} (h : isHeapPtr s = false) : ({ σ with h := hp } : St).load C P u s = σ.load C P u s := by
 have : ∀ n, ({ σ with h := hp } : St).read C n s = σ.read C n s := by
  intro n
  cases s with
  | unk => rfl
  | lp k off => rfl
  | v a => cases a <;> first | rfl | cases h
 unfold St.load; simp only [this]
theorem cls_l {f : FuncId} {o : Oper} (h : clsOf C P f o = .l) : ∃ u x, o.op = .load u x ∧ C.is f o.dst 3 = true := by
 unfold clsOf at h
 split at h <;> try (cases h; done)
 ·rename_i u x ho
  cases hb : C.is f o.dst 3 with
  | false => rw [hb] at h; cases h
  | true => exact ⟨u, x, ho, rfl⟩
 ·split at h <;> cases h
 ·split at h <;> cases h
 ·unfold clsCall at h
  split at h
  ·rename_i b _
   cases b <;> cases h
  ·rename_i g _
   cases hb : (C.prim g).isNone && (C.fresh g || C.pure g) <;> rw [hb] at h <;> cases h
  ·cases h
theorem evOp_heap {call : CallF} {f : FuncId} {o : Oper} (h : clsOf C P f o = .l) : evOp C P call f o (σ.mem σ.loc hp) = (evOp C P call f o σ).map (memR σ.loc hp) := by
 obtain ⟨u, x, ho, hb⟩ := cls_l h
 unfold evOp
 rw [ho]
 simp only []
 unfold opLoad
 rw [mem_slot]
 cases σ.slot x with
 | none => rfl
 | some s =>
  simp only [hb, Bool.true_and]
  cases hs : isHeapPtr s with
  | true => rfl
  | false =>
   simp only [cond_false]
   rw [show (σ.mem σ.loc hp).load C P u s = σ.load C P u s from load_heap hs]
   exact resV_mem _
end
end Go.Ef
namespace Go.Ef
open Go
noncomputable section
def half (C : Cfg) (P : Program) (call : CallF) (f : FuncId) (ops : Array Oper) (o : Oper) (σ : St) : Option (Slot × St) :=
 match wantedA ops o σ with
 | some true => evOp C P call f o σ
 | some false => some (.v (.sc undef), σ)
 | none => none
def tmPut (d : Option Nat) (s : Slot) (t : Tr Slot) : Tr Slot := match d with
 | none => t
 | some k => t.set k s
def fitsD (n : Nat) (d : Option Nat) : Bool := match d with
 | none => true
 | some k => !Nat.ble n k
section
variable {C : Cfg} {P : Program} {call : CallF} {f : FuncId} {ops : Array Oper} {o x y : Oper} {σ σ' : St}
theorem evStep_eq : evStep C P call f ops o σ = thenO (half C P call f ops o σ) fun r => r.2.put o.dst r.1 := by
 unfold evStep half
 cases wantedA ops o σ with
 | none => rfl
 | some b =>
  cases b with
  | false => rfl
  | true => simp only []; cases evOp C P call f o σ <;> rfl
theorem put_eq {d : Option Nat} {s : Slot} : σ.put d s = bif fitsD σ.n d then some (σ.wt (tmPut d s σ.tm)) else none := by
 cases d with
 | none => rfl
 | some k => simp only [St.put, fitsD, tmPut]; cases Nat.ble σ.n k <;> rfl
theorem step_split (h : evStep C P call f ops o σ = some σ') : ∃ s τ, half C P call f ops o σ = some (s, τ) ∧ fitsD τ.n o.dst = true ∧ σ' = τ.wt (tmPut o.dst s τ.tm) := by
 rw [evStep_eq] at h
 obtain ⟨r, h1, h2⟩ := thenO_some h
 rw [put_eq] at h2
 obtain ⟨h3, h4⟩ := cond_some h2
 exact ⟨r.1, r.2, h1, h3, by cases h4; rfl⟩
theorem step_join {s : Slot} {τ : St} (h : half C P call f ops o σ = some (s, τ)) (hf : fitsD τ.n o.dst = true) : evStep C P call f ops o σ = some (τ.wt (tmPut o.dst s τ.tm)) := by
 rw [evStep_eq, h]
 simp only [thenO]
 rw [put_eq, hf]; rfl
theorem slot_wt {t : Tr Slot} {k : Nat} (h : t.get k = σ.tm.get k) : (σ.wt t).slot (.tmp k) = σ.slot (.tmp k) := by
 simp only [St.slot, St.wt]; rw [h]
theorem wanted_wt {t : Tr Slot} (h : ∀ k ∈ reads ops o, t.get k = σ.tm.get k) : wantedA ops o (σ.wt t) = wantedA ops o σ := by
 unfold wantedA
 cases hg : o.guard with
 | none => rfl
 | some g =>
  obtain ⟨j, want⟩ := g
  simp only []
  cases hj : ops[j]? with
  | none => rfl
  | some oj =>
   simp only []
   cases hd : oj.dst with
   | none => rfl
   | some k =>
    simp only []
    rw [slot_wt (h k (by simp [reads, hg, hj, hd]))]
theorem half_wt {t : Tr Slot} (h : ∀ k ∈ reads ops o, t.get k = σ.tm.get k) : half C P call f ops o (σ.wt t) = (half C P call f ops o σ).map (mapR t) := by
 unfold half
 rw [wanted_wt h]
 cases wantedA ops o σ with
 | none => rfl
 | some b =>
  cases b with
  | false => rfl
  | true =>
   simp only []
   refine evOp_wt fun z hz => ?_
   cases z with
   | tmp k => exact slot_wt (h k (by simp only [reads, List.mem_append, List.mem_filterMap]; exact .inl ⟨_, hz, rfl⟩))
   | _ => rfl
theorem half_keeps {r : Slot × St} (h : half C P call f ops o σ = some r) : Keeps (clsOf C P f o) σ r.2 := by
 unfold half at h
 split at h
 ·exact op_keeps h
 ·cases h; exact .same _ _
 ·cases h
theorem wanted_mem {loc : List LObj} {hp : Heap} : wantedA ops o (σ.mem loc hp) = wantedA ops o σ := rfl
theorem half_mem {loc : List LObj} {hp : Heap} (h : clsOf C P f o = .p) : half C P call f ops o (σ.mem loc hp) = (half C P call f ops o σ).map (memR loc hp) := by
 unfold half
 rw [wanted_mem]
 cases wantedA ops o σ with
 | none => rfl
 | some b =>
  cases b with
  | false => rfl
  | true => exact evOp_mem h
theorem half_heap {hp : Heap} (h : clsOf C P f o = .l) : half C P call f ops o (σ.mem σ.loc hp) = (half C P call f ops o σ).map (memR σ.loc hp) := by
 unfold half
 rw [wanted_mem]
 cases wantedA ops o σ with
 | none => rfl
 | some b =>
  cases b with
  | false => rfl
  | true => exact evOp_heap h
theorem half_quiet {cl : Cls} (hc : clash (clsOf C P f o) cl = false) (h1 : clsOf C P f o ≠ .s) (h2 : clsOf C P f o ≠ .c) (k : Keeps cl σ σ' ∨ Keeps cl σ' σ) {s : Slot} {τ : St} (h : half C P call f ops o σ = some (s, τ)) : half C P call f ops o σ' = some (s, σ') := by
 have ht : τ = σ := (half_keeps h).eq h1 h2
 subst ht
 have hn : σ'.n = τ.n := k.elim (·.n) (·.n.symm)
 have htm : σ'.tm = τ.tm := k.elim (·.tm) (·.tm.symm)
 have hd : σ'.d = τ.d := k.elim (·.d) (·.d.symm)
 have hl : cl ≠ .s → σ'.loc = τ.loc := fun e => k.elim (·.loc e) (fun k => (k.loc e).symm)
 have hh : cl ≠ .s → cl ≠ .c → σ'.h = τ.h := fun e e' => k.elim (·.h e e') (fun k => (k.h e e').symm)
 have hm : σ' = τ.mem σ'.loc σ'.h := by
  cases σ'; cases τ; simp only [St.mem] at *; subst hn; subst htm; subst hd; rfl
 cases hcl : clsOf C P f o with
 | s => exact absurd hcl h1
 | c => exact absurd hcl h2
 | p =>
  rw [hm, half_mem hcl, h]; rfl
 | l =>
  have hcs : cl ≠ .s := by intro e; subst e; rw [hcl] at hc; cases hc
  rw [hm, hl hcs, half_heap hcl, h]; rfl
 | q =>
  have hcs : cl ≠ .s := by intro e; subst e; rw [hcl] at hc; cases hc
  have hcc : cl ≠ .c := by intro e; subst e; rw [hcl] at hc; cases hc
  have : σ' = τ := by
   rw [hm, hl hcs, hh hcs hcc]; rfl
  rw [this]; exact h
theorem clash_symm (a b : Cls) : clash a b = clash b a := by cases a <;> cases b <;> rfl
theorem tmPut_get {d : Option Nat} {s : Slot} {t : Tr Slot} {k : Nat} (h : d ≠ some k) : (tmPut d s t).get k = t.get k := by
 cases d with
 | none => rfl
 | some j => simp only [tmPut]; rw [Tr.get_set, if_neg (by intro e; exact h (by rw [e]))]
theorem tmPut_comm {d e : Option Nat} {s u : Slot} {t : Tr Slot} (h : ∀ k, d = some k → e ≠ some k) : tmPut d s (tmPut e u t) = tmPut e u (tmPut d s t) := by
 cases d with
 | none => rfl
 | some j =>
  cases e with
  | none => rfl
  | some k => exact Tr.set_comm _ _ _ _ _ (by intro q; exact h j rfl (by rw [q]))
theorem meets_spec (h : meets ops x y = false) : (∀ k ∈ reads ops y, x.dst ≠ some k) ∧ (∀ k, x.dst = some k → y.dst ≠ some k) := by
 unfold meets at h
 cases hd : x.dst with
 | none => exact ⟨fun k _ e => by simp at e, fun k e => by simp at e⟩
 | some d =>
  rw [hd] at h
  simp only [Bool.or_eq_false_iff] at h
  obtain ⟨h1, h2⟩ := h
  refine ⟨fun k hk e => ?_, fun k e e' => ?_⟩
  ·cases e
   have := List.any_eq_false.1 h1 d hk
   exact this (Nat.beq_refl d)
  ·cases e
   rw [e'] at h2
   simp only [Nat.beq_refl] at h2
   cases h2
theorem swap {σ1 σ2 : St} (ha : apartOps C P f ops x y = true) (h1 : evStep C P call f ops x σ = some σ1) (h2 : evStep C P call f ops y σ1 = some σ2) :
  ∃ σ3, evStep C P call f ops y σ = some σ3 ∧ evStep C P call f ops x σ3 = some σ2 := by
 simp only [apartOps, Bool.and_eq_true, Bool.not_eq_true'] at ha
 obtain ⟨⟨hxy, hyx⟩, hc⟩ := ha
 obtain ⟨mx, md⟩ := meets_spec hxy
 obtain ⟨my, _⟩ := meets_spec hyx
 obtain ⟨sx, τx, hx, fx, rfl⟩ := step_split h1
 obtain ⟨sy, τy', hy, fy, rfl⟩ := step_split h2
 have kx := half_keeps hx
 rw [half_wt (fun k hk => tmPut_get (mx k hk))] at hy
 cases hy0 : half C P call f ops y τx with
 | none => rw [hy0] at hy; cases hy
 | some r =>
  obtain ⟨sy0, τy⟩ := r
  rw [hy0] at hy
  simp only [Option.map_some, mapR, Option.some.injEq, Prod.mk.injEq] at hy
  obtain ⟨rfl, rfl⟩ := hy
  have ky := half_keeps hy0
  by_cases hq : clsOf C P f x ≠ .s ∧ clsOf C P f x ≠ .c
  ·have ht : τx = σ := kx.eq hq.1 hq.2
   subst ht
   refine ⟨_, step_join hy0 fy, ?_⟩
   have hx2 : half C P call f ops x τy = some (sx, τy) := half_quiet hc hq.1 hq.2 (.inl ky) hx
   have hx3 : half C P call f ops x (τy.wt (tmPut y.dst sy0 τy.tm)) = some (sx, τy.wt (tmPut y.dst sy0 τy.tm)) := by
    rw [half_wt (fun k hk => tmPut_get (my k hk)), hx2]; rfl
   have ntm : τy.tm = τx.tm := ky.tm
   have fx' : fitsD (τy.wt (tmPut y.dst sy0 τy.tm)).n x.dst = true := by
    show fitsD τy.n x.dst = true
    have hn : τy.n = τx.n := ky.n
    rw [hn]; exact fx
   rw [step_join hx3 fx']
   show some (τy.wt (tmPut x.dst sx (tmPut y.dst sy0 τy.tm))) = some (τy.wt (tmPut y.dst sy0 (tmPut x.dst sx τx.tm)))
   rw [ntm, tmPut_comm md]
  ·have hxs : clsOf C P f x = .s ∨ clsOf C P f x = .c := by
    by_cases e : clsOf C P f x = .s
    ·exact .inl e
    ·by_cases e' : clsOf C P f x = .c
     ·exact .inr e'
     ·exact absurd ⟨e, e'⟩ hq
   have hys : clsOf C P f y ≠ .s ∧ clsOf C P f y ≠ .c := by
    refine ⟨fun e => ?_, fun e => ?_⟩ <;> rcases hxs with e' | e' <;> rw [e, e'] at hc <;> cases hc
   have ht : τy = τx := ky.eq hys.1 hys.2
   subst ht
   have hy2 : half C P call f ops y σ = some (sy0, σ) := half_quiet (by rw [clash_symm]; exact hc) hys.1 hys.2 (.inr kx) hy0
   have hn : τy.n = σ.n := kx.n
   have htm : τy.tm = σ.tm := kx.tm
   have fy' : fitsD τy.n y.dst = true := fy
   rw [hn] at fy'
   refine ⟨_, step_join hy2 fy', ?_⟩
   have hx3 : half C P call f ops x (σ.wt (tmPut y.dst sy0 σ.tm)) = some (sx, τy.wt (tmPut y.dst sy0 σ.tm)) := by
    rw [half_wt (fun k hk => tmPut_get (my k hk)), hx]; rfl
   rw [step_join hx3 fx]
   show some (τy.wt (tmPut x.dst sx (tmPut y.dst sy0 σ.tm))) = some (τy.wt (tmPut y.dst sy0 (tmPut x.dst sx τy.tm)))
   rw [htm, tmPut_comm md]
end
end
end Go.Ef
namespace Go.Ef
open Go
noncomputable section
def evIx (C : Cfg) (P : Program) (call : CallF) (f : FuncId) (ops : Array Oper) : List Nat → St → Option St
 | [], σ => some σ
 | i :: r, σ => match ops[i]? with
  | some o => thenO (evStep C P call f ops o σ) (evIx C P call f ops r)
  | none => none
section
variable {C : Cfg} {P : Program} {call : CallF} {f : FuncId} {ops : Array Oper}
theorem evIx_ops : ∀ (l : List Oper) (k : Nat) (σ : St), (∀ j, j < l.length → l[j]? = ops[k + j]?) → evIx C P call f ops (List.range' k l.length) σ = evOps C P call f ops l σ := by
 intro l
 induction l with
 | nil => intro k σ _; rfl
 | cons o l ih =>
  intro k σ h
  have h0 := h 0 (by simp)
  simp only [List.getElem?_cons_zero, Nat.add_zero] at h0
  rw [List.length_cons, List.range'_succ, evOps_cons]
  simp only [evIx]
  rw [← h0]
  simp only []
  have : evIx C P call f ops (List.range' (k + 1) l.length) = evOps C P call f ops l := by
   funext τ
   exact ih (k + 1) τ fun j hj => by
    have := h (j + 1) (by simp; omega)
    rw [List.getElem?_cons_succ] at this
    rw [this, show k + (j + 1) = k + 1 + j by omega]
  rw [this]
theorem evIx_range (σ : St) : evIx C P call f ops (List.range ops.size) σ = evOps C P call f ops ops.toList σ := by
 rw [List.range_eq_range', show ops.size = ops.toList.length by simp]
 exact evIx_ops ops.toList 0 σ fun j _ => by simp
theorem front {i : Nat} {y : Oper} (hi : ops[i]? = some y) {post : List Nat} : ∀ (pre : List Nat) (σ σ' : St), (∀ j ∈ pre, ∃ x, ops[j]? = some x ∧ apartOps C P f ops x y = true) → evIx C P call f ops (pre ++ i :: post) σ = some σ' →
  ∃ σ3, evStep C P call f ops y σ = some σ3 ∧ evIx C P call f ops (pre ++ post) σ3 = some σ' := by
 intro pre
 induction pre with
 | nil =>
  intro σ σ' _ h
  simp only [List.nil_append, evIx] at h
  rw [hi] at h
  exact thenO_some h
 | cons j pre ih =>
  intro σ σ' hp h
  obtain ⟨x, hj, ha⟩ := hp j (by simp)
  simp only [List.cons_append, evIx] at h
  rw [hj] at h
  obtain ⟨σ1, h1, h2⟩ := thenO_some h
  obtain ⟨σ2, h3, h4⟩ := ih σ1 σ' (fun k hk => hp k (by simp [hk])) h2
  obtain ⟨σ3, h5, h6⟩ := swap ha h1 h3
  refine ⟨σ3, h5, ?_⟩
  simp only [List.cons_append, evIx]
  rw [hj]
  simp only []
  rw [h6]
  exact h4
theorem rowOk_spec {y : Oper} {m : Nat} : ∀ (l : List Oper) (k : Nat), rowOk C P f ops y m l k = true → ∀ (d : Nat) (x : Oper), l[d]? = some x → Nat.testBit m (k + d) = true ∨ apartOps C P f ops x y = true := by
 intro l
 induction l with
 | nil => intro k _ d x h; simp at h
 | cons o l ih =>
  intro k h d x hd
  simp only [rowOk, Bool.and_eq_true, Bool.or_eq_true] at h
  cases d with
  | zero => simp at hd; subst hd; exact h.1
  | succ d =>
   rw [List.getElem?_cons_succ] at hd
   have := ih (k + 1) h.2 d x hd
   rwa [show k + 1 + d = k + (d + 1) by omega] at this
theorem rowsOk_spec : ∀ (l : List Oper) (ms : List Nat) (k : Nat), rowsOk C P f ops l ms k = true → ∀ (d : Nat) (y : Oper), l[d]? = some y →
  ∃ m, ms[d]? = some m ∧ (∀ (j : Nat) (x : Oper), j < k + d → ops[j]? = some x → Nat.testBit m j = true ∨ apartOps C P f ops x y = true) ∧ ∀ e ∈ y.after, Region.binds .any e = true → e.on < k + d := by
 intro l
 induction l with
 | nil => intro ms k _ d x h; simp at h
 | cons o l ih =>
  intro ms k h d y hd
  cases ms with
  | nil => cases h
  | cons m ms =>
   simp only [rowsOk, Bool.and_eq_true] at h
   obtain ⟨⟨h1, h2⟩, h3⟩ := h
   cases d with
   | zero =>
    simp at hd; subst hd
    refine ⟨m, rfl, fun j x hj hx => ?_, fun e he hb => ?_⟩
    ·have := rowOk_spec (ops.toList.take k) 0 h1 j x (by rw [List.getElem?_take]; simp at hj; simp [hj, hx])
     simpa using this
    ·have := Array.all_eq_true'.1 h2 e he
     simp only [hb, Bool.not_true, Bool.false_or] at this
     exact Nat.le_of_ble_eq_true this
   | succ d =>
    rw [List.getElem?_cons_succ] at hd
    obtain ⟨m', g1, g2, g3⟩ := ih ms (k + 1) h3 d y hd
    refine ⟨m', by simpa using g1, fun j x hj hx => g2 j x (by omega) hx, fun e he hb => ?_⟩
    have := g3 e he hb; omega
theorem fold_bits (acc : List Nat) : ∀ (l : List Edge) (s k : Nat), Nat.testBit (l.foldl (fun s e => bif Region.binds .any e then Nat.lor (Nat.lor s (Nat.pow 2 e.on)) ((acc[e.on]?).getD 0) else s) s) k = true →
  Nat.testBit s k = true ∨ ∃ e ∈ l, Region.binds .any e = true ∧ (k = e.on ∨ Nat.testBit ((acc[e.on]?).getD 0) k = true) := by
 intro l
 induction l with
 | nil => intro s k h; exact .inl h
 | cons e l ih =>
  intro s k h
  rw [List.foldl_cons] at h
  rcases ih _ k h with h1 | ⟨e', he, hb, h2⟩
  ·cases hb : Region.binds .any e with
   | false => rw [hb] at h1; exact .inl h1
   | true =>
    rw [hb] at h1
    simp only [cond_true] at h1
    have h1 : ((s ||| 2 ^ e.on) ||| ((acc[e.on]?).getD 0)).testBit k = true := h1
    rw [Nat.testBit_or, Nat.testBit_or, Nat.testBit_two_pow] at h1
    simp only [Bool.or_eq_true, decide_eq_true_eq] at h1
    rcases h1 with (h1 | h1) | h1
    ·exact .inl h1
    ·exact .inr ⟨e, by simp, hb, .inl h1.symm⟩
    ·exact .inr ⟨e, by simp, hb, .inr h1⟩
  ·exact .inr ⟨e', by simp [he], hb, h2⟩
theorem maskOf_bits {acc : List Nat} {o : Oper} {k : Nat} (h : Nat.testBit (maskOf acc o) k = true) : ∃ e ∈ o.after, Region.binds .any e = true ∧ (k = e.on ∨ ∃ m, acc[e.on]? = some m ∧ Nat.testBit m k = true) := by
 rcases fold_bits acc o.after.toList 0 k h with h | ⟨e, he, hb, h⟩
 ·simp at h
 ·refine ⟨e, by simpa using he, hb, ?_⟩
  rcases h with h | h
  ·exact .inl h
  ·cases hm : acc[e.on]? with
   | none => rw [hm] at h; simp at h
   | some m => rw [hm] at h; exact .inr ⟨m, rfl, h⟩
theorem masks_pre : ∀ (l : List Oper) (acc : List Nat), acc <+: masks l acc := by
 intro l
 induction l with
 | nil => intro acc; exact List.prefix_refl _
 | cons o l ih => intro acc; exact (List.prefix_append acc [maskOf acc o]).trans (ih (acc ++ [maskOf acc o]))
theorem masks_at : ∀ (l : List Oper) (acc : List Nat) (d : Nat) (o : Oper), l[d]? = some o → ∃ acc', acc' <+: masks l acc ∧ (masks l acc)[acc.length + d]? = some (maskOf acc' o) := by
 intro l
 induction l with
 | nil => intro acc d o h; simp at h
 | cons o l ih =>
  intro acc d x h
  cases d with
  | zero =>
   simp at h; subst h
   refine ⟨acc, masks_pre (o :: l) acc, ?_⟩
   obtain ⟨r, hr⟩ := masks_pre l (acc ++ [maskOf acc o])
   show (masks l (acc ++ [maskOf acc o]))[acc.length + 0]? = _
   rw [← hr]; simp
  | succ d =>
   rw [List.getElem?_cons_succ] at h
   obtain ⟨acc', h1, h2⟩ := ih (acc ++ [maskOf acc o]) d x h
   refine ⟨acc', h1, ?_⟩
   rw [List.length_append, List.length_singleton] at h2
   rwa [show acc.length + (d + 1) = acc.length + 1 + d by omega]
theorem prefix_get {l l' : List Nat} (h : l <+: l') {i m : Nat} (hi : l[i]? = some m) : l'[i]? = some m := by
 obtain ⟨r, rfl⟩ := h
 rw [List.getElem?_append_left (lt_of_get? hi)]; exact hi
theorem mask_bit {i : Nat} {o : Oper} {m k : Nat} (ho : ops[i]? = some o) (hm : (masks ops.toList [])[i]? = some m) (hb : Nat.testBit m k = true) :
  ∃ e ∈ o.after, Region.binds .any e = true ∧ (k = e.on ∨ ∃ m', (masks ops.toList [])[e.on]? = some m' ∧ Nat.testBit m' k = true) := by
 obtain ⟨acc', h1, h2⟩ := masks_at ops.toList [] i o (by simpa using ho)
 simp only [List.length_nil, Nat.zero_add] at h2
 rw [hm] at h2; cases h2
 obtain ⟨e, he, hbe, h⟩ := maskOf_bits hb
 refine ⟨e, he, hbe, ?_⟩
 rcases h with h | ⟨m', h3, h4⟩
 ·exact .inl h
 ·exact .inr ⟨m', prefix_get h1 h3, h4⟩
end
end
end Go.Ef
namespace Go.Ef
open Go
noncomputable section
theorem ready_mem {md : Region.Mode} {ops : Array Oper} {listed : Array Bool} {i : Nat} (h : i ∈ Region.ready md ops listed) :
  i < ops.size ∧ listed.getD i true = false ∧ ∃ o, ops[i]? = some o ∧ ∀ e ∈ o.after, Region.binds md e = true → listed.getD e.on false = true := by
 unfold Region.ready at h
 simp only [List.mem_filter, List.mem_range, Bool.and_eq_true, Bool.not_eq_true'] at h
 obtain ⟨h1, h2, h3⟩ := h
 refine ⟨h1, h2, ops[i], by simp [h1], fun e he hb => ?_⟩
 rw [Array.getElem?_eq_getElem h1] at h3
 simp only [Option.map_some, Option.getD_some] at h3
 have := Array.all_eq_true'.1 h3 e he
 simpa [hb] using this
theorem mem_ready {md : Region.Mode} {ops : Array Oper} {listed : Array Bool} {i : Nat} {o : Oper} (h2 : listed.getD i true = false) (ho : ops[i]? = some o) (h : ∀ e ∈ o.after, Region.binds md e = true → listed.getD e.on false = true) : i ∈ Region.ready md ops listed := by
 have h1 : i < ops.size := by
  rcases Nat.lt_or_ge i ops.size with h' | h'
  ·exact h'
  ·simp [Array.getElem?_eq_none h'] at ho
 unfold Region.ready
 simp only [List.mem_filter, List.mem_range, Bool.and_eq_true, Bool.not_eq_true']
 refine ⟨h1, h2, ?_⟩
 rw [ho]
 simp only [Option.map_some, Option.getD_some]
 rw [Array.all_eq_true']
 intro e he
 cases hb : Region.binds md e with
 | false => rfl
 | true => simpa using h e he hb
theorem setListed {l : Array Bool} {i j : Nat} {d : Bool} : (l.setIfInBounds i true).getD j d = if i = j ∧ j < l.size then true else l.getD j d := by
 rw [Array.getD_eq_getD_getElem?, Array.getD_eq_getD_getElem?, Array.getElem?_setIfInBounds]
 by_cases h : i = j
 ·subst h
  by_cases h' : i < l.size <;> simp [h']
 ·simp [h]
section
variable {C : Cfg} {P : Program} {E : Ent} {call : CallF} {f : FuncId} {ops : Array Oper}
structure Inv (ops : Array Oper) (rest : List Nat) (listed : Array Bool) : Prop where
 sz : listed.size = ops.size
 sort : rest.Pairwise (· < ·)
 mem : ∀ j, j ∈ rest ↔ j < ops.size ∧ listed.getD j true = false
 down : ∀ (j m : Nat), listed.getD j false = true → (masks ops.toList [])[j]? = some m → ∀ k, Nat.testBit m k = true → listed.getD k false = true
theorem getD_flip {l : Array Bool} {j : Nat} (h : j < l.size) : l.getD j true = l.getD j false := by
 simp [Array.getD_eq_getD_getElem?, h]
theorem any_ok (S : Sane P C) (K : CallOk P C call) (B : Bodied P call) (hr : regOk C P f ops = true) {σ' : St} {Q : Exit → Act → World → Prop} (hq : ∀ L' μ' a' w', Rel C E L' μ' σ' a' w' → Q .normal a' w') :
  ∀ (fuel : Nat) (rest : List Nat) (listed : Array Bool) (L : List Nat) (μ : M) (σ : St) (a : Act) (w : World), rest.length = fuel → Inv ops rest listed → Rel C E L μ σ a w → evIx C P call f ops rest σ = some σ' → wpAny P .any ops Q fuel listed a w := by
 intro fuel
 induction fuel with
 | zero =>
  intro rest listed L μ σ a w hl I R h
  have : rest = [] := List.eq_nil_of_length_eq_zero hl
  subst this
  simp only [evIx] at h; cases h
  refine ⟨?_, hq L μ a w R⟩
  apply List.eq_nil_iff_forall_not_mem.2
  intro i hi
  obtain ⟨h1, h2, _⟩ := ready_mem hi
  have := (I.mem i).2 ⟨h1, h2⟩
  simp at this
 | succ fuel ih =>
  intro rest listed L μ σ a w hl I R h
  refine ⟨fun hnil => ?_, fun i hi => ?_⟩
  ·cases rest with
   | nil => simp at hl
   | cons i rest =>
    exfalso
    obtain ⟨h1, h2⟩ := (I.mem i).1 (by simp)
    have ho : ops[i]? = some ops[i] := by simp [h1]
    obtain ⟨m, _, _, hb⟩ := rowsOk_spec _ _ 0 hr i ops[i] (by simp)
    have : i ∈ Region.ready .any ops listed := by
     refine mem_ready h2 ho fun e he hbe => ?_
     have hlt := hb e he hbe
     simp only [Nat.zero_add] at hlt
     cases hx : listed.getD e.on false with
     | true => rfl
     | false =>
      exfalso
      have hsz : e.on < listed.size := by rw [I.sz]; omega
      have hm := (I.mem e.on).2 ⟨by omega, by rw [getD_flip hsz]; exact hx⟩
      rcases List.mem_cons.1 hm with e1 | e1
      ·omega
      ·have := List.rel_of_pairwise_cons I.sort e1
       omega
    rw [hnil] at this
    simp at this
  ·obtain ⟨h1, h2, o, ho, hedge⟩ := ready_mem hi
   have hin := (I.mem i).2 ⟨h1, h2⟩
   obtain ⟨pre, post, rfl⟩ := List.append_of_mem hin
   obtain ⟨m, hm, hap, _⟩ := rowsOk_spec _ _ 0 hr i o (by simpa using ho)
   have hbits : ∀ k, Nat.testBit m k = true → listed.getD k false = true := by
    intro k hk
    obtain ⟨e, he, hbe, hor⟩ := mask_bit ho hm hk
    have hle := hedge e he hbe
    rcases hor with rfl | ⟨m', hm', hk'⟩
    ·exact hle
    ·exact I.down e.on m' hle hm' k hk'
   have hsorted := I.sort
   rw [List.pairwise_append] at hsorted
   obtain ⟨hs1, hs2, hs3⟩ := hsorted
   obtain ⟨σ3, h3, h4⟩ := front ho pre σ σ' (fun j hj => by
    have hji : j < i := hs3 j hj i (by simp)
    have hjo : ops[j]? = some ops[j] := by simp [Nat.lt_trans hji h1]
    refine ⟨_, hjo, ?_⟩
    rcases hap j ops[j] (by omega) hjo with hb | hb
    ·have hl := hbits j hb
     have := ((I.mem j).1 (by simp [hj])).2
     rw [getD_flip (by rw [I.sz]; omega), hl] at this
     cases this
    ·exact hb) h
   refine step_ok R S K B ho h3 fun L' μ' a' w' R' => ?_
   refine ih (pre ++ post) _ L' μ' σ3 a' w' (by simp at hl ⊢; omega) ⟨?_, ?_, ?_, ?_⟩ R' h4
   ·simp [I.sz]
   ·rw [List.pairwise_append]
    exact ⟨hs1, (List.pairwise_cons.1 hs2).2, fun x hx y hy => hs3 x hx y (by simp [hy])⟩
   ·intro j
    rw [setListed]
    have hmem := I.mem j
    by_cases e : i = j
    ·subst e
     simp only [I.sz, h1, and_self, if_true]
     refine ⟨fun hj => ?_, fun hj => by simp at hj⟩
     exfalso
     rcases List.mem_append.1 hj with hj | hj
     ·exact absurd (hs3 i hj i (by simp)) (by omega)
     ·exact absurd ((List.pairwise_cons.1 hs2).1 i hj) (by omega)
    ·rw [if_neg (fun q => e q.1), ← hmem]
     simp only [List.mem_append, List.mem_cons]
     exact ⟨fun q => q.elim .inl (fun q => .inr (.inr q)), fun q => q.elim .inl (fun q => q.elim (fun q => absurd q.symm e) .inr)⟩
   ·intro j m' hj hm' k hk
    rw [setListed] at hj ⊢
    split
    ·rfl
    ·split at hj
     ·rename_i e
      obtain ⟨rfl, _⟩ := e
      rw [hm] at hm'; cases hm'
      exact hbits k hk
     ·exact I.down j m' hj hm' k hk
theorem Rel.drawn {L : List Nat} {μ : M} {σ : St} {a : Act} {w : World} (R : Rel C E L μ σ a w) (n : Nat) : Rel C E L μ σ a { w with drawn := n } where
 world := {
  imm := R.world.imm
  cells := fun id cs h => let ⟨b, base, sz, h1, h2, h3⟩ := R.world.cells id cs h; ⟨b, base, sz, h1, h2.keep (.refl _) rfl, h3⟩
  own := fun id k t n h => let ⟨b, e, r, h1, h2⟩ := R.world.own id k t n h; ⟨b, e, r, h1, ⟨h2.shape, h2.free, h2.imm⟩⟩
  map := fun id es h => let ⟨b, h1, h2, h3⟩ := R.world.map id es h; ⟨b, h1, ⟨h2.map⟩, h3⟩
  apart := R.world.apart
  next := R.world.next
  ro := R.world.ro
  pos := R.world.pos
  zero := R.world.zero
  fresh := R.world.fresh
  glob := R.world.glob
  ty := R.world.ty }
 ext := ⟨R.ext.le, R.ext.os, R.ext.tape, R.ext.output, R.ext.size, R.ext.ro, R.ext.next, R.ext.frame, R.ext.came, R.ext.imm⟩
 n := R.n
 tm := R.tm
 defers := R.defers
 len := R.len
 loc := fun k b o h1 h2 => let ⟨h3, h4⟩ := R.loc k b o h1 h2; ⟨h3.keep (.refl _) rfl, h4⟩
 nodup := R.nodup
theorem draw_ok {L : List Nat} {μ : M} {σ : St} {a : Act} {w : World} (R : Rel C E L μ σ a w) {id : Nat} (S : Sane P C) (K : CallOk P C call) (B : Bodied P call) (hm : P.follows .mixedOrders = true) (hr : regOk C P f ops = true) {σ' : St} (h : evOps C P call f ops ops.toList σ = some σ')
  {Q : Exit → Act → World → Prop} (hq : ∀ L' μ' a' w', Rel C E L' μ' σ' a' w' → Q .normal a' w') : (Code.region id ops true).wp P Q a w := by
 refine wp_region_any hm (any_ok S K B hr hq ops.size (List.range ops.size) _ L μ σ a _ (by simp) ⟨by simp, List.pairwise_lt_range, fun j => ?_, fun j m hj => ?_⟩ (R.drawn _) ((evIx_range σ).trans h))
 ·rw [List.mem_range]
  constructor
  ·intro h'; exact ⟨h', by simp [Array.getD_eq_getD_getElem?, h']⟩
  ·exact fun h' => h'.1
 ·exfalso
  rw [Array.getD_eq_getD_getElem?, Array.getElem?_replicate] at hj
  split at hj <;> simp at hj
end
end
end Go.Ef
namespace Go.Ef
open Go
noncomputable section
structure Fit (P : Program) (C : Cfg) : Prop where
 sane : Sane P C
 mixed : P.follows .mixedOrders = true
 regs : ∀ (f : FuncId) (fn : Func) (c : Code), P.funcs[f]? = some fn → fn.body = some c → codeOk C P f c = true
def exOf : Ex → Exit
 | .normal => .normal
 | .exit i => .exit i
 | .ret => .ret
def RunOk (P : Program) (C : Cfg) (n : Nat) (run : Run) : Prop :=
 ∀ f c σ e σ', run f c σ = some (e, σ') → codeOk C P f c = true → ∀ E L μ a w Q, Rel C E L μ σ a w → (∀ L' μ' a' w', Rel C E L' μ' σ' a' w' → Q (exOf e) a' w') →
  c.wp P Q a w ∧ ∀ b, c = .loop b → Code.rounds P b Q n a w
theorem argTr_get : ∀ (l : List AV) (i : Nat) (t : Tr Slot) (k : Nat), (argTr i l t).get k = if i ≤ k ∧ k < i + l.length then (l[k - i]?).map .v else t.get k := by
 intro l
 induction l with
 | nil => intro i t k; simp only [argTr, List.length_nil]; rw [if_neg (by omega)]
 | cons x l ih =>
  intro i t k
  simp only [argTr, List.length_cons]
  rw [ih, Tr.get_set]
  by_cases h : k = i
  ·subst h
   rw [if_neg (by omega), if_pos rfl, if_pos (by omega)]; simp
  ·by_cases h2 : i + 1 ≤ k ∧ k < i + 1 + l.length
   ·rw [if_pos h2, if_pos (by omega), show k - i = (k - (i + 1)) + 1 by omega]; simp
   ·rw [if_neg h2, if_neg (fun e => h e.symm), if_neg (by omega)]
section
variable {P : Program} {C : Cfg}
theorem keepTm_get (σ : St) (m : Nat) : ∀ (l : List Nat) (t : Nat), (keepTm σ m l).get t = if t ∈ l then some ((σ.at t).keep m) else none := by
 intro l
 induction l with
 | nil => intro t; simp [keepTm, Tr.get_leaf]
 | cons x l ih =>
  intro t
  show ((keepTm σ m l).set x ((σ.at x).keep m)).get t = _
  rw [Tr.get_set]
  by_cases h : x = t
  ·subst h; simp
  ·rw [if_neg h, ih]
   have : t ≠ x := fun e => h e.symm
   simp [this]
theorem tidy_rel {E : Ent} {L : List Nat} {μ : M} {σ : St} {a : Act} {w : World} (R : Rel C E L μ σ a w) (l : List Nat) (m : Nat) : Rel C E (L.take m) μ (σ.tidy l m) a w where
 world := R.world
 ext := R.ext
 n := R.n
 tm := by
  intro t ht
  have h0 := R.tm t ht
  have hat : (σ.tm.get t).getD σ.d = σ.at t := by unfold St.at; cases σ.tm.get t <;> rfl
  rw [hat] at h0
  show SlotRel (L.take m) μ (((keepTm σ m l).get t).getD .unk) _
  rw [keepTm_get]
  by_cases h : t ∈ l
  ·rw [if_pos h, Option.getD_some]
   cases hs : σ.at t with
   | unk => trivial
   | v a => rw [hs] at h0; exact h0
   | lp k off =>
    rw [hs] at h0
    obtain ⟨b, h1, h2⟩ := h0
    simp only [Slot.keep]
    cases hb : Nat.blt k m with
    | false => trivial
    | true =>
     have hk : k < m := Nat.le_of_ble_eq_true hb
     exact ⟨b, by rw [List.getElem?_take, if_pos hk]; exact h1, h2⟩
  ·rw [if_neg h]; trivial
 defers := R.defers
 len := by
  show (L.take m).length = (σ.loc.take m).length
  simp [R.len]
 loc := by
  intro k b o hk ho
  rw [List.getElem?_take] at hk
  replace ho : (σ.loc.take m)[k]? = some o := ho
  rw [List.getElem?_take] at ho
  split at hk
  ·rename_i hlt
   rw [if_pos hlt] at ho
   exact R.loc k b o hk ho
  ·cases hk
 nodup := by
  intro i j b hi hj
  rw [List.getElem?_take] at hi hj
  split at hi
  ·split at hj
   ·exact R.nodup i j b hi hj
   ·cases hj
  ·cases hi
theorem enter_rel {μ : M} {h : Heap} {w : World} (H : W C μ h w) {args : List AV} {vs : Array Value} (hv : VLs μ args vs) (m : Nat) :
  Rel C ⟨μ, h, w⟩ [] μ { n := args.length + (m - args.length), tm := argTr 0 args .leaf, d := .v (.sc undef), loc := [], h := h } { tmps := vs ++ Array.replicate (m - vs.size) undef, defers := [] } w where
 world := H
 ext := .refl _ _ _
 n := by simp [hv.1]
 tm := by
  intro t ht
  simp only [] at ht ⊢
  rw [argTr_get]
  by_cases h0 : t < args.length
  ·rw [if_pos (by omega)]
   have hvs : t < vs.size := by rw [← hv.1]; exact h0
   have := hv.2 t args[t] vs[t] (by simp [h0]) (by simp [hvs])
   rw [Nat.sub_zero, List.getElem?_eq_getElem h0]
   rw [Array.getD_eq_getD_getElem?, Array.getElem?_append_left hvs, Array.getElem?_eq_getElem hvs]
   exact this
  ·rw [if_neg (by omega)]
   have hvs : vs.size ≤ t := by rw [← hv.1]; omega
   rw [Array.getD_eq_getD_getElem?, Array.getElem?_append_right hvs, Array.getElem?_replicate]
   rw [if_pos (by rw [← hv.1]; omega)]
   exact .sc rfl
 defers := rfl
 len := rfl
 loc := fun k b o hk => by simp at hk
 nodup := fun i j b hk => by simp at hk
theorem callWith_ok {run : Run} {n : Nat} (F : Fit P C) (H : RunOk P C n run) : CallOk P C (callWith C P run) ∧ Bodied P (callWith C P run) := by
 constructor
 ·intro g args h r h' hc μ w vs W0 hv
  unfold callWith at hc
  split at hc
  ·rename_i fn hf
   split at hc
   ·rename_i c hb
    unfold endOf at hc
    split at hc
    ·rename_i e σ' hrun
     refine calls_of_wp hf hb (H g c _ e σ' hrun (F.regs g fn c hf hb) ⟨μ, h, w⟩ [] μ _ w _ (enter_rel W0 hv fn.ntmps) fun L' μ' a' w' R' => ?_).1
     have fin : packR σ' (evResults C P σ' fn.results.toList) = some (r, h') → a'.defers = [] ∧ ∃ v, (results fn a'.tmps).run P w' = .ok v w' ∧ CallEnd C μ h w r h' (.returned v) w' := by
      intro hp
      obtain ⟨v, h1, h2, rfl⟩ := pack_ok (P := P) R' hp
      exact ⟨R'.defers, v, h1, v, μ', rfl, h2, R'.world, R'.ext⟩
     split at hc
     ·cases hc
     ·cases e with
      | normal => exact fin hc
      | ret => exact fin hc
      | exit i => rename_i hne; exact absurd rfl (hne i)
    ·cases hc
   ·cases hc
  ·cases hc
 ·intro g args h r hc
  unfold callWith at hc
  split at hc
  ·rename_i fn hf
   split at hc
   ·rename_i c hb
    exact ⟨fn, hf, by rw [hb]; rfl⟩
   ·cases hc
  ·cases hc
theorem code1_ok {run : Run} {n : Nat} (F : Fit P C) (H : RunOk P C n run) : RunOk P C (n + 1) (evCode1 C P run) := by
 intro f c σ e σ' h hok E L μ a w Q R hq
 by_cases hl : ∃ b, c = .loop b
 ·obtain ⟨b, rfl⟩ := hl
  have hok' := hok
  simp only [codeOk] at hok'
  have key : Code.rounds P b Q (n + 1) a w := by
   simp only [evCode1] at h
   cases ht : C.tidy f (firstId 8 b) with
   | some t =>
    rw [ht] at h
    simp only [] at h
    unfold evLoop at h
    split at h
    ·rename_i e1 σ1 he
     refine (H f b _ e1 σ1 he hok' E _ μ a w _ (tidy_rel R _ _) fun L' μ' a' w' R' => ?_).1
     cases e1 with
     | normal => exact (H f (.loop b) σ1 e σ' h hok E L' μ' a' w' Q R' hq).2 b rfl
     | exit i => cases h; exact hq _ _ _ _ (tidy_rel R' _ _)
     | ret => cases h; exact hq _ _ _ _ (tidy_rel R' _ _)
    ·cases h
   | none =>
   rw [ht] at h
   simp only [] at h
   unfold evSeq at h
   split at h
   ·rename_i e1 σ1 he
    refine (H f b σ e1 σ1 he hok' E L μ a w _ R fun L' μ' a' w' R' => ?_).1
    split at h
    ·exact (H f (.loop b) σ1 e σ' h hok E L' μ' a' w' Q R' hq).2 b rfl
    ·rw [he] at h; cases h
     cases e with
     | normal => rename_i hne; exact absurd rfl hne
     | exit i => exact hq _ _ _ _ R'
     | ret => exact hq _ _ _ _ R'
   ·cases h
  exact ⟨wp_loop_rounds (n + 1) key, fun b' hb => by cases hb; exact key⟩
 refine ⟨?_, fun b hb => absurd ⟨b, hb⟩ hl⟩
 unfold evCode1 at h
 split at h
 ·cases h; exact wp_skip (hq L μ a w R)
 ·rename_i id ops draw
  obtain ⟨K, B⟩ := callWith_ok F H
  unfold evReg at h
  cases hd : draw && C.bad f id with
  | true => rw [hd] at h; cases h
  | false =>
   rw [hd] at h
   simp only [cond_false] at h
   split at h
   ·rename_i σ1 he
    cases h
    cases draw with
    | false => exact region_ok R F.sane K B he hq
    | true =>
     simp only [Bool.true_and] at hd
     simp only [codeOk, hd, Bool.not_true, Bool.false_or] at hok
     exact draw_ok R F.sane K B F.mixed hok he hq
   ·cases h
 ·rename_i x y
  simp only [codeOk, Bool.and_eq_true] at hok
  unfold evSeq at h
  split at h
  ·rename_i e1 σ1 he
   refine wp_seq (H f x σ e1 σ1 he hok.1 E L μ a w _ R fun L' μ' a' w' R' => ?_).1
   split at h
   ·exact (H f y σ1 e σ' h hok.2 E L' μ' a' w' Q R' hq).1
   ·rw [he] at h; cases h
    cases e with
    | normal => rename_i hne; exact absurd rfl hne
    | exit i => exact hq _ _ _ _ R'
    | ret => exact hq _ _ _ _ R'
  ·cases h
 ·rename_i x y z
  simp only [codeOk, Bool.and_eq_true] at hok
  unfold evCond at h
  split at h
  ·rename_i t ht
   have hv := V.sc_eq (val_rel R ht)
   refine wp_cond (t := t) hv ?_
   cases t with
   | true => exact (H f y σ e σ' h hok.1 E L μ a w Q R hq).1
   | false => exact (H f z σ e σ' h hok.2 E L μ a w Q R hq).1
  ·cases h
 ·rename_i id b
  simp only [codeOk] at hok
  unfold evBlk at h
  split at h
  ·rename_i e1 σ1 he
   refine wp_block (H f b σ e1 σ1 he hok E L μ a w _ R fun L' μ' a' w' R' => ?_).1
   split at h
   ·rename_i i
    cases hb : Nat.beq i id with
    | true =>
     rw [hb] at h; cases h
     have : i = id := Nat.eq_of_beq_eq_true hb
     simp only [exOf, Exit.inBlock, this, if_true]
     exact hq _ _ _ _ R'
    | false =>
     rw [hb] at h; rw [cond_false, he] at h; cases h
     have : i ≠ id := Nat.ne_of_beq_eq_false hb
     simp only [exOf, Exit.inBlock, this, if_false]
     exact hq _ _ _ _ R'
   ·rw [he] at h; cases h
    cases e with
    | normal => exact hq _ _ _ _ R'
    | exit i => rename_i hne; exact absurd rfl (hne i)
    | ret => exact hq _ _ _ _ R'
  ·cases h
 ·rename_i b; exact absurd ⟨b, rfl⟩ hl
 ·cases h; exact wp_exit (hq L μ a w R)
 ·cases h; exact wp_ret (hq L μ a w R)
 ·rename_i b
  simp only [codeOk] at hok
  refine wp_scope_straight (H f b σ e σ' h hok E L μ a w _ R fun L' μ' a' w' R' => ?_).1
  cases e <;> exact hq _ _ _ _ R'
 ·cases h; exact wp_label (hq L μ a w R)
 ·cases h
theorem code_ok (F : Fit P C) : ∀ n, RunOk P C n (evCode C P n) := by
 intro n
 induction n with
 | zero => intro f c σ e σ' h; cases h
 | succ n ih => exact code1_ok F ih
theorem call_ok (F : Fit P C) (n : Nat) {g : FuncId} {args : List AV} {h : Heap} {r : AV} {h' : Heap} (hc : evCall C P n g args h = some (r, h')) {μ : M} {w : World} {vs : Array Value} (H : W C μ h w) (hv : VLs μ args vs) : Calls P g vs w (CallEnd C μ h w r h') :=
 (callWith_ok F (code_ok F n)).1 g args h r h' hc μ w vs H hv
end
end
end Go.Ef
namespace Go.Ef
open Go Go.RowKit
noncomputable section
def imm0 (w : World) : M := { imm := fun b o => w.cell? ⟨b, o, none⟩, rho := fun _ => none, own := fun _ => none }
theorem imm0_bare (w : World) : (imm0 w).bare = imm0 w := rfl
def GlobOk (C : Cfg) (w : World) : Prop := ∀ g cs, C.glob g = some cs → ∀ (i : Nat) (x : AV), cs[i]? = some x → ∃ c, w.cell? ⟨g, i, none⟩ = some c ∧ V (imm0 w) x c
theorem heap0_get (id : Nat) : heap0.get id = none := rfl
theorem start {C : Cfg} {w : World} (hg : GlobOk C w) : W C (imm0 w) heap0 w where
 imm := fun _ _ _ h => h
 cells := fun id cs h => by rw [heap0_get] at h; cases h
 own := fun id k _ _ h => by rw [heap0_get] at h; cases h
 map := fun id es h => by rw [heap0_get] at h; cases h
 apart := fun i j b h => by simp [M.blk, heap0_get] at h
 next := fun id h => absurd (heap0_get id) h
 ro := Nat.zero_le _
 pos := Nat.zero_lt_one
 zero := rfl
 fresh := fun _ _ => ⟨rfl, rfl⟩
 glob := fun g cs h i x hx => hg g cs h i x hx
 ty := fun id t h => by simp [heap0, Tr.get_leaf] at h
theorem ext_below {w w' : World} {μ' : M} {h' : Heap} (X : Ext (imm0 w) heap0 w μ' h' w') : Below w.heap.size w w' :=
 ⟨X.os, X.tape, X.output, X.size, fun k hk => X.frame k hk fun id _ h => by simp [M.blk, heap0_get] at h⟩
theorem law_of_ev {P : Program} {C : Cfg} (F : Fit P C) (n : Nat) {g : FuncId} {args : List AV} {vs : Array Value} {w : World} {h' : Heap} {b : Bool} (hg : GlobOk C w) (hv : VLs (imm0 w) args vs)
  (hc : evCall C P n g args heap0 = some (.sc (.bool b), h')) : Calls P g vs w fun e w' => e = .returned (.bool b) ∧ Below w.heap.size w w' :=
 (call_ok F n hc (start hg) hv).mono fun e w' ⟨v, μ', he, h1, _, X⟩ => by
  cases h1 with
  | sc _ => exact ⟨he, ext_below X⟩
end
end Go.Ef
namespace Go.Ef
open Go Go.RowKit
noncomputable section
theorem cell_lt {w : World} {b o : Nat} {v : Value} (h : w.cell? ⟨b, o, none⟩ = some v) : b < w.heap.size := by
 rcases Nat.lt_or_ge b w.heap.size with h' | h'
 ·exact h'
 ·simp [World.cell?, Array.getElem?_eq_none h'] at h
theorem W.below {C : Cfg} {μ : M} {h : Heap} {w w' : World} (H : W C μ h w) (hb : Below w.heap.size w w') : W C μ h w' where
 imm := fun b o v hv => (cell_of_heap (hb.block b (cell_lt (H.imm b o v hv))) _).trans (H.imm b o v hv)
 cells := fun _ _ hg => H.old_cells (.refl _) hg (fun b hq => hb.block b (H.blk_lt hq)) (fun _ _ _ hp => hp)
 own := fun _ _ _ _ hg => H.old_own hg rfl (fun b hq => hb.block b (H.blk_lt hq)) (fun _ _ _ hp => hp)
 map := fun _ _ hg => H.old_map (.refl _) hg (fun b hq => hb.block b (H.blk_lt hq)) (fun _ _ _ hp => hp)
 apart := H.apart
 next := H.next
 ro := H.ro
 pos := H.pos
 zero := H.zero
 fresh := H.fresh
 glob := H.glob
 ty := H.keepTy rfl (Nat.le_refl _) (.refl _) fun b x hx => by rw [shape_of_heap (hb.block b (shape_lt hx))]; exact hx
theorem callEnd_below {C : Cfg} {μ : M} {h : Heap} {w w' : World} {r : AV} {v : Value} (H : W C μ h w) (hb : Below w.heap.size w w') (hv : V μ r v) : CallEnd C μ h w r h (.returned v) w' :=
 ⟨v, μ, rfl, hv, H.below hb,
  { le := .refl _, os := hb.os, tape := hb.tape, output := hb.output, size := hb.size, ro := rfl, next := Nat.le_refl _, frame := fun b hq _ => hb.block b hq, came := fun id _ hq _ => ⟨id, hq, .inl rfl⟩, imm := fun _ _ _ h0 h1 => absurd h0 h1 }⟩
end
end Go.Ef
namespace Go.Ef
open Go
noncomputable section
def copyP (T : Nat) (args : List AV) (h : Heap) : Option (AV × Heap) :=
 match args with
 | [.ptr id 0] => match h.ty.get id with
  | some (t, n) => bif Nat.beq t T && Nat.beq n 2 then
    (match h.get id with
     | some (.cells [.sc (.pointer none), x]) => match h.put id (.cells [.ptr id 0, x]) with
      | some h' => some (.sc (.tuple #[]), h')
      | none => none
     | some (.cells [.ptr id' 0, _]) => bif Nat.beq id' id then some (.sc (.tuple #[]), h) else none
     | _ => none)
   else none
  | none => none
 | _ => none
theorem args_one {μ : M} {x : AV} {vs : Array Value} (h : VLs μ [x] vs) : ∃ v, vs = #[v] ∧ V μ x v := by
 obtain ⟨h1, h2⟩ := h
 match vs, h1 with
 | ⟨[v]⟩, _ => exact ⟨v, rfl, h2 0 x v rfl rfl⟩
theorem args_two {μ : M} {x y : AV} {vs : Array Value} (h : VLs μ [x, y] vs) : ∃ u v, vs = #[u, v] ∧ V μ x u ∧ V μ y v := by
 obtain ⟨h1, h2⟩ := h
 match vs, h1 with
 | ⟨[u, v]⟩, _ => exact ⟨u, v, rfl, h2 0 x u rfl rfl, h2 1 y v rfl rfl⟩
theorem known_copy {P : Program} {C : Cfg} {g : FuncId} {T : TypeId} (hb : ∃ fn : Func, P.funcs[g]? = some fn ∧ fn.body.isSome = true)
  (fresh : ∀ (b : Nat) (w : World), w.cell? ⟨b, 0, none⟩ = some (.pointer none) → w.shape? b = some (T, 2) → w.frozen? ⟨b, 0, none⟩ = false →
   Calls P g #[.pointer (some ⟨b, 0, none⟩)] w fun e w' => e = .returned (.tuple #[]) ∧ w' = w.setCell ⟨b, 0, none⟩ (.pointer (some ⟨b, 0, none⟩)))
  (own : ∀ (b : Nat) (w : World), w.cell? ⟨b, 0, none⟩ = some (.pointer (some ⟨b, 0, none⟩)) → w.shape? b = some (T, 2) →
   Calls P g #[.pointer (some ⟨b, 0, none⟩)] w fun e w' => e = .returned (.tuple #[]) ∧ w' = w) : Known P C g (copyP T) := by
 refine .inl ⟨hb, fun args h r h' hp μ w vs H hv0 => ?_⟩
 unfold copyP at hp
 split at hp
 ·rename_i id
  obtain ⟨v, rfl, hv⟩ := args_one hv0
  split at hp
  ·rename_i t n hty
   obtain ⟨hq, hp2⟩ := cond_some hp
   clear hp
   simp only [Bool.and_eq_true] at hq
   obtain ⟨q1, q2⟩ := hq
   have q1 := beq_true q1
   have q2 := beq_true q2
   subst q1; subst q2
   obtain ⟨hid, b, sz, hr, hsh⟩ := H.ty id _ hty
   cases hv with
   | ptr hr' =>
    rw [hr] at hr'; cases hr'
    simp only [Nat.add_zero]
    split at hp2
    ·rename_i x hg
     split at hp2
     ·rename_i h1 hput
      cases hp2
      obtain ⟨b', base', sz', hr', ok, hno⟩ := H.cells id _ hg
      rw [hr] at hr'; cases hr'
      obtain ⟨y, hy, hvy⟩ := ok.cell 0 _ rfl
      have hy0 : y = .pointer none := by cases hvy with | sc _ => rfl
      subst hy0
      refine (fresh b w hy hsh (ok.free 0)).mono fun e w' ⟨he, hw⟩ => ?_
      subst he
      have hw : w' = w.setCells b 0 [.pointer (some ⟨b, 0, none⟩)] := hw
      subst hw
      have okw := cells_write (off := 0) (new := [.ptr id 0]) (r := [.ptr id 0, x]) (vs := [.pointer (some ⟨b, 0, none⟩)]) ok rfl rfl (fun i u q hu hq => by
       match i with
       | 0 => simp at hu hq; subst hu; subst hq; exact V.ptr (base := 0) hr
       | i + 1 => simp at hu)
      obtain ⟨H1, X1⟩ := H.write hg hput hr [.pointer (some ⟨b, 0, none⟩)] okw
      exact ⟨_, μ, rfl, .sc rfl, H1, X1⟩
     ·cases hp2
    ·rename_i id' x hg
     obtain ⟨q3, hp3⟩ := cond_some hp2
     have q3 := beq_true q3
     subst q3
     cases hp3
     obtain ⟨b', base', sz', hr', ok, hno⟩ := H.cells id' _ hg
     rw [hr] at hr'; cases hr'
     obtain ⟨y, hy, hvy⟩ := ok.cell 0 _ rfl
     cases hvy with
     | ptr hr2 =>
      rw [hr] at hr2; cases hr2
      refine (own b w hy hsh).mono fun e w' ⟨he, hw⟩ => ?_
      subst he; subst hw
      exact ⟨_, μ, rfl, .sc rfl, H, .refl _ _ _⟩
    ·cases hp2
  ·cases hp
 ·cases hp
end
end Go.Ef
namespace Go.Ef
open Go Go.RowKit
noncomputable section
theorem freeze_at (w : World) (a : Addr) (n r : Nat) : (w.freeze a n).heap[r]? = w.heap[r]? ∨
  ∃ c e f f', w.heap[r]? = some (.cells c e f) ∧ (w.freeze a n).heap[r]? = some (.cells c e f') := by
 unfold World.freeze
 split
 ·exact .inl rfl
 ·simp only [Array.getElem?_modify]
  by_cases h : a.block = r
  ·simp only [h, if_true]
   cases hr : w.heap[r]? with
   | none => exact .inl rfl
   | some o =>
    cases o with
    | cells c e f => exact .inr ⟨c, e, f, _, rfl, rfl⟩
    | _ => exact .inl rfl
  ·simp only [h, if_false]; exact .inl trivial
theorem freeze_heap (w : World) (a : Addr) (n r : Nat) (h : r ≠ a.block) : (w.freeze a n).heap[r]? = w.heap[r]? := by
 unfold World.freeze
 split
 ·rfl
 ·simp only [Array.getElem?_modify]
  rw [if_neg (fun e => h e.symm)]
theorem freeze_cell (w : World) (a : Addr) (n : Nat) (x : Addr) : (w.freeze a n).cell? x = w.cell? x := by
 unfold World.cell?
 rcases freeze_at w a n x.block with h | ⟨c, e, f, f', h1, h2⟩
 ·rw [h]
 ·rw [h1, h2]
theorem freeze_shape (w : World) (a : Addr) (n r : Nat) : (w.freeze a n).shape? r = w.shape? r := by
 unfold World.shape?
 rcases freeze_at w a n r with h | ⟨c, e, f, f', h1, h2⟩
 ·rw [h]
 ·rw [h1, h2]
theorem freeze_rest (w : World) (a : Addr) (n : Nat) : (w.freeze a n).heap.size = w.heap.size ∧ (w.freeze a n).os = w.os ∧ (w.freeze a n).tape = w.tape ∧ (w.freeze a n).output = w.output := by
 unfold World.freeze
 split
 ·exact ⟨rfl, rfl, rfl, rfl⟩
 ·exact ⟨by simp, rfl, rfl, rfl⟩
theorem W.other {C : Cfg} {μ : M} {h : Heap} {w w' : World} (H : W C μ h w) {g : Nat} (hn : ∀ id, μ.blk h id ≠ some g) (hr : ∀ r, r ≠ g → w'.heap[r]? = w.heap[r]?)
  (hc : ∀ x, w'.cell? x = w.cell? x) (hs : ∀ r, w'.shape? r = w.shape? r) : W C μ h w' where
 imm := fun b o v hv => (hc _).trans (H.imm b o v hv)
 cells := fun id _ hg => H.old_cells (.refl _) hg (fun b hq => hr b fun e => hn id (e ▸ hq)) (fun _ _ _ hp => hp)
 own := fun id _ _ _ hg => H.old_own hg rfl (fun b hq => hr b fun e => hn id (e ▸ hq)) (fun _ _ _ hp => hp)
 map := fun id _ hg => H.old_map (.refl _) hg (fun b hq => hr b fun e => hn id (e ▸ hq)) (fun _ _ _ hp => hp)
 apart := H.apart
 next := H.next
 ro := H.ro
 pos := H.pos
 zero := H.zero
 fresh := H.fresh
 glob := H.glob
 ty := H.keepTy rfl (Nat.le_refl _) (.refl _) fun b _ hx => (hs b).trans hx
theorem W.frozen {C : Cfg} {μ : M} {h h1 : Heap} {w : World} (H : W C μ h w) {id g o n k e v : Nat} (hg : h.get id = some (.own k e v)) (hblk : μ.blk h id = some g) (hp : h.put id .dead = some h1) (m : Nat) :
    W C μ h1 ((w.drewN m).freeze ⟨g, o, none⟩ n) ∧ Ext μ h w μ h1 ((w.drewN m).freeze ⟨g, o, none⟩ n) := by
  obtain ⟨H1, X1⟩ := H.kill hp (by rw [hg]; simp)
  obtain ⟨p1, p2, p3⟩ := put_rest hp
  have hfree : ∀ j, μ.blk h1 j ≠ some g := by
    intro j hj
    rw [kill_blk hp] at hj
    split at hj
    · cases hj
    · rename_i hne
      exact hne (H.apart id j g hblk hj)
  obtain ⟨f1, f2, f3, f4⟩ := freeze_rest (w.drewN m) ⟨g, o, none⟩ n
  have hold : ∀ r, r ≠ g → ((w.drewN m).freeze ⟨g, o, none⟩ n).heap[r]? = w.heap[r]? := fun r hr => freeze_heap (w.drewN m) ⟨g, o, none⟩ n r hr
  refine ⟨H1.other hfree hold (fun x => freeze_cell (w.drewN m) _ n x) (fun r => freeze_shape (w.drewN m) _ n r), ?_⟩
  exact { le := .refl _, os := f2, tape := f3, output := f4, size := by rw [f1]; exact Nat.le_refl _, ro := X1.ro, next := X1.next,
          frame := fun b _ hb => hold b fun q => hb id p3 (q ▸ hblk), came := X1.came, imm := fun _ _ _ a1 a2 => absurd a1 a2 }
def byteS : List AV → Option UInt8
 | [.sc (.int .u8 n)] => bif decide (n = ((UInt8.ofNat n.toNat).toNat : Int)) then some (UInt8.ofNat n.toNat) else none
 | _ => none
theorem byteS_spec {e : List AV} {x : UInt8} (h : byteS e = some x) : e = [.sc (.int .u8 x.toNat)] := by
 unfold byteS at h
 split at h
 ·obtain ⟨h1, h2⟩ := cond_some h
  have h1 := of_decide_eq_true h1
  cases h2
  rw [← h1]
 ·cases h
def stringP (T E : Nat) (args : List AV) (h : Heap) : Option (AV × Heap) :=
 match args with
 | [.ptr id 0] => match h.ty.get id with
  | some (t, n) => bif Nat.beq t T && Nat.beq n 2 then
    (match h.get id with
     | some (.cells [_, .sc (.slice none 0 0)]) => some (.sc (.string .empty), h)
     | some (.cells [_, .sl els (tok + 1)]) => match h.get tok with
      | some (.own k e v) => bif (Nat.beq k 1 && Nat.beq e E && !els.isEmpty && Nat.ble els.length maxRoom) && Nat.beq els.length v then
        (match mapO byteS els, h.put tok .dead with
        | some bs, some h' => some (.sc (.string ⟨⟨bs⟩⟩), h')
        | _, _ => none) else none
      | _ => none
     | _ => none)
   else none
  | none => none
 | _ => none
theorem known_string {P : Program} {C : Cfg} {g : FuncId} {T B : TypeId} (hb : ∃ fn : Func, P.funcs[g]? = some fn ∧ fn.body.isSome = true)
  (empty : ∀ (b : Nat) (w : World), w.cell? ⟨b, 1, none⟩ = some (.slice none 0 0) →
   Calls P g #[.pointer (some ⟨b, 0, none⟩)] w fun e w' => e = .returned (.string .empty) ∧ ∃ m, w' = w.drewN m)
  (full : ∀ (b q o cap n : Nat) (l : List UInt8) (w : World), l ≠ [] → w.cell? ⟨b, 1, none⟩ = some (.slice (some ⟨q, o, none⟩) l.length cap) → w.shape? q = some (B, n) → o + l.length ≤ n → l.length ≤ cap → l.length ≤ maxRoom →
   (∀ (j : Nat) (x : UInt8), l[j]? = some x → w.cell? ⟨q, o + j, none⟩ = some (.int .u8 x.toNat)) →
   Calls P g #[.pointer (some ⟨b, 0, none⟩)] w fun e w' => e = .returned (.string ⟨l.toArray⟩) ∧ ∃ m, w' = (w.drewN m).freeze ⟨q, o, none⟩ l.length) : Known P C g (stringP T B) := by
 refine .inl ⟨hb, fun args h r h' hp μ w vs H hv0 => ?_⟩
 unfold stringP at hp
 split at hp
 ·rename_i id
  obtain ⟨v, rfl, hv⟩ := args_one hv0
  split at hp
  ·rename_i t n hty
   obtain ⟨hq, hp2⟩ := cond_some hp
   clear hp
   obtain ⟨hid, b, sz, hr, hsh⟩ := H.ty id _ hty
   cases hv with
   | ptr hr' =>
    rw [hr] at hr'; cases hr'
    simp only [Nat.add_zero]
    split at hp2
    ·rename_i x hg
     cases hp2
     obtain ⟨b', base', sz', hr', ok, hno⟩ := H.cells id _ hg
     rw [hr] at hr'; cases hr'
     obtain ⟨y, hy, hvy⟩ := ok.cell 1 _ rfl
     cases hvy with
     | sc _ =>
      refine (empty b w hy).mono fun e w' ⟨he, m, hw⟩ => ?_
      subst he; subst hw
      exact callEnd_below H ⟨rfl, rfl, rfl, Nat.le_refl _, fun _ _ => rfl⟩ (.sc rfl)
    ·rename_i x els tok hg
     obtain ⟨b', base', sz', hr', ok, hno⟩ := H.cells id _ hg
     rw [hr] at hr'; cases hr'
     obtain ⟨y, hy, hvy⟩ := ok.cell 1 _ rfl
     split at hp2
     ·rename_i k e v hgt
      obtain ⟨hq2, hp3⟩ := cond_some hp2
      clear hp2
      simp only [Bool.and_eq_true, Bool.not_eq_true'] at hq2
      obtain ⟨⟨⟨⟨e1, e2⟩, e3⟩, e4⟩, e5⟩ := hq2
      have e5 := beq_true e5
      subst e5
      have e4 := ble_true e4
      have e1 := beq_true e1
      have e2 := beq_true e2
      subst e1; subst e2
      split at hp3
      ·rename_i bs h1 hbs hput
       cases hp3
       obtain ⟨G, En, Rm, hown, hO⟩ := H.own tok _ _ _ hgt
       have htok0 : tok ≠ 0 := by rintro rfl; rw [H.zero] at hgt; cases hgt
       have hsp := mapO_spec hbs
       have hbne : bs ≠ [] := by
        intro q
        have hl := hsp.1
        rw [q] at hl
        cases els with
        | nil => simp at e3
        | cons a r => simp at hl
       cases hvy with
       | sl1 q1 q2 q3 q4 q5 q6 =>
        rename_i B' o n' cap k' c
        have hpos : 0 < els.length := by
         cases els with
         | nil => simp at e3
         | cons a r => simp
        have hone : ∀ a ∈ els, a.length = 1 := by
         intro a ha
         obtain ⟨j, hj, rfl⟩ := List.getElem_of_mem ha
         have hjb : j < bs.length := by rw [hsp.1]; exact hj
         obtain ⟨a0, ha0, hf⟩ := mapO_back hbs j _ (List.getElem?_eq_getElem hjb)
         rw [List.getElem?_eq_getElem hj] at ha0; cases ha0
         rw [byteS_spec hf]; rfl
        have hk1 : k' = 1 := by
         have := q3 els[0] (List.getElem_mem hpos)
         rw [hone els[0] (List.getElem_mem hpos)] at this
         exact this.symm
        subst hk1
        rcases q6 with q6 | ⟨G', En', Rm', v', w1, _, w2⟩
        ·exact absurd q6 htok0
        ·rw [hown] at w1; cases w1
         have w2 := w2 q1.symm
         rcases w2 with ⟨w2, _⟩ | ⟨rfl, w3, w4⟩
         ·omega
         ·have hlen : bs.length = els.length := hsp.1
          obtain ⟨ns, hns, hfit⟩ := hO.shape
          have hblk : μ.blk h tok = some G := by simp [M.blk, hgt, hown]
          have hcell : ∀ (j : Nat) (x : UInt8), bs[j]? = some x → w.cell? ⟨G, o + j, none⟩ = some (.int .u8 x.toNat) := by
           intro j x hx
           obtain ⟨a0, ha0, hf⟩ := mapO_back hbs j x hx
           have hs := byteS_spec hf
           subst hs
           have i1 := q4 j _ 0 _ ha0 rfl
           have i2 := q5 j _ 0 _ ha0 rfl
           have i3 := V.sc_eq i2
           rw [i3] at i1
           have := H.imm _ _ _ i1
           rw [show o + j * 1 + 0 = o + j by omega] at this
           exact this
          subst q1
          rw [← hlen] at hy
          refine (full b G o cap ns bs w hbne hy hns (by omega) (by omega) (by omega) hcell).mono fun e w' ⟨he, m, hw⟩ => ?_
          subst he; subst hw
          obtain ⟨H2, X2⟩ := H.frozen hgt hblk hput (o := o) (n := bs.length) m
          exact ⟨_, μ, rfl, .sc rfl, H2, X2⟩
      ·cases hp3
     ·cases hp2
    ·cases hp2
  ·cases hp
 ·cases hp
end
end Go.Ef
namespace Go.Ef
open Go Go.RowKit Go.Shelf Go.Proofs
theorem lies_off {P : Program} {e : TypeId} (hc : P.cellsOf e = 1) (count o n : Nat) (hn : o + n ≤ count) : liesAt P P.depth e count o e n = true := by
 have hd : P.depth = (2 * (P.types.size + Made.depth) + 1) + 1 := rfl
 rw [hd]
 simp only [liesAt, Bool.or_eq_true]
 left
 rw [hd]
 simp [rowAt, hc, hn, sameLayout, Nat.mod_one]
theorem unsafeString_off {P : Program} (w : World) (pt it ty e : TypeId) (hp : P.underlying pt = some (.pointer e)) (hc : P.cellsOf e = 1) (g o cells : Nat) (hsh : w.shape? g = some (e, cells)) (l : List UInt8) (h0 : l ≠ []) (hn : o + l.length ≤ cells) (h63 : l.length ≤ 9223372036854775807)
  (hcell : ∀ (j : Nat) (x : UInt8), l[j]? = some x → w.cell? ⟨g, o + j, none⟩ = some (.int .u8 x.toNat)) :
  (Builtin.unsafeString_ #[pt, it] ty #[.pointer (some ⟨g, o, none⟩), .int .i64 l.length]).run P w = .ok (.string ⟨l.toArray⟩) (w.freeze ⟨g, o, none⟩ l.length) := by
 have hl : l.length ≠ 0 := by simpa using h0
 have hlb := Lib.run_loadBytes (P := P) w l ⟨g, o, none⟩ .empty (fun j x hx => by cases j <;> simpa [Addr.add] using hcell _ x hx)
 have hlies := lies_off (P := P) hc (cells / P.cellsOf e) o l.length (by rw [hc]; simpa using hn)
 have h63' : ¬ (9223372036854775807 : Int) < (l.length : Int) := by omega
 have hdef : Builtin.unsafeString_ #[pt, it] ty #[.pointer (some ⟨g, o, none⟩), .int .i64 l.length] =
   (do
    let n ← asInt (.int .i64 l.length)
    if n < 0 then runtimePanic (.error "unsafe.String: len out of range")
    if n > IntKind.i64.max then unsupported (.unsafePointer "String: a length above the largest int")
    if n = 0 then pure (.string .empty)
    else if ← variablesAt ⟨g, o, none⟩ (← elemOf pt) n.toNat then do
     let s ← loadBytes ⟨g, o, none⟩ .empty n.toNat
     freeze ⟨g, o, none⟩ n.toNat
     pure (.string s)
    else unsupported (.unsafePointer "String: not so many bytes at ptr")) := rfl
 rw [hdef]
 have hmax : IntKind.i64.max = 9223372036854775807 := rfl
 have hneg : ¬ (l.length : Int) < 0 := by omega
 simp [asInt, asIntOf, hmax, h63', hneg, hl, variablesAt, hsh, elemOf, run_underlying hp, hlies, hlb]
section
variable {P : Program} {ρ : Ren} {C : Cfg}
set_option maxHeartbeats 1000000 in
set_option maxRecDepth 100000 in
theorem string_full (L : Lays.n169 P ρ) (X : Builder.Extra P ρ) (b q o cap n : Nat) (l : List UInt8) (w : World) (h0 : l ≠ []) (hc : w.cell? ⟨b, 1, none⟩ = some (.slice (some ⟨q, o, none⟩) l.length cap)) (hs : w.shape? q = some (ρ.t 5, n)) (hn : o + l.length ≤ n) (hcap : l.length ≤ cap) (h63 : l.length ≤ 9223372036854775807)
  (hcell : ∀ (j : Nat) (x : UInt8), l[j]? = some x → w.cell? ⟨q, o + j, none⟩ = some (.int .u8 x.toNat)) :
  Calls P (ρ.f 169) #[.pointer (some ⟨b, 0, none⟩)] w fun e w' => e = .returned (.string ⟨l.toArray⟩) ∧ ∃ m, w' = (w.drewN m).freeze ⟨q, o, none⟩ l.length := by
 have hl0 : l.length ≠ 0 := by simpa using h0
 have c1 : w.drew.cell? ⟨b, 1, none⟩ = some (.slice (some ⟨q, o, none⟩) l.length cap) := hc
 have hSD : (Builtin.unsafeSliceData_ #[(ρ.t 37)] (ρ.t 127) #[.slice (some ⟨q, o, none⟩) l.length cap]).run P w.drew = .ok (.pointer (some ⟨q, o, none⟩)) w.drew :=
  Lib.run_unsafeSliceData_row _ _ _ _ _ _ (by omega)
 have hUS : (Builtin.unsafeString_ #[(ρ.t 127), (ρ.t 3)] (ρ.t 9) #[.pointer (some ⟨q, o, none⟩), .int .i64 l.length]).run P w.drew = .ok (.string ⟨l.toArray⟩) (w.drew.freeze ⟨q, o, none⟩ l.length) :=
  unsafeString_off w.drew _ _ _ _ L.t127 X.cellsByte q o n hs l h0 hn h63 hcell
 have mixed := L.mixed
 have t72 := L.t72; have a72 := L.a72; have z72 := L.z72; have v72 := L.v72; have u72 := run_underlying L.t72
 have t70 := L.t70; have a70 := L.a70; have z70 := L.z70; have v70 := L.v70; have u70 := run_underlying L.t70
 have t37 := L.t37; have a37 := L.a37; have z37 := L.z37; have v37 := L.v37; have u37 := run_underlying L.t37
 have t127 := L.t127; have a127 := L.a127; have z127 := L.z127; have v127 := L.v127; have u127 := run_underlying L.t127
 have t3 := L.t3; have a3 := L.a3; have z3 := L.z3; have v3 := L.v3; have u3 := run_underlying L.t3
 have t9 := L.t9; have a9 := L.a9; have z9 := L.z9; have v9 := L.v9; have u9 := run_underlying L.t9
 have t5 := X.t5; have a5 := X.a5; have z5 := X.z5; have v5 := X.v5; have u5 := run_underlying X.t5
 go_enter L.f169, Body.n169_ntmps ρ
 go_wp2
 go_region_o
 all_goals (go_wp2; go_ret; exact ⟨rfl, 1, rfl⟩)
set_option maxHeartbeats 1000000 in
set_option maxRecDepth 100000 in
theorem string_empty (L : Lays.n169 P ρ) (X : Builder.Extra P ρ) (b : Nat) (w : World) (hc : w.cell? ⟨b, 1, none⟩ = some (.slice none 0 0)) :
  Calls P (ρ.f 169) #[.pointer (some ⟨b, 0, none⟩)] w fun e w' => e = .returned (.string .empty) ∧ ∃ m, w' = w.drewN m := by
 have hUS := Any.unsafeString_none L X
 have c1 : w.drew.cell? ⟨b, 1, none⟩ = some (.slice none 0 0) := hc
 have mixed := L.mixed
 have t72 := L.t72; have a72 := L.a72; have z72 := L.z72; have v72 := L.v72; have u72 := run_underlying L.t72
 have t70 := L.t70; have a70 := L.a70; have z70 := L.z70; have v70 := L.v70; have u70 := run_underlying L.t70
 have t37 := L.t37; have a37 := L.a37; have z37 := L.z37; have v37 := L.v37; have u37 := run_underlying L.t37
 have t127 := L.t127; have a127 := L.a127; have z127 := L.z127; have v127 := L.v127; have u127 := run_underlying L.t127
 have t3 := L.t3; have a3 := L.a3; have z3 := L.z3; have v3 := L.v3; have u3 := run_underlying L.t3
 have t9 := L.t9; have a9 := L.a9; have z9 := L.z9; have v9 := L.v9; have u9 := run_underlying L.t9
 have hSD := Lib.run_unsafeSliceData_nil (P := P) (w := w.drew) #[(ρ.t 37)] (ρ.t 127) 0 0
 go_enter L.f169, Body.n169_ntmps ρ
 go_wp2
 go_region_o
 all_goals (go_wp2; go_ret; exact ⟨rfl, 1, rfl⟩)
theorem shelf_string (L : Lays.n169 P ρ) (X : Builder.Extra P ρ) (hb : ∃ fn : Func, P.funcs[ρ.f 169]? = some fn ∧ fn.body.isSome = true) : Known P C (ρ.f 169) (stringP (ρ.t 72) (ρ.t 5)) := by
 have hm : maxRoom ≤ 9223372036854775807 := by decide
 exact known_string hb (fun b w h => string_empty L X b w h) fun b q o cap n l w h0 h1 h2 h3 h4 h5 h6 => string_full L X b q o cap n l w h0 h1 h2 h3 h4 (Nat.le_trans h5 hm) h6
end
end Go.Ef
namespace Go.Ef
open Go Go.RowKit
noncomputable section
def placeOf (c : UInt8) : List UInt8 → Nat → Int
 | [], _ => -1
 | b :: l, n => bif Nat.beq b.toNat c.toNat then (n : Int) else placeOf c l (n + 1)
theorem indexByte_cons (b c : UInt8) (l : List UInt8) : Lib.indexByte (b :: l) c = if b = c then 0 else if Lib.indexByte l c = -1 then -1 else Lib.indexByte l c + 1 := by
 simp [Lib.indexByte]
theorem placeOf_eq (c : UInt8) : ∀ (l : List UInt8) (n : Nat), placeOf c l n = if Lib.indexByte l c = -1 then -1 else Lib.indexByte l c + n := by
 intro l
 induction l with
 | nil => intro n; rfl
 | cons b l ih =>
  intro n
  have hge := Lib.indexByte_ge l c
  simp only [placeOf]
  rw [indexByte_cons]
  by_cases h : b = c
  ·subst h
   rw [show Nat.beq b.toNat b.toNat = true from Nat.beq_refl _]
   simp
  ·have hb : Nat.beq b.toNat c.toNat = false := by
    cases hq : Nat.beq b.toNat c.toNat with
    | false => rfl
    | true => exact absurd (UInt8.toNat_inj.1 (Nat.eq_of_beq_eq_true hq)) h
   rw [hb, ih, if_neg h]
   simp only [cond_false]
   by_cases h2 : Lib.indexByte l c = -1
   ·simp [h2]
   ·have h4 : ¬ Lib.indexByte l c + 1 = -1 := by omega
    simp only [if_neg h2, if_neg h4]
    omega
theorem placeOf_zero (c : UInt8) (l : List UInt8) : placeOf c l 0 = Lib.indexByte l c := by
 rw [placeOf_eq]
 split
 ·rename_i h; exact h.symm
 ·simp
def indexByteP (args : List AV) (h : Heap) : Option (AV × Heap) :=
 match args with
 | [.sc (.string s), .sc (.int .u8 c)] => some (.sc (.int .i64 (placeOf c.toNat.toUInt8 s.data.toList 0)), h)
 | _ => none
theorem extern_run {P : Program} {g : FuncId} {fn : Func} {f : Array Value → Sem Value} (hf : P.funcs[g]? = some fn) (hn : (fn.name == "runtime.NumGoroutine") = false) (hb : fn.body.isNone = true)
  (hx : Extern.findNext fn = none) (hy : Extern.find fn = some f) {vs : Array Value} {w w' : World} {v : Value} (hr : (f vs).run P w = .ok v w') : (callFunc g vs).run P w = .ok (.value v) w' := by
 simp only [callFunc, Sem.run_bind, run_program, Result.andThen_ok, hf]
 simp [hn, hb, hx, hy, hr]
theorem known_indexByte {P : Program} {C : Cfg} {g : FuncId} {fn : Func} (hf : P.funcs[g]? = some fn) (hn : (fn.name == "runtime.NumGoroutine") = false) (hb : fn.body.isNone = true)
  (hx : Extern.findNext fn = none) (hy : Extern.find fn = some Extern.BytealgIndexByte.indexByte) : Known P C g indexByteP := by
 refine .inr fun args h r h' hp μ w vs H hv0 => ?_
 unfold indexByteP at hp
 split at hp
 ·rename_i s c
  cases hp
  obtain ⟨u, v, rfl, h1, h2⟩ := args_two hv0
  cases h1 with
  | sc _ => cases h2 with
   | sc _ =>
    refine ⟨_, w, extern_run hf hn hb hx hy ?_, callEnd_below H (Below.refl _ _) (.sc rfl)⟩
    rw [placeOf_zero]
    exact Lib.run_indexByteString s c w
 ·cases hp
end
end Go.Ef
namespace Go.Ef
open Go Go.RowKit Go.Shelf Go.Proofs
def strS : List AV → Option ByteArray
 | [.sc (.string s)] => some s
 | _ => none
theorem strS_spec {e : List AV} {s : ByteArray} (h : strS e = some s) : e = [.sc (.string s)] := by
 unfold strS at h
 split at h
 ·cases h; rfl
 ·cases h
noncomputable def joinP (args : List AV) (h : Heap) : Option (AV × Heap) :=
 match args with
 | [.sc (.slice none 0 0), .sc (.string _)] => some (.sc (.string ⟨#[]⟩), h)
 | [.sl els _, .sc (.string sep)] => match mapO strS els with
  | some xs => bif Nat.ble xs.length maxRoom && Nat.ble (Lib.join (xs.map (·.data.toList)) sep.data.toList).length maxRoom then
    some (.sc (.string ⟨(Lib.join (xs.map (·.data.toList)) sep.data.toList).toArray⟩), h) else none
  | none => none
 | _ => none
def repeatP (args : List AV) (h : Heap) : Option (AV × Heap) :=
 match args with
 | [.sc (.string s), .sc (.int .i64 n)] => bif decide (0 ≤ n) && Nat.ble n.toNat maxRoom && Nat.ble (s.size * n.toNat) maxRoom then
   some (.sc (.string ⟨(Lib.repeatL s.data.toList n.toNat).toArray⟩), h) else none
 | _ => none
theorem sl_strings {C : Cfg} {μ : M} {h : Heap} {w : World} (H : W C μ h w) {els : List (List AV)} {tok : Nat} {xs : List ByteArray} (hx : mapO strS els = some xs) {v : Value} (hv : V μ (.sl els tok) v) :
  ∃ b o cap, v = .slice (some ⟨b, o, none⟩) xs.length cap ∧ xs.length ≤ cap ∧ ∀ (j : Nat) (x : ByteArray), xs[j]? = some x → w.cell? ⟨b, o + j, none⟩ = some (.string x) := by
 have hsp := mapO_spec hx
 have key : ∀ {b o k : Nat} {c : Nat → Nat → Value} {ν : M}, (∀ e ∈ els, e.length = k) →
   (∀ (i : Nat) (e : List AV) (j : Nat) (x : AV), els[i]? = some e → e[j]? = some x → μ.imm b (o + i * k + j) = some (c i j)) →
   (∀ (i : Nat) (e : List AV) (j : Nat) (x : AV), els[i]? = some e → e[j]? = some x → V ν x (c i j)) → ∀ (j : Nat) (x : ByteArray), xs[j]? = some x → w.cell? ⟨b, o + j, none⟩ = some (.string x) := by
  intro b o k c ν h3 h4 h5 j x hj
  obtain ⟨e, he, hf⟩ := mapO_back hx j x hj
  have hs := strS_spec hf
  subst hs
  have hk : k = 1 := (h3 _ (List.mem_of_getElem? he)).symm
  subst hk
  have i1 := h4 j _ 0 _ he rfl
  have i3 := V.sc_eq (h5 j _ 0 _ he rfl)
  rw [i3] at i1
  have := H.imm _ _ _ i1
  rw [show o + j * 1 + 0 = o + j by omega] at this
  exact this
 cases hv with
 | sl0 h1 h2 h3 h4 h5 =>
  subst h1
  rw [hsp.1]
  exact ⟨_, _, _, rfl, h2, key h3 h4 h5⟩
 | sl1 h1 h2 h3 h4 h5 h6 =>
  subst h1
  rw [hsp.1]
  exact ⟨_, _, _, rfl, h2, key h3 h4 h5⟩
section
variable {P : Program} {ρ : Ren} {C : Cfg}
theorem shelf_join (L : Lays.n156 P ρ) (X : Builder.Extra P ρ) (hb : ∃ fn : Func, P.funcs[ρ.f 156]? = some fn ∧ fn.body.isSome = true) : Known P C (ρ.f 156) joinP := by
 refine .inl ⟨hb, fun args h r h' hp μ w vs H hv0 => ?_⟩
 unfold joinP at hp
 split at hp
 ·cases hp
  obtain ⟨u, v, rfl, h1, h2⟩ := args_two hv0
  cases h1 with
  | sc _ => cases h2 with
   | sc _ =>
    refine (Any.strings_Join_none L X none 0 _ w).mono fun e w' ⟨he, hw⟩ => ?_
    subst he; subst hw
    exact callEnd_below H (Below.refl _ _) (.sc rfl)
 ·rename_i els tok sep
  obtain ⟨u, v, rfl, h1, h2⟩ := args_two hv0
  cases h2 with
  | sc _ =>
   split at hp
   ·rename_i xs hx
    obtain ⟨hq, hp2⟩ := cond_some hp
    cases hp2
    simp only [Bool.and_eq_true] at hq
    have q1 := ble_true hq.1
    have q2 := ble_true hq.2
    obtain ⟨b, o, cap, rfl, hcap, hcell⟩ := sl_strings H hx h1
    cases hxs : xs with
    | nil =>
     subst hxs
     refine (Any.strings_Join_none L X (some ⟨b, o, none⟩) cap sep w).mono fun e w' ⟨he, hw⟩ => ?_
     subst he; subst hw
     exact callEnd_below H (Below.refl _ _) (.sc rfl)
    | cons x r =>
     have hlt : b < w.heap.size := cell_lt (hcell 0 x (by rw [hxs]; rfl))
     rw [← hxs]
     refine (Any.strings_Join L X b o cap xs sep w hcell hlt q1 hcap q2).mono fun e w' ⟨he, hw⟩ => ?_
     subst he
     exact callEnd_below H hw (.sc rfl)
   ·cases hp
 ·cases hp
theorem shelf_repeat (L : Lays.n105 P ρ) (X : Builder.Extra P ρ) (hb : ∃ fn : Func, P.funcs[ρ.f 105]? = some fn ∧ fn.body.isSome = true) : Known P C (ρ.f 105) repeatP := by
 refine .inl ⟨hb, fun args h r h' hp μ w vs H hv0 => ?_⟩
 unfold repeatP at hp
 split at hp
 ·rename_i s n
  obtain ⟨u, v, rfl, h1, h2⟩ := args_two hv0
  cases h1 with
  | sc _ => cases h2 with
   | sc _ =>
    obtain ⟨hq, hp2⟩ := cond_some hp
    cases hp2
    simp only [Bool.and_eq_true, decide_eq_true_eq] at hq
    obtain ⟨⟨q0, q1⟩, q2⟩ := hq
    have q1 := ble_true q1
    have q2 := ble_true q2
    have hm : maxRoom = 140737488355328 := by decide
    have hn : n = (n.toNat : Int) := (Int.toNat_of_nonneg q0).symm
    have := Any.strings_Repeat L X s n.toNat w (by omega) (by omega)
    rw [← hn] at this
    refine this.mono fun e w' ⟨he, hw⟩ => ?_
    subst he
    exact callEnd_below H hw (.sc rfl)
 ·cases hp
end
end Go.Ef
