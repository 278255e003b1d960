/- Functions of the library as known functions of the evaluator. -/
import Derived.Test.YtfgocjmkefeeeaaDoorEfD
import Derived.Deep.Draws
import Derived.Shelf.Strings.Builder1
import Derived.Lib.UnsafeStr
import Derived.Shelf.RegionOpenPlain
import Derived.Lib.Walk
import Derived.WalkKit
import Derived.Lib.Bytealg
import Derived.Shelf.Strings.OnBuilder
import Derived.Shelf.Strings.Repeat
/- Known functions: strings.Builder's check of itself. -/
namespace Go.Ef
open Go
noncomputable section

def copyP (T : Nat) (args : List AV) (h : Heap) : Option (AV × Heap) :=
  match args with
  | [.ptr id 0] => match h.ty.get id with
    | some (t, n) => bif Nat.beq t T && Nat.beq n 2 then
        (match h.get id with
         | some (.cells [.sc (.pointer none), x]) => match h.put id (.cells [.ptr id 0, x]) with
           | some h' => some (.sc (.tuple #[]), h')
           | none => none
         | some (.cells [.ptr id' 0, _]) => bif Nat.beq id' id then some (.sc (.tuple #[]), h) else none
         | _ => none)
      else none
    | none => none
  | _ => none

theorem args_one {μ : M} {x : AV} {vs : Array Value} (h : VLs μ [x] vs) : ∃ v, vs = #[v] ∧ V μ x v := by
  obtain ⟨h1, h2⟩ := h
  match vs, h1 with
  | ⟨[v]⟩, _ => exact ⟨v, rfl, h2 0 x v rfl rfl⟩
theorem args_two {μ : M} {x y : AV} {vs : Array Value} (h : VLs μ [x, y] vs) : ∃ u v, vs = #[u, v] ∧ V μ x u ∧ V μ y v := by
  obtain ⟨h1, h2⟩ := h
  match vs, h1 with
  | ⟨[u, v]⟩, _ => exact ⟨u, v, rfl, h2 0 x u rfl rfl, h2 1 y v rfl rfl⟩

theorem known_copy {P : Program} {C : Cfg} {g : FuncId} {T : TypeId} (hb : ∃ fn : Func, P.funcs[g]? = some fn ∧ fn.body.isSome = true)
    (fresh : ∀ (b : Nat) (w : World), w.cell? ⟨b, 0, none⟩ = some (.pointer none) → w.shape? b = some (T, 2) → w.frozen? ⟨b, 0, none⟩ = false →
      Calls P g #[.pointer (some ⟨b, 0, none⟩)] w fun e w' => e = .returned (.tuple #[]) ∧ w' = w.setCell ⟨b, 0, none⟩ (.pointer (some ⟨b, 0, none⟩)))
    (own : ∀ (b : Nat) (w : World), w.cell? ⟨b, 0, none⟩ = some (.pointer (some ⟨b, 0, none⟩)) → w.shape? b = some (T, 2) →
      Calls P g #[.pointer (some ⟨b, 0, none⟩)] w fun e w' => e = .returned (.tuple #[]) ∧ w' = w) : Known P C g (copyP T) := by
  refine .inl ⟨hb, fun args h r h' hp μ w vs H hv0 => ?_⟩
  unfold copyP at hp
  split at hp
  · rename_i id
    obtain ⟨v, rfl, hv⟩ := args_one hv0
    split at hp
    · rename_i t n hty
      obtain ⟨hq, hp2⟩ := cond_some hp
      clear hp
      simp only [Bool.and_eq_true] at hq
      obtain ⟨q1, q2⟩ := hq
      have q1 := beq_true q1
      have q2 := beq_true q2
      subst q1; subst q2
      obtain ⟨hid, b, sz, hr, hsh⟩ := H.ty id _ hty
      cases hv with
      | ptr hr' =>
        rw [hr] at hr'; cases hr'
        simp only [Nat.add_zero]
        split at hp2
        · rename_i x hg
          split at hp2
          · rename_i h1 hput
            cases hp2
            obtain ⟨b', base', sz', hr', ok, hno⟩ := H.cells id _ hg
            rw [hr] at hr'; cases hr'
            obtain ⟨y, hy, hvy⟩ := ok.cell 0 _ rfl
            have hy0 : y = .pointer none := by cases hvy with | sc _ => rfl
            subst hy0
            refine (fresh b w hy hsh (ok.free 0)).mono fun e w' ⟨he, hw⟩ => ?_
            subst he
            have hw : w' = w.setCells b 0 [.pointer (some ⟨b, 0, none⟩)] := hw
            subst hw
            have okw := cells_write (off := 0) (new := [.ptr id 0]) (r := [.ptr id 0, x]) (vs := [.pointer (some ⟨b, 0, none⟩)]) ok rfl rfl (fun i u q hu hq => by
              match i with
              | 0 => simp at hu hq; subst hu; subst hq; exact V.ptr (base := 0) hr
              | i + 1 => simp at hu)
            obtain ⟨H1, X1⟩ := H.write hg hput hr [.pointer (some ⟨b, 0, none⟩)] okw
            exact ⟨_, μ, rfl, .sc rfl, H1, X1⟩
          · cases hp2
        · rename_i id' x hg
          obtain ⟨q3, hp3⟩ := cond_some hp2
          have q3 := beq_true q3
          subst q3
          cases hp3
          obtain ⟨b', base', sz', hr', ok, hno⟩ := H.cells id' _ hg
          rw [hr] at hr'; cases hr'
          obtain ⟨y, hy, hvy⟩ := ok.cell 0 _ rfl
          cases hvy with
          | ptr hr2 =>
            rw [hr] at hr2; cases hr2
            refine (own b w hy hsh).mono fun e w' ⟨he, hw⟩ => ?_
            subst he; subst hw
            exact ⟨_, μ, rfl, .sc rfl, H, .refl _ _ _⟩
        · cases hp2
    · cases hp
  · cases hp

end
end Go.Ef

/- Known functions: strings.Builder's String. -/
namespace Go.Ef
open Go Go.RowKit
noncomputable section

theorem freeze_at (w : World) (a : Addr) (n r : Nat) : (w.freeze a n).heap[r]? = w.heap[r]? ∨
    ∃ c e f f', w.heap[r]? = some (.cells c e f) ∧ (w.freeze a n).heap[r]? = some (.cells c e f') := by
  unfold World.freeze
  split
  · exact .inl rfl
  · simp only [Array.getElem?_modify]
    by_cases h : a.block = r
    · simp only [h, if_true]
      cases hr : w.heap[r]? with
      | none => exact .inl rfl
      | some o =>
        cases o with
        | cells c e f => exact .inr ⟨c, e, f, _, rfl, rfl⟩
        | _ => exact .inl rfl
    · simp only [h, if_false]; exact .inl trivial
theorem freeze_heap (w : World) (a : Addr) (n r : Nat) (h : r ≠ a.block) : (w.freeze a n).heap[r]? = w.heap[r]? := by
  unfold World.freeze
  split
  · rfl
  · simp only [Array.getElem?_modify]
    rw [if_neg (fun e => h e.symm)]
theorem freeze_cell (w : World) (a : Addr) (n : Nat) (x : Addr) : (w.freeze a n).cell? x = w.cell? x := by
  unfold World.cell?
  rcases freeze_at w a n x.block with h | ⟨c, e, f, f', h1, h2⟩
  · rw [h]
  · rw [h1, h2]
theorem freeze_shape (w : World) (a : Addr) (n r : Nat) : (w.freeze a n).shape? r = w.shape? r := by
  unfold World.shape?
  rcases freeze_at w a n r with h | ⟨c, e, f, f', h1, h2⟩
  · rw [h]
  · rw [h1, h2]
theorem freeze_rest (w : World) (a : Addr) (n : Nat) : (w.freeze a n).heap.size = w.heap.size ∧ (w.freeze a n).os = w.os ∧ (w.freeze a n).tape = w.tape ∧ (w.freeze a n).output = w.output := by
  unfold World.freeze
  split
  · exact ⟨rfl, rfl, rfl, rfl⟩
  · exact ⟨by simp, rfl, rfl, rfl⟩

/- A block of nobody's may turn in what is not read. -/
theorem W.other {C : Cfg} {μ : M} {h : Heap} {w w' : World} (H : W C μ h w) {g : Nat} (hn : ∀ id, μ.blk h id ≠ some g) (hr : ∀ r, r ≠ g → w'.heap[r]? = w.heap[r]?)
    (hc : ∀ x, w'.cell? x = w.cell? x) (hs : ∀ r, w'.shape? r = w.shape? r) : W C μ h w' where
  imm := fun b o v hv => (hc _).trans (H.imm b o v hv)
  cells := fun id _ hg => H.old_cells (.refl _) hg (fun b hq => hr b fun e => hn id (e ▸ hq)) (fun _ _ _ hp => hp)
  own := fun id _ _ _ hg => H.old_own hg rfl (fun b hq => hr b fun e => hn id (e ▸ hq)) (fun _ _ _ hp => hp)
  map := fun id _ hg => H.old_map (.refl _) hg (fun b hq => hr b fun e => hn id (e ▸ hq)) (fun _ _ _ hp => hp)
  apart := H.apart
  next := H.next
  ro := H.ro
  pos := H.pos
  zero := H.zero
  fresh := H.fresh
  glob := H.glob
  ty := H.keepTy rfl (Nat.le_refl _) (.refl _) fun b _ hx => (hs b).trans hx

/- The bytes that a string was made of are never written again. -/
theorem W.frozen {C : Cfg} {μ : M} {h h1 : Heap} {w : World} (H : W C μ h w) {id g o n k e v : Nat} (hg : h.get id = some (.own k e v)) (hblk : μ.blk h id = some g) (hp : h.put id .dead = some h1) (m : Nat) :
    W C μ h1 ((w.drewN m).freeze ⟨g, o, none⟩ n) ∧ Ext μ h w μ h1 ((w.drewN m).freeze ⟨g, o, none⟩ n) := by
  obtain ⟨H1, X1⟩ := H.kill hp (by rw [hg]; simp)
  obtain ⟨p1, p2, p3⟩ := put_rest hp
  have hfree : ∀ j, μ.blk h1 j ≠ some g := by
    intro j hj
    rw [kill_blk hp] at hj
    split at hj
    · cases hj
    · rename_i hne
      exact hne (H.apart id j g hblk hj)
  obtain ⟨f1, f2, f3, f4⟩ := freeze_rest (w.drewN m) ⟨g, o, none⟩ n
  have hold : ∀ r, r ≠ g → ((w.drewN m).freeze ⟨g, o, none⟩ n).heap[r]? = w.heap[r]? := fun r hr => freeze_heap (w.drewN m) ⟨g, o, none⟩ n r hr
  refine ⟨H1.other hfree hold (fun x => freeze_cell (w.drewN m) _ n x) (fun r => freeze_shape (w.drewN m) _ n r), ?_⟩
  exact { le := .refl _, os := f2, tape := f3, output := f4, size := by rw [f1]; exact Nat.le_refl _, ro := X1.ro, next := X1.next,
          frame := fun b _ hb => hold b fun q => hb id p3 (q ▸ hblk), came := X1.came, imm := fun _ _ _ a1 a2 => absurd a1 a2 }

/- A byte that a cell holds. -/
def byteS : List AV → Option UInt8
  | [.sc (.int .u8 n)] => bif decide (n = ((UInt8.ofNat n.toNat).toNat : Int)) then some (UInt8.ofNat n.toNat) else none
  | _ => none
theorem byteS_spec {e : List AV} {x : UInt8} (h : byteS e = some x) : e = [.sc (.int .u8 x.toNat)] := by
  unfold byteS at h
  split at h
  · obtain ⟨h1, h2⟩ := cond_some h
    have h1 := of_decide_eq_true h1
    cases h2
    rw [← h1]
  · cases h

def stringP (T E : Nat) (args : List AV) (h : Heap) : Option (AV × Heap) :=
  match args with
  | [.ptr id 0] => match h.ty.get id with
    | some (t, n) => bif Nat.beq t T && Nat.beq n 2 then
        (match h.get id with
         | some (.cells [_, .sc (.slice none 0 0)]) => some (.sc (.string .empty), h)
         | some (.cells [_, .sl els (tok + 1)]) => match h.get tok with
           | some (.own k e v) => bif (Nat.beq k 1 && Nat.beq e E && !els.isEmpty && Nat.ble els.length maxRoom) && Nat.beq els.length v then
               (match mapO byteS els, h.put tok .dead with
                | some bs, some h' => some (.sc (.string ⟨⟨bs⟩⟩), h')
                | _, _ => none) else none
           | _ => none
         | _ => none)
      else none
    | none => none
  | _ => none

theorem known_string {P : Program} {C : Cfg} {g : FuncId} {T B : TypeId} (hb : ∃ fn : Func, P.funcs[g]? = some fn ∧ fn.body.isSome = true)
    (empty : ∀ (b : Nat) (w : World), w.cell? ⟨b, 1, none⟩ = some (.slice none 0 0) →
      Calls P g #[.pointer (some ⟨b, 0, none⟩)] w fun e w' => e = .returned (.string .empty) ∧ ∃ m, w' = w.drewN m)
    (full : ∀ (b q o cap n : Nat) (l : List UInt8) (w : World), l ≠ [] → w.cell? ⟨b, 1, none⟩ = some (.slice (some ⟨q, o, none⟩) l.length cap) → w.shape? q = some (B, n) → o + l.length ≤ n → l.length ≤ cap → l.length ≤ maxRoom →
      (∀ (j : Nat) (x : UInt8), l[j]? = some x → w.cell? ⟨q, o + j, none⟩ = some (.int .u8 x.toNat)) →
      Calls P g #[.pointer (some ⟨b, 0, none⟩)] w fun e w' => e = .returned (.string ⟨l.toArray⟩) ∧ ∃ m, w' = (w.drewN m).freeze ⟨q, o, none⟩ l.length) : Known P C g (stringP T B) := by
  refine .inl ⟨hb, fun args h r h' hp μ w vs H hv0 => ?_⟩
  unfold stringP at hp
  split at hp
  · rename_i id
    obtain ⟨v, rfl, hv⟩ := args_one hv0
    split at hp
    · rename_i t n hty
      obtain ⟨hq, hp2⟩ := cond_some hp
      clear hp
      obtain ⟨hid, b, sz, hr, hsh⟩ := H.ty id _ hty
      cases hv with
      | ptr hr' =>
        rw [hr] at hr'; cases hr'
        simp only [Nat.add_zero]
        split at hp2
        · rename_i x hg
          cases hp2
          obtain ⟨b', base', sz', hr', ok, hno⟩ := H.cells id _ hg
          rw [hr] at hr'; cases hr'
          obtain ⟨y, hy, hvy⟩ := ok.cell 1 _ rfl
          cases hvy with
          | sc _ =>
            refine (empty b w hy).mono fun e w' ⟨he, m, hw⟩ => ?_
            subst he; subst hw
            exact callEnd_below H ⟨rfl, rfl, rfl, Nat.le_refl _, fun _ _ => rfl⟩ (.sc rfl)
        · rename_i x els tok hg
          obtain ⟨b', base', sz', hr', ok, hno⟩ := H.cells id _ hg
          rw [hr] at hr'; cases hr'
          obtain ⟨y, hy, hvy⟩ := ok.cell 1 _ rfl
          split at hp2
          · rename_i k e v hgt
            obtain ⟨hq2, hp3⟩ := cond_some hp2
            clear hp2
            simp only [Bool.and_eq_true, Bool.not_eq_true'] at hq2
            obtain ⟨⟨⟨⟨e1, e2⟩, e3⟩, e4⟩, e5⟩ := hq2
            have e5 := beq_true e5
            subst e5
            have e4 := ble_true e4
            have e1 := beq_true e1
            have e2 := beq_true e2
            subst e1; subst e2
            split at hp3
            · rename_i bs h1 hbs hput
              cases hp3
              obtain ⟨G, En, Rm, hown, hO⟩ := H.own tok _ _ _ hgt
              have htok0 : tok ≠ 0 := by rintro rfl; rw [H.zero] at hgt; cases hgt
              have hsp := mapO_spec hbs
              have hbne : bs ≠ [] := by
                intro q
                have hl := hsp.1
                rw [q] at hl
                cases els with
                | nil => simp at e3
                | cons a r => simp at hl
              cases hvy with
              | sl1 q1 q2 q3 q4 q5 q6 =>
                rename_i B' o n' cap k' c
                have hpos : 0 < els.length := by
                  cases els with
                  | nil => simp at e3
                  | cons a r => simp
                have hone : ∀ a ∈ els, a.length = 1 := by
                  intro a ha
                  obtain ⟨j, hj, rfl⟩ := List.getElem_of_mem ha
                  have hjb : j < bs.length := by rw [hsp.1]; exact hj
                  obtain ⟨a0, ha0, hf⟩ := mapO_back hbs j _ (List.getElem?_eq_getElem hjb)
                  rw [List.getElem?_eq_getElem hj] at ha0; cases ha0
                  rw [byteS_spec hf]; rfl
                have hk1 : k' = 1 := by
                  have := q3 els[0] (List.getElem_mem hpos)
                  rw [hone els[0] (List.getElem_mem hpos)] at this
                  exact this.symm
                subst hk1
                rcases q6 with q6 | ⟨G', En', Rm', v', w1, _, w2⟩
                · exact absurd q6 htok0
                · rw [hown] at w1; cases w1
                  have w2 := w2 q1.symm
                  rcases w2 with ⟨w2, _⟩ | ⟨rfl, w3, w4⟩
                  · omega
                  · have hlen : bs.length = els.length := hsp.1
                    obtain ⟨ns, hns, hfit⟩ := hO.shape
                    have hblk : μ.blk h tok = some G := by simp [M.blk, hgt, hown]
                    have hcell : ∀ (j : Nat) (x : UInt8), bs[j]? = some x → w.cell? ⟨G, o + j, none⟩ = some (.int .u8 x.toNat) := by
                      intro j x hx
                      obtain ⟨a0, ha0, hf⟩ := mapO_back hbs j x hx
                      have hs := byteS_spec hf
                      subst hs
                      have i1 := q4 j _ 0 _ ha0 rfl
                      have i2 := q5 j _ 0 _ ha0 rfl
                      have i3 := V.sc_eq i2
                      rw [i3] at i1
                      have := H.imm _ _ _ i1
                      rw [show o + j * 1 + 0 = o + j by omega] at this
                      exact this
                    subst q1
                    rw [← hlen] at hy
                    refine (full b G o cap ns bs w hbne hy hns (by omega) (by omega) (by omega) hcell).mono fun e w' ⟨he, m, hw⟩ => ?_
                    subst he; subst hw
                    obtain ⟨H2, X2⟩ := H.frozen hgt hblk hput (o := o) (n := bs.length) m
                    exact ⟨_, μ, rfl, .sc rfl, H2, X2⟩
            · cases hp3
          · cases hp2
        · cases hp2
    · cases hp
  · cases hp

end
end Go.Ef

/- strings.Builder off the shelf, in the form that the evaluation takes. -/
namespace Go.Ef
open Go Go.RowKit Go.Shelf Go.Proofs

theorem lies_off {P : Program} {e : TypeId} (hc : P.cellsOf e = 1) (count o n : Nat) (hn : o + n ≤ count) : liesAt P P.depth e count o e n = true := by
  have hd : P.depth = (2 * (P.types.size + Made.depth) + 1) + 1 := rfl
  rw [hd]
  simp only [liesAt, Bool.or_eq_true]
  left
  rw [hd]
  simp [rowAt, hc, hn, sameLayout, Nat.mod_one]

theorem unsafeString_off {P : Program} (w : World) (pt it ty e : TypeId) (hp : P.underlying pt = some (.pointer e)) (hc : P.cellsOf e = 1) (g o cells : Nat) (hsh : w.shape? g = some (e, cells)) (l : List UInt8) (h0 : l ≠ []) (hn : o + l.length ≤ cells) (h63 : l.length ≤ 9223372036854775807)
    (hcell : ∀ (j : Nat) (x : UInt8), l[j]? = some x → w.cell? ⟨g, o + j, none⟩ = some (.int .u8 x.toNat)) :
    (Builtin.unsafeString_ #[pt, it] ty #[.pointer (some ⟨g, o, none⟩), .int .i64 l.length]).run P w = .ok (.string ⟨l.toArray⟩) (w.freeze ⟨g, o, none⟩ l.length) := by
  have hl : l.length ≠ 0 := by simpa using h0
  have hlb := Lib.run_loadBytes (P := P) w l ⟨g, o, none⟩ .empty (fun j x hx => by cases j <;> simpa [Addr.add] using hcell _ x hx)
  have hlies := lies_off (P := P) hc (cells / P.cellsOf e) o l.length (by rw [hc]; simpa using hn)
  have h63' : ¬ (9223372036854775807 : Int) < (l.length : Int) := by omega
  have hdef : Builtin.unsafeString_ #[pt, it] ty #[.pointer (some ⟨g, o, none⟩), .int .i64 l.length] =
      (do
        let n ← asInt (.int .i64 l.length)
        if n < 0 then runtimePanic (.error "unsafe.String: len out of range")
        if n > IntKind.i64.max then unsupported (.unsafePointer "String: a length above the largest int")
        if n = 0 then pure (.string .empty)
        else if ← variablesAt ⟨g, o, none⟩ (← elemOf pt) n.toNat then do
          let s ← loadBytes ⟨g, o, none⟩ .empty n.toNat
          freeze ⟨g, o, none⟩ n.toNat
          pure (.string s)
        else unsupported (.unsafePointer "String: not so many bytes at ptr")) := rfl
  rw [hdef]
  have hmax : IntKind.i64.max = 9223372036854775807 := rfl
  have hneg : ¬ (l.length : Int) < 0 := by omega
  simp [asInt, asIntOf, hmax, h63', hneg, hl, variablesAt, hsh, elemOf, run_underlying hp, hlies, hlb]

section
variable {P : Program} {ρ : Ren} {C : Cfg}

theorem shelf_copy (L : Lays.n240 P ρ) (X : Builder.X72 P ρ) (hb : ∃ fn : Func, P.funcs[ρ.f 240]? = some fn ∧ fn.body.isSome = true) : Known P C (ρ.f 240) (copyP (ρ.t 72)) :=
  known_copy hb (fun b w h1 h2 h3 => Any.Builder_copyCheck_fresh L X b w h1 h2 h3) (fun b w h1 _ => Any.Builder_copyCheck_used L X b w h1)

set_option maxHeartbeats 1000000 in
set_option maxRecDepth 100000 in
theorem string_full (L : Lays.n169 P ρ) (X : Builder.Extra P ρ) (b q o cap n : Nat) (l : List UInt8) (w : World) (h0 : l ≠ []) (hc : w.cell? ⟨b, 1, none⟩ = some (.slice (some ⟨q, o, none⟩) l.length cap)) (hs : w.shape? q = some (ρ.t 5, n)) (hn : o + l.length ≤ n) (hcap : l.length ≤ cap) (h63 : l.length ≤ 9223372036854775807)
    (hcell : ∀ (j : Nat) (x : UInt8), l[j]? = some x → w.cell? ⟨q, o + j, none⟩ = some (.int .u8 x.toNat)) :
    Calls P (ρ.f 169) #[.pointer (some ⟨b, 0, none⟩)] w fun e w' => e = .returned (.string ⟨l.toArray⟩) ∧ ∃ m, w' = (w.drewN m).freeze ⟨q, o, none⟩ l.length := by
  have hl0 : l.length ≠ 0 := by simpa using h0
  have c1 : w.drew.cell? ⟨b, 1, none⟩ = some (.slice (some ⟨q, o, none⟩) l.length cap) := hc
  have hSD : (Builtin.unsafeSliceData_ #[(ρ.t 37)] (ρ.t 127) #[.slice (some ⟨q, o, none⟩) l.length cap]).run P w.drew = .ok (.pointer (some ⟨q, o, none⟩)) w.drew :=
    Lib.run_unsafeSliceData_row _ _ _ _ _ _ (by omega)
  have hUS : (Builtin.unsafeString_ #[(ρ.t 127), (ρ.t 3)] (ρ.t 9) #[.pointer (some ⟨q, o, none⟩), .int .i64 l.length]).run P w.drew = .ok (.string ⟨l.toArray⟩) (w.drew.freeze ⟨q, o, none⟩ l.length) :=
    unsafeString_off w.drew _ _ _ _ L.t127 X.cellsByte q o n hs l h0 hn h63 hcell
  have mixed := L.mixed
  have t72 := L.t72; have a72 := L.a72; have z72 := L.z72; have v72 := L.v72; have u72 := run_underlying L.t72
  have t70 := L.t70; have a70 := L.a70; have z70 := L.z70; have v70 := L.v70; have u70 := run_underlying L.t70
  have t37 := L.t37; have a37 := L.a37; have z37 := L.z37; have v37 := L.v37; have u37 := run_underlying L.t37
  have t127 := L.t127; have a127 := L.a127; have z127 := L.z127; have v127 := L.v127; have u127 := run_underlying L.t127
  have t3 := L.t3; have a3 := L.a3; have z3 := L.z3; have v3 := L.v3; have u3 := run_underlying L.t3
  have t9 := L.t9; have a9 := L.a9; have z9 := L.z9; have v9 := L.v9; have u9 := run_underlying L.t9
  have t5 := X.t5; have a5 := X.a5; have z5 := X.z5; have v5 := X.v5; have u5 := run_underlying X.t5
  go_enter L.f169, Body.n169_ntmps ρ
  go_wp2
  go_region_o
  all_goals (go_wp2; go_ret; exact ⟨rfl, 1, rfl⟩)

set_option maxHeartbeats 1000000 in
set_option maxRecDepth 100000 in
theorem string_empty (L : Lays.n169 P ρ) (X : Builder.Extra P ρ) (b : Nat) (w : World) (hc : w.cell? ⟨b, 1, none⟩ = some (.slice none 0 0)) :
    Calls P (ρ.f 169) #[.pointer (some ⟨b, 0, none⟩)] w fun e w' => e = .returned (.string .empty) ∧ ∃ m, w' = w.drewN m := by
  have hUS := Any.unsafeString_none L X
  have c1 : w.drew.cell? ⟨b, 1, none⟩ = some (.slice none 0 0) := hc
  have mixed := L.mixed
  have t72 := L.t72; have a72 := L.a72; have z72 := L.z72; have v72 := L.v72; have u72 := run_underlying L.t72
  have t70 := L.t70; have a70 := L.a70; have z70 := L.z70; have v70 := L.v70; have u70 := run_underlying L.t70
  have t37 := L.t37; have a37 := L.a37; have z37 := L.z37; have v37 := L.v37; have u37 := run_underlying L.t37
  have t127 := L.t127; have a127 := L.a127; have z127 := L.z127; have v127 := L.v127; have u127 := run_underlying L.t127
  have t3 := L.t3; have a3 := L.a3; have z3 := L.z3; have v3 := L.v3; have u3 := run_underlying L.t3
  have t9 := L.t9; have a9 := L.a9; have z9 := L.z9; have v9 := L.v9; have u9 := run_underlying L.t9
  have hSD := Lib.run_unsafeSliceData_nil (P := P) (w := w.drew) #[(ρ.t 37)] (ρ.t 127) 0 0
  go_enter L.f169, Body.n169_ntmps ρ
  go_wp2
  go_region_o
  all_goals (go_wp2; go_ret; exact ⟨rfl, 1, rfl⟩)

theorem shelf_string (L : Lays.n169 P ρ) (X : Builder.Extra P ρ) (hb : ∃ fn : Func, P.funcs[ρ.f 169]? = some fn ∧ fn.body.isSome = true) : Known P C (ρ.f 169) (stringP (ρ.t 72) (ρ.t 5)) := by
  have hm : maxRoom ≤ 9223372036854775807 := by decide
  exact known_string hb (fun b w h => string_empty L X b w h) fun b q o cap n l w h0 h1 h2 h3 h4 h5 h6 => string_full L X b q o cap n l w h0 h1 h2 h3 h4 (Nat.le_trans h5 hm) h6

end
end Go.Ef

/- Known functions without a body. -/
namespace Go.Ef
open Go Go.RowKit
noncomputable section

/- The place of the first byte that is c, from n on. -/
def placeOf (c : UInt8) : List UInt8 → Nat → Int
  | [], _ => -1
  | b :: l, n => bif Nat.beq b.toNat c.toNat then (n : Int) else placeOf c l (n + 1)
theorem indexByte_cons (b c : UInt8) (l : List UInt8) : Lib.indexByte (b :: l) c = if b = c then 0 else if Lib.indexByte l c = -1 then -1 else Lib.indexByte l c + 1 := by
  simp [Lib.indexByte]
theorem placeOf_eq (c : UInt8) : ∀ (l : List UInt8) (n : Nat), placeOf c l n = if Lib.indexByte l c = -1 then -1 else Lib.indexByte l c + n := by
  intro l
  induction l with
  | nil => intro n; rfl
  | cons b l ih =>
    intro n
    have hge := Lib.indexByte_ge l c
    simp only [placeOf]
    rw [indexByte_cons]
    by_cases h : b = c
    · subst h
      rw [show Nat.beq b.toNat b.toNat = true from Nat.beq_refl _]
      simp
    · have hb : Nat.beq b.toNat c.toNat = false := by
        cases hq : Nat.beq b.toNat c.toNat with
        | false => rfl
        | true => exact absurd (UInt8.toNat_inj.1 (Nat.eq_of_beq_eq_true hq)) h
      rw [hb, ih, if_neg h]
      simp only [cond_false]
      by_cases h2 : Lib.indexByte l c = -1
      · simp [h2]
      · have h4 : ¬ Lib.indexByte l c + 1 = -1 := by omega
        simp only [if_neg h2, if_neg h4]
        omega
theorem placeOf_zero (c : UInt8) (l : List UInt8) : placeOf c l 0 = Lib.indexByte l c := by
  rw [placeOf_eq]
  split
  · rename_i h; exact h.symm
  · simp

def indexByteP (args : List AV) (h : Heap) : Option (AV × Heap) :=
  match args with
  | [.sc (.string s), .sc (.int .u8 c)] => some (.sc (.int .i64 (placeOf c.toNat.toUInt8 s.data.toList 0)), h)
  | _ => none

theorem extern_run {P : Program} {g : FuncId} {fn : Func} {f : Array Value → Sem Value} (hf : P.funcs[g]? = some fn) (hn : (fn.name == "runtime.NumGoroutine") = false) (hb : fn.body.isNone = true)
    (hx : Extern.findNext fn = none) (hy : Extern.find fn = some f) {vs : Array Value} {w w' : World} {v : Value} (hr : (f vs).run P w = .ok v w') : (callFunc g vs).run P w = .ok (.value v) w' := by
  simp only [callFunc, Sem.run_bind, run_program, Result.andThen_ok, hf]
  simp [hn, hb, hx, hy, hr]

theorem known_indexByte {P : Program} {C : Cfg} {g : FuncId} {fn : Func} (hf : P.funcs[g]? = some fn) (hn : (fn.name == "runtime.NumGoroutine") = false) (hb : fn.body.isNone = true)
    (hx : Extern.findNext fn = none) (hy : Extern.find fn = some Extern.BytealgIndexByte.indexByte) : Known P C g indexByteP := by
  refine .inr fun args h r h' hp μ w vs H hv0 => ?_
  unfold indexByteP at hp
  split at hp
  · rename_i s c
    cases hp
    obtain ⟨u, v, rfl, h1, h2⟩ := args_two hv0
    cases h1 with
    | sc _ => cases h2 with
      | sc _ =>
        refine ⟨_, w, extern_run hf hn hb hx hy ?_, callEnd_below H (Below.refl _ _) (.sc rfl)⟩
        rw [placeOf_zero]
        exact Lib.run_indexByteString s c w
  · cases hp

end
end Go.Ef

/- strings.Join, strings.Repeat off the shelf, in the form that the evaluation takes. -/
namespace Go.Ef
open Go Go.RowKit Go.Shelf Go.Proofs

def strS : List AV → Option ByteArray
  | [.sc (.string s)] => some s
  | _ => none
theorem strS_spec {e : List AV} {s : ByteArray} (h : strS e = some s) : e = [.sc (.string s)] := by
  unfold strS at h
  split at h
  · cases h; rfl
  · cases h

noncomputable def joinP (args : List AV) (h : Heap) : Option (AV × Heap) :=
  match args with
  | [.sc (.slice none 0 0), .sc (.string _)] => some (.sc (.string ⟨#[]⟩), h)
  | [.sl els _, .sc (.string sep)] => match mapO strS els with
    | some xs => bif Nat.ble xs.length maxRoom && Nat.ble (Lib.join (xs.map (·.data.toList)) sep.data.toList).length maxRoom then
        some (.sc (.string ⟨(Lib.join (xs.map (·.data.toList)) sep.data.toList).toArray⟩), h) else none
    | none => none
  | _ => none

def repeatP (args : List AV) (h : Heap) : Option (AV × Heap) :=
  match args with
  | [.sc (.string s), .sc (.int .i64 n)] => bif decide (0 ≤ n) && Nat.ble n.toNat maxRoom && Nat.ble (s.size * n.toNat) maxRoom then
      some (.sc (.string ⟨(Lib.repeatL s.data.toList n.toNat).toArray⟩), h) else none
  | _ => none

theorem sl_strings {C : Cfg} {μ : M} {h : Heap} {w : World} (H : W C μ h w) {els : List (List AV)} {tok : Nat} {xs : List ByteArray} (hx : mapO strS els = some xs) {v : Value} (hv : V μ (.sl els tok) v) :
    ∃ b o cap, v = .slice (some ⟨b, o, none⟩) xs.length cap ∧ xs.length ≤ cap ∧ ∀ (j : Nat) (x : ByteArray), xs[j]? = some x → w.cell? ⟨b, o + j, none⟩ = some (.string x) := by
  have hsp := mapO_spec hx
  have key : ∀ {b o k : Nat} {c : Nat → Nat → Value} {ν : M}, (∀ e ∈ els, e.length = k) →
      (∀ (i : Nat) (e : List AV) (j : Nat) (x : AV), els[i]? = some e → e[j]? = some x → μ.imm b (o + i * k + j) = some (c i j)) →
      (∀ (i : Nat) (e : List AV) (j : Nat) (x : AV), els[i]? = some e → e[j]? = some x → V ν x (c i j)) → ∀ (j : Nat) (x : ByteArray), xs[j]? = some x → w.cell? ⟨b, o + j, none⟩ = some (.string x) := by
    intro b o k c ν h3 h4 h5 j x hj
    obtain ⟨e, he, hf⟩ := mapO_back hx j x hj
    have hs := strS_spec hf
    subst hs
    have hk : k = 1 := (h3 _ (List.mem_of_getElem? he)).symm
    subst hk
    have i1 := h4 j _ 0 _ he rfl
    have i3 := V.sc_eq (h5 j _ 0 _ he rfl)
    rw [i3] at i1
    have := H.imm _ _ _ i1
    rw [show o + j * 1 + 0 = o + j by omega] at this
    exact this
  cases hv with
  | sl0 h1 h2 h3 h4 h5 =>
    subst h1
    rw [hsp.1]
    exact ⟨_, _, _, rfl, h2, key h3 h4 h5⟩
  | sl1 h1 h2 h3 h4 h5 h6 =>
    subst h1
    rw [hsp.1]
    exact ⟨_, _, _, rfl, h2, key h3 h4 h5⟩

section
variable {P : Program} {ρ : Ren} {C : Cfg}

theorem shelf_join (L : Lays.n156 P ρ) (X : Builder.Extra P ρ) (hb : ∃ fn : Func, P.funcs[ρ.f 156]? = some fn ∧ fn.body.isSome = true) : Known P C (ρ.f 156) joinP := by
  refine .inl ⟨hb, fun args h r h' hp μ w vs H hv0 => ?_⟩
  unfold joinP at hp
  split at hp
  · cases hp
    obtain ⟨u, v, rfl, h1, h2⟩ := args_two hv0
    cases h1 with
    | sc _ => cases h2 with
      | sc _ =>
        refine (Any.strings_Join_none L X none 0 _ w).mono fun e w' ⟨he, hw⟩ => ?_
        subst he; subst hw
        exact callEnd_below H (Below.refl _ _) (.sc rfl)
  · rename_i els tok sep
    obtain ⟨u, v, rfl, h1, h2⟩ := args_two hv0
    cases h2 with
    | sc _ =>
      split at hp
      · rename_i xs hx
        obtain ⟨hq, hp2⟩ := cond_some hp
        cases hp2
        simp only [Bool.and_eq_true] at hq
        have q1 := ble_true hq.1
        have q2 := ble_true hq.2
        obtain ⟨b, o, cap, rfl, hcap, hcell⟩ := sl_strings H hx h1
        cases hxs : xs with
        | nil =>
          subst hxs
          refine (Any.strings_Join_none L X (some ⟨b, o, none⟩) cap sep w).mono fun e w' ⟨he, hw⟩ => ?_
          subst he; subst hw
          exact callEnd_below H (Below.refl _ _) (.sc rfl)
        | cons x r =>
          have hlt : b < w.heap.size := cell_lt (hcell 0 x (by rw [hxs]; rfl))
          rw [← hxs]
          refine (Any.strings_Join L X b o cap xs sep w hcell hlt q1 hcap q2).mono fun e w' ⟨he, hw⟩ => ?_
          subst he
          exact callEnd_below H hw (.sc rfl)
      · cases hp
  · cases hp

theorem shelf_repeat (L : Lays.n105 P ρ) (X : Builder.Extra P ρ) (hb : ∃ fn : Func, P.funcs[ρ.f 105]? = some fn ∧ fn.body.isSome = true) : Known P C (ρ.f 105) repeatP := by
  refine .inl ⟨hb, fun args h r h' hp μ w vs H hv0 => ?_⟩
  unfold repeatP at hp
  split at hp
  · rename_i s n
    obtain ⟨u, v, rfl, h1, h2⟩ := args_two hv0
    cases h1 with
    | sc _ => cases h2 with
      | sc _ =>
        obtain ⟨hq, hp2⟩ := cond_some hp
        cases hp2
        simp only [Bool.and_eq_true, decide_eq_true_eq] at hq
        obtain ⟨⟨q0, q1⟩, q2⟩ := hq
        have q1 := ble_true q1
        have q2 := ble_true q2
        have hm : maxRoom = 140737488355328 := by decide
        have hn : n = (n.toNat : Int) := (Int.toNat_of_nonneg q0).symm
        have := Any.strings_Repeat L X s n.toNat w (by omega) (by omega)
        rw [← hn] at this
        refine this.mono fun e w' ⟨he, hw⟩ => ?_
        subst he
        exact callEnd_below H hw (.sc rfl)
  · cases hp

end
end Go.Ef

