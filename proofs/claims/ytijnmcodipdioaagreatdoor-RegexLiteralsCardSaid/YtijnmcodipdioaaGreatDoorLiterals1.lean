/- A part of the proof: definitions and lemmas. -/
import Derived.Test.YtijnmcodipdioaaGreatDoorLiteralsA
import Derived.Test.YtijnmcodipdioaaGreatDoorLiteralsB
import Derived.Test.YtijnmcodipdioaaGreatDoorLiteralsC
import Derived.Test.YtijnmcodipdioaaGreatDoorLiteralsD
import Derived.Test.YtijnmcodipdioaaGreatDoorLiteralsE
import Derived.Test.YtijnmcodipdioaaGreatDoorLiteralsF
import Derived.Test.YtijnmcodipdioaaGreatDoorLiteralsG
import Derived.Test.YtijnmcodipdioaaGreatDoorLiteralsH
import Derived.Test.YtijnmcodipdioaaGreatDoorLiteralsO
namespace Go.Ef
open Go
structure Live (h : Heap) (id : Nat) (o : AObj) : Prop where
 get : h.get id = some o
 ro : h.ro ≤ id
theorem Live.lt {h : Heap} {id : Nat} {o : AObj} (k : Live h id o) : id < h.next := by
 have := k.get
 unfold Heap.get at this
 cases hb : Nat.blt id h.next with
 | true => exact Nat.le_of_ble_eq_true hb
 | false => rw [hb] at this; cases this
theorem Live.low {h : Heap} {id : Nat} {o : AObj} (k : Live h id o) : h.ro ≤ h.next := Nat.le_trans k.ro (Nat.le_of_lt k.lt)
theorem Live.cell {h : Heap} {id : Nat} {cs : List AV} (k : Live h id (.cells cs)) (o : Nat) : cellIn h id o = cs[o]? := by
 unfold cellIn; rw [k.get]
theorem newIn_rest (h : Heap) (o : AObj) : (newIn h o).ro = h.ro ∧ (newIn h o).next = h.next + 1 := by
 rw [newIn_eq]; exact ⟨rfl, rfl⟩
theorem newIn_get (h : Heap) (o : AObj) : (newIn h o).get h.next = some o := by
 rw [newIn_eq, Heap.new_eq]
 unfold Heap.get
 simp only []
 rw [show Nat.blt h.next (h.next + 1) = true from Nat.ble_eq_true_of_le (Nat.le_refl _), Tr.get_set, if_pos rfl]; rfl
theorem newIn_old {h : Heap} {id : Nat} {o p : AObj} (k : h.get id = some o) : (newIn h p).get id = some o := by
 have hlt : id < h.next := by
  unfold Heap.get at k
  cases hb : Nat.blt id h.next with
  | true => exact Nat.le_of_ble_eq_true hb
  | false => rw [hb] at k; cases k
 rw [newIn_eq, Heap.new_eq]
 unfold Heap.get at k ⊢
 simp only []
 rw [show Nat.blt id h.next = true from Nat.ble_eq_true_of_le hlt] at k
 rw [show Nat.blt id (h.next + 1) = true from Nat.ble_eq_true_of_le (by omega), Tr.get_set, if_neg (by omega)]
 exact k
theorem Live.new {h : Heap} {id : Nat} {o p : AObj} (k : Live h id o) : Live (newIn h p) id o := ⟨newIn_old k.get, by rw [(newIn_rest h p).1]; exact k.ro⟩
theorem live_new {h : Heap} (hl : h.ro ≤ h.next) (o : AObj) : Live (newIn h o) h.next o := ⟨newIn_get h o, by rw [(newIn_rest h o).1]; exact hl⟩
theorem box_new (h : Heap) (t : TypeId) (cs : List AV) : (boxIn h t cs).ro = h.ro ∧ (boxIn h t cs).next = h.next + 1 := by
 rw [boxIn_eq]; exact ⟨rfl, rfl⟩
theorem box_get (h : Heap) (t : TypeId) (cs : List AV) (id : Nat) : (boxIn h t cs).get id = (newIn h (.cells cs)).get id := by
 rw [boxIn_eq, newIn_eq]; rfl
theorem Live.box {h : Heap} {id : Nat} {o : AObj} {t : TypeId} {cs : List AV} (k : Live h id o) : Live (boxIn h t cs) id o := ⟨by rw [box_get]; exact newIn_old k.get, by rw [(box_new h t cs).1]; exact k.ro⟩
theorem live_box {h : Heap} (hl : h.ro ≤ h.next) (t : TypeId) (cs : List AV) : Live (boxIn h t cs) h.next (.cells cs) := ⟨by rw [box_get]; exact newIn_get h _, by rw [(box_new h t cs).1]; exact hl⟩
theorem put_in_get {h : Heap} {id : Nat} {o p : AObj} (k : Live h id p) (j : Nat) : (putIn h id o).get j = if id = j then some o else h.get j := put_get (put_ok k.ro k.lt) j
theorem put_in_rest {h : Heap} {id : Nat} {o p : AObj} (k : Live h id p) : (putIn h id o).ro = h.ro ∧ (putIn h id o).next = h.next := let q := put_rest (put_ok (o := o) k.ro k.lt); ⟨q.1, q.2.1⟩
theorem live_put {h : Heap} {id : Nat} {p : AObj} (k : Live h id p) (o : AObj) : Live (putIn h id o) id o := ⟨by rw [put_in_get k, if_pos rfl], by rw [(put_in_rest k).1]; exact k.ro⟩
theorem Live.put {h : Heap} {id j : Nat} {o p q : AObj} (k : Live h id p) (l : Live h j q) (hne : id ≠ j) : Live (putIn h id o) j q := ⟨by rw [put_in_get k, if_neg hne]; exact l.get, by rw [(put_in_rest k).1]; exact l.ro⟩
theorem store_eq {h : Heap} {id off : Nat} {vs cs : List AV} (k : Live h id (.cells cs)) : storeIn h id off vs = putIn h id (.cells (overC cs off vs)) := by
 unfold storeIn; rw [lk_eq, k.get]
theorem ok_in {h : Heap} {id off n : Nat} {cs : List AV} (k : Live h id (.cells cs)) (hl : off + n ≤ cs.length) : okIn h id off n = true := by
 unfold okIn
 rw [lk_eq, k.get]
 simp only []
 rw [Nat.ble_eq_true_of_le hl, Nat.ble_eq_true_of_le k.ro, show Nat.blt id h.next = true from Nat.ble_eq_true_of_le k.lt]; rfl
theorem over_one {cs : List AV} {i : Nat} {v : AV} (h : i < cs.length) : overC cs i [v] = cs.set i v := by
 unfold overC
 rw [List.set_eq_take_append_cons_drop, if_pos h]; simp
theorem app_ok {h : Heap} {id off n : Nat} {cs : List AV} (k : Live h id (.cells cs)) (hl : off + n ≤ cs.length) : appOk h id off n = true := ok_in k hl
theorem app_eq {h : Heap} {id off n : Nat} {new : List (List AV)} {cs : List AV} (k : Live h id (.cells cs)) : appIn h id off n new = newIn (putIn h id .dead) (.cells (cutC cs off n ++ new.flatten)) := by
 unfold appIn; rw [lk_eq, k.get, newIn_eq]
theorem app_get {h : Heap} {id off n : Nat} {new : List (List AV)} {cs : List AV} (k : Live h id (.cells cs)) : Live (appIn h id off n new) h.next (.cells (cutC cs off n ++ new.flatten)) := by
 rw [app_eq k]
 have := live_new (h := putIn h id .dead) (by rw [(put_in_rest k).1, (put_in_rest k).2]; exact k.low) (.cells (cutC cs off n ++ new.flatten))
 rwa [(put_in_rest k).2] at this
theorem Live.app {h : Heap} {id j off n : Nat} {new : List (List AV)} {cs : List AV} {q : AObj} (k : Live h id (.cells cs)) (l : Live h j q) (hne : id ≠ j) : Live (appIn h id off n new) j q := by
 rw [app_eq k]; exact (k.put l hne).new
theorem own_new (h : Heap) (k e n : Nat) : newOwnL h k e n = newIn h (.own k e n) := by
 unfold newOwnL; rw [lk_eq, newIn_eq]
theorem is_own {h : Heap} {id k e n : Nat} (l : Live h id (.own k e n)) : isOwn h id k e n = true := by
 unfold isOwn
 rw [l.get]
 simp only []
 rw [Nat.beq_refl, Nat.beq_refl, Nat.beq_refl, Nat.ble_eq_true_of_le l.ro]; rfl
theorem grow_eq (h : Heap) (id k e n : Nat) : growH h id k e n = putIn h id (.own k e n) := rfl
end Go.Ef
namespace Go.Proofs.Rl
open Go Go.Ef
noncomputable section
def rowsT (l : List (Nat × Nat)) : List (List AV) := l.map fun p => [iA p.1, iA p.2]
def simC (els : List (List AV)) (s : List UInt8) (M : Nat → Int) (st : Int) (sv : AV) (i : Nat) : AV :=
 if i = 0 then .sl els 0 else if i = 1 then bA false else if i = 2 then aStr s else if i < 4099 then iA (M (i - 3)) else if i = 4099 then iA st else sv
structure Sim (h : Heap) (w : Nat) (els : List (List AV)) (s : List UInt8) (M : Nat → Int) (st : Int) (sv : AV) : Prop where
 is : ∃ cs, Live h w (.cells cs) ∧ cs.length = 4101 ∧ ∀ i, i < 4101 → cs[i]? = some (simC els s M st sv i)
variable {h : Heap} {w : Nat} {els : List (List AV)} {s : List UInt8} {M : Nat → Int} {st : Int} {sv : AV}
theorem Sim.cell (S : Sim h w els s M st sv) {i : Nat} (hi : i < 4101) : cellIn h w i = some (simC els s M st sv i) := by
 obtain ⟨cs, h1, _, h3⟩ := S.is
 rw [h1.cell, h3 i hi]
theorem Sim.keep {g : Heap} (S : Sim h w els s M st sv) (hk : ∀ q, Live h w q → Live g w q) : Sim g w els s M st sv := by
 obtain ⟨cs, h1, h2, h3⟩ := S.is
 exact ⟨cs, hk _ h1, h2, h3⟩
theorem Sim.live (S : Sim h w els s M st sv) : ∃ cs, Live h w (.cells cs) ∧ cs.length = 4101 := by
 obtain ⟨cs, h1, h2, _⟩ := S.is
 exact ⟨cs, h1, h2⟩
theorem Sim.low (S : Sim h w els s M st sv) : h.ro ≤ h.next := by
 obtain ⟨cs, h1, _⟩ := S.is
 exact h1.low
theorem Sim.sl (S : Sim h w els s M st sv) : slIn h w 0 = true ∧ elsIn h w 0 = els := by
 have := S.cell (i := 0) (by omega)
 unfold slIn elsIn; rw [this]; exact ⟨rfl, rfl⟩
theorem Sim.str (S : Sim h w els s M st sv) : kdsIn h w 2 [.str] = true ∧ txtIn h w 2 = s := by
 have := S.cell (i := 2) (by omega)
 simp only [kdsIn, txtIn]; rw [this]; exact ⟨rfl, rfl⟩
theorem simC_mark {k : Nat} (hk : k < 4096) : simC els s M st sv (3 + k) = iA (M k) := by
 unfold simC
 rw [if_neg (by omega), if_neg (by omega), if_neg (by omega), if_pos (by omega), show 3 + k - 3 = k by omega]
theorem Sim.mark (S : Sim h w els s M st sv) {k : Nat} (hk : k < 4096) : kdsIn h w (3 + k) [.int .i64] = true ∧ intIn h w (3 + k) = M k := by
 have := S.cell (i := 3 + k) (by omega)
 rw [simC_mark hk] at this
 simp only [kdsIn, intIn]; rw [this]; exact ⟨rfl, rfl⟩
theorem Sim.step (S : Sim h w els s M st sv) : kdsIn h w 4099 [.int .i64] = true ∧ intIn h w 4099 = st := by
 have : cellIn h w 4099 = some (iA st) := S.cell (i := 4099) (by omega)
 simp only [kdsIn, intIn]; rw [this]; exact ⟨rfl, rfl⟩
theorem Sim.stk (S : Sim h w els s M st sv) : cellIn h w 4100 = some sv := S.cell (i := 4100) (by omega)
theorem Sim.stkR {id o n : Nat} (S : Sim h w els s M st (.rsl id o n 1)) : nilIn h w 4100 = false ∧ rslIn h w 4100 1 = true ∧ rIdIn h w 4100 = id ∧ rOffIn h w 4100 = o ∧ rLenIn h w 4100 = n := by
 have := S.stk
 unfold nilIn rslIn rIdIn rOffIn rLenIn; rw [this]; exact ⟨rfl, rfl, rfl, rfl, rfl⟩
theorem Sim.stkN (S : Sim h w els s M st nilA) : nilIn h w 4100 = true := by
 have := S.stk
 unfold nilIn; rw [this]; rfl
theorem Sim.ok (S : Sim h w els s M st sv) {o n : Nat} (ho : o + n ≤ 4101) : okIn h w o n = true := by
 obtain ⟨cs, h1, h2⟩ := S.live
 exact ok_in h1 (by omega)
theorem Sim.store (S : Sim h w els s M st sv) {o : Nat} {v : AV} (ho : o < 4101) {M' : Nat → Int} {st' : Int} {sv' : AV} (e : ∀ i, i < 4101 → simC els s M' st' sv' i = if i = o then v else simC els s M st sv i) : Sim (storeIn h w o [v]) w els s M' st' sv' := by
 obtain ⟨cs, h1, h2, h3⟩ := S.is
 refine ⟨cs.set o v, ?_, by rw [List.length_set]; exact h2, fun i hi => ?_⟩
 ·rw [store_eq h1, over_one (by omega)]
  exact live_put h1 _
 ·rw [e i hi, List.getElem?_set]
  by_cases hio : i = o
  ·rw [if_pos hio.symm, if_pos hio, if_pos (by omega)]
  ·rw [if_neg (fun e => hio e.symm), if_neg hio, h3 i hi]
theorem Sim.other (S : Sim h w els s M st sv) {o : Nat} {v : AV} {j : Nat} {q : AObj} (hj : w ≠ j) (l : Live h j q) : Live (storeIn h w o [v]) j q := by
 obtain ⟨cs, h1, h2⟩ := S.live
 rw [store_eq h1]
 exact h1.put l hj
theorem Sim.rest (S : Sim h w els s M st sv) {o : Nat} {v : AV} : (storeIn h w o [v]).next = h.next := by
 obtain ⟨cs, h1, h2⟩ := S.live
 rw [store_eq h1]
 exact (put_in_rest h1).2
def upd (M : Nat → Int) (k : Nat) (v : Int) (i : Nat) : Int := if i = k then v else M i
theorem Sim.putMark (S : Sim h w els s M st sv) {k : Nat} (hk : k < 4096) (v : Int) : Sim (storeIn h w (3 + k) [iA v]) w els s (upd M k v) st sv := by
 refine S.store (by omega) fun i hi => ?_
 by_cases e : i = 3 + k
 ·subst e; rw [simC_mark hk, if_pos rfl]; unfold upd; rw [if_pos rfl]
 ·rw [if_neg e]
  unfold simC
  by_cases a : i = 0
  ·rw [if_pos a, if_pos a]
  rw [if_neg a, if_neg a]
  by_cases b : i = 1
  ·rw [if_pos b, if_pos b]
  rw [if_neg b, if_neg b]
  by_cases c : i = 2
  ·rw [if_pos c, if_pos c]
  rw [if_neg c, if_neg c]
  by_cases d : i < 4099
  ·rw [if_pos d, if_pos d]; unfold upd; rw [if_neg (by omega)]
  ·rw [if_neg d, if_neg d]
theorem Sim.putStep (S : Sim h w els s M st sv) (v : Int) : Sim (storeIn h w 4099 [iA v]) w els s M v sv := by
 refine S.store (by omega) fun i hi => ?_
 by_cases e : i = 4099
 ·subst e; rfl
 ·rw [if_neg e]; unfold simC; rw [if_neg e, if_neg e]
theorem Sim.putStk (S : Sim h w els s M st sv) (v : AV) : Sim (storeIn h w 4100 [v]) w els s M st v := by
 refine S.store (by omega) fun i hi => ?_
 by_cases e : i = 4100
 ·subst e; rfl
 ·rw [if_neg e]
  unfold simC
  by_cases d : i < 4099
  ·rw [if_pos d, if_pos d]
  ·rw [if_pos (show i = 4099 by omega), if_pos (show i = 4099 by omega)]
end
end Go.Proofs.Rl
namespace Go.Proofs.Rl
def goT (t s : B) (i : Nat) (kp : Nat → Bool) (p : Nat × Nat) : Bool := (decide (p.1 < t.length) && t[p.1]? == s[i]?) && kp p.2
def nextT (t s : B) (i : Nat) (kp : Nat → Bool) (l : List (Nat × Nat)) : List (Nat × Nat) := (l.filter (goT t s i kp)).map fun p => (p.1 + 1, p.2)
theorem nextT_all (t s : B) (i : Nat) (l : List (Nat × Nat)) : nextT t s i (fun _ => true) l = stepT t s i l := by
 unfold nextT stepT goT
 simp only [Bool.and_true]
theorem nextT_cons (t s : B) (i : Nat) (kp : Nat → Bool) (p : Nat × Nat) (l : List (Nat × Nat)) : nextT t s i kp (p :: l) = (if goT t s i kp p then [(p.1 + 1, p.2)] else []) ++ nextT t s i kp l := by
 unfold nextT
 rw [List.filter_cons]
 cases goT t s i kp p <;> rfl
theorem end_one (t s : B) (i : Nat) (hi : i ≤ s.length) (ht : t ≠ []) {f : Nat} (h : (t.length, f) ∈ thr t s i ++ [(0, i)]) : t.length ≤ i ∧ f = i - t.length ∧ occ t s (i - t.length) = true := by
 obtain ⟨a, b⟩ := (end_thr t s i hi ht f).1 h
 have : f = i - t.length := by omega
 subst this
 exact ⟨by omega, rfl, b⟩
theorem end_none (t s : B) (i : Nat) (hi : i ≤ s.length) (ht : t ≠ []) (h : ∀ f, (t.length, f) ∉ thr t s i ++ [(0, i)]) : (decide (t.length ≤ i) && occ t s (i - t.length)) = false := by
 cases hc : decide (t.length ≤ i) && occ t s (i - t.length) with
 | false => rfl
 | true =>
  rw [Bool.and_eq_true, decide_eq_true_eq] at hc
  exact absurd ((end_thr t s i hi ht (i - t.length)).2 ⟨by omega, hc.2⟩) (h _)
theorem from_thr (t s : B) (i : Nat) (hi : i ≤ s.length) {p : Nat × Nat} (h : p ∈ thr t s i ++ [(0, i)]) : p.2 + p.1 = i ∧ p.1 ≤ t.length := by
 rw [List.mem_append] at h
 rcases h with h | h
 ·obtain ⟨j, f⟩ := p
  obtain ⟨_, b, c, _⟩ := (mem_thr t s i hi j f).1 h
  exact ⟨c, b⟩
 ·simp only [List.mem_singleton] at h
  subst h
  exact ⟨by omega, Nat.zero_le _⟩
theorem next_none (t s : B) (i : Nat) (hi : i ≤ s.length) (h : t.length ≤ i) : nextT t s i (fun f => decide (f ≤ i - t.length)) (thr t s i ++ [(0, i)]) = [] := by
 unfold nextT
 rw [List.map_eq_nil_iff, List.filter_eq_nil_iff]
 intro p hp hg
 have := from_thr t s i hi hp
 unfold goT at hg
 simp only [Bool.and_eq_true, decide_eq_true_eq] at hg
 omega
end Go.Proofs.Rl
namespace Go.Proofs.Rl
open Go Go.Ef
noncomputable section
def Tab.heapy (T : Tab) (f : Nat) : Tab := { T with hv := fun x => bif Nat.beq x f then true else T.hv x, lazy := fun x => bif Nat.beq x f then true else T.lazy x, symN := fun x => bif Nat.beq x f then true else T.symN x }
def optW (w : Nat → Nat) : Option Nat → Nat
 | some t => w t
 | none => 0
def Tab.slices (T : Tab) (f : Nat) (w : Nat → Nat) : Tab := { T with hs := fun x d => bif Nat.beq x f then optW w d else T.hs x d }
def sl144 (t : Nat) : Nat := bif Nat.beq t 17 then 1 else bif Nat.beq t 80 then 2 else 3
def T144 : Tab := Tab.slices (Tab.heapy (((((((tab0.addC 148 CNo).addC 149 CNo).name 144 11).name 144 28).name 144 39).name 144 52).name 144 85) 144) 144 sl144
abbrev Rows := List (List AV)
def I144n (w : Nat) (f i : Int) (g : Heap) : St := stOf 153 [(0, .v (.ptr w 0)), (1, .v nilA), (3, sInt f), (4, sInt i)] [] g
def I144s (w : Nat) (ls : Rows) (il : Nat) (f i : Int) (g : Heap) : St := stOf 153 [(0, .v (.ptr w 0)), (1, .v (.sl ls (il + 1))), (3, sInt f), (4, sInt i)] [] g
def E144n (g : Heap) : St := stOf 153 [(1, .v nilA)] [] g
def E144s (ls : Rows) (il : Nat) (g : Heap) : St := stOf 153 [(1, .v (.sl ls (il + 1)))] [] g
def n144 (w : Nat) (f i : Int) (N : Heap → Prop) (S : Rows → Nat → Heap → Prop) (τ : St) : Prop :=
 match τ.at 1 with
 | .v (.sl ls t) => match t with
  | il + 1 => τ = I144s w ls il f i τ.h ∧ S ls il τ.h
  | 0 => False
 | .v (.sc _) => τ = I144n w f i τ.h ∧ N τ.h
 | _ => False
def e144 (N : Heap → Prop) (S : Rows → Nat → Heap → Prop) (ex : Ex) (τ : St) : Prop :=
 match ex with
 | .exit _ => ex = .exit 0 ∧ match τ.at 1 with
  | .v (.sl ls t) => match t with
   | il + 1 => τ = E144s ls il τ.h ∧ S ls il τ.h
   | 0 => False
  | .v (.sc _) => τ = E144n τ.h ∧ N τ.h
  | _ => False
 | _ => False
def T144N (w : Nat) (f i : Int) (row : List AV) (Pre : Heap → Prop) (Q : Nat → Heap → Prop) : Tab := T144.addL 144 3 fun σ => some { pre := σ.tidy [0, 1, 3, 4] 0 = I144n w f i σ.h ∧ Pre σ.h, alts := [{ α := Nat × Heap, post := fun x => Q x.1 x.2, ex := .exit 0, st := fun x => E144s [row] x.1 x.2 }] }
def T144S (w : Nat) (ls : Rows) (il : Nat) (f i : Int) (row : List AV) (Pre : Heap → Prop) (Q : Heap → Prop) : Tab := T144.addL 144 3 fun σ => some { pre := σ.tidy [0, 1, 3, 4] 0 = I144s w ls il f i σ.h ∧ Pre σ.h, alts := [{ α := Heap, post := fun x => Q x, ex := .exit 0, st := fun x => E144s (ls ++ [row]) il x }] }
end
end Go.Proofs.Rl
namespace Go.Proofs.Rl
open Go Go.Ef
noncomputable section
set_option maxRecDepth 100000
theorem v144n (w : Nat) (k : Int) (f : Int) (i : Int) (g : Heap) (row : List AV) (Pre : Heap → Prop) (Q : Nat → Heap → Prop) (K : AV → Heap → Prop) (h :
 iteP (nilIn g w (4100 : Nat))
 (iteP
 (okIn (newIn g (AObj.cells [AV.sc (Value.int IntKind.i64 k)])) w (4100 : Nat)
 [AV.rsl g.next (0 : Nat) [[AV.sc (Value.int IntKind.i64 k)]].length (1 : Nat)].length)
 (loopAt Tryz.prog (144 : Nat) (3 : Nat) = loopAt Tryz.prog (144 : Nat) (3 : Nat) ∧
 (I144n w f i
 (storeIn (newIn g (AObj.cells [AV.sc (Value.int IntKind.i64 k)])) w (4100 : Nat)
 [AV.rsl g.next (0 : Nat) [[AV.sc (Value.int IntKind.i64 k)]].length (1 : Nat)]) =
 I144n w f i
 (storeIn (newIn g (AObj.cells [AV.sc (Value.int IntKind.i64 k)])) w (4100 : Nat)
 [AV.rsl g.next (0 : Nat) [[AV.sc (Value.int IntKind.i64 k)]].length (1 : Nat)]) ∧
 Pre
 (storeIn (newIn g (AObj.cells [AV.sc (Value.int IntKind.i64 k)])) w (4100 : Nat)
 [AV.rsl g.next (0 : Nat) [[AV.sc (Value.int IntKind.i64 k)]].length (1 : Nat)])) ∧
 ∀ (x : Nat × Heap), Q x.fst x.snd → K (AV.sl [row] (x.fst + (1 : Nat))) x.snd)
 False)
 (iteP (rslIn g w (4100 : Nat) (1 : Nat))
 (iteP
 (fits ((0 : Nat) + [[AV.sc (Value.int IntKind.i64 k)]].length) (8 : Nat) &&
 appOk g (rIdIn g w (4100 : Nat)) (rOffIn g w (4100 : Nat)) (0 : Nat))
 (iteP
 (okIn (appIn g (rIdIn g w (4100 : Nat)) (rOffIn g w (4100 : Nat)) (0 : Nat) [[AV.sc (Value.int IntKind.i64 k)]])
 w (4100 : Nat)
 [AV.rsl g.next (0 : Nat) ((0 : Nat) + [[AV.sc (Value.int IntKind.i64 k)]].length) (1 : Nat)].length)
 (loopAt Tryz.prog (144 : Nat) (3 : Nat) = loopAt Tryz.prog (144 : Nat) (3 : Nat) ∧
 (I144n w f i
 (storeIn
 (appIn g (rIdIn g w (4100 : Nat)) (rOffIn g w (4100 : Nat)) (0 : Nat)
 [[AV.sc (Value.int IntKind.i64 k)]])
 w (4100 : Nat)
 [AV.rsl g.next (0 : Nat) ((0 : Nat) + [[AV.sc (Value.int IntKind.i64 k)]].length) (1 : Nat)]) =
 I144n w f i
 (storeIn
 (appIn g (rIdIn g w (4100 : Nat)) (rOffIn g w (4100 : Nat)) (0 : Nat)
 [[AV.sc (Value.int IntKind.i64 k)]])
 w (4100 : Nat)
 [AV.rsl g.next (0 : Nat) ((0 : Nat) + [[AV.sc (Value.int IntKind.i64 k)]].length) (1 : Nat)]) ∧
 Pre
 (storeIn
 (appIn g (rIdIn g w (4100 : Nat)) (rOffIn g w (4100 : Nat)) (0 : Nat)
 [[AV.sc (Value.int IntKind.i64 k)]])
 w (4100 : Nat)
 [AV.rsl g.next (0 : Nat) ((0 : Nat) + [[AV.sc (Value.int IntKind.i64 k)]].length) (1 : Nat)])) ∧
 ∀ (x : Nat × Heap), Q x.fst x.snd → K (AV.sl [row] (x.fst + (1 : Nat))) x.snd)
 False)
 False)
 False)) :
 (fun (w : Nat) (k f i : Int) (g : Heap) (row : List AV) (Pre : Heap → Prop) (Q : Nat → Heap → Prop) (K : AV → Heap → Prop) => wpCall (T144N w f i row Pre Q) cfg Tryz.prog 100 144 [.ptr w 0, nilA, iA k, iA f, iA i] g K) w k f i g row Pre Q K :=
 Eq.mp (by kernel_rfl) h
theorem v144s (w : Nat) (ls : List (List AV)) (il : Nat) (k : Int) (f : Int) (i : Int) (g : Heap) (row : List AV) (Pre : Heap → Prop) (Q : Heap → Prop) (K : AV → Heap → Prop) (h :
 iteP (nilIn g w (4100 : Nat))
 (iteP
 (okIn (newIn g (AObj.cells [AV.sc (Value.int IntKind.i64 k)])) w (4100 : Nat)
 [AV.rsl g.next (0 : Nat) [[AV.sc (Value.int IntKind.i64 k)]].length (1 : Nat)].length)
 (loopAt Tryz.prog (144 : Nat) (3 : Nat) = loopAt Tryz.prog (144 : Nat) (3 : Nat) ∧
 (I144s w ls il f i
 (storeIn (newIn g (AObj.cells [AV.sc (Value.int IntKind.i64 k)])) w (4100 : Nat)
 [AV.rsl g.next (0 : Nat) [[AV.sc (Value.int IntKind.i64 k)]].length (1 : Nat)]) =
 I144s w ls il f i
 (storeIn (newIn g (AObj.cells [AV.sc (Value.int IntKind.i64 k)])) w (4100 : Nat)
 [AV.rsl g.next (0 : Nat) [[AV.sc (Value.int IntKind.i64 k)]].length (1 : Nat)]) ∧
 Pre
 (storeIn (newIn g (AObj.cells [AV.sc (Value.int IntKind.i64 k)])) w (4100 : Nat)
 [AV.rsl g.next (0 : Nat) [[AV.sc (Value.int IntKind.i64 k)]].length (1 : Nat)])) ∧
 ∀ (x : Heap), Q x → K (AV.sl (ls ++ [row]) (il + (1 : Nat))) x)
 False)
 (iteP (rslIn g w (4100 : Nat) (1 : Nat))
 (iteP
 (fits ((0 : Nat) + [[AV.sc (Value.int IntKind.i64 k)]].length) (8 : Nat) &&
 appOk g (rIdIn g w (4100 : Nat)) (rOffIn g w (4100 : Nat)) (0 : Nat))
 (iteP
 (okIn (appIn g (rIdIn g w (4100 : Nat)) (rOffIn g w (4100 : Nat)) (0 : Nat) [[AV.sc (Value.int IntKind.i64 k)]])
 w (4100 : Nat)
 [AV.rsl g.next (0 : Nat) ((0 : Nat) + [[AV.sc (Value.int IntKind.i64 k)]].length) (1 : Nat)].length)
 (loopAt Tryz.prog (144 : Nat) (3 : Nat) = loopAt Tryz.prog (144 : Nat) (3 : Nat) ∧
 (I144s w ls il f i
 (storeIn
 (appIn g (rIdIn g w (4100 : Nat)) (rOffIn g w (4100 : Nat)) (0 : Nat)
 [[AV.sc (Value.int IntKind.i64 k)]])
 w (4100 : Nat)
 [AV.rsl g.next (0 : Nat) ((0 : Nat) + [[AV.sc (Value.int IntKind.i64 k)]].length) (1 : Nat)]) =
 I144s w ls il f i
 (storeIn
 (appIn g (rIdIn g w (4100 : Nat)) (rOffIn g w (4100 : Nat)) (0 : Nat)
 [[AV.sc (Value.int IntKind.i64 k)]])
 w (4100 : Nat)
 [AV.rsl g.next (0 : Nat) ((0 : Nat) + [[AV.sc (Value.int IntKind.i64 k)]].length) (1 : Nat)]) ∧
 Pre
 (storeIn
 (appIn g (rIdIn g w (4100 : Nat)) (rOffIn g w (4100 : Nat)) (0 : Nat)
 [[AV.sc (Value.int IntKind.i64 k)]])
 w (4100 : Nat)
 [AV.rsl g.next (0 : Nat) ((0 : Nat) + [[AV.sc (Value.int IntKind.i64 k)]].length) (1 : Nat)])) ∧
 ∀ (x : Heap), Q x → K (AV.sl (ls ++ [row]) (il + (1 : Nat))) x)
 False)
 False)
 False)) :
 (fun (w : Nat) (ls : List (List AV)) (il : Nat) (k f i : Int) (g : Heap) (row : List AV) (Pre Q : Heap → Prop) (K : AV → Heap → Prop) => wpCall (T144S w ls il f i row Pre Q) cfg Tryz.prog 100 144 [.ptr w 0, .sl ls (il + 1), iA k, iA f, iA i] g K) w ls il k f i g row Pre Q K :=
 Eq.mp (by kernel_rfl) h
theorem r144n (w : Nat) (f : Int) (i : Int) (g : Heap) (N : Heap → Prop) (N' : Heap → Prop) (S : Rows → Nat → Heap → Prop) (S' : Rows → Nat → Heap → Prop) (h :
 iteP (rslIn g w (4100 : Nat) (1 : Nat))
 (∀ (m : Int),
 m = (↑(rLenIn g w (4100 : Nat)) : Int) →
 iteP (decide ((0 : Int) < m))
 (iteP (rslIn g w (4100 : Nat) (1 : Nat))
 (iteP (rslIn g w (4100 : Nat) (1 : Nat))
 (∀ (m : Int),
 m = IntKind.i64.wrap ((↑(rLenIn g w (4100 : Nat)) : Int) - (1 : Int)) →
 iteP (inRange m (rLenIn g w (4100 : Nat)))
 (iteP
 (kdsIn g (rIdIn g w (4100 : Nat)) (rOffIn g w (4100 : Nat) + m.toNat * (1 : Nat))
 [Kd.int IntKind.i64])
 (∀ (m_1 : Int),
 m_1 = intIn g (rIdIn g w (4100 : Nat)) (rOffIn g w (4100 : Nat) + m.toNat * (1 : Nat)) →
 iteP (rslIn g w (4100 : Nat) (1 : Nat))
 (iteP (rslIn g w (4100 : Nat) (1 : Nat))
 (∀ (m : Int),
 m = IntKind.i64.wrap ((↑(rLenIn g w (4100 : Nat)) : Int) - (1 : Int)) →
 iteP (decide ((0 : Int) ≤ m) && decide (m ≤ (↑(rLenIn g w (4100 : Nat)) : Int)))
 (iteP
 (okIn g w (4100 : Nat)
 [AV.rsl (rIdIn g w (4100 : Nat)) (rOffIn g w (4100 : Nat)) m.toNat
 (1 : Nat)].length)
 (iteP (inRange m_1 (4096 : Nat))
 (iteP
 (kdsIn
 (storeIn g w (4100 : Nat)
 [AV.rsl (rIdIn g w (4100 : Nat)) (rOffIn g w (4100 : Nat)) m.toNat
 (1 : Nat)])
 w ((3 : Nat) + m_1.toNat * (1 : Nat)) [Kd.int IntKind.i64])
 (iteP
 (kdsIn
 (storeIn g w (4100 : Nat)
 [AV.rsl (rIdIn g w (4100 : Nat)) (rOffIn g w (4100 : Nat)) m.toNat
 (1 : Nat)])
 w (4099 : Nat) [Kd.int IntKind.i64])
 (iteP
 (intIn
 (storeIn g w (4100 : Nat)
 [AV.rsl (rIdIn g w (4100 : Nat)) (rOffIn g w (4100 : Nat)) m.toNat
 (1 : Nat)])
 w ((3 : Nat) + m_1.toNat * (1 : Nat)) ==
 intIn
 (storeIn g w (4100 : Nat)
 [AV.rsl (rIdIn g w (4100 : Nat)) (rOffIn g w (4100 : Nat)) m.toNat
 (1 : Nat)])
 w (4099 : Nat))
 (I144n w f i
 (storeIn g w (4100 : Nat)
 [AV.rsl (rIdIn g w (4100 : Nat)) (rOffIn g w (4100 : Nat)) m.toNat
 (1 : Nat)]) =
 I144n w f i
 (storeIn g w (4100 : Nat)
 [AV.rsl (rIdIn g w (4100 : Nat)) (rOffIn g w (4100 : Nat)) m.toNat
 (1 : Nat)]) ∧
 N
 (storeIn g w (4100 : Nat)
 [AV.rsl (rIdIn g w (4100 : Nat)) (rOffIn g w (4100 : Nat)) m.toNat
 (1 : Nat)]))
 (iteP
 (kdsIn
 (storeIn g w (4100 : Nat)
 [AV.rsl (rIdIn g w (4100 : Nat)) (rOffIn g w (4100 : Nat)) m.toNat
 (1 : Nat)])
 w (4099 : Nat) [Kd.int IntKind.i64])
 (iteP (inRange m_1 (4096 : Nat))
 (iteP
 (okIn
 (storeIn g w (4100 : Nat)
 [AV.rsl (rIdIn g w (4100 : Nat)) (rOffIn g w (4100 : Nat)) m.toNat
 (1 : Nat)])
 w ((3 : Nat) + m_1.toNat * (1 : Nat))
 [AV.sc
 (Value.int IntKind.i64
 (intIn
 (storeIn g w (4100 : Nat)
 [AV.rsl (rIdIn g w (4100 : Nat))
 (rOffIn g w (4100 : Nat)) m.toNat (1 : Nat)])
 w (4099 : Nat)))].length)
 (iteP
 (slIn
 (storeIn
 (storeIn g w (4100 : Nat)
 [AV.rsl (rIdIn g w (4100 : Nat)) (rOffIn g w (4100 : Nat))
 m.toNat (1 : Nat)])
 w ((3 : Nat) + m_1.toNat * (1 : Nat))
 [AV.sc
 (Value.int IntKind.i64
 (intIn
 (storeIn g w (4100 : Nat)
 [AV.rsl (rIdIn g w (4100 : Nat))
 (rOffIn g w (4100 : Nat)) m.toNat (1 : Nat)])
 w (4099 : Nat)))])
 w (0 : Nat))
 (iteP
 (inRange m_1
 (elsIn
 (storeIn
 (storeIn g w (4100 : Nat)
 [AV.rsl (rIdIn g w (4100 : Nat))
 (rOffIn g w (4100 : Nat)) m.toNat (1 : Nat)])
 w ((3 : Nat) + m_1.toNat * (1 : Nat))
 [AV.sc
 (Value.int IntKind.i64
 (intIn
 (storeIn g w (4100 : Nat)
 [AV.rsl (rIdIn g w (4100 : Nat))
 (rOffIn g w (4100 : Nat)) m.toNat
 (1 : Nat)])
 w (4099 : Nat)))])
 w (0 : Nat)).length)
 (getI m_1.toNat
 (elsIn
 (storeIn
 (storeIn g w (4100 : Nat)
 [AV.rsl (rIdIn g w (4100 : Nat))
 (rOffIn g w (4100 : Nat)) m.toNat (1 : Nat)])
 w ((3 : Nat) + m_1.toNat * (1 : Nat))
 [AV.sc
 (Value.int IntKind.i64
 (intIn
 (storeIn g w (4100 : Nat)
 [AV.rsl (rIdIn g w (4100 : Nat))
 (rOffIn g w (4100 : Nat)) m.toNat
 (1 : Nat)])
 w (4099 : Nat)))])
 w (0 : Nat)) =
 some
 [AV.sc
 (Value.int IntKind.i64
 (cellInt
 (elsIn
 (storeIn
 (storeIn g w (4100 : Nat)
 [AV.rsl (rIdIn g w (4100 : Nat))
 (rOffIn g w (4100 : Nat)) m.toNat
 (1 : Nat)])
 w ((3 : Nat) + m_1.toNat * (1 : Nat))
 [AV.sc
 (Value.int IntKind.i64
 (intIn
 (storeIn g w (4100 : Nat)
 [AV.rsl (rIdIn g w (4100 : Nat))
 (rOffIn g w (4100 : Nat)) m.toNat
 (1 : Nat)])
 w (4099 : Nat)))])
 w (0 : Nat))
 m_1 (0 : Nat))),
 AV.sc
 (Value.int IntKind.u64
 (cellInt
 (elsIn
 (storeIn
 (storeIn g w (4100 : Nat)
 [AV.rsl (rIdIn g w (4100 : Nat))
 (rOffIn g w (4100 : Nat)) m.toNat
 (1 : Nat)])
 w ((3 : Nat) + m_1.toNat * (1 : Nat))
 [AV.sc
 (Value.int IntKind.i64
 (intIn
 (storeIn g w (4100 : Nat)
 [AV.rsl (rIdIn g w (4100 : Nat))
 (rOffIn g w (4100 : Nat)) m.toNat
 (1 : Nat)])
 w (4099 : Nat)))])
 w (0 : Nat))
 m_1 (1 : Nat))),
 AV.sc
 (Value.int IntKind.u64
 (cellInt
 (elsIn
 (storeIn
 (storeIn g w (4100 : Nat)
 [AV.rsl (rIdIn g w (4100 : Nat))
 (rOffIn g w (4100 : Nat)) m.toNat
 (1 : Nat)])
 w ((3 : Nat) + m_1.toNat * (1 : Nat))
 [AV.sc
 (Value.int IntKind.i64
 (intIn
 (storeIn g w (4100 : Nat)
 [AV.rsl (rIdIn g w (4100 : Nat))
 (rOffIn g w (4100 : Nat)) m.toNat
 (1 : Nat)])
 w (4099 : Nat)))])
 w (0 : Nat))
 m_1 (2 : Nat))),
 AV.sc
 (Value.int IntKind.u64
 (cellInt
 (elsIn
 (storeIn
 (storeIn g w (4100 : Nat)
 [AV.rsl (rIdIn g w (4100 : Nat))
 (rOffIn g w (4100 : Nat)) m.toNat
 (1 : Nat)])
 w ((3 : Nat) + m_1.toNat * (1 : Nat))
 [AV.sc
 (Value.int IntKind.i64
 (intIn
 (storeIn g w (4100 : Nat)
 [AV.rsl (rIdIn g w (4100 : Nat))
 (rOffIn g w (4100 : Nat)) m.toNat
 (1 : Nat)])
 w (4099 : Nat)))])
 w (0 : Nat))
 m_1 (3 : Nat))),
 AV.sc
 (Value.int IntKind.u64
 (cellInt
 (elsIn
 (storeIn
 (storeIn g w (4100 : Nat)
 [AV.rsl (rIdIn g w (4100 : Nat))
 (rOffIn g w (4100 : Nat)) m.toNat
 (1 : Nat)])
 w ((3 : Nat) + m_1.toNat * (1 : Nat))
 [AV.sc
 (Value.int IntKind.i64
 (intIn
 (storeIn g w (4100 : Nat)
 [AV.rsl (rIdIn g w (4100 : Nat))
 (rOffIn g w (4100 : Nat)) m.toNat
 (1 : Nat)])
 w (4099 : Nat)))])
 w (0 : Nat))
 m_1 (4 : Nat))),
 AV.sc
 (Value.int IntKind.i64
 (cellInt
 (elsIn
 (storeIn
 (storeIn g w (4100 : Nat)
 [AV.rsl (rIdIn g w (4100 : Nat))
 (rOffIn g w (4100 : Nat)) m.toNat
 (1 : Nat)])
 w ((3 : Nat) + m_1.toNat * (1 : Nat))
 [AV.sc
 (Value.int IntKind.i64
 (intIn
 (storeIn g w (4100 : Nat)
 [AV.rsl (rIdIn g w (4100 : Nat))
 (rOffIn g w (4100 : Nat)) m.toNat
 (1 : Nat)])
 w (4099 : Nat)))])
 w (0 : Nat))
 m_1 (5 : Nat))),
 AV.sc
 (Value.int IntKind.i64
 (cellInt
 (elsIn
 (storeIn
 (storeIn g w (4100 : Nat)
 [AV.rsl (rIdIn g w (4100 : Nat))
 (rOffIn g w (4100 : Nat)) m.toNat
 (1 : Nat)])
 w ((3 : Nat) + m_1.toNat * (1 : Nat))
 [AV.sc
 (Value.int IntKind.i64
 (intIn
 (storeIn g w (4100 : Nat)
 [AV.rsl (rIdIn g w (4100 : Nat))
 (rOffIn g w (4100 : Nat)) m.toNat
 (1 : Nat)])
 w (4099 : Nat)))])
 w (0 : Nat))
 m_1 (6 : Nat)))] ∧
 ∀ (m_2 : Int),
 m_2 =
 cellInt
 (elsIn
 (storeIn
 (storeIn g w (4100 : Nat)
 [AV.rsl (rIdIn g w (4100 : Nat))
 (rOffIn g w (4100 : Nat)) m.toNat (1 : Nat)])
 w ((3 : Nat) + m_1.toNat * (1 : Nat))
 [AV.sc
 (Value.int IntKind.i64
 (intIn
 (storeIn g w (4100 : Nat)
 [AV.rsl (rIdIn g w (4100 : Nat))
 (rOffIn g w (4100 : Nat)) m.toNat
 (1 : Nat)])
 w (4099 : Nat)))])
 w (0 : Nat))
 m_1 (0 : Nat) →
 iteP (m_2 == (3 : Int))
 (iteP
 (rslIn
 (storeIn
 (storeIn g w (4100 : Nat)
 [AV.rsl (rIdIn g w (4100 : Nat))
 (rOffIn g w (4100 : Nat)) m.toNat (1 : Nat)])
 w ((3 : Nat) + m_1.toNat * (1 : Nat))
 [AV.sc
 (Value.int IntKind.i64
 (intIn
 (storeIn g w (4100 : Nat)
 [AV.rsl (rIdIn g w (4100 : Nat))
 (rOffIn g w (4100 : Nat)) m.toNat
 (1 : Nat)])
 w (4099 : Nat)))])
 w (4100 : Nat) (1 : Nat))
 (iteP
 (fits
 (rLenIn
 (storeIn
 (storeIn g w (4100 : Nat)
 [AV.rsl (rIdIn g w (4100 : Nat))
 (rOffIn g w (4100 : Nat)) m.toNat
 (1 : Nat)])
 w ((3 : Nat) + m_1.toNat * (1 : Nat))
 [AV.sc
 (Value.int IntKind.i64
 (intIn
 (storeIn g w (4100 : Nat)
 [AV.rsl (rIdIn g w (4100 : Nat))
 (rOffIn g w (4100 : Nat))
 m.toNat (1 : Nat)])
 w (4099 : Nat)))])
 w (4100 : Nat) +
 [[AV.sc
 (Value.int IntKind.i64
 (cellInt
 (elsIn
 (storeIn
 (storeIn g w (4100 : Nat)
 [AV.rsl
 (rIdIn g w (4100 : Nat))
 (rOffIn g w (4100 : Nat))
 m.toNat (1 : Nat)])
 w
 ((3 : Nat) +
 m_1.toNat * (1 : Nat))
 [AV.sc
 (Value.int IntKind.i64
 (intIn
 (storeIn g w
 (4100 : Nat)
 [AV.rsl
 (rIdIn g w
 (4100 : Nat))
 (rOffIn g w
 (4100 : Nat))
 m.toNat
 (1 : Nat)])
 w (4099 : Nat)))])
 w (0 : Nat))
 m_1 (5 : Nat)))]].length)
 (8 : Nat) &&
 appOk
 (storeIn
 (storeIn g w (4100 : Nat)
 [AV.rsl (rIdIn g w (4100 : Nat))
 (rOffIn g w (4100 : Nat)) m.toNat
 (1 : Nat)])
 w ((3 : Nat) + m_1.toNat * (1 : Nat))
 [AV.sc
 (Value.int IntKind.i64
 (intIn
 (storeIn g w (4100 : Nat)
 [AV.rsl (rIdIn g w (4100 : Nat))
 (rOffIn g w (4100 : Nat)) m.toNat
 (1 : Nat)])
 w (4099 : Nat)))])
 (rIdIn
 (storeIn
 (storeIn g w (4100 : Nat)
 [AV.rsl (rIdIn g w (4100 : Nat))
 (rOffIn g w (4100 : Nat)) m.toNat
 (1 : Nat)])
 w ((3 : Nat) + m_1.toNat * (1 : Nat))
 [AV.sc
 (Value.int IntKind.i64
 (intIn
 (storeIn g w (4100 : Nat)
 [AV.rsl (rIdIn g w (4100 : Nat))
 (rOffIn g w (4100 : Nat))
 m.toNat (1 : Nat)])
 w (4099 : Nat)))])
 w (4100 : Nat))
 (rOffIn
 (storeIn
 (storeIn g w (4100 : Nat)
 [AV.rsl (rIdIn g w (4100 : Nat))
 (rOffIn g w (4100 : Nat)) m.toNat
 (1 : Nat)])
 w ((3 : Nat) + m_1.toNat * (1 : Nat))
 [AV.sc
 (Value.int IntKind.i64
 (intIn
 (storeIn g w (4100 : Nat)
 [AV.rsl (rIdIn g w (4100 : Nat))
 (rOffIn g w (4100 : Nat))
 m.toNat (1 : Nat)])
 w (4099 : Nat)))])
 w (4100 : Nat))
 (rLenIn
 (storeIn
 (storeIn g w (4100 : Nat)
 [AV.rsl (rIdIn g w (4100 : Nat))
 (rOffIn g w (4100 : Nat)) m.toNat
 (1 : Nat)])
 w ((3 : Nat) + m_1.toNat * (1 : Nat))
 [AV.sc
 (Value.int IntKind.i64
 (intIn
 (storeIn g w (4100 : Nat)
 [AV.rsl (rIdIn g w (4100 : Nat))
 (rOffIn g w (4100 : Nat))
 m.toNat (1 : Nat)])
 w (4099 : Nat)))])
 w (4100 : Nat) *
 (1 : Nat)))
 (iteP
 (okIn
 (appIn
 (storeIn
 (storeIn g w (4100 : Nat)
 [AV.rsl (rIdIn g w (4100 : Nat))
 (rOffIn g w (4100 : Nat)) m.toNat
 (1 : Nat)])
 w ((3 : Nat) + m_1.toNat * (1 : Nat))
 [AV.sc
 (Value.int IntKind.i64
 (intIn
 (storeIn g w (4100 : Nat)
 [AV.rsl (rIdIn g w (4100 : Nat))
 (rOffIn g w (4100 : Nat))
 m.toNat (1 : Nat)])
 w (4099 : Nat)))])
 (rIdIn
 (storeIn
 (storeIn g w (4100 : Nat)
 [AV.rsl (rIdIn g w (4100 : Nat))
 (rOffIn g w (4100 : Nat)) m.toNat
 (1 : Nat)])
 w ((3 : Nat) + m_1.toNat * (1 : Nat))
 [AV.sc
 (Value.int IntKind.i64
 (intIn
 (storeIn g w (4100 : Nat)
 [AV.rsl (rIdIn g w (4100 : Nat))
 (rOffIn g w (4100 : Nat))
 m.toNat (1 : Nat)])
 w (4099 : Nat)))])
 w (4100 : Nat))
 (rOffIn
 (storeIn
 (storeIn g w (4100 : Nat)
 [AV.rsl (rIdIn g w (4100 : Nat))
 (rOffIn g w (4100 : Nat)) m.toNat
 (1 : Nat)])
 w ((3 : Nat) + m_1.toNat * (1 : Nat))
 [AV.sc
 (Value.int IntKind.i64
 (intIn
 (storeIn g w (4100 : Nat)
 [AV.rsl (rIdIn g w (4100 : Nat))
 (rOffIn g w (4100 : Nat))
 m.toNat (1 : Nat)])
 w (4099 : Nat)))])
 w (4100 : Nat))
 (rLenIn
 (storeIn
 (storeIn g w (4100 : Nat)
 [AV.rsl (rIdIn g w (4100 : Nat))
 (rOffIn g w (4100 : Nat)) m.toNat
 (1 : Nat)])
 w ((3 : Nat) + m_1.toNat * (1 : Nat))
 [AV.sc
 (Value.int IntKind.i64
 (intIn
 (storeIn g w (4100 : Nat)
 [AV.rsl (rIdIn g w (4100 : Nat))
 (rOffIn g w (4100 : Nat))
 m.toNat (1 : Nat)])
 w (4099 : Nat)))])
 w (4100 : Nat) *
 (1 : Nat))
 [[AV.sc
 (Value.int IntKind.i64
 (cellInt
 (elsIn
 (storeIn
 (storeIn g w (4100 : Nat)
 [AV.rsl (rIdIn g w (4100 : Nat))
 (rOffIn g w (4100 : Nat))
 m.toNat (1 : Nat)])
 w
 ((3 : Nat) +
 m_1.toNat * (1 : Nat))
 [AV.sc
 (Value.int IntKind.i64
 (intIn
 (storeIn g w (4100 : Nat)
 [AV.rsl
 (rIdIn g w
 (4100 : Nat))
 (rOffIn g w
 (4100 : Nat))
 m.toNat (1 : Nat)])
 w (4099 : Nat)))])
 w (0 : Nat))
 m_1 (5 : Nat)))]])
 w (4100 : Nat)
 [AV.rsl
 (storeIn
 (storeIn g w (4100 : Nat)
 [AV.rsl (rIdIn g w (4100 : Nat))
 (rOffIn g w (4100 : Nat)) m.toNat
 (1 : Nat)])
 w ((3 : Nat) + m_1.toNat * (1 : Nat))
 [AV.sc
 (Value.int IntKind.i64
 (intIn
 (storeIn g w (4100 : Nat)
 [AV.rsl
 (rIdIn g w (4100 : Nat))
 (rOffIn g w (4100 : Nat))
 m.toNat (1 : Nat)])
 w (4099 : Nat)))]).next
 (0 : Nat)
 (rLenIn
 (storeIn
 (storeIn g w (4100 : Nat)
 [AV.rsl (rIdIn g w (4100 : Nat))
 (rOffIn g w (4100 : Nat))
 m.toNat (1 : Nat)])
 w ((3 : Nat) + m_1.toNat * (1 : Nat))
 [AV.sc
 (Value.int IntKind.i64
 (intIn
 (storeIn g w (4100 : Nat)
 [AV.rsl
 (rIdIn g w (4100 : Nat))
 (rOffIn g w
 (4100 : Nat))
 m.toNat (1 : Nat)])
 w (4099 : Nat)))])
 w (4100 : Nat) +
 [[AV.sc
 (Value.int IntKind.i64
 (cellInt
 (elsIn
 (storeIn
 (storeIn g w (4100 : Nat)
 [AV.rsl
 (rIdIn g w
 (4100 : Nat))
 (rOffIn g w
 (4100 : Nat))
 m.toNat (1 : Nat)])
 w
 ((3 : Nat) +
 m_1.toNat * (1 : Nat))
 [AV.sc
 (Value.int IntKind.i64
 (intIn
 (storeIn g w
 (4100 : Nat)
 [AV.rsl
 (rIdIn g w
 (4100 :
 Nat))
 (rOffIn g w
 (4100 :
 Nat))
 m.toNat
 (1 : Nat)])
 w (4099 : Nat)))])
 w (0 : Nat))
 m_1 (5 : Nat)))]].length)
 (1 : Nat)].length)
 (I144n w f i
 (storeIn
 (appIn
 (storeIn
 (storeIn g w (4100 : Nat)
 [AV.rsl (rIdIn g w (4100 : Nat))
 (rOffIn g w (4100 : Nat)) m.toNat
 (1 : Nat)])
 w ((3 : Nat) + m_1.toNat * (1 : Nat))
 [AV.sc
 (Value.int IntKind.i64
 (intIn
 (storeIn g w (4100 : Nat)
 [AV.rsl
 (rIdIn g w (4100 : Nat))
 (rOffIn g w (4100 : Nat))
 m.toNat (1 : Nat)])
 w (4099 : Nat)))])
 (rIdIn
 (storeIn
 (storeIn g w (4100 : Nat)
 [AV.rsl (rIdIn g w (4100 : Nat))
 (rOffIn g w (4100 : Nat))
 m.toNat (1 : Nat)])
 w ((3 : Nat) + m_1.toNat * (1 : Nat))
 [AV.sc
 (Value.int IntKind.i64
 (intIn
 (storeIn g w (4100 : Nat)
 [AV.rsl
 (rIdIn g w (4100 : Nat))
 (rOffIn g w
 (4100 : Nat))
 m.toNat (1 : Nat)])
 w (4099 : Nat)))])
 w (4100 : Nat))
 (rOffIn
 (storeIn
 (storeIn g w (4100 : Nat)
 [AV.rsl (rIdIn g w (4100 : Nat))
 (rOffIn g w (4100 : Nat))
 m.toNat (1 : Nat)])
 w ((3 : Nat) + m_1.toNat * (1 : Nat))
 [AV.sc
 (Value.int IntKind.i64
 (intIn
 (storeIn g w (4100 : Nat)
 [AV.rsl
 (rIdIn g w (4100 : Nat))
 (rOffIn g w
 (4100 : Nat))
 m.toNat (1 : Nat)])
 w (4099 : Nat)))])
 w (4100 : Nat))
 (rLenIn
 (storeIn
 (storeIn g w (4100 : Nat)
 [AV.rsl (rIdIn g w (4100 : Nat))
 (rOffIn g w (4100 : Nat))
 m.toNat (1 : Nat)])
 w
 ((3 : Nat) + m_1.toNat * (1 : Nat))
 [AV.sc
 (Value.int IntKind.i64
 (intIn
 (storeIn g w (4100 : Nat)
 [AV.rsl
 (rIdIn g w
 (4100 : Nat))
 (rOffIn g w
 (4100 : Nat))
 m.toNat (1 : Nat)])
 w (4099 : Nat)))])
 w (4100 : Nat) *
 (1 : Nat))
 [[AV.sc
 (Value.int IntKind.i64
 (cellInt
 (elsIn
 (storeIn
 (storeIn g w (4100 : Nat)
 [AV.rsl
 (rIdIn g w
 (4100 : Nat))
 (rOffIn g w
 (4100 : Nat))
 m.toNat (1 : Nat)])
 w
 ((3 : Nat) +
 m_1.toNat * (1 : Nat))
 [AV.sc
 (Value.int IntKind.i64
 (intIn
 (storeIn g w
 (4100 : Nat)
 [AV.rsl
 (rIdIn g w
 (4100 :
 Nat))
 (rOffIn g w
 (4100 :
 Nat))
 m.toNat
 (1 : Nat)])
 w (4099 : Nat)))])
 w (0 : Nat))
 m_1 (5 : Nat)))]])
 w (4100 : Nat)
 [AV.rsl
 (storeIn
 (storeIn g w (4100 : Nat)
 [AV.rsl (rIdIn g w (4100 : Nat))
 (rOffIn g w (4100 : Nat))
 m.toNat (1 : Nat)])
 w
 ((3 : Nat) + m_1.toNat * (1 : Nat))
 [AV.sc
 (Value.int IntKind.i64
 (intIn
 (storeIn g w (4100 : Nat)
 [AV.rsl
 (rIdIn g w
 (4100 : Nat))
 (rOffIn g w
 (4100 : Nat))
 m.toNat (1 : Nat)])
 w (4099 : Nat)))]).next
 (0 : Nat)
 (rLenIn
 (storeIn
 (storeIn g w (4100 : Nat)
 [AV.rsl (rIdIn g w (4100 : Nat))
 (rOffIn g w (4100 : Nat))
 m.toNat (1 : Nat)])
 w
 ((3 : Nat) +
 m_1.toNat * (1 : Nat))
 [AV.sc
 (Value.int IntKind.i64
 (intIn
 (storeIn g w (4100 : Nat)
 [AV.rsl
 (rIdIn g w
 (4100 : Nat))
 (rOffIn g w
 (4100 : Nat))
 m.toNat (1 : Nat)])
 w (4099 : Nat)))])
 w (4100 : Nat) +
 [[AV.sc
 (Value.int IntKind.i64
 (cellInt
 (elsIn
 (storeIn
 (storeIn g w
 (4100 : Nat)
 [AV.rsl
 (rIdIn g w
 (4100 : Nat))
 (rOffIn g w
 (4100 : Nat))
 m.toNat
 (1 : Nat)])
 w
 ((3 : Nat) +
 m_1.toNat *
 (1 : Nat))
 [AV.sc
 (Value.int
 IntKind.i64
 (intIn
 (storeIn g w
 (4100 : Nat)
 [AV.rsl
 (rIdIn g
 w
 (4100 :
 Nat))
 (rOffIn
 g w
 (4100 :
 Nat))
 m.toNat
 (1 :
 Nat)])
 w
 (4099 :
 Nat)))])
 w (0 : Nat))
 m_1 (5 : Nat)))]].length)
 (1 : Nat)]) =
 I144n w f i
 (storeIn
 (appIn
 (storeIn
 (storeIn g w (4100 : Nat)
 [AV.rsl (rIdIn g w (4100 : Nat))
 (rOffIn g w (4100 : Nat)) m.toNat
 (1 : Nat)])
 w ((3 : Nat) + m_1.toNat * (1 : Nat))
 [AV.sc
 (Value.int IntKind.i64
 (intIn
 (storeIn g w (4100 : Nat)
 [AV.rsl
 (rIdIn g w (4100 : Nat))
 (rOffIn g w (4100 : Nat))
 m.toNat (1 : Nat)])
 w (4099 : Nat)))])
 (rIdIn
 (storeIn
 (storeIn g w (4100 : Nat)
 [AV.rsl (rIdIn g w (4100 : Nat))
 (rOffIn g w (4100 : Nat))
 m.toNat (1 : Nat)])
 w ((3 : Nat) + m_1.toNat * (1 : Nat))
 [AV.sc
 (Value.int IntKind.i64
 (intIn
 (storeIn g w (4100 : Nat)
 [AV.rsl
 (rIdIn g w (4100 : Nat))
 (rOffIn g w
 (4100 : Nat))
 m.toNat (1 : Nat)])
 w (4099 : Nat)))])
 w (4100 : Nat))
 (rOffIn
 (storeIn
 (storeIn g w (4100 : Nat)
 [AV.rsl (rIdIn g w (4100 : Nat))
 (rOffIn g w (4100 : Nat))
 m.toNat (1 : Nat)])
 w ((3 : Nat) + m_1.toNat * (1 : Nat))
 [AV.sc
 (Value.int IntKind.i64
 (intIn
 (storeIn g w (4100 : Nat)
 [AV.rsl
 (rIdIn g w (4100 : Nat))
 (rOffIn g w
 (4100 : Nat))
 m.toNat (1 : Nat)])
 w (4099 : Nat)))])
 w (4100 : Nat))
 (rLenIn
 (storeIn
 (storeIn g w (4100 : Nat)
 [AV.rsl (rIdIn g w (4100 : Nat))
 (rOffIn g w (4100 : Nat))
 m.toNat (1 : Nat)])
 w
 ((3 : Nat) + m_1.toNat * (1 : Nat))
 [AV.sc
 (Value.int IntKind.i64
 (intIn
 (storeIn g w (4100 : Nat)
 [AV.rsl
 (rIdIn g w
 (4100 : Nat))
 (rOffIn g w
 (4100 : Nat))
 m.toNat (1 : Nat)])
 w (4099 : Nat)))])
 w (4100 : Nat) *
 (1 : Nat))
 [[AV.sc
 (Value.int IntKind.i64
 (cellInt
 (elsIn
 (storeIn
 (storeIn g w (4100 : Nat)
 [AV.rsl
 (rIdIn g w
 (4100 : Nat))
 (rOffIn g w
 (4100 : Nat))
 m.toNat (1 : Nat)])
 w
 ((3 : Nat) +
 m_1.toNat * (1 : Nat))
 [AV.sc
 (Value.int IntKind.i64
 (intIn
 (storeIn g w
 (4100 : Nat)
 [AV.rsl
 (rIdIn g w
 (4100 :
 Nat))
 (rOffIn g w
 (4100 :
 Nat))
 m.toNat
 (1 : Nat)])
 w (4099 : Nat)))])
 w (0 : Nat))
 m_1 (5 : Nat)))]])
 w (4100 : Nat)
 [AV.rsl
 (storeIn
 (storeIn g w (4100 : Nat)
 [AV.rsl (rIdIn g w (4100 : Nat))
 (rOffIn g w (4100 : Nat))
 m.toNat (1 : Nat)])
 w
 ((3 : Nat) + m_1.toNat * (1 : Nat))
 [AV.sc
 (Value.int IntKind.i64
 (intIn
 (storeIn g w (4100 : Nat)
 [AV.rsl
 (rIdIn g w
 (4100 : Nat))
 (rOffIn g w
 (4100 : Nat))
 m.toNat (1 : Nat)])
 w (4099 : Nat)))]).next
 (0 : Nat)
 (rLenIn
 (storeIn
 (storeIn g w (4100 : Nat)
 [AV.rsl (rIdIn g w (4100 : Nat))
 (rOffIn g w (4100 : Nat))
 m.toNat (1 : Nat)])
 w
 ((3 : Nat) +
 m_1.toNat * (1 : Nat))
 [AV.sc
 (Value.int IntKind.i64
 (intIn
 (storeIn g w (4100 : Nat)
 [AV.rsl
 (rIdIn g w
 (4100 : Nat))
 (rOffIn g w
 (4100 : Nat))
 m.toNat (1 : Nat)])
 w (4099 : Nat)))])
 w (4100 : Nat) +
 [[AV.sc
 (Value.int IntKind.i64
 (cellInt
 (elsIn
 (storeIn
 (storeIn g w
 (4100 : Nat)
 [AV.rsl
 (rIdIn g w
 (4100 : Nat))
 (rOffIn g w
 (4100 : Nat))
 m.toNat
 (1 : Nat)])
 w
 ((3 : Nat) +
 m_1.toNat *
 (1 : Nat))
 [AV.sc
 (Value.int
 IntKind.i64
 (intIn
 (storeIn g w
 (4100 : Nat)
 [AV.rsl
 (rIdIn g
 w
 (4100 :
 Nat))
 (rOffIn
 g w
 (4100 :
 Nat))
 m.toNat
 (1 :
 Nat)])
 w
 (4099 :
 Nat)))])
 w (0 : Nat))
 m_1 (5 : Nat)))]].length)
 (1 : Nat)]) ∧
 N
 (storeIn
 (appIn
 (storeIn
 (storeIn g w (4100 : Nat)
 [AV.rsl (rIdIn g w (4100 : Nat))
 (rOffIn g w (4100 : Nat)) m.toNat
 (1 : Nat)])
 w ((3 : Nat) + m_1.toNat * (1 : Nat))
 [AV.sc
 (Value.int IntKind.i64
 (intIn
 (storeIn g w (4100 : Nat)
 [AV.rsl (rIdIn g w (4100 : Nat))
 (rOffIn g w (4100 : Nat))
 m.toNat (1 : Nat)])
 w (4099 : Nat)))])
 (rIdIn
 (storeIn
 (storeIn g w (4100 : Nat)
 [AV.rsl (rIdIn g w (4100 : Nat))
 (rOffIn g w (4100 : Nat)) m.toNat
 (1 : Nat)])
 w ((3 : Nat) + m_1.toNat * (1 : Nat))
 [AV.sc
 (Value.int IntKind.i64
 (intIn
 (storeIn g w (4100 : Nat)
 [AV.rsl
 (rIdIn g w (4100 : Nat))
 (rOffIn g w (4100 : Nat))
 m.toNat (1 : Nat)])
 w (4099 : Nat)))])
 w (4100 : Nat))
 (rOffIn
 (storeIn
 (storeIn g w (4100 : Nat)
 [AV.rsl (rIdIn g w (4100 : Nat))
 (rOffIn g w (4100 : Nat)) m.toNat
 (1 : Nat)])
 w ((3 : Nat) + m_1.toNat * (1 : Nat))
 [AV.sc
 (Value.int IntKind.i64
 (intIn
 (storeIn g w (4100 : Nat)
 [AV.rsl
 (rIdIn g w (4100 : Nat))
 (rOffIn g w (4100 : Nat))
 m.toNat (1 : Nat)])
 w (4099 : Nat)))])
 w (4100 : Nat))
 (rLenIn
 (storeIn
 (storeIn g w (4100 : Nat)
 [AV.rsl (rIdIn g w (4100 : Nat))
 (rOffIn g w (4100 : Nat))
 m.toNat (1 : Nat)])
 w ((3 : Nat) + m_1.toNat * (1 : Nat))
 [AV.sc
 (Value.int IntKind.i64
 (intIn
 (storeIn g w (4100 : Nat)
 [AV.rsl
 (rIdIn g w (4100 : Nat))
 (rOffIn g w
 (4100 : Nat))
 m.toNat (1 : Nat)])
 w (4099 : Nat)))])
 w (4100 : Nat) *
 (1 : Nat))
 [[AV.sc
 (Value.int IntKind.i64
 (cellInt
 (elsIn
 (storeIn
 (storeIn g w (4100 : Nat)
 [AV.rsl
 (rIdIn g w (4100 : Nat))
 (rOffIn g w
 (4100 : Nat))
 m.toNat (1 : Nat)])
 w
 ((3 : Nat) +
 m_1.toNat * (1 : Nat))
 [AV.sc
 (Value.int IntKind.i64
 (intIn
 (storeIn g w
 (4100 : Nat)
 [AV.rsl
 (rIdIn g w
 (4100 : Nat))
 (rOffIn g w
 (4100 : Nat))
 m.toNat
 (1 : Nat)])
 w (4099 : Nat)))])
 w (0 : Nat))
 m_1 (5 : Nat)))]])
 w (4100 : Nat)
 [AV.rsl
 (storeIn
 (storeIn g w (4100 : Nat)
 [AV.rsl (rIdIn g w (4100 : Nat))
 (rOffIn g w (4100 : Nat))
 m.toNat (1 : Nat)])
 w ((3 : Nat) + m_1.toNat * (1 : Nat))
 [AV.sc
 (Value.int IntKind.i64
 (intIn
 (storeIn g w (4100 : Nat)
 [AV.rsl
 (rIdIn g w (4100 : Nat))
 (rOffIn g w
 (4100 : Nat))
 m.toNat (1 : Nat)])
 w (4099 : Nat)))]).next
 (0 : Nat)
 (rLenIn
 (storeIn
 (storeIn g w (4100 : Nat)
 [AV.rsl (rIdIn g w (4100 : Nat))
 (rOffIn g w (4100 : Nat))
 m.toNat (1 : Nat)])
 w
 ((3 : Nat) + m_1.toNat * (1 : Nat))
 [AV.sc
 (Value.int IntKind.i64
 (intIn
 (storeIn g w (4100 : Nat)
 [AV.rsl
 (rIdIn g w
 (4100 : Nat))
 (rOffIn g w
 (4100 : Nat))
 m.toNat (1 : Nat)])
 w (4099 : Nat)))])
 w (4100 : Nat) +
 [[AV.sc
 (Value.int IntKind.i64
 (cellInt
 (elsIn
 (storeIn
 (storeIn g w
 (4100 : Nat)
 [AV.rsl
 (rIdIn g w
 (4100 : Nat))
 (rOffIn g w
 (4100 : Nat))
 m.toNat
 (1 : Nat)])
 w
 ((3 : Nat) +
 m_1.toNat * (1 : Nat))
 [AV.sc
 (Value.int
 IntKind.i64
 (intIn
 (storeIn g w
 (4100 : Nat)
 [AV.rsl
 (rIdIn g w
 (4100 :
 Nat))
 (rOffIn g
 w
 (4100 :
 Nat))
 m.toNat
 (1 :
 Nat)])
 w
 (4099 : Nat)))])
 w (0 : Nat))
 m_1 (5 : Nat)))]].length)
 (1 : Nat)]))
 False)
 False)
 False)
 (iteP (m_2 == (2 : Int))
 (iteP
 (rslIn
 (storeIn
 (storeIn g w (4100 : Nat)
 [AV.rsl (rIdIn g w (4100 : Nat))
 (rOffIn g w (4100 : Nat)) m.toNat
 (1 : Nat)])
 w ((3 : Nat) + m_1.toNat * (1 : Nat))
 [AV.sc
 (Value.int IntKind.i64
 (intIn
 (storeIn g w (4100 : Nat)
 [AV.rsl (rIdIn g w (4100 : Nat))
 (rOffIn g w (4100 : Nat)) m.toNat
 (1 : Nat)])
 w (4099 : Nat)))])
 w (4100 : Nat) (1 : Nat))
 (iteP
 (fits
 (rLenIn
 (storeIn
 (storeIn g w (4100 : Nat)
 [AV.rsl (rIdIn g w (4100 : Nat))
 (rOffIn g w (4100 : Nat)) m.toNat
 (1 : Nat)])
 w ((3 : Nat) + m_1.toNat * (1 : Nat))
 [AV.sc
 (Value.int IntKind.i64
 (intIn
 (storeIn g w (4100 : Nat)
 [AV.rsl (rIdIn g w (4100 : Nat))
 (rOffIn g w (4100 : Nat))
 m.toNat (1 : Nat)])
 w (4099 : Nat)))])
 w (4100 : Nat) +
 [[AV.sc
 (Value.int IntKind.i64
 (cellInt
 (elsIn
 (storeIn
 (storeIn g w (4100 : Nat)
 [AV.rsl
 (rIdIn g w (4100 : Nat))
 (rOffIn g w
 (4100 : Nat))
 m.toNat (1 : Nat)])
 w
 ((3 : Nat) +
 m_1.toNat * (1 : Nat))
 [AV.sc
 (Value.int IntKind.i64
 (intIn
 (storeIn g w
 (4100 : Nat)
 [AV.rsl
 (rIdIn g w
 (4100 : Nat))
 (rOffIn g w
 (4100 : Nat))
 m.toNat
 (1 : Nat)])
 w (4099 : Nat)))])
 w (0 : Nat))
 m_1 (6 : Nat)))],
 [AV.sc
 (Value.int IntKind.i64
 (cellInt
 (elsIn
 (storeIn
 (storeIn g w (4100 : Nat)
 [AV.rsl
 (rIdIn g w (4100 : Nat))
 (rOffIn g w
 (4100 : Nat))
 m.toNat (1 : Nat)])
 w
 ((3 : Nat) +
 m_1.toNat * (1 : Nat))
 [AV.sc
 (Value.int IntKind.i64
 (intIn
 (storeIn g w
 (4100 : Nat)
 [AV.rsl
 (rIdIn g w
 (4100 : Nat))
 (rOffIn g w
 (4100 : Nat))
 m.toNat
 (1 : Nat)])
 w (4099 : Nat)))])
 w (0 : Nat))
 m_1 (5 : Nat)))]].length)
 (8 : Nat) &&
 appOk
 (storeIn
 (storeIn g w (4100 : Nat)
 [AV.rsl (rIdIn g w (4100 : Nat))
 (rOffIn g w (4100 : Nat)) m.toNat
 (1 : Nat)])
 w ((3 : Nat) + m_1.toNat * (1 : Nat))
 [AV.sc
 (Value.int IntKind.i64
 (intIn
 (storeIn g w (4100 : Nat)
 [AV.rsl (rIdIn g w (4100 : Nat))
 (rOffIn g w (4100 : Nat))
 m.toNat (1 : Nat)])
 w (4099 : Nat)))])
 (rIdIn
 (storeIn
 (storeIn g w (4100 : Nat)
 [AV.rsl (rIdIn g w (4100 : Nat))
 (rOffIn g w (4100 : Nat)) m.toNat
 (1 : Nat)])
 w ((3 : Nat) + m_1.toNat * (1 : Nat))
 [AV.sc
 (Value.int IntKind.i64
 (intIn
 (storeIn g w (4100 : Nat)
 [AV.rsl (rIdIn g w (4100 : Nat))
 (rOffIn g w (4100 : Nat))
 m.toNat (1 : Nat)])
 w (4099 : Nat)))])
 w (4100 : Nat))
 (rOffIn
 (storeIn
 (storeIn g w (4100 : Nat)
 [AV.rsl (rIdIn g w (4100 : Nat))
 (rOffIn g w (4100 : Nat)) m.toNat
 (1 : Nat)])
 w ((3 : Nat) + m_1.toNat * (1 : Nat))
 [AV.sc
 (Value.int IntKind.i64
 (intIn
 (storeIn g w (4100 : Nat)
 [AV.rsl (rIdIn g w (4100 : Nat))
 (rOffIn g w (4100 : Nat))
 m.toNat (1 : Nat)])
 w (4099 : Nat)))])
 w (4100 : Nat))
 (rLenIn
 (storeIn
 (storeIn g w (4100 : Nat)
 [AV.rsl (rIdIn g w (4100 : Nat))
 (rOffIn g w (4100 : Nat)) m.toNat
 (1 : Nat)])
 w ((3 : Nat) + m_1.toNat * (1 : Nat))
 [AV.sc
 (Value.int IntKind.i64
 (intIn
 (storeIn g w (4100 : Nat)
 [AV.rsl (rIdIn g w (4100 : Nat))
 (rOffIn g w (4100 : Nat))
 m.toNat (1 : Nat)])
 w (4099 : Nat)))])
 w (4100 : Nat) *
 (1 : Nat)))
 (iteP
 (okIn
 (appIn
 (storeIn
 (storeIn g w (4100 : Nat)
 [AV.rsl (rIdIn g w (4100 : Nat))
 (rOffIn g w (4100 : Nat)) m.toNat
 (1 : Nat)])
 w ((3 : Nat) + m_1.toNat * (1 : Nat))
 [AV.sc
 (Value.int IntKind.i64
 (intIn
 (storeIn g w (4100 : Nat)
 [AV.rsl (rIdIn g w (4100 : Nat))
 (rOffIn g w (4100 : Nat))
 m.toNat (1 : Nat)])
 w (4099 : Nat)))])
 (rIdIn
 (storeIn
 (storeIn g w (4100 : Nat)
 [AV.rsl (rIdIn g w (4100 : Nat))
 (rOffIn g w (4100 : Nat)) m.toNat
 (1 : Nat)])
 w ((3 : Nat) + m_1.toNat * (1 : Nat))
 [AV.sc
 (Value.int IntKind.i64
 (intIn
 (storeIn g w (4100 : Nat)
 [AV.rsl (rIdIn g w (4100 : Nat))
 (rOffIn g w (4100 : Nat))
 m.toNat (1 : Nat)])
 w (4099 : Nat)))])
 w (4100 : Nat))
 (rOffIn
 (storeIn
 (storeIn g w (4100 : Nat)
 [AV.rsl (rIdIn g w (4100 : Nat))
 (rOffIn g w (4100 : Nat)) m.toNat
 (1 : Nat)])
 w ((3 : Nat) + m_1.toNat * (1 : Nat))
 [AV.sc
 (Value.int IntKind.i64
 (intIn
 (storeIn g w (4100 : Nat)
 [AV.rsl (rIdIn g w (4100 : Nat))
 (rOffIn g w (4100 : Nat))
 m.toNat (1 : Nat)])
 w (4099 : Nat)))])
 w (4100 : Nat))
 (rLenIn
 (storeIn
 (storeIn g w (4100 : Nat)
 [AV.rsl (rIdIn g w (4100 : Nat))
 (rOffIn g w (4100 : Nat)) m.toNat
 (1 : Nat)])
 w ((3 : Nat) + m_1.toNat * (1 : Nat))
 [AV.sc
 (Value.int IntKind.i64
 (intIn
 (storeIn g w (4100 : Nat)
 [AV.rsl
 (rIdIn g w (4100 : Nat))
 (rOffIn g w (4100 : Nat))
 m.toNat (1 : Nat)])
 w (4099 : Nat)))])
 w (4100 : Nat) *
 (1 : Nat))
 [[AV.sc
 (Value.int IntKind.i64
 (cellInt
 (elsIn
 (storeIn
 (storeIn g w (4100 : Nat)
 [AV.rsl
 (rIdIn g w (4100 : Nat))
 (rOffIn g w (4100 : Nat))
 m.toNat (1 : Nat)])
 w
 ((3 : Nat) +
 m_1.toNat * (1 : Nat))
 [AV.sc
 (Value.int IntKind.i64
 (intIn
 (storeIn g w
 (4100 : Nat)
 [AV.rsl
 (rIdIn g w
 (4100 : Nat))
 (rOffIn g w
 (4100 : Nat))
 m.toNat
 (1 : Nat)])
 w (4099 : Nat)))])
 w (0 : Nat))
 m_1 (6 : Nat)))],
 [AV.sc
 (Value.int IntKind.i64
 (cellInt
 (elsIn
 (storeIn
 (storeIn g w (4100 : Nat)
 [AV.rsl
 (rIdIn g w (4100 : Nat))
 (rOffIn g w (4100 : Nat))
 m.toNat (1 : Nat)])
 w
 ((3 : Nat) +
 m_1.toNat * (1 : Nat))
 [AV.sc
 (Value.int IntKind.i64
 (intIn
 (storeIn g w
 (4100 : Nat)
 [AV.rsl
 (rIdIn g w
 (4100 : Nat))
 (rOffIn g w
 (4100 : Nat))
 m.toNat
 (1 : Nat)])
 w (4099 : Nat)))])
 w (0 : Nat))
 m_1 (5 : Nat)))]])
 w (4100 : Nat)
 [AV.rsl
 (storeIn
 (storeIn g w (4100 : Nat)
 [AV.rsl (rIdIn g w (4100 : Nat))
 (rOffIn g w (4100 : Nat))
 m.toNat (1 : Nat)])
 w ((3 : Nat) + m_1.toNat * (1 : Nat))
 [AV.sc
 (Value.int IntKind.i64
 (intIn
 (storeIn g w (4100 : Nat)
 [AV.rsl
 (rIdIn g w (4100 : Nat))
 (rOffIn g w
 (4100 : Nat))
 m.toNat (1 : Nat)])
 w (4099 : Nat)))]).next
 (0 : Nat)
 (rLenIn
 (storeIn
 (storeIn g w (4100 : Nat)
 [AV.rsl (rIdIn g w (4100 : Nat))
 (rOffIn g w (4100 : Nat))
 m.toNat (1 : Nat)])
 w
 ((3 : Nat) + m_1.toNat * (1 : Nat))
 [AV.sc
 (Value.int IntKind.i64
 (intIn
 (storeIn g w (4100 : Nat)
 [AV.rsl
 (rIdIn g w
 (4100 : Nat))
 (rOffIn g w
 (4100 : Nat))
 m.toNat (1 : Nat)])
 w (4099 : Nat)))])
 w (4100 : Nat) +
 [[AV.sc
 (Value.int IntKind.i64
 (cellInt
 (elsIn
 (storeIn
 (storeIn g w
 (4100 : Nat)
 [AV.rsl
 (rIdIn g w
 (4100 : Nat))
 (rOffIn g w
 (4100 : Nat))
 m.toNat
 (1 : Nat)])
 w
 ((3 : Nat) +
 m_1.toNat * (1 : Nat))
 [AV.sc
 (Value.int
 IntKind.i64
 (intIn
 (storeIn g w
 (4100 : Nat)
 [AV.rsl
 (rIdIn g w
 (4100 :
 Nat))
 (rOffIn g
 w
 (4100 :
 Nat))
 m.toNat
 (1 :
 Nat)])
 w
 (4099 : Nat)))])
 w (0 : Nat))
 m_1 (6 : Nat)))],
 [AV.sc
 (Value.int IntKind.i64
 (cellInt
 (elsIn
 (storeIn
 (storeIn g w
 (4100 : Nat)
 [AV.rsl
 (rIdIn g w
 (4100 : Nat))
 (rOffIn g w
 (4100 : Nat))
 m.toNat
 (1 : Nat)])
 w
 ((3 : Nat) +
 m_1.toNat * (1 : Nat))
 [AV.sc
 (Value.int
 IntKind.i64
 (intIn
 (storeIn g w
 (4100 : Nat)
 [AV.rsl
 (rIdIn g w
 (4100 :
 Nat))
 (rOffIn g
 w
 (4100 :
 Nat))
 m.toNat
 (1 :
 Nat)])
 w
 (4099 : Nat)))])
 w (0 : Nat))
 m_1 (5 : Nat)))]].length)
 (1 : Nat)].length)
 (I144n w f i
 (storeIn
 (appIn
 (storeIn
 (storeIn g w (4100 : Nat)
 [AV.rsl (rIdIn g w (4100 : Nat))
 (rOffIn g w (4100 : Nat))
 m.toNat (1 : Nat)])
 w ((3 : Nat) + m_1.toNat * (1 : Nat))
 [AV.sc
 (Value.int IntKind.i64
 (intIn
 (storeIn g w (4100 : Nat)
 [AV.rsl
 (rIdIn g w (4100 : Nat))
 (rOffIn g w
 (4100 : Nat))
 m.toNat (1 : Nat)])
 w (4099 : Nat)))])
 (rIdIn
 (storeIn
 (storeIn g w (4100 : Nat)
 [AV.rsl (rIdIn g w (4100 : Nat))
 (rOffIn g w (4100 : Nat))
 m.toNat (1 : Nat)])
 w
 ((3 : Nat) + m_1.toNat * (1 : Nat))
 [AV.sc
 (Value.int IntKind.i64
 (intIn
 (storeIn g w (4100 : Nat)
 [AV.rsl
 (rIdIn g w
 (4100 : Nat))
 (rOffIn g w
 (4100 : Nat))
 m.toNat (1 : Nat)])
 w (4099 : Nat)))])
 w (4100 : Nat))
 (rOffIn
 (storeIn
 (storeIn g w (4100 : Nat)
 [AV.rsl (rIdIn g w (4100 : Nat))
 (rOffIn g w (4100 : Nat))
 m.toNat (1 : Nat)])
 w
 ((3 : Nat) + m_1.toNat * (1 : Nat))
 [AV.sc
 (Value.int IntKind.i64
 (intIn
 (storeIn g w (4100 : Nat)
 [AV.rsl
 (rIdIn g w
 (4100 : Nat))
 (rOffIn g w
 (4100 : Nat))
 m.toNat (1 : Nat)])
 w (4099 : Nat)))])
 w (4100 : Nat))
 (rLenIn
 (storeIn
 (storeIn g w (4100 : Nat)
 [AV.rsl (rIdIn g w (4100 : Nat))
 (rOffIn g w (4100 : Nat))
 m.toNat (1 : Nat)])
 w
 ((3 : Nat) +
 m_1.toNat * (1 : Nat))
 [AV.sc
 (Value.int IntKind.i64
 (intIn
 (storeIn g w (4100 : Nat)
 [AV.rsl
 (rIdIn g w
 (4100 : Nat))
 (rOffIn g w
 (4100 : Nat))
 m.toNat (1 : Nat)])
 w (4099 : Nat)))])
 w (4100 : Nat) *
 (1 : Nat))
 [[AV.sc
 (Value.int IntKind.i64
 (cellInt
 (elsIn
 (storeIn
 (storeIn g w (4100 : Nat)
 [AV.rsl
 (rIdIn g w
 (4100 : Nat))
 (rOffIn g w
 (4100 : Nat))
 m.toNat (1 : Nat)])
 w
 ((3 : Nat) +
 m_1.toNat * (1 : Nat))
 [AV.sc
 (Value.int IntKind.i64
 (intIn
 (storeIn g w
 (4100 : Nat)
 [AV.rsl
 (rIdIn g w
 (4100 :
 Nat))
 (rOffIn g w
 (4100 :
 Nat))
 m.toNat
 (1 : Nat)])
 w (4099 : Nat)))])
 w (0 : Nat))
 m_1 (6 : Nat)))],
 [AV.sc
 (Value.int IntKind.i64
 (cellInt
 (elsIn
 (storeIn
 (storeIn g w (4100 : Nat)
 [AV.rsl
 (rIdIn g w
 (4100 : Nat))
 (rOffIn g w
 (4100 : Nat))
 m.toNat (1 : Nat)])
 w
 ((3 : Nat) +
 m_1.toNat * (1 : Nat))
 [AV.sc
 (Value.int IntKind.i64
 (intIn
 (storeIn g w
 (4100 : Nat)
 [AV.rsl
 (rIdIn g w
 (4100 :
 Nat))
 (rOffIn g w
 (4100 :
 Nat))
 m.toNat
 (1 : Nat)])
 w (4099 : Nat)))])
 w (0 : Nat))
 m_1 (5 : Nat)))]])
 w (4100 : Nat)
 [AV.rsl
 (storeIn
 (storeIn g w (4100 : Nat)
 [AV.rsl (rIdIn g w (4100 : Nat))
 (rOffIn g w (4100 : Nat))
 m.toNat (1 : Nat)])
 w
 ((3 : Nat) +
 m_1.toNat * (1 : Nat))
 [AV.sc
 (Value.int IntKind.i64
 (intIn
 (storeIn g w (4100 : Nat)
 [AV.rsl
 (rIdIn g w
 (4100 : Nat))
 (rOffIn g w
 (4100 : Nat))
 m.toNat (1 : Nat)])
 w (4099 : Nat)))]).next
 (0 : Nat)
 (rLenIn
 (storeIn
 (storeIn g w (4100 : Nat)
 [AV.rsl
 (rIdIn g w (4100 : Nat))
 (rOffIn g w (4100 : Nat))
 m.toNat (1 : Nat)])
 w
 ((3 : Nat) +
 m_1.toNat * (1 : Nat))
 [AV.sc
 (Value.int IntKind.i64
 (intIn
 (storeIn g w
 (4100 : Nat)
 [AV.rsl
 (rIdIn g w
 (4100 : Nat))
 (rOffIn g w
 (4100 : Nat))
 m.toNat
 (1 : Nat)])
 w (4099 : Nat)))])
 w (4100 : Nat) +
 [[AV.sc
 (Value.int IntKind.i64
 (cellInt
 (elsIn
 (storeIn
 (storeIn g w
 (4100 : Nat)
 [AV.rsl
 (rIdIn g w
 (4100 :
 Nat))
 (rOffIn g w
 (4100 :
 Nat))
 m.toNat
 (1 : Nat)])
 w
 ((3 : Nat) +
 m_1.toNat *
 (1 : Nat))
 [AV.sc
 (Value.int
 IntKind.i64
 (intIn
 (storeIn g w
 (4100 :
 Nat)
 [AV.rsl
 (rIdIn
 g w
 (4100 :
 Nat))
 (rOffIn
 g w
 (4100 :
 Nat))
 m.toNat
 (1 :
 Nat)])
 w
 (4099 :
 Nat)))])
 w (0 : Nat))
 m_1 (6 : Nat)))],
 [AV.sc
 (Value.int IntKind.i64
 (cellInt
 (elsIn
 (storeIn
 (storeIn g w
 (4100 : Nat)
 [AV.rsl
 (rIdIn g w
 (4100 :
 Nat))
 (rOffIn g w
 (4100 :
 Nat))
 m.toNat
 (1 : Nat)])
 w
 ((3 : Nat) +
 m_1.toNat *
 (1 : Nat))
 [AV.sc
 (Value.int
 IntKind.i64
 (intIn
 (storeIn g w
 (4100 :
 Nat)
 [AV.rsl
 (rIdIn
 g w
 (4100 :
 Nat))
 (rOffIn
 g w
 (4100 :
 Nat))
 m.toNat
 (1 :
 Nat)])
 w
 (4099 :
 Nat)))])
 w (0 : Nat))
 m_1
 (5 : Nat)))]].length)
 (1 : Nat)]) =
 I144n w f i
 (storeIn
 (appIn
 (storeIn
 (storeIn g w (4100 : Nat)
 [AV.rsl (rIdIn g w (4100 : Nat))
 (rOffIn g w (4100 : Nat))
 m.toNat (1 : Nat)])
 w ((3 : Nat) + m_1.toNat * (1 : Nat))
 [AV.sc
 (Value.int IntKind.i64
 (intIn
 (storeIn g w (4100 : Nat)
 [AV.rsl
 (rIdIn g w (4100 : Nat))
 (rOffIn g w
 (4100 : Nat))
 m.toNat (1 : Nat)])
 w (4099 : Nat)))])
 (rIdIn
 (storeIn
 (storeIn g w (4100 : Nat)
 [AV.rsl (rIdIn g w (4100 : Nat))
 (rOffIn g w (4100 : Nat))
 m.toNat (1 : Nat)])
 w
 ((3 : Nat) + m_1.toNat * (1 : Nat))
 [AV.sc
 (Value.int IntKind.i64
 (intIn
 (storeIn g w (4100 : Nat)
 [AV.rsl
 (rIdIn g w
 (4100 : Nat))
 (rOffIn g w
 (4100 : Nat))
 m.toNat (1 : Nat)])
 w (4099 : Nat)))])
 w (4100 : Nat))
 (rOffIn
 (storeIn
 (storeIn g w (4100 : Nat)
 [AV.rsl (rIdIn g w (4100 : Nat))
 (rOffIn g w (4100 : Nat))
 m.toNat (1 : Nat)])
 w
 ((3 : Nat) + m_1.toNat * (1 : Nat))
 [AV.sc
 (Value.int IntKind.i64
 (intIn
 (storeIn g w (4100 : Nat)
 [AV.rsl
 (rIdIn g w
 (4100 : Nat))
 (rOffIn g w
 (4100 : Nat))
 m.toNat (1 : Nat)])
 w (4099 : Nat)))])
 w (4100 : Nat))
 (rLenIn
 (storeIn
 (storeIn g w (4100 : Nat)
 [AV.rsl (rIdIn g w (4100 : Nat))
 (rOffIn g w (4100 : Nat))
 m.toNat (1 : Nat)])
 w
 ((3 : Nat) +
 m_1.toNat * (1 : Nat))
 [AV.sc
 (Value.int IntKind.i64
 (intIn
 (storeIn g w (4100 : Nat)
 [AV.rsl
 (rIdIn g w
 (4100 : Nat))
 (rOffIn g w
 (4100 : Nat))
 m.toNat (1 : Nat)])
 w (4099 : Nat)))])
 w (4100 : Nat) *
 (1 : Nat))
 [[AV.sc
 (Value.int IntKind.i64
 (cellInt
 (elsIn
 (storeIn
 (storeIn g w (4100 : Nat)
 [AV.rsl
 (rIdIn g w
 (4100 : Nat))
 (rOffIn g w
 (4100 : Nat))
 m.toNat (1 : Nat)])
 w
 ((3 : Nat) +
 m_1.toNat * (1 : Nat))
 [AV.sc
 (Value.int IntKind.i64
 (intIn
 (storeIn g w
 (4100 : Nat)
 [AV.rsl
 (rIdIn g w
 (4100 :
 Nat))
 (rOffIn g w
 (4100 :
 Nat))
 m.toNat
 (1 : Nat)])
 w (4099 : Nat)))])
 w (0 : Nat))
 m_1 (6 : Nat)))],
 [AV.sc
 (Value.int IntKind.i64
 (cellInt
 (elsIn
 (storeIn
 (storeIn g w (4100 : Nat)
 [AV.rsl
 (rIdIn g w
 (4100 : Nat))
 (rOffIn g w
 (4100 : Nat))
 m.toNat (1 : Nat)])
 w
 ((3 : Nat) +
 m_1.toNat * (1 : Nat))
 [AV.sc
 (Value.int IntKind.i64
 (intIn
 (storeIn g w
 (4100 : Nat)
 [AV.rsl
 (rIdIn g w
 (4100 :
 Nat))
 (rOffIn g w
 (4100 :
 Nat))
 m.toNat
 (1 : Nat)])
 w (4099 : Nat)))])
 w (0 : Nat))
 m_1 (5 : Nat)))]])
 w (4100 : Nat)
 [AV.rsl
 (storeIn
 (storeIn g w (4100 : Nat)
 [AV.rsl (rIdIn g w (4100 : Nat))
 (rOffIn g w (4100 : Nat))
 m.toNat (1 : Nat)])
 w
 ((3 : Nat) +
 m_1.toNat * (1 : Nat))
 [AV.sc
 (Value.int IntKind.i64
 (intIn
 (storeIn g w (4100 : Nat)
 [AV.rsl
 (rIdIn g w
 (4100 : Nat))
 (rOffIn g w
 (4100 : Nat))
 m.toNat (1 : Nat)])
 w (4099 : Nat)))]).next
 (0 : Nat)
 (rLenIn
 (storeIn
 (storeIn g w (4100 : Nat)
 [AV.rsl
 (rIdIn g w (4100 : Nat))
 (rOffIn g w (4100 : Nat))
 m.toNat (1 : Nat)])
 w
 ((3 : Nat) +
 m_1.toNat * (1 : Nat))
 [AV.sc
 (Value.int IntKind.i64
 (intIn
 (storeIn g w
 (4100 : Nat)
 [AV.rsl
 (rIdIn g w
 (4100 : Nat))
 (rOffIn g w
 (4100 : Nat))
 m.toNat
 (1 : Nat)])
 w (4099 : Nat)))])
 w (4100 : Nat) +
 [[AV.sc
 (Value.int IntKind.i64
 (cellInt
 (elsIn
 (storeIn
 (storeIn g w
 (4100 : Nat)
 [AV.rsl
 (rIdIn g w
 (4100 :
 Nat))
 (rOffIn g w
 (4100 :
 Nat))
 m.toNat
 (1 : Nat)])
 w
 ((3 : Nat) +
 m_1.toNat *
 (1 : Nat))
 [AV.sc
 (Value.int
 IntKind.i64
 (intIn
 (storeIn g w
 (4100 :
 Nat)
 [AV.rsl
 (rIdIn
 g w
 (4100 :
 Nat))
 (rOffIn
 g w
 (4100 :
 Nat))
 m.toNat
 (1 :
 Nat)])
 w
 (4099 :
 Nat)))])
 w (0 : Nat))
 m_1 (6 : Nat)))],
 [AV.sc
 (Value.int IntKind.i64
 (cellInt
 (elsIn
 (storeIn
 (storeIn g w
 (4100 : Nat)
 [AV.rsl
 (rIdIn g w
 (4100 :
 Nat))
 (rOffIn g w
 (4100 :
 Nat))
 m.toNat
 (1 : Nat)])
 w
 ((3 : Nat) +
 m_1.toNat *
 (1 : Nat))
 [AV.sc
 (Value.int
 IntKind.i64
 (intIn
 (storeIn g w
 (4100 :
 Nat)
 [AV.rsl
 (rIdIn
 g w
 (4100 :
 Nat))
 (rOffIn
 g w
 (4100 :
 Nat))
 m.toNat
 (1 :
 Nat)])
 w
 (4099 :
 Nat)))])
 w (0 : Nat))
 m_1
 (5 : Nat)))]].length)
 (1 : Nat)]) ∧
 N
 (storeIn
 (appIn
 (storeIn
 (storeIn g w (4100 : Nat)
 [AV.rsl (rIdIn g w (4100 : Nat))
 (rOffIn g w (4100 : Nat)) m.toNat
 (1 : Nat)])
 w ((3 : Nat) + m_1.toNat * (1 : Nat))
 [AV.sc
 (Value.int IntKind.i64
 (intIn
 (storeIn g w (4100 : Nat)
 [AV.rsl
 (rIdIn g w (4100 : Nat))
 (rOffIn g w (4100 : Nat))
 m.toNat (1 : Nat)])
 w (4099 : Nat)))])
 (rIdIn
 (storeIn
 (storeIn g w (4100 : Nat)
 [AV.rsl (rIdIn g w (4100 : Nat))
 (rOffIn g w (4100 : Nat))
 m.toNat (1 : Nat)])
 w ((3 : Nat) + m_1.toNat * (1 : Nat))
 [AV.sc
 (Value.int IntKind.i64
 (intIn
 (storeIn g w (4100 : Nat)
 [AV.rsl
 (rIdIn g w (4100 : Nat))
 (rOffIn g w
 (4100 : Nat))
 m.toNat (1 : Nat)])
 w (4099 : Nat)))])
 w (4100 : Nat))
 (rOffIn
 (storeIn
 (storeIn g w (4100 : Nat)
 [AV.rsl (rIdIn g w (4100 : Nat))
 (rOffIn g w (4100 : Nat))
 m.toNat (1 : Nat)])
 w ((3 : Nat) + m_1.toNat * (1 : Nat))
 [AV.sc
 (Value.int IntKind.i64
 (intIn
 (storeIn g w (4100 : Nat)
 [AV.rsl
 (rIdIn g w (4100 : Nat))
 (rOffIn g w
 (4100 : Nat))
 m.toNat (1 : Nat)])
 w (4099 : Nat)))])
 w (4100 : Nat))
 (rLenIn
 (storeIn
 (storeIn g w (4100 : Nat)
 [AV.rsl (rIdIn g w (4100 : Nat))
 (rOffIn g w (4100 : Nat))
 m.toNat (1 : Nat)])
 w
 ((3 : Nat) + m_1.toNat * (1 : Nat))
 [AV.sc
 (Value.int IntKind.i64
 (intIn
 (storeIn g w (4100 : Nat)
 [AV.rsl
 (rIdIn g w
 (4100 : Nat))
 (rOffIn g w
 (4100 : Nat))
 m.toNat (1 : Nat)])
 w (4099 : Nat)))])
 w (4100 : Nat) *
 (1 : Nat))
 [[AV.sc
 (Value.int IntKind.i64
 (cellInt
 (elsIn
 (storeIn
 (storeIn g w (4100 : Nat)
 [AV.rsl
 (rIdIn g w
 (4100 : Nat))
 (rOffIn g w
 (4100 : Nat))
 m.toNat (1 : Nat)])
 w
 ((3 : Nat) +
 m_1.toNat * (1 : Nat))
 [AV.sc
 (Value.int IntKind.i64
 (intIn
 (storeIn g w
 (4100 : Nat)
 [AV.rsl
 (rIdIn g w
 (4100 :
 Nat))
 (rOffIn g w
 (4100 :
 Nat))
 m.toNat
 (1 : Nat)])
 w (4099 : Nat)))])
 w (0 : Nat))
 m_1 (6 : Nat)))],
 [AV.sc
 (Value.int IntKind.i64
 (cellInt
 (elsIn
 (storeIn
 (storeIn g w (4100 : Nat)
 [AV.rsl
 (rIdIn g w
 (4100 : Nat))
 (rOffIn g w
 (4100 : Nat))
 m.toNat (1 : Nat)])
 w
 ((3 : Nat) +
 m_1.toNat * (1 : Nat))
 [AV.sc
 (Value.int IntKind.i64
 (intIn
 (storeIn g w
 (4100 : Nat)
 [AV.rsl
 (rIdIn g w
 (4100 :
 Nat))
 (rOffIn g w
 (4100 :
 Nat))
 m.toNat
 (1 : Nat)])
 w (4099 : Nat)))])
 w (0 : Nat))
 m_1 (5 : Nat)))]])
 w (4100 : Nat)
 [AV.rsl
 (storeIn
 (storeIn g w (4100 : Nat)
 [AV.rsl (rIdIn g w (4100 : Nat))
 (rOffIn g w (4100 : Nat))
 m.toNat (1 : Nat)])
 w
 ((3 : Nat) + m_1.toNat * (1 : Nat))
 [AV.sc
 (Value.int IntKind.i64
 (intIn
 (storeIn g w (4100 : Nat)
 [AV.rsl
 (rIdIn g w
 (4100 : Nat))
 (rOffIn g w
 (4100 : Nat))
 m.toNat (1 : Nat)])
 w (4099 : Nat)))]).next
 (0 : Nat)
 (rLenIn
 (storeIn
 (storeIn g w (4100 : Nat)
 [AV.rsl (rIdIn g w (4100 : Nat))
 (rOffIn g w (4100 : Nat))
 m.toNat (1 : Nat)])
 w
 ((3 : Nat) +
 m_1.toNat * (1 : Nat))
 [AV.sc
 (Value.int IntKind.i64
 (intIn
 (storeIn g w (4100 : Nat)
 [AV.rsl
 (rIdIn g w
 (4100 : Nat))
 (rOffIn g w
 (4100 : Nat))
 m.toNat (1 : Nat)])
 w (4099 : Nat)))])
 w (4100 : Nat) +
 [[AV.sc
 (Value.int IntKind.i64
 (cellInt
 (elsIn
 (storeIn
 (storeIn g w
 (4100 : Nat)
 [AV.rsl
 (rIdIn g w
 (4100 : Nat))
 (rOffIn g w
 (4100 : Nat))
 m.toNat
 (1 : Nat)])
 w
 ((3 : Nat) +
 m_1.toNat *
 (1 : Nat))
 [AV.sc
 (Value.int
 IntKind.i64
 (intIn
 (storeIn g w
 (4100 : Nat)
 [AV.rsl
 (rIdIn g
 w
 (4100 :
 Nat))
 (rOffIn
 g w
 (4100 :
 Nat))
 m.toNat
 (1 :
 Nat)])
 w
 (4099 :
 Nat)))])
 w (0 : Nat))
 m_1 (6 : Nat)))],
 [AV.sc
 (Value.int IntKind.i64
 (cellInt
 (elsIn
 (storeIn
 (storeIn g w
 (4100 : Nat)
 [AV.rsl
 (rIdIn g w
 (4100 : Nat))
 (rOffIn g w
 (4100 : Nat))
 m.toNat
 (1 : Nat)])
 w
 ((3 : Nat) +
 m_1.toNat *
 (1 : Nat))
 [AV.sc
 (Value.int
 IntKind.i64
 (intIn
 (storeIn g w
 (4100 : Nat)
 [AV.rsl
 (rIdIn g
 w
 (4100 :
 Nat))
 (rOffIn
 g w
 (4100 :
 Nat))
 m.toNat
 (1 :
 Nat)])
 w
 (4099 :
 Nat)))])
 w (0 : Nat))
 m_1 (5 : Nat)))]].length)
 (1 : Nat)]))
 False)
 False)
 False)
 (iteP (m_2 == (4 : Int)) (False ∧ True)
 (iteP (m_2 == (5 : Int)) (False ∧ True)
 (I144s w
 [[AV.sc (Value.int IntKind.i64 m_1),
 AV.sc (Value.int IntKind.i64 f)]]
 (storeIn
 (storeIn g w (4100 : Nat)
 [AV.rsl (rIdIn g w (4100 : Nat))
 (rOffIn g w (4100 : Nat)) m.toNat
 (1 : Nat)])
 w ((3 : Nat) + m_1.toNat * (1 : Nat))
 [AV.sc
 (Value.int IntKind.i64
 (intIn
 (storeIn g w (4100 : Nat)
 [AV.rsl (rIdIn g w (4100 : Nat))
 (rOffIn g w (4100 : Nat))
 m.toNat (1 : Nat)])
 w (4099 : Nat)))]).next
 f i
 (newOwnL
 (storeIn
 (storeIn g w (4100 : Nat)
 [AV.rsl (rIdIn g w (4100 : Nat))
 (rOffIn g w (4100 : Nat)) m.toNat
 (1 : Nat)])
 w ((3 : Nat) + m_1.toNat * (1 : Nat))
 [AV.sc
 (Value.int IntKind.i64
 (intIn
 (storeIn g w (4100 : Nat)
 [AV.rsl (rIdIn g w (4100 : Nat))
 (rOffIn g w (4100 : Nat))
 m.toNat (1 : Nat)])
 w (4099 : Nat)))])
 (2 : Nat) (205 : Nat)
 [[AV.sc (Value.int IntKind.i64 m_1),
 AV.sc
 (Value.int IntKind.i64
 f)]].length) =
 I144s w
 [[AV.sc (Value.int IntKind.i64 m_1),
 AV.sc (Value.int IntKind.i64 f)]]
 (storeIn
 (storeIn g w (4100 : Nat)
 [AV.rsl (rIdIn g w (4100 : Nat))
 (rOffIn g w (4100 : Nat)) m.toNat
 (1 : Nat)])
 w ((3 : Nat) + m_1.toNat * (1 : Nat))
 [AV.sc
 (Value.int IntKind.i64
 (intIn
 (storeIn g w (4100 : Nat)
 [AV.rsl (rIdIn g w (4100 : Nat))
 (rOffIn g w (4100 : Nat))
 m.toNat (1 : Nat)])
 w (4099 : Nat)))]).next
 f i
 (newOwnL
 (storeIn
 (storeIn g w (4100 : Nat)
 [AV.rsl (rIdIn g w (4100 : Nat))
 (rOffIn g w (4100 : Nat)) m.toNat
 (1 : Nat)])
 w ((3 : Nat) + m_1.toNat * (1 : Nat))
 [AV.sc
 (Value.int IntKind.i64
 (intIn
 (storeIn g w (4100 : Nat)
 [AV.rsl (rIdIn g w (4100 : Nat))
 (rOffIn g w (4100 : Nat))
 m.toNat (1 : Nat)])
 w (4099 : Nat)))])
 (2 : Nat) (205 : Nat)
 [[AV.sc (Value.int IntKind.i64 m_1),
 AV.sc
 (Value.int IntKind.i64
 f)]].length) ∧
 S
 [[AV.sc (Value.int IntKind.i64 m_1),
 AV.sc (Value.int IntKind.i64 f)]]
 (storeIn
 (storeIn g w (4100 : Nat)
 [AV.rsl (rIdIn g w (4100 : Nat))
 (rOffIn g w (4100 : Nat)) m.toNat
 (1 : Nat)])
 w ((3 : Nat) + m_1.toNat * (1 : Nat))
 [AV.sc
 (Value.int IntKind.i64
 (intIn
 (storeIn g w (4100 : Nat)
 [AV.rsl (rIdIn g w (4100 : Nat))
 (rOffIn g w (4100 : Nat))
 m.toNat (1 : Nat)])
 w (4099 : Nat)))]).next
 (newOwnL
 (storeIn
 (storeIn g w (4100 : Nat)
 [AV.rsl (rIdIn g w (4100 : Nat))
 (rOffIn g w (4100 : Nat)) m.toNat
 (1 : Nat)])
 w ((3 : Nat) + m_1.toNat * (1 : Nat))
 [AV.sc
 (Value.int IntKind.i64
 (intIn
 (storeIn g w (4100 : Nat)
 [AV.rsl (rIdIn g w (4100 : Nat))
 (rOffIn g w (4100 : Nat))
 m.toNat (1 : Nat)])
 w (4099 : Nat)))])
 (2 : Nat) (205 : Nat)
 [[AV.sc (Value.int IntKind.i64 m_1),
 AV.sc
 (Value.int IntKind.i64
 f)]].length))))))
 False)
 False)
 False)
 False)
 False))
 False)
 False)
 False)
 False)
 False)
 False)
 False)
 False)
 False)
 False)
 False)
 (Ex.exit (0 : Nat) = Ex.exit (0 : Nat) ∧ E144n g = E144n g ∧ N' g))
 False) :
 (fun (w : Nat) (f i : Int) (g : Heap) (N N' : Heap → Prop) (S S' : Rows → Nat → Heap → Prop) => wpRound T144 cfg Tryz.prog 100 144 3 (I144n w f i g) (n144 w f i N S) (e144 N' S')) w f i g N N' S S' :=
 Eq.mp (by kernel_rfl) h
theorem r144s (w : Nat) (ls : List (List AV)) (il : Nat) (f : Int) (i : Int) (g : Heap) (N : Heap → Prop) (N' : Heap → Prop) (S : Rows → Nat → Heap → Prop) (S' : Rows → Nat → Heap → Prop) (h :
 iteP (rslIn g w (4100 : Nat) (1 : Nat))
 (∀ (m : Int),
 m = (↑(rLenIn g w (4100 : Nat)) : Int) →
 iteP (decide ((0 : Int) < m))
 (iteP (rslIn g w (4100 : Nat) (1 : Nat))
 (iteP (rslIn g w (4100 : Nat) (1 : Nat))
 (∀ (m : Int),
 m = IntKind.i64.wrap ((↑(rLenIn g w (4100 : Nat)) : Int) - (1 : Int)) →
 iteP (inRange m (rLenIn g w (4100 : Nat)))
 (iteP
 (kdsIn g (rIdIn g w (4100 : Nat)) (rOffIn g w (4100 : Nat) + m.toNat * (1 : Nat))
 [Kd.int IntKind.i64])
 (∀ (m_1 : Int),
 m_1 = intIn g (rIdIn g w (4100 : Nat)) (rOffIn g w (4100 : Nat) + m.toNat * (1 : Nat)) →
 iteP (rslIn g w (4100 : Nat) (1 : Nat))
 (iteP (rslIn g w (4100 : Nat) (1 : Nat))
 (∀ (m : Int),
 m = IntKind.i64.wrap ((↑(rLenIn g w (4100 : Nat)) : Int) - (1 : Int)) →
 iteP (decide ((0 : Int) ≤ m) && decide (m ≤ (↑(rLenIn g w (4100 : Nat)) : Int)))
 (iteP
 (okIn g w (4100 : Nat)
 [AV.rsl (rIdIn g w (4100 : Nat)) (rOffIn g w (4100 : Nat)) m.toNat
 (1 : Nat)].length)
 (iteP (inRange m_1 (4096 : Nat))
 (iteP
 (kdsIn
 (storeIn g w (4100 : Nat)
 [AV.rsl (rIdIn g w (4100 : Nat)) (rOffIn g w (4100 : Nat)) m.toNat
 (1 : Nat)])
 w ((3 : Nat) + m_1.toNat * (1 : Nat)) [Kd.int IntKind.i64])
 (iteP
 (kdsIn
 (storeIn g w (4100 : Nat)
 [AV.rsl (rIdIn g w (4100 : Nat)) (rOffIn g w (4100 : Nat)) m.toNat
 (1 : Nat)])
 w (4099 : Nat) [Kd.int IntKind.i64])
 (iteP
 (intIn
 (storeIn g w (4100 : Nat)
 [AV.rsl (rIdIn g w (4100 : Nat)) (rOffIn g w (4100 : Nat)) m.toNat
 (1 : Nat)])
 w ((3 : Nat) + m_1.toNat * (1 : Nat)) ==
 intIn
 (storeIn g w (4100 : Nat)
 [AV.rsl (rIdIn g w (4100 : Nat)) (rOffIn g w (4100 : Nat)) m.toNat
 (1 : Nat)])
 w (4099 : Nat))
 (I144s w ls il f i
 (storeIn g w (4100 : Nat)
 [AV.rsl (rIdIn g w (4100 : Nat)) (rOffIn g w (4100 : Nat)) m.toNat
 (1 : Nat)]) =
 I144s w ls il f i
 (storeIn g w (4100 : Nat)
 [AV.rsl (rIdIn g w (4100 : Nat)) (rOffIn g w (4100 : Nat)) m.toNat
 (1 : Nat)]) ∧
 S ls il
 (storeIn g w (4100 : Nat)
 [AV.rsl (rIdIn g w (4100 : Nat)) (rOffIn g w (4100 : Nat)) m.toNat
 (1 : Nat)]))
 (iteP
 (kdsIn
 (storeIn g w (4100 : Nat)
 [AV.rsl (rIdIn g w (4100 : Nat)) (rOffIn g w (4100 : Nat)) m.toNat
 (1 : Nat)])
 w (4099 : Nat) [Kd.int IntKind.i64])
 (iteP (inRange m_1 (4096 : Nat))
 (iteP
 (okIn
 (storeIn g w (4100 : Nat)
 [AV.rsl (rIdIn g w (4100 : Nat)) (rOffIn g w (4100 : Nat)) m.toNat
 (1 : Nat)])
 w ((3 : Nat) + m_1.toNat * (1 : Nat))
 [AV.sc
 (Value.int IntKind.i64
 (intIn
 (storeIn g w (4100 : Nat)
 [AV.rsl (rIdIn g w (4100 : Nat))
 (rOffIn g w (4100 : Nat)) m.toNat (1 : Nat)])
 w (4099 : Nat)))].length)
 (iteP
 (slIn
 (storeIn
 (storeIn g w (4100 : Nat)
 [AV.rsl (rIdIn g w (4100 : Nat)) (rOffIn g w (4100 : Nat))
 m.toNat (1 : Nat)])
 w ((3 : Nat) + m_1.toNat * (1 : Nat))
 [AV.sc
 (Value.int IntKind.i64
 (intIn
 (storeIn g w (4100 : Nat)
 [AV.rsl (rIdIn g w (4100 : Nat))
 (rOffIn g w (4100 : Nat)) m.toNat (1 : Nat)])
 w (4099 : Nat)))])
 w (0 : Nat))
 (iteP
 (inRange m_1
 (elsIn
 (storeIn
 (storeIn g w (4100 : Nat)
 [AV.rsl (rIdIn g w (4100 : Nat))
 (rOffIn g w (4100 : Nat)) m.toNat (1 : Nat)])
 w ((3 : Nat) + m_1.toNat * (1 : Nat))
 [AV.sc
 (Value.int IntKind.i64
 (intIn
 (storeIn g w (4100 : Nat)
 [AV.rsl (rIdIn g w (4100 : Nat))
 (rOffIn g w (4100 : Nat)) m.toNat
 (1 : Nat)])
 w (4099 : Nat)))])
 w (0 : Nat)).length)
 (getI m_1.toNat
 (elsIn
 (storeIn
 (storeIn g w (4100 : Nat)
 [AV.rsl (rIdIn g w (4100 : Nat))
 (rOffIn g w (4100 : Nat)) m.toNat (1 : Nat)])
 w ((3 : Nat) + m_1.toNat * (1 : Nat))
 [AV.sc
 (Value.int IntKind.i64
 (intIn
 (storeIn g w (4100 : Nat)
 [AV.rsl (rIdIn g w (4100 : Nat))
 (rOffIn g w (4100 : Nat)) m.toNat
 (1 : Nat)])
 w (4099 : Nat)))])
 w (0 : Nat)) =
 some
 [AV.sc
 (Value.int IntKind.i64
 (cellInt
 (elsIn
 (storeIn
 (storeIn g w (4100 : Nat)
 [AV.rsl (rIdIn g w (4100 : Nat))
 (rOffIn g w (4100 : Nat)) m.toNat
 (1 : Nat)])
 w ((3 : Nat) + m_1.toNat * (1 : Nat))
 [AV.sc
 (Value.int IntKind.i64
 (intIn
 (storeIn g w (4100 : Nat)
 [AV.rsl (rIdIn g w (4100 : Nat))
 (rOffIn g w (4100 : Nat)) m.toNat
 (1 : Nat)])
 w (4099 : Nat)))])
 w (0 : Nat))
 m_1 (0 : Nat))),
 AV.sc
 (Value.int IntKind.u64
 (cellInt
 (elsIn
 (storeIn
 (storeIn g w (4100 : Nat)
 [AV.rsl (rIdIn g w (4100 : Nat))
 (rOffIn g w (4100 : Nat)) m.toNat
 (1 : Nat)])
 w ((3 : Nat) + m_1.toNat * (1 : Nat))
 [AV.sc
 (Value.int IntKind.i64
 (intIn
 (storeIn g w (4100 : Nat)
 [AV.rsl (rIdIn g w (4100 : Nat))
 (rOffIn g w (4100 : Nat)) m.toNat
 (1 : Nat)])
 w (4099 : Nat)))])
 w (0 : Nat))
 m_1 (1 : Nat))),
 AV.sc
 (Value.int IntKind.u64
 (cellInt
 (elsIn
 (storeIn
 (storeIn g w (4100 : Nat)
 [AV.rsl (rIdIn g w (4100 : Nat))
 (rOffIn g w (4100 : Nat)) m.toNat
 (1 : Nat)])
 w ((3 : Nat) + m_1.toNat * (1 : Nat))
 [AV.sc
 (Value.int IntKind.i64
 (intIn
 (storeIn g w (4100 : Nat)
 [AV.rsl (rIdIn g w (4100 : Nat))
 (rOffIn g w (4100 : Nat)) m.toNat
 (1 : Nat)])
 w (4099 : Nat)))])
 w (0 : Nat))
 m_1 (2 : Nat))),
 AV.sc
 (Value.int IntKind.u64
 (cellInt
 (elsIn
 (storeIn
 (storeIn g w (4100 : Nat)
 [AV.rsl (rIdIn g w (4100 : Nat))
 (rOffIn g w (4100 : Nat)) m.toNat
 (1 : Nat)])
 w ((3 : Nat) + m_1.toNat * (1 : Nat))
 [AV.sc
 (Value.int IntKind.i64
 (intIn
 (storeIn g w (4100 : Nat)
 [AV.rsl (rIdIn g w (4100 : Nat))
 (rOffIn g w (4100 : Nat)) m.toNat
 (1 : Nat)])
 w (4099 : Nat)))])
 w (0 : Nat))
 m_1 (3 : Nat))),
 AV.sc
 (Value.int IntKind.u64
 (cellInt
 (elsIn
 (storeIn
 (storeIn g w (4100 : Nat)
 [AV.rsl (rIdIn g w (4100 : Nat))
 (rOffIn g w (4100 : Nat)) m.toNat
 (1 : Nat)])
 w ((3 : Nat) + m_1.toNat * (1 : Nat))
 [AV.sc
 (Value.int IntKind.i64
 (intIn
 (storeIn g w (4100 : Nat)
 [AV.rsl (rIdIn g w (4100 : Nat))
 (rOffIn g w (4100 : Nat)) m.toNat
 (1 : Nat)])
 w (4099 : Nat)))])
 w (0 : Nat))
 m_1 (4 : Nat))),
 AV.sc
 (Value.int IntKind.i64
 (cellInt
 (elsIn
 (storeIn
 (storeIn g w (4100 : Nat)
 [AV.rsl (rIdIn g w (4100 : Nat))
 (rOffIn g w (4100 : Nat)) m.toNat
 (1 : Nat)])
 w ((3 : Nat) + m_1.toNat * (1 : Nat))
 [AV.sc
 (Value.int IntKind.i64
 (intIn
 (storeIn g w (4100 : Nat)
 [AV.rsl (rIdIn g w (4100 : Nat))
 (rOffIn g w (4100 : Nat)) m.toNat
 (1 : Nat)])
 w (4099 : Nat)))])
 w (0 : Nat))
 m_1 (5 : Nat))),
 AV.sc
 (Value.int IntKind.i64
 (cellInt
 (elsIn
 (storeIn
 (storeIn g w (4100 : Nat)
 [AV.rsl (rIdIn g w (4100 : Nat))
 (rOffIn g w (4100 : Nat)) m.toNat
 (1 : Nat)])
 w ((3 : Nat) + m_1.toNat * (1 : Nat))
 [AV.sc
 (Value.int IntKind.i64
 (intIn
 (storeIn g w (4100 : Nat)
 [AV.rsl (rIdIn g w (4100 : Nat))
 (rOffIn g w (4100 : Nat)) m.toNat
 (1 : Nat)])
 w (4099 : Nat)))])
 w (0 : Nat))
 m_1 (6 : Nat)))] ∧
 ∀ (m_2 : Int),
 m_2 =
 cellInt
 (elsIn
 (storeIn
 (storeIn g w (4100 : Nat)
 [AV.rsl (rIdIn g w (4100 : Nat))
 (rOffIn g w (4100 : Nat)) m.toNat (1 : Nat)])
 w ((3 : Nat) + m_1.toNat * (1 : Nat))
 [AV.sc
 (Value.int IntKind.i64
 (intIn
 (storeIn g w (4100 : Nat)
 [AV.rsl (rIdIn g w (4100 : Nat))
 (rOffIn g w (4100 : Nat)) m.toNat
 (1 : Nat)])
 w (4099 : Nat)))])
 w (0 : Nat))
 m_1 (0 : Nat) →
 iteP (m_2 == (3 : Int))
 (iteP
 (rslIn
 (storeIn
 (storeIn g w (4100 : Nat)
 [AV.rsl (rIdIn g w (4100 : Nat))
 (rOffIn g w (4100 : Nat)) m.toNat (1 : Nat)])
 w ((3 : Nat) + m_1.toNat * (1 : Nat))
 [AV.sc
 (Value.int IntKind.i64
 (intIn
 (storeIn g w (4100 : Nat)
 [AV.rsl (rIdIn g w (4100 : Nat))
 (rOffIn g w (4100 : Nat)) m.toNat
 (1 : Nat)])
 w (4099 : Nat)))])
 w (4100 : Nat) (1 : Nat))
 (iteP
 (fits
 (rLenIn
 (storeIn
 (storeIn g w (4100 : Nat)
 [AV.rsl (rIdIn g w (4100 : Nat))
 (rOffIn g w (4100 : Nat)) m.toNat
 (1 : Nat)])
 w ((3 : Nat) + m_1.toNat * (1 : Nat))
 [AV.sc
 (Value.int IntKind.i64
 (intIn
 (storeIn g w (4100 : Nat)
 [AV.rsl (rIdIn g w (4100 : Nat))
 (rOffIn g w (4100 : Nat))
 m.toNat (1 : Nat)])
 w (4099 : Nat)))])
 w (4100 : Nat) +
 [[AV.sc
 (Value.int IntKind.i64
 (cellInt
 (elsIn
 (storeIn
 (storeIn g w (4100 : Nat)
 [AV.rsl
 (rIdIn g w (4100 : Nat))
 (rOffIn g w (4100 : Nat))
 m.toNat (1 : Nat)])
 w
 ((3 : Nat) +
 m_1.toNat * (1 : Nat))
 [AV.sc
 (Value.int IntKind.i64
 (intIn
 (storeIn g w
 (4100 : Nat)
 [AV.rsl
 (rIdIn g w
 (4100 : Nat))
 (rOffIn g w
 (4100 : Nat))
 m.toNat
 (1 : Nat)])
 w (4099 : Nat)))])
 w (0 : Nat))
 m_1 (5 : Nat)))]].length)
 (8 : Nat) &&
 appOk
 (storeIn
 (storeIn g w (4100 : Nat)
 [AV.rsl (rIdIn g w (4100 : Nat))
 (rOffIn g w (4100 : Nat)) m.toNat
 (1 : Nat)])
 w ((3 : Nat) + m_1.toNat * (1 : Nat))
 [AV.sc
 (Value.int IntKind.i64
 (intIn
 (storeIn g w (4100 : Nat)
 [AV.rsl (rIdIn g w (4100 : Nat))
 (rOffIn g w (4100 : Nat)) m.toNat
 (1 : Nat)])
 w (4099 : Nat)))])
 (rIdIn
 (storeIn
 (storeIn g w (4100 : Nat)
 [AV.rsl (rIdIn g w (4100 : Nat))
 (rOffIn g w (4100 : Nat)) m.toNat
 (1 : Nat)])
 w ((3 : Nat) + m_1.toNat * (1 : Nat))
 [AV.sc
 (Value.int IntKind.i64
 (intIn
 (storeIn g w (4100 : Nat)
 [AV.rsl (rIdIn g w (4100 : Nat))
 (rOffIn g w (4100 : Nat))
 m.toNat (1 : Nat)])
 w (4099 : Nat)))])
 w (4100 : Nat))
 (rOffIn
 (storeIn
 (storeIn g w (4100 : Nat)
 [AV.rsl (rIdIn g w (4100 : Nat))
 (rOffIn g w (4100 : Nat)) m.toNat
 (1 : Nat)])
 w ((3 : Nat) + m_1.toNat * (1 : Nat))
 [AV.sc
 (Value.int IntKind.i64
 (intIn
 (storeIn g w (4100 : Nat)
 [AV.rsl (rIdIn g w (4100 : Nat))
 (rOffIn g w (4100 : Nat))
 m.toNat (1 : Nat)])
 w (4099 : Nat)))])
 w (4100 : Nat))
 (rLenIn
 (storeIn
 (storeIn g w (4100 : Nat)
 [AV.rsl (rIdIn g w (4100 : Nat))
 (rOffIn g w (4100 : Nat)) m.toNat
 (1 : Nat)])
 w ((3 : Nat) + m_1.toNat * (1 : Nat))
 [AV.sc
 (Value.int IntKind.i64
 (intIn
 (storeIn g w (4100 : Nat)
 [AV.rsl (rIdIn g w (4100 : Nat))
 (rOffIn g w (4100 : Nat))
 m.toNat (1 : Nat)])
 w (4099 : Nat)))])
 w (4100 : Nat) *
 (1 : Nat)))
 (iteP
 (okIn
 (appIn
 (storeIn
 (storeIn g w (4100 : Nat)
 [AV.rsl (rIdIn g w (4100 : Nat))
 (rOffIn g w (4100 : Nat)) m.toNat
 (1 : Nat)])
 w ((3 : Nat) + m_1.toNat * (1 : Nat))
 [AV.sc
 (Value.int IntKind.i64
 (intIn
 (storeIn g w (4100 : Nat)
 [AV.rsl (rIdIn g w (4100 : Nat))
 (rOffIn g w (4100 : Nat))
 m.toNat (1 : Nat)])
 w (4099 : Nat)))])
 (rIdIn
 (storeIn
 (storeIn g w (4100 : Nat)
 [AV.rsl (rIdIn g w (4100 : Nat))
 (rOffIn g w (4100 : Nat)) m.toNat
 (1 : Nat)])
 w ((3 : Nat) + m_1.toNat * (1 : Nat))
 [AV.sc
 (Value.int IntKind.i64
 (intIn
 (storeIn g w (4100 : Nat)
 [AV.rsl (rIdIn g w (4100 : Nat))
 (rOffIn g w (4100 : Nat))
 m.toNat (1 : Nat)])
 w (4099 : Nat)))])
 w (4100 : Nat))
 (rOffIn
 (storeIn
 (storeIn g w (4100 : Nat)
 [AV.rsl (rIdIn g w (4100 : Nat))
 (rOffIn g w (4100 : Nat)) m.toNat
 (1 : Nat)])
 w ((3 : Nat) + m_1.toNat * (1 : Nat))
 [AV.sc
 (Value.int IntKind.i64
 (intIn
 (storeIn g w (4100 : Nat)
 [AV.rsl (rIdIn g w (4100 : Nat))
 (rOffIn g w (4100 : Nat))
 m.toNat (1 : Nat)])
 w (4099 : Nat)))])
 w (4100 : Nat))
 (rLenIn
 (storeIn
 (storeIn g w (4100 : Nat)
 [AV.rsl (rIdIn g w (4100 : Nat))
 (rOffIn g w (4100 : Nat)) m.toNat
 (1 : Nat)])
 w ((3 : Nat) + m_1.toNat * (1 : Nat))
 [AV.sc
 (Value.int IntKind.i64
 (intIn
 (storeIn g w (4100 : Nat)
 [AV.rsl (rIdIn g w (4100 : Nat))
 (rOffIn g w (4100 : Nat))
 m.toNat (1 : Nat)])
 w (4099 : Nat)))])
 w (4100 : Nat) *
 (1 : Nat))
 [[AV.sc
 (Value.int IntKind.i64
 (cellInt
 (elsIn
 (storeIn
 (storeIn g w (4100 : Nat)
 [AV.rsl (rIdIn g w (4100 : Nat))
 (rOffIn g w (4100 : Nat))
 m.toNat (1 : Nat)])
 w
 ((3 : Nat) +
 m_1.toNat * (1 : Nat))
 [AV.sc
 (Value.int IntKind.i64
 (intIn
 (storeIn g w (4100 : Nat)
 [AV.rsl
 (rIdIn g w
 (4100 : Nat))
 (rOffIn g w
 (4100 : Nat))
 m.toNat (1 : Nat)])
 w (4099 : Nat)))])
 w (0 : Nat))
 m_1 (5 : Nat)))]])
 w (4100 : Nat)
 [AV.rsl
 (storeIn
 (storeIn g w (4100 : Nat)
 [AV.rsl (rIdIn g w (4100 : Nat))
 (rOffIn g w (4100 : Nat)) m.toNat
 (1 : Nat)])
 w ((3 : Nat) + m_1.toNat * (1 : Nat))
 [AV.sc
 (Value.int IntKind.i64
 (intIn
 (storeIn g w (4100 : Nat)
 [AV.rsl
 (rIdIn g w (4100 : Nat))
 (rOffIn g w (4100 : Nat))
 m.toNat (1 : Nat)])
 w (4099 : Nat)))]).next
 (0 : Nat)
 (rLenIn
 (storeIn
 (storeIn g w (4100 : Nat)
 [AV.rsl (rIdIn g w (4100 : Nat))
 (rOffIn g w (4100 : Nat))
 m.toNat (1 : Nat)])
 w ((3 : Nat) + m_1.toNat * (1 : Nat))
 [AV.sc
 (Value.int IntKind.i64
 (intIn
 (storeIn g w (4100 : Nat)
 [AV.rsl
 (rIdIn g w (4100 : Nat))
 (rOffIn g w
 (4100 : Nat))
 m.toNat (1 : Nat)])
 w (4099 : Nat)))])
 w (4100 : Nat) +
 [[AV.sc
 (Value.int IntKind.i64
 (cellInt
 (elsIn
 (storeIn
 (storeIn g w (4100 : Nat)
 [AV.rsl
 (rIdIn g w
 (4100 : Nat))
 (rOffIn g w
 (4100 : Nat))
 m.toNat (1 : Nat)])
 w
 ((3 : Nat) +
 m_1.toNat * (1 : Nat))
 [AV.sc
 (Value.int IntKind.i64
 (intIn
 (storeIn g w
 (4100 : Nat)
 [AV.rsl
 (rIdIn g w
 (4100 :
 Nat))
 (rOffIn g w
 (4100 :
 Nat))
 m.toNat
 (1 : Nat)])
 w (4099 : Nat)))])
 w (0 : Nat))
 m_1 (5 : Nat)))]].length)
 (1 : Nat)].length)
 (I144s w ls il f i
 (storeIn
 (appIn
 (storeIn
 (storeIn g w (4100 : Nat)
 [AV.rsl (rIdIn g w (4100 : Nat))
 (rOffIn g w (4100 : Nat)) m.toNat
 (1 : Nat)])
 w ((3 : Nat) + m_1.toNat * (1 : Nat))
 [AV.sc
 (Value.int IntKind.i64
 (intIn
 (storeIn g w (4100 : Nat)
 [AV.rsl
 (rIdIn g w (4100 : Nat))
 (rOffIn g w (4100 : Nat))
 m.toNat (1 : Nat)])
 w (4099 : Nat)))])
 (rIdIn
 (storeIn
 (storeIn g w (4100 : Nat)
 [AV.rsl (rIdIn g w (4100 : Nat))
 (rOffIn g w (4100 : Nat))
 m.toNat (1 : Nat)])
 w ((3 : Nat) + m_1.toNat * (1 : Nat))
 [AV.sc
 (Value.int IntKind.i64
 (intIn
 (storeIn g w (4100 : Nat)
 [AV.rsl
 (rIdIn g w (4100 : Nat))
 (rOffIn g w
 (4100 : Nat))
 m.toNat (1 : Nat)])
 w (4099 : Nat)))])
 w (4100 : Nat))
 (rOffIn
 (storeIn
 (storeIn g w (4100 : Nat)
 [AV.rsl (rIdIn g w (4100 : Nat))
 (rOffIn g w (4100 : Nat))
 m.toNat (1 : Nat)])
 w ((3 : Nat) + m_1.toNat * (1 : Nat))
 [AV.sc
 (Value.int IntKind.i64
 (intIn
 (storeIn g w (4100 : Nat)
 [AV.rsl
 (rIdIn g w (4100 : Nat))
 (rOffIn g w
 (4100 : Nat))
 m.toNat (1 : Nat)])
 w (4099 : Nat)))])
 w (4100 : Nat))
 (rLenIn
 (storeIn
 (storeIn g w (4100 : Nat)
 [AV.rsl (rIdIn g w (4100 : Nat))
 (rOffIn g w (4100 : Nat))
 m.toNat (1 : Nat)])
 w
 ((3 : Nat) + m_1.toNat * (1 : Nat))
 [AV.sc
 (Value.int IntKind.i64
 (intIn
 (storeIn g w (4100 : Nat)
 [AV.rsl
 (rIdIn g w
 (4100 : Nat))
 (rOffIn g w
 (4100 : Nat))
 m.toNat (1 : Nat)])
 w (4099 : Nat)))])
 w (4100 : Nat) *
 (1 : Nat))
 [[AV.sc
 (Value.int IntKind.i64
 (cellInt
 (elsIn
 (storeIn
 (storeIn g w (4100 : Nat)
 [AV.rsl
 (rIdIn g w
 (4100 : Nat))
 (rOffIn g w
 (4100 : Nat))
 m.toNat (1 : Nat)])
 w
 ((3 : Nat) +
 m_1.toNat * (1 : Nat))
 [AV.sc
 (Value.int IntKind.i64
 (intIn
 (storeIn g w
 (4100 : Nat)
 [AV.rsl
 (rIdIn g w
 (4100 :
 Nat))
 (rOffIn g w
 (4100 :
 Nat))
 m.toNat
 (1 : Nat)])
 w (4099 : Nat)))])
 w (0 : Nat))
 m_1 (5 : Nat)))]])
 w (4100 : Nat)
 [AV.rsl
 (storeIn
 (storeIn g w (4100 : Nat)
 [AV.rsl (rIdIn g w (4100 : Nat))
 (rOffIn g w (4100 : Nat))
 m.toNat (1 : Nat)])
 w
 ((3 : Nat) + m_1.toNat * (1 : Nat))
 [AV.sc
 (Value.int IntKind.i64
 (intIn
 (storeIn g w (4100 : Nat)
 [AV.rsl
 (rIdIn g w
 (4100 : Nat))
 (rOffIn g w
 (4100 : Nat))
 m.toNat (1 : Nat)])
 w (4099 : Nat)))]).next
 (0 : Nat)
 (rLenIn
 (storeIn
 (storeIn g w (4100 : Nat)
 [AV.rsl (rIdIn g w (4100 : Nat))
 (rOffIn g w (4100 : Nat))
 m.toNat (1 : Nat)])
 w
 ((3 : Nat) +
 m_1.toNat * (1 : Nat))
 [AV.sc
 (Value.int IntKind.i64
 (intIn
 (storeIn g w (4100 : Nat)
 [AV.rsl
 (rIdIn g w
 (4100 : Nat))
 (rOffIn g w
 (4100 : Nat))
 m.toNat (1 : Nat)])
 w (4099 : Nat)))])
 w (4100 : Nat) +
 [[AV.sc
 (Value.int IntKind.i64
 (cellInt
 (elsIn
 (storeIn
 (storeIn g w
 (4100 : Nat)
 [AV.rsl
 (rIdIn g w
 (4100 : Nat))
 (rOffIn g w
 (4100 : Nat))
 m.toNat
 (1 : Nat)])
 w
 ((3 : Nat) +
 m_1.toNat *
 (1 : Nat))
 [AV.sc
 (Value.int
 IntKind.i64
 (intIn
 (storeIn g w
 (4100 : Nat)
 [AV.rsl
 (rIdIn g
 w
 (4100 :
 Nat))
 (rOffIn
 g w
 (4100 :
 Nat))
 m.toNat
 (1 :
 Nat)])
 w
 (4099 :
 Nat)))])
 w (0 : Nat))
 m_1 (5 : Nat)))]].length)
 (1 : Nat)]) =
 I144s w ls il f i
 (storeIn
 (appIn
 (storeIn
 (storeIn g w (4100 : Nat)
 [AV.rsl (rIdIn g w (4100 : Nat))
 (rOffIn g w (4100 : Nat)) m.toNat
 (1 : Nat)])
 w ((3 : Nat) + m_1.toNat * (1 : Nat))
 [AV.sc
 (Value.int IntKind.i64
 (intIn
 (storeIn g w (4100 : Nat)
 [AV.rsl
 (rIdIn g w (4100 : Nat))
 (rOffIn g w (4100 : Nat))
 m.toNat (1 : Nat)])
 w (4099 : Nat)))])
 (rIdIn
 (storeIn
 (storeIn g w (4100 : Nat)
 [AV.rsl (rIdIn g w (4100 : Nat))
 (rOffIn g w (4100 : Nat))
 m.toNat (1 : Nat)])
 w ((3 : Nat) + m_1.toNat * (1 : Nat))
 [AV.sc
 (Value.int IntKind.i64
 (intIn
 (storeIn g w (4100 : Nat)
 [AV.rsl
 (rIdIn g w (4100 : Nat))
 (rOffIn g w
 (4100 : Nat))
 m.toNat (1 : Nat)])
 w (4099 : Nat)))])
 w (4100 : Nat))
 (rOffIn
 (storeIn
 (storeIn g w (4100 : Nat)
 [AV.rsl (rIdIn g w (4100 : Nat))
 (rOffIn g w (4100 : Nat))
 m.toNat (1 : Nat)])
 w ((3 : Nat) + m_1.toNat * (1 : Nat))
 [AV.sc
 (Value.int IntKind.i64
 (intIn
 (storeIn g w (4100 : Nat)
 [AV.rsl
 (rIdIn g w (4100 : Nat))
 (rOffIn g w
 (4100 : Nat))
 m.toNat (1 : Nat)])
 w (4099 : Nat)))])
 w (4100 : Nat))
 (rLenIn
 (storeIn
 (storeIn g w (4100 : Nat)
 [AV.rsl (rIdIn g w (4100 : Nat))
 (rOffIn g w (4100 : Nat))
 m.toNat (1 : Nat)])
 w
 ((3 : Nat) + m_1.toNat * (1 : Nat))
 [AV.sc
 (Value.int IntKind.i64
 (intIn
 (storeIn g w (4100 : Nat)
 [AV.rsl
 (rIdIn g w
 (4100 : Nat))
 (rOffIn g w
 (4100 : Nat))
 m.toNat (1 : Nat)])
 w (4099 : Nat)))])
 w (4100 : Nat) *
 (1 : Nat))
 [[AV.sc
 (Value.int IntKind.i64
 (cellInt
 (elsIn
 (storeIn
 (storeIn g w (4100 : Nat)
 [AV.rsl
 (rIdIn g w
 (4100 : Nat))
 (rOffIn g w
 (4100 : Nat))
 m.toNat (1 : Nat)])
 w
 ((3 : Nat) +
 m_1.toNat * (1 : Nat))
 [AV.sc
 (Value.int IntKind.i64
 (intIn
 (storeIn g w
 (4100 : Nat)
 [AV.rsl
 (rIdIn g w
 (4100 :
 Nat))
 (rOffIn g w
 (4100 :
 Nat))
 m.toNat
 (1 : Nat)])
 w (4099 : Nat)))])
 w (0 : Nat))
 m_1 (5 : Nat)))]])
 w (4100 : Nat)
 [AV.rsl
 (storeIn
 (storeIn g w (4100 : Nat)
 [AV.rsl (rIdIn g w (4100 : Nat))
 (rOffIn g w (4100 : Nat))
 m.toNat (1 : Nat)])
 w
 ((3 : Nat) + m_1.toNat * (1 : Nat))
 [AV.sc
 (Value.int IntKind.i64
 (intIn
 (storeIn g w (4100 : Nat)
 [AV.rsl
 (rIdIn g w
 (4100 : Nat))
 (rOffIn g w
 (4100 : Nat))
 m.toNat (1 : Nat)])
 w (4099 : Nat)))]).next
 (0 : Nat)
 (rLenIn
 (storeIn
 (storeIn g w (4100 : Nat)
 [AV.rsl (rIdIn g w (4100 : Nat))
 (rOffIn g w (4100 : Nat))
 m.toNat (1 : Nat)])
 w
 ((3 : Nat) +
 m_1.toNat * (1 : Nat))
 [AV.sc
 (Value.int IntKind.i64
 (intIn
 (storeIn g w (4100 : Nat)
 [AV.rsl
 (rIdIn g w
 (4100 : Nat))
 (rOffIn g w
 (4100 : Nat))
 m.toNat (1 : Nat)])
 w (4099 : Nat)))])
 w (4100 : Nat) +
 [[AV.sc
 (Value.int IntKind.i64
 (cellInt
 (elsIn
 (storeIn
 (storeIn g w
 (4100 : Nat)
 [AV.rsl
 (rIdIn g w
 (4100 : Nat))
 (rOffIn g w
 (4100 : Nat))
 m.toNat
 (1 : Nat)])
 w
 ((3 : Nat) +
 m_1.toNat *
 (1 : Nat))
 [AV.sc
 (Value.int
 IntKind.i64
 (intIn
 (storeIn g w
 (4100 : Nat)
 [AV.rsl
 (rIdIn g
 w
 (4100 :
 Nat))
 (rOffIn
 g w
 (4100 :
 Nat))
 m.toNat
 (1 :
 Nat)])
 w
 (4099 :
 Nat)))])
 w (0 : Nat))
 m_1 (5 : Nat)))]].length)
 (1 : Nat)]) ∧
 S ls il
 (storeIn
 (appIn
 (storeIn
 (storeIn g w (4100 : Nat)
 [AV.rsl (rIdIn g w (4100 : Nat))
 (rOffIn g w (4100 : Nat)) m.toNat
 (1 : Nat)])
 w ((3 : Nat) + m_1.toNat * (1 : Nat))
 [AV.sc
 (Value.int IntKind.i64
 (intIn
 (storeIn g w (4100 : Nat)
 [AV.rsl (rIdIn g w (4100 : Nat))
 (rOffIn g w (4100 : Nat))
 m.toNat (1 : Nat)])
 w (4099 : Nat)))])
 (rIdIn
 (storeIn
 (storeIn g w (4100 : Nat)
 [AV.rsl (rIdIn g w (4100 : Nat))
 (rOffIn g w (4100 : Nat)) m.toNat
 (1 : Nat)])
 w ((3 : Nat) + m_1.toNat * (1 : Nat))
 [AV.sc
 (Value.int IntKind.i64
 (intIn
 (storeIn g w (4100 : Nat)
 [AV.rsl
 (rIdIn g w (4100 : Nat))
 (rOffIn g w (4100 : Nat))
 m.toNat (1 : Nat)])
 w (4099 : Nat)))])
 w (4100 : Nat))
 (rOffIn
 (storeIn
 (storeIn g w (4100 : Nat)
 [AV.rsl (rIdIn g w (4100 : Nat))
 (rOffIn g w (4100 : Nat)) m.toNat
 (1 : Nat)])
 w ((3 : Nat) + m_1.toNat * (1 : Nat))
 [AV.sc
 (Value.int IntKind.i64
 (intIn
 (storeIn g w (4100 : Nat)
 [AV.rsl
 (rIdIn g w (4100 : Nat))
 (rOffIn g w (4100 : Nat))
 m.toNat (1 : Nat)])
 w (4099 : Nat)))])
 w (4100 : Nat))
 (rLenIn
 (storeIn
 (storeIn g w (4100 : Nat)
 [AV.rsl (rIdIn g w (4100 : Nat))
 (rOffIn g w (4100 : Nat))
 m.toNat (1 : Nat)])
 w ((3 : Nat) + m_1.toNat * (1 : Nat))
 [AV.sc
 (Value.int IntKind.i64
 (intIn
 (storeIn g w (4100 : Nat)
 [AV.rsl
 (rIdIn g w (4100 : Nat))
 (rOffIn g w
 (4100 : Nat))
 m.toNat (1 : Nat)])
 w (4099 : Nat)))])
 w (4100 : Nat) *
 (1 : Nat))
 [[AV.sc
 (Value.int IntKind.i64
 (cellInt
 (elsIn
 (storeIn
 (storeIn g w (4100 : Nat)
 [AV.rsl
 (rIdIn g w (4100 : Nat))
 (rOffIn g w
 (4100 : Nat))
 m.toNat (1 : Nat)])
 w
 ((3 : Nat) +
 m_1.toNat * (1 : Nat))
 [AV.sc
 (Value.int IntKind.i64
 (intIn
 (storeIn g w
 (4100 : Nat)
 [AV.rsl
 (rIdIn g w
 (4100 : Nat))
 (rOffIn g w
 (4100 : Nat))
 m.toNat
 (1 : Nat)])
 w (4099 : Nat)))])
 w (0 : Nat))
 m_1 (5 : Nat)))]])
 w (4100 : Nat)
 [AV.rsl
 (storeIn
 (storeIn g w (4100 : Nat)
 [AV.rsl (rIdIn g w (4100 : Nat))
 (rOffIn g w (4100 : Nat))
 m.toNat (1 : Nat)])
 w ((3 : Nat) + m_1.toNat * (1 : Nat))
 [AV.sc
 (Value.int IntKind.i64
 (intIn
 (storeIn g w (4100 : Nat)
 [AV.rsl
 (rIdIn g w (4100 : Nat))
 (rOffIn g w
 (4100 : Nat))
 m.toNat (1 : Nat)])
 w (4099 : Nat)))]).next
 (0 : Nat)
 (rLenIn
 (storeIn
 (storeIn g w (4100 : Nat)
 [AV.rsl (rIdIn g w (4100 : Nat))
 (rOffIn g w (4100 : Nat))
 m.toNat (1 : Nat)])
 w
 ((3 : Nat) + m_1.toNat * (1 : Nat))
 [AV.sc
 (Value.int IntKind.i64
 (intIn
 (storeIn g w (4100 : Nat)
 [AV.rsl
 (rIdIn g w
 (4100 : Nat))
 (rOffIn g w
 (4100 : Nat))
 m.toNat (1 : Nat)])
 w (4099 : Nat)))])
 w (4100 : Nat) +
 [[AV.sc
 (Value.int IntKind.i64
 (cellInt
 (elsIn
 (storeIn
 (storeIn g w
 (4100 : Nat)
 [AV.rsl
 (rIdIn g w
 (4100 : Nat))
 (rOffIn g w
 (4100 : Nat))
 m.toNat
 (1 : Nat)])
 w
 ((3 : Nat) +
 m_1.toNat * (1 : Nat))
 [AV.sc
 (Value.int
 IntKind.i64
 (intIn
 (storeIn g w
 (4100 : Nat)
 [AV.rsl
 (rIdIn g w
 (4100 :
 Nat))
 (rOffIn g
 w
 (4100 :
 Nat))
 m.toNat
 (1 :
 Nat)])
 w
 (4099 : Nat)))])
 w (0 : Nat))
 m_1 (5 : Nat)))]].length)
 (1 : Nat)]))
 False)
 False)
 False)
 (iteP (m_2 == (2 : Int))
 (iteP
 (rslIn
 (storeIn
 (storeIn g w (4100 : Nat)
 [AV.rsl (rIdIn g w (4100 : Nat))
 (rOffIn g w (4100 : Nat)) m.toNat
 (1 : Nat)])
 w ((3 : Nat) + m_1.toNat * (1 : Nat))
 [AV.sc
 (Value.int IntKind.i64
 (intIn
 (storeIn g w (4100 : Nat)
 [AV.rsl (rIdIn g w (4100 : Nat))
 (rOffIn g w (4100 : Nat)) m.toNat
 (1 : Nat)])
 w (4099 : Nat)))])
 w (4100 : Nat) (1 : Nat))
 (iteP
 (fits
 (rLenIn
 (storeIn
 (storeIn g w (4100 : Nat)
 [AV.rsl (rIdIn g w (4100 : Nat))
 (rOffIn g w (4100 : Nat)) m.toNat
 (1 : Nat)])
 w ((3 : Nat) + m_1.toNat * (1 : Nat))
 [AV.sc
 (Value.int IntKind.i64
 (intIn
 (storeIn g w (4100 : Nat)
 [AV.rsl (rIdIn g w (4100 : Nat))
 (rOffIn g w (4100 : Nat))
 m.toNat (1 : Nat)])
 w (4099 : Nat)))])
 w (4100 : Nat) +
 [[AV.sc
 (Value.int IntKind.i64
 (cellInt
 (elsIn
 (storeIn
 (storeIn g w (4100 : Nat)
 [AV.rsl
 (rIdIn g w (4100 : Nat))
 (rOffIn g w
 (4100 : Nat))
 m.toNat (1 : Nat)])
 w
 ((3 : Nat) +
 m_1.toNat * (1 : Nat))
 [AV.sc
 (Value.int IntKind.i64
 (intIn
 (storeIn g w
 (4100 : Nat)
 [AV.rsl
 (rIdIn g w
 (4100 : Nat))
 (rOffIn g w
 (4100 : Nat))
 m.toNat
 (1 : Nat)])
 w (4099 : Nat)))])
 w (0 : Nat))
 m_1 (6 : Nat)))],
 [AV.sc
 (Value.int IntKind.i64
 (cellInt
 (elsIn
 (storeIn
 (storeIn g w (4100 : Nat)
 [AV.rsl
 (rIdIn g w (4100 : Nat))
 (rOffIn g w
 (4100 : Nat))
 m.toNat (1 : Nat)])
 w
 ((3 : Nat) +
 m_1.toNat * (1 : Nat))
 [AV.sc
 (Value.int IntKind.i64
 (intIn
 (storeIn g w
 (4100 : Nat)
 [AV.rsl
 (rIdIn g w
 (4100 : Nat))
 (rOffIn g w
 (4100 : Nat))
 m.toNat
 (1 : Nat)])
 w (4099 : Nat)))])
 w (0 : Nat))
 m_1 (5 : Nat)))]].length)
 (8 : Nat) &&
 appOk
 (storeIn
 (storeIn g w (4100 : Nat)
 [AV.rsl (rIdIn g w (4100 : Nat))
 (rOffIn g w (4100 : Nat)) m.toNat
 (1 : Nat)])
 w ((3 : Nat) + m_1.toNat * (1 : Nat))
 [AV.sc
 (Value.int IntKind.i64
 (intIn
 (storeIn g w (4100 : Nat)
 [AV.rsl (rIdIn g w (4100 : Nat))
 (rOffIn g w (4100 : Nat))
 m.toNat (1 : Nat)])
 w (4099 : Nat)))])
 (rIdIn
 (storeIn
 (storeIn g w (4100 : Nat)
 [AV.rsl (rIdIn g w (4100 : Nat))
 (rOffIn g w (4100 : Nat)) m.toNat
 (1 : Nat)])
 w ((3 : Nat) + m_1.toNat * (1 : Nat))
 [AV.sc
 (Value.int IntKind.i64
 (intIn
 (storeIn g w (4100 : Nat)
 [AV.rsl (rIdIn g w (4100 : Nat))
 (rOffIn g w (4100 : Nat))
 m.toNat (1 : Nat)])
 w (4099 : Nat)))])
 w (4100 : Nat))
 (rOffIn
 (storeIn
 (storeIn g w (4100 : Nat)
 [AV.rsl (rIdIn g w (4100 : Nat))
 (rOffIn g w (4100 : Nat)) m.toNat
 (1 : Nat)])
 w ((3 : Nat) + m_1.toNat * (1 : Nat))
 [AV.sc
 (Value.int IntKind.i64
 (intIn
 (storeIn g w (4100 : Nat)
 [AV.rsl (rIdIn g w (4100 : Nat))
 (rOffIn g w (4100 : Nat))
 m.toNat (1 : Nat)])
 w (4099 : Nat)))])
 w (4100 : Nat))
 (rLenIn
 (storeIn
 (storeIn g w (4100 : Nat)
 [AV.rsl (rIdIn g w (4100 : Nat))
 (rOffIn g w (4100 : Nat)) m.toNat
 (1 : Nat)])
 w ((3 : Nat) + m_1.toNat * (1 : Nat))
 [AV.sc
 (Value.int IntKind.i64
 (intIn
 (storeIn g w (4100 : Nat)
 [AV.rsl (rIdIn g w (4100 : Nat))
 (rOffIn g w (4100 : Nat))
 m.toNat (1 : Nat)])
 w (4099 : Nat)))])
 w (4100 : Nat) *
 (1 : Nat)))
 (iteP
 (okIn
 (appIn
 (storeIn
 (storeIn g w (4100 : Nat)
 [AV.rsl (rIdIn g w (4100 : Nat))
 (rOffIn g w (4100 : Nat)) m.toNat
 (1 : Nat)])
 w ((3 : Nat) + m_1.toNat * (1 : Nat))
 [AV.sc
 (Value.int IntKind.i64
 (intIn
 (storeIn g w (4100 : Nat)
 [AV.rsl (rIdIn g w (4100 : Nat))
 (rOffIn g w (4100 : Nat))
 m.toNat (1 : Nat)])
 w (4099 : Nat)))])
 (rIdIn
 (storeIn
 (storeIn g w (4100 : Nat)
 [AV.rsl (rIdIn g w (4100 : Nat))
 (rOffIn g w (4100 : Nat)) m.toNat
 (1 : Nat)])
 w ((3 : Nat) + m_1.toNat * (1 : Nat))
 [AV.sc
 (Value.int IntKind.i64
 (intIn
 (storeIn g w (4100 : Nat)
 [AV.rsl (rIdIn g w (4100 : Nat))
 (rOffIn g w (4100 : Nat))
 m.toNat (1 : Nat)])
 w (4099 : Nat)))])
 w (4100 : Nat))
 (rOffIn
 (storeIn
 (storeIn g w (4100 : Nat)
 [AV.rsl (rIdIn g w (4100 : Nat))
 (rOffIn g w (4100 : Nat)) m.toNat
 (1 : Nat)])
 w ((3 : Nat) + m_1.toNat * (1 : Nat))
 [AV.sc
 (Value.int IntKind.i64
 (intIn
 (storeIn g w (4100 : Nat)
 [AV.rsl (rIdIn g w (4100 : Nat))
 (rOffIn g w (4100 : Nat))
 m.toNat (1 : Nat)])
 w (4099 : Nat)))])
 w (4100 : Nat))
 (rLenIn
 (storeIn
 (storeIn g w (4100 : Nat)
 [AV.rsl (rIdIn g w (4100 : Nat))
 (rOffIn g w (4100 : Nat)) m.toNat
 (1 : Nat)])
 w ((3 : Nat) + m_1.toNat * (1 : Nat))
 [AV.sc
 (Value.int IntKind.i64
 (intIn
 (storeIn g w (4100 : Nat)
 [AV.rsl
 (rIdIn g w (4100 : Nat))
 (rOffIn g w (4100 : Nat))
 m.toNat (1 : Nat)])
 w (4099 : Nat)))])
 w (4100 : Nat) *
 (1 : Nat))
 [[AV.sc
 (Value.int IntKind.i64
 (cellInt
 (elsIn
 (storeIn
 (storeIn g w (4100 : Nat)
 [AV.rsl
 (rIdIn g w (4100 : Nat))
 (rOffIn g w (4100 : Nat))
 m.toNat (1 : Nat)])
 w
 ((3 : Nat) +
 m_1.toNat * (1 : Nat))
 [AV.sc
 (Value.int IntKind.i64
 (intIn
 (storeIn g w
 (4100 : Nat)
 [AV.rsl
 (rIdIn g w
 (4100 : Nat))
 (rOffIn g w
 (4100 : Nat))
 m.toNat
 (1 : Nat)])
 w (4099 : Nat)))])
 w (0 : Nat))
 m_1 (6 : Nat)))],
 [AV.sc
 (Value.int IntKind.i64
 (cellInt
 (elsIn
 (storeIn
 (storeIn g w (4100 : Nat)
 [AV.rsl
 (rIdIn g w (4100 : Nat))
 (rOffIn g w (4100 : Nat))
 m.toNat (1 : Nat)])
 w
 ((3 : Nat) +
 m_1.toNat * (1 : Nat))
 [AV.sc
 (Value.int IntKind.i64
 (intIn
 (storeIn g w
 (4100 : Nat)
 [AV.rsl
 (rIdIn g w
 (4100 : Nat))
 (rOffIn g w
 (4100 : Nat))
 m.toNat
 (1 : Nat)])
 w (4099 : Nat)))])
 w (0 : Nat))
 m_1 (5 : Nat)))]])
 w (4100 : Nat)
 [AV.rsl
 (storeIn
 (storeIn g w (4100 : Nat)
 [AV.rsl (rIdIn g w (4100 : Nat))
 (rOffIn g w (4100 : Nat))
 m.toNat (1 : Nat)])
 w ((3 : Nat) + m_1.toNat * (1 : Nat))
 [AV.sc
 (Value.int IntKind.i64
 (intIn
 (storeIn g w (4100 : Nat)
 [AV.rsl
 (rIdIn g w (4100 : Nat))
 (rOffIn g w
 (4100 : Nat))
 m.toNat (1 : Nat)])
 w (4099 : Nat)))]).next
 (0 : Nat)
 (rLenIn
 (storeIn
 (storeIn g w (4100 : Nat)
 [AV.rsl (rIdIn g w (4100 : Nat))
 (rOffIn g w (4100 : Nat))
 m.toNat (1 : Nat)])
 w
 ((3 : Nat) + m_1.toNat * (1 : Nat))
 [AV.sc
 (Value.int IntKind.i64
 (intIn
 (storeIn g w (4100 : Nat)
 [AV.rsl
 (rIdIn g w
 (4100 : Nat))
 (rOffIn g w
 (4100 : Nat))
 m.toNat (1 : Nat)])
 w (4099 : Nat)))])
 w (4100 : Nat) +
 [[AV.sc
 (Value.int IntKind.i64
 (cellInt
 (elsIn
 (storeIn
 (storeIn g w
 (4100 : Nat)
 [AV.rsl
 (rIdIn g w
 (4100 : Nat))
 (rOffIn g w
 (4100 : Nat))
 m.toNat
 (1 : Nat)])
 w
 ((3 : Nat) +
 m_1.toNat * (1 : Nat))
 [AV.sc
 (Value.int
 IntKind.i64
 (intIn
 (storeIn g w
 (4100 : Nat)
 [AV.rsl
 (rIdIn g w
 (4100 :
 Nat))
 (rOffIn g
 w
 (4100 :
 Nat))
 m.toNat
 (1 :
 Nat)])
 w
 (4099 : Nat)))])
 w (0 : Nat))
 m_1 (6 : Nat)))],
 [AV.sc
 (Value.int IntKind.i64
 (cellInt
 (elsIn
 (storeIn
 (storeIn g w
 (4100 : Nat)
 [AV.rsl
 (rIdIn g w
 (4100 : Nat))
 (rOffIn g w
 (4100 : Nat))
 m.toNat
 (1 : Nat)])
 w
 ((3 : Nat) +
 m_1.toNat * (1 : Nat))
 [AV.sc
 (Value.int
 IntKind.i64
 (intIn
 (storeIn g w
 (4100 : Nat)
 [AV.rsl
 (rIdIn g w
 (4100 :
 Nat))
 (rOffIn g
 w
 (4100 :
 Nat))
 m.toNat
 (1 :
 Nat)])
 w
 (4099 : Nat)))])
 w (0 : Nat))
 m_1 (5 : Nat)))]].length)
 (1 : Nat)].length)
 (I144s w ls il f i
 (storeIn
 (appIn
 (storeIn
 (storeIn g w (4100 : Nat)
 [AV.rsl (rIdIn g w (4100 : Nat))
 (rOffIn g w (4100 : Nat))
 m.toNat (1 : Nat)])
 w ((3 : Nat) + m_1.toNat * (1 : Nat))
 [AV.sc
 (Value.int IntKind.i64
 (intIn
 (storeIn g w (4100 : Nat)
 [AV.rsl
 (rIdIn g w (4100 : Nat))
 (rOffIn g w
 (4100 : Nat))
 m.toNat (1 : Nat)])
 w (4099 : Nat)))])
 (rIdIn
 (storeIn
 (storeIn g w (4100 : Nat)
 [AV.rsl (rIdIn g w (4100 : Nat))
 (rOffIn g w (4100 : Nat))
 m.toNat (1 : Nat)])
 w
 ((3 : Nat) + m_1.toNat * (1 : Nat))
 [AV.sc
 (Value.int IntKind.i64
 (intIn
 (storeIn g w (4100 : Nat)
 [AV.rsl
 (rIdIn g w
 (4100 : Nat))
 (rOffIn g w
 (4100 : Nat))
 m.toNat (1 : Nat)])
 w (4099 : Nat)))])
 w (4100 : Nat))
 (rOffIn
 (storeIn
 (storeIn g w (4100 : Nat)
 [AV.rsl (rIdIn g w (4100 : Nat))
 (rOffIn g w (4100 : Nat))
 m.toNat (1 : Nat)])
 w
 ((3 : Nat) + m_1.toNat * (1 : Nat))
 [AV.sc
 (Value.int IntKind.i64
 (intIn
 (storeIn g w (4100 : Nat)
 [AV.rsl
 (rIdIn g w
 (4100 : Nat))
 (rOffIn g w
 (4100 : Nat))
 m.toNat (1 : Nat)])
 w (4099 : Nat)))])
 w (4100 : Nat))
 (rLenIn
 (storeIn
 (storeIn g w (4100 : Nat)
 [AV.rsl (rIdIn g w (4100 : Nat))
 (rOffIn g w (4100 : Nat))
 m.toNat (1 : Nat)])
 w
 ((3 : Nat) +
 m_1.toNat * (1 : Nat))
 [AV.sc
 (Value.int IntKind.i64
 (intIn
 (storeIn g w (4100 : Nat)
 [AV.rsl
 (rIdIn g w
 (4100 : Nat))
 (rOffIn g w
 (4100 : Nat))
 m.toNat (1 : Nat)])
 w (4099 : Nat)))])
 w (4100 : Nat) *
 (1 : Nat))
 [[AV.sc
 (Value.int IntKind.i64
 (cellInt
 (elsIn
 (storeIn
 (storeIn g w (4100 : Nat)
 [AV.rsl
 (rIdIn g w
 (4100 : Nat))
 (rOffIn g w
 (4100 : Nat))
 m.toNat (1 : Nat)])
 w
 ((3 : Nat) +
 m_1.toNat * (1 : Nat))
 [AV.sc
 (Value.int IntKind.i64
 (intIn
 (storeIn g w
 (4100 : Nat)
 [AV.rsl
 (rIdIn g w
 (4100 :
 Nat))
 (rOffIn g w
 (4100 :
 Nat))
 m.toNat
 (1 : Nat)])
 w (4099 : Nat)))])
 w (0 : Nat))
 m_1 (6 : Nat)))],
 [AV.sc
 (Value.int IntKind.i64
 (cellInt
 (elsIn
 (storeIn
 (storeIn g w (4100 : Nat)
 [AV.rsl
 (rIdIn g w
 (4100 : Nat))
 (rOffIn g w
 (4100 : Nat))
 m.toNat (1 : Nat)])
 w
 ((3 : Nat) +
 m_1.toNat * (1 : Nat))
 [AV.sc
 (Value.int IntKind.i64
 (intIn
 (storeIn g w
 (4100 : Nat)
 [AV.rsl
 (rIdIn g w
 (4100 :
 Nat))
 (rOffIn g w
 (4100 :
 Nat))
 m.toNat
 (1 : Nat)])
 w (4099 : Nat)))])
 w (0 : Nat))
 m_1 (5 : Nat)))]])
 w (4100 : Nat)
 [AV.rsl
 (storeIn
 (storeIn g w (4100 : Nat)
 [AV.rsl (rIdIn g w (4100 : Nat))
 (rOffIn g w (4100 : Nat))
 m.toNat (1 : Nat)])
 w
 ((3 : Nat) +
 m_1.toNat * (1 : Nat))
 [AV.sc
 (Value.int IntKind.i64
 (intIn
 (storeIn g w (4100 : Nat)
 [AV.rsl
 (rIdIn g w
 (4100 : Nat))
 (rOffIn g w
 (4100 : Nat))
 m.toNat (1 : Nat)])
 w (4099 : Nat)))]).next
 (0 : Nat)
 (rLenIn
 (storeIn
 (storeIn g w (4100 : Nat)
 [AV.rsl
 (rIdIn g w (4100 : Nat))
 (rOffIn g w (4100 : Nat))
 m.toNat (1 : Nat)])
 w
 ((3 : Nat) +
 m_1.toNat * (1 : Nat))
 [AV.sc
 (Value.int IntKind.i64
 (intIn
 (storeIn g w
 (4100 : Nat)
 [AV.rsl
 (rIdIn g w
 (4100 : Nat))
 (rOffIn g w
 (4100 : Nat))
 m.toNat
 (1 : Nat)])
 w (4099 : Nat)))])
 w (4100 : Nat) +
 [[AV.sc
 (Value.int IntKind.i64
 (cellInt
 (elsIn
 (storeIn
 (storeIn g w
 (4100 : Nat)
 [AV.rsl
 (rIdIn g w
 (4100 :
 Nat))
 (rOffIn g w
 (4100 :
 Nat))
 m.toNat
 (1 : Nat)])
 w
 ((3 : Nat) +
 m_1.toNat *
 (1 : Nat))
 [AV.sc
 (Value.int
 IntKind.i64
 (intIn
 (storeIn g w
 (4100 :
 Nat)
 [AV.rsl
 (rIdIn
 g w
 (4100 :
 Nat))
 (rOffIn
 g w
 (4100 :
 Nat))
 m.toNat
 (1 :
 Nat)])
 w
 (4099 :
 Nat)))])
 w (0 : Nat))
 m_1 (6 : Nat)))],
 [AV.sc
 (Value.int IntKind.i64
 (cellInt
 (elsIn
 (storeIn
 (storeIn g w
 (4100 : Nat)
 [AV.rsl
 (rIdIn g w
 (4100 :
 Nat))
 (rOffIn g w
 (4100 :
 Nat))
 m.toNat
 (1 : Nat)])
 w
 ((3 : Nat) +
 m_1.toNat *
 (1 : Nat))
 [AV.sc
 (Value.int
 IntKind.i64
 (intIn
 (storeIn g w
 (4100 :
 Nat)
 [AV.rsl
 (rIdIn
 g w
 (4100 :
 Nat))
 (rOffIn
 g w
 (4100 :
 Nat))
 m.toNat
 (1 :
 Nat)])
 w
 (4099 :
 Nat)))])
 w (0 : Nat))
 m_1
 (5 : Nat)))]].length)
 (1 : Nat)]) =
 I144s w ls il f i
 (storeIn
 (appIn
 (storeIn
 (storeIn g w (4100 : Nat)
 [AV.rsl (rIdIn g w (4100 : Nat))
 (rOffIn g w (4100 : Nat))
 m.toNat (1 : Nat)])
 w ((3 : Nat) + m_1.toNat * (1 : Nat))
 [AV.sc
 (Value.int IntKind.i64
 (intIn
 (storeIn g w (4100 : Nat)
 [AV.rsl
 (rIdIn g w (4100 : Nat))
 (rOffIn g w
 (4100 : Nat))
 m.toNat (1 : Nat)])
 w (4099 : Nat)))])
 (rIdIn
 (storeIn
 (storeIn g w (4100 : Nat)
 [AV.rsl (rIdIn g w (4100 : Nat))
 (rOffIn g w (4100 : Nat))
 m.toNat (1 : Nat)])
 w
 ((3 : Nat) + m_1.toNat * (1 : Nat))
 [AV.sc
 (Value.int IntKind.i64
 (intIn
 (storeIn g w (4100 : Nat)
 [AV.rsl
 (rIdIn g w
 (4100 : Nat))
 (rOffIn g w
 (4100 : Nat))
 m.toNat (1 : Nat)])
 w (4099 : Nat)))])
 w (4100 : Nat))
 (rOffIn
 (storeIn
 (storeIn g w (4100 : Nat)
 [AV.rsl (rIdIn g w (4100 : Nat))
 (rOffIn g w (4100 : Nat))
 m.toNat (1 : Nat)])
 w
 ((3 : Nat) + m_1.toNat * (1 : Nat))
 [AV.sc
 (Value.int IntKind.i64
 (intIn
 (storeIn g w (4100 : Nat)
 [AV.rsl
 (rIdIn g w
 (4100 : Nat))
 (rOffIn g w
 (4100 : Nat))
 m.toNat (1 : Nat)])
 w (4099 : Nat)))])
 w (4100 : Nat))
 (rLenIn
 (storeIn
 (storeIn g w (4100 : Nat)
 [AV.rsl (rIdIn g w (4100 : Nat))
 (rOffIn g w (4100 : Nat))
 m.toNat (1 : Nat)])
 w
 ((3 : Nat) +
 m_1.toNat * (1 : Nat))
 [AV.sc
 (Value.int IntKind.i64
 (intIn
 (storeIn g w (4100 : Nat)
 [AV.rsl
 (rIdIn g w
 (4100 : Nat))
 (rOffIn g w
 (4100 : Nat))
 m.toNat (1 : Nat)])
 w (4099 : Nat)))])
 w (4100 : Nat) *
 (1 : Nat))
 [[AV.sc
 (Value.int IntKind.i64
 (cellInt
 (elsIn
 (storeIn
 (storeIn g w (4100 : Nat)
 [AV.rsl
 (rIdIn g w
 (4100 : Nat))
 (rOffIn g w
 (4100 : Nat))
 m.toNat (1 : Nat)])
 w
 ((3 : Nat) +
 m_1.toNat * (1 : Nat))
 [AV.sc
 (Value.int IntKind.i64
 (intIn
 (storeIn g w
 (4100 : Nat)
 [AV.rsl
 (rIdIn g w
 (4100 :
 Nat))
 (rOffIn g w
 (4100 :
 Nat))
 m.toNat
 (1 : Nat)])
 w (4099 : Nat)))])
 w (0 : Nat))
 m_1 (6 : Nat)))],
 [AV.sc
 (Value.int IntKind.i64
 (cellInt
 (elsIn
 (storeIn
 (storeIn g w (4100 : Nat)
 [AV.rsl
 (rIdIn g w
 (4100 : Nat))
 (rOffIn g w
 (4100 : Nat))
 m.toNat (1 : Nat)])
 w
 ((3 : Nat) +
 m_1.toNat * (1 : Nat))
 [AV.sc
 (Value.int IntKind.i64
 (intIn
 (storeIn g w
 (4100 : Nat)
 [AV.rsl
 (rIdIn g w
 (4100 :
 Nat))
 (rOffIn g w
 (4100 :
 Nat))
 m.toNat
 (1 : Nat)])
 w (4099 : Nat)))])
 w (0 : Nat))
 m_1 (5 : Nat)))]])
 w (4100 : Nat)
 [AV.rsl
 (storeIn
 (storeIn g w (4100 : Nat)
 [AV.rsl (rIdIn g w (4100 : Nat))
 (rOffIn g w (4100 : Nat))
 m.toNat (1 : Nat)])
 w
 ((3 : Nat) +
 m_1.toNat * (1 : Nat))
 [AV.sc
 (Value.int IntKind.i64
 (intIn
 (storeIn g w (4100 : Nat)
 [AV.rsl
 (rIdIn g w
 (4100 : Nat))
 (rOffIn g w
 (4100 : Nat))
 m.toNat (1 : Nat)])
 w (4099 : Nat)))]).next
 (0 : Nat)
 (rLenIn
 (storeIn
 (storeIn g w (4100 : Nat)
 [AV.rsl
 (rIdIn g w (4100 : Nat))
 (rOffIn g w (4100 : Nat))
 m.toNat (1 : Nat)])
 w
 ((3 : Nat) +
 m_1.toNat * (1 : Nat))
 [AV.sc
 (Value.int IntKind.i64
 (intIn
 (storeIn g w
 (4100 : Nat)
 [AV.rsl
 (rIdIn g w
 (4100 : Nat))
 (rOffIn g w
 (4100 : Nat))
 m.toNat
 (1 : Nat)])
 w (4099 : Nat)))])
 w (4100 : Nat) +
 [[AV.sc
 (Value.int IntKind.i64
 (cellInt
 (elsIn
 (storeIn
 (storeIn g w
 (4100 : Nat)
 [AV.rsl
 (rIdIn g w
 (4100 :
 Nat))
 (rOffIn g w
 (4100 :
 Nat))
 m.toNat
 (1 : Nat)])
 w
 ((3 : Nat) +
 m_1.toNat *
 (1 : Nat))
 [AV.sc
 (Value.int
 IntKind.i64
 (intIn
 (storeIn g w
 (4100 :
 Nat)
 [AV.rsl
 (rIdIn
 g w
 (4100 :
 Nat))
 (rOffIn
 g w
 (4100 :
 Nat))
 m.toNat
 (1 :
 Nat)])
 w
 (4099 :
 Nat)))])
 w (0 : Nat))
 m_1 (6 : Nat)))],
 [AV.sc
 (Value.int IntKind.i64
 (cellInt
 (elsIn
 (storeIn
 (storeIn g w
 (4100 : Nat)
 [AV.rsl
 (rIdIn g w
 (4100 :
 Nat))
 (rOffIn g w
 (4100 :
 Nat))
 m.toNat
 (1 : Nat)])
 w
 ((3 : Nat) +
 m_1.toNat *
 (1 : Nat))
 [AV.sc
 (Value.int
 IntKind.i64
 (intIn
 (storeIn g w
 (4100 :
 Nat)
 [AV.rsl
 (rIdIn
 g w
 (4100 :
 Nat))
 (rOffIn
 g w
 (4100 :
 Nat))
 m.toNat
 (1 :
 Nat)])
 w
 (4099 :
 Nat)))])
 w (0 : Nat))
 m_1
 (5 : Nat)))]].length)
 (1 : Nat)]) ∧
 S ls il
 (storeIn
 (appIn
 (storeIn
 (storeIn g w (4100 : Nat)
 [AV.rsl (rIdIn g w (4100 : Nat))
 (rOffIn g w (4100 : Nat)) m.toNat
 (1 : Nat)])
 w ((3 : Nat) + m_1.toNat * (1 : Nat))
 [AV.sc
 (Value.int IntKind.i64
 (intIn
 (storeIn g w (4100 : Nat)
 [AV.rsl
 (rIdIn g w (4100 : Nat))
 (rOffIn g w (4100 : Nat))
 m.toNat (1 : Nat)])
 w (4099 : Nat)))])
 (rIdIn
 (storeIn
 (storeIn g w (4100 : Nat)
 [AV.rsl (rIdIn g w (4100 : Nat))
 (rOffIn g w (4100 : Nat))
 m.toNat (1 : Nat)])
 w ((3 : Nat) + m_1.toNat * (1 : Nat))
 [AV.sc
 (Value.int IntKind.i64
 (intIn
 (storeIn g w (4100 : Nat)
 [AV.rsl
 (rIdIn g w (4100 : Nat))
 (rOffIn g w
 (4100 : Nat))
 m.toNat (1 : Nat)])
 w (4099 : Nat)))])
 w (4100 : Nat))
 (rOffIn
 (storeIn
 (storeIn g w (4100 : Nat)
 [AV.rsl (rIdIn g w (4100 : Nat))
 (rOffIn g w (4100 : Nat))
 m.toNat (1 : Nat)])
 w ((3 : Nat) + m_1.toNat * (1 : Nat))
 [AV.sc
 (Value.int IntKind.i64
 (intIn
 (storeIn g w (4100 : Nat)
 [AV.rsl
 (rIdIn g w (4100 : Nat))
 (rOffIn g w
 (4100 : Nat))
 m.toNat (1 : Nat)])
 w (4099 : Nat)))])
 w (4100 : Nat))
 (rLenIn
 (storeIn
 (storeIn g w (4100 : Nat)
 [AV.rsl (rIdIn g w (4100 : Nat))
 (rOffIn g w (4100 : Nat))
 m.toNat (1 : Nat)])
 w
 ((3 : Nat) + m_1.toNat * (1 : Nat))
 [AV.sc
 (Value.int IntKind.i64
 (intIn
 (storeIn g w (4100 : Nat)
 [AV.rsl
 (rIdIn g w
 (4100 : Nat))
 (rOffIn g w
 (4100 : Nat))
 m.toNat (1 : Nat)])
 w (4099 : Nat)))])
 w (4100 : Nat) *
 (1 : Nat))
 [[AV.sc
 (Value.int IntKind.i64
 (cellInt
 (elsIn
 (storeIn
 (storeIn g w (4100 : Nat)
 [AV.rsl
 (rIdIn g w
 (4100 : Nat))
 (rOffIn g w
 (4100 : Nat))
 m.toNat (1 : Nat)])
 w
 ((3 : Nat) +
 m_1.toNat * (1 : Nat))
 [AV.sc
 (Value.int IntKind.i64
 (intIn
 (storeIn g w
 (4100 : Nat)
 [AV.rsl
 (rIdIn g w
 (4100 :
 Nat))
 (rOffIn g w
 (4100 :
 Nat))
 m.toNat
 (1 : Nat)])
 w (4099 : Nat)))])
 w (0 : Nat))
 m_1 (6 : Nat)))],
 [AV.sc
 (Value.int IntKind.i64
 (cellInt
 (elsIn
 (storeIn
 (storeIn g w (4100 : Nat)
 [AV.rsl
 (rIdIn g w
 (4100 : Nat))
 (rOffIn g w
 (4100 : Nat))
 m.toNat (1 : Nat)])
 w
 ((3 : Nat) +
 m_1.toNat * (1 : Nat))
 [AV.sc
 (Value.int IntKind.i64
 (intIn
 (storeIn g w
 (4100 : Nat)
 [AV.rsl
 (rIdIn g w
 (4100 :
 Nat))
 (rOffIn g w
 (4100 :
 Nat))
 m.toNat
 (1 : Nat)])
 w (4099 : Nat)))])
 w (0 : Nat))
 m_1 (5 : Nat)))]])
 w (4100 : Nat)
 [AV.rsl
 (storeIn
 (storeIn g w (4100 : Nat)
 [AV.rsl (rIdIn g w (4100 : Nat))
 (rOffIn g w (4100 : Nat))
 m.toNat (1 : Nat)])
 w
 ((3 : Nat) + m_1.toNat * (1 : Nat))
 [AV.sc
 (Value.int IntKind.i64
 (intIn
 (storeIn g w (4100 : Nat)
 [AV.rsl
 (rIdIn g w
 (4100 : Nat))
 (rOffIn g w
 (4100 : Nat))
 m.toNat (1 : Nat)])
 w (4099 : Nat)))]).next
 (0 : Nat)
 (rLenIn
 (storeIn
 (storeIn g w (4100 : Nat)
 [AV.rsl (rIdIn g w (4100 : Nat))
 (rOffIn g w (4100 : Nat))
 m.toNat (1 : Nat)])
 w
 ((3 : Nat) +
 m_1.toNat * (1 : Nat))
 [AV.sc
 (Value.int IntKind.i64
 (intIn
 (storeIn g w (4100 : Nat)
 [AV.rsl
 (rIdIn g w
 (4100 : Nat))
 (rOffIn g w
 (4100 : Nat))
 m.toNat (1 : Nat)])
 w (4099 : Nat)))])
 w (4100 : Nat) +
 [[AV.sc
 (Value.int IntKind.i64
 (cellInt
 (elsIn
 (storeIn
 (storeIn g w
 (4100 : Nat)
 [AV.rsl
 (rIdIn g w
 (4100 : Nat))
 (rOffIn g w
 (4100 : Nat))
 m.toNat
 (1 : Nat)])
 w
 ((3 : Nat) +
 m_1.toNat *
 (1 : Nat))
 [AV.sc
 (Value.int
 IntKind.i64
 (intIn
 (storeIn g w
 (4100 : Nat)
 [AV.rsl
 (rIdIn g
 w
 (4100 :
 Nat))
 (rOffIn
 g w
 (4100 :
 Nat))
 m.toNat
 (1 :
 Nat)])
 w
 (4099 :
 Nat)))])
 w (0 : Nat))
 m_1 (6 : Nat)))],
 [AV.sc
 (Value.int IntKind.i64
 (cellInt
 (elsIn
 (storeIn
 (storeIn g w
 (4100 : Nat)
 [AV.rsl
 (rIdIn g w
 (4100 : Nat))
 (rOffIn g w
 (4100 : Nat))
 m.toNat
 (1 : Nat)])
 w
 ((3 : Nat) +
 m_1.toNat *
 (1 : Nat))
 [AV.sc
 (Value.int
 IntKind.i64
 (intIn
 (storeIn g w
 (4100 : Nat)
 [AV.rsl
 (rIdIn g
 w
 (4100 :
 Nat))
 (rOffIn
 g w
 (4100 :
 Nat))
 m.toNat
 (1 :
 Nat)])
 w
 (4099 :
 Nat)))])
 w (0 : Nat))
 m_1 (5 : Nat)))]].length)
 (1 : Nat)]))
 False)
 False)
 False)
 (iteP (m_2 == (4 : Int)) (False ∧ True)
 (iteP (m_2 == (5 : Int)) (False ∧ True)
 (iteP
 (allLen (2 : Nat) ls &&
 fits
 (ls.length +
 [[AV.sc (Value.int IntKind.i64 m_1),
 AV.sc
 (Value.int IntKind.i64 f)]].length)
 (16 : Nat))
 (iteP
 (isOwn
 (storeIn
 (storeIn g w (4100 : Nat)
 [AV.rsl (rIdIn g w (4100 : Nat))
 (rOffIn g w (4100 : Nat)) m.toNat
 (1 : Nat)])
 w ((3 : Nat) + m_1.toNat * (1 : Nat))
 [AV.sc
 (Value.int IntKind.i64
 (intIn
 (storeIn g w (4100 : Nat)
 [AV.rsl (rIdIn g w (4100 : Nat))
 (rOffIn g w (4100 : Nat))
 m.toNat (1 : Nat)])
 w (4099 : Nat)))])
 il (2 : Nat) (205 : Nat) ls.length)
 (I144s w
 (ls ++
 [[AV.sc (Value.int IntKind.i64 m_1),
 AV.sc (Value.int IntKind.i64 f)]])
 il f i
 (growH
 (storeIn
 (storeIn g w (4100 : Nat)
 [AV.rsl (rIdIn g w (4100 : Nat))
 (rOffIn g w (4100 : Nat))
 m.toNat (1 : Nat)])
 w ((3 : Nat) + m_1.toNat * (1 : Nat))
 [AV.sc
 (Value.int IntKind.i64
 (intIn
 (storeIn g w (4100 : Nat)
 [AV.rsl
 (rIdIn g w (4100 : Nat))
 (rOffIn g w
 (4100 : Nat))
 m.toNat (1 : Nat)])
 w (4099 : Nat)))])
 il (2 : Nat) (205 : Nat)
 (ls.length +
 [[AV.sc (Value.int IntKind.i64 m_1),
 AV.sc
 (Value.int IntKind.i64
 f)]].length)) =
 I144s w
 (ls ++
 [[AV.sc (Value.int IntKind.i64 m_1),
 AV.sc (Value.int IntKind.i64 f)]])
 il f i
 (growH
 (storeIn
 (storeIn g w (4100 : Nat)
 [AV.rsl (rIdIn g w (4100 : Nat))
 (rOffIn g w (4100 : Nat))
 m.toNat (1 : Nat)])
 w ((3 : Nat) + m_1.toNat * (1 : Nat))
 [AV.sc
 (Value.int IntKind.i64
 (intIn
 (storeIn g w (4100 : Nat)
 [AV.rsl
 (rIdIn g w (4100 : Nat))
 (rOffIn g w
 (4100 : Nat))
 m.toNat (1 : Nat)])
 w (4099 : Nat)))])
 il (2 : Nat) (205 : Nat)
 (ls.length +
 [[AV.sc (Value.int IntKind.i64 m_1),
 AV.sc
 (Value.int IntKind.i64
 f)]].length)) ∧
 S
 (ls ++
 [[AV.sc (Value.int IntKind.i64 m_1),
 AV.sc (Value.int IntKind.i64 f)]])
 il
 (growH
 (storeIn
 (storeIn g w (4100 : Nat)
 [AV.rsl (rIdIn g w (4100 : Nat))
 (rOffIn g w (4100 : Nat)) m.toNat
 (1 : Nat)])
 w ((3 : Nat) + m_1.toNat * (1 : Nat))
 [AV.sc
 (Value.int IntKind.i64
 (intIn
 (storeIn g w (4100 : Nat)
 [AV.rsl
 (rIdIn g w (4100 : Nat))
 (rOffIn g w (4100 : Nat))
 m.toNat (1 : Nat)])
 w (4099 : Nat)))])
 il (2 : Nat) (205 : Nat)
 (ls.length +
 [[AV.sc (Value.int IntKind.i64 m_1),
 AV.sc
 (Value.int IntKind.i64
 f)]].length)))
 False)
 False)))))
 False)
 False)
 False)
 False)
 False))
 False)
 False)
 False)
 False)
 False)
 False)
 False)
 False)
 False)
 False)
 False)
 (Ex.exit (0 : Nat) = Ex.exit (0 : Nat) ∧ E144s ls il g = E144s ls il g ∧ S' ls il g))
 False) :
 (fun (w : Nat) (ls : List (List AV)) (il : Nat) (f i : Int) (g : Heap) (N N' : Heap → Prop) (S S' : Rows → Nat → Heap → Prop) => wpRound T144 cfg Tryz.prog 100 144 3 (I144s w ls il f i g) (n144 w f i N S) (e144 N' S')) w ls il f i g N N' S S' :=
 Eq.mp (by kernel_rfl) h
end
end Go.Proofs.Rl
namespace Go.Proofs.Rl
open Go Go.Ef
noncomputable section
set_option maxRecDepth 100000
theorem iti {q : Bool} {A B : Prop} (h : q = true → A) (k : q = false → B) : iteP q A B := by
 cases q with
 | true => exact h rfl
 | false => exact k rfl
theorem beq_no {a b : Int} (h : a ≠ b) : (a == b) = false := by simpa using h
structure RowAt (els : Rows) (k : Nat) (op : Int) : Prop where
 get : getI k els = some [.sc (.int .i64 (cellInt els k 0)), .sc (.int .u64 (cellInt els k 1)), .sc (.int .u64 (cellInt els k 2)), .sc (.int .u64 (cellInt els k 3)), .sc (.int .u64 (cellInt els k 4)), .sc (.int .i64 (cellInt els k 5)), .sc (.int .i64 (cellInt els k 6))]
 op : cellInt els k 0 = op
 lt : k < els.length
theorem int_cell {g : Heap} {id o : Nat} {cs : List AV} {k : IntKind} {n : Int} (L : Live g id (.cells cs)) (h : cs[o]? = some (.sc (.int k n))) : kdsIn g id o [.int k] = true ∧ intIn g id o = n := by
 have e := L.cell o
 rw [h] at e
 simp only [kdsIn, intIn]; rw [e]; refine ⟨?_, rfl⟩
 simp only [isKd, decide_true, Bool.and_self]
theorem bool_cell {g : Heap} {id o : Nat} {cs : List AV} {b : Bool} (L : Live g id (.cells cs)) (h : cs[o]? = some (bA b)) : kdsIn g id o [.bool] = true ∧ boolIn g id o = b := by
 have e := L.cell o
 rw [h] at e
 simp only [kdsIn, boolIn]; rw [e]; exact ⟨rfl, rfl⟩
theorem fits_small {n b : Nat} (h : n ≤ 10000) (hb : b ≤ 100) : fits n b = true := by
 unfold fits
 rw [Bool.and_eq_true]
 have h1 : n * b ≤ 10000 * 100 := Nat.mul_le_mul h hb
 exact ⟨Nat.ble_eq_true_of_le (by unfold maxRoom; omega), Nat.ble_eq_true_of_le (by unfold maxRoom; omega)⟩
variable {g : Heap} {w sid k il : Nat} {els ls : Rows} {s : List UInt8} {M : Nat → Int} {st op f i : Int} {c : List AV} {N N' : Heap → Prop} {S S' : Rows → Nat → Heap → Prop}
def mrk (g : Heap) (w sid k : Nat) (st : Int) : Heap := storeIn (storeIn g w 4100 [.rsl sid 0 0 1]) w (3 + k) [iA st]
theorem mrk_sim (H : Sim g w els s M st (.rsl sid 0 1 1)) (hk : k < 4096) : Sim (mrk g w sid k st) w els s (upd M k st) st (.rsl sid 0 0 1) := (H.putStk _).putMark hk st
theorem mrk_other (H : Sim g w els s M st (.rsl sid 0 1 1)) {j : Nat} {q : AObj} (hj : w ≠ j) (l : Live g j q) : Live (mrk g w sid k st) j q := (H.putStk _).other hj (H.other hj l)
theorem own_ne {g : Heap} {a b k e n : Nat} {cs : List AV} (A : Live g a (.cells cs)) (B : Live g b (.own k e n)) : a ≠ b := by
 rintro rfl
 have := A.get.symm.trans B.get
 cases this
theorem rd1s (H : Sim g w els s M st (.rsl sid 0 1 1)) (L : Live g sid (.cells c)) (hc : c[0]? = some (iA k)) (hk : k < 4096) (hM : M k ≠ st) (R : RowAt els k op) (ho : op = 1 ∨ op = 6)
  (hl : allLen 2 ls = true) (hn : ls.length ≤ 5000) (W : Live g il (.own 2 205 ls.length)) (hS : S (ls ++ [[iA k, iA f]]) il (growH (mrk g w sid k st) il 2 205 (ls.length + 1))) :
  wpRound T144 cfg Tryz.prog 100 144 3 (I144s w ls il f i g) (n144 w f i N S) (e144 N' S') := by
 refine r144s w ls il f i g N N' S S' ?_
 obtain ⟨_, q1, q2, q3, q4⟩ := H.stkR
 obtain ⟨c1, c2⟩ := int_cell L hc
 rw [q2, q3, q4]
 refine it q1 fun m hm => ?_
 subst hm
 refine it rfl (it q1 (it q1 fun m hm => ?_))
 obtain rfl : m = 0 := hm
 refine it rfl (it c1 fun m hm => ?_)
 obtain rfl : m = (k : Int) := hm.trans c2
 refine it q1 (it q1 fun m hm => ?_)
 obtain rfl : m = 0 := hm
 refine it rfl (it (H.ok (by show 4100 + 1 ≤ 4101; omega)) ?_)
 rw [Int.toNat_natCast, Nat.mul_one, show (0 : Int).toNat = 0 from rfl]
 have H1 := H.putStk (.rsl sid 0 0 1)
 obtain ⟨m1, m2⟩ := H1.mark hk
 obtain ⟨t1, t2⟩ := H1.step
 rw [m2, t2]
 have hr : inRange (k : Int) 4096 = true := by rw [inRange_iff]; omega
 refine it hr (it m1 (it t1 (ie (beq_no hM) (it t1 (it hr (it (H1.ok (by show 3 + k + 1 ≤ 4101; omega)) ?_))))))
 have H2 := mrk_sim H hk
 unfold mrk at H2 hS
 obtain ⟨e1, e2⟩ := H2.sl
 have e2' := e2
 unfold iA at e1 e2'
 rw [e2']
 refine it e1 (it (by rw [inRange_iff]; have := R.lt; omega) ⟨R.get, fun m hm => ?_⟩)
 obtain rfl : m = op := hm.trans R.op
 refine ie (beq_no (by omega)) (ie (beq_no (by omega)) (ie (beq_no (by omega)) (ie (beq_no (by omega)) (it ?_ (it ?_ ⟨rfl, hS⟩)))))
 ·rw [hl, Bool.true_and]; exact fits_small (by simp only [List.length_cons, List.length_nil]; omega) (by decide)
 ·exact is_own (H1.other (own_ne (H1.live.choose_spec.1) (H.other (own_ne H.live.choose_spec.1 W) W)) (H.other (own_ne H.live.choose_spec.1 W) W))
theorem rd1n (H : Sim g w els s M st (.rsl sid 0 1 1)) (L : Live g sid (.cells c)) (hc : c[0]? = some (iA k)) (hk : k < 4096) (hM : M k ≠ st) (R : RowAt els k op) (ho : op = 1 ∨ op = 6)
  (hS : S [[iA k, iA f]] (mrk g w sid k st).next (newOwnL (mrk g w sid k st) 2 205 1)) :
  wpRound T144 cfg Tryz.prog 100 144 3 (I144n w f i g) (n144 w f i N S) (e144 N' S') := by
 refine r144n w f i g N N' S S' ?_
 obtain ⟨_, q1, q2, q3, q4⟩ := H.stkR
 obtain ⟨c1, c2⟩ := int_cell L hc
 rw [q2, q3, q4]
 refine it q1 fun m hm => ?_
 subst hm
 refine it rfl (it q1 (it q1 fun m hm => ?_))
 obtain rfl : m = 0 := hm
 refine it rfl (it c1 fun m hm => ?_)
 obtain rfl : m = (k : Int) := hm.trans c2
 refine it q1 (it q1 fun m hm => ?_)
 obtain rfl : m = 0 := hm
 refine it rfl (it (H.ok (by show 4100 + 1 ≤ 4101; omega)) ?_)
 rw [Int.toNat_natCast, Nat.mul_one, show (0 : Int).toNat = 0 from rfl]
 have H1 := H.putStk (.rsl sid 0 0 1)
 obtain ⟨m1, m2⟩ := H1.mark hk
 obtain ⟨t1, t2⟩ := H1.step
 rw [m2, t2]
 have hr : inRange (k : Int) 4096 = true := by rw [inRange_iff]; omega
 refine it hr (it m1 (it t1 (ie (beq_no hM) (it t1 (it hr (it (H1.ok (by show 3 + k + 1 ≤ 4101; omega)) ?_))))))
 have H2 := mrk_sim H hk
 unfold mrk at H2 hS
 obtain ⟨e1, e2⟩ := H2.sl
 have e2' := e2
 unfold iA at e1 e2'
 rw [e2']
 refine it e1 (it (by rw [inRange_iff]; have := R.lt; omega) ⟨R.get, fun m hm => ?_⟩)
 obtain rfl : m = op := hm.trans R.op
 refine ie (beq_no (by omega)) (ie (beq_no (by omega)) (ie (beq_no (by omega)) (ie (beq_no (by omega)) ⟨rfl, hS⟩)))
theorem rd0s {o : Nat} (H : Sim g w els s M st (.rsl sid o 0 1)) (hS : S' ls il g) : wpRound T144 cfg Tryz.prog 100 144 3 (I144s w ls il f i g) (n144 w f i N S) (e144 N' S') := by
 refine r144s w ls il f i g N N' S S' ?_
 obtain ⟨_, q1, q2, q3, q4⟩ := H.stkR
 refine it q1 fun m hm => ?_
 rw [q4] at hm
 obtain rfl : m = 0 := hm
 exact ie rfl ⟨rfl, rfl, hS⟩
end
end Go.Proofs.Rl
namespace Go.Proofs.Rl
open Go Go.Ef
noncomputable section
set_option maxRecDepth 100000
structure Mem (h : Heap) (w b d : Nat) (els : Rows) (s : List UInt8) (M : Nat → Int) (st bf bt : Int) (fd : Bool) (sv : AV) : Prop where
 sim : Sim h w els s M st sv
 stk : sv = nilA ∨ ∃ sid c, sv = .rsl sid 0 0 1 ∧ Live h sid (.cells c) ∧ sid ≠ w ∧ sid ≠ b ∧ sid ≠ d
 best : Live h b (.cells [iA bf, iA bt])
 fnd : Live h d (.cells [bA fd])
 wb : w ≠ b
 wd : w ≠ d
 bd : b ≠ d
variable {h g : Heap} {w b d : Nat} {els : Rows} {s : List UInt8} {M : Nat → Int} {st bf bt : Int} {fd : Bool} {sv : AV}
theorem Sim.inj {els' : Rows} {s' : List UInt8} {M' : Nat → Int} {st' : Int} {sv' : AV} (A : Sim h w els s M st sv) (B : Sim h w els' s' M' st' sv') : st = st' ∧ sv = sv' := by
 have h1 : some (iA st) = some (iA st') := (A.cell (i := 4099) (by omega)).symm.trans (B.cell (i := 4099) (by omega))
 have h2 : some sv = some sv' := A.stk.symm.trans B.stk
 cases h1; cases h2; exact ⟨rfl, rfl⟩
theorem Mem.wlt (H : Mem h w b d els s M st bf bt fd sv) : w < h.next := H.sim.live.choose_spec.1.lt
structure Psh (h g : Heap) (w b d nid : Nat) (els : Rows) (s : List UInt8) (M : Nat → Int) (st bf bt : Int) (fd : Bool) (k : Int) : Prop where
 sim : Sim g w els s M st (.rsl nid 0 1 1)
 top : Live g nid (.cells [iA k])
 best : Live g b (.cells [iA bf, iA bt])
 fnd : Live g d (.cells [bA fd])
 own : ∀ il n, Live h il (.own 2 205 n) → Live g il (.own 2 205 n)
 nw : nid ≠ w
 nb : nid ≠ b
 nd : nid ≠ d
theorem psh_ok {h1 : Heap} {k : Int} (H : Mem h w b d els s M st bf bt fd sv) (keep : ∀ j q, (j = w ∨ j = b ∨ j = d ∨ ∃ n, q = .own 2 205 n) → Live h j q → Live h1 j q) (top : Live h1 h.next (.cells [iA k])) :
  Psh h (storeIn h1 w 4100 [.rsl h.next 0 1 1]) w b d h.next els s M st bf bt fd k := by
 have hw := H.wlt
 have S1 : Sim h1 w els s M st sv := H.sim.keep fun q l => keep _ _ (.inl rfl) l
 refine ⟨S1.putStk _, S1.other (by omega) top, S1.other H.wb (keep _ _ (.inr (.inl rfl)) H.best), S1.other H.wd (keep _ _ (.inr (.inr (.inl rfl))) H.fnd), fun il n l => ?_, by omega, by have := H.best.lt; omega, by have := H.fnd.lt; omega⟩
 exact S1.other (own_ne H.sim.live.choose_spec.1 l) (keep _ _ (.inr (.inr (.inr ⟨n, rfl⟩))) l)
theorem psh_nil {k : Int} (H : Mem h w b d els s M st bf bt fd nilA) : Psh h (storeIn (newIn h (.cells [iA k])) w 4100 [.rsl h.next 0 1 1]) w b d h.next els s M st bf bt fd k :=
 psh_ok H (fun _ _ _ l => l.new) (live_new H.sim.low _)
theorem psh_app {k : Int} {sid : Nat} {c : List AV} (H : Mem h w b d els s M st bf bt fd (.rsl sid 0 0 1)) (L : Live h sid (.cells c)) (h1 : sid ≠ w) (h2 : sid ≠ b) (h3 : sid ≠ d) : Psh h (storeIn (appIn h sid 0 0 [[iA k]]) w 4100 [.rsl h.next 0 1 1]) w b d h.next els s M st bf bt fd k := by
 refine psh_ok H (fun j q hj l => L.app l ?_) ?_
 ·rcases hj with rfl | rfl | rfl | ⟨n, rfl⟩
  ·exact h1
  ·exact h2
  ·exact h3
  ·exact own_ne L l
 ·have := app_get (off := 0) (n := 0) (new := [[iA k]]) L
  exact this
theorem fin_s {nid k il n : Nat} (P : Psh h g w b d nid els s M st bf bt fd k) (W : Mem h w b d els s M st bf bt fd sv) (hk : k < 4096) (O : Live h il (.own 2 205 n)) :
  Mem (growH (mrk g w nid k st) il 2 205 (n + 1)) w b d els s (upd M k st) st bf bt fd (.rsl nid 0 0 1) ∧ Live (growH (mrk g w nid k st) il 2 205 (n + 1)) il (.own 2 205 (n + 1)) := by
 have O1 := P.own _ _ O
 have lw := P.sim.live.choose_spec.1
 have O2 : Live (mrk g w nid k st) il (.own 2 205 n) := mrk_other P.sim (own_ne lw O1) O1
 rw [grow_eq]
 have K : ∀ j cs, Live (mrk g w nid k st) j (.cells cs) → Live (putIn (mrk g w nid k st) il (.own 2 205 (n + 1))) j (.cells cs) := fun j cs l => O2.put l (own_ne l O2).symm
 have T1 : Live (mrk g w nid k st) nid (.cells [iA k]) := mrk_other P.sim P.nw.symm P.top
 refine ⟨⟨?_, .inr ⟨nid, _, rfl, K _ _ T1, P.nw, P.nb, P.nd⟩, K _ _ (mrk_other P.sim W.wb P.best), K _ _ (mrk_other P.sim W.wd P.fnd), W.wb, W.wd, W.bd⟩, live_put O2 _⟩
 refine (mrk_sim P.sim hk).keep fun q l => ?_
 refine O2.put l ?_
 rintro rfl
 obtain ⟨cs, l2, _⟩ := (mrk_sim P.sim hk).live
 exact own_ne l2 O2 rfl
theorem fin_n {nid k : Nat} (P : Psh h g w b d nid els s M st bf bt fd k) (W : Mem h w b d els s M st bf bt fd sv) (hk : k < 4096) :
  Mem (newOwnL (mrk g w nid k st) 2 205 1) w b d els s (upd M k st) st bf bt fd (.rsl nid 0 0 1) ∧ Live (newOwnL (mrk g w nid k st) 2 205 1) (mrk g w nid k st).next (.own 2 205 1) := by
 rw [own_new]
 have T1 : Live (mrk g w nid k st) nid (.cells [iA k]) := mrk_other P.sim P.nw.symm P.top
 exact ⟨⟨(mrk_sim P.sim hk).keep fun q l => l.new, .inr ⟨nid, _, rfl, T1.new, P.nw, P.nb, P.nd⟩, (mrk_other P.sim W.wb P.best).new, (mrk_other P.sim W.wd P.fnd).new, W.wb, W.wd, W.bd⟩, live_new (mrk_sim P.sim hk).low _⟩
structure P144 (h : Heap) (w : Nat) (k : Int) (ls : Rows) (o : Option Nat) : Prop where
 is : ∃ b d els s M st bf bt fd sv op j, Mem h w b d els s M st bf bt fd sv ∧ k = Int.ofNat j ∧ j < 4096 ∧ RowAt els j op ∧ (op = 1 ∨ op = 6) ∧ M j ≠ st
 own : ∀ il, o = some il → Live h il (.own 2 205 ls.length)
 two : allLen 2 ls = true
 le : ls.length ≤ 5000
structure Q144 (h : Heap) (w : Nat) (k : Int) (il n : Nat) (g : Heap) : Prop where
 is : ∀ b d els s M st bf bt fd sv, Mem h w b d els s M st bf bt fd sv → ∃ sv', Mem g w b d els s (upd M k.toNat st) st bf bt fd sv'
 own : Live g il (.own 2 205 n)
def C144 (args : List AV) (h : Heap) : Option CSpec :=
 match args with
 | [.ptr w 0, .sc (.slice none 0 0), .sc (.int .i64 k), .sc (.int .i64 f), .sc (.int .i64 _)] => some { pre := P144 h w k [] none, alts := [{ α := Nat × Heap, post := fun x => Q144 h w k x.1 1 x.2, val := fun x => .sl [[iA k, iA f]] (x.1 + 1), heap := fun x => x.2 }] }
 | [.ptr w 0, .sl ls (il + 1), .sc (.int .i64 k), .sc (.int .i64 f), .sc (.int .i64 _)] => some { pre := P144 h w k ls (some il), alts := [{ α := Heap, post := fun x => Q144 h w k il (ls.length + 1) x, val := fun _ => .sl (ls ++ [[iA k, iA f]]) (il + 1), heap := fun x => x }] }
 | _ => none
theorem ok144 : Ok T144 := by
 have h0 : Ok ((tab0.addC 148 CNo).addC 149 CNo) := addC_ok (addC_ok tab0_ok fun args h s hs hp => by cases hs; exact hp.elim) fun args h s hs hp => by cases hs; exact hp.elim
 exact ⟨h0.call, h0.loop⟩
variable {nid k il : Nat} {ls : Rows} {op f i : Int}
theorem can_s (g : Heap) (ls : Rows) : ∀ t, cfg.tidy 144 3 = some t → (I144s w ls il f i g).tidy t.head t.nloc = I144s w ls il f i g := by
 intro t ht
 obtain rfl : (⟨[0, 1, 3, 4], [1], 0⟩ : Tidy) = t := by
  have : cfg.tidy 144 3 = some ⟨[0, 1, 3, 4], [1], 0⟩ := by kernel_rfl
  rw [this] at ht; cases ht; rfl
 kernel_rfl
theorem can_n (g : Heap) : ∀ t, cfg.tidy 144 3 = some t → (I144n w f i g).tidy t.head t.nloc = I144n w f i g := by
 intro t ht
 obtain rfl : (⟨[0, 1, 3, 4], [1], 0⟩ : Tidy) = t := by
  have : cfg.tidy 144 3 = some ⟨[0, 1, 3, 4], [1], 0⟩ := by kernel_rfl
  rw [this] at ht; cases ht; rfl
 kernel_rfl
theorem tidy144 : cfg.tidy 144 3 = some ⟨[0, 1, 3, 4], [1], 0⟩ := by kernel_rfl
theorem first144 : firstId 8 (loopAt Tryz.prog 144 3) = 3 := by kernel_rfl
theorem out144 {o : Nat} (H : Sim g w els s M st (.rsl nid o 0 1)) : Ev cfg Tryz.prog 144 (.loop (loopAt Tryz.prog 144 3)) (I144s w ls il f i g) fun ex τ => ex = .exit 0 ∧ τ = E144s ls il g := by
 refine Ev.round ok144 first144 tidy144 (can_s g ls _ tidy144) (rd0s (N := fun _ => False) (N' := fun _ => False) (S := fun _ _ _ => False) (S' := fun ls' il' g' => ls' = ls ∧ il' = il ∧ g' = g) H ⟨rfl, rfl, rfl⟩) ?_ ?_
 ·intro τ hn
  unfold n144 at hn
  split at hn
  ·split at hn
   ·exact hn.2.elim
   ·exact hn.elim
  ·exact hn.2.elim
  ·exact hn.elim
 ·intro ex τ he
  unfold e144 at he
  split at he
  ·obtain ⟨h0, he⟩ := he
   cases h0
   split at he
   ·split at he
    ·obtain ⟨e1, e2, e3, e4⟩ := he
     exact ⟨rfl, by rw [e1, e2, e3, e4]⟩
    ·exact he.elim
   ·exact he.2.elim
   ·exact he.elim
  ·exact he.elim
theorem loop144s (P : Psh h g w b d nid els s M st bf bt fd k) (hk : k < 4096) (hM : M k ≠ st) (R : RowAt els k op) (ho : op = 1 ∨ op = 6) (hl : allLen 2 ls = true) (hn : ls.length ≤ 5000) (O : Live h il (.own 2 205 ls.length)) :
  Ev cfg Tryz.prog 144 (.loop (loopAt Tryz.prog 144 3)) (I144s w ls il f i g) fun ex τ => ex = .exit 0 ∧ τ = E144s (ls ++ [[iA k, iA f]]) il (growH (mrk g w nid k st) il 2 205 (ls.length + 1)) := by
 have O1 := P.own _ _ O
 have lw := P.sim.live.choose_spec.1
 have O2 : Live (mrk g w nid k st) il (.own 2 205 ls.length) := mrk_other P.sim (own_ne lw O1) O1
 have H2 : Sim (growH (mrk g w nid k st) il 2 205 (ls.length + 1)) w els s (upd M k st) st (.rsl nid 0 0 1) := by
  rw [grow_eq]
  refine (mrk_sim P.sim hk).keep fun q l => O2.put l ?_
  rintro rfl
  obtain ⟨cs, l2, _⟩ := (mrk_sim P.sim hk).live
  exact own_ne l2 O2 rfl
 refine Ev.round ok144 first144 tidy144 (can_s g ls _ tidy144) (rd1s (N := fun _ => False) (N' := fun _ => False) (S := fun ls' il' g' => ls' = ls ++ [[iA k, iA f]] ∧ il' = il ∧ g' = growH (mrk g w nid k st) il 2 205 (ls.length + 1)) (S' := fun _ _ _ => False) P.sim P.top rfl hk hM R ho hl hn O1 ⟨rfl, rfl, rfl⟩) ?_ ?_
 ·intro τ hn
  unfold n144 at hn
  split at hn
  ·split at hn
   ·obtain ⟨e1, e2, e3, e4⟩ := hn
    rw [e1, e2, e3, e4]
    exact out144 H2
   ·exact hn.elim
  ·exact hn.2.elim
  ·exact hn.elim
 ·intro ex τ he
  unfold e144 at he
  split at he
  ·obtain ⟨h0, he⟩ := he
   cases h0
   split at he
   ·split at he
    ·exact he.2.elim
    ·exact he.elim
   ·exact he.2.elim
   ·exact he.elim
  ·exact he.elim
theorem loop144n (P : Psh h g w b d nid els s M st bf bt fd k) (hk : k < 4096) (hM : M k ≠ st) (R : RowAt els k op) (ho : op = 1 ∨ op = 6) :
  Ev cfg Tryz.prog 144 (.loop (loopAt Tryz.prog 144 3)) (I144n w f i g) fun ex τ => ex = .exit 0 ∧ τ = E144s [[iA k, iA f]] (mrk g w nid k st).next (newOwnL (mrk g w nid k st) 2 205 1) := by
 have H2 : Sim (newOwnL (mrk g w nid k st) 2 205 1) w els s (upd M k st) st (.rsl nid 0 0 1) := by
  rw [own_new]
  exact (mrk_sim P.sim hk).keep fun q l => l.new
 refine Ev.round ok144 first144 tidy144 (can_n g _ tidy144) (rd1n (N := fun _ => False) (N' := fun _ => False) (S := fun ls' il' g' => ls' = [[iA k, iA f]] ∧ il' = (mrk g w nid k st).next ∧ g' = newOwnL (mrk g w nid k st) 2 205 1) (S' := fun _ _ _ => False) P.sim P.top rfl hk hM R ho ⟨rfl, rfl, rfl⟩) ?_ ?_
 ·intro τ hn
  unfold n144 at hn
  split at hn
  ·split at hn
   ·obtain ⟨e1, e2, e3, e4⟩ := hn
    rw [e1, e2, e3, e4]
    exact out144 H2
   ·exact hn.elim
  ·exact hn.2.elim
  ·exact hn.elim
 ·intro ex τ he
  unfold e144 at he
  split at he
  ·obtain ⟨h0, he⟩ := he
   cases h0
   split at he
   ·split at he
    ·exact he.2.elim
    ·exact he.elim
   ·exact he.2.elim
   ·exact he.elim
  ·exact he.elim
theorem okT144N {w : Nat} {f i : Int} {row : List AV} {g0 G : Heap} {nx : Nat} (h : Ev cfg Tryz.prog 144 (.loop (loopAt Tryz.prog 144 3)) (I144n w f i g0) fun ex τ => ex = .exit 0 ∧ τ = E144s [row] nx G) : Ok (T144N w f i row (fun x => x = g0) fun a x => a = nx ∧ x = G) := by
 refine addL_ok ok144 fun σ s hs hp => ?_
 cases hs
 obtain ⟨h1, h2⟩ := hp
 replace h2 : σ.h = g0 := h2
 rw [h2] at h1
 obtain ⟨m, ex, τ, e, rfl, rfl⟩ := Ev.tidied (t := ⟨[0, 1, 3, 4], [1], 0⟩) (by rw [first144]; exact tidy144) (h1.trans (can_n _ _ tidy144).symm) h
 exact ⟨_, List.mem_singleton.2 rfl, (nx, G), ⟨rfl, rfl⟩, m, e⟩
theorem okT144S {w : Nat} {ls : Rows} {il : Nat} {f i : Int} {row : List AV} {g0 G : Heap} (h : Ev cfg Tryz.prog 144 (.loop (loopAt Tryz.prog 144 3)) (I144s w ls il f i g0) fun ex τ => ex = .exit 0 ∧ τ = E144s (ls ++ [row]) il G) : Ok (T144S w ls il f i row (fun x => x = g0) fun x => x = G) := by
 refine addL_ok ok144 fun σ s hs hp => ?_
 cases hs
 obtain ⟨h1, h2⟩ := hp
 replace h2 : σ.h = g0 := h2
 rw [h2] at h1
 obtain ⟨m, ex, τ, e, rfl, rfl⟩ := Ev.tidied (t := ⟨[0, 1, 3, 4], [1], 0⟩) (by rw [first144]; exact tidy144) (h1.trans (can_s _ _ _ tidy144).symm) h
 exact ⟨_, List.mem_singleton.2 rfl, G, rfl, m, e⟩
theorem psh_rsl {k : Int} {sid : Nat} (H : Mem h w b d els s M st bf bt fd (.rsl sid 0 0 1)) : Psh h (storeIn (appIn h sid 0 0 [[iA k]]) w 4100 [.rsl h.next 0 1 1]) w b d h.next els s M st bf bt fd k := by
 rcases H.stk with h0 | ⟨sid', c, e, L, n1, n2, n3⟩
 ·cases h0
 ·cases e
  exact psh_app H L n1 n2 n3
def pshH (h : Heap) (w : Nat) (sv : AV) (k : Int) : Heap := match sv with
 | .rsl sid _ _ _ => storeIn (appIn h sid 0 0 [[iA k]]) w 4100 [.rsl h.next 0 1 1]
 | _ => storeIn (newIn h (.cells [iA k])) w 4100 [.rsl h.next 0 1 1]
theorem psh_any {k : Int} (H : Mem h w b d els s M st bf bt fd sv) : Psh h (pshH h w sv k) w b d h.next els s M st bf bt fd k := by
 rcases H.stk with rfl | ⟨sid, c, rfl, L, n1, n2, n3⟩
 ·exact psh_nil H
 ·exact psh_rsl H
theorem wp144n {K : AV → Heap → Prop} {row : List AV} {j : Nat} {G : Heap} {nx : Nat} (H : Mem h w b d els s M st bf bt fd sv) (hK : K (.sl [row] (nx + 1)) G) :
  wpCall (T144N w f i row (fun x => x = pshH h w sv j) fun a x => a = nx ∧ x = G) cfg Tryz.prog 100 144 [.ptr w 0, nilA, iA j, iA f, iA i] h K := by
 refine v144n w j f i h row _ _ K ?_
 rcases H.stk with rfl | ⟨sid, c, rfl, L, n1, n2, n3⟩
 ·refine it H.sim.stkN (it ?_ ⟨rfl, ⟨rfl, rfl⟩, fun x hx => ?_⟩)
  ·have S1 : Sim (newIn h (.cells [iA j])) w els s M st nilA := H.sim.keep fun q l => l.new
   exact S1.ok (by show 4100 + 1 ≤ 4101; omega)
  ·obtain ⟨e1, e2⟩ := hx
   rw [e1, e2]; exact hK
 ·obtain ⟨q0, q1, q2, q3, q4⟩ := H.sim.stkR
  rw [q2, q3]
  refine ie q0 (it q1 (it ?_ (it ?_ ⟨rfl, ⟨rfl, rfl⟩, fun x hx => ?_⟩)))
  ·rw [Bool.and_eq_true]
   exact ⟨rfl, app_ok L (Nat.zero_le _)⟩
  ·have S1 : Sim (appIn h sid 0 0 [[iA j]]) w els s M st (.rsl sid 0 0 1) := H.sim.keep fun q l => L.app l n1
   exact S1.ok (by show 4100 + 1 ≤ 4101; omega)
  ·obtain ⟨e1, e2⟩ := hx
   rw [e1, e2]; exact hK
theorem wp144s {K : AV → Heap → Prop} {row : List AV} {j : Nat} {G : Heap} (H : Mem h w b d els s M st bf bt fd sv) (hK : K (.sl (ls ++ [row]) (il + 1)) G) :
  wpCall (T144S w ls il f i row (fun x => x = pshH h w sv j) fun x => x = G) cfg Tryz.prog 100 144 [.ptr w 0, .sl ls (il + 1), iA j, iA f, iA i] h K := by
 refine v144s w ls il j f i h row _ _ K ?_
 rcases H.stk with rfl | ⟨sid, c, rfl, L, n1, n2, n3⟩
 ·refine it H.sim.stkN (it ?_ ⟨rfl, ⟨rfl, rfl⟩, fun x hx => ?_⟩)
  ·have S1 : Sim (newIn h (.cells [iA j])) w els s M st nilA := H.sim.keep fun q l => l.new
   exact S1.ok (by show 4100 + 1 ≤ 4101; omega)
  ·rw [hx]; exact hK
 ·obtain ⟨q0, q1, q2, q3, q4⟩ := H.sim.stkR
  rw [q2, q3]
  refine ie q0 (it q1 (it ?_ (it ?_ ⟨rfl, ⟨rfl, rfl⟩, fun x hx => ?_⟩)))
  ·rw [Bool.and_eq_true]
   exact ⟨rfl, app_ok L (Nat.zero_le _)⟩
  ·have S1 : Sim (appIn h sid 0 0 [[iA j]]) w els s M st (.rsl sid 0 0 1) := H.sim.keep fun q l => L.app l n1
   exact S1.ok (by show 4100 + 1 ≤ 4101; omega)
  ·rw [hx]; exact hK
theorem okC144 {T : Tab} (O : Ok T) : Ok (T.addC 144 C144) := by
 refine addC_ok O fun args h z hs hp => ?_
 unfold C144 at hs
 split at hs
 ·rename_i w k f i
  cases hs
  obtain ⟨b, d, els, s, M, st, bf, bt, fd, sv, op, j, H, rfl, hj, R, ho, hM⟩ := P144.is hp
  obtain ⟨m, v, h', e, rfl, rfl⟩ := call_okW (okT144N (loop144n (psh_any (k := j) H) hj hM R ho)) 100 144 _ h _ (wp144n (K := fun v h' => v = .sl [[iA j, iA f]] ((mrk (pshH h w sv j) w h.next j st).next + 1) ∧ h' = newOwnL (mrk (pshH h w sv j) w h.next j st) 2 205 1) (i := i) H ⟨rfl, rfl⟩)
  refine ⟨_, List.mem_singleton.2 rfl, ((mrk (pshH h w sv j) w h.next j st).next, newOwnL (mrk (pshH h w sv j) w h.next j st) 2 205 1), m, ⟨fun b' d' els' s' M' st' bf' bt' fd' sv' H' => ?_, (fin_n (psh_any (k := j) H) H hj).2⟩, by rw [callP_plain rfl rfl rfl]; exact e⟩
  obtain ⟨rfl, rfl⟩ := H.sim.inj H'.sim
  exact ⟨_, (fin_n (psh_any (k := j) H') H' hj).1⟩
 ·rename_i w ls il k f i
  cases hs
  obtain ⟨b, d, els, s, M, st, bf, bt, fd, sv, op, j, H, rfl, hj, R, ho, hM⟩ := P144.is hp
  have W := P144.own hp il rfl
  have h2 := P144.two hp
  have h3 := P144.le hp
  obtain ⟨m, v, h', e, rfl, rfl⟩ := call_okW (okT144S (loop144s (psh_any (k := j) H) hj hM R ho h2 h3 W)) 100 144 _ h _ (wp144s (K := fun v h' => v = .sl (ls ++ [[iA j, iA f]]) (il + 1) ∧ h' = growH (mrk (pshH h w sv j) w h.next j st) il 2 205 (ls.length + 1)) (i := i) H ⟨rfl, rfl⟩)
  refine ⟨_, List.mem_singleton.2 rfl, growH (mrk (pshH h w sv j) w h.next j st) il 2 205 (ls.length + 1), m, ⟨fun b' d' els' s' M' st' bf' bt' fd' sv' H' => ?_, (fin_s (psh_any (k := j) H) H hj W).2⟩, by rw [callP_plain rfl rfl rfl]; exact e⟩
  obtain ⟨rfl, rfl⟩ := H.sim.inj H'.sim
  exact ⟨_, (fin_s (psh_any (k := j) H') H' hj W).1⟩
 ·cases hs
end
end Go.Proofs.Rl
namespace Go.Proofs.Rl
open Go Go.Ef
noncomputable section
structure SetOf (x : Int × Int × Int × Int) : Prop where
 is : ∃ b, isAl b = true ∧ x = (wd b 0, wd b 1, wd b 2, wd b 3)
structure HasOf (x : Int × Int × Int × Int) (c : Int) (q : Bool) : Prop where
 is : ∀ b, isAl b = true → x = (wd b 0, wd b 1, wd b 2, wd b 3) → q = decide ((b.toNat : Int) = c)
structure ByteI (c : Int) : Prop where
 lo : 0 ≤ c
 hi : c < 256
def C71 (args : List AV) (h : Heap) : Option CSpec :=
 match args with
 | [.agg [.sc (.int .u64 x), .sc (.int .u64 y), .sc (.int .u64 z), .sc (.int .u64 u)], .sc (.int .u8 c)] => some { pre := SetOf (x, y, z, u) ∧ ByteI c, alts := [{ α := Bool, post := fun q => HasOf (x, y, z, u) c q, val := bA, heap := fun _ => h }] }
 | _ => none
structure P146 (h : Heap) (d b : Nat) : Prop where
 is : ∃ bf bt fd, Live h b (.cells [iA bf, iA bt]) ∧ Live h d (.cells [bA fd])
structure Q146 (h : Heap) (d b : Nat) (f : Int) (q : Bool) : Prop where
 is : ∀ bf bt fd, Live h b (.cells [iA bf, iA bt]) → Live h d (.cells [bA fd]) → q = (!fd || decide (f ≤ bf))
def C146 (args : List AV) (h : Heap) : Option CSpec :=
 match args with
 | [.agg [.sc (.int .i64 _), .sc (.int .i64 f)], .ptr d 0, .ptr b 0] => some { pre := P146 h d b, alts := [{ α := Bool, post := fun q => Q146 h d b f q, val := bA, heap := fun _ => h }] }
 | _ => none
def T146 : Tab := Tab.heapy tab0 146
def T145 : Tab := Tab.slices (Tab.heapy (((((((tab0.addC 144 C144).addC 71 C71).addC 146 C146).name 145 32).name 145 36).name 145 57).name 145 60) 145) 145 fun _ => 2
def fnA (d b : Nat) : AV := .fn (.func 146) [] [.ptr d 0, .ptr b 0]
def I145 (out : AV) (w b d : Nat) (i : Int) (ls : Rows) (t : Nat) (n k : Int) (g : Heap) : St := stOf 66 [(0, .v (.ptr w 0)), (2, sInt i), (3, .v (fnA d b)), (9, .v out), (20, .v (.sl ls t)), (21, sInt n), (22, sInt k)] [] g
def E145 (out : AV) (g : Heap) : St := stOf 66 [(9, .v out)] [] g
def n145 (w b d : Nat) (i : Int) (ls : Rows) (t : Nat) (n : Int) (N : Int → Heap → Prop) (S : Rows → Nat → Int → Heap → Prop) (τ : St) : Prop :=
 match τ.at 9 with
 | .v (.sl os t') => match t' with
  | ol + 1 => τ = I145 (.sl os (ol + 1)) w b d i ls t n (slI τ 22) τ.h ∧ S os ol (slI τ 22) τ.h
  | 0 => False
 | .v (.sc _) => τ = I145 nilA w b d i ls t n (slI τ 22) τ.h ∧ N (slI τ 22) τ.h
 | _ => False
def e145 (N : Heap → Prop) (S : Rows → Nat → Heap → Prop) (ex : Ex) (τ : St) : Prop :=
 match ex with
 | .exit _ => ex = .exit 0 ∧ match τ.at 9 with
  | .v (.sl ls t) => match t with
   | il + 1 => τ = E145 (.sl ls (il + 1)) τ.h ∧ S ls il τ.h
   | 0 => False
  | .v (.sc _) => τ = E145 nilA τ.h ∧ N τ.h
  | _ => False
 | _ => False
def T145L (w b d : Nat) (i : Int) (ls : Rows) (t : Nat) (Pre : Heap → Prop) (N : Heap → Prop) (S : Rows → Nat → Heap → Prop) : Tab := T145.addL 145 5 fun σ => some { pre := σ.tidy [0, 2, 3, 9, 20, 21, 22] 0 = I145 nilA w b d i ls t ls.length 0 σ.h ∧ Pre σ.h, alts := [{ α := Heap, post := fun x => N x, ex := .exit 0, st := fun x => E145 nilA x }, { α := Rows × Nat × Heap, post := fun x => S x.1 x.2.1 x.2.2, ex := .exit 0, st := fun x => E145 (.sl x.1 (x.2.1 + 1)) x.2.2 }] }
end
end Go.Proofs.Rl
namespace Go.Proofs.Rl
open Go Go.Ef
noncomputable section
set_option maxRecDepth 100000
theorem v146 (j : Int) (f : Int) (d : Nat) (b : Nat) (g : Heap) (K : AV → Heap → Prop) (h :
 iteP (kdsIn g d (0 : Nat) [Kd.bool])
 (iteP (boolIn g d (0 : Nat))
 (iteP (kdsIn g b (0 : Nat) [Kd.int IntKind.i64])
 (iteP (decide (f ≤ intIn g b (0 : Nat))) (K (AV.sc (Value.bool true)) g) (K (AV.sc (Value.bool false)) g)) False)
 (K (AV.sc (Value.bool true)) g))
 False) :
 (fun (j f : Int) (d b : Nat) (g : Heap) (K : AV → Heap → Prop) => wpCall T146 cfg Tryz.prog 100 146 [.agg [iA j, iA f], .ptr d 0, .ptr b 0] g K) j f d b g K :=
 Eq.mp (by kernel_rfl) h
theorem v145 (w : Nat) (b : Nat) (d : Nat) (i : Int) (ls : Rows) (t : Nat) (Pre : Heap → Prop) (N : Heap → Prop) (S : Rows → Nat → Heap → Prop) (g : Heap) (K : AV → Heap → Prop) (h :
 iteP (kdsIn g w (4099 : Nat) [Kd.int IntKind.i64])
 (iteP
 (okIn g w (4099 : Nat)
 [AV.sc (Value.int IntKind.i64 (IntKind.i64.wrap (intIn g w (4099 : Nat) + (1 : Int))))].length)
 (loopAt Tryz.prog (145 : Nat) (5 : Nat) = loopAt Tryz.prog (145 : Nat) (5 : Nat) ∧
 (I145 (AV.sc (Value.slice none (0 : Nat) (0 : Nat))) w b d i ls t (↑(List.length ls) : Int) (0 : Int)
 (storeIn g w (4099 : Nat)
 [AV.sc (Value.int IntKind.i64 (IntKind.i64.wrap (intIn g w (4099 : Nat) + (1 : Int))))]) =
 I145 (AV.sc (Value.slice none (0 : Nat) (0 : Nat))) w b d i ls t (↑(List.length ls) : Int) (0 : Int)
 (storeIn g w (4099 : Nat)
 [AV.sc (Value.int IntKind.i64 (IntKind.i64.wrap (intIn g w (4099 : Nat) + (1 : Int))))]) ∧
 Pre
 (storeIn g w (4099 : Nat)
 [AV.sc (Value.int IntKind.i64 (IntKind.i64.wrap (intIn g w (4099 : Nat) + (1 : Int))))])) ∧
 (∀ (x : Heap), N x → K (AV.sc (Value.slice none (0 : Nat) (0 : Nat))) x) ∧
 ∀ (x : Rows × Nat × Heap), S x.fst x.snd.fst x.snd.snd → K (AV.sl x.fst (x.snd.fst + (1 : Nat))) x.snd.snd)
 False)
 False) :
 (fun (w b d : Nat) (i : Int) (ls : Rows) (t : Nat) (Pre : Heap → Prop) (N : Heap → Prop) (S : Rows → Nat → Heap → Prop) (g : Heap) (K : AV → Heap → Prop) => wpCall (T145L w b d i ls t Pre N S) cfg Tryz.prog 100 145 [.ptr w 0, .sl ls t, iA i, fnA d b] g K) w b d i ls t Pre N S g K :=
 Eq.mp (by kernel_rfl) h
theorem r145n (w : Nat) (b : Nat) (d : Nat) (i : Int) (ls : Rows) (t : Nat) (n : Int) (k : Int) (g : Heap) (N : Int → Heap → Prop) (S : Rows → Nat → Int → Heap → Prop) (N' : Heap → Prop) (S' : Rows → Nat → Heap → Prop) (h :
 iteP (decide (k < n))
 (iteP (inRange k (List.length ls))
 (getI k.toNat ls =
 some
 [AV.sc (Value.int IntKind.i64 (cellInt ls k (0 : Nat))),
 AV.sc (Value.int IntKind.i64 (cellInt ls k (1 : Nat)))] ∧
 iteP (slIn g w (0 : Nat))
 (∀ (m : Int),
 m = cellInt ls k (0 : Nat) →
 iteP (inRange m (elsIn g w (0 : Nat)).length)
 (getI m.toNat (elsIn g w (0 : Nat)) =
 some
 [AV.sc (Value.int IntKind.i64 (cellInt (elsIn g w (0 : Nat)) m (0 : Nat))),
 AV.sc (Value.int IntKind.u64 (cellInt (elsIn g w (0 : Nat)) m (1 : Nat))),
 AV.sc (Value.int IntKind.u64 (cellInt (elsIn g w (0 : Nat)) m (2 : Nat))),
 AV.sc (Value.int IntKind.u64 (cellInt (elsIn g w (0 : Nat)) m (3 : Nat))),
 AV.sc (Value.int IntKind.u64 (cellInt (elsIn g w (0 : Nat)) m (4 : Nat))),
 AV.sc (Value.int IntKind.i64 (cellInt (elsIn g w (0 : Nat)) m (5 : Nat))),
 AV.sc (Value.int IntKind.i64 (cellInt (elsIn g w (0 : Nat)) m (6 : Nat)))] ∧
 iteP
 (okIn
 (boxIn g (88 : Nat)
 [AV.sc (Value.int IntKind.i64 (0 : Int)), AV.sc (Value.int IntKind.u64 (0 : Int)),
 AV.sc (Value.int IntKind.u64 (0 : Int)), AV.sc (Value.int IntKind.u64 (0 : Int)),
 AV.sc (Value.int IntKind.u64 (0 : Int)), AV.sc (Value.int IntKind.i64 (0 : Int)),
 AV.sc (Value.int IntKind.i64 (0 : Int))])
 g.next (0 : Nat)
 [AV.sc (Value.int IntKind.i64 (cellInt (elsIn g w (0 : Nat)) m (0 : Nat))),
 AV.sc (Value.int IntKind.u64 (cellInt (elsIn g w (0 : Nat)) m (1 : Nat))),
 AV.sc (Value.int IntKind.u64 (cellInt (elsIn g w (0 : Nat)) m (2 : Nat))),
 AV.sc (Value.int IntKind.u64 (cellInt (elsIn g w (0 : Nat)) m (3 : Nat))),
 AV.sc (Value.int IntKind.u64 (cellInt (elsIn g w (0 : Nat)) m (4 : Nat))),
 AV.sc (Value.int IntKind.i64 (cellInt (elsIn g w (0 : Nat)) m (5 : Nat))),
 AV.sc (Value.int IntKind.i64 (cellInt (elsIn g w (0 : Nat)) m (6 : Nat)))].length)
 (iteP
 (kdsIn
 (storeIn
 (boxIn g (88 : Nat)
 [AV.sc (Value.int IntKind.i64 (0 : Int)), AV.sc (Value.int IntKind.u64 (0 : Int)),
 AV.sc (Value.int IntKind.u64 (0 : Int)), AV.sc (Value.int IntKind.u64 (0 : Int)),
 AV.sc (Value.int IntKind.u64 (0 : Int)), AV.sc (Value.int IntKind.i64 (0 : Int)),
 AV.sc (Value.int IntKind.i64 (0 : Int))])
 g.next (0 : Nat)
 [AV.sc (Value.int IntKind.i64 (cellInt (elsIn g w (0 : Nat)) m (0 : Nat))),
 AV.sc (Value.int IntKind.u64 (cellInt (elsIn g w (0 : Nat)) m (1 : Nat))),
 AV.sc (Value.int IntKind.u64 (cellInt (elsIn g w (0 : Nat)) m (2 : Nat))),
 AV.sc (Value.int IntKind.u64 (cellInt (elsIn g w (0 : Nat)) m (3 : Nat))),
 AV.sc (Value.int IntKind.u64 (cellInt (elsIn g w (0 : Nat)) m (4 : Nat))),
 AV.sc (Value.int IntKind.i64 (cellInt (elsIn g w (0 : Nat)) m (5 : Nat))),
 AV.sc (Value.int IntKind.i64 (cellInt (elsIn g w (0 : Nat)) m (6 : Nat)))])
 g.next (0 : Nat) [Kd.int IntKind.i64])
 (∀ (m_1 : Int),
 m_1 =
 intIn
 (storeIn
 (boxIn g (88 : Nat)
 [AV.sc (Value.int IntKind.i64 (0 : Int)), AV.sc (Value.int IntKind.u64 (0 : Int)),
 AV.sc (Value.int IntKind.u64 (0 : Int)), AV.sc (Value.int IntKind.u64 (0 : Int)),
 AV.sc (Value.int IntKind.u64 (0 : Int)), AV.sc (Value.int IntKind.i64 (0 : Int)),
 AV.sc (Value.int IntKind.i64 (0 : Int))])
 g.next (0 : Nat)
 [AV.sc (Value.int IntKind.i64 (cellInt (elsIn g w (0 : Nat)) m (0 : Nat))),
 AV.sc (Value.int IntKind.u64 (cellInt (elsIn g w (0 : Nat)) m (1 : Nat))),
 AV.sc (Value.int IntKind.u64 (cellInt (elsIn g w (0 : Nat)) m (2 : Nat))),
 AV.sc (Value.int IntKind.u64 (cellInt (elsIn g w (0 : Nat)) m (3 : Nat))),
 AV.sc (Value.int IntKind.u64 (cellInt (elsIn g w (0 : Nat)) m (4 : Nat))),
 AV.sc (Value.int IntKind.i64 (cellInt (elsIn g w (0 : Nat)) m (5 : Nat))),
 AV.sc (Value.int IntKind.i64 (cellInt (elsIn g w (0 : Nat)) m (6 : Nat)))])
 g.next (0 : Nat) →
 iteP (m_1 == (1 : Int))
 (P146
 (storeIn
 (boxIn g (88 : Nat)
 [AV.sc (Value.int IntKind.i64 (0 : Int)), AV.sc (Value.int IntKind.u64 (0 : Int)),
 AV.sc (Value.int IntKind.u64 (0 : Int)), AV.sc (Value.int IntKind.u64 (0 : Int)),
 AV.sc (Value.int IntKind.u64 (0 : Int)), AV.sc (Value.int IntKind.i64 (0 : Int)),
 AV.sc (Value.int IntKind.i64 (0 : Int))])
 g.next (0 : Nat)
 [AV.sc (Value.int IntKind.i64 (cellInt (elsIn g w (0 : Nat)) m (0 : Nat))),
 AV.sc (Value.int IntKind.u64 (cellInt (elsIn g w (0 : Nat)) m (1 : Nat))),
 AV.sc (Value.int IntKind.u64 (cellInt (elsIn g w (0 : Nat)) m (2 : Nat))),
 AV.sc (Value.int IntKind.u64 (cellInt (elsIn g w (0 : Nat)) m (3 : Nat))),
 AV.sc (Value.int IntKind.u64 (cellInt (elsIn g w (0 : Nat)) m (4 : Nat))),
 AV.sc (Value.int IntKind.i64 (cellInt (elsIn g w (0 : Nat)) m (5 : Nat))),
 AV.sc (Value.int IntKind.i64 (cellInt (elsIn g w (0 : Nat)) m (6 : Nat)))])
 d b ∧
 ∀ (x : Bool),
 Q146
 (storeIn
 (boxIn g (88 : Nat)
 [AV.sc (Value.int IntKind.i64 (0 : Int)), AV.sc (Value.int IntKind.u64 (0 : Int)),
 AV.sc (Value.int IntKind.u64 (0 : Int)),
 AV.sc (Value.int IntKind.u64 (0 : Int)),
 AV.sc (Value.int IntKind.u64 (0 : Int)),
 AV.sc (Value.int IntKind.i64 (0 : Int)),
 AV.sc (Value.int IntKind.i64 (0 : Int))])
 g.next (0 : Nat)
 [AV.sc (Value.int IntKind.i64 (cellInt (elsIn g w (0 : Nat)) m (0 : Nat))),
 AV.sc (Value.int IntKind.u64 (cellInt (elsIn g w (0 : Nat)) m (1 : Nat))),
 AV.sc (Value.int IntKind.u64 (cellInt (elsIn g w (0 : Nat)) m (2 : Nat))),
 AV.sc (Value.int IntKind.u64 (cellInt (elsIn g w (0 : Nat)) m (3 : Nat))),
 AV.sc (Value.int IntKind.u64 (cellInt (elsIn g w (0 : Nat)) m (4 : Nat))),
 AV.sc (Value.int IntKind.i64 (cellInt (elsIn g w (0 : Nat)) m (5 : Nat))),
 AV.sc (Value.int IntKind.i64 (cellInt (elsIn g w (0 : Nat)) m (6 : Nat)))])
 d b (cellInt ls k (1 : Nat)) x →
 iteP x
 (iteP
 (kdsIn
 (storeIn
 (boxIn g (88 : Nat)
 [AV.sc (Value.int IntKind.i64 (0 : Int)),
 AV.sc (Value.int IntKind.u64 (0 : Int)),
 AV.sc (Value.int IntKind.u64 (0 : Int)),
 AV.sc (Value.int IntKind.u64 (0 : Int)),
 AV.sc (Value.int IntKind.u64 (0 : Int)),
 AV.sc (Value.int IntKind.i64 (0 : Int)),
 AV.sc (Value.int IntKind.i64 (0 : Int))])
 g.next (0 : Nat)
 [AV.sc (Value.int IntKind.i64 (cellInt (elsIn g w (0 : Nat)) m (0 : Nat))),
 AV.sc (Value.int IntKind.u64 (cellInt (elsIn g w (0 : Nat)) m (1 : Nat))),
 AV.sc (Value.int IntKind.u64 (cellInt (elsIn g w (0 : Nat)) m (2 : Nat))),
 AV.sc (Value.int IntKind.u64 (cellInt (elsIn g w (0 : Nat)) m (3 : Nat))),
 AV.sc (Value.int IntKind.u64 (cellInt (elsIn g w (0 : Nat)) m (4 : Nat))),
 AV.sc (Value.int IntKind.i64 (cellInt (elsIn g w (0 : Nat)) m (5 : Nat))),
 AV.sc (Value.int IntKind.i64 (cellInt (elsIn g w (0 : Nat)) m (6 : Nat)))])
 g.next (1 : Nat)
 [[[Kd.int IntKind.u64], [Kd.int IntKind.u64], [Kd.int IntKind.u64],
 [Kd.int IntKind.u64]].flatten].flatten)
 (iteP
 (kdsIn
 (storeIn
 (boxIn g (88 : Nat)
 [AV.sc (Value.int IntKind.i64 (0 : Int)),
 AV.sc (Value.int IntKind.u64 (0 : Int)),
 AV.sc (Value.int IntKind.u64 (0 : Int)),
 AV.sc (Value.int IntKind.u64 (0 : Int)),
 AV.sc (Value.int IntKind.u64 (0 : Int)),
 AV.sc (Value.int IntKind.i64 (0 : Int)),
 AV.sc (Value.int IntKind.i64 (0 : Int))])
 g.next (0 : Nat)
 [AV.sc (Value.int IntKind.i64 (cellInt (elsIn g w (0 : Nat)) m (0 : Nat))),
 AV.sc (Value.int IntKind.u64 (cellInt (elsIn g w (0 : Nat)) m (1 : Nat))),
 AV.sc (Value.int IntKind.u64 (cellInt (elsIn g w (0 : Nat)) m (2 : Nat))),
 AV.sc (Value.int IntKind.u64 (cellInt (elsIn g w (0 : Nat)) m (3 : Nat))),
 AV.sc (Value.int IntKind.u64 (cellInt (elsIn g w (0 : Nat)) m (4 : Nat))),
 AV.sc (Value.int IntKind.i64 (cellInt (elsIn g w (0 : Nat)) m (5 : Nat))),
 AV.sc (Value.int IntKind.i64 (cellInt (elsIn g w (0 : Nat)) m (6 : Nat)))])
 w (2 : Nat) [Kd.str])
 (iteP
 (inRange i
 (txtIn
 (storeIn
 (boxIn g (88 : Nat)
 [AV.sc (Value.int IntKind.i64 (0 : Int)),
 AV.sc (Value.int IntKind.u64 (0 : Int)),
 AV.sc (Value.int IntKind.u64 (0 : Int)),
 AV.sc (Value.int IntKind.u64 (0 : Int)),
 AV.sc (Value.int IntKind.u64 (0 : Int)),
 AV.sc (Value.int IntKind.i64 (0 : Int)),
 AV.sc (Value.int IntKind.i64 (0 : Int))])
 g.next (0 : Nat)
 [AV.sc
 (Value.int IntKind.i64 (cellInt (elsIn g w (0 : Nat)) m (0 : Nat))),
 AV.sc
 (Value.int IntKind.u64 (cellInt (elsIn g w (0 : Nat)) m (1 : Nat))),
 AV.sc
 (Value.int IntKind.u64 (cellInt (elsIn g w (0 : Nat)) m (2 : Nat))),
 AV.sc
 (Value.int IntKind.u64 (cellInt (elsIn g w (0 : Nat)) m (3 : Nat))),
 AV.sc
 (Value.int IntKind.u64 (cellInt (elsIn g w (0 : Nat)) m (4 : Nat))),
 AV.sc
 (Value.int IntKind.i64 (cellInt (elsIn g w (0 : Nat)) m (5 : Nat))),
 AV.sc
 (Value.int IntKind.i64
 (cellInt (elsIn g w (0 : Nat)) m (6 : Nat)))])
 w (2 : Nat)).length)
 ((SetOf
 (intIn
 (storeIn
 (boxIn g (88 : Nat)
 [AV.sc (Value.int IntKind.i64 (0 : Int)),
 AV.sc (Value.int IntKind.u64 (0 : Int)),
 AV.sc (Value.int IntKind.u64 (0 : Int)),
 AV.sc (Value.int IntKind.u64 (0 : Int)),
 AV.sc (Value.int IntKind.u64 (0 : Int)),
 AV.sc (Value.int IntKind.i64 (0 : Int)),
 AV.sc (Value.int IntKind.i64 (0 : Int))])
 g.next (0 : Nat)
 [AV.sc
 (Value.int IntKind.i64
 (cellInt (elsIn g w (0 : Nat)) m (0 : Nat))),
 AV.sc
 (Value.int IntKind.u64
 (cellInt (elsIn g w (0 : Nat)) m (1 : Nat))),
 AV.sc
 (Value.int IntKind.u64
 (cellInt (elsIn g w (0 : Nat)) m (2 : Nat))),
 AV.sc
 (Value.int IntKind.u64
 (cellInt (elsIn g w (0 : Nat)) m (3 : Nat))),
 AV.sc
 (Value.int IntKind.u64
 (cellInt (elsIn g w (0 : Nat)) m (4 : Nat))),
 AV.sc
 (Value.int IntKind.i64
 (cellInt (elsIn g w (0 : Nat)) m (5 : Nat))),
 AV.sc
 (Value.int IntKind.i64
 (cellInt (elsIn g w (0 : Nat)) m (6 : Nat)))])
 g.next (1 : Nat),
 intIn
 (storeIn
 (boxIn g (88 : Nat)
 [AV.sc (Value.int IntKind.i64 (0 : Int)),
 AV.sc (Value.int IntKind.u64 (0 : Int)),
 AV.sc (Value.int IntKind.u64 (0 : Int)),
 AV.sc (Value.int IntKind.u64 (0 : Int)),
 AV.sc (Value.int IntKind.u64 (0 : Int)),
 AV.sc (Value.int IntKind.i64 (0 : Int)),
 AV.sc (Value.int IntKind.i64 (0 : Int))])
 g.next (0 : Nat)
 [AV.sc
 (Value.int IntKind.i64
 (cellInt (elsIn g w (0 : Nat)) m (0 : Nat))),
 AV.sc
 (Value.int IntKind.u64
 (cellInt (elsIn g w (0 : Nat)) m (1 : Nat))),
 AV.sc
 (Value.int IntKind.u64
 (cellInt (elsIn g w (0 : Nat)) m (2 : Nat))),
 AV.sc
 (Value.int IntKind.u64
 (cellInt (elsIn g w (0 : Nat)) m (3 : Nat))),
 AV.sc
 (Value.int IntKind.u64
 (cellInt (elsIn g w (0 : Nat)) m (4 : Nat))),
 AV.sc
 (Value.int IntKind.i64
 (cellInt (elsIn g w (0 : Nat)) m (5 : Nat))),
 AV.sc
 (Value.int IntKind.i64
 (cellInt (elsIn g w (0 : Nat)) m (6 : Nat)))])
 g.next (2 : Nat),
 intIn
 (storeIn
 (boxIn g (88 : Nat)
 [AV.sc (Value.int IntKind.i64 (0 : Int)),
 AV.sc (Value.int IntKind.u64 (0 : Int)),
 AV.sc (Value.int IntKind.u64 (0 : Int)),
 AV.sc (Value.int IntKind.u64 (0 : Int)),
 AV.sc (Value.int IntKind.u64 (0 : Int)),
 AV.sc (Value.int IntKind.i64 (0 : Int)),
 AV.sc (Value.int IntKind.i64 (0 : Int))])
 g.next (0 : Nat)
 [AV.sc
 (Value.int IntKind.i64
 (cellInt (elsIn g w (0 : Nat)) m (0 : Nat))),
 AV.sc
 (Value.int IntKind.u64
 (cellInt (elsIn g w (0 : Nat)) m (1 : Nat))),
 AV.sc
 (Value.int IntKind.u64
 (cellInt (elsIn g w (0 : Nat)) m (2 : Nat))),
 AV.sc
 (Value.int IntKind.u64
 (cellInt (elsIn g w (0 : Nat)) m (3 : Nat))),
 AV.sc
 (Value.int IntKind.u64
 (cellInt (elsIn g w (0 : Nat)) m (4 : Nat))),
 AV.sc
 (Value.int IntKind.i64
 (cellInt (elsIn g w (0 : Nat)) m (5 : Nat))),
 AV.sc
 (Value.int IntKind.i64
 (cellInt (elsIn g w (0 : Nat)) m (6 : Nat)))])
 g.next (3 : Nat),
 intIn
 (storeIn
 (boxIn g (88 : Nat)
 [AV.sc (Value.int IntKind.i64 (0 : Int)),
 AV.sc (Value.int IntKind.u64 (0 : Int)),
 AV.sc (Value.int IntKind.u64 (0 : Int)),
 AV.sc (Value.int IntKind.u64 (0 : Int)),
 AV.sc (Value.int IntKind.u64 (0 : Int)),
 AV.sc (Value.int IntKind.i64 (0 : Int)),
 AV.sc (Value.int IntKind.i64 (0 : Int))])
 g.next (0 : Nat)
 [AV.sc
 (Value.int IntKind.i64
 (cellInt (elsIn g w (0 : Nat)) m (0 : Nat))),
 AV.sc
 (Value.int IntKind.u64
 (cellInt (elsIn g w (0 : Nat)) m (1 : Nat))),
 AV.sc
 (Value.int IntKind.u64
 (cellInt (elsIn g w (0 : Nat)) m (2 : Nat))),
 AV.sc
 (Value.int IntKind.u64
 (cellInt (elsIn g w (0 : Nat)) m (3 : Nat))),
 AV.sc
 (Value.int IntKind.u64
 (cellInt (elsIn g w (0 : Nat)) m (4 : Nat))),
 AV.sc
 (Value.int IntKind.i64
 (cellInt (elsIn g w (0 : Nat)) m (5 : Nat))),
 AV.sc
 (Value.int IntKind.i64
 (cellInt (elsIn g w (0 : Nat)) m (6 : Nat)))])
 g.next (4 : Nat)) ∧
 ByteI
 (byteAt
 (txtIn
 (storeIn
 (boxIn g (88 : Nat)
 [AV.sc (Value.int IntKind.i64 (0 : Int)),
 AV.sc (Value.int IntKind.u64 (0 : Int)),
 AV.sc (Value.int IntKind.u64 (0 : Int)),
 AV.sc (Value.int IntKind.u64 (0 : Int)),
 AV.sc (Value.int IntKind.u64 (0 : Int)),
 AV.sc (Value.int IntKind.i64 (0 : Int)),
 AV.sc (Value.int IntKind.i64 (0 : Int))])
 g.next (0 : Nat)
 [AV.sc
 (Value.int IntKind.i64
 (cellInt (elsIn g w (0 : Nat)) m (0 : Nat))),
 AV.sc
 (Value.int IntKind.u64
 (cellInt (elsIn g w (0 : Nat)) m (1 : Nat))),
 AV.sc
 (Value.int IntKind.u64
 (cellInt (elsIn g w (0 : Nat)) m (2 : Nat))),
 AV.sc
 (Value.int IntKind.u64
 (cellInt (elsIn g w (0 : Nat)) m (3 : Nat))),
 AV.sc
 (Value.int IntKind.u64
 (cellInt (elsIn g w (0 : Nat)) m (4 : Nat))),
 AV.sc
 (Value.int IntKind.i64
 (cellInt (elsIn g w (0 : Nat)) m (5 : Nat))),
 AV.sc
 (Value.int IntKind.i64
 (cellInt (elsIn g w (0 : Nat)) m (6 : Nat)))])
 w (2 : Nat))
 i)) ∧
 ∀ (x : Bool),
 HasOf
 (intIn
 (storeIn
 (boxIn g (88 : Nat)
 [AV.sc (Value.int IntKind.i64 (0 : Int)),
 AV.sc (Value.int IntKind.u64 (0 : Int)),
 AV.sc (Value.int IntKind.u64 (0 : Int)),
 AV.sc (Value.int IntKind.u64 (0 : Int)),
 AV.sc (Value.int IntKind.u64 (0 : Int)),
 AV.sc (Value.int IntKind.i64 (0 : Int)),
 AV.sc (Value.int IntKind.i64 (0 : Int))])
 g.next (0 : Nat)
 [AV.sc
 (Value.int IntKind.i64
 (cellInt (elsIn g w (0 : Nat)) m (0 : Nat))),
 AV.sc
 (Value.int IntKind.u64
 (cellInt (elsIn g w (0 : Nat)) m (1 : Nat))),
 AV.sc
 (Value.int IntKind.u64
 (cellInt (elsIn g w (0 : Nat)) m (2 : Nat))),
 AV.sc
 (Value.int IntKind.u64
 (cellInt (elsIn g w (0 : Nat)) m (3 : Nat))),
 AV.sc
 (Value.int IntKind.u64
 (cellInt (elsIn g w (0 : Nat)) m (4 : Nat))),
 AV.sc
 (Value.int IntKind.i64
 (cellInt (elsIn g w (0 : Nat)) m (5 : Nat))),
 AV.sc
 (Value.int IntKind.i64
 (cellInt (elsIn g w (0 : Nat)) m (6 : Nat)))])
 g.next (1 : Nat),
 intIn
 (storeIn
 (boxIn g (88 : Nat)
 [AV.sc (Value.int IntKind.i64 (0 : Int)),
 AV.sc (Value.int IntKind.u64 (0 : Int)),
 AV.sc (Value.int IntKind.u64 (0 : Int)),
 AV.sc (Value.int IntKind.u64 (0 : Int)),
 AV.sc (Value.int IntKind.u64 (0 : Int)),
 AV.sc (Value.int IntKind.i64 (0 : Int)),
 AV.sc (Value.int IntKind.i64 (0 : Int))])
 g.next (0 : Nat)
 [AV.sc
 (Value.int IntKind.i64
 (cellInt (elsIn g w (0 : Nat)) m (0 : Nat))),
 AV.sc
 (Value.int IntKind.u64
 (cellInt (elsIn g w (0 : Nat)) m (1 : Nat))),
 AV.sc
 (Value.int IntKind.u64
 (cellInt (elsIn g w (0 : Nat)) m (2 : Nat))),
 AV.sc
 (Value.int IntKind.u64
 (cellInt (elsIn g w (0 : Nat)) m (3 : Nat))),
 AV.sc
 (Value.int IntKind.u64
 (cellInt (elsIn g w (0 : Nat)) m (4 : Nat))),
 AV.sc
 (Value.int IntKind.i64
 (cellInt (elsIn g w (0 : Nat)) m (5 : Nat))),
 AV.sc
 (Value.int IntKind.i64
 (cellInt (elsIn g w (0 : Nat)) m (6 : Nat)))])
 g.next (2 : Nat),
 intIn
 (storeIn
 (boxIn g (88 : Nat)
 [AV.sc (Value.int IntKind.i64 (0 : Int)),
 AV.sc (Value.int IntKind.u64 (0 : Int)),
 AV.sc (Value.int IntKind.u64 (0 : Int)),
 AV.sc (Value.int IntKind.u64 (0 : Int)),
 AV.sc (Value.int IntKind.u64 (0 : Int)),
 AV.sc (Value.int IntKind.i64 (0 : Int)),
 AV.sc (Value.int IntKind.i64 (0 : Int))])
 g.next (0 : Nat)
 [AV.sc
 (Value.int IntKind.i64
 (cellInt (elsIn g w (0 : Nat)) m (0 : Nat))),
 AV.sc
 (Value.int IntKind.u64
 (cellInt (elsIn g w (0 : Nat)) m (1 : Nat))),
 AV.sc
 (Value.int IntKind.u64
 (cellInt (elsIn g w (0 : Nat)) m (2 : Nat))),
 AV.sc
 (Value.int IntKind.u64
 (cellInt (elsIn g w (0 : Nat)) m (3 : Nat))),
 AV.sc
 (Value.int IntKind.u64
 (cellInt (elsIn g w (0 : Nat)) m (4 : Nat))),
 AV.sc
 (Value.int IntKind.i64
 (cellInt (elsIn g w (0 : Nat)) m (5 : Nat))),
 AV.sc
 (Value.int IntKind.i64
 (cellInt (elsIn g w (0 : Nat)) m (6 : Nat)))])
 g.next (3 : Nat),
 intIn
 (storeIn
 (boxIn g (88 : Nat)
 [AV.sc (Value.int IntKind.i64 (0 : Int)),
 AV.sc (Value.int IntKind.u64 (0 : Int)),
 AV.sc (Value.int IntKind.u64 (0 : Int)),
 AV.sc (Value.int IntKind.u64 (0 : Int)),
 AV.sc (Value.int IntKind.u64 (0 : Int)),
 AV.sc (Value.int IntKind.i64 (0 : Int)),
 AV.sc (Value.int IntKind.i64 (0 : Int))])
 g.next (0 : Nat)
 [AV.sc
 (Value.int IntKind.i64
 (cellInt (elsIn g w (0 : Nat)) m (0 : Nat))),
 AV.sc
 (Value.int IntKind.u64
 (cellInt (elsIn g w (0 : Nat)) m (1 : Nat))),
 AV.sc
 (Value.int IntKind.u64
 (cellInt (elsIn g w (0 : Nat)) m (2 : Nat))),
 AV.sc
 (Value.int IntKind.u64
 (cellInt (elsIn g w (0 : Nat)) m (3 : Nat))),
 AV.sc
 (Value.int IntKind.u64
 (cellInt (elsIn g w (0 : Nat)) m (4 : Nat))),
 AV.sc
 (Value.int IntKind.i64
 (cellInt (elsIn g w (0 : Nat)) m (5 : Nat))),
 AV.sc
 (Value.int IntKind.i64
 (cellInt (elsIn g w (0 : Nat)) m (6 : Nat)))])
 g.next (4 : Nat))
 (byteAt
 (txtIn
 (storeIn
 (boxIn g (88 : Nat)
 [AV.sc (Value.int IntKind.i64 (0 : Int)),
 AV.sc (Value.int IntKind.u64 (0 : Int)),
 AV.sc (Value.int IntKind.u64 (0 : Int)),
 AV.sc (Value.int IntKind.u64 (0 : Int)),
 AV.sc (Value.int IntKind.u64 (0 : Int)),
 AV.sc (Value.int IntKind.i64 (0 : Int)),
 AV.sc (Value.int IntKind.i64 (0 : Int))])
 g.next (0 : Nat)
 [AV.sc
 (Value.int IntKind.i64
 (cellInt (elsIn g w (0 : Nat)) m (0 : Nat))),
 AV.sc
 (Value.int IntKind.u64
 (cellInt (elsIn g w (0 : Nat)) m (1 : Nat))),
 AV.sc
 (Value.int IntKind.u64
 (cellInt (elsIn g w (0 : Nat)) m (2 : Nat))),
 AV.sc
 (Value.int IntKind.u64
 (cellInt (elsIn g w (0 : Nat)) m (3 : Nat))),
 AV.sc
 (Value.int IntKind.u64
 (cellInt (elsIn g w (0 : Nat)) m (4 : Nat))),
 AV.sc
 (Value.int IntKind.i64
 (cellInt (elsIn g w (0 : Nat)) m (5 : Nat))),
 AV.sc
 (Value.int IntKind.i64
 (cellInt (elsIn g w (0 : Nat)) m (6 : Nat)))])
 w (2 : Nat))
 i)
 x →
 iteP x
 (∀ (m_2 : Int),
 m_2 = cellInt ls k (0 : Nat) →
 ∀ (m_3 : Int),
 m_3 = cellInt ls k (1 : Nat) →
 P144
 (storeIn
 (boxIn g (88 : Nat)
 [AV.sc (Value.int IntKind.i64 (0 : Int)),
 AV.sc (Value.int IntKind.u64 (0 : Int)),
 AV.sc (Value.int IntKind.u64 (0 : Int)),
 AV.sc (Value.int IntKind.u64 (0 : Int)),
 AV.sc (Value.int IntKind.u64 (0 : Int)),
 AV.sc (Value.int IntKind.i64 (0 : Int)),
 AV.sc (Value.int IntKind.i64 (0 : Int))])
 g.next (0 : Nat)
 [AV.sc
 (Value.int IntKind.i64
 (cellInt (elsIn g w (0 : Nat)) m (0 : Nat))),
 AV.sc
 (Value.int IntKind.u64
 (cellInt (elsIn g w (0 : Nat)) m (1 : Nat))),
 AV.sc
 (Value.int IntKind.u64
 (cellInt (elsIn g w (0 : Nat)) m (2 : Nat))),
 AV.sc
 (Value.int IntKind.u64
 (cellInt (elsIn g w (0 : Nat)) m (3 : Nat))),
 AV.sc
 (Value.int IntKind.u64
 (cellInt (elsIn g w (0 : Nat)) m (4 : Nat))),
 AV.sc
 (Value.int IntKind.i64
 (cellInt (elsIn g w (0 : Nat)) m (5 : Nat))),
 AV.sc
 (Value.int IntKind.i64
 (cellInt (elsIn g w (0 : Nat)) m (6 : Nat)))])
 w (IntKind.i64.wrap (m_2 + (1 : Int))) [] none ∧
 ∀ (x : Nat × Heap),
 Q144
 (storeIn
 (boxIn g (88 : Nat)
 [AV.sc (Value.int IntKind.i64 (0 : Int)),
 AV.sc (Value.int IntKind.u64 (0 : Int)),
 AV.sc (Value.int IntKind.u64 (0 : Int)),
 AV.sc (Value.int IntKind.u64 (0 : Int)),
 AV.sc (Value.int IntKind.u64 (0 : Int)),
 AV.sc (Value.int IntKind.i64 (0 : Int)),
 AV.sc (Value.int IntKind.i64 (0 : Int))])
 g.next (0 : Nat)
 [AV.sc
 (Value.int IntKind.i64
 (cellInt (elsIn g w (0 : Nat)) m (0 : Nat))),
 AV.sc
 (Value.int IntKind.u64
 (cellInt (elsIn g w (0 : Nat)) m (1 : Nat))),
 AV.sc
 (Value.int IntKind.u64
 (cellInt (elsIn g w (0 : Nat)) m (2 : Nat))),
 AV.sc
 (Value.int IntKind.u64
 (cellInt (elsIn g w (0 : Nat)) m (3 : Nat))),
 AV.sc
 (Value.int IntKind.u64
 (cellInt (elsIn g w (0 : Nat)) m (4 : Nat))),
 AV.sc
 (Value.int IntKind.i64
 (cellInt (elsIn g w (0 : Nat)) m (5 : Nat))),
 AV.sc
 (Value.int IntKind.i64
 (cellInt (elsIn g w (0 : Nat)) m (6 : Nat)))])
 w (IntKind.i64.wrap (m_2 + (1 : Int))) x.fst (1 : Nat)
 x.snd →
 I145
 (AV.sl
 [[AV.sc
 (Value.int IntKind.i64
 (IntKind.i64.wrap (m_2 + (1 : Int)))),
 AV.sc (Value.int IntKind.i64 m_3)]]
 (x.fst + (1 : Nat)))
 w b d i ls t n (IntKind.i64.wrap (k + (1 : Int)))
 x.snd =
 I145
 (AV.sl
 [[AV.sc
 (Value.int IntKind.i64
 (IntKind.i64.wrap (m_2 + (1 : Int)))),
 AV.sc (Value.int IntKind.i64 m_3)]]
 (x.fst + (1 : Nat)))
 w b d i ls t n (IntKind.i64.wrap (k + (1 : Int)))
 x.snd ∧
 S
 [[AV.sc
 (Value.int IntKind.i64
 (IntKind.i64.wrap (m_2 + (1 : Int)))),
 AV.sc (Value.int IntKind.i64 m_3)]]
 x.fst (IntKind.i64.wrap (k + (1 : Int))) x.snd)
 (I145 (AV.sc (Value.slice none (0 : Nat) (0 : Nat))) w b d i ls t n
 (IntKind.i64.wrap (k + (1 : Int)))
 (storeIn
 (boxIn g (88 : Nat)
 [AV.sc (Value.int IntKind.i64 (0 : Int)),
 AV.sc (Value.int IntKind.u64 (0 : Int)),
 AV.sc (Value.int IntKind.u64 (0 : Int)),
 AV.sc (Value.int IntKind.u64 (0 : Int)),
 AV.sc (Value.int IntKind.u64 (0 : Int)),
 AV.sc (Value.int IntKind.i64 (0 : Int)),
 AV.sc (Value.int IntKind.i64 (0 : Int))])
 g.next (0 : Nat)
 [AV.sc
 (Value.int IntKind.i64
 (cellInt (elsIn g w (0 : Nat)) m (0 : Nat))),
 AV.sc
 (Value.int IntKind.u64
 (cellInt (elsIn g w (0 : Nat)) m (1 : Nat))),
 AV.sc
 (Value.int IntKind.u64
 (cellInt (elsIn g w (0 : Nat)) m (2 : Nat))),
 AV.sc
 (Value.int IntKind.u64
 (cellInt (elsIn g w (0 : Nat)) m (3 : Nat))),
 AV.sc
 (Value.int IntKind.u64
 (cellInt (elsIn g w (0 : Nat)) m (4 : Nat))),
 AV.sc
 (Value.int IntKind.i64
 (cellInt (elsIn g w (0 : Nat)) m (5 : Nat))),
 AV.sc
 (Value.int IntKind.i64
 (cellInt (elsIn g w (0 : Nat)) m (6 : Nat)))]) =
 I145 (AV.sc (Value.slice none (0 : Nat) (0 : Nat))) w b d i ls t n
 (IntKind.i64.wrap (k + (1 : Int)))
 (storeIn
 (boxIn g (88 : Nat)
 [AV.sc (Value.int IntKind.i64 (0 : Int)),
 AV.sc (Value.int IntKind.u64 (0 : Int)),
 AV.sc (Value.int IntKind.u64 (0 : Int)),
 AV.sc (Value.int IntKind.u64 (0 : Int)),
 AV.sc (Value.int IntKind.u64 (0 : Int)),
 AV.sc (Value.int IntKind.i64 (0 : Int)),
 AV.sc (Value.int IntKind.i64 (0 : Int))])
 g.next (0 : Nat)
 [AV.sc
 (Value.int IntKind.i64
 (cellInt (elsIn g w (0 : Nat)) m (0 : Nat))),
 AV.sc
 (Value.int IntKind.u64
 (cellInt (elsIn g w (0 : Nat)) m (1 : Nat))),
 AV.sc
 (Value.int IntKind.u64
 (cellInt (elsIn g w (0 : Nat)) m (2 : Nat))),
 AV.sc
 (Value.int IntKind.u64
 (cellInt (elsIn g w (0 : Nat)) m (3 : Nat))),
 AV.sc
 (Value.int IntKind.u64
 (cellInt (elsIn g w (0 : Nat)) m (4 : Nat))),
 AV.sc
 (Value.int IntKind.i64
 (cellInt (elsIn g w (0 : Nat)) m (5 : Nat))),
 AV.sc
 (Value.int IntKind.i64
 (cellInt (elsIn g w (0 : Nat)) m (6 : Nat)))]) ∧
 N (IntKind.i64.wrap (k + (1 : Int)))
 (storeIn
 (boxIn g (88 : Nat)
 [AV.sc (Value.int IntKind.i64 (0 : Int)),
 AV.sc (Value.int IntKind.u64 (0 : Int)),
 AV.sc (Value.int IntKind.u64 (0 : Int)),
 AV.sc (Value.int IntKind.u64 (0 : Int)),
 AV.sc (Value.int IntKind.u64 (0 : Int)),
 AV.sc (Value.int IntKind.i64 (0 : Int)),
 AV.sc (Value.int IntKind.i64 (0 : Int))])
 g.next (0 : Nat)
 [AV.sc
 (Value.int IntKind.i64
 (cellInt (elsIn g w (0 : Nat)) m (0 : Nat))),
 AV.sc
 (Value.int IntKind.u64
 (cellInt (elsIn g w (0 : Nat)) m (1 : Nat))),
 AV.sc
 (Value.int IntKind.u64
 (cellInt (elsIn g w (0 : Nat)) m (2 : Nat))),
 AV.sc
 (Value.int IntKind.u64
 (cellInt (elsIn g w (0 : Nat)) m (3 : Nat))),
 AV.sc
 (Value.int IntKind.u64
 (cellInt (elsIn g w (0 : Nat)) m (4 : Nat))),
 AV.sc
 (Value.int IntKind.i64
 (cellInt (elsIn g w (0 : Nat)) m (5 : Nat))),
 AV.sc
 (Value.int IntKind.i64
 (cellInt (elsIn g w (0 : Nat)) m (6 : Nat)))])))
 False)
 False)
 False)
 (I145 (AV.sc (Value.slice none (0 : Nat) (0 : Nat))) w b d i ls t n
 (IntKind.i64.wrap (k + (1 : Int)))
 (storeIn
 (boxIn g (88 : Nat)
 [AV.sc (Value.int IntKind.i64 (0 : Int)),
 AV.sc (Value.int IntKind.u64 (0 : Int)),
 AV.sc (Value.int IntKind.u64 (0 : Int)),
 AV.sc (Value.int IntKind.u64 (0 : Int)),
 AV.sc (Value.int IntKind.u64 (0 : Int)),
 AV.sc (Value.int IntKind.i64 (0 : Int)),
 AV.sc (Value.int IntKind.i64 (0 : Int))])
 g.next (0 : Nat)
 [AV.sc (Value.int IntKind.i64 (cellInt (elsIn g w (0 : Nat)) m (0 : Nat))),
 AV.sc (Value.int IntKind.u64 (cellInt (elsIn g w (0 : Nat)) m (1 : Nat))),
 AV.sc (Value.int IntKind.u64 (cellInt (elsIn g w (0 : Nat)) m (2 : Nat))),
 AV.sc (Value.int IntKind.u64 (cellInt (elsIn g w (0 : Nat)) m (3 : Nat))),
 AV.sc (Value.int IntKind.u64 (cellInt (elsIn g w (0 : Nat)) m (4 : Nat))),
 AV.sc (Value.int IntKind.i64 (cellInt (elsIn g w (0 : Nat)) m (5 : Nat))),
 AV.sc
 (Value.int IntKind.i64 (cellInt (elsIn g w (0 : Nat)) m (6 : Nat)))]) =
 I145 (AV.sc (Value.slice none (0 : Nat) (0 : Nat))) w b d i ls t n
 (IntKind.i64.wrap (k + (1 : Int)))
 (storeIn
 (boxIn g (88 : Nat)
 [AV.sc (Value.int IntKind.i64 (0 : Int)),
 AV.sc (Value.int IntKind.u64 (0 : Int)),
 AV.sc (Value.int IntKind.u64 (0 : Int)),
 AV.sc (Value.int IntKind.u64 (0 : Int)),
 AV.sc (Value.int IntKind.u64 (0 : Int)),
 AV.sc (Value.int IntKind.i64 (0 : Int)),
 AV.sc (Value.int IntKind.i64 (0 : Int))])
 g.next (0 : Nat)
 [AV.sc (Value.int IntKind.i64 (cellInt (elsIn g w (0 : Nat)) m (0 : Nat))),
 AV.sc (Value.int IntKind.u64 (cellInt (elsIn g w (0 : Nat)) m (1 : Nat))),
 AV.sc (Value.int IntKind.u64 (cellInt (elsIn g w (0 : Nat)) m (2 : Nat))),
 AV.sc (Value.int IntKind.u64 (cellInt (elsIn g w (0 : Nat)) m (3 : Nat))),
 AV.sc (Value.int IntKind.u64 (cellInt (elsIn g w (0 : Nat)) m (4 : Nat))),
 AV.sc (Value.int IntKind.i64 (cellInt (elsIn g w (0 : Nat)) m (5 : Nat))),
 AV.sc
 (Value.int IntKind.i64 (cellInt (elsIn g w (0 : Nat)) m (6 : Nat)))]) ∧
 N (IntKind.i64.wrap (k + (1 : Int)))
 (storeIn
 (boxIn g (88 : Nat)
 [AV.sc (Value.int IntKind.i64 (0 : Int)),
 AV.sc (Value.int IntKind.u64 (0 : Int)),
 AV.sc (Value.int IntKind.u64 (0 : Int)),
 AV.sc (Value.int IntKind.u64 (0 : Int)),
 AV.sc (Value.int IntKind.u64 (0 : Int)),
 AV.sc (Value.int IntKind.i64 (0 : Int)),
 AV.sc (Value.int IntKind.i64 (0 : Int))])
 g.next (0 : Nat)
 [AV.sc (Value.int IntKind.i64 (cellInt (elsIn g w (0 : Nat)) m (0 : Nat))),
 AV.sc (Value.int IntKind.u64 (cellInt (elsIn g w (0 : Nat)) m (1 : Nat))),
 AV.sc (Value.int IntKind.u64 (cellInt (elsIn g w (0 : Nat)) m (2 : Nat))),
 AV.sc (Value.int IntKind.u64 (cellInt (elsIn g w (0 : Nat)) m (3 : Nat))),
 AV.sc (Value.int IntKind.u64 (cellInt (elsIn g w (0 : Nat)) m (4 : Nat))),
 AV.sc (Value.int IntKind.i64 (cellInt (elsIn g w (0 : Nat)) m (5 : Nat))),
 AV.sc (Value.int IntKind.i64 (cellInt (elsIn g w (0 : Nat)) m (6 : Nat)))])))
 (I145 (AV.sc (Value.slice none (0 : Nat) (0 : Nat))) w b d i ls t n
 (IntKind.i64.wrap (k + (1 : Int)))
 (storeIn
 (boxIn g (88 : Nat)
 [AV.sc (Value.int IntKind.i64 (0 : Int)), AV.sc (Value.int IntKind.u64 (0 : Int)),
 AV.sc (Value.int IntKind.u64 (0 : Int)), AV.sc (Value.int IntKind.u64 (0 : Int)),
 AV.sc (Value.int IntKind.u64 (0 : Int)), AV.sc (Value.int IntKind.i64 (0 : Int)),
 AV.sc (Value.int IntKind.i64 (0 : Int))])
 g.next (0 : Nat)
 [AV.sc (Value.int IntKind.i64 (cellInt (elsIn g w (0 : Nat)) m (0 : Nat))),
 AV.sc (Value.int IntKind.u64 (cellInt (elsIn g w (0 : Nat)) m (1 : Nat))),
 AV.sc (Value.int IntKind.u64 (cellInt (elsIn g w (0 : Nat)) m (2 : Nat))),
 AV.sc (Value.int IntKind.u64 (cellInt (elsIn g w (0 : Nat)) m (3 : Nat))),
 AV.sc (Value.int IntKind.u64 (cellInt (elsIn g w (0 : Nat)) m (4 : Nat))),
 AV.sc (Value.int IntKind.i64 (cellInt (elsIn g w (0 : Nat)) m (5 : Nat))),
 AV.sc (Value.int IntKind.i64 (cellInt (elsIn g w (0 : Nat)) m (6 : Nat)))]) =
 I145 (AV.sc (Value.slice none (0 : Nat) (0 : Nat))) w b d i ls t n
 (IntKind.i64.wrap (k + (1 : Int)))
 (storeIn
 (boxIn g (88 : Nat)
 [AV.sc (Value.int IntKind.i64 (0 : Int)), AV.sc (Value.int IntKind.u64 (0 : Int)),
 AV.sc (Value.int IntKind.u64 (0 : Int)), AV.sc (Value.int IntKind.u64 (0 : Int)),
 AV.sc (Value.int IntKind.u64 (0 : Int)), AV.sc (Value.int IntKind.i64 (0 : Int)),
 AV.sc (Value.int IntKind.i64 (0 : Int))])
 g.next (0 : Nat)
 [AV.sc (Value.int IntKind.i64 (cellInt (elsIn g w (0 : Nat)) m (0 : Nat))),
 AV.sc (Value.int IntKind.u64 (cellInt (elsIn g w (0 : Nat)) m (1 : Nat))),
 AV.sc (Value.int IntKind.u64 (cellInt (elsIn g w (0 : Nat)) m (2 : Nat))),
 AV.sc (Value.int IntKind.u64 (cellInt (elsIn g w (0 : Nat)) m (3 : Nat))),
 AV.sc (Value.int IntKind.u64 (cellInt (elsIn g w (0 : Nat)) m (4 : Nat))),
 AV.sc (Value.int IntKind.i64 (cellInt (elsIn g w (0 : Nat)) m (5 : Nat))),
 AV.sc (Value.int IntKind.i64 (cellInt (elsIn g w (0 : Nat)) m (6 : Nat)))]) ∧
 N (IntKind.i64.wrap (k + (1 : Int)))
 (storeIn
 (boxIn g (88 : Nat)
 [AV.sc (Value.int IntKind.i64 (0 : Int)), AV.sc (Value.int IntKind.u64 (0 : Int)),
 AV.sc (Value.int IntKind.u64 (0 : Int)), AV.sc (Value.int IntKind.u64 (0 : Int)),
 AV.sc (Value.int IntKind.u64 (0 : Int)), AV.sc (Value.int IntKind.i64 (0 : Int)),
 AV.sc (Value.int IntKind.i64 (0 : Int))])
 g.next (0 : Nat)
 [AV.sc (Value.int IntKind.i64 (cellInt (elsIn g w (0 : Nat)) m (0 : Nat))),
 AV.sc (Value.int IntKind.u64 (cellInt (elsIn g w (0 : Nat)) m (1 : Nat))),
 AV.sc (Value.int IntKind.u64 (cellInt (elsIn g w (0 : Nat)) m (2 : Nat))),
 AV.sc (Value.int IntKind.u64 (cellInt (elsIn g w (0 : Nat)) m (3 : Nat))),
 AV.sc (Value.int IntKind.u64 (cellInt (elsIn g w (0 : Nat)) m (4 : Nat))),
 AV.sc (Value.int IntKind.i64 (cellInt (elsIn g w (0 : Nat)) m (5 : Nat))),
 AV.sc (Value.int IntKind.i64 (cellInt (elsIn g w (0 : Nat)) m (6 : Nat)))])))
 False)
 False)
 False)
 False)
 False)
 (Ex.exit (0 : Nat) = Ex.exit (0 : Nat) ∧
 E145 (AV.sc (Value.slice none (0 : Nat) (0 : Nat))) g = E145 (AV.sc (Value.slice none (0 : Nat) (0 : Nat))) g ∧
 N' g)) :
 (fun (w b d : Nat) (i : Int) (ls : Rows) (t : Nat) (n k : Int) (g : Heap) (N : Int → Heap → Prop) (S : Rows → Nat → Int → Heap → Prop) (N' : Heap → Prop) (S' : Rows → Nat → Heap → Prop) => wpRound T145 cfg Tryz.prog 100 145 5 (I145 nilA w b d i ls t n k g) (n145 w b d i ls t n N S) (e145 N' S')) w b d i ls t n k g N S N' S' :=
 Eq.mp (by kernel_rfl) h
theorem r145s (w : Nat) (b : Nat) (d : Nat) (i : Int) (ls : Rows) (t : Nat) (n : Int) (k : Int) (os : Rows) (ol : Nat) (g : Heap) (N : Int → Heap → Prop) (S : Rows → Nat → Int → Heap → Prop) (N' : Heap → Prop) (S' : Rows → Nat → Heap → Prop) (h :
 iteP (decide (k < n))
 (iteP (inRange k (List.length ls))
 (getI k.toNat ls =
 some
 [AV.sc (Value.int IntKind.i64 (cellInt ls k (0 : Nat))),
 AV.sc (Value.int IntKind.i64 (cellInt ls k (1 : Nat)))] ∧
 iteP (slIn g w (0 : Nat))
 (∀ (m : Int),
 m = cellInt ls k (0 : Nat) →
 iteP (inRange m (elsIn g w (0 : Nat)).length)
 (getI m.toNat (elsIn g w (0 : Nat)) =
 some
 [AV.sc (Value.int IntKind.i64 (cellInt (elsIn g w (0 : Nat)) m (0 : Nat))),
 AV.sc (Value.int IntKind.u64 (cellInt (elsIn g w (0 : Nat)) m (1 : Nat))),
 AV.sc (Value.int IntKind.u64 (cellInt (elsIn g w (0 : Nat)) m (2 : Nat))),
 AV.sc (Value.int IntKind.u64 (cellInt (elsIn g w (0 : Nat)) m (3 : Nat))),
 AV.sc (Value.int IntKind.u64 (cellInt (elsIn g w (0 : Nat)) m (4 : Nat))),
 AV.sc (Value.int IntKind.i64 (cellInt (elsIn g w (0 : Nat)) m (5 : Nat))),
 AV.sc (Value.int IntKind.i64 (cellInt (elsIn g w (0 : Nat)) m (6 : Nat)))] ∧
 iteP
 (okIn
 (boxIn g (88 : Nat)
 [AV.sc (Value.int IntKind.i64 (0 : Int)), AV.sc (Value.int IntKind.u64 (0 : Int)),
 AV.sc (Value.int IntKind.u64 (0 : Int)), AV.sc (Value.int IntKind.u64 (0 : Int)),
 AV.sc (Value.int IntKind.u64 (0 : Int)), AV.sc (Value.int IntKind.i64 (0 : Int)),
 AV.sc (Value.int IntKind.i64 (0 : Int))])
 g.next (0 : Nat)
 [AV.sc (Value.int IntKind.i64 (cellInt (elsIn g w (0 : Nat)) m (0 : Nat))),
 AV.sc (Value.int IntKind.u64 (cellInt (elsIn g w (0 : Nat)) m (1 : Nat))),
 AV.sc (Value.int IntKind.u64 (cellInt (elsIn g w (0 : Nat)) m (2 : Nat))),
 AV.sc (Value.int IntKind.u64 (cellInt (elsIn g w (0 : Nat)) m (3 : Nat))),
 AV.sc (Value.int IntKind.u64 (cellInt (elsIn g w (0 : Nat)) m (4 : Nat))),
 AV.sc (Value.int IntKind.i64 (cellInt (elsIn g w (0 : Nat)) m (5 : Nat))),
 AV.sc (Value.int IntKind.i64 (cellInt (elsIn g w (0 : Nat)) m (6 : Nat)))].length)
 (iteP
 (kdsIn
 (storeIn
 (boxIn g (88 : Nat)
 [AV.sc (Value.int IntKind.i64 (0 : Int)), AV.sc (Value.int IntKind.u64 (0 : Int)),
 AV.sc (Value.int IntKind.u64 (0 : Int)), AV.sc (Value.int IntKind.u64 (0 : Int)),
 AV.sc (Value.int IntKind.u64 (0 : Int)), AV.sc (Value.int IntKind.i64 (0 : Int)),
 AV.sc (Value.int IntKind.i64 (0 : Int))])
 g.next (0 : Nat)
 [AV.sc (Value.int IntKind.i64 (cellInt (elsIn g w (0 : Nat)) m (0 : Nat))),
 AV.sc (Value.int IntKind.u64 (cellInt (elsIn g w (0 : Nat)) m (1 : Nat))),
 AV.sc (Value.int IntKind.u64 (cellInt (elsIn g w (0 : Nat)) m (2 : Nat))),
 AV.sc (Value.int IntKind.u64 (cellInt (elsIn g w (0 : Nat)) m (3 : Nat))),
 AV.sc (Value.int IntKind.u64 (cellInt (elsIn g w (0 : Nat)) m (4 : Nat))),
 AV.sc (Value.int IntKind.i64 (cellInt (elsIn g w (0 : Nat)) m (5 : Nat))),
 AV.sc (Value.int IntKind.i64 (cellInt (elsIn g w (0 : Nat)) m (6 : Nat)))])
 g.next (0 : Nat) [Kd.int IntKind.i64])
 (∀ (m_1 : Int),
 m_1 =
 intIn
 (storeIn
 (boxIn g (88 : Nat)
 [AV.sc (Value.int IntKind.i64 (0 : Int)), AV.sc (Value.int IntKind.u64 (0 : Int)),
 AV.sc (Value.int IntKind.u64 (0 : Int)), AV.sc (Value.int IntKind.u64 (0 : Int)),
 AV.sc (Value.int IntKind.u64 (0 : Int)), AV.sc (Value.int IntKind.i64 (0 : Int)),
 AV.sc (Value.int IntKind.i64 (0 : Int))])
 g.next (0 : Nat)
 [AV.sc (Value.int IntKind.i64 (cellInt (elsIn g w (0 : Nat)) m (0 : Nat))),
 AV.sc (Value.int IntKind.u64 (cellInt (elsIn g w (0 : Nat)) m (1 : Nat))),
 AV.sc (Value.int IntKind.u64 (cellInt (elsIn g w (0 : Nat)) m (2 : Nat))),
 AV.sc (Value.int IntKind.u64 (cellInt (elsIn g w (0 : Nat)) m (3 : Nat))),
 AV.sc (Value.int IntKind.u64 (cellInt (elsIn g w (0 : Nat)) m (4 : Nat))),
 AV.sc (Value.int IntKind.i64 (cellInt (elsIn g w (0 : Nat)) m (5 : Nat))),
 AV.sc (Value.int IntKind.i64 (cellInt (elsIn g w (0 : Nat)) m (6 : Nat)))])
 g.next (0 : Nat) →
 iteP (m_1 == (1 : Int))
 (P146
 (storeIn
 (boxIn g (88 : Nat)
 [AV.sc (Value.int IntKind.i64 (0 : Int)), AV.sc (Value.int IntKind.u64 (0 : Int)),
 AV.sc (Value.int IntKind.u64 (0 : Int)), AV.sc (Value.int IntKind.u64 (0 : Int)),
 AV.sc (Value.int IntKind.u64 (0 : Int)), AV.sc (Value.int IntKind.i64 (0 : Int)),
 AV.sc (Value.int IntKind.i64 (0 : Int))])
 g.next (0 : Nat)
 [AV.sc (Value.int IntKind.i64 (cellInt (elsIn g w (0 : Nat)) m (0 : Nat))),
 AV.sc (Value.int IntKind.u64 (cellInt (elsIn g w (0 : Nat)) m (1 : Nat))),
 AV.sc (Value.int IntKind.u64 (cellInt (elsIn g w (0 : Nat)) m (2 : Nat))),
 AV.sc (Value.int IntKind.u64 (cellInt (elsIn g w (0 : Nat)) m (3 : Nat))),
 AV.sc (Value.int IntKind.u64 (cellInt (elsIn g w (0 : Nat)) m (4 : Nat))),
 AV.sc (Value.int IntKind.i64 (cellInt (elsIn g w (0 : Nat)) m (5 : Nat))),
 AV.sc (Value.int IntKind.i64 (cellInt (elsIn g w (0 : Nat)) m (6 : Nat)))])
 d b ∧
 ∀ (x : Bool),
 Q146
 (storeIn
 (boxIn g (88 : Nat)
 [AV.sc (Value.int IntKind.i64 (0 : Int)), AV.sc (Value.int IntKind.u64 (0 : Int)),
 AV.sc (Value.int IntKind.u64 (0 : Int)),
 AV.sc (Value.int IntKind.u64 (0 : Int)),
 AV.sc (Value.int IntKind.u64 (0 : Int)),
 AV.sc (Value.int IntKind.i64 (0 : Int)),
 AV.sc (Value.int IntKind.i64 (0 : Int))])
 g.next (0 : Nat)
 [AV.sc (Value.int IntKind.i64 (cellInt (elsIn g w (0 : Nat)) m (0 : Nat))),
 AV.sc (Value.int IntKind.u64 (cellInt (elsIn g w (0 : Nat)) m (1 : Nat))),
 AV.sc (Value.int IntKind.u64 (cellInt (elsIn g w (0 : Nat)) m (2 : Nat))),
 AV.sc (Value.int IntKind.u64 (cellInt (elsIn g w (0 : Nat)) m (3 : Nat))),
 AV.sc (Value.int IntKind.u64 (cellInt (elsIn g w (0 : Nat)) m (4 : Nat))),
 AV.sc (Value.int IntKind.i64 (cellInt (elsIn g w (0 : Nat)) m (5 : Nat))),
 AV.sc (Value.int IntKind.i64 (cellInt (elsIn g w (0 : Nat)) m (6 : Nat)))])
 d b (cellInt ls k (1 : Nat)) x →
 iteP x
 (iteP
 (kdsIn
 (storeIn
 (boxIn g (88 : Nat)
 [AV.sc (Value.int IntKind.i64 (0 : Int)),
 AV.sc (Value.int IntKind.u64 (0 : Int)),
 AV.sc (Value.int IntKind.u64 (0 : Int)),
 AV.sc (Value.int IntKind.u64 (0 : Int)),
 AV.sc (Value.int IntKind.u64 (0 : Int)),
 AV.sc (Value.int IntKind.i64 (0 : Int)),
 AV.sc (Value.int IntKind.i64 (0 : Int))])
 g.next (0 : Nat)
 [AV.sc (Value.int IntKind.i64 (cellInt (elsIn g w (0 : Nat)) m (0 : Nat))),
 AV.sc (Value.int IntKind.u64 (cellInt (elsIn g w (0 : Nat)) m (1 : Nat))),
 AV.sc (Value.int IntKind.u64 (cellInt (elsIn g w (0 : Nat)) m (2 : Nat))),
 AV.sc (Value.int IntKind.u64 (cellInt (elsIn g w (0 : Nat)) m (3 : Nat))),
 AV.sc (Value.int IntKind.u64 (cellInt (elsIn g w (0 : Nat)) m (4 : Nat))),
 AV.sc (Value.int IntKind.i64 (cellInt (elsIn g w (0 : Nat)) m (5 : Nat))),
 AV.sc (Value.int IntKind.i64 (cellInt (elsIn g w (0 : Nat)) m (6 : Nat)))])
 g.next (1 : Nat)
 [[[Kd.int IntKind.u64], [Kd.int IntKind.u64], [Kd.int IntKind.u64],
 [Kd.int IntKind.u64]].flatten].flatten)
 (iteP
 (kdsIn
 (storeIn
 (boxIn g (88 : Nat)
 [AV.sc (Value.int IntKind.i64 (0 : Int)),
 AV.sc (Value.int IntKind.u64 (0 : Int)),
 AV.sc (Value.int IntKind.u64 (0 : Int)),
 AV.sc (Value.int IntKind.u64 (0 : Int)),
 AV.sc (Value.int IntKind.u64 (0 : Int)),
 AV.sc (Value.int IntKind.i64 (0 : Int)),
 AV.sc (Value.int IntKind.i64 (0 : Int))])
 g.next (0 : Nat)
 [AV.sc (Value.int IntKind.i64 (cellInt (elsIn g w (0 : Nat)) m (0 : Nat))),
 AV.sc (Value.int IntKind.u64 (cellInt (elsIn g w (0 : Nat)) m (1 : Nat))),
 AV.sc (Value.int IntKind.u64 (cellInt (elsIn g w (0 : Nat)) m (2 : Nat))),
 AV.sc (Value.int IntKind.u64 (cellInt (elsIn g w (0 : Nat)) m (3 : Nat))),
 AV.sc (Value.int IntKind.u64 (cellInt (elsIn g w (0 : Nat)) m (4 : Nat))),
 AV.sc (Value.int IntKind.i64 (cellInt (elsIn g w (0 : Nat)) m (5 : Nat))),
 AV.sc (Value.int IntKind.i64 (cellInt (elsIn g w (0 : Nat)) m (6 : Nat)))])
 w (2 : Nat) [Kd.str])
 (iteP
 (inRange i
 (txtIn
 (storeIn
 (boxIn g (88 : Nat)
 [AV.sc (Value.int IntKind.i64 (0 : Int)),
 AV.sc (Value.int IntKind.u64 (0 : Int)),
 AV.sc (Value.int IntKind.u64 (0 : Int)),
 AV.sc (Value.int IntKind.u64 (0 : Int)),
 AV.sc (Value.int IntKind.u64 (0 : Int)),
 AV.sc (Value.int IntKind.i64 (0 : Int)),
 AV.sc (Value.int IntKind.i64 (0 : Int))])
 g.next (0 : Nat)
 [AV.sc
 (Value.int IntKind.i64 (cellInt (elsIn g w (0 : Nat)) m (0 : Nat))),
 AV.sc
 (Value.int IntKind.u64 (cellInt (elsIn g w (0 : Nat)) m (1 : Nat))),
 AV.sc
 (Value.int IntKind.u64 (cellInt (elsIn g w (0 : Nat)) m (2 : Nat))),
 AV.sc
 (Value.int IntKind.u64 (cellInt (elsIn g w (0 : Nat)) m (3 : Nat))),
 AV.sc
 (Value.int IntKind.u64 (cellInt (elsIn g w (0 : Nat)) m (4 : Nat))),
 AV.sc
 (Value.int IntKind.i64 (cellInt (elsIn g w (0 : Nat)) m (5 : Nat))),
 AV.sc
 (Value.int IntKind.i64
 (cellInt (elsIn g w (0 : Nat)) m (6 : Nat)))])
 w (2 : Nat)).length)
 ((SetOf
 (intIn
 (storeIn
 (boxIn g (88 : Nat)
 [AV.sc (Value.int IntKind.i64 (0 : Int)),
 AV.sc (Value.int IntKind.u64 (0 : Int)),
 AV.sc (Value.int IntKind.u64 (0 : Int)),
 AV.sc (Value.int IntKind.u64 (0 : Int)),
 AV.sc (Value.int IntKind.u64 (0 : Int)),
 AV.sc (Value.int IntKind.i64 (0 : Int)),
 AV.sc (Value.int IntKind.i64 (0 : Int))])
 g.next (0 : Nat)
 [AV.sc
 (Value.int IntKind.i64
 (cellInt (elsIn g w (0 : Nat)) m (0 : Nat))),
 AV.sc
 (Value.int IntKind.u64
 (cellInt (elsIn g w (0 : Nat)) m (1 : Nat))),
 AV.sc
 (Value.int IntKind.u64
 (cellInt (elsIn g w (0 : Nat)) m (2 : Nat))),
 AV.sc
 (Value.int IntKind.u64
 (cellInt (elsIn g w (0 : Nat)) m (3 : Nat))),
 AV.sc
 (Value.int IntKind.u64
 (cellInt (elsIn g w (0 : Nat)) m (4 : Nat))),
 AV.sc
 (Value.int IntKind.i64
 (cellInt (elsIn g w (0 : Nat)) m (5 : Nat))),
 AV.sc
 (Value.int IntKind.i64
 (cellInt (elsIn g w (0 : Nat)) m (6 : Nat)))])
 g.next (1 : Nat),
 intIn
 (storeIn
 (boxIn g (88 : Nat)
 [AV.sc (Value.int IntKind.i64 (0 : Int)),
 AV.sc (Value.int IntKind.u64 (0 : Int)),
 AV.sc (Value.int IntKind.u64 (0 : Int)),
 AV.sc (Value.int IntKind.u64 (0 : Int)),
 AV.sc (Value.int IntKind.u64 (0 : Int)),
 AV.sc (Value.int IntKind.i64 (0 : Int)),
 AV.sc (Value.int IntKind.i64 (0 : Int))])
 g.next (0 : Nat)
 [AV.sc
 (Value.int IntKind.i64
 (cellInt (elsIn g w (0 : Nat)) m (0 : Nat))),
 AV.sc
 (Value.int IntKind.u64
 (cellInt (elsIn g w (0 : Nat)) m (1 : Nat))),
 AV.sc
 (Value.int IntKind.u64
 (cellInt (elsIn g w (0 : Nat)) m (2 : Nat))),
 AV.sc
 (Value.int IntKind.u64
 (cellInt (elsIn g w (0 : Nat)) m (3 : Nat))),
 AV.sc
 (Value.int IntKind.u64
 (cellInt (elsIn g w (0 : Nat)) m (4 : Nat))),
 AV.sc
 (Value.int IntKind.i64
 (cellInt (elsIn g w (0 : Nat)) m (5 : Nat))),
 AV.sc
 (Value.int IntKind.i64
 (cellInt (elsIn g w (0 : Nat)) m (6 : Nat)))])
 g.next (2 : Nat),
 intIn
 (storeIn
 (boxIn g (88 : Nat)
 [AV.sc (Value.int IntKind.i64 (0 : Int)),
 AV.sc (Value.int IntKind.u64 (0 : Int)),
 AV.sc (Value.int IntKind.u64 (0 : Int)),
 AV.sc (Value.int IntKind.u64 (0 : Int)),
 AV.sc (Value.int IntKind.u64 (0 : Int)),
 AV.sc (Value.int IntKind.i64 (0 : Int)),
 AV.sc (Value.int IntKind.i64 (0 : Int))])
 g.next (0 : Nat)
 [AV.sc
 (Value.int IntKind.i64
 (cellInt (elsIn g w (0 : Nat)) m (0 : Nat))),
 AV.sc
 (Value.int IntKind.u64
 (cellInt (elsIn g w (0 : Nat)) m (1 : Nat))),
 AV.sc
 (Value.int IntKind.u64
 (cellInt (elsIn g w (0 : Nat)) m (2 : Nat))),
 AV.sc
 (Value.int IntKind.u64
 (cellInt (elsIn g w (0 : Nat)) m (3 : Nat))),
 AV.sc
 (Value.int IntKind.u64
 (cellInt (elsIn g w (0 : Nat)) m (4 : Nat))),
 AV.sc
 (Value.int IntKind.i64
 (cellInt (elsIn g w (0 : Nat)) m (5 : Nat))),
 AV.sc
 (Value.int IntKind.i64
 (cellInt (elsIn g w (0 : Nat)) m (6 : Nat)))])
 g.next (3 : Nat),
 intIn
 (storeIn
 (boxIn g (88 : Nat)
 [AV.sc (Value.int IntKind.i64 (0 : Int)),
 AV.sc (Value.int IntKind.u64 (0 : Int)),
 AV.sc (Value.int IntKind.u64 (0 : Int)),
 AV.sc (Value.int IntKind.u64 (0 : Int)),
 AV.sc (Value.int IntKind.u64 (0 : Int)),
 AV.sc (Value.int IntKind.i64 (0 : Int)),
 AV.sc (Value.int IntKind.i64 (0 : Int))])
 g.next (0 : Nat)
 [AV.sc
 (Value.int IntKind.i64
 (cellInt (elsIn g w (0 : Nat)) m (0 : Nat))),
 AV.sc
 (Value.int IntKind.u64
 (cellInt (elsIn g w (0 : Nat)) m (1 : Nat))),
 AV.sc
 (Value.int IntKind.u64
 (cellInt (elsIn g w (0 : Nat)) m (2 : Nat))),
 AV.sc
 (Value.int IntKind.u64
 (cellInt (elsIn g w (0 : Nat)) m (3 : Nat))),
 AV.sc
 (Value.int IntKind.u64
 (cellInt (elsIn g w (0 : Nat)) m (4 : Nat))),
 AV.sc
 (Value.int IntKind.i64
 (cellInt (elsIn g w (0 : Nat)) m (5 : Nat))),
 AV.sc
 (Value.int IntKind.i64
 (cellInt (elsIn g w (0 : Nat)) m (6 : Nat)))])
 g.next (4 : Nat)) ∧
 ByteI
 (byteAt
 (txtIn
 (storeIn
 (boxIn g (88 : Nat)
 [AV.sc (Value.int IntKind.i64 (0 : Int)),
 AV.sc (Value.int IntKind.u64 (0 : Int)),
 AV.sc (Value.int IntKind.u64 (0 : Int)),
 AV.sc (Value.int IntKind.u64 (0 : Int)),
 AV.sc (Value.int IntKind.u64 (0 : Int)),
 AV.sc (Value.int IntKind.i64 (0 : Int)),
 AV.sc (Value.int IntKind.i64 (0 : Int))])
 g.next (0 : Nat)
 [AV.sc
 (Value.int IntKind.i64
 (cellInt (elsIn g w (0 : Nat)) m (0 : Nat))),
 AV.sc
 (Value.int IntKind.u64
 (cellInt (elsIn g w (0 : Nat)) m (1 : Nat))),
 AV.sc
 (Value.int IntKind.u64
 (cellInt (elsIn g w (0 : Nat)) m (2 : Nat))),
 AV.sc
 (Value.int IntKind.u64
 (cellInt (elsIn g w (0 : Nat)) m (3 : Nat))),
 AV.sc
 (Value.int IntKind.u64
 (cellInt (elsIn g w (0 : Nat)) m (4 : Nat))),
 AV.sc
 (Value.int IntKind.i64
 (cellInt (elsIn g w (0 : Nat)) m (5 : Nat))),
 AV.sc
 (Value.int IntKind.i64
 (cellInt (elsIn g w (0 : Nat)) m (6 : Nat)))])
 w (2 : Nat))
 i)) ∧
 ∀ (x : Bool),
 HasOf
 (intIn
 (storeIn
 (boxIn g (88 : Nat)
 [AV.sc (Value.int IntKind.i64 (0 : Int)),
 AV.sc (Value.int IntKind.u64 (0 : Int)),
 AV.sc (Value.int IntKind.u64 (0 : Int)),
 AV.sc (Value.int IntKind.u64 (0 : Int)),
 AV.sc (Value.int IntKind.u64 (0 : Int)),
 AV.sc (Value.int IntKind.i64 (0 : Int)),
 AV.sc (Value.int IntKind.i64 (0 : Int))])
 g.next (0 : Nat)
 [AV.sc
 (Value.int IntKind.i64
 (cellInt (elsIn g w (0 : Nat)) m (0 : Nat))),
 AV.sc
 (Value.int IntKind.u64
 (cellInt (elsIn g w (0 : Nat)) m (1 : Nat))),
 AV.sc
 (Value.int IntKind.u64
 (cellInt (elsIn g w (0 : Nat)) m (2 : Nat))),
 AV.sc
 (Value.int IntKind.u64
 (cellInt (elsIn g w (0 : Nat)) m (3 : Nat))),
 AV.sc
 (Value.int IntKind.u64
 (cellInt (elsIn g w (0 : Nat)) m (4 : Nat))),
 AV.sc
 (Value.int IntKind.i64
 (cellInt (elsIn g w (0 : Nat)) m (5 : Nat))),
 AV.sc
 (Value.int IntKind.i64
 (cellInt (elsIn g w (0 : Nat)) m (6 : Nat)))])
 g.next (1 : Nat),
 intIn
 (storeIn
 (boxIn g (88 : Nat)
 [AV.sc (Value.int IntKind.i64 (0 : Int)),
 AV.sc (Value.int IntKind.u64 (0 : Int)),
 AV.sc (Value.int IntKind.u64 (0 : Int)),
 AV.sc (Value.int IntKind.u64 (0 : Int)),
 AV.sc (Value.int IntKind.u64 (0 : Int)),
 AV.sc (Value.int IntKind.i64 (0 : Int)),
 AV.sc (Value.int IntKind.i64 (0 : Int))])
 g.next (0 : Nat)
 [AV.sc
 (Value.int IntKind.i64
 (cellInt (elsIn g w (0 : Nat)) m (0 : Nat))),
 AV.sc
 (Value.int IntKind.u64
 (cellInt (elsIn g w (0 : Nat)) m (1 : Nat))),
 AV.sc
 (Value.int IntKind.u64
 (cellInt (elsIn g w (0 : Nat)) m (2 : Nat))),
 AV.sc
 (Value.int IntKind.u64
 (cellInt (elsIn g w (0 : Nat)) m (3 : Nat))),
 AV.sc
 (Value.int IntKind.u64
 (cellInt (elsIn g w (0 : Nat)) m (4 : Nat))),
 AV.sc
 (Value.int IntKind.i64
 (cellInt (elsIn g w (0 : Nat)) m (5 : Nat))),
 AV.sc
 (Value.int IntKind.i64
 (cellInt (elsIn g w (0 : Nat)) m (6 : Nat)))])
 g.next (2 : Nat),
 intIn
 (storeIn
 (boxIn g (88 : Nat)
 [AV.sc (Value.int IntKind.i64 (0 : Int)),
 AV.sc (Value.int IntKind.u64 (0 : Int)),
 AV.sc (Value.int IntKind.u64 (0 : Int)),
 AV.sc (Value.int IntKind.u64 (0 : Int)),
 AV.sc (Value.int IntKind.u64 (0 : Int)),
 AV.sc (Value.int IntKind.i64 (0 : Int)),
 AV.sc (Value.int IntKind.i64 (0 : Int))])
 g.next (0 : Nat)
 [AV.sc
 (Value.int IntKind.i64
 (cellInt (elsIn g w (0 : Nat)) m (0 : Nat))),
 AV.sc
 (Value.int IntKind.u64
 (cellInt (elsIn g w (0 : Nat)) m (1 : Nat))),
 AV.sc
 (Value.int IntKind.u64
 (cellInt (elsIn g w (0 : Nat)) m (2 : Nat))),
 AV.sc
 (Value.int IntKind.u64
 (cellInt (elsIn g w (0 : Nat)) m (3 : Nat))),
 AV.sc
 (Value.int IntKind.u64
 (cellInt (elsIn g w (0 : Nat)) m (4 : Nat))),
 AV.sc
 (Value.int IntKind.i64
 (cellInt (elsIn g w (0 : Nat)) m (5 : Nat))),
 AV.sc
 (Value.int IntKind.i64
 (cellInt (elsIn g w (0 : Nat)) m (6 : Nat)))])
 g.next (3 : Nat),
 intIn
 (storeIn
 (boxIn g (88 : Nat)
 [AV.sc (Value.int IntKind.i64 (0 : Int)),
 AV.sc (Value.int IntKind.u64 (0 : Int)),
 AV.sc (Value.int IntKind.u64 (0 : Int)),
 AV.sc (Value.int IntKind.u64 (0 : Int)),
 AV.sc (Value.int IntKind.u64 (0 : Int)),
 AV.sc (Value.int IntKind.i64 (0 : Int)),
 AV.sc (Value.int IntKind.i64 (0 : Int))])
 g.next (0 : Nat)
 [AV.sc
 (Value.int IntKind.i64
 (cellInt (elsIn g w (0 : Nat)) m (0 : Nat))),
 AV.sc
 (Value.int IntKind.u64
 (cellInt (elsIn g w (0 : Nat)) m (1 : Nat))),
 AV.sc
 (Value.int IntKind.u64
 (cellInt (elsIn g w (0 : Nat)) m (2 : Nat))),
 AV.sc
 (Value.int IntKind.u64
 (cellInt (elsIn g w (0 : Nat)) m (3 : Nat))),
 AV.sc
 (Value.int IntKind.u64
 (cellInt (elsIn g w (0 : Nat)) m (4 : Nat))),
 AV.sc
 (Value.int IntKind.i64
 (cellInt (elsIn g w (0 : Nat)) m (5 : Nat))),
 AV.sc
 (Value.int IntKind.i64
 (cellInt (elsIn g w (0 : Nat)) m (6 : Nat)))])
 g.next (4 : Nat))
 (byteAt
 (txtIn
 (storeIn
 (boxIn g (88 : Nat)
 [AV.sc (Value.int IntKind.i64 (0 : Int)),
 AV.sc (Value.int IntKind.u64 (0 : Int)),
 AV.sc (Value.int IntKind.u64 (0 : Int)),
 AV.sc (Value.int IntKind.u64 (0 : Int)),
 AV.sc (Value.int IntKind.u64 (0 : Int)),
 AV.sc (Value.int IntKind.i64 (0 : Int)),
 AV.sc (Value.int IntKind.i64 (0 : Int))])
 g.next (0 : Nat)
 [AV.sc
 (Value.int IntKind.i64
 (cellInt (elsIn g w (0 : Nat)) m (0 : Nat))),
 AV.sc
 (Value.int IntKind.u64
 (cellInt (elsIn g w (0 : Nat)) m (1 : Nat))),
 AV.sc
 (Value.int IntKind.u64
 (cellInt (elsIn g w (0 : Nat)) m (2 : Nat))),
 AV.sc
 (Value.int IntKind.u64
 (cellInt (elsIn g w (0 : Nat)) m (3 : Nat))),
 AV.sc
 (Value.int IntKind.u64
 (cellInt (elsIn g w (0 : Nat)) m (4 : Nat))),
 AV.sc
 (Value.int IntKind.i64
 (cellInt (elsIn g w (0 : Nat)) m (5 : Nat))),
 AV.sc
 (Value.int IntKind.i64
 (cellInt (elsIn g w (0 : Nat)) m (6 : Nat)))])
 w (2 : Nat))
 i)
 x →
 iteP x
 (∀ (m_2 : Int),
 m_2 = cellInt ls k (0 : Nat) →
 ∀ (m_3 : Int),
 m_3 = cellInt ls k (1 : Nat) →
 P144
 (storeIn
 (boxIn g (88 : Nat)
 [AV.sc (Value.int IntKind.i64 (0 : Int)),
 AV.sc (Value.int IntKind.u64 (0 : Int)),
 AV.sc (Value.int IntKind.u64 (0 : Int)),
 AV.sc (Value.int IntKind.u64 (0 : Int)),
 AV.sc (Value.int IntKind.u64 (0 : Int)),
 AV.sc (Value.int IntKind.i64 (0 : Int)),
 AV.sc (Value.int IntKind.i64 (0 : Int))])
 g.next (0 : Nat)
 [AV.sc
 (Value.int IntKind.i64
 (cellInt (elsIn g w (0 : Nat)) m (0 : Nat))),
 AV.sc
 (Value.int IntKind.u64
 (cellInt (elsIn g w (0 : Nat)) m (1 : Nat))),
 AV.sc
 (Value.int IntKind.u64
 (cellInt (elsIn g w (0 : Nat)) m (2 : Nat))),
 AV.sc
 (Value.int IntKind.u64
 (cellInt (elsIn g w (0 : Nat)) m (3 : Nat))),
 AV.sc
 (Value.int IntKind.u64
 (cellInt (elsIn g w (0 : Nat)) m (4 : Nat))),
 AV.sc
 (Value.int IntKind.i64
 (cellInt (elsIn g w (0 : Nat)) m (5 : Nat))),
 AV.sc
 (Value.int IntKind.i64
 (cellInt (elsIn g w (0 : Nat)) m (6 : Nat)))])
 w (IntKind.i64.wrap (m_2 + (1 : Int))) os (some ol) ∧
 ∀ (x : Heap),
 Q144
 (storeIn
 (boxIn g (88 : Nat)
 [AV.sc (Value.int IntKind.i64 (0 : Int)),
 AV.sc (Value.int IntKind.u64 (0 : Int)),
 AV.sc (Value.int IntKind.u64 (0 : Int)),
 AV.sc (Value.int IntKind.u64 (0 : Int)),
 AV.sc (Value.int IntKind.u64 (0 : Int)),
 AV.sc (Value.int IntKind.i64 (0 : Int)),
 AV.sc (Value.int IntKind.i64 (0 : Int))])
 g.next (0 : Nat)
 [AV.sc
 (Value.int IntKind.i64
 (cellInt (elsIn g w (0 : Nat)) m (0 : Nat))),
 AV.sc
 (Value.int IntKind.u64
 (cellInt (elsIn g w (0 : Nat)) m (1 : Nat))),
 AV.sc
 (Value.int IntKind.u64
 (cellInt (elsIn g w (0 : Nat)) m (2 : Nat))),
 AV.sc
 (Value.int IntKind.u64
 (cellInt (elsIn g w (0 : Nat)) m (3 : Nat))),
 AV.sc
 (Value.int IntKind.u64
 (cellInt (elsIn g w (0 : Nat)) m (4 : Nat))),
 AV.sc
 (Value.int IntKind.i64
 (cellInt (elsIn g w (0 : Nat)) m (5 : Nat))),
 AV.sc
 (Value.int IntKind.i64
 (cellInt (elsIn g w (0 : Nat)) m (6 : Nat)))])
 w (IntKind.i64.wrap (m_2 + (1 : Int))) ol
 (List.length os + (1 : Nat)) x →
 I145
 (AV.sl
 (os ++
 [[AV.sc
 (Value.int IntKind.i64
 (IntKind.i64.wrap (m_2 + (1 : Int)))),
 AV.sc (Value.int IntKind.i64 m_3)]])
 (ol + (1 : Nat)))
 w b d i ls t n (IntKind.i64.wrap (k + (1 : Int)))
 x =
 I145
 (AV.sl
 (os ++
 [[AV.sc
 (Value.int IntKind.i64
 (IntKind.i64.wrap (m_2 + (1 : Int)))),
 AV.sc (Value.int IntKind.i64 m_3)]])
 (ol + (1 : Nat)))
 w b d i ls t n (IntKind.i64.wrap (k + (1 : Int)))
 x ∧
 S
 (os ++
 [[AV.sc
 (Value.int IntKind.i64
 (IntKind.i64.wrap (m_2 + (1 : Int)))),
 AV.sc (Value.int IntKind.i64 m_3)]])
 ol (IntKind.i64.wrap (k + (1 : Int))) x)
 (I145 (AV.sl os (ol + (1 : Nat))) w b d i ls t n
 (IntKind.i64.wrap (k + (1 : Int)))
 (storeIn
 (boxIn g (88 : Nat)
 [AV.sc (Value.int IntKind.i64 (0 : Int)),
 AV.sc (Value.int IntKind.u64 (0 : Int)),
 AV.sc (Value.int IntKind.u64 (0 : Int)),
 AV.sc (Value.int IntKind.u64 (0 : Int)),
 AV.sc (Value.int IntKind.u64 (0 : Int)),
 AV.sc (Value.int IntKind.i64 (0 : Int)),
 AV.sc (Value.int IntKind.i64 (0 : Int))])
 g.next (0 : Nat)
 [AV.sc
 (Value.int IntKind.i64
 (cellInt (elsIn g w (0 : Nat)) m (0 : Nat))),
 AV.sc
 (Value.int IntKind.u64
 (cellInt (elsIn g w (0 : Nat)) m (1 : Nat))),
 AV.sc
 (Value.int IntKind.u64
 (cellInt (elsIn g w (0 : Nat)) m (2 : Nat))),
 AV.sc
 (Value.int IntKind.u64
 (cellInt (elsIn g w (0 : Nat)) m (3 : Nat))),
 AV.sc
 (Value.int IntKind.u64
 (cellInt (elsIn g w (0 : Nat)) m (4 : Nat))),
 AV.sc
 (Value.int IntKind.i64
 (cellInt (elsIn g w (0 : Nat)) m (5 : Nat))),
 AV.sc
 (Value.int IntKind.i64
 (cellInt (elsIn g w (0 : Nat)) m (6 : Nat)))]) =
 I145 (AV.sl os (ol + (1 : Nat))) w b d i ls t n
 (IntKind.i64.wrap (k + (1 : Int)))
 (storeIn
 (boxIn g (88 : Nat)
 [AV.sc (Value.int IntKind.i64 (0 : Int)),
 AV.sc (Value.int IntKind.u64 (0 : Int)),
 AV.sc (Value.int IntKind.u64 (0 : Int)),
 AV.sc (Value.int IntKind.u64 (0 : Int)),
 AV.sc (Value.int IntKind.u64 (0 : Int)),
 AV.sc (Value.int IntKind.i64 (0 : Int)),
 AV.sc (Value.int IntKind.i64 (0 : Int))])
 g.next (0 : Nat)
 [AV.sc
 (Value.int IntKind.i64
 (cellInt (elsIn g w (0 : Nat)) m (0 : Nat))),
 AV.sc
 (Value.int IntKind.u64
 (cellInt (elsIn g w (0 : Nat)) m (1 : Nat))),
 AV.sc
 (Value.int IntKind.u64
 (cellInt (elsIn g w (0 : Nat)) m (2 : Nat))),
 AV.sc
 (Value.int IntKind.u64
 (cellInt (elsIn g w (0 : Nat)) m (3 : Nat))),
 AV.sc
 (Value.int IntKind.u64
 (cellInt (elsIn g w (0 : Nat)) m (4 : Nat))),
 AV.sc
 (Value.int IntKind.i64
 (cellInt (elsIn g w (0 : Nat)) m (5 : Nat))),
 AV.sc
 (Value.int IntKind.i64
 (cellInt (elsIn g w (0 : Nat)) m (6 : Nat)))]) ∧
 S os ol (IntKind.i64.wrap (k + (1 : Int)))
 (storeIn
 (boxIn g (88 : Nat)
 [AV.sc (Value.int IntKind.i64 (0 : Int)),
 AV.sc (Value.int IntKind.u64 (0 : Int)),
 AV.sc (Value.int IntKind.u64 (0 : Int)),
 AV.sc (Value.int IntKind.u64 (0 : Int)),
 AV.sc (Value.int IntKind.u64 (0 : Int)),
 AV.sc (Value.int IntKind.i64 (0 : Int)),
 AV.sc (Value.int IntKind.i64 (0 : Int))])
 g.next (0 : Nat)
 [AV.sc
 (Value.int IntKind.i64
 (cellInt (elsIn g w (0 : Nat)) m (0 : Nat))),
 AV.sc
 (Value.int IntKind.u64
 (cellInt (elsIn g w (0 : Nat)) m (1 : Nat))),
 AV.sc
 (Value.int IntKind.u64
 (cellInt (elsIn g w (0 : Nat)) m (2 : Nat))),
 AV.sc
 (Value.int IntKind.u64
 (cellInt (elsIn g w (0 : Nat)) m (3 : Nat))),
 AV.sc
 (Value.int IntKind.u64
 (cellInt (elsIn g w (0 : Nat)) m (4 : Nat))),
 AV.sc
 (Value.int IntKind.i64
 (cellInt (elsIn g w (0 : Nat)) m (5 : Nat))),
 AV.sc
 (Value.int IntKind.i64
 (cellInt (elsIn g w (0 : Nat)) m (6 : Nat)))])))
 False)
 False)
 False)
 (I145 (AV.sl os (ol + (1 : Nat))) w b d i ls t n (IntKind.i64.wrap (k + (1 : Int)))
 (storeIn
 (boxIn g (88 : Nat)
 [AV.sc (Value.int IntKind.i64 (0 : Int)),
 AV.sc (Value.int IntKind.u64 (0 : Int)),
 AV.sc (Value.int IntKind.u64 (0 : Int)),
 AV.sc (Value.int IntKind.u64 (0 : Int)),
 AV.sc (Value.int IntKind.u64 (0 : Int)),
 AV.sc (Value.int IntKind.i64 (0 : Int)),
 AV.sc (Value.int IntKind.i64 (0 : Int))])
 g.next (0 : Nat)
 [AV.sc (Value.int IntKind.i64 (cellInt (elsIn g w (0 : Nat)) m (0 : Nat))),
 AV.sc (Value.int IntKind.u64 (cellInt (elsIn g w (0 : Nat)) m (1 : Nat))),
 AV.sc (Value.int IntKind.u64 (cellInt (elsIn g w (0 : Nat)) m (2 : Nat))),
 AV.sc (Value.int IntKind.u64 (cellInt (elsIn g w (0 : Nat)) m (3 : Nat))),
 AV.sc (Value.int IntKind.u64 (cellInt (elsIn g w (0 : Nat)) m (4 : Nat))),
 AV.sc (Value.int IntKind.i64 (cellInt (elsIn g w (0 : Nat)) m (5 : Nat))),
 AV.sc
 (Value.int IntKind.i64 (cellInt (elsIn g w (0 : Nat)) m (6 : Nat)))]) =
 I145 (AV.sl os (ol + (1 : Nat))) w b d i ls t n (IntKind.i64.wrap (k + (1 : Int)))
 (storeIn
 (boxIn g (88 : Nat)
 [AV.sc (Value.int IntKind.i64 (0 : Int)),
 AV.sc (Value.int IntKind.u64 (0 : Int)),
 AV.sc (Value.int IntKind.u64 (0 : Int)),
 AV.sc (Value.int IntKind.u64 (0 : Int)),
 AV.sc (Value.int IntKind.u64 (0 : Int)),
 AV.sc (Value.int IntKind.i64 (0 : Int)),
 AV.sc (Value.int IntKind.i64 (0 : Int))])
 g.next (0 : Nat)
 [AV.sc (Value.int IntKind.i64 (cellInt (elsIn g w (0 : Nat)) m (0 : Nat))),
 AV.sc (Value.int IntKind.u64 (cellInt (elsIn g w (0 : Nat)) m (1 : Nat))),
 AV.sc (Value.int IntKind.u64 (cellInt (elsIn g w (0 : Nat)) m (2 : Nat))),
 AV.sc (Value.int IntKind.u64 (cellInt (elsIn g w (0 : Nat)) m (3 : Nat))),
 AV.sc (Value.int IntKind.u64 (cellInt (elsIn g w (0 : Nat)) m (4 : Nat))),
 AV.sc (Value.int IntKind.i64 (cellInt (elsIn g w (0 : Nat)) m (5 : Nat))),
 AV.sc
 (Value.int IntKind.i64 (cellInt (elsIn g w (0 : Nat)) m (6 : Nat)))]) ∧
 S os ol (IntKind.i64.wrap (k + (1 : Int)))
 (storeIn
 (boxIn g (88 : Nat)
 [AV.sc (Value.int IntKind.i64 (0 : Int)),
 AV.sc (Value.int IntKind.u64 (0 : Int)),
 AV.sc (Value.int IntKind.u64 (0 : Int)),
 AV.sc (Value.int IntKind.u64 (0 : Int)),
 AV.sc (Value.int IntKind.u64 (0 : Int)),
 AV.sc (Value.int IntKind.i64 (0 : Int)),
 AV.sc (Value.int IntKind.i64 (0 : Int))])
 g.next (0 : Nat)
 [AV.sc (Value.int IntKind.i64 (cellInt (elsIn g w (0 : Nat)) m (0 : Nat))),
 AV.sc (Value.int IntKind.u64 (cellInt (elsIn g w (0 : Nat)) m (1 : Nat))),
 AV.sc (Value.int IntKind.u64 (cellInt (elsIn g w (0 : Nat)) m (2 : Nat))),
 AV.sc (Value.int IntKind.u64 (cellInt (elsIn g w (0 : Nat)) m (3 : Nat))),
 AV.sc (Value.int IntKind.u64 (cellInt (elsIn g w (0 : Nat)) m (4 : Nat))),
 AV.sc (Value.int IntKind.i64 (cellInt (elsIn g w (0 : Nat)) m (5 : Nat))),
 AV.sc (Value.int IntKind.i64 (cellInt (elsIn g w (0 : Nat)) m (6 : Nat)))])))
 (I145 (AV.sl os (ol + (1 : Nat))) w b d i ls t n (IntKind.i64.wrap (k + (1 : Int)))
 (storeIn
 (boxIn g (88 : Nat)
 [AV.sc (Value.int IntKind.i64 (0 : Int)), AV.sc (Value.int IntKind.u64 (0 : Int)),
 AV.sc (Value.int IntKind.u64 (0 : Int)), AV.sc (Value.int IntKind.u64 (0 : Int)),
 AV.sc (Value.int IntKind.u64 (0 : Int)), AV.sc (Value.int IntKind.i64 (0 : Int)),
 AV.sc (Value.int IntKind.i64 (0 : Int))])
 g.next (0 : Nat)
 [AV.sc (Value.int IntKind.i64 (cellInt (elsIn g w (0 : Nat)) m (0 : Nat))),
 AV.sc (Value.int IntKind.u64 (cellInt (elsIn g w (0 : Nat)) m (1 : Nat))),
 AV.sc (Value.int IntKind.u64 (cellInt (elsIn g w (0 : Nat)) m (2 : Nat))),
 AV.sc (Value.int IntKind.u64 (cellInt (elsIn g w (0 : Nat)) m (3 : Nat))),
 AV.sc (Value.int IntKind.u64 (cellInt (elsIn g w (0 : Nat)) m (4 : Nat))),
 AV.sc (Value.int IntKind.i64 (cellInt (elsIn g w (0 : Nat)) m (5 : Nat))),
 AV.sc (Value.int IntKind.i64 (cellInt (elsIn g w (0 : Nat)) m (6 : Nat)))]) =
 I145 (AV.sl os (ol + (1 : Nat))) w b d i ls t n (IntKind.i64.wrap (k + (1 : Int)))
 (storeIn
 (boxIn g (88 : Nat)
 [AV.sc (Value.int IntKind.i64 (0 : Int)), AV.sc (Value.int IntKind.u64 (0 : Int)),
 AV.sc (Value.int IntKind.u64 (0 : Int)), AV.sc (Value.int IntKind.u64 (0 : Int)),
 AV.sc (Value.int IntKind.u64 (0 : Int)), AV.sc (Value.int IntKind.i64 (0 : Int)),
 AV.sc (Value.int IntKind.i64 (0 : Int))])
 g.next (0 : Nat)
 [AV.sc (Value.int IntKind.i64 (cellInt (elsIn g w (0 : Nat)) m (0 : Nat))),
 AV.sc (Value.int IntKind.u64 (cellInt (elsIn g w (0 : Nat)) m (1 : Nat))),
 AV.sc (Value.int IntKind.u64 (cellInt (elsIn g w (0 : Nat)) m (2 : Nat))),
 AV.sc (Value.int IntKind.u64 (cellInt (elsIn g w (0 : Nat)) m (3 : Nat))),
 AV.sc (Value.int IntKind.u64 (cellInt (elsIn g w (0 : Nat)) m (4 : Nat))),
 AV.sc (Value.int IntKind.i64 (cellInt (elsIn g w (0 : Nat)) m (5 : Nat))),
 AV.sc (Value.int IntKind.i64 (cellInt (elsIn g w (0 : Nat)) m (6 : Nat)))]) ∧
 S os ol (IntKind.i64.wrap (k + (1 : Int)))
 (storeIn
 (boxIn g (88 : Nat)
 [AV.sc (Value.int IntKind.i64 (0 : Int)), AV.sc (Value.int IntKind.u64 (0 : Int)),
 AV.sc (Value.int IntKind.u64 (0 : Int)), AV.sc (Value.int IntKind.u64 (0 : Int)),
 AV.sc (Value.int IntKind.u64 (0 : Int)), AV.sc (Value.int IntKind.i64 (0 : Int)),
 AV.sc (Value.int IntKind.i64 (0 : Int))])
 g.next (0 : Nat)
 [AV.sc (Value.int IntKind.i64 (cellInt (elsIn g w (0 : Nat)) m (0 : Nat))),
 AV.sc (Value.int IntKind.u64 (cellInt (elsIn g w (0 : Nat)) m (1 : Nat))),
 AV.sc (Value.int IntKind.u64 (cellInt (elsIn g w (0 : Nat)) m (2 : Nat))),
 AV.sc (Value.int IntKind.u64 (cellInt (elsIn g w (0 : Nat)) m (3 : Nat))),
 AV.sc (Value.int IntKind.u64 (cellInt (elsIn g w (0 : Nat)) m (4 : Nat))),
 AV.sc (Value.int IntKind.i64 (cellInt (elsIn g w (0 : Nat)) m (5 : Nat))),
 AV.sc (Value.int IntKind.i64 (cellInt (elsIn g w (0 : Nat)) m (6 : Nat)))])))
 False)
 False)
 False)
 False)
 False)
 (Ex.exit (0 : Nat) = Ex.exit (0 : Nat) ∧
 E145 (AV.sl os (ol + (1 : Nat))) g = E145 (AV.sl os (ol + (1 : Nat))) g ∧ S' os ol g)) :
 (fun (w b d : Nat) (i : Int) (ls : Rows) (t : Nat) (n k : Int) (os : Rows) (ol : Nat) (g : Heap) (N : Int → Heap → Prop) (S : Rows → Nat → Int → Heap → Prop) (N' : Heap → Prop) (S' : Rows → Nat → Heap → Prop) => wpRound T145 cfg Tryz.prog 100 145 5 (I145 (.sl os (ol + 1)) w b d i ls t n k g) (n145 w b d i ls t n N S) (e145 N' S')) w b d i ls t n k os ol g N S N' S' :=
 Eq.mp (by kernel_rfl) h
end
end Go.Proofs.Rl
