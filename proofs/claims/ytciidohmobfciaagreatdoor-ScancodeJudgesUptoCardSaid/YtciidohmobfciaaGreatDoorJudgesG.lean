/- A part of the proof: definitions and lemmas. -/
import Derived.Test.YtciidohmobfciaaGreatDoorJudgesA
import Derived.Test.YtciidohmobfciaaGreatDoorJudgesB
import Derived.Test.YtciidohmobfciaaGreatDoorJudgesC
import Derived.Test.YtciidohmobfciaaGreatDoorJudgesD
import Derived.Test.YtciidohmobfciaaGreatDoorJudgesE
import Derived.Test.YtciidohmobfciaaGreatDoorJudgesF
import Derived.Orders
namespace Go.Proofs.Sp.Sj
open Go Go.Ef Go.Proofs.Pt
noncomputable section
set_option maxRecDepth 100000
variable {M : Int}
structure RowF (sf : Cells) (x : Int) (f : FunD) : Prop where
 get : getI x.toNat sf = some [aStr f.name, iA f.entry, .sl (rowS f.params) 0, .sl (rowO f.arrays) 0]
 nm : cellStr sf x 0 = f.name
 en : cellInt sf x 1 = f.entry
 ps : cellSl sf x 2 = rowS f.params
 bs : cellSl sf x 3 = rowO f.arrays
 ok : FunOk f
 eq : f.params.length = f.arrays.length
theorem funs_row {l : List FunD} {x : Int} (h0 : 0 ≤ x) (h1 : x < (rowF l).length) (hf : Funs l) (he : ∀ f ∈ l, f.params.length = f.arrays.length) : ∃ f ∈ l, RowF (rowF l) x f := by
 have hl : x.toNat < l.length := by
  have : (rowF l).length = l.length := by simp [rowF]
  omega
 refine ⟨l[x.toNat], List.getElem_mem hl, ?_⟩
 have hg : getI x.toNat (rowF l) = some (cellF l[x.toNat]) := by
  unfold rowF
  rw [getI_eq, List.getElem?_map, List.getElem?_eq_getElem hl]; rfl
 refine ⟨hg, ?_, ?_, ?_, ?_, hf.ok _ (List.getElem_mem hl), he _ (List.getElem_mem hl)⟩
 ·unfold cellStr cellAt; rw [hg]; rfl
 ·unfold cellInt cellAt; rw [hg]; rfl
 ·unfold cellSl cellAt; rw [hg]; rfl
 ·unfold cellSl cellAt; rw [hg]; rfl
theorem funsok_row {sf : Cells} {x : Int} (h : FunsOk sf) (h0 : 0 ≤ x) (h1 : x < sf.length) : ∃ f, RowF sf x f := by
 obtain ⟨l, rfl, hf, he⟩ := h
 obtain ⟨f, _, hr⟩ := funs_row h0 h1 hf he
 exact ⟨f, hr⟩
theorem rowS_len (l : List (List UInt8)) : (rowS l).length = l.length := by simp [rowS]
theorem wrapI {i : Nat} (h : i ≤ 1048576) : IntKind.i64.wrap ((i : Int) + 1) = ((i + 1 : Nat) : Int) := wrap_up (by omega)
theorem loop58 {m : List Bool} (hm : m.length ≤ 1048576) : ∀ (f i : Nat), m.length - i = f → i ≤ m.length →
  Ev (cfg M) Tryz.prog 58 (.loop (loopAt Tryz.prog 58 44)) (I58 ((m.take i).map kindM) (rowO m) i) fun e τ => e = .exit 1 ∧ τ = E58 (kinds (rowO m)) := by
 have can : ∀ (s : List UInt8) (i : Nat), (I58 s (rowO m) i).tidy [6, 63, 64, 65] 0 = I58 s (rowO m) i := fun s i => by kernel_rfl
 intro f
 induction f with
 | zero =>
  intro i hf hi
  refine Ev.round (t := ⟨[6, 63, 64, 65], [6], 0⟩) ok0 (by kernel_rfl) rfl (can _ i) (r58 M _ (rowO m) i (fun _ _ => False) (i = m.length) ?_) (fun τ h => h.2.elim) (fun e τ h => ?_)
  ·exact ie (df (by rw [rowO_len]; omega)) ⟨rfl, rfl, by omega⟩
  ·unfold q58 at h
   split at h
   ·obtain ⟨h1, h2, h3⟩ := h
    refine ⟨h1, ?_⟩
    rw [h2, h3, kinds_rowO, List.take_length]
   ·exact h.elim
 | succ f ih =>
  intro i hf hi
  have hlt : i < m.length := by omega
  have hn : (m.take (i + 1)).map kindM = (m.take i).map kindM ++ [kindM m[i]] := by
   rw [List.take_add_one, List.getElem?_eq_getElem hlt, List.map_append]; rfl
  refine Ev.round (t := ⟨[6, 63, 64, 65], [6], 0⟩) ok0 (by kernel_rfl) rfl (can _ i) (r58 M _ (rowO m) i (fun s j => s = (m.take (i + 1)).map kindM ∧ j = ((i + 1 : Nat) : Int)) False ?_) (fun τ h => ?_) (fun e τ h => ?_)
  ·rw [rowO_len, Int.toNat_natCast, wrapI (by omega), rowO_cell hlt, rowO_get hlt]
   refine it (dt (by omega)) (it (by rw [inRange_iff]; omega) ⟨rfl, ?_⟩)
   have hl : ((m.take i).map kindM).length ≤ 1048576 := by simp; omega
   cases hb : m[i] with
   | true => exact it rfl (it (fitsS (by simp; omega)) ⟨rfl, by rw [hn, hb]; rfl, rfl⟩)
   | false => exact ie rfl (it (fitsS (by simp; omega)) ⟨rfl, by rw [hn, hb]; rfl, rfl⟩)
  ·obtain ⟨h1, h2, h3⟩ := h
   rw [h2, h3] at h1
   rw [h1]
   exact ih (i + 1) (by omega) (by omega)
  ·unfold q58 at h
   split at h
   ·exact h.2.2.elim
   ·exact h.elim
theorem ok58L {T : Tab} (O : Ok M T) : Ok M (T.addL 58 44 L58) := by
 refine addL_ok O fun σ s hs hp => ?_
 cases hs
 obtain ⟨e, h1, h2, m, h3, h4⟩ := hp
 have he : Ev (cfg M) Tryz.prog 58 (.loop (loopAt Tryz.prog 58 44)) σ fun e τ => e = .exit 1 ∧ τ = E58 (kinds (rowO m)) := by
  refine Ev.tidied (t := ⟨[6, 63, 64, 65], [6], 0⟩) (τ := I58 [] (rowO m) (0 : Nat)) (by kernel_rfl) ?_ (loop58 h4 _ 0 rfl (Nat.zero_le _))
  rw [e, h1, h2, h3]
  kernel_rfl
 obtain ⟨n, ex, τ, h6, rfl, rfl⟩ := he
 exact ⟨_, List.mem_singleton.2 rfl, kinds (rowO m), by rw [h3], n, h6⟩
theorem ok59 {T : Tab} (O : Ok M T) : Ok M (T.addC 59 C59) := by
 refine freshK O ok0 (n := 100) (by kernel_rfl) rfl fun args h s hs => ?_
 unfold C59 at hs
 split at hs
 ·rename_i s p
  obtain ⟨⟨s⟩⟩ := s
  obtain ⟨⟨p⟩⟩ := p
  cases hs
  refine ⟨rfl, _, _, _, _, rfl, fun hp K hK => v59 M s p K ?_⟩
  replace hK : K (cutA (cutT s p)) := hK
  have h1 : s.length ≤ 4194304 := hp.1.le
  have h2 : p.length ≤ 4194304 := hp.2.le
  refine iti (fun h => ?_) (fun h => ?_)
  ·have h := of_decide_eq_true h
   have hw : IntKind.i64.wrap ((s.length : Int) - (p.length : Int)) = ((s.length - p.length : Nat) : Int) := by rw [wrap_in (by omega) (by omega)]; omega
   rw [hw, Int.toNat_natCast]
   have hin : (decide ((0 : Int) ≤ ((s.length - p.length : Nat) : Int)) && decide (((s.length - p.length : Nat) : Int) ≤ (s.length : Int))) = true := by
    simp only [Bool.and_eq_true, decide_eq_true_eq]; omega
   refine it hin (iti (fun h3 => it hin ?_) (fun h3 => ?_))
   ·have h3 := of_decide_eq_true h3
    have : cutT s p = (s.take (s.length - p.length), true) := by unfold cutT; rw [if_pos ⟨by omega, h3⟩]
    rw [this] at hK
    exact hK
   ·have h3 := of_decide_eq_false h3
    have : cutT s p = (s, false) := by unfold cutT; rw [if_neg fun h => h3 h.2]
    rw [this] at hK
    exact hK
  ·have h := of_decide_eq_false h
   have : cutT s p = (s, false) := by unfold cutT; rw [if_neg fun h' => h (by omega)]
   rw [this] at hK
   exact hK
 ·cases hs
theorem ok68 {T : Tab} (O : Ok M T) : Ok M (T.addC 68 C68) := by
 refine freshK O ok0 (n := 100) (by kernel_rfl) rfl fun args h s hs => ?_
 unfold C68 at hs
 split at hs
 ·rename_i op x y nm t a
  obtain ⟨⟨t⟩⟩ := t
  cases hs
  refine ⟨rfl, _, _, _, _, rfl, fun hp K hK => v68 M op x y nm t a K ?_⟩
  obtain ⟨k, rfl, hk1, hk⟩ := nat_op (wB_of hp.1 hp.2)
  clear hp
  match k, hk1, hk with
  | 0, h, _ => exact absurd h (by decide)
  | 1, _, _ =>
   repeat' (first | (refine ⟨⟨by omega, by omega⟩, ?_⟩; intro q hq; subst hq) | refine ie rfl ?_ | refine it rfl ?_)
   exact hK
  | 2, _, _ =>
   repeat' (first | (refine ⟨⟨by omega, by omega⟩, ?_⟩; intro q hq; subst hq) | refine ie rfl ?_ | refine it rfl ?_)
   exact hK
  | 3, _, _ =>
   repeat' (first | (refine ⟨⟨by omega, by omega⟩, ?_⟩; intro q hq; subst hq) | refine ie rfl ?_ | refine it rfl ?_)
   exact hK
  | 4, _, _ =>
   repeat' (first | (refine ⟨⟨by omega, by omega⟩, ?_⟩; intro q hq; subst hq) | refine ie rfl ?_ | refine it rfl ?_)
   exact hK
  | 5, _, _ =>
   repeat' (first | (refine ⟨⟨by omega, by omega⟩, ?_⟩; intro q hq; subst hq) | refine ie rfl ?_ | refine it rfl ?_)
   exact hK
  | 6, _, _ =>
   repeat' (first | (refine ⟨⟨by omega, by omega⟩, ?_⟩; intro q hq; subst hq) | refine ie rfl ?_ | refine it rfl ?_)
   exact hK
  | 7, _, _ =>
   repeat' (first | (refine ⟨⟨by omega, by omega⟩, ?_⟩; intro q hq; subst hq) | refine ie rfl ?_ | refine it rfl ?_)
   exact hK
  | 8, _, _ =>
   repeat' (first | (refine ⟨⟨by omega, by omega⟩, ?_⟩; intro q hq; subst hq) | refine ie rfl ?_ | refine it rfl ?_)
   exact hK
  | 9, _, _ =>
   repeat' (first | (refine ⟨⟨by omega, by omega⟩, ?_⟩; intro q hq; subst hq) | refine ie rfl ?_ | refine it rfl ?_)
   exact hK
  | 10, _, _ =>
   repeat' (first | (refine ⟨⟨by omega, by omega⟩, ?_⟩; intro q hq; subst hq) | refine ie rfl ?_ | refine it rfl ?_)
   exact hK
  | 11, _, _ =>
   repeat' (first | (refine ⟨⟨by omega, by omega⟩, ?_⟩; intro q hq; subst hq) | refine ie rfl ?_ | refine it rfl ?_)
   exact hK
  | 12, _, _ =>
   repeat' (first | (refine ⟨⟨by omega, by omega⟩, ?_⟩; intro q hq; subst hq) | refine ie rfl ?_ | refine it rfl ?_)
   exact hK
  | 13, _, _ =>
   repeat' (first | (refine ⟨⟨by omega, by omega⟩, ?_⟩; intro q hq; subst hq) | refine ie rfl ?_ | refine it rfl ?_)
   exact hK
  | 14, _, _ =>
   repeat' (first | (refine ⟨⟨by omega, by omega⟩, ?_⟩; intro q hq; subst hq) | refine ie rfl ?_ | refine it rfl ?_)
   exact hK
  | 15, _, _ =>
   repeat' (first | (refine ⟨⟨by omega, by omega⟩, ?_⟩; intro q hq; subst hq) | refine ie rfl ?_ | refine it rfl ?_)
   exact hK
  | 16, _, _ =>
   repeat' (first | (refine ⟨⟨by omega, by omega⟩, ?_⟩; intro q hq; subst hq) | refine ie rfl ?_ | refine it rfl ?_)
   exact hK
  | 17, _, _ =>
   repeat' (first | (refine ⟨⟨by omega, by omega⟩, ?_⟩; intro q hq; subst hq) | refine ie rfl ?_ | refine it rfl ?_)
   exact hK
  | 18, _, _ =>
   repeat' (first | (refine ⟨⟨by omega, by omega⟩, ?_⟩; intro q hq; subst hq) | refine ie rfl ?_ | refine it rfl ?_)
   exact hK
  | 19, _, _ =>
   repeat' (first | (refine ⟨⟨by omega, by omega⟩, ?_⟩; intro q hq; subst hq) | refine ie rfl ?_ | refine it rfl ?_)
   exact hK
  | 20, _, _ =>
   repeat' (first | (refine ⟨⟨by omega, by omega⟩, ?_⟩; intro q hq; subst hq) | refine ie rfl ?_ | refine it rfl ?_)
   exact hK
  | 21, _, _ =>
   repeat' (first | (refine ⟨⟨by omega, by omega⟩, ?_⟩; intro q hq; subst hq) | refine ie rfl ?_ | refine it rfl ?_)
   exact hK
  | 22, _, _ =>
   repeat' (first | (refine ⟨⟨by omega, by omega⟩, ?_⟩; intro q hq; subst hq) | refine ie rfl ?_ | refine it rfl ?_)
   exact hK
  | 23, _, _ =>
   repeat' (first | (refine ⟨⟨by omega, by omega⟩, ?_⟩; intro q hq; subst hq) | refine ie rfl ?_ | refine it rfl ?_)
   exact hK
  | 24, _, _ =>
   repeat' (first | (refine ⟨⟨by omega, by omega⟩, ?_⟩; intro q hq; subst hq) | refine ie rfl ?_ | refine it rfl ?_)
   exact hK
  | 25, _, _ =>
   repeat' (first | (refine ⟨⟨by omega, by omega⟩, ?_⟩; intro q hq; subst hq) | refine ie rfl ?_ | refine it rfl ?_)
   exact hK
  | 26, _, _ =>
   repeat' (first | (refine ⟨⟨by omega, by omega⟩, ?_⟩; intro q hq; subst hq) | refine ie rfl ?_ | refine it rfl ?_)
   exact hK
  | 27, _, _ =>
   repeat' (first | (refine ⟨⟨by omega, by omega⟩, ?_⟩; intro q hq; subst hq) | refine ie rfl ?_ | refine it rfl ?_)
   exact hK
  | 28, _, _ =>
   repeat' (first | (refine ⟨⟨by omega, by omega⟩, ?_⟩; intro q hq; subst hq) | refine ie rfl ?_ | refine it rfl ?_)
   exact hK
  | 29, _, _ =>
   repeat' (first | (refine ⟨⟨by omega, by omega⟩, ?_⟩; intro q hq; subst hq) | refine ie rfl ?_ | refine it rfl ?_)
   exact hK
  | 30, _, _ =>
   repeat' (first | (refine ⟨⟨by omega, by omega⟩, ?_⟩; intro q hq; subst hq) | refine ie rfl ?_ | refine it rfl ?_)
   exact hK
  | 31, _, _ =>
   repeat' (first | (refine ⟨⟨by omega, by omega⟩, ?_⟩; intro q hq; subst hq) | refine ie rfl ?_ | refine it rfl ?_)
   exact hK
  | 32, _, _ =>
   repeat' (first | (refine ⟨⟨by omega, by omega⟩, ?_⟩; intro q hq; subst hq) | refine ie rfl ?_ | refine it rfl ?_)
   exact hK
  | 33, _, _ =>
   repeat' (first | (refine ⟨⟨by omega, by omega⟩, ?_⟩; intro q hq; subst hq) | refine ie rfl ?_ | refine it rfl ?_)
   exact hK
  | 34, _, _ =>
   repeat' (first | (refine ⟨⟨by omega, by omega⟩, ?_⟩; intro q hq; subst hq) | refine ie rfl ?_ | refine it rfl ?_)
   exact hK
  | 35, _, _ =>
   repeat' (first | (refine ⟨⟨by omega, by omega⟩, ?_⟩; intro q hq; subst hq) | refine ie rfl ?_ | refine it rfl ?_)
   exact hK
  | 36, _, _ =>
   repeat' (first | (refine ⟨⟨by omega, by omega⟩, ?_⟩; intro q hq; subst hq) | refine ie rfl ?_ | refine it rfl ?_)
   exact hK
  | 37, _, _ =>
   repeat' (first | (refine ⟨⟨by omega, by omega⟩, ?_⟩; intro q hq; subst hq) | refine ie rfl ?_ | refine it rfl ?_)
   exact hK
  | 38, _, _ =>
   repeat' (first | (refine ⟨⟨by omega, by omega⟩, ?_⟩; intro q hq; subst hq) | refine ie rfl ?_ | refine it rfl ?_)
   exact hK
  | 39, _, _ =>
   repeat' (first | (refine ⟨⟨by omega, by omega⟩, ?_⟩; intro q hq; subst hq) | refine ie rfl ?_ | refine it rfl ?_)
   exact hK
  | 40, _, _ =>
   repeat' (first | (refine ⟨⟨by omega, by omega⟩, ?_⟩; intro q hq; subst hq) | refine ie rfl ?_ | refine it rfl ?_)
   exact hK
  | 41, _, _ =>
   repeat' (first | (refine ⟨⟨by omega, by omega⟩, ?_⟩; intro q hq; subst hq) | refine ie rfl ?_ | refine it rfl ?_)
   exact hK
  | 42, _, _ =>
   repeat' (first | (refine ⟨⟨by omega, by omega⟩, ?_⟩; intro q hq; subst hq) | refine ie rfl ?_ | refine it rfl ?_)
   exact hK
  | 43, _, _ =>
   repeat' (first | (refine ⟨⟨by omega, by omega⟩, ?_⟩; intro q hq; subst hq) | refine ie rfl ?_ | refine it rfl ?_)
   exact hK
  | 44, _, _ =>
   repeat' (first | (refine ⟨⟨by omega, by omega⟩, ?_⟩; intro q hq; subst hq) | refine ie rfl ?_ | refine it rfl ?_)
   exact hK
  | 45, _, _ =>
   repeat' (first | (refine ⟨⟨by omega, by omega⟩, ?_⟩; intro q hq; subst hq) | refine ie rfl ?_ | refine it rfl ?_)
   exact hK
  | 46, _, _ =>
   repeat' (first | (refine ⟨⟨by omega, by omega⟩, ?_⟩; intro q hq; subst hq) | refine ie rfl ?_ | refine it rfl ?_)
   exact hK
  | 47, _, _ =>
   repeat' (first | (refine ⟨⟨by omega, by omega⟩, ?_⟩; intro q hq; subst hq) | refine ie rfl ?_ | refine it rfl ?_)
   exact hK
  | 48, _, _ =>
   repeat' (first | (refine ⟨⟨by omega, by omega⟩, ?_⟩; intro q hq; subst hq) | refine ie rfl ?_ | refine it rfl ?_)
   exact hK
  | 49, _, _ =>
   repeat' (first | (refine ⟨⟨by omega, by omega⟩, ?_⟩; intro q hq; subst hq) | refine ie rfl ?_ | refine it rfl ?_)
   exact hK
  | k + 50, _, hk => exact absurd hk (by omega)
 ·cases hs
theorem y30 {n nf r x y nm : Int} {t : List UInt8} (h : properB n nf r 30 x y nm t = true) : y = 0 ∨ y = 1 ∨ y = 2 ∨ y = 3 := by
 replace h : (wB 30 1 49 && (!aboutB 30 || (decide (x ≥ -1) && nameB 30 y))) = true := h
 rw [show aboutB 30 = true from rfl, show nameB 30 y = wB y 0 3 from rfl] at h
 simp only [Bool.not_true, Bool.false_or, Bool.and_eq_true] at h
 have := wB_spec h.2.2
 omega
theorem y33 {n nf r x y nm : Int} {t : List UInt8} (h : properB n nf r 33 x y nm t = true) : y = 1 ∨ y = 2 ∨ y = 3 ∨ y = 5 ∨ y = 6 ∨ y = 7 := by
 replace h : (wB 33 1 49 && (!aboutB 33 || (decide (x ≥ -1) && nameB 33 y))) = true := h
 rw [show aboutB 33 = true from rfl, show nameB 33 y = (wB y 1 7 && decide (y ≠ 4)) from rfl] at h
 simp only [Bool.not_true, Bool.false_or, Bool.and_eq_true, decide_eq_true_eq] at h
 have := wB_spec h.2.2.1
 have := h.2.2.2
 omega
theorem y31 {n nf r x y nm : Int} {t : List UInt8} (h : properB n nf r 31 x y nm t = true) : 0 ≤ y ∧ y ≤ 4096 := by
 rw [proper31] at h
 simp only [Bool.and_eq_true] at h
 have h1 := wB_spec h.2.2
 have h2 := built_most t
 omega
set_option maxHeartbeats 1000000 in
theorem ok58 {T : Tab} (O : Ok M T) : Ok M (T.addC 58 C58) := by
 refine freshK O (ok58L (ok90 ok0)) (n := 100) (by kernel_rfl) rfl fun args h s hs => ?_
 unfold C58 at hs
 split at hs
 ·rename_i si sf b e n r op x y nm t a
  obtain ⟨⟨t⟩⟩ := t
  cases hs
  refine ⟨rfl, _, _, _, _, rfl, fun hp K hK => v58 M si sf b e n r op x y nm t a K ?_⟩
  replace hK : K (twoA (popsF sf op x y, pushF op)) := hK
  obtain ⟨hrg, hfs, hpr⟩ := hp
  replace hpr : properB si.length sf.length r op x y nm t = true := hpr
  obtain ⟨k, rfl, hk1, hk⟩ := nat_op (proper_op hpr)
  match k, hk1, hk with
  | 0, h, _ => exact absurd h (by decide)
  | 1, _, _ =>
   repeat' (first | (refine ⟨⟨by omega, by omega⟩, ?_⟩; intro q hq; subst hq) | refine ie rfl ?_ | refine it rfl ?_)
   exact hK
  | 2, _, _ =>
   repeat' (first | (refine ⟨⟨by omega, by omega⟩, ?_⟩; intro q hq; subst hq) | refine ie rfl ?_ | refine it rfl ?_)
   exact hK
  | 3, _, _ =>
   repeat' (first | (refine ⟨⟨by omega, by omega⟩, ?_⟩; intro q hq; subst hq) | refine ie rfl ?_ | refine it rfl ?_)
   exact hK
  | 4, _, _ =>
   repeat' (first | (refine ⟨⟨by omega, by omega⟩, ?_⟩; intro q hq; subst hq) | refine ie rfl ?_ | refine it rfl ?_)
   exact hK
  | 5, _, _ =>
   repeat' (first | (refine ⟨⟨by omega, by omega⟩, ?_⟩; intro q hq; subst hq) | refine ie rfl ?_ | refine it rfl ?_)
   exact hK
  | 6, _, _ =>
   repeat' (first | (refine ⟨⟨by omega, by omega⟩, ?_⟩; intro q hq; subst hq) | refine ie rfl ?_ | refine it rfl ?_)
   exact hK
  | 7, _, _ =>
   repeat' (first | (refine ⟨⟨by omega, by omega⟩, ?_⟩; intro q hq; subst hq) | refine ie rfl ?_ | refine it rfl ?_)
   exact hK
  | 8, _, _ =>
   have hy := wB_spec (show wB y 1 4096 = true from hpr)
   repeat' (first | (refine ⟨⟨by omega, by omega⟩, ?_⟩; intro q hq; subst hq) | refine ie rfl ?_ | refine it rfl ?_)
   exact hK
  | 9, _, _ =>
   repeat' (first | (refine ⟨⟨by omega, by omega⟩, ?_⟩; intro q hq; subst hq) | refine ie rfl ?_ | refine it rfl ?_)
   exact hK
  | 10, _, _ =>
   repeat' (first | (refine ⟨⟨by omega, by omega⟩, ?_⟩; intro q hq; subst hq) | refine ie rfl ?_ | refine it rfl ?_)
   exact hK
  | 11, _, _ =>
   repeat' (first | (refine ⟨⟨by omega, by omega⟩, ?_⟩; intro q hq; subst hq) | refine ie rfl ?_ | refine it rfl ?_)
   exact hK
  | 12, _, _ =>
   repeat' (first | (refine ⟨⟨by omega, by omega⟩, ?_⟩; intro q hq; subst hq) | refine ie rfl ?_ | refine it rfl ?_)
   exact hK
  | 13, _, _ =>
   repeat' (first | (refine ⟨⟨by omega, by omega⟩, ?_⟩; intro q hq; subst hq) | refine ie rfl ?_ | refine it rfl ?_)
   exact hK
  | 14, _, _ =>
   repeat' (first | (refine ⟨⟨by omega, by omega⟩, ?_⟩; intro q hq; subst hq) | refine ie rfl ?_ | refine it rfl ?_)
   exact hK
  | 15, _, _ =>
   repeat' (first | (refine ⟨⟨by omega, by omega⟩, ?_⟩; intro q hq; subst hq) | refine ie rfl ?_ | refine it rfl ?_)
   exact hK
  | 16, _, _ =>
   repeat' (first | (refine ⟨⟨by omega, by omega⟩, ?_⟩; intro q hq; subst hq) | refine ie rfl ?_ | refine it rfl ?_)
   exact hK
  | 17, _, _ =>
   repeat' (first | (refine ⟨⟨by omega, by omega⟩, ?_⟩; intro q hq; subst hq) | refine ie rfl ?_ | refine it rfl ?_)
   exact hK
  | 18, _, _ =>
   repeat' (first | (refine ⟨⟨by omega, by omega⟩, ?_⟩; intro q hq; subst hq) | refine ie rfl ?_ | refine it rfl ?_)
   exact hK
  | 19, _, _ =>
   repeat' (first | (refine ⟨⟨by omega, by omega⟩, ?_⟩; intro q hq; subst hq) | refine ie rfl ?_ | refine it rfl ?_)
   exact hK
  | 20, _, _ =>
   repeat' (first | (refine ⟨⟨by omega, by omega⟩, ?_⟩; intro q hq; subst hq) | refine ie rfl ?_ | refine it rfl ?_)
   exact hK
  | 21, _, _ =>
   repeat' (first | (refine ⟨⟨by omega, by omega⟩, ?_⟩; intro q hq; subst hq) | refine ie rfl ?_ | refine it rfl ?_)
   exact hK
  | 22, _, _ =>
   repeat' (first | (refine ⟨⟨by omega, by omega⟩, ?_⟩; intro q hq; subst hq) | refine ie rfl ?_ | refine it rfl ?_)
   exact hK
  | 23, _, _ =>
   repeat' (first | (refine ⟨⟨by omega, by omega⟩, ?_⟩; intro q hq; subst hq) | refine ie rfl ?_ | refine it rfl ?_)
   exact hK
  | 24, _, _ =>
   repeat' (first | (refine ⟨⟨by omega, by omega⟩, ?_⟩; intro q hq; subst hq) | refine ie rfl ?_ | refine it rfl ?_)
   exact hK
  | 25, _, _ =>
   repeat' (first | (refine ⟨⟨by omega, by omega⟩, ?_⟩; intro q hq; subst hq) | refine ie rfl ?_ | refine it rfl ?_)
   exact hK
  | 26, _, _ =>
   repeat' (first | (refine ⟨⟨by omega, by omega⟩, ?_⟩; intro q hq; subst hq) | refine ie rfl ?_ | refine it rfl ?_)
   exact hK
  | 27, _, _ =>
   repeat' (first | (refine ⟨⟨by omega, by omega⟩, ?_⟩; intro q hq; subst hq) | refine ie rfl ?_ | refine it rfl ?_)
   exact hK
  | 28, _, _ =>
   have hx := wB_spec (show wB x 0 ((sf.length : Int) - 1) = true from hpr)
   obtain ⟨f, hr⟩ := funsok_row hfs hx.1 (by omega)
   have hna : f.arrays.length ≤ 1048576 := hr.ok.na
   have heq := hr.eq
   repeat' (first | (refine ⟨⟨by omega, by omega⟩, ?_⟩; intro q hq; subst hq) | refine ie rfl ?_ | refine it rfl ?_)
   refine it (by rw [inRange_iff]; omega) ⟨by rw [hr.get, hr.nm, hr.en, hr.ps, hr.bs]; rfl, ?_⟩
   refine ⟨rfl, ⟨rfl, rfl, rfl, f.arrays, hr.bs, hna⟩, ?_⟩
   intro q hq
   subst hq
   exact hK
  | 29, _, _ =>
   repeat' (first | (refine ⟨⟨by omega, by omega⟩, ?_⟩; intro q hq; subst hq) | refine ie rfl ?_ | refine it rfl ?_)
   exact hK
  | 30, _, _ =>
   rcases y30 (show properB si.length sf.length r 30 x y nm t = true from hpr) with rfl | rfl | rfl | rfl
   all_goals repeat' (first | (refine ⟨⟨by decide, by decide⟩, ?_⟩; intro q hq; subst hq) | refine ie rfl ?_ | refine it rfl ?_)
   all_goals exact hK
  | 31, _, _ =>
   have hy := y31 (show properB si.length sf.length r 31 x y nm t = true from hpr)
   repeat' (first | (refine ⟨⟨by omega, by omega⟩, ?_⟩; intro q hq; subst hq) | refine ie rfl ?_ | refine it rfl ?_)
   exact hK
  | 32, _, _ =>
   repeat' (first | (refine ⟨⟨by omega, by omega⟩, ?_⟩; intro q hq; subst hq) | refine ie rfl ?_ | refine it rfl ?_)
   exact hK
  | 33, _, _ =>
   rcases y33 (show properB si.length sf.length r 33 x y nm t = true from hpr) with rfl | rfl | rfl | rfl | rfl | rfl
   all_goals repeat' (first | (refine ⟨⟨by decide, by decide⟩, ?_⟩; intro q hq; subst hq) | refine ie rfl ?_ | refine it rfl ?_)
   all_goals exact hK
  | 34, _, _ =>
   repeat' (first | (refine ⟨⟨by omega, by omega⟩, ?_⟩; intro q hq; subst hq) | refine ie rfl ?_ | refine it rfl ?_)
   exact hK
  | 35, _, _ =>
   have hy := wB_spec (show wB y 1 4096 = true from hpr)
   repeat' (first | (refine ⟨⟨by omega, by omega⟩, ?_⟩; intro q hq; subst hq) | refine ie rfl ?_ | refine it rfl ?_)
   exact hK
  | 36, _, _ =>
   have hy := wB_spec (show wB y 1 4096 = true from hpr)
   repeat' (first | (refine ⟨⟨by omega, by omega⟩, ?_⟩; intro q hq; subst hq) | refine ie rfl ?_ | refine it rfl ?_)
   exact hK
  | 37, _, _ =>
   have hx := wB_spec (show wB x 0 2 = true from hpr)
   have hx : x = 0 ∨ x = 1 ∨ x = 2 := by omega
   rcases hx with rfl | rfl | rfl
   all_goals repeat' (first | (refine ⟨⟨by decide, by decide⟩, ?_⟩; intro q hq; subst hq) | refine ie rfl ?_ | refine it rfl ?_)
   all_goals exact hK
  | 38, _, _ =>
   repeat' (first | (refine ⟨⟨by omega, by omega⟩, ?_⟩; intro q hq; subst hq) | refine ie rfl ?_ | refine it rfl ?_)
   exact hK
  | 39, _, _ =>
   repeat' (first | (refine ⟨⟨by omega, by omega⟩, ?_⟩; intro q hq; subst hq) | refine ie rfl ?_ | refine it rfl ?_)
   exact hK
  | 40, _, _ =>
   repeat' (first | (refine ⟨⟨by omega, by omega⟩, ?_⟩; intro q hq; subst hq) | refine ie rfl ?_ | refine it rfl ?_)
   exact hK
  | 41, _, _ =>
   repeat' (first | (refine ⟨⟨by omega, by omega⟩, ?_⟩; intro q hq; subst hq) | refine ie rfl ?_ | refine it rfl ?_)
   exact hK
  | 42, _, _ =>
   repeat' (first | (refine ⟨⟨by omega, by omega⟩, ?_⟩; intro q hq; subst hq) | refine ie rfl ?_ | refine it rfl ?_)
   exact hK
  | 43, _, _ =>
   repeat' (first | (refine ⟨⟨by omega, by omega⟩, ?_⟩; intro q hq; subst hq) | refine ie rfl ?_ | refine it rfl ?_)
   exact hK
  | 44, _, _ =>
   have hy := wB_spec (show wB y 0 1 = true from hpr)
   repeat' (first | (refine ⟨⟨by omega, by omega⟩, ?_⟩; intro q hq; subst hq) | refine ie rfl ?_ | refine it rfl ?_)
   exact hK
  | 45, _, _ =>
   repeat' (first | (refine ⟨⟨by omega, by omega⟩, ?_⟩; intro q hq; subst hq) | refine ie rfl ?_ | refine it rfl ?_)
   exact hK
  | 46, _, _ =>
   repeat' (first | (refine ⟨⟨by omega, by omega⟩, ?_⟩; intro q hq; subst hq) | refine ie rfl ?_ | refine it rfl ?_)
   exact hK
  | 47, _, _ =>
   repeat' (first | (refine ⟨⟨by omega, by omega⟩, ?_⟩; intro q hq; subst hq) | refine ie rfl ?_ | refine it rfl ?_)
   exact hK
  | 48, _, _ =>
   repeat' (first | (refine ⟨⟨by omega, by omega⟩, ?_⟩; intro q hq; subst hq) | refine ie rfl ?_ | refine it rfl ?_)
   exact hK
  | 49, _, _ =>
   repeat' (first | (refine ⟨⟨by omega, by omega⟩, ?_⟩; intro q hq; subst hq) | refine ie rfl ?_ | refine it rfl ?_)
   exact hK
  | k + 50, _, hk => exact absurd hk (by omega)
 ·cases hs
set_option maxHeartbeats 1000000 in
theorem ok64 {T : Tab} (O : Ok M T) : Ok M (T.addC 64 C64) := by
 refine freshK O (ok94 (ok93 ok0)) (n := 100) (by kernel_rfl) rfl fun args h s hs => ?_
 unfold C64 at hs
 split at hs
 ·rename_i si sf b e n r op x y nm t a
  obtain ⟨⟨t⟩⟩ := t
  cases hs
  refine ⟨rfl, _, _, _, _, rfl, fun hp K hK => v64 M si sf b e n r op x y nm t a K ?_⟩
  replace hK : K (aStr (popsF sf op x y)) := hK
  obtain ⟨hrg, hfs, hpr⟩ := hp
  replace hpr : properB si.length sf.length r op x y nm t = true := hpr
  obtain ⟨k, rfl, hk1, hk⟩ := nat_op (proper_op hpr)
  match k, hk1, hk with
  | 0, h, _ => exact absurd h (by decide)
  | 1, _, _ =>
   repeat' (first | (refine ⟨⟨by omega, by omega⟩, ?_⟩; intro q hq; subst hq) | refine ie rfl ?_ | refine it rfl ?_)
   exact hK
  | 2, _, _ =>
   repeat' (first | (refine ⟨⟨by omega, by omega⟩, ?_⟩; intro q hq; subst hq) | refine ie rfl ?_ | refine it rfl ?_)
   exact hK
  | 3, _, _ =>
   repeat' (first | (refine ⟨⟨by omega, by omega⟩, ?_⟩; intro q hq; subst hq) | refine ie rfl ?_ | refine it rfl ?_)
   exact hK
  | 4, _, _ =>
   repeat' (first | (refine ⟨⟨by omega, by omega⟩, ?_⟩; intro q hq; subst hq) | refine ie rfl ?_ | refine it rfl ?_)
   exact hK
  | 5, _, _ =>
   repeat' (first | (refine ⟨⟨by omega, by omega⟩, ?_⟩; intro q hq; subst hq) | refine ie rfl ?_ | refine it rfl ?_)
   exact hK
  | 6, _, _ =>
   repeat' (first | (refine ⟨⟨by omega, by omega⟩, ?_⟩; intro q hq; subst hq) | refine ie rfl ?_ | refine it rfl ?_)
   exact hK
  | 7, _, _ =>
   repeat' (first | (refine ⟨⟨by omega, by omega⟩, ?_⟩; intro q hq; subst hq) | refine ie rfl ?_ | refine it rfl ?_)
   exact hK
  | 8, _, _ =>
   have hy := wB_spec (show wB y 1 4096 = true from hpr)
   repeat' (first | (refine ⟨⟨by omega, by omega⟩, ?_⟩; intro q hq; subst hq) | refine ie rfl ?_ | refine it rfl ?_)
   exact hK
  | 9, _, _ =>
   repeat' (first | (refine ⟨⟨by omega, by omega⟩, ?_⟩; intro q hq; subst hq) | refine ie rfl ?_ | refine it rfl ?_)
   exact hK
  | 10, _, _ =>
   repeat' (first | (refine ⟨⟨by omega, by omega⟩, ?_⟩; intro q hq; subst hq) | refine ie rfl ?_ | refine it rfl ?_)
   exact hK
  | 11, _, _ =>
   repeat' (first | (refine ⟨⟨by omega, by omega⟩, ?_⟩; intro q hq; subst hq) | refine ie rfl ?_ | refine it rfl ?_)
   exact hK
  | 12, _, _ =>
   repeat' (first | (refine ⟨⟨by omega, by omega⟩, ?_⟩; intro q hq; subst hq) | refine ie rfl ?_ | refine it rfl ?_)
   exact hK
  | 13, _, _ =>
   repeat' (first | (refine ⟨⟨by omega, by omega⟩, ?_⟩; intro q hq; subst hq) | refine ie rfl ?_ | refine it rfl ?_)
   exact hK
  | 14, _, _ =>
   repeat' (first | (refine ⟨⟨by omega, by omega⟩, ?_⟩; intro q hq; subst hq) | refine ie rfl ?_ | refine it rfl ?_)
   exact hK
  | 15, _, _ =>
   repeat' (first | (refine ⟨⟨by omega, by omega⟩, ?_⟩; intro q hq; subst hq) | refine ie rfl ?_ | refine it rfl ?_)
   exact hK
  | 16, _, _ =>
   repeat' (first | (refine ⟨⟨by omega, by omega⟩, ?_⟩; intro q hq; subst hq) | refine ie rfl ?_ | refine it rfl ?_)
   exact hK
  | 17, _, _ =>
   repeat' (first | (refine ⟨⟨by omega, by omega⟩, ?_⟩; intro q hq; subst hq) | refine ie rfl ?_ | refine it rfl ?_)
   exact hK
  | 18, _, _ =>
   repeat' (first | (refine ⟨⟨by omega, by omega⟩, ?_⟩; intro q hq; subst hq) | refine ie rfl ?_ | refine it rfl ?_)
   exact hK
  | 19, _, _ =>
   repeat' (first | (refine ⟨⟨by omega, by omega⟩, ?_⟩; intro q hq; subst hq) | refine ie rfl ?_ | refine it rfl ?_)
   exact hK
  | 20, _, _ =>
   repeat' (first | (refine ⟨⟨by omega, by omega⟩, ?_⟩; intro q hq; subst hq) | refine ie rfl ?_ | refine it rfl ?_)
   exact hK
  | 21, _, _ =>
   repeat' (first | (refine ⟨⟨by omega, by omega⟩, ?_⟩; intro q hq; subst hq) | refine ie rfl ?_ | refine it rfl ?_)
   exact hK
  | 22, _, _ =>
   repeat' (first | (refine ⟨⟨by omega, by omega⟩, ?_⟩; intro q hq; subst hq) | refine ie rfl ?_ | refine it rfl ?_)
   exact hK
  | 23, _, _ =>
   repeat' (first | (refine ⟨⟨by omega, by omega⟩, ?_⟩; intro q hq; subst hq) | refine ie rfl ?_ | refine it rfl ?_)
   exact hK
  | 24, _, _ =>
   repeat' (first | (refine ⟨⟨by omega, by omega⟩, ?_⟩; intro q hq; subst hq) | refine ie rfl ?_ | refine it rfl ?_)
   exact hK
  | 25, _, _ =>
   repeat' (first | (refine ⟨⟨by omega, by omega⟩, ?_⟩; intro q hq; subst hq) | refine ie rfl ?_ | refine it rfl ?_)
   exact hK
  | 26, _, _ =>
   repeat' (first | (refine ⟨⟨by omega, by omega⟩, ?_⟩; intro q hq; subst hq) | refine ie rfl ?_ | refine it rfl ?_)
   exact hK
  | 27, _, _ =>
   repeat' (first | (refine ⟨⟨by omega, by omega⟩, ?_⟩; intro q hq; subst hq) | refine ie rfl ?_ | refine it rfl ?_)
   exact hK
  | 28, _, _ =>
   have hx := wB_spec (show wB x 0 ((sf.length : Int) - 1) = true from hpr)
   obtain ⟨f, hr⟩ := funsok_row hfs hx.1 (by omega)
   have hna : f.arrays.length ≤ 1048576 := hr.ok.na
   have heq := hr.eq
   repeat' (first | (refine ⟨⟨by omega, by omega⟩, ?_⟩; intro q hq; subst hq) | refine ie rfl ?_ | refine it rfl ?_)
   refine it (by rw [inRange_iff]; omega) ⟨by rw [hr.get, hr.nm, hr.en, hr.ps, hr.bs]; rfl, ?_⟩
   refine ⟨⟨by rw [hr.ps, hr.bs, rowS_len, rowO_len]; exact heq, f.arrays, hr.bs, hna⟩, ?_⟩
   intro q hq
   subst hq
   exact hK
  | 29, _, _ =>
   repeat' (first | (refine ⟨⟨by omega, by omega⟩, ?_⟩; intro q hq; subst hq) | refine ie rfl ?_ | refine it rfl ?_)
   exact hK
  | 30, _, _ =>
   rcases y30 (show properB si.length sf.length r 30 x y nm t = true from hpr) with rfl | rfl | rfl | rfl
   all_goals repeat' (first | (refine ⟨⟨by decide, by decide⟩, ?_⟩; intro q hq; subst hq) | refine ie rfl ?_ | refine it rfl ?_)
   all_goals exact hK
  | 31, _, _ =>
   have hy := y31 (show properB si.length sf.length r 31 x y nm t = true from hpr)
   repeat' (first | (refine ⟨⟨by omega, by omega⟩, ?_⟩; intro q hq; subst hq) | refine ie rfl ?_ | refine it rfl ?_)
   exact hK
  | 32, _, _ =>
   repeat' (first | (refine ⟨⟨by omega, by omega⟩, ?_⟩; intro q hq; subst hq) | refine ie rfl ?_ | refine it rfl ?_)
   exact hK
  | 33, _, _ =>
   rcases y33 (show properB si.length sf.length r 33 x y nm t = true from hpr) with rfl | rfl | rfl | rfl | rfl | rfl
   all_goals repeat' (first | (refine ⟨⟨by decide, by decide⟩, ?_⟩; intro q hq; subst hq) | refine ie rfl ?_ | refine it rfl ?_)
   all_goals exact hK
  | 34, _, _ =>
   repeat' (first | (refine ⟨⟨by omega, by omega⟩, ?_⟩; intro q hq; subst hq) | refine ie rfl ?_ | refine it rfl ?_)
   exact hK
  | 35, _, _ =>
   have hy := wB_spec (show wB y 1 4096 = true from hpr)
   repeat' (first | (refine ⟨⟨by omega, by omega⟩, ?_⟩; intro q hq; subst hq) | refine ie rfl ?_ | refine it rfl ?_)
   exact hK
  | 36, _, _ =>
   have hy := wB_spec (show wB y 1 4096 = true from hpr)
   repeat' (first | (refine ⟨⟨by omega, by omega⟩, ?_⟩; intro q hq; subst hq) | refine ie rfl ?_ | refine it rfl ?_)
   exact hK
  | 37, _, _ =>
   have hx := wB_spec (show wB x 0 2 = true from hpr)
   have hx : x = 0 ∨ x = 1 ∨ x = 2 := by omega
   rcases hx with rfl | rfl | rfl
   all_goals repeat' (first | (refine ⟨⟨by decide, by decide⟩, ?_⟩; intro q hq; subst hq) | refine ie rfl ?_ | refine it rfl ?_)
   all_goals exact hK
  | 38, _, _ =>
   repeat' (first | (refine ⟨⟨by omega, by omega⟩, ?_⟩; intro q hq; subst hq) | refine ie rfl ?_ | refine it rfl ?_)
   exact hK
  | 39, _, _ =>
   repeat' (first | (refine ⟨⟨by omega, by omega⟩, ?_⟩; intro q hq; subst hq) | refine ie rfl ?_ | refine it rfl ?_)
   exact hK
  | 40, _, _ =>
   repeat' (first | (refine ⟨⟨by omega, by omega⟩, ?_⟩; intro q hq; subst hq) | refine ie rfl ?_ | refine it rfl ?_)
   exact hK
  | 41, _, _ =>
   repeat' (first | (refine ⟨⟨by omega, by omega⟩, ?_⟩; intro q hq; subst hq) | refine ie rfl ?_ | refine it rfl ?_)
   exact hK
  | 42, _, _ =>
   repeat' (first | (refine ⟨⟨by omega, by omega⟩, ?_⟩; intro q hq; subst hq) | refine ie rfl ?_ | refine it rfl ?_)
   exact hK
  | 43, _, _ =>
   repeat' (first | (refine ⟨⟨by omega, by omega⟩, ?_⟩; intro q hq; subst hq) | refine ie rfl ?_ | refine it rfl ?_)
   exact hK
  | 44, _, _ =>
   have hy := wB_spec (show wB y 0 1 = true from hpr)
   repeat' (first | (refine ⟨⟨by omega, by omega⟩, ?_⟩; intro q hq; subst hq) | refine ie rfl ?_ | refine it rfl ?_)
   exact hK
  | 45, _, _ =>
   repeat' (first | (refine ⟨⟨by omega, by omega⟩, ?_⟩; intro q hq; subst hq) | refine ie rfl ?_ | refine it rfl ?_)
   exact hK
  | 46, _, _ =>
   repeat' (first | (refine ⟨⟨by omega, by omega⟩, ?_⟩; intro q hq; subst hq) | refine ie rfl ?_ | refine it rfl ?_)
   exact hK
  | 47, _, _ =>
   repeat' (first | (refine ⟨⟨by omega, by omega⟩, ?_⟩; intro q hq; subst hq) | refine ie rfl ?_ | refine it rfl ?_)
   exact hK
  | 48, _, _ =>
   repeat' (first | (refine ⟨⟨by omega, by omega⟩, ?_⟩; intro q hq; subst hq) | refine ie rfl ?_ | refine it rfl ?_)
   exact hK
  | 49, _, _ =>
   repeat' (first | (refine ⟨⟨by omega, by omega⟩, ?_⟩; intro q hq; subst hq) | refine ie rfl ?_ | refine it rfl ?_)
   exact hK
  | k + 50, _, hk => exact absurd hk (by omega)
 ·cases hs
end
end Go.Proofs.Sp.Sj
namespace Go.Proofs.Sp.Sj
open Go Go.Ef Go.Proofs.Pt
noncomputable section
abbrev Fi := Option (Cells × Cells)
def goB (x : Int) (fi : Fi) (array : Bool) : Bool :=
 if x < 0 then true else match fi with
  | none => false
  | some (ps, bs) => decide (x < ps.length) && (cellBool bs x 0 == array)
def slotB (op x y : Int) (fi : Fi) : Bool :=
 if op = 6 then goB x fi false else if op = 11 then goB x fi false else if op = 14 then goB x fi false else
 if op = 9 then goB x fi true else if op = 10 then goB x fi true else if op = 13 then goB x fi true else if op = 16 then goB x fi true else if op = 26 then goB x fi true else
 if op = 32 then goB x fi true else if op = 38 then goB x fi true else if op = 41 then goB x fi true else if op = 42 then goB x fi true else
 if op = 30 then (if y.tmod 4 = 0 ∨ y.tmod 4 = 2 then true else goB x fi (decide (y.tmod 4 = 3))) else
 if op = 33 then (if y.tmod 4 = 0 ∨ y.tmod 4 = 2 then true else goB x fi (decide (y.tmod 4 = 3))) else true
def fiOf (sf : Cells) (fn : Int) : Fi := if 0 ≤ fn then some (cellSl sf fn 2, cellSl sf fn 3) else none
structure FnOk (sf : Cells) (fn : Int) : Prop where
 lo : -1 ≤ fn
 hi : fn < sf.length
def C34 (args : List AV) (h : Heap) : Option CSpec :=
 match args with
 | [.agg [.sl si 0, .sl sf 0, .sc (.int .i64 _), .sc (.int .i64 _), .sc (.int .i64 _), .sc (.int .i64 r)], .agg [.sc (.int .i64 op), .sc (.int .i64 x), .sc (.int .i64 y), .sc (.int .i64 nm), .sc (.string t), .sc (.int .i64 _)], .agg [.sc (.int .i64 _), .sc (.int .i64 fn)]] =>
   some (nspec (InsOk si sf r op x y nm t.data.toList ∧ FnOk sf fn) (partB op (decide (0 ≤ fn)) && slotB op x y (fiOf sf fn)) bA h)
 | _ => none
def T34 : Tab := tab0.addC 31 C31
structure FpOk (h : Heap) (id : Nat) (f : FunD) : Prop where
 ps : cellIn h id 2 = some (.sl (rowS f.params) 0)
 bs : cellIn h id 3 = some (.sl (rowO f.arrays) 0)
 eq : f.params.length = f.arrays.length
 ok : FunOk f
structure FpIs (h : Heap) (id : Nat) : Prop where
 is : ∃ f, FpOk h id f
def fiAt (h : Heap) (id : Nat) : Fi := some (elsIn h id 2, elsIn h id 3)
def C66 (args : List AV) (h : Heap) : Option CSpec :=
 match args with
 | [.agg [.sc (.int .i64 op), .sc (.int .i64 x), .sc (.int .i64 y), .sc (.int .i64 _), .sc (.string _), .sc (.int .i64 _)], f] => match f with
  | .sc (.pointer none) => some (nspec True (slotB op x y none) bA h)
  | .ptr id 0 => some (nspec (FpIs h id) (slotB op x y (fiAt h id)) bA h)
  | _ => none
 | _ => none
def Tab.heapy (T : Tab) (f : Nat) : Tab := { T with hv := fun x => bif Nat.beq x f then true else T.hv x, lazy := fun x => bif Nat.beq x f then true else T.lazy x }
def optW (w : Nat → Nat) : Option Nat → Nat
 | some t => w t
 | none => 0
def Tab.slices (T : Tab) (f : Nat) (w : Nat → Nat) : Tab := { T with hs := fun x d => bif Nat.beq x f then optW w d else T.hs x d }
def T66 : Tab := Tab.slices (Tab.heapy tab0 66) 66 fun _ => 2
def rowT (l : List (Int × List UInt8)) : Cells := l.map fun p => [iA p.1, aStr p.2]
def nextK (op x at' : Int) (s rest : List UInt8) : Option (List (Int × List UInt8)) :=
 if op = 29 then some [] else if op = 43 then some [] else if op = 44 then some [] else
 if op = 48 then (if s = [] then some [] else none) else if op = 49 then (if s = [] then some [] else none) else
 if op = 22 then some [(x, rest)] else if op = 39 then some [(x, s), (at' + 1, rest ++ pushF op)] else
 if op = 23 then some [(x, rest), (at' + 1, rest ++ pushF op)] else if op = 24 then some [(x, rest), (at' + 1, rest ++ pushF op)] else if op = 45 then some [(x, rest), (at' + 1, rest ++ pushF op)] else
 some [(at' + 1, rest ++ pushF op)]
def nextF (si sf : Cells) (at' : Int) (s : List UInt8) : Option (List (Int × List UInt8)) :=
 if (cutT s (popsF sf (cellInt si at' 0) (cellInt si at' 1) (cellInt si at' 2))).2 = true then
  nextK (cellInt si at' 0) (cellInt si at' 1) at' s (cutT s (popsF sf (cellInt si at' 0) (cellInt si at' 1) (cellInt si at' 2))).1 else none
structure Codes (si sf : Cells) (r : Int) : Prop where
 rg : Rgs si sf r
 fs : FunsOk sf
 is : ∃ l, si = rowI l ∧ ∀ i ∈ l, InstOk i.op i.x i.y i.n i.t ∧ properB si.length sf.length r i.op i.x i.y i.n i.t = true
 n : si.length ≤ 4096
structure AtOk (si : Cells) (at' : Int) (s : List UInt8) : Prop where
 lo : 0 ≤ at'
 hi : at' < si.length
 s : s.length ≤ 1000000
structure Nx (a : Option (List (Int × List UInt8))) (b : Bool) : Prop where
 t : b = true → a = some []
 f : b = false → a = none
structure Ny (a : Option (List (Int × List UInt8))) (l : List (Int × List UInt8)) : Prop where
 is : a = some l
 ne : l ≠ []
def C33 (args : List AV) (h : Heap) : Option CSpec :=
 match args with
 | [.agg [.sl si 0, .sl sf 0, .sc (.int .i64 _), .sc (.int .i64 _), .sc (.int .i64 _), .sc (.int .i64 r)], .agg [.sc (.int .i64 at'), .sc (.string s)]] =>
   some { pre := Codes si sf r ∧ AtOk si at' s.data.toList, alts := [{ α := Bool, post := fun b => Nx (nextF si sf at' s.data.toList) b, val := fun b => .tup [nilA, bA b], heap := fun _ => h }, { α := List (Int × List UInt8), post := fun l => Ny (nextF si sf at' s.data.toList) l, val := fun l => .tup [.sl (rowT l) 0, bA true], heap := fun _ => h }] }
 | _ => none
def T33 : Tab := (tab0.addC 58 C58).addC 59 C59
end
end Go.Proofs.Sp.Sj
namespace Go.Proofs.Sp.Sj
abbrev Str := List UInt8
abbrev Lab := Int → Option Str
def Lab.set (D : Lab) (i : Int) (s : Str) : Lab := fun j => if j = i then some s else D j
theorem Lab.set_same (D : Lab) (i : Int) (s : Str) : D.set i s i = some s := if_pos rfl
theorem Lab.set_other (D : Lab) {i j : Int} (s : Str) (h : j ≠ i) : D.set i s j = D j := if_neg h
def Lab.none : Lab := fun _ => Option.none
section
variable {n : Nat} {step : Int → Str → Option (List (Int × Str))}
structure Ext (n : Nat) (step : Int → Str → Option (List (Int × Str))) (D : Lab) (l : List (Int × Str)) (L : Lab) : Prop where
 sub : ∀ i s, D i = some s → L i = some s
 has : ∀ p ∈ l, L p.1 = some p.2
 ok : ∀ i s, L i = some s → D i = Option.none → 0 ≤ i ∧ i < n ∧ ∃ m, step i s = some m ∧ ∀ p ∈ m, L p.1 = some p.2
def Reach (n : Nat) (step : Int → Str → Option (List (Int × Str))) (D : Lab) (l : List (Int × Str)) : Prop := ∃ L, Ext n step D l L
theorem reach_nil (D : Lab) : Reach n step D [] := ⟨D, fun _ _ h => h, fun _ h => (by cases h), fun i s h h' => (by rw [h'] at h; cases h)⟩
theorem reach_same {D : Lab} {l m : List (Int × Str)} (h : ∀ p, p ∈ m → p ∈ l) (k : Reach n step D l) : Reach n step D m :=
 let ⟨L, h1, h2, h3⟩ := k
 ⟨L, h1, fun p hp => h2 p (h p hp), h3⟩
theorem reach_iff {D : Lab} {l m : List (Int × Str)} (h : ∀ p, p ∈ m ↔ p ∈ l) : Reach n step D l ↔ Reach n step D m :=
 ⟨reach_same fun p => (h p).1, reach_same fun p => (h p).2⟩
theorem reach_out {D : Lab} {l : List (Int × Str)} {i : Int} {s : Str} (hm : (i, s) ∈ l) (hd : D i = Option.none) (h : ¬(0 ≤ i ∧ i < n)) : ¬Reach n step D l := by
 rintro ⟨L, h1, h2, h3⟩
 obtain ⟨h4, h5, _⟩ := h3 i s (h2 _ hm) hd
 exact h ⟨h4, h5⟩
theorem reach_other {D : Lab} {l : List (Int × Str)} {i : Int} {s t : Str} (hm : (i, s) ∈ l) (hd : D i = some t) (h : t ≠ s) : ¬Reach n step D l := by
 rintro ⟨L, h1, h2, h3⟩
 have a := h2 _ hm
 have b := h1 i t hd
 simp only [] at a
 rw [a] at b
 cases b
 exact h rfl
theorem reach_two {D : Lab} {l : List (Int × Str)} {i : Int} {s t : Str} (h1 : (i, s) ∈ l) (h2 : (i, t) ∈ l) (h : s ≠ t) : ¬Reach n step D l := by
 rintro ⟨L, _, h3, _⟩
 have a := h3 _ h1
 have b := h3 _ h2
 simp only [] at a b
 rw [a] at b
 cases b
 exact h rfl
theorem reach_done {D : Lab} {l : List (Int × Str)} {i : Int} {s : Str} (hd : D i = some s) : Reach n step D ((i, s) :: l) ↔ Reach n step D l := by
 constructor
 ·exact reach_same fun p hp => List.mem_cons_of_mem _ hp
 ·rintro ⟨L, h1, h2, h3⟩
  refine ⟨L, h1, fun p hp => ?_, h3⟩
  rcases List.mem_cons.1 hp with rfl | hp
  ·exact h1 i s hd
  ·exact h2 p hp
theorem reach_bad {D : Lab} {l : List (Int × Str)} {i : Int} {s : Str} (hm : (i, s) ∈ l) (hd : D i = Option.none) (h : step i s = Option.none) : ¬Reach n step D l := by
 rintro ⟨L, h1, h2, h3⟩
 obtain ⟨_, _, m, hm', _⟩ := h3 i s (h2 _ hm) hd
 rw [h] at hm'; cases hm'
theorem reach_step {D : Lab} {l m : List (Int × Str)} {i : Int} {s : Str} (hd : D i = Option.none) (h0 : 0 ≤ i) (h1 : i < n) (hs : step i s = some m) : Reach n step D ((i, s) :: l) ↔ Reach n step (D.set i s) (m ++ l) := by
 constructor
 ·rintro ⟨L, a1, a2, a3⟩
  have ai : L i = some s := a2 (i, s) (by simp)
  refine ⟨L, fun j t hj => ?_, fun p hp => ?_, fun j t hj hn => ?_⟩
  ·by_cases e : j = i
   ·subst e
    rw [Lab.set_same] at hj
    rw [← hj]; exact ai
   ·rw [Lab.set_other _ _ e] at hj
    exact a1 j t hj
  ·rcases List.mem_append.1 hp with hp | hp
   ·obtain ⟨_, _, m', hm', hk⟩ := a3 i s ai hd
    rw [hs] at hm'; cases hm'
    exact hk p hp
   ·exact a2 p (List.mem_cons_of_mem _ hp)
  ·by_cases e : j = i
   ·subst e; rw [Lab.set_same] at hn; cases hn
   ·rw [Lab.set_other _ _ e] at hn
    exact a3 j t hj hn
 ·rintro ⟨L, a1, a2, a3⟩
  have ai : L i = some s := a1 i s (Lab.set_same _ _ _)
  refine ⟨L, fun j t hj => ?_, fun p hp => ?_, fun j t hj hn => ?_⟩
  ·have e : j ≠ i := by intro e; subst e; rw [hd] at hj; cases hj
   exact a1 j t (by rw [Lab.set_other _ _ e]; exact hj)
  ·rcases List.mem_cons.1 hp with rfl | hp
   ·exact ai
   ·exact a2 p (List.mem_append_right _ hp)
  ·by_cases e : j = i
   ·subst e
    rw [ai] at hj; cases hj
    exact ⟨h0, h1, m, hs, fun p hp => a2 p (List.mem_append_left _ hp)⟩
   ·exact a3 j t hj (by rw [Lab.set_other _ _ e]; exact hn)
def free (n : Nat) (D : Lab) : Nat := ((List.range n).filter fun i : Nat => (D (i : Int)).isNone).length
theorem free_none (n : Nat) : free n Lab.none = n := by
 unfold free
 have : (List.range n).filter (fun i : Nat => (Lab.none (i : Int)).isNone) = List.range n := List.filter_eq_self.2 fun _ _ => rfl
 rw [this, List.length_range]
theorem filter_drop {p q : Nat → Bool} {i : Nat} : ∀ (l : List Nat), l.Nodup → i ∈ l → p i = true → q i = false → (∀ j ∈ l, j ≠ i → q j = p j) → (l.filter q).length + 1 = (l.filter p).length := by
 intro l
 induction l with
 | nil => intro _ h; cases h
 | cons a l ih =>
  intro hd hm hp hq hs
  rw [List.nodup_cons] at hd
  by_cases e : a = i
  ·subst e
   rw [List.filter_cons_of_pos hp, List.filter_cons_of_neg (by rw [hq]; decide), List.length_cons]
   congr 1
   congr 1
   refine List.filter_congr fun j hj => hs j (List.mem_cons_of_mem _ hj) ?_
   intro e; subst e; exact hd.1 hj
  ·have hm' : i ∈ l := by
    rcases List.mem_cons.1 hm with h | h
    ·exact absurd h.symm e
    ·exact h
   have ih := ih hd.2 hm' hp hq fun j hj hne => hs j (List.mem_cons_of_mem _ hj) hne
   have ha := hs a (List.mem_cons_self ..) e
   cases hpa : p a with
   | true =>
    rw [List.filter_cons_of_pos hpa, List.filter_cons_of_pos (by rw [ha, hpa])]
    simp only [List.length_cons]; omega
   | false =>
    rw [List.filter_cons_of_neg (l := l) (by rw [ha, hpa]; decide), List.filter_cons_of_neg (p := p) (by rw [hpa]; decide)]
    exact ih
theorem free_set {D : Lab} {i : Int} {s : Str} (hd : D i = Option.none) (h0 : 0 ≤ i) (h1 : i < n) : free n (D.set i s) + 1 = free n D := by
 obtain ⟨k, rfl⟩ : ∃ k : Nat, i = k := ⟨i.toNat, by omega⟩
 unfold free
 refine filter_drop (i := k) _ List.nodup_range (List.mem_range.2 (by omega)) (by rw [hd]; rfl) (by rw [Lab.set_same]; rfl) fun j _ hne => ?_
 rw [Lab.set_other _ _ (by omega)]
structure Fine (n : Nat) (D : Lab) : Prop where
 dom : ∀ i s, D i = some s → 0 ≤ i ∧ i < n
theorem Fine.none (n : Nat) : Fine n Lab.none := ⟨fun _ _ h => (by cases h)⟩
theorem Fine.set {D : Lab} (h : Fine n D) {i : Int} {s : Str} (h0 : 0 ≤ i) (h1 : i < n) : Fine n (D.set i s) := ⟨fun j t hj => by
 by_cases e : j = i
 ·subst e; exact ⟨h0, h1⟩
 ·rw [Lab.set_other _ _ e] at hj; exact h.dom j t hj⟩
end
end Go.Proofs.Sp.Sj
namespace Go.Proofs.Sp.Sj
open Go Go.Ef Go.Proofs.Pt
noncomputable section
def rI (σ : St) (t : Nat) : Nat :=
 match σ.at t with
 | .v (.rsl i _ _ _) => i
 | _ => 0
def rO (σ : St) (t : Nat) : Nat :=
 match σ.at t with
 | .v (.rsl _ o _ _) => o
 | _ => 0
def mpI (σ : St) (t : Nat) : Nat :=
 match σ.at t with
 | .v (.mp i) => i
 | _ => 0
def I12 (si sf : Cells) (b e n r ra fn : Int) (im il off len : Nat) (g : Heap) : St := stOf 77 [(2, .lp 0 0), (3, .lp 1 0), (5, .v (.mp im)), (6, .v (.rsl il off len 2))] [.cells (codeC si sf b e n r), .cells [iA ra, iA fn]] g
def E12 (si sf : Cells) (b e n r ra fn : Int) (g : Heap) : St := stOf 77 [(4, .unk)] [.cells (codeC si sf b e n r), .cells [iA ra, iA fn]] g
def R12 (si sf : Cells) (b e n r ra fn : Int) (g : Heap) : St := stOf 77 [(4, .v (bA false))] [.cells (codeC si sf b e n r), .cells [iA ra, iA fn]] g
def q12 (si sf : Cells) (b e n r ra fn : Int) (X : Prop) (R : Heap → Prop) (ex : Ex) (τ : St) : Prop :=
 match ex with
 | .exit _ => ex = .exit 0 ∧ τ = E12 si sf b e n r ra fn τ.h ∧ X
 | .ret => τ = R12 si sf b e n r ra fn τ.h ∧ R τ.h
 | _ => False
def T12r : Tab := Tab.heapy ((tab0.addC 33 C33).addC 34 C34) 12
end
end Go.Proofs.Sp.Sj
namespace Go.Proofs.Sp.Sj
open Go Go.Ef Go.Proofs.Pt
noncomputable section
set_option maxRecDepth 100000
theorem r12 (M : Int) (si : Cells) (sf : Cells) (b : Int) (e : Int) (n : Int) (r : Int) (ra : Int) (fn : Int) (im : Nat) (il : Nat) (off : Nat) (len : Nat) (g : Heap) (N : Nat → Nat → Nat → Heap → Prop) (X : Prop) (R : Heap → Prop) (h :
 iteP (decide ((0 : Int) < (↑len : Int)))
 (iteP (inRange (IntKind.i64.wrap ((↑len : Int) - (1 : Int))) len)
 (iteP
 (kdsIn g il (off + (IntKind.i64.wrap ((↑len : Int) - (1 : Int))).toNat * (2 : Nat))
 [[Kd.int IntKind.i64], [Kd.str]].flatten)
 (iteP
 (decide ((0 : Int) ≤ IntKind.i64.wrap ((↑len : Int) - (1 : Int))) &&
 decide (IntKind.i64.wrap ((↑len : Int) - (1 : Int)) ≤ (↑len : Int)))
 (iteP
 (decide
 ((↑(List.length si) : Int) ≤
 intIn g il (off + (IntKind.i64.wrap ((↑len : Int) - (1 : Int))).toNat * (2 : Nat))))
 (R12 si sf b e n r ra fn g = R12 si sf b e n r ra fn g ∧ R g)
 (iteP (mapIn g im IntKind.i64)
 (iteP (mapHas g im (intIn g il (off + (IntKind.i64.wrap ((↑len : Int) - (1 : Int))).toNat * (2 : Nat))))
 (iteP
 (decide
 (mapStr g im (intIn g il (off + (IntKind.i64.wrap ((↑len : Int) - (1 : Int))).toNat * (2 : Nat))) ≠
 txtIn g il (off + (IntKind.i64.wrap ((↑len : Int) - (1 : Int))).toNat * (2 : Nat) + (1 : Nat))))
 (R12 si sf b e n r ra fn g = R12 si sf b e n r ra fn g ∧ R g)
 (I12 si sf b e n r ra fn im il off (IntKind.i64.wrap ((↑len : Int) - (1 : Int))).toNat g =
 I12 si sf b e n r ra fn im il off (IntKind.i64.wrap ((↑len : Int) - (1 : Int))).toNat g ∧
 N il off (IntKind.i64.wrap ((↑len : Int) - (1 : Int))).toNat g))
 (iteP (mapIn g im IntKind.i64 && mapPut g im)
 ((Codes si sf r ∧
 AtOk si (intIn g il (off + (IntKind.i64.wrap ((↑len : Int) - (1 : Int))).toNat * (2 : Nat)))
 (txtIn g il
 (off + (IntKind.i64.wrap ((↑len : Int) - (1 : Int))).toNat * (2 : Nat) + (1 : Nat)))) ∧
 (∀ (x : Bool),
 Nx
 (nextF si sf
 (intIn g il (off + (IntKind.i64.wrap ((↑len : Int) - (1 : Int))).toNat * (2 : Nat)))
 (txtIn g il
 (off + (IntKind.i64.wrap ((↑len : Int) - (1 : Int))).toNat * (2 : Nat) + (1 : Nat))))
 x →
 iteP x
 (iteP
 (inRange
 (intIn g il (off + (IntKind.i64.wrap ((↑len : Int) - (1 : Int))).toNat * (2 : Nat)))
 (List.length si))
 (getI
 (intIn g il
 (off + (IntKind.i64.wrap ((↑len : Int) - (1 : Int))).toNat * (2 : Nat))).toNat
 si =
 some
 [AV.sc
 (Value.int IntKind.i64
 (cellInt si
 (intIn g il
 (off + (IntKind.i64.wrap ((↑len : Int) - (1 : Int))).toNat * (2 : Nat)))
 (0 : Nat))),
 AV.sc
 (Value.int IntKind.i64
 (cellInt si
 (intIn g il
 (off + (IntKind.i64.wrap ((↑len : Int) - (1 : Int))).toNat * (2 : Nat)))
 (1 : Nat))),
 AV.sc
 (Value.int IntKind.i64
 (cellInt si
 (intIn g il
 (off + (IntKind.i64.wrap ((↑len : Int) - (1 : Int))).toNat * (2 : Nat)))
 (2 : Nat))),
 AV.sc
 (Value.int IntKind.i64
 (cellInt si
 (intIn g il
 (off + (IntKind.i64.wrap ((↑len : Int) - (1 : Int))).toNat * (2 : Nat)))
 (3 : Nat))),
 AV.sc
 (Value.string
 (ByteArray.mk
 (Array.mk
 (cellStr si
 (intIn g il
 (off + (IntKind.i64.wrap ((↑len : Int) - (1 : Int))).toNat * (2 : Nat)))
 (4 : Nat))))),
 AV.sc
 (Value.int IntKind.i64
 (cellInt si
 (intIn g il
 (off + (IntKind.i64.wrap ((↑len : Int) - (1 : Int))).toNat * (2 : Nat)))
 (5 : Nat)))] ∧
 (InsOk si sf r
 (cellInt si
 (intIn g il
 (off + (IntKind.i64.wrap ((↑len : Int) - (1 : Int))).toNat * (2 : Nat)))
 (0 : Nat))
 (cellInt si
 (intIn g il
 (off + (IntKind.i64.wrap ((↑len : Int) - (1 : Int))).toNat * (2 : Nat)))
 (1 : Nat))
 (cellInt si
 (intIn g il
 (off + (IntKind.i64.wrap ((↑len : Int) - (1 : Int))).toNat * (2 : Nat)))
 (2 : Nat))
 (cellInt si
 (intIn g il
 (off + (IntKind.i64.wrap ((↑len : Int) - (1 : Int))).toNat * (2 : Nat)))
 (3 : Nat))
 (cellStr si
 (intIn g il
 (off + (IntKind.i64.wrap ((↑len : Int) - (1 : Int))).toNat * (2 : Nat)))
 (4 : Nat)) ∧
 FnOk sf fn) ∧
 ∀ (x : Bool),
 x =
 (partB
 (cellInt si
 (intIn g il
 (off + (IntKind.i64.wrap ((↑len : Int) - (1 : Int))).toNat * (2 : Nat)))
 (0 : Nat))
 (decide ((0 : Int) ≤ fn)) &&
 slotB
 (cellInt si
 (intIn g il
 (off + (IntKind.i64.wrap ((↑len : Int) - (1 : Int))).toNat * (2 : Nat)))
 (0 : Nat))
 (cellInt si
 (intIn g il
 (off + (IntKind.i64.wrap ((↑len : Int) - (1 : Int))).toNat * (2 : Nat)))
 (1 : Nat))
 (cellInt si
 (intIn g il
 (off + (IntKind.i64.wrap ((↑len : Int) - (1 : Int))).toNat * (2 : Nat)))
 (2 : Nat))
 (fiOf sf fn)) →
 iteP x
 (I12 si sf b e n r ra fn im il off
 (IntKind.i64.wrap ((↑len : Int) - (1 : Int))).toNat
 (mapSet g im IntKind.i64
 (intIn g il
 (off + (IntKind.i64.wrap ((↑len : Int) - (1 : Int))).toNat * (2 : Nat)))
 (txtIn g il
 (off + (IntKind.i64.wrap ((↑len : Int) - (1 : Int))).toNat * (2 : Nat) +
 (1 : Nat)))) =
 I12 si sf b e n r ra fn im il off
 (IntKind.i64.wrap ((↑len : Int) - (1 : Int))).toNat
 (mapSet g im IntKind.i64
 (intIn g il
 (off + (IntKind.i64.wrap ((↑len : Int) - (1 : Int))).toNat * (2 : Nat)))
 (txtIn g il
 (off + (IntKind.i64.wrap ((↑len : Int) - (1 : Int))).toNat * (2 : Nat) +
 (1 : Nat)))) ∧
 N il off (IntKind.i64.wrap ((↑len : Int) - (1 : Int))).toNat
 (mapSet g im IntKind.i64
 (intIn g il
 (off + (IntKind.i64.wrap ((↑len : Int) - (1 : Int))).toNat * (2 : Nat)))
 (txtIn g il
 (off + (IntKind.i64.wrap ((↑len : Int) - (1 : Int))).toNat * (2 : Nat) +
 (1 : Nat)))))
 (R12 si sf b e n r ra fn
 (mapSet g im IntKind.i64
 (intIn g il
 (off + (IntKind.i64.wrap ((↑len : Int) - (1 : Int))).toNat * (2 : Nat)))
 (txtIn g il
 (off + (IntKind.i64.wrap ((↑len : Int) - (1 : Int))).toNat * (2 : Nat) +
 (1 : Nat)))) =
 R12 si sf b e n r ra fn
 (mapSet g im IntKind.i64
 (intIn g il
 (off + (IntKind.i64.wrap ((↑len : Int) - (1 : Int))).toNat * (2 : Nat)))
 (txtIn g il
 (off + (IntKind.i64.wrap ((↑len : Int) - (1 : Int))).toNat * (2 : Nat) +
 (1 : Nat)))) ∧
 R
 (mapSet g im IntKind.i64
 (intIn g il
 (off + (IntKind.i64.wrap ((↑len : Int) - (1 : Int))).toNat * (2 : Nat)))
 (txtIn g il
 (off + (IntKind.i64.wrap ((↑len : Int) - (1 : Int))).toNat * (2 : Nat) +
 (1 : Nat))))))
 False)
 (R12 si sf b e n r ra fn
 (mapSet g im IntKind.i64
 (intIn g il (off + (IntKind.i64.wrap ((↑len : Int) - (1 : Int))).toNat * (2 : Nat)))
 (txtIn g il
 (off + (IntKind.i64.wrap ((↑len : Int) - (1 : Int))).toNat * (2 : Nat) +
 (1 : Nat)))) =
 R12 si sf b e n r ra fn
 (mapSet g im IntKind.i64
 (intIn g il (off + (IntKind.i64.wrap ((↑len : Int) - (1 : Int))).toNat * (2 : Nat)))
 (txtIn g il
 (off + (IntKind.i64.wrap ((↑len : Int) - (1 : Int))).toNat * (2 : Nat) +
 (1 : Nat)))) ∧
 R
 (mapSet g im IntKind.i64
 (intIn g il (off + (IntKind.i64.wrap ((↑len : Int) - (1 : Int))).toNat * (2 : Nat)))
 (txtIn g il
 (off + (IntKind.i64.wrap ((↑len : Int) - (1 : Int))).toNat * (2 : Nat) +
 (1 : Nat)))))) ∧
 ∀ (x : List (Int × List UInt8)),
 Ny
 (nextF si sf
 (intIn g il (off + (IntKind.i64.wrap ((↑len : Int) - (1 : Int))).toNat * (2 : Nat)))
 (txtIn g il
 (off + (IntKind.i64.wrap ((↑len : Int) - (1 : Int))).toNat * (2 : Nat) + (1 : Nat))))
 x →
 iteP
 (inRange (intIn g il (off + (IntKind.i64.wrap ((↑len : Int) - (1 : Int))).toNat * (2 : Nat)))
 (List.length si))
 (getI
 (intIn g il
 (off + (IntKind.i64.wrap ((↑len : Int) - (1 : Int))).toNat * (2 : Nat))).toNat
 si =
 some
 [AV.sc
 (Value.int IntKind.i64
 (cellInt si
 (intIn g il
 (off + (IntKind.i64.wrap ((↑len : Int) - (1 : Int))).toNat * (2 : Nat)))
 (0 : Nat))),
 AV.sc
 (Value.int IntKind.i64
 (cellInt si
 (intIn g il
 (off + (IntKind.i64.wrap ((↑len : Int) - (1 : Int))).toNat * (2 : Nat)))
 (1 : Nat))),
 AV.sc
 (Value.int IntKind.i64
 (cellInt si
 (intIn g il
 (off + (IntKind.i64.wrap ((↑len : Int) - (1 : Int))).toNat * (2 : Nat)))
 (2 : Nat))),
 AV.sc
 (Value.int IntKind.i64
 (cellInt si
 (intIn g il
 (off + (IntKind.i64.wrap ((↑len : Int) - (1 : Int))).toNat * (2 : Nat)))
 (3 : Nat))),
 AV.sc
 (Value.string
 (ByteArray.mk
 (Array.mk
 (cellStr si
 (intIn g il
 (off + (IntKind.i64.wrap ((↑len : Int) - (1 : Int))).toNat * (2 : Nat)))
 (4 : Nat))))),
 AV.sc
 (Value.int IntKind.i64
 (cellInt si
 (intIn g il
 (off + (IntKind.i64.wrap ((↑len : Int) - (1 : Int))).toNat * (2 : Nat)))
 (5 : Nat)))] ∧
 (InsOk si sf r
 (cellInt si
 (intIn g il (off + (IntKind.i64.wrap ((↑len : Int) - (1 : Int))).toNat * (2 : Nat)))
 (0 : Nat))
 (cellInt si
 (intIn g il (off + (IntKind.i64.wrap ((↑len : Int) - (1 : Int))).toNat * (2 : Nat)))
 (1 : Nat))
 (cellInt si
 (intIn g il (off + (IntKind.i64.wrap ((↑len : Int) - (1 : Int))).toNat * (2 : Nat)))
 (2 : Nat))
 (cellInt si
 (intIn g il (off + (IntKind.i64.wrap ((↑len : Int) - (1 : Int))).toNat * (2 : Nat)))
 (3 : Nat))
 (cellStr si
 (intIn g il (off + (IntKind.i64.wrap ((↑len : Int) - (1 : Int))).toNat * (2 : Nat)))
 (4 : Nat)) ∧
 FnOk sf fn) ∧
 ∀ (x_1 : Bool),
 x_1 =
 (partB
 (cellInt si
 (intIn g il
 (off + (IntKind.i64.wrap ((↑len : Int) - (1 : Int))).toNat * (2 : Nat)))
 (0 : Nat))
 (decide ((0 : Int) ≤ fn)) &&
 slotB
 (cellInt si
 (intIn g il
 (off + (IntKind.i64.wrap ((↑len : Int) - (1 : Int))).toNat * (2 : Nat)))
 (0 : Nat))
 (cellInt si
 (intIn g il
 (off + (IntKind.i64.wrap ((↑len : Int) - (1 : Int))).toNat * (2 : Nat)))
 (1 : Nat))
 (cellInt si
 (intIn g il
 (off + (IntKind.i64.wrap ((↑len : Int) - (1 : Int))).toNat * (2 : Nat)))
 (2 : Nat))
 (fiOf sf fn)) →
 iteP x_1
 (iteP (List.all (rowT x) fun (e : List AV) => e.length.beq (2 : Nat))
 (iteP (List.all (rowT x) fun (e : List AV) => e.all AV.one)
 (iteP (List.isEmpty (rowT x))
 (I12 si sf b e n r ra fn im il off
 (IntKind.i64.wrap ((↑len : Int) - (1 : Int))).toNat
 (mapSet g im IntKind.i64
 (intIn g il
 (off +
 (IntKind.i64.wrap ((↑len : Int) - (1 : Int))).toNat * (2 : Nat)))
 (txtIn g il
 (off +
 (IntKind.i64.wrap ((↑len : Int) - (1 : Int))).toNat *
 (2 : Nat) +
 (1 : Nat)))) =
 I12 si sf b e n r ra fn im il off
 (IntKind.i64.wrap ((↑len : Int) - (1 : Int))).toNat
 (mapSet g im IntKind.i64
 (intIn g il
 (off +
 (IntKind.i64.wrap ((↑len : Int) - (1 : Int))).toNat * (2 : Nat)))
 (txtIn g il
 (off +
 (IntKind.i64.wrap ((↑len : Int) - (1 : Int))).toNat *
 (2 : Nat) +
 (1 : Nat)))) ∧
 N il off (IntKind.i64.wrap ((↑len : Int) - (1 : Int))).toNat
 (mapSet g im IntKind.i64
 (intIn g il
 (off +
 (IntKind.i64.wrap ((↑len : Int) - (1 : Int))).toNat * (2 : Nat)))
 (txtIn g il
 (off +
 (IntKind.i64.wrap ((↑len : Int) - (1 : Int))).toNat * (2 : Nat) +
 (1 : Nat)))))
 (iteP
 (fits
 ((IntKind.i64.wrap ((↑len : Int) - (1 : Int))).toNat +
 List.length (rowT x))
 (24 : Nat) &&
 appOk
 (mapSet g im IntKind.i64
 (intIn g il
 (off +
 (IntKind.i64.wrap ((↑len : Int) - (1 : Int))).toNat * (2 : Nat)))
 (txtIn g il
 (off +
 (IntKind.i64.wrap ((↑len : Int) - (1 : Int))).toNat *
 (2 : Nat) +
 (1 : Nat))))
 il off
 ((IntKind.i64.wrap ((↑len : Int) - (1 : Int))).toNat * (2 : Nat)))
 (I12 si sf b e n r ra fn im
 (mapSet g im IntKind.i64
 (intIn g il
 (off +
 (IntKind.i64.wrap ((↑len : Int) - (1 : Int))).toNat *
 (2 : Nat)))
 (txtIn g il
 (off +
 (IntKind.i64.wrap ((↑len : Int) - (1 : Int))).toNat *
 (2 : Nat) +
 (1 : Nat)))).next
 (0 : Nat)
 ((IntKind.i64.wrap ((↑len : Int) - (1 : Int))).toNat +
 List.length (rowT x))
 (appIn
 (mapSet g im IntKind.i64
 (intIn g il
 (off +
 (IntKind.i64.wrap ((↑len : Int) - (1 : Int))).toNat *
 (2 : Nat)))
 (txtIn g il
 (off +
 (IntKind.i64.wrap ((↑len : Int) - (1 : Int))).toNat *
 (2 : Nat) +
 (1 : Nat))))
 il off
 ((IntKind.i64.wrap ((↑len : Int) - (1 : Int))).toNat * (2 : Nat))
 (rowT x)) =
 I12 si sf b e n r ra fn im
 (mapSet g im IntKind.i64
 (intIn g il
 (off +
 (IntKind.i64.wrap ((↑len : Int) - (1 : Int))).toNat *
 (2 : Nat)))
 (txtIn g il
 (off +
 (IntKind.i64.wrap ((↑len : Int) - (1 : Int))).toNat *
 (2 : Nat) +
 (1 : Nat)))).next
 (0 : Nat)
 ((IntKind.i64.wrap ((↑len : Int) - (1 : Int))).toNat +
 List.length (rowT x))
 (appIn
 (mapSet g im IntKind.i64
 (intIn g il
 (off +
 (IntKind.i64.wrap ((↑len : Int) - (1 : Int))).toNat *
 (2 : Nat)))
 (txtIn g il
 (off +
 (IntKind.i64.wrap ((↑len : Int) - (1 : Int))).toNat *
 (2 : Nat) +
 (1 : Nat))))
 il off
 ((IntKind.i64.wrap ((↑len : Int) - (1 : Int))).toNat * (2 : Nat))
 (rowT x)) ∧
 N
 (mapSet g im IntKind.i64
 (intIn g il
 (off +
 (IntKind.i64.wrap ((↑len : Int) - (1 : Int))).toNat *
 (2 : Nat)))
 (txtIn g il
 (off +
 (IntKind.i64.wrap ((↑len : Int) - (1 : Int))).toNat *
 (2 : Nat) +
 (1 : Nat)))).next
 (0 : Nat)
 ((IntKind.i64.wrap ((↑len : Int) - (1 : Int))).toNat +
 List.length (rowT x))
 (appIn
 (mapSet g im IntKind.i64
 (intIn g il
 (off +
 (IntKind.i64.wrap ((↑len : Int) - (1 : Int))).toNat *
 (2 : Nat)))
 (txtIn g il
 (off +
 (IntKind.i64.wrap ((↑len : Int) - (1 : Int))).toNat *
 (2 : Nat) +
 (1 : Nat))))
 il off
 ((IntKind.i64.wrap ((↑len : Int) - (1 : Int))).toNat * (2 : Nat))
 (rowT x)))
 False))
 False)
 False)
 (R12 si sf b e n r ra fn
 (mapSet g im IntKind.i64
 (intIn g il
 (off + (IntKind.i64.wrap ((↑len : Int) - (1 : Int))).toNat * (2 : Nat)))
 (txtIn g il
 (off + (IntKind.i64.wrap ((↑len : Int) - (1 : Int))).toNat * (2 : Nat) +
 (1 : Nat)))) =
 R12 si sf b e n r ra fn
 (mapSet g im IntKind.i64
 (intIn g il
 (off + (IntKind.i64.wrap ((↑len : Int) - (1 : Int))).toNat * (2 : Nat)))
 (txtIn g il
 (off + (IntKind.i64.wrap ((↑len : Int) - (1 : Int))).toNat * (2 : Nat) +
 (1 : Nat)))) ∧
 R
 (mapSet g im IntKind.i64
 (intIn g il
 (off + (IntKind.i64.wrap ((↑len : Int) - (1 : Int))).toNat * (2 : Nat)))
 (txtIn g il
 (off + (IntKind.i64.wrap ((↑len : Int) - (1 : Int))).toNat * (2 : Nat) +
 (1 : Nat))))))
 False)
 False))
 False))
 False)
 False)
 False)
 (Ex.exit (0 : Nat) = Ex.exit (0 : Nat) ∧ E12 si sf b e n r ra fn g = E12 si sf b e n r ra fn g ∧ X)) :
 (fun (M : Int) (si sf : Cells) (b e n r ra fn : Int) (im il off len : Nat) (g : Heap) (N : Nat → Nat → Nat → Heap → Prop) (X : Prop) (R : Heap → Prop) => wpRound T12r (cfg M) Tryz.prog 100 12 4 (I12 si sf b e n r ra fn im il off len g) (fun τ => τ = I12 si sf b e n r ra fn im (rI τ 6) (rO τ 6) (rowN τ 6) τ.h ∧ N (rI τ 6) (rO τ 6) (rowN τ 6) τ.h) (q12 si sf b e n r ra fn X R)) M si sf b e n r ra fn im il off len g N X R :=
 Eq.mp (by kernel_rfl) h
end
end Go.Proofs.Sp.Sj
namespace Go.Proofs.Sp.Sj
open Go Go.Ef Go.Proofs.Pt
noncomputable section
set_option maxRecDepth 100000
theorem v34 (M : Int) (si : Cells) (sf : Cells) (b : Int) (e : Int) (n : Int) (r : Int) (op : Int) (x : Int) (y : Int) (nm : Int) (t : List UInt8) (a : Int) (ra : Int) (fn : Int) (K : AV → Prop) (h :
 iteP (decide ((0 : Int) ≤ fn))
 (iteP (op == (48 : Int)) (K (AV.sc (Value.bool false)))
 (iteP (op == (49 : Int)) (K (AV.sc (Value.bool false)))
 (iteP (op == (45 : Int)) (K (AV.sc (Value.bool false)))
 (iteP (op == (46 : Int)) (K (AV.sc (Value.bool false)))
 (iteP (op == (47 : Int)) (K (AV.sc (Value.bool false)))
 (iteP (op == (29 : Int)) (K (AV.sc (Value.bool true)))
 (True ∧
 ∀ (x_1 : Bool),
 x_1 = aboutB op →
 iteP x_1
 (iteP (op == (30 : Int))
 (iteP (y.tmod (4 : Int) != (1 : Int))
 (iteP (y.tmod (4 : Int) != (3 : Int)) (K (AV.sc (Value.bool true)))
 (iteP (x == (-1 : Int)) (K (AV.sc (Value.bool true)))
 (iteP (inRange fn (List.length sf))
 (getI fn.toNat sf =
 some
 [AV.sc (Value.string (ByteArray.mk (Array.mk (cellStr sf fn (0 : Nat))))),
 AV.sc (Value.int IntKind.i64 (cellInt sf fn (1 : Nat))),
 AV.sl (cellSl sf fn (2 : Nat)) (0 : Nat),
 AV.sl (cellSl sf fn (3 : Nat)) (0 : Nat)] ∧
 iteP (decide ((↑(cellSl sf fn (2 : Nat)).length : Int) ≤ x))
 (K (AV.sc (Value.bool false)))
 (iteP (y.tmod (4 : Int) == (3 : Int))
 (iteP (op != (30 : Int))
 (iteP (op != (33 : Int))
 (iteP (op != (6 : Int))
 (iteP (op != (11 : Int))
 (iteP (op != (14 : Int))
 (iteP (inRange fn (List.length sf))
 (getI fn.toNat sf =
 some
 [AV.sc
 (Value.string
 (ByteArray.mk (Array.mk (cellStr sf fn (0 : Nat))))),
 AV.sc (Value.int IntKind.i64 (cellInt sf fn (1 : Nat))),
 AV.sl (cellSl sf fn (2 : Nat)) (0 : Nat),
 AV.sl (cellSl sf fn (3 : Nat)) (0 : Nat)] ∧
 iteP (inRange x (cellSl sf fn (3 : Nat)).length)
 (getI x.toNat (cellSl sf fn (3 : Nat)) =
 some
 [AV.sc
 (Value.bool
 (cellBool (cellSl sf fn (3 : Nat)) x (0 : Nat)))] ∧
 iteP (cellBool (cellSl sf fn (3 : Nat)) x (0 : Nat))
 (K (AV.sc (Value.bool true))) (K (AV.sc (Value.bool false))))
 False)
 False)
 (iteP (inRange fn (List.length sf))
 (getI fn.toNat sf =
 some
 [AV.sc
 (Value.string
 (ByteArray.mk (Array.mk (cellStr sf fn (0 : Nat))))),
 AV.sc (Value.int IntKind.i64 (cellInt sf fn (1 : Nat))),
 AV.sl (cellSl sf fn (2 : Nat)) (0 : Nat),
 AV.sl (cellSl sf fn (3 : Nat)) (0 : Nat)] ∧
 iteP (inRange x (cellSl sf fn (3 : Nat)).length)
 (getI x.toNat (cellSl sf fn (3 : Nat)) =
 some
 [AV.sc
 (Value.bool
 (cellBool (cellSl sf fn (3 : Nat)) x (0 : Nat)))] ∧
 iteP (cellBool (cellSl sf fn (3 : Nat)) x (0 : Nat))
 (K (AV.sc (Value.bool false))) (K (AV.sc (Value.bool true))))
 False)
 False))
 (iteP (inRange fn (List.length sf))
 (getI fn.toNat sf =
 some
 [AV.sc
 (Value.string
 (ByteArray.mk (Array.mk (cellStr sf fn (0 : Nat))))),
 AV.sc (Value.int IntKind.i64 (cellInt sf fn (1 : Nat))),
 AV.sl (cellSl sf fn (2 : Nat)) (0 : Nat),
 AV.sl (cellSl sf fn (3 : Nat)) (0 : Nat)] ∧
 iteP (inRange x (cellSl sf fn (3 : Nat)).length)
 (getI x.toNat (cellSl sf fn (3 : Nat)) =
 some
 [AV.sc
 (Value.bool
 (cellBool (cellSl sf fn (3 : Nat)) x (0 : Nat)))] ∧
 iteP (cellBool (cellSl sf fn (3 : Nat)) x (0 : Nat))
 (K (AV.sc (Value.bool false))) (K (AV.sc (Value.bool true))))
 False)
 False))
 (iteP (inRange fn (List.length sf))
 (getI fn.toNat sf =
 some
 [AV.sc
 (Value.string
 (ByteArray.mk (Array.mk (cellStr sf fn (0 : Nat))))),
 AV.sc (Value.int IntKind.i64 (cellInt sf fn (1 : Nat))),
 AV.sl (cellSl sf fn (2 : Nat)) (0 : Nat),
 AV.sl (cellSl sf fn (3 : Nat)) (0 : Nat)] ∧
 iteP (inRange x (cellSl sf fn (3 : Nat)).length)
 (getI x.toNat (cellSl sf fn (3 : Nat)) =
 some
 [AV.sc
 (Value.bool
 (cellBool (cellSl sf fn (3 : Nat)) x (0 : Nat)))] ∧
 iteP (cellBool (cellSl sf fn (3 : Nat)) x (0 : Nat))
 (K (AV.sc (Value.bool false))) (K (AV.sc (Value.bool true))))
 False)
 False))
 (iteP (inRange fn (List.length sf))
 (getI fn.toNat sf =
 some
 [AV.sc
 (Value.string
 (ByteArray.mk (Array.mk (cellStr sf fn (0 : Nat))))),
 AV.sc (Value.int IntKind.i64 (cellInt sf fn (1 : Nat))),
 AV.sl (cellSl sf fn (2 : Nat)) (0 : Nat),
 AV.sl (cellSl sf fn (3 : Nat)) (0 : Nat)] ∧
 iteP (inRange x (cellSl sf fn (3 : Nat)).length)
 (getI x.toNat (cellSl sf fn (3 : Nat)) =
 some
 [AV.sc
 (Value.bool
 (cellBool (cellSl sf fn (3 : Nat)) x (0 : Nat)))] ∧
 iteP (cellBool (cellSl sf fn (3 : Nat)) x (0 : Nat))
 (K (AV.sc (Value.bool true))) (K (AV.sc (Value.bool false))))
 False)
 False))
 (iteP (inRange fn (List.length sf))
 (getI fn.toNat sf =
 some
 [AV.sc
 (Value.string (ByteArray.mk (Array.mk (cellStr sf fn (0 : Nat))))),
 AV.sc (Value.int IntKind.i64 (cellInt sf fn (1 : Nat))),
 AV.sl (cellSl sf fn (2 : Nat)) (0 : Nat),
 AV.sl (cellSl sf fn (3 : Nat)) (0 : Nat)] ∧
 iteP (inRange x (cellSl sf fn (3 : Nat)).length)
 (getI x.toNat (cellSl sf fn (3 : Nat)) =
 some
 [AV.sc
 (Value.bool (cellBool (cellSl sf fn (3 : Nat)) x (0 : Nat)))] ∧
 iteP (cellBool (cellSl sf fn (3 : Nat)) x (0 : Nat))
 (K (AV.sc (Value.bool true))) (K (AV.sc (Value.bool false))))
 False)
 False))
 (iteP (op != (30 : Int))
 (iteP (op != (33 : Int))
 (iteP (op != (6 : Int))
 (iteP (op != (11 : Int))
 (iteP (op != (14 : Int))
 (iteP (inRange fn (List.length sf))
 (getI fn.toNat sf =
 some
 [AV.sc
 (Value.string
 (ByteArray.mk (Array.mk (cellStr sf fn (0 : Nat))))),
 AV.sc (Value.int IntKind.i64 (cellInt sf fn (1 : Nat))),
 AV.sl (cellSl sf fn (2 : Nat)) (0 : Nat),
 AV.sl (cellSl sf fn (3 : Nat)) (0 : Nat)] ∧
 iteP (inRange x (cellSl sf fn (3 : Nat)).length)
 (getI x.toNat (cellSl sf fn (3 : Nat)) =
 some
 [AV.sc
 (Value.bool
 (cellBool (cellSl sf fn (3 : Nat)) x (0 : Nat)))] ∧
 iteP (cellBool (cellSl sf fn (3 : Nat)) x (0 : Nat))
 (K (AV.sc (Value.bool true))) (K (AV.sc (Value.bool false))))
 False)
 False)
 (iteP (inRange fn (List.length sf))
 (getI fn.toNat sf =
 some
 [AV.sc
 (Value.string
 (ByteArray.mk (Array.mk (cellStr sf fn (0 : Nat))))),
 AV.sc (Value.int IntKind.i64 (cellInt sf fn (1 : Nat))),
 AV.sl (cellSl sf fn (2 : Nat)) (0 : Nat),
 AV.sl (cellSl sf fn (3 : Nat)) (0 : Nat)] ∧
 iteP (inRange x (cellSl sf fn (3 : Nat)).length)
 (getI x.toNat (cellSl sf fn (3 : Nat)) =
 some
 [AV.sc
 (Value.bool
 (cellBool (cellSl sf fn (3 : Nat)) x (0 : Nat)))] ∧
 iteP (cellBool (cellSl sf fn (3 : Nat)) x (0 : Nat))
 (K (AV.sc (Value.bool false))) (K (AV.sc (Value.bool true))))
 False)
 False))
 (iteP (inRange fn (List.length sf))
 (getI fn.toNat sf =
 some
 [AV.sc
 (Value.string
 (ByteArray.mk (Array.mk (cellStr sf fn (0 : Nat))))),
 AV.sc (Value.int IntKind.i64 (cellInt sf fn (1 : Nat))),
 AV.sl (cellSl sf fn (2 : Nat)) (0 : Nat),
 AV.sl (cellSl sf fn (3 : Nat)) (0 : Nat)] ∧
 iteP (inRange x (cellSl sf fn (3 : Nat)).length)
 (getI x.toNat (cellSl sf fn (3 : Nat)) =
 some
 [AV.sc
 (Value.bool
 (cellBool (cellSl sf fn (3 : Nat)) x (0 : Nat)))] ∧
 iteP (cellBool (cellSl sf fn (3 : Nat)) x (0 : Nat))
 (K (AV.sc (Value.bool false))) (K (AV.sc (Value.bool true))))
 False)
 False))
 (iteP (inRange fn (List.length sf))
 (getI fn.toNat sf =
 some
 [AV.sc
 (Value.string
 (ByteArray.mk (Array.mk (cellStr sf fn (0 : Nat))))),
 AV.sc (Value.int IntKind.i64 (cellInt sf fn (1 : Nat))),
 AV.sl (cellSl sf fn (2 : Nat)) (0 : Nat),
 AV.sl (cellSl sf fn (3 : Nat)) (0 : Nat)] ∧
 iteP (inRange x (cellSl sf fn (3 : Nat)).length)
 (getI x.toNat (cellSl sf fn (3 : Nat)) =
 some
 [AV.sc
 (Value.bool
 (cellBool (cellSl sf fn (3 : Nat)) x (0 : Nat)))] ∧
 iteP (cellBool (cellSl sf fn (3 : Nat)) x (0 : Nat))
 (K (AV.sc (Value.bool false))) (K (AV.sc (Value.bool true))))
 False)
 False))
 (iteP (inRange fn (List.length sf))
 (getI fn.toNat sf =
 some
 [AV.sc
 (Value.string
 (ByteArray.mk (Array.mk (cellStr sf fn (0 : Nat))))),
 AV.sc (Value.int IntKind.i64 (cellInt sf fn (1 : Nat))),
 AV.sl (cellSl sf fn (2 : Nat)) (0 : Nat),
 AV.sl (cellSl sf fn (3 : Nat)) (0 : Nat)] ∧
 iteP (inRange x (cellSl sf fn (3 : Nat)).length)
 (getI x.toNat (cellSl sf fn (3 : Nat)) =
 some
 [AV.sc
 (Value.bool
 (cellBool (cellSl sf fn (3 : Nat)) x (0 : Nat)))] ∧
 iteP (cellBool (cellSl sf fn (3 : Nat)) x (0 : Nat))
 (K (AV.sc (Value.bool false))) (K (AV.sc (Value.bool true))))
 False)
 False))
 (iteP (inRange fn (List.length sf))
 (getI fn.toNat sf =
 some
 [AV.sc
 (Value.string (ByteArray.mk (Array.mk (cellStr sf fn (0 : Nat))))),
 AV.sc (Value.int IntKind.i64 (cellInt sf fn (1 : Nat))),
 AV.sl (cellSl sf fn (2 : Nat)) (0 : Nat),
 AV.sl (cellSl sf fn (3 : Nat)) (0 : Nat)] ∧
 iteP (inRange x (cellSl sf fn (3 : Nat)).length)
 (getI x.toNat (cellSl sf fn (3 : Nat)) =
 some
 [AV.sc
 (Value.bool (cellBool (cellSl sf fn (3 : Nat)) x (0 : Nat)))] ∧
 iteP (cellBool (cellSl sf fn (3 : Nat)) x (0 : Nat))
 (K (AV.sc (Value.bool false))) (K (AV.sc (Value.bool true))))
 False)
 False))))
 False)))
 (iteP (x == (-1 : Int)) (K (AV.sc (Value.bool true)))
 (iteP (inRange fn (List.length sf))
 (getI fn.toNat sf =
 some
 [AV.sc (Value.string (ByteArray.mk (Array.mk (cellStr sf fn (0 : Nat))))),
 AV.sc (Value.int IntKind.i64 (cellInt sf fn (1 : Nat))),
 AV.sl (cellSl sf fn (2 : Nat)) (0 : Nat),
 AV.sl (cellSl sf fn (3 : Nat)) (0 : Nat)] ∧
 iteP (decide ((↑(cellSl sf fn (2 : Nat)).length : Int) ≤ x))
 (K (AV.sc (Value.bool false)))
 (iteP (y.tmod (4 : Int) == (3 : Int))
 (iteP (op != (30 : Int))
 (iteP (op != (33 : Int))
 (iteP (op != (6 : Int))
 (iteP (op != (11 : Int))
 (iteP (op != (14 : Int))
 (iteP (inRange fn (List.length sf))
 (getI fn.toNat sf =
 some
 [AV.sc
 (Value.string
 (ByteArray.mk (Array.mk (cellStr sf fn (0 : Nat))))),
 AV.sc (Value.int IntKind.i64 (cellInt sf fn (1 : Nat))),
 AV.sl (cellSl sf fn (2 : Nat)) (0 : Nat),
 AV.sl (cellSl sf fn (3 : Nat)) (0 : Nat)] ∧
 iteP (inRange x (cellSl sf fn (3 : Nat)).length)
 (getI x.toNat (cellSl sf fn (3 : Nat)) =
 some
 [AV.sc
 (Value.bool
 (cellBool (cellSl sf fn (3 : Nat)) x (0 : Nat)))] ∧
 iteP (cellBool (cellSl sf fn (3 : Nat)) x (0 : Nat))
 (K (AV.sc (Value.bool true))) (K (AV.sc (Value.bool false))))
 False)
 False)
 (iteP (inRange fn (List.length sf))
 (getI fn.toNat sf =
 some
 [AV.sc
 (Value.string
 (ByteArray.mk (Array.mk (cellStr sf fn (0 : Nat))))),
 AV.sc (Value.int IntKind.i64 (cellInt sf fn (1 : Nat))),
 AV.sl (cellSl sf fn (2 : Nat)) (0 : Nat),
 AV.sl (cellSl sf fn (3 : Nat)) (0 : Nat)] ∧
 iteP (inRange x (cellSl sf fn (3 : Nat)).length)
 (getI x.toNat (cellSl sf fn (3 : Nat)) =
 some
 [AV.sc
 (Value.bool
 (cellBool (cellSl sf fn (3 : Nat)) x (0 : Nat)))] ∧
 iteP (cellBool (cellSl sf fn (3 : Nat)) x (0 : Nat))
 (K (AV.sc (Value.bool false))) (K (AV.sc (Value.bool true))))
 False)
 False))
 (iteP (inRange fn (List.length sf))
 (getI fn.toNat sf =
 some
 [AV.sc
 (Value.string
 (ByteArray.mk (Array.mk (cellStr sf fn (0 : Nat))))),
 AV.sc (Value.int IntKind.i64 (cellInt sf fn (1 : Nat))),
 AV.sl (cellSl sf fn (2 : Nat)) (0 : Nat),
 AV.sl (cellSl sf fn (3 : Nat)) (0 : Nat)] ∧
 iteP (inRange x (cellSl sf fn (3 : Nat)).length)
 (getI x.toNat (cellSl sf fn (3 : Nat)) =
 some
 [AV.sc
 (Value.bool
 (cellBool (cellSl sf fn (3 : Nat)) x (0 : Nat)))] ∧
 iteP (cellBool (cellSl sf fn (3 : Nat)) x (0 : Nat))
 (K (AV.sc (Value.bool false))) (K (AV.sc (Value.bool true))))
 False)
 False))
 (iteP (inRange fn (List.length sf))
 (getI fn.toNat sf =
 some
 [AV.sc
 (Value.string
 (ByteArray.mk (Array.mk (cellStr sf fn (0 : Nat))))),
 AV.sc (Value.int IntKind.i64 (cellInt sf fn (1 : Nat))),
 AV.sl (cellSl sf fn (2 : Nat)) (0 : Nat),
 AV.sl (cellSl sf fn (3 : Nat)) (0 : Nat)] ∧
 iteP (inRange x (cellSl sf fn (3 : Nat)).length)
 (getI x.toNat (cellSl sf fn (3 : Nat)) =
 some
 [AV.sc
 (Value.bool
 (cellBool (cellSl sf fn (3 : Nat)) x (0 : Nat)))] ∧
 iteP (cellBool (cellSl sf fn (3 : Nat)) x (0 : Nat))
 (K (AV.sc (Value.bool false))) (K (AV.sc (Value.bool true))))
 False)
 False))
 (iteP (inRange fn (List.length sf))
 (getI fn.toNat sf =
 some
 [AV.sc
 (Value.string (ByteArray.mk (Array.mk (cellStr sf fn (0 : Nat))))),
 AV.sc (Value.int IntKind.i64 (cellInt sf fn (1 : Nat))),
 AV.sl (cellSl sf fn (2 : Nat)) (0 : Nat),
 AV.sl (cellSl sf fn (3 : Nat)) (0 : Nat)] ∧
 iteP (inRange x (cellSl sf fn (3 : Nat)).length)
 (getI x.toNat (cellSl sf fn (3 : Nat)) =
 some
 [AV.sc
 (Value.bool (cellBool (cellSl sf fn (3 : Nat)) x (0 : Nat)))] ∧
 iteP (cellBool (cellSl sf fn (3 : Nat)) x (0 : Nat))
 (K (AV.sc (Value.bool true))) (K (AV.sc (Value.bool false))))
 False)
 False))
 (iteP (inRange fn (List.length sf))
 (getI fn.toNat sf =
 some
 [AV.sc (Value.string (ByteArray.mk (Array.mk (cellStr sf fn (0 : Nat))))),
 AV.sc (Value.int IntKind.i64 (cellInt sf fn (1 : Nat))),
 AV.sl (cellSl sf fn (2 : Nat)) (0 : Nat),
 AV.sl (cellSl sf fn (3 : Nat)) (0 : Nat)] ∧
 iteP (inRange x (cellSl sf fn (3 : Nat)).length)
 (getI x.toNat (cellSl sf fn (3 : Nat)) =
 some
 [AV.sc (Value.bool (cellBool (cellSl sf fn (3 : Nat)) x (0 : Nat)))] ∧
 iteP (cellBool (cellSl sf fn (3 : Nat)) x (0 : Nat))
 (K (AV.sc (Value.bool true))) (K (AV.sc (Value.bool false))))
 False)
 False))
 (iteP (op != (30 : Int))
 (iteP (op != (33 : Int))
 (iteP (op != (6 : Int))
 (iteP (op != (11 : Int))
 (iteP (op != (14 : Int))
 (iteP (inRange fn (List.length sf))
 (getI fn.toNat sf =
 some
 [AV.sc
 (Value.string
 (ByteArray.mk (Array.mk (cellStr sf fn (0 : Nat))))),
 AV.sc (Value.int IntKind.i64 (cellInt sf fn (1 : Nat))),
 AV.sl (cellSl sf fn (2 : Nat)) (0 : Nat),
 AV.sl (cellSl sf fn (3 : Nat)) (0 : Nat)] ∧
 iteP (inRange x (cellSl sf fn (3 : Nat)).length)
 (getI x.toNat (cellSl sf fn (3 : Nat)) =
 some
 [AV.sc
 (Value.bool
 (cellBool (cellSl sf fn (3 : Nat)) x (0 : Nat)))] ∧
 iteP (cellBool (cellSl sf fn (3 : Nat)) x (0 : Nat))
 (K (AV.sc (Value.bool true))) (K (AV.sc (Value.bool false))))
 False)
 False)
 (iteP (inRange fn (List.length sf))
 (getI fn.toNat sf =
 some
 [AV.sc
 (Value.string
 (ByteArray.mk (Array.mk (cellStr sf fn (0 : Nat))))),
 AV.sc (Value.int IntKind.i64 (cellInt sf fn (1 : Nat))),
 AV.sl (cellSl sf fn (2 : Nat)) (0 : Nat),
 AV.sl (cellSl sf fn (3 : Nat)) (0 : Nat)] ∧
 iteP (inRange x (cellSl sf fn (3 : Nat)).length)
 (getI x.toNat (cellSl sf fn (3 : Nat)) =
 some
 [AV.sc
 (Value.bool
 (cellBool (cellSl sf fn (3 : Nat)) x (0 : Nat)))] ∧
 iteP (cellBool (cellSl sf fn (3 : Nat)) x (0 : Nat))
 (K (AV.sc (Value.bool false))) (K (AV.sc (Value.bool true))))
 False)
 False))
 (iteP (inRange fn (List.length sf))
 (getI fn.toNat sf =
 some
 [AV.sc
 (Value.string
 (ByteArray.mk (Array.mk (cellStr sf fn (0 : Nat))))),
 AV.sc (Value.int IntKind.i64 (cellInt sf fn (1 : Nat))),
 AV.sl (cellSl sf fn (2 : Nat)) (0 : Nat),
 AV.sl (cellSl sf fn (3 : Nat)) (0 : Nat)] ∧
 iteP (inRange x (cellSl sf fn (3 : Nat)).length)
 (getI x.toNat (cellSl sf fn (3 : Nat)) =
 some
 [AV.sc
 (Value.bool
 (cellBool (cellSl sf fn (3 : Nat)) x (0 : Nat)))] ∧
 iteP (cellBool (cellSl sf fn (3 : Nat)) x (0 : Nat))
 (K (AV.sc (Value.bool false))) (K (AV.sc (Value.bool true))))
 False)
 False))
 (iteP (inRange fn (List.length sf))
 (getI fn.toNat sf =
 some
 [AV.sc
 (Value.string
 (ByteArray.mk (Array.mk (cellStr sf fn (0 : Nat))))),
 AV.sc (Value.int IntKind.i64 (cellInt sf fn (1 : Nat))),
 AV.sl (cellSl sf fn (2 : Nat)) (0 : Nat),
 AV.sl (cellSl sf fn (3 : Nat)) (0 : Nat)] ∧
 iteP (inRange x (cellSl sf fn (3 : Nat)).length)
 (getI x.toNat (cellSl sf fn (3 : Nat)) =
 some
 [AV.sc
 (Value.bool
 (cellBool (cellSl sf fn (3 : Nat)) x (0 : Nat)))] ∧
 iteP (cellBool (cellSl sf fn (3 : Nat)) x (0 : Nat))
 (K (AV.sc (Value.bool false))) (K (AV.sc (Value.bool true))))
 False)
 False))
 (iteP (inRange fn (List.length sf))
 (getI fn.toNat sf =
 some
 [AV.sc
 (Value.string (ByteArray.mk (Array.mk (cellStr sf fn (0 : Nat))))),
 AV.sc (Value.int IntKind.i64 (cellInt sf fn (1 : Nat))),
 AV.sl (cellSl sf fn (2 : Nat)) (0 : Nat),
 AV.sl (cellSl sf fn (3 : Nat)) (0 : Nat)] ∧
 iteP (inRange x (cellSl sf fn (3 : Nat)).length)
 (getI x.toNat (cellSl sf fn (3 : Nat)) =
 some
 [AV.sc
 (Value.bool (cellBool (cellSl sf fn (3 : Nat)) x (0 : Nat)))] ∧
 iteP (cellBool (cellSl sf fn (3 : Nat)) x (0 : Nat))
 (K (AV.sc (Value.bool false))) (K (AV.sc (Value.bool true))))
 False)
 False))
 (iteP (inRange fn (List.length sf))
 (getI fn.toNat sf =
 some
 [AV.sc (Value.string (ByteArray.mk (Array.mk (cellStr sf fn (0 : Nat))))),
 AV.sc (Value.int IntKind.i64 (cellInt sf fn (1 : Nat))),
 AV.sl (cellSl sf fn (2 : Nat)) (0 : Nat),
 AV.sl (cellSl sf fn (3 : Nat)) (0 : Nat)] ∧
 iteP (inRange x (cellSl sf fn (3 : Nat)).length)
 (getI x.toNat (cellSl sf fn (3 : Nat)) =
 some
 [AV.sc (Value.bool (cellBool (cellSl sf fn (3 : Nat)) x (0 : Nat)))] ∧
 iteP (cellBool (cellSl sf fn (3 : Nat)) x (0 : Nat))
 (K (AV.sc (Value.bool false))) (K (AV.sc (Value.bool true))))
 False)
 False))))
 False)))
 (iteP (op == (33 : Int))
 (iteP (y.tmod (4 : Int) != (1 : Int))
 (iteP (y.tmod (4 : Int) != (3 : Int)) (K (AV.sc (Value.bool true)))
 (iteP (x == (-1 : Int)) (K (AV.sc (Value.bool true)))
 (iteP (inRange fn (List.length sf))
 (getI fn.toNat sf =
 some
 [AV.sc (Value.string (ByteArray.mk (Array.mk (cellStr sf fn (0 : Nat))))),
 AV.sc (Value.int IntKind.i64 (cellInt sf fn (1 : Nat))),
 AV.sl (cellSl sf fn (2 : Nat)) (0 : Nat),
 AV.sl (cellSl sf fn (3 : Nat)) (0 : Nat)] ∧
 iteP (decide ((↑(cellSl sf fn (2 : Nat)).length : Int) ≤ x))
 (K (AV.sc (Value.bool false)))
 (iteP (y.tmod (4 : Int) == (3 : Int))
 (iteP (op != (30 : Int))
 (iteP (op != (33 : Int))
 (iteP (op != (6 : Int))
 (iteP (op != (11 : Int))
 (iteP (op != (14 : Int))
 (iteP (inRange fn (List.length sf))
 (getI fn.toNat sf =
 some
 [AV.sc
 (Value.string
 (ByteArray.mk (Array.mk (cellStr sf fn (0 : Nat))))),
 AV.sc (Value.int IntKind.i64 (cellInt sf fn (1 : Nat))),
 AV.sl (cellSl sf fn (2 : Nat)) (0 : Nat),
 AV.sl (cellSl sf fn (3 : Nat)) (0 : Nat)] ∧
 iteP (inRange x (cellSl sf fn (3 : Nat)).length)
 (getI x.toNat (cellSl sf fn (3 : Nat)) =
 some
 [AV.sc
 (Value.bool
 (cellBool (cellSl sf fn (3 : Nat)) x (0 : Nat)))] ∧
 iteP (cellBool (cellSl sf fn (3 : Nat)) x (0 : Nat))
 (K (AV.sc (Value.bool true)))
 (K (AV.sc (Value.bool false))))
 False)
 False)
 (iteP (inRange fn (List.length sf))
 (getI fn.toNat sf =
 some
 [AV.sc
 (Value.string
 (ByteArray.mk (Array.mk (cellStr sf fn (0 : Nat))))),
 AV.sc (Value.int IntKind.i64 (cellInt sf fn (1 : Nat))),
 AV.sl (cellSl sf fn (2 : Nat)) (0 : Nat),
 AV.sl (cellSl sf fn (3 : Nat)) (0 : Nat)] ∧
 iteP (inRange x (cellSl sf fn (3 : Nat)).length)
 (getI x.toNat (cellSl sf fn (3 : Nat)) =
 some
 [AV.sc
 (Value.bool
 (cellBool (cellSl sf fn (3 : Nat)) x (0 : Nat)))] ∧
 iteP (cellBool (cellSl sf fn (3 : Nat)) x (0 : Nat))
 (K (AV.sc (Value.bool false)))
 (K (AV.sc (Value.bool true))))
 False)
 False))
 (iteP (inRange fn (List.length sf))
 (getI fn.toNat sf =
 some
 [AV.sc
 (Value.string
 (ByteArray.mk (Array.mk (cellStr sf fn (0 : Nat))))),
 AV.sc (Value.int IntKind.i64 (cellInt sf fn (1 : Nat))),
 AV.sl (cellSl sf fn (2 : Nat)) (0 : Nat),
 AV.sl (cellSl sf fn (3 : Nat)) (0 : Nat)] ∧
 iteP (inRange x (cellSl sf fn (3 : Nat)).length)
 (getI x.toNat (cellSl sf fn (3 : Nat)) =
 some
 [AV.sc
 (Value.bool
 (cellBool (cellSl sf fn (3 : Nat)) x (0 : Nat)))] ∧
 iteP (cellBool (cellSl sf fn (3 : Nat)) x (0 : Nat))
 (K (AV.sc (Value.bool false))) (K (AV.sc (Value.bool true))))
 False)
 False))
 (iteP (inRange fn (List.length sf))
 (getI fn.toNat sf =
 some
 [AV.sc
 (Value.string
 (ByteArray.mk (Array.mk (cellStr sf fn (0 : Nat))))),
 AV.sc (Value.int IntKind.i64 (cellInt sf fn (1 : Nat))),
 AV.sl (cellSl sf fn (2 : Nat)) (0 : Nat),
 AV.sl (cellSl sf fn (3 : Nat)) (0 : Nat)] ∧
 iteP (inRange x (cellSl sf fn (3 : Nat)).length)
 (getI x.toNat (cellSl sf fn (3 : Nat)) =
 some
 [AV.sc
 (Value.bool
 (cellBool (cellSl sf fn (3 : Nat)) x (0 : Nat)))] ∧
 iteP (cellBool (cellSl sf fn (3 : Nat)) x (0 : Nat))
 (K (AV.sc (Value.bool false))) (K (AV.sc (Value.bool true))))
 False)
 False))
 (iteP (inRange fn (List.length sf))
 (getI fn.toNat sf =
 some
 [AV.sc
 (Value.string
 (ByteArray.mk (Array.mk (cellStr sf fn (0 : Nat))))),
 AV.sc (Value.int IntKind.i64 (cellInt sf fn (1 : Nat))),
 AV.sl (cellSl sf fn (2 : Nat)) (0 : Nat),
 AV.sl (cellSl sf fn (3 : Nat)) (0 : Nat)] ∧
 iteP (inRange x (cellSl sf fn (3 : Nat)).length)
 (getI x.toNat (cellSl sf fn (3 : Nat)) =
 some
 [AV.sc
 (Value.bool
 (cellBool (cellSl sf fn (3 : Nat)) x (0 : Nat)))] ∧
 iteP (cellBool (cellSl sf fn (3 : Nat)) x (0 : Nat))
 (K (AV.sc (Value.bool true))) (K (AV.sc (Value.bool false))))
 False)
 False))
 (iteP (inRange fn (List.length sf))
 (getI fn.toNat sf =
 some
 [AV.sc
 (Value.string
 (ByteArray.mk (Array.mk (cellStr sf fn (0 : Nat))))),
 AV.sc (Value.int IntKind.i64 (cellInt sf fn (1 : Nat))),
 AV.sl (cellSl sf fn (2 : Nat)) (0 : Nat),
 AV.sl (cellSl sf fn (3 : Nat)) (0 : Nat)] ∧
 iteP (inRange x (cellSl sf fn (3 : Nat)).length)
 (getI x.toNat (cellSl sf fn (3 : Nat)) =
 some
 [AV.sc
 (Value.bool
 (cellBool (cellSl sf fn (3 : Nat)) x (0 : Nat)))] ∧
 iteP (cellBool (cellSl sf fn (3 : Nat)) x (0 : Nat))
 (K (AV.sc (Value.bool true))) (K (AV.sc (Value.bool false))))
 False)
 False))
 (iteP (op != (30 : Int))
 (iteP (op != (33 : Int))
 (iteP (op != (6 : Int))
 (iteP (op != (11 : Int))
 (iteP (op != (14 : Int))
 (iteP (inRange fn (List.length sf))
 (getI fn.toNat sf =
 some
 [AV.sc
 (Value.string
 (ByteArray.mk (Array.mk (cellStr sf fn (0 : Nat))))),
 AV.sc (Value.int IntKind.i64 (cellInt sf fn (1 : Nat))),
 AV.sl (cellSl sf fn (2 : Nat)) (0 : Nat),
 AV.sl (cellSl sf fn (3 : Nat)) (0 : Nat)] ∧
 iteP (inRange x (cellSl sf fn (3 : Nat)).length)
 (getI x.toNat (cellSl sf fn (3 : Nat)) =
 some
 [AV.sc
 (Value.bool
 (cellBool (cellSl sf fn (3 : Nat)) x (0 : Nat)))] ∧
 iteP (cellBool (cellSl sf fn (3 : Nat)) x (0 : Nat))
 (K (AV.sc (Value.bool true)))
 (K (AV.sc (Value.bool false))))
 False)
 False)
 (iteP (inRange fn (List.length sf))
 (getI fn.toNat sf =
 some
 [AV.sc
 (Value.string
 (ByteArray.mk (Array.mk (cellStr sf fn (0 : Nat))))),
 AV.sc (Value.int IntKind.i64 (cellInt sf fn (1 : Nat))),
 AV.sl (cellSl sf fn (2 : Nat)) (0 : Nat),
 AV.sl (cellSl sf fn (3 : Nat)) (0 : Nat)] ∧
 iteP (inRange x (cellSl sf fn (3 : Nat)).length)
 (getI x.toNat (cellSl sf fn (3 : Nat)) =
 some
 [AV.sc
 (Value.bool
 (cellBool (cellSl sf fn (3 : Nat)) x (0 : Nat)))] ∧
 iteP (cellBool (cellSl sf fn (3 : Nat)) x (0 : Nat))
 (K (AV.sc (Value.bool false)))
 (K (AV.sc (Value.bool true))))
 False)
 False))
 (iteP (inRange fn (List.length sf))
 (getI fn.toNat sf =
 some
 [AV.sc
 (Value.string
 (ByteArray.mk (Array.mk (cellStr sf fn (0 : Nat))))),
 AV.sc (Value.int IntKind.i64 (cellInt sf fn (1 : Nat))),
 AV.sl (cellSl sf fn (2 : Nat)) (0 : Nat),
 AV.sl (cellSl sf fn (3 : Nat)) (0 : Nat)] ∧
 iteP (inRange x (cellSl sf fn (3 : Nat)).length)
 (getI x.toNat (cellSl sf fn (3 : Nat)) =
 some
 [AV.sc
 (Value.bool
 (cellBool (cellSl sf fn (3 : Nat)) x (0 : Nat)))] ∧
 iteP (cellBool (cellSl sf fn (3 : Nat)) x (0 : Nat))
 (K (AV.sc (Value.bool false))) (K (AV.sc (Value.bool true))))
 False)
 False))
 (iteP (inRange fn (List.length sf))
 (getI fn.toNat sf =
 some
 [AV.sc
 (Value.string
 (ByteArray.mk (Array.mk (cellStr sf fn (0 : Nat))))),
 AV.sc (Value.int IntKind.i64 (cellInt sf fn (1 : Nat))),
 AV.sl (cellSl sf fn (2 : Nat)) (0 : Nat),
 AV.sl (cellSl sf fn (3 : Nat)) (0 : Nat)] ∧
 iteP (inRange x (cellSl sf fn (3 : Nat)).length)
 (getI x.toNat (cellSl sf fn (3 : Nat)) =
 some
 [AV.sc
 (Value.bool
 (cellBool (cellSl sf fn (3 : Nat)) x (0 : Nat)))] ∧
 iteP (cellBool (cellSl sf fn (3 : Nat)) x (0 : Nat))
 (K (AV.sc (Value.bool false))) (K (AV.sc (Value.bool true))))
 False)
 False))
 (iteP (inRange fn (List.length sf))
 (getI fn.toNat sf =
 some
 [AV.sc
 (Value.string
 (ByteArray.mk (Array.mk (cellStr sf fn (0 : Nat))))),
 AV.sc (Value.int IntKind.i64 (cellInt sf fn (1 : Nat))),
 AV.sl (cellSl sf fn (2 : Nat)) (0 : Nat),
 AV.sl (cellSl sf fn (3 : Nat)) (0 : Nat)] ∧
 iteP (inRange x (cellSl sf fn (3 : Nat)).length)
 (getI x.toNat (cellSl sf fn (3 : Nat)) =
 some
 [AV.sc
 (Value.bool
 (cellBool (cellSl sf fn (3 : Nat)) x (0 : Nat)))] ∧
 iteP (cellBool (cellSl sf fn (3 : Nat)) x (0 : Nat))
 (K (AV.sc (Value.bool false))) (K (AV.sc (Value.bool true))))
 False)
 False))
 (iteP (inRange fn (List.length sf))
 (getI fn.toNat sf =
 some
 [AV.sc
 (Value.string
 (ByteArray.mk (Array.mk (cellStr sf fn (0 : Nat))))),
 AV.sc (Value.int IntKind.i64 (cellInt sf fn (1 : Nat))),
 AV.sl (cellSl sf fn (2 : Nat)) (0 : Nat),
 AV.sl (cellSl sf fn (3 : Nat)) (0 : Nat)] ∧
 iteP (inRange x (cellSl sf fn (3 : Nat)).length)
 (getI x.toNat (cellSl sf fn (3 : Nat)) =
 some
 [AV.sc
 (Value.bool
 (cellBool (cellSl sf fn (3 : Nat)) x (0 : Nat)))] ∧
 iteP (cellBool (cellSl sf fn (3 : Nat)) x (0 : Nat))
 (K (AV.sc (Value.bool false))) (K (AV.sc (Value.bool true))))
 False)
 False))))
 False)))
 (iteP (x == (-1 : Int)) (K (AV.sc (Value.bool true)))
 (iteP (inRange fn (List.length sf))
 (getI fn.toNat sf =
 some
 [AV.sc (Value.string (ByteArray.mk (Array.mk (cellStr sf fn (0 : Nat))))),
 AV.sc (Value.int IntKind.i64 (cellInt sf fn (1 : Nat))),
 AV.sl (cellSl sf fn (2 : Nat)) (0 : Nat),
 AV.sl (cellSl sf fn (3 : Nat)) (0 : Nat)] ∧
 iteP (decide ((↑(cellSl sf fn (2 : Nat)).length : Int) ≤ x))
 (K (AV.sc (Value.bool false)))
 (iteP (y.tmod (4 : Int) == (3 : Int))
 (iteP (op != (30 : Int))
 (iteP (op != (33 : Int))
 (iteP (op != (6 : Int))
 (iteP (op != (11 : Int))
 (iteP (op != (14 : Int))
 (iteP (inRange fn (List.length sf))
 (getI fn.toNat sf =
 some
 [AV.sc
 (Value.string
 (ByteArray.mk (Array.mk (cellStr sf fn (0 : Nat))))),
 AV.sc (Value.int IntKind.i64 (cellInt sf fn (1 : Nat))),
 AV.sl (cellSl sf fn (2 : Nat)) (0 : Nat),
 AV.sl (cellSl sf fn (3 : Nat)) (0 : Nat)] ∧
 iteP (inRange x (cellSl sf fn (3 : Nat)).length)
 (getI x.toNat (cellSl sf fn (3 : Nat)) =
 some
 [AV.sc
 (Value.bool
 (cellBool (cellSl sf fn (3 : Nat)) x (0 : Nat)))] ∧
 iteP (cellBool (cellSl sf fn (3 : Nat)) x (0 : Nat))
 (K (AV.sc (Value.bool true))) (K (AV.sc (Value.bool false))))
 False)
 False)
 (iteP (inRange fn (List.length sf))
 (getI fn.toNat sf =
 some
 [AV.sc
 (Value.string
 (ByteArray.mk (Array.mk (cellStr sf fn (0 : Nat))))),
 AV.sc (Value.int IntKind.i64 (cellInt sf fn (1 : Nat))),
 AV.sl (cellSl sf fn (2 : Nat)) (0 : Nat),
 AV.sl (cellSl sf fn (3 : Nat)) (0 : Nat)] ∧
 iteP (inRange x (cellSl sf fn (3 : Nat)).length)
 (getI x.toNat (cellSl sf fn (3 : Nat)) =
 some
 [AV.sc
 (Value.bool
 (cellBool (cellSl sf fn (3 : Nat)) x (0 : Nat)))] ∧
 iteP (cellBool (cellSl sf fn (3 : Nat)) x (0 : Nat))
 (K (AV.sc (Value.bool false))) (K (AV.sc (Value.bool true))))
 False)
 False))
 (iteP (inRange fn (List.length sf))
 (getI fn.toNat sf =
 some
 [AV.sc
 (Value.string
 (ByteArray.mk (Array.mk (cellStr sf fn (0 : Nat))))),
 AV.sc (Value.int IntKind.i64 (cellInt sf fn (1 : Nat))),
 AV.sl (cellSl sf fn (2 : Nat)) (0 : Nat),
 AV.sl (cellSl sf fn (3 : Nat)) (0 : Nat)] ∧
 iteP (inRange x (cellSl sf fn (3 : Nat)).length)
 (getI x.toNat (cellSl sf fn (3 : Nat)) =
 some
 [AV.sc
 (Value.bool
 (cellBool (cellSl sf fn (3 : Nat)) x (0 : Nat)))] ∧
 iteP (cellBool (cellSl sf fn (3 : Nat)) x (0 : Nat))
 (K (AV.sc (Value.bool false))) (K (AV.sc (Value.bool true))))
 False)
 False))
 (iteP (inRange fn (List.length sf))
 (getI fn.toNat sf =
 some
 [AV.sc
 (Value.string
 (ByteArray.mk (Array.mk (cellStr sf fn (0 : Nat))))),
 AV.sc (Value.int IntKind.i64 (cellInt sf fn (1 : Nat))),
 AV.sl (cellSl sf fn (2 : Nat)) (0 : Nat),
 AV.sl (cellSl sf fn (3 : Nat)) (0 : Nat)] ∧
 iteP (inRange x (cellSl sf fn (3 : Nat)).length)
 (getI x.toNat (cellSl sf fn (3 : Nat)) =
 some
 [AV.sc
 (Value.bool
 (cellBool (cellSl sf fn (3 : Nat)) x (0 : Nat)))] ∧
 iteP (cellBool (cellSl sf fn (3 : Nat)) x (0 : Nat))
 (K (AV.sc (Value.bool false))) (K (AV.sc (Value.bool true))))
 False)
 False))
 (iteP (inRange fn (List.length sf))
 (getI fn.toNat sf =
 some
 [AV.sc
 (Value.string
 (ByteArray.mk (Array.mk (cellStr sf fn (0 : Nat))))),
 AV.sc (Value.int IntKind.i64 (cellInt sf fn (1 : Nat))),
 AV.sl (cellSl sf fn (2 : Nat)) (0 : Nat),
 AV.sl (cellSl sf fn (3 : Nat)) (0 : Nat)] ∧
 iteP (inRange x (cellSl sf fn (3 : Nat)).length)
 (getI x.toNat (cellSl sf fn (3 : Nat)) =
 some
 [AV.sc
 (Value.bool
 (cellBool (cellSl sf fn (3 : Nat)) x (0 : Nat)))] ∧
 iteP (cellBool (cellSl sf fn (3 : Nat)) x (0 : Nat))
 (K (AV.sc (Value.bool true))) (K (AV.sc (Value.bool false))))
 False)
 False))
 (iteP (inRange fn (List.length sf))
 (getI fn.toNat sf =
 some
 [AV.sc
 (Value.string (ByteArray.mk (Array.mk (cellStr sf fn (0 : Nat))))),
 AV.sc (Value.int IntKind.i64 (cellInt sf fn (1 : Nat))),
 AV.sl (cellSl sf fn (2 : Nat)) (0 : Nat),
 AV.sl (cellSl sf fn (3 : Nat)) (0 : Nat)] ∧
 iteP (inRange x (cellSl sf fn (3 : Nat)).length)
 (getI x.toNat (cellSl sf fn (3 : Nat)) =
 some
 [AV.sc
 (Value.bool (cellBool (cellSl sf fn (3 : Nat)) x (0 : Nat)))] ∧
 iteP (cellBool (cellSl sf fn (3 : Nat)) x (0 : Nat))
 (K (AV.sc (Value.bool true))) (K (AV.sc (Value.bool false))))
 False)
 False))
 (iteP (op != (30 : Int))
 (iteP (op != (33 : Int))
 (iteP (op != (6 : Int))
 (iteP (op != (11 : Int))
 (iteP (op != (14 : Int))
 (iteP (inRange fn (List.length sf))
 (getI fn.toNat sf =
 some
 [AV.sc
 (Value.string
 (ByteArray.mk (Array.mk (cellStr sf fn (0 : Nat))))),
 AV.sc (Value.int IntKind.i64 (cellInt sf fn (1 : Nat))),
 AV.sl (cellSl sf fn (2 : Nat)) (0 : Nat),
 AV.sl (cellSl sf fn (3 : Nat)) (0 : Nat)] ∧
 iteP (inRange x (cellSl sf fn (3 : Nat)).length)
 (getI x.toNat (cellSl sf fn (3 : Nat)) =
 some
 [AV.sc
 (Value.bool
 (cellBool (cellSl sf fn (3 : Nat)) x (0 : Nat)))] ∧
 iteP (cellBool (cellSl sf fn (3 : Nat)) x (0 : Nat))
 (K (AV.sc (Value.bool true))) (K (AV.sc (Value.bool false))))
 False)
 False)
 (iteP (inRange fn (List.length sf))
 (getI fn.toNat sf =
 some
 [AV.sc
 (Value.string
 (ByteArray.mk (Array.mk (cellStr sf fn (0 : Nat))))),
 AV.sc (Value.int IntKind.i64 (cellInt sf fn (1 : Nat))),
 AV.sl (cellSl sf fn (2 : Nat)) (0 : Nat),
 AV.sl (cellSl sf fn (3 : Nat)) (0 : Nat)] ∧
 iteP (inRange x (cellSl sf fn (3 : Nat)).length)
 (getI x.toNat (cellSl sf fn (3 : Nat)) =
 some
 [AV.sc
 (Value.bool
 (cellBool (cellSl sf fn (3 : Nat)) x (0 : Nat)))] ∧
 iteP (cellBool (cellSl sf fn (3 : Nat)) x (0 : Nat))
 (K (AV.sc (Value.bool false))) (K (AV.sc (Value.bool true))))
 False)
 False))
 (iteP (inRange fn (List.length sf))
 (getI fn.toNat sf =
 some
 [AV.sc
 (Value.string
 (ByteArray.mk (Array.mk (cellStr sf fn (0 : Nat))))),
 AV.sc (Value.int IntKind.i64 (cellInt sf fn (1 : Nat))),
 AV.sl (cellSl sf fn (2 : Nat)) (0 : Nat),
 AV.sl (cellSl sf fn (3 : Nat)) (0 : Nat)] ∧
 iteP (inRange x (cellSl sf fn (3 : Nat)).length)
 (getI x.toNat (cellSl sf fn (3 : Nat)) =
 some
 [AV.sc
 (Value.bool
 (cellBool (cellSl sf fn (3 : Nat)) x (0 : Nat)))] ∧
 iteP (cellBool (cellSl sf fn (3 : Nat)) x (0 : Nat))
 (K (AV.sc (Value.bool false))) (K (AV.sc (Value.bool true))))
 False)
 False))
 (iteP (inRange fn (List.length sf))
 (getI fn.toNat sf =
 some
 [AV.sc
 (Value.string
 (ByteArray.mk (Array.mk (cellStr sf fn (0 : Nat))))),
 AV.sc (Value.int IntKind.i64 (cellInt sf fn (1 : Nat))),
 AV.sl (cellSl sf fn (2 : Nat)) (0 : Nat),
 AV.sl (cellSl sf fn (3 : Nat)) (0 : Nat)] ∧
 iteP (inRange x (cellSl sf fn (3 : Nat)).length)
 (getI x.toNat (cellSl sf fn (3 : Nat)) =
 some
 [AV.sc
 (Value.bool
 (cellBool (cellSl sf fn (3 : Nat)) x (0 : Nat)))] ∧
 iteP (cellBool (cellSl sf fn (3 : Nat)) x (0 : Nat))
 (K (AV.sc (Value.bool false))) (K (AV.sc (Value.bool true))))
 False)
 False))
 (iteP (inRange fn (List.length sf))
 (getI fn.toNat sf =
 some
 [AV.sc
 (Value.string
 (ByteArray.mk (Array.mk (cellStr sf fn (0 : Nat))))),
 AV.sc (Value.int IntKind.i64 (cellInt sf fn (1 : Nat))),
 AV.sl (cellSl sf fn (2 : Nat)) (0 : Nat),
 AV.sl (cellSl sf fn (3 : Nat)) (0 : Nat)] ∧
 iteP (inRange x (cellSl sf fn (3 : Nat)).length)
 (getI x.toNat (cellSl sf fn (3 : Nat)) =
 some
 [AV.sc
 (Value.bool
 (cellBool (cellSl sf fn (3 : Nat)) x (0 : Nat)))] ∧
 iteP (cellBool (cellSl sf fn (3 : Nat)) x (0 : Nat))
 (K (AV.sc (Value.bool false))) (K (AV.sc (Value.bool true))))
 False)
 False))
 (iteP (inRange fn (List.length sf))
 (getI fn.toNat sf =
 some
 [AV.sc
 (Value.string (ByteArray.mk (Array.mk (cellStr sf fn (0 : Nat))))),
 AV.sc (Value.int IntKind.i64 (cellInt sf fn (1 : Nat))),
 AV.sl (cellSl sf fn (2 : Nat)) (0 : Nat),
 AV.sl (cellSl sf fn (3 : Nat)) (0 : Nat)] ∧
 iteP (inRange x (cellSl sf fn (3 : Nat)).length)
 (getI x.toNat (cellSl sf fn (3 : Nat)) =
 some
 [AV.sc
 (Value.bool (cellBool (cellSl sf fn (3 : Nat)) x (0 : Nat)))] ∧
 iteP (cellBool (cellSl sf fn (3 : Nat)) x (0 : Nat))
 (K (AV.sc (Value.bool false))) (K (AV.sc (Value.bool true))))
 False)
 False))))
 False)))
 (iteP (x == (-1 : Int)) (K (AV.sc (Value.bool true)))
 (iteP (inRange fn (List.length sf))
 (getI fn.toNat sf =
 some
 [AV.sc (Value.string (ByteArray.mk (Array.mk (cellStr sf fn (0 : Nat))))),
 AV.sc (Value.int IntKind.i64 (cellInt sf fn (1 : Nat))),
 AV.sl (cellSl sf fn (2 : Nat)) (0 : Nat),
 AV.sl (cellSl sf fn (3 : Nat)) (0 : Nat)] ∧
 iteP (decide ((↑(cellSl sf fn (2 : Nat)).length : Int) ≤ x))
 (K (AV.sc (Value.bool false)))
 (iteP (y.tmod (4 : Int) == (3 : Int))
 (iteP (op != (30 : Int))
 (iteP (op != (33 : Int))
 (iteP (op != (6 : Int))
 (iteP (op != (11 : Int))
 (iteP (op != (14 : Int))
 (iteP (inRange fn (List.length sf))
 (getI fn.toNat sf =
 some
 [AV.sc
 (Value.string
 (ByteArray.mk (Array.mk (cellStr sf fn (0 : Nat))))),
 AV.sc (Value.int IntKind.i64 (cellInt sf fn (1 : Nat))),
 AV.sl (cellSl sf fn (2 : Nat)) (0 : Nat),
 AV.sl (cellSl sf fn (3 : Nat)) (0 : Nat)] ∧
 iteP (inRange x (cellSl sf fn (3 : Nat)).length)
 (getI x.toNat (cellSl sf fn (3 : Nat)) =
 some
 [AV.sc
 (Value.bool
 (cellBool (cellSl sf fn (3 : Nat)) x (0 : Nat)))] ∧
 iteP (cellBool (cellSl sf fn (3 : Nat)) x (0 : Nat))
 (K (AV.sc (Value.bool true))) (K (AV.sc (Value.bool false))))
 False)
 False)
 (iteP (inRange fn (List.length sf))
 (getI fn.toNat sf =
 some
 [AV.sc
 (Value.string
 (ByteArray.mk (Array.mk (cellStr sf fn (0 : Nat))))),
 AV.sc (Value.int IntKind.i64 (cellInt sf fn (1 : Nat))),
 AV.sl (cellSl sf fn (2 : Nat)) (0 : Nat),
 AV.sl (cellSl sf fn (3 : Nat)) (0 : Nat)] ∧
 iteP (inRange x (cellSl sf fn (3 : Nat)).length)
 (getI x.toNat (cellSl sf fn (3 : Nat)) =
 some
 [AV.sc
 (Value.bool
 (cellBool (cellSl sf fn (3 : Nat)) x (0 : Nat)))] ∧
 iteP (cellBool (cellSl sf fn (3 : Nat)) x (0 : Nat))
 (K (AV.sc (Value.bool false))) (K (AV.sc (Value.bool true))))
 False)
 False))
 (iteP (inRange fn (List.length sf))
 (getI fn.toNat sf =
 some
 [AV.sc
 (Value.string
 (ByteArray.mk (Array.mk (cellStr sf fn (0 : Nat))))),
 AV.sc (Value.int IntKind.i64 (cellInt sf fn (1 : Nat))),
 AV.sl (cellSl sf fn (2 : Nat)) (0 : Nat),
 AV.sl (cellSl sf fn (3 : Nat)) (0 : Nat)] ∧
 iteP (inRange x (cellSl sf fn (3 : Nat)).length)
 (getI x.toNat (cellSl sf fn (3 : Nat)) =
 some
 [AV.sc
 (Value.bool
 (cellBool (cellSl sf fn (3 : Nat)) x (0 : Nat)))] ∧
 iteP (cellBool (cellSl sf fn (3 : Nat)) x (0 : Nat))
 (K (AV.sc (Value.bool false))) (K (AV.sc (Value.bool true))))
 False)
 False))
 (iteP (inRange fn (List.length sf))
 (getI fn.toNat sf =
 some
 [AV.sc
 (Value.string
 (ByteArray.mk (Array.mk (cellStr sf fn (0 : Nat))))),
 AV.sc (Value.int IntKind.i64 (cellInt sf fn (1 : Nat))),
 AV.sl (cellSl sf fn (2 : Nat)) (0 : Nat),
 AV.sl (cellSl sf fn (3 : Nat)) (0 : Nat)] ∧
 iteP (inRange x (cellSl sf fn (3 : Nat)).length)
 (getI x.toNat (cellSl sf fn (3 : Nat)) =
 some
 [AV.sc
 (Value.bool
 (cellBool (cellSl sf fn (3 : Nat)) x (0 : Nat)))] ∧
 iteP (cellBool (cellSl sf fn (3 : Nat)) x (0 : Nat))
 (K (AV.sc (Value.bool false))) (K (AV.sc (Value.bool true))))
 False)
 False))
 (iteP (inRange fn (List.length sf))
 (getI fn.toNat sf =
 some
 [AV.sc
 (Value.string (ByteArray.mk (Array.mk (cellStr sf fn (0 : Nat))))),
 AV.sc (Value.int IntKind.i64 (cellInt sf fn (1 : Nat))),
 AV.sl (cellSl sf fn (2 : Nat)) (0 : Nat),
 AV.sl (cellSl sf fn (3 : Nat)) (0 : Nat)] ∧
 iteP (inRange x (cellSl sf fn (3 : Nat)).length)
 (getI x.toNat (cellSl sf fn (3 : Nat)) =
 some
 [AV.sc
 (Value.bool (cellBool (cellSl sf fn (3 : Nat)) x (0 : Nat)))] ∧
 iteP (cellBool (cellSl sf fn (3 : Nat)) x (0 : Nat))
 (K (AV.sc (Value.bool true))) (K (AV.sc (Value.bool false))))
 False)
 False))
 (iteP (inRange fn (List.length sf))
 (getI fn.toNat sf =
 some
 [AV.sc (Value.string (ByteArray.mk (Array.mk (cellStr sf fn (0 : Nat))))),
 AV.sc (Value.int IntKind.i64 (cellInt sf fn (1 : Nat))),
 AV.sl (cellSl sf fn (2 : Nat)) (0 : Nat),
 AV.sl (cellSl sf fn (3 : Nat)) (0 : Nat)] ∧
 iteP (inRange x (cellSl sf fn (3 : Nat)).length)
 (getI x.toNat (cellSl sf fn (3 : Nat)) =
 some
 [AV.sc (Value.bool (cellBool (cellSl sf fn (3 : Nat)) x (0 : Nat)))] ∧
 iteP (cellBool (cellSl sf fn (3 : Nat)) x (0 : Nat))
 (K (AV.sc (Value.bool true))) (K (AV.sc (Value.bool false))))
 False)
 False))
 (iteP (op != (30 : Int))
 (iteP (op != (33 : Int))
 (iteP (op != (6 : Int))
 (iteP (op != (11 : Int))
 (iteP (op != (14 : Int))
 (iteP (inRange fn (List.length sf))
 (getI fn.toNat sf =
 some
 [AV.sc
 (Value.string
 (ByteArray.mk (Array.mk (cellStr sf fn (0 : Nat))))),
 AV.sc (Value.int IntKind.i64 (cellInt sf fn (1 : Nat))),
 AV.sl (cellSl sf fn (2 : Nat)) (0 : Nat),
 AV.sl (cellSl sf fn (3 : Nat)) (0 : Nat)] ∧
 iteP (inRange x (cellSl sf fn (3 : Nat)).length)
 (getI x.toNat (cellSl sf fn (3 : Nat)) =
 some
 [AV.sc
 (Value.bool
 (cellBool (cellSl sf fn (3 : Nat)) x (0 : Nat)))] ∧
 iteP (cellBool (cellSl sf fn (3 : Nat)) x (0 : Nat))
 (K (AV.sc (Value.bool true))) (K (AV.sc (Value.bool false))))
 False)
 False)
 (iteP (inRange fn (List.length sf))
 (getI fn.toNat sf =
 some
 [AV.sc
 (Value.string
 (ByteArray.mk (Array.mk (cellStr sf fn (0 : Nat))))),
 AV.sc (Value.int IntKind.i64 (cellInt sf fn (1 : Nat))),
 AV.sl (cellSl sf fn (2 : Nat)) (0 : Nat),
 AV.sl (cellSl sf fn (3 : Nat)) (0 : Nat)] ∧
 iteP (inRange x (cellSl sf fn (3 : Nat)).length)
 (getI x.toNat (cellSl sf fn (3 : Nat)) =
 some
 [AV.sc
 (Value.bool
 (cellBool (cellSl sf fn (3 : Nat)) x (0 : Nat)))] ∧
 iteP (cellBool (cellSl sf fn (3 : Nat)) x (0 : Nat))
 (K (AV.sc (Value.bool false))) (K (AV.sc (Value.bool true))))
 False)
 False))
 (iteP (inRange fn (List.length sf))
 (getI fn.toNat sf =
 some
 [AV.sc
 (Value.string
 (ByteArray.mk (Array.mk (cellStr sf fn (0 : Nat))))),
 AV.sc (Value.int IntKind.i64 (cellInt sf fn (1 : Nat))),
 AV.sl (cellSl sf fn (2 : Nat)) (0 : Nat),
 AV.sl (cellSl sf fn (3 : Nat)) (0 : Nat)] ∧
 iteP (inRange x (cellSl sf fn (3 : Nat)).length)
 (getI x.toNat (cellSl sf fn (3 : Nat)) =
 some
 [AV.sc
 (Value.bool
 (cellBool (cellSl sf fn (3 : Nat)) x (0 : Nat)))] ∧
 iteP (cellBool (cellSl sf fn (3 : Nat)) x (0 : Nat))
 (K (AV.sc (Value.bool false))) (K (AV.sc (Value.bool true))))
 False)
 False))
 (iteP (inRange fn (List.length sf))
 (getI fn.toNat sf =
 some
 [AV.sc
 (Value.string
 (ByteArray.mk (Array.mk (cellStr sf fn (0 : Nat))))),
 AV.sc (Value.int IntKind.i64 (cellInt sf fn (1 : Nat))),
 AV.sl (cellSl sf fn (2 : Nat)) (0 : Nat),
 AV.sl (cellSl sf fn (3 : Nat)) (0 : Nat)] ∧
 iteP (inRange x (cellSl sf fn (3 : Nat)).length)
 (getI x.toNat (cellSl sf fn (3 : Nat)) =
 some
 [AV.sc
 (Value.bool
 (cellBool (cellSl sf fn (3 : Nat)) x (0 : Nat)))] ∧
 iteP (cellBool (cellSl sf fn (3 : Nat)) x (0 : Nat))
 (K (AV.sc (Value.bool false))) (K (AV.sc (Value.bool true))))
 False)
 False))
 (iteP (inRange fn (List.length sf))
 (getI fn.toNat sf =
 some
 [AV.sc
 (Value.string (ByteArray.mk (Array.mk (cellStr sf fn (0 : Nat))))),
 AV.sc (Value.int IntKind.i64 (cellInt sf fn (1 : Nat))),
 AV.sl (cellSl sf fn (2 : Nat)) (0 : Nat),
 AV.sl (cellSl sf fn (3 : Nat)) (0 : Nat)] ∧
 iteP (inRange x (cellSl sf fn (3 : Nat)).length)
 (getI x.toNat (cellSl sf fn (3 : Nat)) =
 some
 [AV.sc
 (Value.bool (cellBool (cellSl sf fn (3 : Nat)) x (0 : Nat)))] ∧
 iteP (cellBool (cellSl sf fn (3 : Nat)) x (0 : Nat))
 (K (AV.sc (Value.bool false))) (K (AV.sc (Value.bool true))))
 False)
 False))
 (iteP (inRange fn (List.length sf))
 (getI fn.toNat sf =
 some
 [AV.sc (Value.string (ByteArray.mk (Array.mk (cellStr sf fn (0 : Nat))))),
 AV.sc (Value.int IntKind.i64 (cellInt sf fn (1 : Nat))),
 AV.sl (cellSl sf fn (2 : Nat)) (0 : Nat),
 AV.sl (cellSl sf fn (3 : Nat)) (0 : Nat)] ∧
 iteP (inRange x (cellSl sf fn (3 : Nat)).length)
 (getI x.toNat (cellSl sf fn (3 : Nat)) =
 some
 [AV.sc (Value.bool (cellBool (cellSl sf fn (3 : Nat)) x (0 : Nat)))] ∧
 iteP (cellBool (cellSl sf fn (3 : Nat)) x (0 : Nat))
 (K (AV.sc (Value.bool false))) (K (AV.sc (Value.bool true))))
 False)
 False))))
 False))))
 (K (AV.sc (Value.bool true))))))))))
 (iteP (op == (48 : Int)) (K (AV.sc (Value.bool true)))
 (iteP (op == (49 : Int)) (K (AV.sc (Value.bool true)))
 (iteP (op == (45 : Int)) (K (AV.sc (Value.bool true)))
 (iteP (op == (46 : Int)) (K (AV.sc (Value.bool true)))
 (iteP (op == (47 : Int)) (K (AV.sc (Value.bool true)))
 (iteP (op == (29 : Int)) (K (AV.sc (Value.bool false)))
 (True ∧
 ∀ (x_1 : Bool),
 x_1 = aboutB op →
 iteP x_1
 (iteP (op == (30 : Int))
 (iteP (y.tmod (4 : Int) != (1 : Int))
 (iteP (y.tmod (4 : Int) != (3 : Int)) (K (AV.sc (Value.bool true)))
 (iteP (x == (-1 : Int)) (K (AV.sc (Value.bool true))) (K (AV.sc (Value.bool false)))))
 (iteP (x == (-1 : Int)) (K (AV.sc (Value.bool true))) (K (AV.sc (Value.bool false)))))
 (iteP (op == (33 : Int))
 (iteP (y.tmod (4 : Int) != (1 : Int))
 (iteP (y.tmod (4 : Int) != (3 : Int)) (K (AV.sc (Value.bool true)))
 (iteP (x == (-1 : Int)) (K (AV.sc (Value.bool true))) (K (AV.sc (Value.bool false)))))
 (iteP (x == (-1 : Int)) (K (AV.sc (Value.bool true))) (K (AV.sc (Value.bool false)))))
 (iteP (x == (-1 : Int)) (K (AV.sc (Value.bool true))) (K (AV.sc (Value.bool false))))))
 (K (AV.sc (Value.bool true))))))))))) :
 (fun (M : Int) (si sf : Cells) (b e n r : Int) (op x y nm : Int) (t : List UInt8) (a : Int) (ra fn : Int) (K : AV → Prop) => wpCall T34 (cfg M) Tryz.prog 100 34 [codeA si sf b e n r, .agg [iA op, iA x, iA y, iA nm, aStr t, iA a], .agg [iA ra, iA fn]] heapF fun r h' => wpBack h' r K) M si sf b e n r op x y nm t a ra fn K :=
 Eq.mp (by kernel_rfl) h
theorem v66n (M : Int) (op : Int) (x : Int) (y : Int) (nm : Int) (t : List UInt8) (a : Int) (g : Heap) (K : AV → Heap → Prop) (h :
 iteP (op == (6 : Int))
 (iteP (decide (x < (0 : Int)))
 (iteP (decide (x < (0 : Int))) (K (AV.sc (Value.bool true)) g) (K (AV.sc (Value.bool false)) g))
 (iteP (decide (x < (0 : Int))) (K (AV.sc (Value.bool true)) g) (K (AV.sc (Value.bool false)) g)))
 (iteP (op == (11 : Int))
 (iteP (decide (x < (0 : Int)))
 (iteP (decide (x < (0 : Int))) (K (AV.sc (Value.bool true)) g) (K (AV.sc (Value.bool false)) g))
 (iteP (decide (x < (0 : Int))) (K (AV.sc (Value.bool true)) g) (K (AV.sc (Value.bool false)) g)))
 (iteP (op == (14 : Int))
 (iteP (decide (x < (0 : Int)))
 (iteP (decide (x < (0 : Int))) (K (AV.sc (Value.bool true)) g) (K (AV.sc (Value.bool false)) g))
 (iteP (decide (x < (0 : Int))) (K (AV.sc (Value.bool true)) g) (K (AV.sc (Value.bool false)) g)))
 (iteP (op == (9 : Int))
 (iteP (decide (x < (0 : Int)))
 (iteP (decide (x < (0 : Int))) (K (AV.sc (Value.bool true)) g) (K (AV.sc (Value.bool false)) g))
 (iteP (decide (x < (0 : Int))) (K (AV.sc (Value.bool true)) g) (K (AV.sc (Value.bool false)) g)))
 (iteP (op == (10 : Int))
 (iteP (decide (x < (0 : Int)))
 (iteP (decide (x < (0 : Int))) (K (AV.sc (Value.bool true)) g) (K (AV.sc (Value.bool false)) g))
 (iteP (decide (x < (0 : Int))) (K (AV.sc (Value.bool true)) g) (K (AV.sc (Value.bool false)) g)))
 (iteP (op == (13 : Int))
 (iteP (decide (x < (0 : Int)))
 (iteP (decide (x < (0 : Int))) (K (AV.sc (Value.bool true)) g) (K (AV.sc (Value.bool false)) g))
 (iteP (decide (x < (0 : Int))) (K (AV.sc (Value.bool true)) g) (K (AV.sc (Value.bool false)) g)))
 (iteP (op == (16 : Int))
 (iteP (decide (x < (0 : Int)))
 (iteP (decide (x < (0 : Int))) (K (AV.sc (Value.bool true)) g) (K (AV.sc (Value.bool false)) g))
 (iteP (decide (x < (0 : Int))) (K (AV.sc (Value.bool true)) g) (K (AV.sc (Value.bool false)) g)))
 (iteP (op == (26 : Int))
 (iteP (decide (x < (0 : Int)))
 (iteP (decide (x < (0 : Int))) (K (AV.sc (Value.bool true)) g) (K (AV.sc (Value.bool false)) g))
 (iteP (decide (x < (0 : Int))) (K (AV.sc (Value.bool true)) g) (K (AV.sc (Value.bool false)) g)))
 (iteP (op == (32 : Int))
 (iteP (decide (x < (0 : Int)))
 (iteP (decide (x < (0 : Int))) (K (AV.sc (Value.bool true)) g) (K (AV.sc (Value.bool false)) g))
 (iteP (decide (x < (0 : Int))) (K (AV.sc (Value.bool true)) g) (K (AV.sc (Value.bool false)) g)))
 (iteP (op == (38 : Int))
 (iteP (decide (x < (0 : Int)))
 (iteP (decide (x < (0 : Int))) (K (AV.sc (Value.bool true)) g) (K (AV.sc (Value.bool false)) g))
 (iteP (decide (x < (0 : Int))) (K (AV.sc (Value.bool true)) g) (K (AV.sc (Value.bool false)) g)))
 (iteP (op == (41 : Int))
 (iteP (decide (x < (0 : Int)))
 (iteP (decide (x < (0 : Int))) (K (AV.sc (Value.bool true)) g) (K (AV.sc (Value.bool false)) g))
 (iteP (decide (x < (0 : Int))) (K (AV.sc (Value.bool true)) g)
 (K (AV.sc (Value.bool false)) g)))
 (iteP (op == (42 : Int))
 (iteP (decide (x < (0 : Int)))
 (iteP (decide (x < (0 : Int))) (K (AV.sc (Value.bool true)) g)
 (K (AV.sc (Value.bool false)) g))
 (iteP (decide (x < (0 : Int))) (K (AV.sc (Value.bool true)) g)
 (K (AV.sc (Value.bool false)) g)))
 (iteP (op == (30 : Int))
 (iteP (y.tmod (4 : Int) == (0 : Int)) (K (AV.sc (Value.bool true)) g)
 (iteP (y.tmod (4 : Int) == (2 : Int)) (K (AV.sc (Value.bool true)) g)
 (iteP (y.tmod (4 : Int) == (3 : Int))
 (iteP (decide (x < (0 : Int)))
 (iteP (decide (x < (0 : Int))) (K (AV.sc (Value.bool true)) g)
 (K (AV.sc (Value.bool false)) g))
 (iteP (decide (x < (0 : Int))) (K (AV.sc (Value.bool true)) g)
 (K (AV.sc (Value.bool false)) g)))
 (iteP (decide (x < (0 : Int)))
 (iteP (decide (x < (0 : Int))) (K (AV.sc (Value.bool true)) g)
 (K (AV.sc (Value.bool false)) g))
 (iteP (decide (x < (0 : Int))) (K (AV.sc (Value.bool true)) g)
 (K (AV.sc (Value.bool false)) g))))))
 (iteP (op == (33 : Int))
 (iteP (y.tmod (4 : Int) == (0 : Int)) (K (AV.sc (Value.bool true)) g)
 (iteP (y.tmod (4 : Int) == (2 : Int)) (K (AV.sc (Value.bool true)) g)
 (iteP (y.tmod (4 : Int) == (3 : Int))
 (iteP (decide (x < (0 : Int)))
 (iteP (decide (x < (0 : Int))) (K (AV.sc (Value.bool true)) g)
 (K (AV.sc (Value.bool false)) g))
 (iteP (decide (x < (0 : Int))) (K (AV.sc (Value.bool true)) g)
 (K (AV.sc (Value.bool false)) g)))
 (iteP (decide (x < (0 : Int)))
 (iteP (decide (x < (0 : Int))) (K (AV.sc (Value.bool true)) g)
 (K (AV.sc (Value.bool false)) g))
 (iteP (decide (x < (0 : Int))) (K (AV.sc (Value.bool true)) g)
 (K (AV.sc (Value.bool false)) g))))))
 (K (AV.sc (Value.bool true)) g))))))))))))))) :
 (fun (M : Int) (op x y nm : Int) (t : List UInt8) (a : Int) (g : Heap) (K : AV → Heap → Prop) => wpCall T66 (cfg M) Tryz.prog 100 66 [.agg [iA op, iA x, iA y, iA nm, aStr t, iA a], .sc (.pointer none)] g K) M op x y nm t a g K :=
 Eq.mp (by kernel_rfl) h
theorem v66 (M : Int) (op : Int) (x : Int) (y : Int) (nm : Int) (t : List UInt8) (a : Int) (id : Nat) (g : Heap) (K : AV → Heap → Prop) (h :
 iteP (op == (6 : Int))
 (iteP (decide (x < (0 : Int)))
 (iteP (decide (x < (0 : Int))) (K (AV.sc (Value.bool true)) g) (K (AV.sc (Value.bool false)) g))
 (iteP (slIn g id (2 : Nat))
 (iteP (decide (x < (↑(elsIn g id (2 : Nat)).length : Int)))
 (iteP (slIn g id (3 : Nat))
 (iteP (inRange x (elsIn g id (3 : Nat)).length)
 (getI x.toNat (elsIn g id (3 : Nat)) =
 some [AV.sc (Value.bool (cellBool (elsIn g id (3 : Nat)) x (0 : Nat)))] ∧
 iteP (cellBool (elsIn g id (3 : Nat)) x (0 : Nat)) (K (AV.sc (Value.bool false)) g)
 (K (AV.sc (Value.bool true)) g))
 False)
 False)
 (K (AV.sc (Value.bool false)) g))
 False))
 (iteP (op == (11 : Int))
 (iteP (decide (x < (0 : Int)))
 (iteP (decide (x < (0 : Int))) (K (AV.sc (Value.bool true)) g) (K (AV.sc (Value.bool false)) g))
 (iteP (slIn g id (2 : Nat))
 (iteP (decide (x < (↑(elsIn g id (2 : Nat)).length : Int)))
 (iteP (slIn g id (3 : Nat))
 (iteP (inRange x (elsIn g id (3 : Nat)).length)
 (getI x.toNat (elsIn g id (3 : Nat)) =
 some [AV.sc (Value.bool (cellBool (elsIn g id (3 : Nat)) x (0 : Nat)))] ∧
 iteP (cellBool (elsIn g id (3 : Nat)) x (0 : Nat)) (K (AV.sc (Value.bool false)) g)
 (K (AV.sc (Value.bool true)) g))
 False)
 False)
 (K (AV.sc (Value.bool false)) g))
 False))
 (iteP (op == (14 : Int))
 (iteP (decide (x < (0 : Int)))
 (iteP (decide (x < (0 : Int))) (K (AV.sc (Value.bool true)) g) (K (AV.sc (Value.bool false)) g))
 (iteP (slIn g id (2 : Nat))
 (iteP (decide (x < (↑(elsIn g id (2 : Nat)).length : Int)))
 (iteP (slIn g id (3 : Nat))
 (iteP (inRange x (elsIn g id (3 : Nat)).length)
 (getI x.toNat (elsIn g id (3 : Nat)) =
 some [AV.sc (Value.bool (cellBool (elsIn g id (3 : Nat)) x (0 : Nat)))] ∧
 iteP (cellBool (elsIn g id (3 : Nat)) x (0 : Nat)) (K (AV.sc (Value.bool false)) g)
 (K (AV.sc (Value.bool true)) g))
 False)
 False)
 (K (AV.sc (Value.bool false)) g))
 False))
 (iteP (op == (9 : Int))
 (iteP (decide (x < (0 : Int)))
 (iteP (decide (x < (0 : Int))) (K (AV.sc (Value.bool true)) g) (K (AV.sc (Value.bool false)) g))
 (iteP (slIn g id (2 : Nat))
 (iteP (decide (x < (↑(elsIn g id (2 : Nat)).length : Int)))
 (iteP (slIn g id (3 : Nat))
 (iteP (inRange x (elsIn g id (3 : Nat)).length)
 (getI x.toNat (elsIn g id (3 : Nat)) =
 some [AV.sc (Value.bool (cellBool (elsIn g id (3 : Nat)) x (0 : Nat)))] ∧
 iteP (cellBool (elsIn g id (3 : Nat)) x (0 : Nat)) (K (AV.sc (Value.bool true)) g)
 (K (AV.sc (Value.bool false)) g))
 False)
 False)
 (K (AV.sc (Value.bool false)) g))
 False))
 (iteP (op == (10 : Int))
 (iteP (decide (x < (0 : Int)))
 (iteP (decide (x < (0 : Int))) (K (AV.sc (Value.bool true)) g) (K (AV.sc (Value.bool false)) g))
 (iteP (slIn g id (2 : Nat))
 (iteP (decide (x < (↑(elsIn g id (2 : Nat)).length : Int)))
 (iteP (slIn g id (3 : Nat))
 (iteP (inRange x (elsIn g id (3 : Nat)).length)
 (getI x.toNat (elsIn g id (3 : Nat)) =
 some [AV.sc (Value.bool (cellBool (elsIn g id (3 : Nat)) x (0 : Nat)))] ∧
 iteP (cellBool (elsIn g id (3 : Nat)) x (0 : Nat)) (K (AV.sc (Value.bool true)) g)
 (K (AV.sc (Value.bool false)) g))
 False)
 False)
 (K (AV.sc (Value.bool false)) g))
 False))
 (iteP (op == (13 : Int))
 (iteP (decide (x < (0 : Int)))
 (iteP (decide (x < (0 : Int))) (K (AV.sc (Value.bool true)) g) (K (AV.sc (Value.bool false)) g))
 (iteP (slIn g id (2 : Nat))
 (iteP (decide (x < (↑(elsIn g id (2 : Nat)).length : Int)))
 (iteP (slIn g id (3 : Nat))
 (iteP (inRange x (elsIn g id (3 : Nat)).length)
 (getI x.toNat (elsIn g id (3 : Nat)) =
 some [AV.sc (Value.bool (cellBool (elsIn g id (3 : Nat)) x (0 : Nat)))] ∧
 iteP (cellBool (elsIn g id (3 : Nat)) x (0 : Nat)) (K (AV.sc (Value.bool true)) g)
 (K (AV.sc (Value.bool false)) g))
 False)
 False)
 (K (AV.sc (Value.bool false)) g))
 False))
 (iteP (op == (16 : Int))
 (iteP (decide (x < (0 : Int)))
 (iteP (decide (x < (0 : Int))) (K (AV.sc (Value.bool true)) g) (K (AV.sc (Value.bool false)) g))
 (iteP (slIn g id (2 : Nat))
 (iteP (decide (x < (↑(elsIn g id (2 : Nat)).length : Int)))
 (iteP (slIn g id (3 : Nat))
 (iteP (inRange x (elsIn g id (3 : Nat)).length)
 (getI x.toNat (elsIn g id (3 : Nat)) =
 some [AV.sc (Value.bool (cellBool (elsIn g id (3 : Nat)) x (0 : Nat)))] ∧
 iteP (cellBool (elsIn g id (3 : Nat)) x (0 : Nat)) (K (AV.sc (Value.bool true)) g)
 (K (AV.sc (Value.bool false)) g))
 False)
 False)
 (K (AV.sc (Value.bool false)) g))
 False))
 (iteP (op == (26 : Int))
 (iteP (decide (x < (0 : Int)))
 (iteP (decide (x < (0 : Int))) (K (AV.sc (Value.bool true)) g) (K (AV.sc (Value.bool false)) g))
 (iteP (slIn g id (2 : Nat))
 (iteP (decide (x < (↑(elsIn g id (2 : Nat)).length : Int)))
 (iteP (slIn g id (3 : Nat))
 (iteP (inRange x (elsIn g id (3 : Nat)).length)
 (getI x.toNat (elsIn g id (3 : Nat)) =
 some [AV.sc (Value.bool (cellBool (elsIn g id (3 : Nat)) x (0 : Nat)))] ∧
 iteP (cellBool (elsIn g id (3 : Nat)) x (0 : Nat)) (K (AV.sc (Value.bool true)) g)
 (K (AV.sc (Value.bool false)) g))
 False)
 False)
 (K (AV.sc (Value.bool false)) g))
 False))
 (iteP (op == (32 : Int))
 (iteP (decide (x < (0 : Int)))
 (iteP (decide (x < (0 : Int))) (K (AV.sc (Value.bool true)) g) (K (AV.sc (Value.bool false)) g))
 (iteP (slIn g id (2 : Nat))
 (iteP (decide (x < (↑(elsIn g id (2 : Nat)).length : Int)))
 (iteP (slIn g id (3 : Nat))
 (iteP (inRange x (elsIn g id (3 : Nat)).length)
 (getI x.toNat (elsIn g id (3 : Nat)) =
 some [AV.sc (Value.bool (cellBool (elsIn g id (3 : Nat)) x (0 : Nat)))] ∧
 iteP (cellBool (elsIn g id (3 : Nat)) x (0 : Nat)) (K (AV.sc (Value.bool true)) g)
 (K (AV.sc (Value.bool false)) g))
 False)
 False)
 (K (AV.sc (Value.bool false)) g))
 False))
 (iteP (op == (38 : Int))
 (iteP (decide (x < (0 : Int)))
 (iteP (decide (x < (0 : Int))) (K (AV.sc (Value.bool true)) g) (K (AV.sc (Value.bool false)) g))
 (iteP (slIn g id (2 : Nat))
 (iteP (decide (x < (↑(elsIn g id (2 : Nat)).length : Int)))
 (iteP (slIn g id (3 : Nat))
 (iteP (inRange x (elsIn g id (3 : Nat)).length)
 (getI x.toNat (elsIn g id (3 : Nat)) =
 some [AV.sc (Value.bool (cellBool (elsIn g id (3 : Nat)) x (0 : Nat)))] ∧
 iteP (cellBool (elsIn g id (3 : Nat)) x (0 : Nat)) (K (AV.sc (Value.bool true)) g)
 (K (AV.sc (Value.bool false)) g))
 False)
 False)
 (K (AV.sc (Value.bool false)) g))
 False))
 (iteP (op == (41 : Int))
 (iteP (decide (x < (0 : Int)))
 (iteP (decide (x < (0 : Int))) (K (AV.sc (Value.bool true)) g) (K (AV.sc (Value.bool false)) g))
 (iteP (slIn g id (2 : Nat))
 (iteP (decide (x < (↑(elsIn g id (2 : Nat)).length : Int)))
 (iteP (slIn g id (3 : Nat))
 (iteP (inRange x (elsIn g id (3 : Nat)).length)
 (getI x.toNat (elsIn g id (3 : Nat)) =
 some [AV.sc (Value.bool (cellBool (elsIn g id (3 : Nat)) x (0 : Nat)))] ∧
 iteP (cellBool (elsIn g id (3 : Nat)) x (0 : Nat)) (K (AV.sc (Value.bool true)) g)
 (K (AV.sc (Value.bool false)) g))
 False)
 False)
 (K (AV.sc (Value.bool false)) g))
 False))
 (iteP (op == (42 : Int))
 (iteP (decide (x < (0 : Int)))
 (iteP (decide (x < (0 : Int))) (K (AV.sc (Value.bool true)) g)
 (K (AV.sc (Value.bool false)) g))
 (iteP (slIn g id (2 : Nat))
 (iteP (decide (x < (↑(elsIn g id (2 : Nat)).length : Int)))
 (iteP (slIn g id (3 : Nat))
 (iteP (inRange x (elsIn g id (3 : Nat)).length)
 (getI x.toNat (elsIn g id (3 : Nat)) =
 some [AV.sc (Value.bool (cellBool (elsIn g id (3 : Nat)) x (0 : Nat)))] ∧
 iteP (cellBool (elsIn g id (3 : Nat)) x (0 : Nat)) (K (AV.sc (Value.bool true)) g)
 (K (AV.sc (Value.bool false)) g))
 False)
 False)
 (K (AV.sc (Value.bool false)) g))
 False))
 (iteP (op == (30 : Int))
 (iteP (y.tmod (4 : Int) == (0 : Int)) (K (AV.sc (Value.bool true)) g)
 (iteP (y.tmod (4 : Int) == (2 : Int)) (K (AV.sc (Value.bool true)) g)
 (iteP (y.tmod (4 : Int) == (3 : Int))
 (iteP (decide (x < (0 : Int)))
 (iteP (decide (x < (0 : Int))) (K (AV.sc (Value.bool true)) g)
 (K (AV.sc (Value.bool false)) g))
 (iteP (slIn g id (2 : Nat))
 (iteP (decide (x < (↑(elsIn g id (2 : Nat)).length : Int)))
 (iteP (slIn g id (3 : Nat))
 (iteP (inRange x (elsIn g id (3 : Nat)).length)
 (getI x.toNat (elsIn g id (3 : Nat)) =
 some [AV.sc (Value.bool (cellBool (elsIn g id (3 : Nat)) x (0 : Nat)))] ∧
 iteP (cellBool (elsIn g id (3 : Nat)) x (0 : Nat))
 (K (AV.sc (Value.bool true)) g) (K (AV.sc (Value.bool false)) g))
 False)
 False)
 (K (AV.sc (Value.bool false)) g))
 False))
 (iteP (decide (x < (0 : Int)))
 (iteP (decide (x < (0 : Int))) (K (AV.sc (Value.bool true)) g)
 (K (AV.sc (Value.bool false)) g))
 (iteP (slIn g id (2 : Nat))
 (iteP (decide (x < (↑(elsIn g id (2 : Nat)).length : Int)))
 (iteP (slIn g id (3 : Nat))
 (iteP (inRange x (elsIn g id (3 : Nat)).length)
 (getI x.toNat (elsIn g id (3 : Nat)) =
 some [AV.sc (Value.bool (cellBool (elsIn g id (3 : Nat)) x (0 : Nat)))] ∧
 iteP (cellBool (elsIn g id (3 : Nat)) x (0 : Nat))
 (K (AV.sc (Value.bool false)) g) (K (AV.sc (Value.bool true)) g))
 False)
 False)
 (K (AV.sc (Value.bool false)) g))
 False)))))
 (iteP (op == (33 : Int))
 (iteP (y.tmod (4 : Int) == (0 : Int)) (K (AV.sc (Value.bool true)) g)
 (iteP (y.tmod (4 : Int) == (2 : Int)) (K (AV.sc (Value.bool true)) g)
 (iteP (y.tmod (4 : Int) == (3 : Int))
 (iteP (decide (x < (0 : Int)))
 (iteP (decide (x < (0 : Int))) (K (AV.sc (Value.bool true)) g)
 (K (AV.sc (Value.bool false)) g))
 (iteP (slIn g id (2 : Nat))
 (iteP (decide (x < (↑(elsIn g id (2 : Nat)).length : Int)))
 (iteP (slIn g id (3 : Nat))
 (iteP (inRange x (elsIn g id (3 : Nat)).length)
 (getI x.toNat (elsIn g id (3 : Nat)) =
 some
 [AV.sc (Value.bool (cellBool (elsIn g id (3 : Nat)) x (0 : Nat)))] ∧
 iteP (cellBool (elsIn g id (3 : Nat)) x (0 : Nat))
 (K (AV.sc (Value.bool true)) g) (K (AV.sc (Value.bool false)) g))
 False)
 False)
 (K (AV.sc (Value.bool false)) g))
 False))
 (iteP (decide (x < (0 : Int)))
 (iteP (decide (x < (0 : Int))) (K (AV.sc (Value.bool true)) g)
 (K (AV.sc (Value.bool false)) g))
 (iteP (slIn g id (2 : Nat))
 (iteP (decide (x < (↑(elsIn g id (2 : Nat)).length : Int)))
 (iteP (slIn g id (3 : Nat))
 (iteP (inRange x (elsIn g id (3 : Nat)).length)
 (getI x.toNat (elsIn g id (3 : Nat)) =
 some
 [AV.sc (Value.bool (cellBool (elsIn g id (3 : Nat)) x (0 : Nat)))] ∧
 iteP (cellBool (elsIn g id (3 : Nat)) x (0 : Nat))
 (K (AV.sc (Value.bool false)) g) (K (AV.sc (Value.bool true)) g))
 False)
 False)
 (K (AV.sc (Value.bool false)) g))
 False)))))
 (K (AV.sc (Value.bool true)) g))))))))))))))) :
 (fun (M : Int) (op x y nm : Int) (t : List UInt8) (a : Int) (id : Nat) (g : Heap) (K : AV → Heap → Prop) => wpCall T66 (cfg M) Tryz.prog 100 66 [.agg [iA op, iA x, iA y, iA nm, aStr t, iA a], .ptr id 0] g K) M op x y nm t a id g K :=
 Eq.mp (by kernel_rfl) h
theorem v33 (M : Int) (si : Cells) (sf : Cells) (b : Int) (e : Int) (n : Int) (r : Int) (ra : Int) (s : List UInt8) (K : AV → Prop) (h :
 iteP (inRange ra (List.length si))
 (getI ra.toNat si =
 some
 [AV.sc (Value.int IntKind.i64 (cellInt si ra (0 : Nat))),
 AV.sc (Value.int IntKind.i64 (cellInt si ra (1 : Nat))),
 AV.sc (Value.int IntKind.i64 (cellInt si ra (2 : Nat))),
 AV.sc (Value.int IntKind.i64 (cellInt si ra (3 : Nat))),
 AV.sc (Value.string (ByteArray.mk (Array.mk (cellStr si ra (4 : Nat))))),
 AV.sc (Value.int IntKind.i64 (cellInt si ra (5 : Nat)))] ∧
 InsOk si sf r (cellInt si ra (0 : Nat)) (cellInt si ra (1 : Nat)) (cellInt si ra (2 : Nat))
 (cellInt si ra (3 : Nat)) (cellStr si ra (4 : Nat)) ∧
 ∀ (x : List UInt8 × List UInt8),
 x =
 (popsF sf (cellInt si ra (0 : Nat)) (cellInt si ra (1 : Nat)) (cellInt si ra (2 : Nat)),
 pushF (cellInt si ra (0 : Nat))) →
 (Mid s ∧ Mid x.fst) ∧
 ∀ (x_1 : List UInt8 × Bool),
 (x_1 =
 if x.fst.length ≤ s.length ∧ List.drop (s.length - x.fst.length) s = x.fst then
 (List.take (s.length - x.fst.length) s, true)
 else (s, false)) →
 iteP x_1.snd
 (iteP (strFits x_1.fst x.snd)
 (iteP (cellInt si ra (0 : Nat) == (29 : Int))
 (K (AV.tup [AV.sc (Value.slice none (0 : Nat) (0 : Nat)), AV.sc (Value.bool true)]))
 (iteP (cellInt si ra (0 : Nat) == (43 : Int))
 (K (AV.tup [AV.sc (Value.slice none (0 : Nat) (0 : Nat)), AV.sc (Value.bool true)]))
 (iteP (cellInt si ra (0 : Nat) == (44 : Int))
 (K (AV.tup [AV.sc (Value.slice none (0 : Nat) (0 : Nat)), AV.sc (Value.bool true)]))
 (iteP (cellInt si ra (0 : Nat) == (48 : Int))
 (iteP (decide (s = []))
 (K (AV.tup [AV.sc (Value.slice none (0 : Nat) (0 : Nat)), AV.sc (Value.bool true)]))
 (K (AV.tup [AV.sc (Value.slice none (0 : Nat) (0 : Nat)), AV.sc (Value.bool false)])))
 (iteP (cellInt si ra (0 : Nat) == (49 : Int))
 (iteP (decide (s = []))
 (K (AV.tup [AV.sc (Value.slice none (0 : Nat) (0 : Nat)), AV.sc (Value.bool true)]))
 (K (AV.tup [AV.sc (Value.slice none (0 : Nat) (0 : Nat)), AV.sc (Value.bool false)])))
 (iteP (cellInt si ra (0 : Nat) == (22 : Int))
 (K
 (AV.tup
 [AV.sl
 [[AV.sc (Value.int IntKind.i64 (cellInt si ra (1 : Nat))),
 AV.sc (Value.string (ByteArray.mk (Array.mk x_1.fst)))]]
 (0 : Nat),
 AV.sc (Value.bool true)]))
 (iteP (cellInt si ra (0 : Nat) == (39 : Int))
 (K
 (AV.tup
 [AV.sl
 [[AV.sc (Value.int IntKind.i64 (cellInt si ra (1 : Nat))),
 AV.sc (Value.string (ByteArray.mk (Array.mk s)))],
 [AV.sc (Value.int IntKind.i64 (IntKind.i64.wrap (ra + (1 : Int)))),
 AV.sc (Value.string (ByteArray.mk (Array.mk (x_1.fst ++ x.snd))))]]
 (0 : Nat),
 AV.sc (Value.bool true)]))
 (iteP (cellInt si ra (0 : Nat) == (23 : Int))
 (K
 (AV.tup
 [AV.sl
 [[AV.sc (Value.int IntKind.i64 (cellInt si ra (1 : Nat))),
 AV.sc (Value.string (ByteArray.mk (Array.mk x_1.fst)))],
 [AV.sc (Value.int IntKind.i64 (IntKind.i64.wrap (ra + (1 : Int)))),
 AV.sc (Value.string (ByteArray.mk (Array.mk (x_1.fst ++ x.snd))))]]
 (0 : Nat),
 AV.sc (Value.bool true)]))
 (iteP (cellInt si ra (0 : Nat) == (24 : Int))
 (K
 (AV.tup
 [AV.sl
 [[AV.sc (Value.int IntKind.i64 (cellInt si ra (1 : Nat))),
 AV.sc (Value.string (ByteArray.mk (Array.mk x_1.fst)))],
 [AV.sc (Value.int IntKind.i64 (IntKind.i64.wrap (ra + (1 : Int)))),
 AV.sc (Value.string (ByteArray.mk (Array.mk (x_1.fst ++ x.snd))))]]
 (0 : Nat),
 AV.sc (Value.bool true)]))
 (iteP (cellInt si ra (0 : Nat) == (45 : Int))
 (K
 (AV.tup
 [AV.sl
 [[AV.sc (Value.int IntKind.i64 (cellInt si ra (1 : Nat))),
 AV.sc (Value.string (ByteArray.mk (Array.mk x_1.fst)))],
 [AV.sc (Value.int IntKind.i64 (IntKind.i64.wrap (ra + (1 : Int)))),
 AV.sc (Value.string (ByteArray.mk (Array.mk (x_1.fst ++ x.snd))))]]
 (0 : Nat),
 AV.sc (Value.bool true)]))
 (K
 (AV.tup
 [AV.sl
 [[AV.sc (Value.int IntKind.i64 (IntKind.i64.wrap (ra + (1 : Int)))),
 AV.sc (Value.string (ByteArray.mk (Array.mk (x_1.fst ++ x.snd))))]]
 (0 : Nat),
 AV.sc (Value.bool true)]))))))))))))
 False)
 (K (AV.tup [AV.sc (Value.slice none (0 : Nat) (0 : Nat)), AV.sc (Value.bool false)])))
 False) :
 (fun (M : Int) (si sf : Cells) (b e n r : Int) (ra : Int) (s : List UInt8) (K : AV → Prop) => wpCall T33 (cfg M) Tryz.prog 100 33 [codeA si sf b e n r, .agg [iA ra, aStr s]] heapF fun r h' => wpBack h' r K) M si sf b e n r ra s K :=
 Eq.mp (by kernel_rfl) h
end
end Go.Proofs.Sp.Sj
namespace Go.Ef
open Go
structure Live (h : Heap) (id : Nat) (o : AObj) : Prop where
 get : h.get id = some o
 ro : h.ro ≤ id
theorem Live.lt {h : Heap} {id : Nat} {o : AObj} (k : Live h id o) : id < h.next := by
 have := k.get
 unfold Heap.get at this
 cases hb : Nat.blt id h.next with
 | true => exact Nat.le_of_ble_eq_true hb
 | false => rw [hb] at this; cases this
theorem Live.low {h : Heap} {id : Nat} {o : AObj} (k : Live h id o) : h.ro ≤ h.next := Nat.le_trans k.ro (Nat.le_of_lt k.lt)
theorem Live.cell {h : Heap} {id : Nat} {cs : List AV} (k : Live h id (.cells cs)) (o : Nat) : cellIn h id o = cs[o]? := by
 unfold cellIn; rw [k.get]
theorem newIn_rest (h : Heap) (o : AObj) : (newIn h o).ro = h.ro ∧ (newIn h o).next = h.next + 1 := by
 rw [newIn_eq]; exact ⟨rfl, rfl⟩
theorem newIn_get (h : Heap) (o : AObj) : (newIn h o).get h.next = some o := by
 rw [newIn_eq, Heap.new_eq]
 unfold Heap.get
 simp only []
 rw [show Nat.blt h.next (h.next + 1) = true from Nat.ble_eq_true_of_le (Nat.le_refl _), Tr.get_set, if_pos rfl]; rfl
theorem newIn_old {h : Heap} {id : Nat} {o p : AObj} (k : h.get id = some o) : (newIn h p).get id = some o := by
 have hlt : id < h.next := by
  unfold Heap.get at k
  cases hb : Nat.blt id h.next with
  | true => exact Nat.le_of_ble_eq_true hb
  | false => rw [hb] at k; cases k
 rw [newIn_eq, Heap.new_eq]
 unfold Heap.get at k ⊢
 simp only []
 rw [show Nat.blt id h.next = true from Nat.ble_eq_true_of_le hlt] at k
 rw [show Nat.blt id (h.next + 1) = true from Nat.ble_eq_true_of_le (by omega), Tr.get_set, if_neg (by omega)]
 exact k
theorem Live.new {h : Heap} {id : Nat} {o p : AObj} (k : Live h id o) : Live (newIn h p) id o := ⟨newIn_old k.get, by rw [(newIn_rest h p).1]; exact k.ro⟩
theorem live_new {h : Heap} (hl : h.ro ≤ h.next) (o : AObj) : Live (newIn h o) h.next o := ⟨newIn_get h o, by rw [(newIn_rest h o).1]; exact hl⟩
theorem box_new (h : Heap) (t : TypeId) (cs : List AV) : (boxIn h t cs).ro = h.ro ∧ (boxIn h t cs).next = h.next + 1 := by
 rw [boxIn_eq]; exact ⟨rfl, rfl⟩
theorem box_get (h : Heap) (t : TypeId) (cs : List AV) (id : Nat) : (boxIn h t cs).get id = (newIn h (.cells cs)).get id := by
 rw [boxIn_eq, newIn_eq]; rfl
theorem Live.box {h : Heap} {id : Nat} {o : AObj} {t : TypeId} {cs : List AV} (k : Live h id o) : Live (boxIn h t cs) id o := ⟨by rw [box_get]; exact newIn_old k.get, by rw [(box_new h t cs).1]; exact k.ro⟩
theorem live_box {h : Heap} (hl : h.ro ≤ h.next) (t : TypeId) (cs : List AV) : Live (boxIn h t cs) h.next (.cells cs) := ⟨by rw [box_get]; exact newIn_get h _, by rw [(box_new h t cs).1]; exact hl⟩
theorem put_in_get {h : Heap} {id : Nat} {o p : AObj} (k : Live h id p) (j : Nat) : (putIn h id o).get j = if id = j then some o else h.get j := put_get (put_ok k.ro k.lt) j
theorem put_in_rest {h : Heap} {id : Nat} {o p : AObj} (k : Live h id p) : (putIn h id o).ro = h.ro ∧ (putIn h id o).next = h.next := let q := put_rest (put_ok (o := o) k.ro k.lt); ⟨q.1, q.2.1⟩
theorem live_put {h : Heap} {id : Nat} {p : AObj} (k : Live h id p) (o : AObj) : Live (putIn h id o) id o := ⟨by rw [put_in_get k, if_pos rfl], by rw [(put_in_rest k).1]; exact k.ro⟩
theorem Live.put {h : Heap} {id j : Nat} {o p q : AObj} (k : Live h id p) (l : Live h j q) (hne : id ≠ j) : Live (putIn h id o) j q := ⟨by rw [put_in_get k, if_neg hne]; exact l.get, by rw [(put_in_rest k).1]; exact l.ro⟩
theorem get_put_other {h : Heap} {id j : Nat} {o p q : AObj} (k : Live h id p) (l : h.get j = some q) (hne : id ≠ j) : (putIn h id o).get j = some q := by rw [put_in_get k, if_neg hne]; exact l
theorem store_eq {h : Heap} {id off : Nat} {vs cs : List AV} (k : Live h id (.cells cs)) : storeIn h id off vs = putIn h id (.cells (overC cs off vs)) := by
 unfold storeIn; rw [lk_eq, k.get]
theorem ok_in {h : Heap} {id off n : Nat} {cs : List AV} (k : Live h id (.cells cs)) (hl : off + n ≤ cs.length) : okIn h id off n = true := by
 unfold okIn
 rw [lk_eq, k.get]
 simp only []
 rw [Nat.ble_eq_true_of_le hl, Nat.ble_eq_true_of_le k.ro, show Nat.blt id h.next = true from Nat.ble_eq_true_of_le k.lt]; rfl
theorem over_one {cs : List AV} {i : Nat} {v : AV} (h : i < cs.length) : overC cs i [v] = cs.set i v := by
 unfold overC
 rw [List.set_eq_take_append_cons_drop, if_pos h]; simp
theorem app_ok {h : Heap} {id off n : Nat} {cs : List AV} (k : Live h id (.cells cs)) (hl : off + n ≤ cs.length) : appOk h id off n = true := ok_in k hl
theorem app_eq {h : Heap} {id off n : Nat} {new : List (List AV)} {cs : List AV} (k : Live h id (.cells cs)) : appIn h id off n new = newIn (putIn h id .dead) (.cells (cutC cs off n ++ new.flatten)) := by
 unfold appIn; rw [lk_eq, k.get, newIn_eq]
theorem app_get {h : Heap} {id off n : Nat} {new : List (List AV)} {cs : List AV} (k : Live h id (.cells cs)) : Live (appIn h id off n new) h.next (.cells (cutC cs off n ++ new.flatten)) := by
 rw [app_eq k]
 have := live_new (h := putIn h id .dead) (by rw [(put_in_rest k).1, (put_in_rest k).2]; exact k.low) (.cells (cutC cs off n ++ new.flatten))
 rwa [(put_in_rest k).2] at this
theorem Live.app {h : Heap} {id j off n : Nat} {new : List (List AV)} {cs : List AV} {q : AObj} (k : Live h id (.cells cs)) (l : Live h j q) (hne : id ≠ j) : Live (appIn h id off n new) j q := by
 rw [app_eq k]; exact (k.put l hne).new
theorem app_rest {h : Heap} {id off n : Nat} {new : List (List AV)} {cs : List AV} (k : Live h id (.cells cs)) : (appIn h id off n new).ro = h.ro ∧ (appIn h id off n new).next = h.next + 1 := by
 rw [app_eq k, (newIn_rest _ _).1, (newIn_rest _ _).2, (put_in_rest k).1, (put_in_rest k).2]; exact ⟨rfl, rfl⟩
theorem get_app_other {h : Heap} {id j off n : Nat} {new : List (List AV)} {cs : List AV} {q : AObj} (k : Live h id (.cells cs)) (l : h.get j = some q) (hne : id ≠ j) : (appIn h id off n new).get j = some q := by
 rw [app_eq k]; exact newIn_old (get_put_other k l hne)
structure MapIs (h : Heap) (id : Nat) (D : Int → Option (List UInt8)) : Prop where
 is : ∃ es, Live h id (.map es) ∧ mapKds .i64 es = true ∧ ∀ n, mapFind n es = D n
theorem MapIs.inn {h : Heap} {id : Nat} {D : Int → Option (List UInt8)} (k : MapIs h id D) : mapIn h id .i64 = true := by
 obtain ⟨es, h1, h2, _⟩ := k.is
 unfold mapIn; rw [h1.get]; exact h2
theorem MapIs.find {h : Heap} {id : Nat} {D : Int → Option (List UInt8)} (k : MapIs h id D) (n : Int) : mapGet h id n = D n := by
 obtain ⟨es, h1, _, h3⟩ := k.is
 unfold mapGet; rw [h1.get]; exact h3 n
theorem MapIs.put {h : Heap} {id : Nat} {D : Int → Option (List UInt8)} (k : MapIs h id D) : mapPut h id = true := by
 obtain ⟨es, h1, _, _⟩ := k.is
 unfold mapPut
 rw [lk_eq, Nat.ble_eq_true_of_le h1.ro, show Nat.blt id h.next = true from Nat.ble_eq_true_of_le h1.lt]; rfl
theorem idx_none {n : Int} : ∀ {es : List (AV × AV)} {i : Nat}, mapKds .i64 es = true → mapFind n es = none → idxOf n i es = none := by
 intro es
 induction es with
 | nil => intro i _ _; rfl
 | cons p r ih =>
  intro i h1 h2
  obtain ⟨⟨m, s, rfl⟩, hr⟩ := mapKds_cons h1
  unfold mapFind at h2
  unfold idxOf
  simp only [] at h2 ⊢
  cases hd : decide (n = m) with
  | true => rw [hd] at h2; cases h2
  | false => rw [hd] at h2; exact ih hr h2
theorem find_end {n m : Int} {s : List UInt8} : ∀ {es : List (AV × AV)}, mapKds .i64 es = true → mapFind m (es ++ [(.sc (.int .i64 n), .sc (.string ⟨⟨s⟩⟩))]) = match mapFind m es with | some t => some t | none => if m = n then some s else none := by
 intro es
 induction es with
 | nil =>
  intro _
  simp only [List.nil_append, mapFind]
  by_cases e : m = n
  ·rw [decide_eq_true e, if_pos e]; rfl
  ·rw [decide_eq_false e, if_neg e]; rfl
 | cons p r ih =>
  intro h
  obtain ⟨⟨k, t, rfl⟩, hr⟩ := mapKds_cons h
  simp only [List.cons_append, mapFind]
  cases hd : decide (m = k) with
  | true => rfl
  | false => exact ih hr
theorem kds_end {es : List (AV × AV)} {n : Int} {s : List UInt8} (h : mapKds .i64 es = true) : mapKds .i64 (es ++ [(.sc (.int .i64 n), .sc (.string ⟨⟨s⟩⟩))]) = true := by
 unfold mapKds at h ⊢
 rw [List.all_append, h]
 rfl
theorem MapIs.set {h : Heap} {id : Nat} {D : Int → Option (List UInt8)} (k : MapIs h id D) {n : Int} (hn : D n = none) (s : List UInt8) : MapIs (mapSet h id .i64 n s) id (fun m => if m = n then some s else D m) ∧
  (mapSet h id .i64 n s).ro = h.ro ∧ (mapSet h id .i64 n s).next = h.next ∧ (∀ j q, id ≠ j → Live h j q → Live (mapSet h id .i64 n s) j q) := by
 obtain ⟨es, h1, h2, h3⟩ := k.is
 have hi : idxOf n 0 es = none := idx_none h2 (by rw [h3]; exact hn)
 have he : mapSet h id .i64 n s = putIn h id (.map (es ++ [(.sc (.int .i64 n), .sc (.string ⟨⟨s⟩⟩))])) := by
  unfold mapSet
  rw [lk_eq, h1.get]
  simp only []
  rw [hi]; rfl
 rw [he]
 refine ⟨⟨_, live_put h1 _, kds_end h2, fun m => ?_⟩, (put_in_rest h1).1, (put_in_rest h1).2, fun j q hne l => h1.put l hne⟩
 rw [find_end h2, h3]
 by_cases e : m = n
 ·subst e; rw [hn, if_pos rfl]
 ·rw [if_neg e]
  cases D m <;> simp [e]
theorem MapIs.keep {h h' : Heap} {id : Nat} {D : Int → Option (List UInt8)} (k : MapIs h id D) (hk : ∀ q, Live h id q → Live h' id q) : MapIs h' id D := by
 obtain ⟨es, h1, h2, h3⟩ := k.is
 exact ⟨es, hk _ h1, h2, h3⟩
theorem map_new {h : Heap} (hl : h.ro ≤ h.next) : MapIs (newIn h (.map [])) h.next (fun _ => none) := ⟨[], live_new hl _, rfl, fun _ => rfl⟩
end Go.Ef
namespace Go.Proofs.Sp.Sj
open Go Go.Ef Go.Proofs.Pt
noncomputable section
set_option maxRecDepth 100000
variable {M : Int}
structure RowI (si : Cells) (k : Int) (i : InsD) : Prop where
 get : getI k.toNat si = some [iA i.op, iA i.x, iA i.y, iA i.n, aStr i.t, iA i.a]
 op : cellInt si k 0 = i.op
 x : cellInt si k 1 = i.x
 y : cellInt si k 2 = i.y
 n : cellInt si k 3 = i.n
 t : cellStr si k 4 = i.t
 a : cellInt si k 5 = i.a
theorem ins_row {l : List InsD} {x : Int} (h0 : 0 ≤ x) (h1 : x < (rowI l).length) : ∃ i ∈ l, RowI (rowI l) x i := by
 have hl : x.toNat < l.length := by
  have : (rowI l).length = l.length := by simp [rowI]
  omega
 refine ⟨l[x.toNat], List.getElem_mem hl, ?_⟩
 have hg : getI x.toNat (rowI l) = some (cellI l[x.toNat]) := by
  unfold rowI
  rw [getI_eq, List.getElem?_map, List.getElem?_eq_getElem hl]; rfl
 refine ⟨hg, ?_, ?_, ?_, ?_, ?_, ?_⟩
 ·unfold cellInt cellAt; rw [hg]; rfl
 ·unfold cellInt cellAt; rw [hg]; rfl
 ·unfold cellInt cellAt; rw [hg]; rfl
 ·unfold cellInt cellAt; rw [hg]; rfl
 ·unfold cellStr cellAt; rw [hg]; rfl
 ·unfold cellInt cellAt; rw [hg]; rfl
theorem Codes.row {si sf : Cells} {r x : Int} (h : Codes si sf r) (h0 : 0 ≤ x) (h1 : x < si.length) : getI x.toNat si = some [iA (cellInt si x 0), iA (cellInt si x 1), iA (cellInt si x 2), iA (cellInt si x 3), aStr (cellStr si x 4), iA (cellInt si x 5)] ∧
  InsOk si sf r (cellInt si x 0) (cellInt si x 1) (cellInt si x 2) (cellInt si x 3) (cellStr si x 4) := by
 obtain ⟨hrg, hfs, ⟨l, rfl, hl⟩, hn⟩ := h
 obtain ⟨i, hi, hr⟩ := ins_row h0 h1
 rw [hr.op, hr.x, hr.y, hr.n, hr.t, hr.a]
 exact ⟨hr.get, hrg, hfs, (hl i hi).2⟩
theorem sl_in {g : Heap} {id o : Nat} {e : List (List AV)} (h : cellIn g id o = some (.sl e 0)) : slIn g id o = true ∧ elsIn g id o = e := by
 unfold slIn elsIn; rw [h]; exact ⟨rfl, rfl⟩
theorem bool_row {m : List Bool} {x : Int} (h0 : 0 ≤ x) (h1 : x < (rowO m).length) : getI x.toNat (rowO m) = some [AV.sc (Value.bool (cellBool (rowO m) x 0))] := by
 obtain ⟨k, rfl⟩ : ∃ k : Nat, x = k := ⟨x.toNat, by omega⟩
 have hk : k < m.length := by rw [rowO_len] at h1; omega
 rw [Int.toNat_natCast, rowO_get hk, rowO_cell hk]; rfl
theorem go66 {K : AV → Heap → Prop} {g : Heap} {id : Nat} {x : Int} {arr : Bool} (hf : FpIs g id) (hK : K (bA (goB x (fiAt g id) arr)) g) :
  iteP (decide (x < (0 : Int)))
  (iteP (decide (x < (0 : Int))) (K (AV.sc (Value.bool true)) g) (K (AV.sc (Value.bool false)) g))
  (iteP (slIn g id (2 : Nat))
  (iteP (decide (x < ((elsIn g id (2 : Nat)).length : Int)))
  (iteP (slIn g id (3 : Nat))
  (iteP (inRange x (elsIn g id (3 : Nat)).length)
  (getI x.toNat (elsIn g id (3 : Nat)) =
  some [AV.sc (Value.bool (cellBool (elsIn g id (3 : Nat)) x (0 : Nat)))] ∧
  iteP (cellBool (elsIn g id (3 : Nat)) x (0 : Nat)) (K (AV.sc (Value.bool (true == arr))) g)
  (K (AV.sc (Value.bool (false == arr))) g))
  False)
  False)
  (K (AV.sc (Value.bool false)) g))
  False) := by
 obtain ⟨f, h1, h2, h3, h4⟩ := hf
 unfold fiAt at hK
 unfold goB at hK
 obtain ⟨s1, e1⟩ := sl_in h1
 obtain ⟨s2, e2⟩ := sl_in h2
 rw [e1, e2] at hK ⊢
 by_cases hx : x < 0
 ·rw [if_pos hx] at hK
  exact it (dt hx) (it (dt hx) hK)
 ·rw [if_neg hx] at hK
  simp only [] at hK
  refine ie (df hx) (it s1 (iti (fun h => it s2 ?_) (fun h => ?_)))
  ·rw [h, Bool.true_and] at hK
   have h := of_decide_eq_true h
   have hl : x < (rowO f.arrays).length := by rw [rowO_len]; rw [rowS_len] at h; omega
   refine it (by rw [inRange_iff]; omega) ⟨bool_row (by omega) hl, ?_⟩
   cases hb : cellBool (rowO f.arrays) x 0 with
   | true => rw [hb] at hK; exact hK
   | false => rw [hb] at hK; exact hK
  ·rw [h, Bool.false_and] at hK
   exact hK
theorem go66n {K : AV → Heap → Prop} {g : Heap} {x : Int} {arr : Bool} (hK : K (bA (goB x none arr)) g) :
  iteP (decide (x < (0 : Int)))
  (iteP (decide (x < (0 : Int))) (K (AV.sc (Value.bool true)) g) (K (AV.sc (Value.bool false)) g))
  (iteP (decide (x < (0 : Int))) (K (AV.sc (Value.bool true)) g) (K (AV.sc (Value.bool false)) g)) := by
 unfold goB at hK
 by_cases hx : x < 0
 ·rw [if_pos hx] at hK
  exact it (dt hx) (it (dt hx) hK)
 ·rw [if_neg hx] at hK
  exact ie (df hx) (ie (df hx) hK)
theorem eqi {a b : Int} (h : (a == b) = true) : a = b := by simpa using h
theorem tm4 {K : AV → Heap → Prop} {g : Heap} {y : Int} {A B : Prop} (h0 : y.tmod 4 = 0 ∨ y.tmod 4 = 2 → K (bA true) g) (h3 : ¬(y.tmod 4 = 0 ∨ y.tmod 4 = 2) → y.tmod 4 = 3 → A) (h1 : ¬(y.tmod 4 = 0 ∨ y.tmod 4 = 2) → y.tmod 4 ≠ 3 → B) :
  iteP (y.tmod (4 : Int) == (0 : Int)) (K (AV.sc (Value.bool true)) g) (iteP (y.tmod (4 : Int) == (2 : Int)) (K (AV.sc (Value.bool true)) g) (iteP (y.tmod (4 : Int) == (3 : Int)) A B)) := by
 refine iti (fun h => h0 (.inl (eqi h))) (fun ha => iti (fun h => h0 (.inr (eqi h))) (fun hb => ?_))
 have hn : ¬(y.tmod 4 = 0 ∨ y.tmod 4 = 2) := by
  rintro (h | h)
  ·rw [h] at ha; cases ha
  ·rw [h] at hb; cases hb
 exact iti (fun h => h3 hn (eqi h)) (fun h => h1 hn (fun e => by rw [e] at h; cases h))
theorem slot30 {x y : Int} {fi : Fi} : slotB 30 x y fi = if y.tmod 4 = 0 ∨ y.tmod 4 = 2 then true else goB x fi (decide (y.tmod 4 = 3)) := rfl
theorem slot33 {x y : Int} {fi : Fi} : slotB 33 x y fi = if y.tmod 4 = 0 ∨ y.tmod 4 = 2 then true else goB x fi (decide (y.tmod 4 = 3)) := rfl
theorem okz66 : Ok M T66 := ⟨ok0.call, ok0.loop⟩
theorem wp66n {op x y nm a : Int} {t : List UInt8} {g : Heap} {K : AV → Heap → Prop} (hK : K (bA (slotB op x y none)) g) : wpCall T66 (cfg M) Tryz.prog 100 66 [.agg [iA op, iA x, iA y, iA nm, aStr t, iA a], .sc (.pointer none)] g K := by
 refine v66n M op x y nm t a g K ?_
 (refine iti (fun hh => ?_) (fun hh => ?_); · (have hh := eqi hh; subst hh; exact go66n (arr := false) hK))
 (refine iti (fun hh => ?_) (fun hh => ?_); · (have hh := eqi hh; subst hh; exact go66n (arr := false) hK))
 (refine iti (fun hh => ?_) (fun hh => ?_); · (have hh := eqi hh; subst hh; exact go66n (arr := false) hK))
 (refine iti (fun hh => ?_) (fun hh => ?_); · (have hh := eqi hh; subst hh; exact go66n (arr := true) hK))
 (refine iti (fun hh => ?_) (fun hh => ?_); · (have hh := eqi hh; subst hh; exact go66n (arr := true) hK))
 (refine iti (fun hh => ?_) (fun hh => ?_); · (have hh := eqi hh; subst hh; exact go66n (arr := true) hK))
 (refine iti (fun hh => ?_) (fun hh => ?_); · (have hh := eqi hh; subst hh; exact go66n (arr := true) hK))
 (refine iti (fun hh => ?_) (fun hh => ?_); · (have hh := eqi hh; subst hh; exact go66n (arr := true) hK))
 (refine iti (fun hh => ?_) (fun hh => ?_); · (have hh := eqi hh; subst hh; exact go66n (arr := true) hK))
 (refine iti (fun hh => ?_) (fun hh => ?_); · (have hh := eqi hh; subst hh; exact go66n (arr := true) hK))
 (refine iti (fun hh => ?_) (fun hh => ?_); · (have hh := eqi hh; subst hh; exact go66n (arr := true) hK))
 (refine iti (fun hh => ?_) (fun hh => ?_); · (have hh := eqi hh; subst hh; exact go66n (arr := true) hK))
 refine iti (fun hh => ?_) (fun hh => iti (fun hh => ?_) (fun hh => ?_))
 ·obtain rfl := eqi hh
  rw [slot30] at hK
  refine tm4 (fun h => ?_) (fun h h3 => ?_) (fun h h3 => ?_)
  ·rw [if_pos h] at hK; exact hK
  ·rw [if_neg h, dt h3] at hK; exact go66n hK
  ·rw [if_neg h, df h3] at hK; exact go66n hK
 ·obtain rfl := eqi hh
  rw [slot33] at hK
  refine tm4 (fun h => ?_) (fun h h3 => ?_) (fun h h3 => ?_)
  ·rw [if_pos h] at hK; exact hK
  ·rw [if_neg h, dt h3] at hK; exact go66n hK
  ·rw [if_neg h, df h3] at hK; exact go66n hK
 ·have : slotB op x y none = true := by unfold slotB; simp_all
  rw [this] at hK; exact hK
theorem wp66 {op x y nm a : Int} {t : List UInt8} {g : Heap} {id : Nat} {K : AV → Heap → Prop} (hp : FpIs g id) (hK : K (bA (slotB op x y (fiAt g id))) g) : wpCall T66 (cfg M) Tryz.prog 100 66 [.agg [iA op, iA x, iA y, iA nm, aStr t, iA a], .ptr id 0] g K := by
 refine v66 M op x y nm t a id g K ?_
 (refine iti (fun hh => ?_) (fun hh => ?_); · (have hh := eqi hh; subst hh; exact go66 (arr := false) hp hK))
 (refine iti (fun hh => ?_) (fun hh => ?_); · (have hh := eqi hh; subst hh; exact go66 (arr := false) hp hK))
 (refine iti (fun hh => ?_) (fun hh => ?_); · (have hh := eqi hh; subst hh; exact go66 (arr := false) hp hK))
 (refine iti (fun hh => ?_) (fun hh => ?_); · (have hh := eqi hh; subst hh; exact go66 (arr := true) hp hK))
 (refine iti (fun hh => ?_) (fun hh => ?_); · (have hh := eqi hh; subst hh; exact go66 (arr := true) hp hK))
 (refine iti (fun hh => ?_) (fun hh => ?_); · (have hh := eqi hh; subst hh; exact go66 (arr := true) hp hK))
 (refine iti (fun hh => ?_) (fun hh => ?_); · (have hh := eqi hh; subst hh; exact go66 (arr := true) hp hK))
 (refine iti (fun hh => ?_) (fun hh => ?_); · (have hh := eqi hh; subst hh; exact go66 (arr := true) hp hK))
 (refine iti (fun hh => ?_) (fun hh => ?_); · (have hh := eqi hh; subst hh; exact go66 (arr := true) hp hK))
 (refine iti (fun hh => ?_) (fun hh => ?_); · (have hh := eqi hh; subst hh; exact go66 (arr := true) hp hK))
 (refine iti (fun hh => ?_) (fun hh => ?_); · (have hh := eqi hh; subst hh; exact go66 (arr := true) hp hK))
 (refine iti (fun hh => ?_) (fun hh => ?_); · (have hh := eqi hh; subst hh; exact go66 (arr := true) hp hK))
 refine iti (fun hh => ?_) (fun hh => iti (fun hh => ?_) (fun hh => ?_))
 ·obtain rfl := eqi hh
  rw [slot30] at hK
  refine tm4 (fun h => ?_) (fun h h3 => ?_) (fun h h3 => ?_)
  ·rw [if_pos h] at hK; exact hK
  ·rw [if_neg h, dt h3] at hK; exact go66 hp hK
  ·rw [if_neg h, df h3] at hK; exact go66 hp hK
 ·obtain rfl := eqi hh
  rw [slot33] at hK
  refine tm4 (fun h => ?_) (fun h h3 => ?_) (fun h h3 => ?_)
  ·rw [if_pos h] at hK; exact hK
  ·rw [if_neg h, dt h3] at hK; exact go66 hp hK
  ·rw [if_neg h, df h3] at hK; exact go66 hp hK
 ·have : slotB op x y (fiAt g id) = true := by unfold slotB; simp_all
  rw [this] at hK; exact hK
theorem ok66 {T : Tab} (O : Ok M T) : Ok M (T.addC 66 C66) := by
 refine addC_ok O fun args h s hs hp => ?_
 unfold C66 at hs
 split at hs
 ·rename_i op x y nm t a f
  obtain ⟨⟨t⟩⟩ := t
  split at hs
  ·cases hs
   obtain ⟨m, v, h', e, rfl, rfl⟩ := call_okW okz66 100 66 [.agg [iA op, iA x, iA y, iA nm, aStr t, iA a], .sc (.pointer none)] h (fun v h' => v = bA (slotB op x y none) ∧ h' = h) (wp66n ⟨rfl, rfl⟩)
   exact ⟨_, List.mem_singleton.2 rfl, _, m, rfl, e⟩
  ·rename_i id
   cases hs
   obtain ⟨m, v, h', e, rfl, rfl⟩ := call_okW okz66 100 66 [.agg [iA op, iA x, iA y, iA nm, aStr t, iA a], .ptr id 0] h (fun v h' => v = bA (slotB op x y (fiAt h id)) ∧ h' = h) (wp66 hp ⟨rfl, rfl⟩)
   exact ⟨_, List.mem_singleton.2 rfl, _, m, rfl, e⟩
  ·cases hs
 ·cases hs
end
end Go.Proofs.Sp.Sj
namespace Go.Proofs.Sp.Sj
open Go Go.Ef Go.Proofs.Pt
noncomputable section
set_option maxRecDepth 100000
variable {M : Int}
theorem xge {k x y : Int} (h : (wB k 1 49 && (!aboutB k || (decide (x ≥ -1) && nameB k y))) = true) (ha : aboutB k = true) : -1 ≤ x := by
 rw [ha] at h
 simp only [Bool.not_true, Bool.false_or, Bool.and_eq_true, decide_eq_true_eq] at h
 exact h.2.1
theorem tn34 {K : AV → Prop} {x : Int} {arr : Bool} (hx : -1 ≤ x) (hK : K (bA (goB x none arr))) : iteP (x == (-1 : Int)) (K (AV.sc (Value.bool true))) (K (AV.sc (Value.bool false))) := by
 refine iti (fun h => ?_) (fun h => ?_)
 ·have h := eqi h
  unfold goB at hK
  rw [if_pos (by omega)] at hK
  exact hK
 ·have h : x ≠ -1 := by intro e; rw [e] at h; cases h
  unfold goB at hK
  rw [if_neg (by omega)] at hK
  exact hK
def tail34 (K : AV → Prop) (sf : Cells) (fn x : Int) (arr : Bool) : Prop :=
 iteP (inRange fn (List.length sf))
  (getI fn.toNat sf = some [AV.sc (Value.string (ByteArray.mk (Array.mk (cellStr sf fn (0 : Nat))))), AV.sc (Value.int IntKind.i64 (cellInt sf fn (1 : Nat))), AV.sl (cellSl sf fn (2 : Nat)) (0 : Nat), AV.sl (cellSl sf fn (3 : Nat)) (0 : Nat)] ∧
  iteP (inRange x (cellSl sf fn (3 : Nat)).length)
  (getI x.toNat (cellSl sf fn (3 : Nat)) = some [AV.sc (Value.bool (cellBool (cellSl sf fn (3 : Nat)) x (0 : Nat)))] ∧
  iteP (cellBool (cellSl sf fn (3 : Nat)) x (0 : Nat)) (K (AV.sc (Value.bool (true == arr)))) (K (AV.sc (Value.bool (false == arr))))) False) False
theorem row_get {sf : Cells} {fn : Int} {f : FunD} (hr : RowF sf fn f) : getI fn.toNat sf = some [AV.sc (Value.string (ByteArray.mk (Array.mk (cellStr sf fn (0 : Nat))))), AV.sc (Value.int IntKind.i64 (cellInt sf fn (1 : Nat))), AV.sl (cellSl sf fn (2 : Nat)) (0 : Nat), AV.sl (cellSl sf fn (3 : Nat)) (0 : Nat)] := by
 rw [hr.get, hr.nm, hr.en, hr.ps, hr.bs]; rfl
theorem tail34_of {K : AV → Prop} {sf : Cells} {fn x : Int} {f : FunD} {arr : Bool} (hfn : inRange fn sf.length = true) (hr : RowF sf fn f) (h0 : 0 ≤ x) (h1 : x < f.params.length) (hK : K (bA (cellBool (cellSl sf fn 3) x 0 == arr))) : tail34 K sf fn x arr := by
 have hl : x < (rowO f.arrays).length := by rw [rowO_len, ← hr.eq]; exact h1
 unfold tail34
 refine it hfn ⟨row_get hr, ?_⟩
 rw [hr.bs] at hK ⊢
 refine it (by rw [inRange_iff]; omega) ⟨bool_row h0 hl, ?_⟩
 cases hb : cellBool (rowO f.arrays) x 0 with
 | true => rw [hb] at hK; exact hK
 | false => rw [hb] at hK; exact hK
theorem tl34a {K : AV → Prop} {sf : Cells} {fn x : Int} {f : FunD} {arr : Bool} {B : Prop} (hfn : inRange fn sf.length = true) (hr : RowF sf fn f) (hx : -1 ≤ x) (hK : K (bA (goB x (some (cellSl sf fn 2, cellSl sf fn 3)) arr))) (hB : tail34 K sf fn x arr → B) :
  iteP (x == (-1 : Int)) (K (AV.sc (Value.bool true))) (iteP (inRange fn (List.length sf))
  (getI fn.toNat sf = some [AV.sc (Value.string (ByteArray.mk (Array.mk (cellStr sf fn (0 : Nat))))), AV.sc (Value.int IntKind.i64 (cellInt sf fn (1 : Nat))), AV.sl (cellSl sf fn (2 : Nat)) (0 : Nat), AV.sl (cellSl sf fn (3 : Nat)) (0 : Nat)] ∧
  iteP (decide (((cellSl sf fn (2 : Nat)).length : Int) ≤ x)) (K (AV.sc (Value.bool false))) B) False) := by
 unfold goB at hK
 refine iti (fun h => ?_) (fun h => ?_)
 ·have h := eqi h
  rw [if_pos (by omega)] at hK
  exact hK
 ·have h : x ≠ -1 := by intro e; rw [e] at h; cases h
  rw [if_neg (by omega)] at hK
  simp only [] at hK
  refine it hfn ⟨row_get hr, iti (fun h => ?_) (fun h => ?_)⟩
  ·have h := of_decide_eq_true h
   rw [df (by omega), Bool.false_and] at hK
   exact hK
  ·have h := of_decide_eq_false h
   rw [dt (by omega), Bool.true_and] at hK
   refine hB (tail34_of hfn hr (by omega) ?_ hK)
   rw [hr.ps, rowS_len] at h
   omega
theorem tl34 {K : AV → Prop} {sf : Cells} {fn x : Int} {f : FunD} {arr : Bool} (hfn : inRange fn sf.length = true) (hr : RowF sf fn f) (hx : -1 ≤ x) (hK : K (bA (goB x (some (cellSl sf fn 2, cellSl sf fn 3)) arr))) :
  iteP (x == (-1 : Int)) (K (AV.sc (Value.bool true))) (iteP (inRange fn (List.length sf))
  (getI fn.toNat sf = some [AV.sc (Value.string (ByteArray.mk (Array.mk (cellStr sf fn (0 : Nat))))), AV.sc (Value.int IntKind.i64 (cellInt sf fn (1 : Nat))), AV.sl (cellSl sf fn (2 : Nat)) (0 : Nat), AV.sl (cellSl sf fn (3 : Nat)) (0 : Nat)] ∧
  iteP (decide (((cellSl sf fn (2 : Nat)).length : Int) ≤ x)) (K (AV.sc (Value.bool false))) (tail34 K sf fn x arr)) False) := tl34a hfn hr hx hK id
set_option maxHeartbeats 1000000 in
theorem wp34 {si sf : Cells} {b e n r op x y nm a ra fn : Int} {t : List UInt8} {f : FunD} {K : AV → Prop} (hpr : properB si.length sf.length r op x y nm t = true) (h0 : 0 ≤ fn) (hfn : inRange fn sf.length = true) (hr : RowF sf fn f)
  (hK : K (bA (partB op true && slotB op x y (some (cellSl sf fn 2, cellSl sf fn 3))))) : wpCall T34 (cfg M) Tryz.prog 100 34 [codeA si sf b e n r, .agg [iA op, iA x, iA y, iA nm, aStr t, iA a], .agg [iA ra, iA fn]] heapF fun r h' => wpBack h' r K := by
 refine v34 M si sf b e n r op x y nm t a ra fn K ?_
 refine it (dt h0) ?_
 obtain ⟨k, rfl, hk1, hk⟩ := nat_op (proper_op hpr)
 match k, hk1, hk with
 | 0, h, _ => exact absurd h (by decide)
 | 1, _, _ =>
  repeat' (first | (refine ⟨trivial, ?_⟩; intro q hq; subst hq) | refine ie rfl ?_ | refine it rfl ?_)
  exact hK
 | 2, _, _ =>
  repeat' (first | (refine ⟨trivial, ?_⟩; intro q hq; subst hq) | refine ie rfl ?_ | refine it rfl ?_)
  exact hK
 | 3, _, _ =>
  repeat' (first | (refine ⟨trivial, ?_⟩; intro q hq; subst hq) | refine ie rfl ?_ | refine it rfl ?_)
  exact hK
 | 4, _, _ =>
  repeat' (first | (refine ⟨trivial, ?_⟩; intro q hq; subst hq) | refine ie rfl ?_ | refine it rfl ?_)
  exact hK
 | 5, _, _ =>
  repeat' (first | (refine ⟨trivial, ?_⟩; intro q hq; subst hq) | refine ie rfl ?_ | refine it rfl ?_)
  exact hK
 | 6, _, _ =>
  have hx : -1 ≤ x := xge (k := 6) hpr rfl
  repeat' (first | (refine ⟨trivial, ?_⟩; intro q hq; subst hq) | refine ie rfl ?_ | refine it rfl ?_)
  refine tl34a (arr := false) hfn hr hx hK (fun hk => ?_)
  refine iti (fun _ => ?_) (fun _ => ?_)
  all_goals repeat' (first | (refine ⟨trivial, ?_⟩; intro q hq; subst hq) | refine ie rfl ?_ | refine it rfl ?_)
  all_goals exact hk
 | 7, _, _ =>
  repeat' (first | (refine ⟨trivial, ?_⟩; intro q hq; subst hq) | refine ie rfl ?_ | refine it rfl ?_)
  exact hK
 | 8, _, _ =>
  repeat' (first | (refine ⟨trivial, ?_⟩; intro q hq; subst hq) | refine ie rfl ?_ | refine it rfl ?_)
  exact hK
 | 9, _, _ =>
  have hx : -1 ≤ x := xge (k := 9) hpr rfl
  repeat' (first | (refine ⟨trivial, ?_⟩; intro q hq; subst hq) | refine ie rfl ?_ | refine it rfl ?_)
  refine tl34a (arr := true) hfn hr hx hK (fun hk => ?_)
  refine iti (fun _ => ?_) (fun _ => ?_)
  all_goals repeat' (first | (refine ⟨trivial, ?_⟩; intro q hq; subst hq) | refine ie rfl ?_ | refine it rfl ?_)
  all_goals exact hk
 | 10, _, _ =>
  have hx : -1 ≤ x := xge (k := 10) hpr rfl
  repeat' (first | (refine ⟨trivial, ?_⟩; intro q hq; subst hq) | refine ie rfl ?_ | refine it rfl ?_)
  refine tl34a (arr := true) hfn hr hx hK (fun hk => ?_)
  refine iti (fun _ => ?_) (fun _ => ?_)
  all_goals repeat' (first | (refine ⟨trivial, ?_⟩; intro q hq; subst hq) | refine ie rfl ?_ | refine it rfl ?_)
  all_goals exact hk
 | 11, _, _ =>
  have hx : -1 ≤ x := xge (k := 11) hpr rfl
  repeat' (first | (refine ⟨trivial, ?_⟩; intro q hq; subst hq) | refine ie rfl ?_ | refine it rfl ?_)
  refine tl34a (arr := false) hfn hr hx hK (fun hk => ?_)
  refine iti (fun _ => ?_) (fun _ => ?_)
  all_goals repeat' (first | (refine ⟨trivial, ?_⟩; intro q hq; subst hq) | refine ie rfl ?_ | refine it rfl ?_)
  all_goals exact hk
 | 12, _, _ =>
  repeat' (first | (refine ⟨trivial, ?_⟩; intro q hq; subst hq) | refine ie rfl ?_ | refine it rfl ?_)
  exact hK
 | 13, _, _ =>
  have hx : -1 ≤ x := xge (k := 13) hpr rfl
  repeat' (first | (refine ⟨trivial, ?_⟩; intro q hq; subst hq) | refine ie rfl ?_ | refine it rfl ?_)
  refine tl34a (arr := true) hfn hr hx hK (fun hk => ?_)
  refine iti (fun _ => ?_) (fun _ => ?_)
  all_goals repeat' (first | (refine ⟨trivial, ?_⟩; intro q hq; subst hq) | refine ie rfl ?_ | refine it rfl ?_)
  all_goals exact hk
 | 14, _, _ =>
  have hx : -1 ≤ x := xge (k := 14) hpr rfl
  repeat' (first | (refine ⟨trivial, ?_⟩; intro q hq; subst hq) | refine ie rfl ?_ | refine it rfl ?_)
  refine tl34a (arr := false) hfn hr hx hK (fun hk => ?_)
  refine iti (fun _ => ?_) (fun _ => ?_)
  all_goals repeat' (first | (refine ⟨trivial, ?_⟩; intro q hq; subst hq) | refine ie rfl ?_ | refine it rfl ?_)
  all_goals exact hk
 | 15, _, _ =>
  repeat' (first | (refine ⟨trivial, ?_⟩; intro q hq; subst hq) | refine ie rfl ?_ | refine it rfl ?_)
  exact hK
 | 16, _, _ =>
  have hx : -1 ≤ x := xge (k := 16) hpr rfl
  repeat' (first | (refine ⟨trivial, ?_⟩; intro q hq; subst hq) | refine ie rfl ?_ | refine it rfl ?_)
  refine tl34a (arr := true) hfn hr hx hK (fun hk => ?_)
  refine iti (fun _ => ?_) (fun _ => ?_)
  all_goals repeat' (first | (refine ⟨trivial, ?_⟩; intro q hq; subst hq) | refine ie rfl ?_ | refine it rfl ?_)
  all_goals exact hk
 | 17, _, _ =>
  repeat' (first | (refine ⟨trivial, ?_⟩; intro q hq; subst hq) | refine ie rfl ?_ | refine it rfl ?_)
  exact hK
 | 18, _, _ =>
  repeat' (first | (refine ⟨trivial, ?_⟩; intro q hq; subst hq) | refine ie rfl ?_ | refine it rfl ?_)
  exact hK
 | 19, _, _ =>
  repeat' (first | (refine ⟨trivial, ?_⟩; intro q hq; subst hq) | refine ie rfl ?_ | refine it rfl ?_)
  exact hK
 | 20, _, _ =>
  repeat' (first | (refine ⟨trivial, ?_⟩; intro q hq; subst hq) | refine ie rfl ?_ | refine it rfl ?_)
  exact hK
 | 21, _, _ =>
  repeat' (first | (refine ⟨trivial, ?_⟩; intro q hq; subst hq) | refine ie rfl ?_ | refine it rfl ?_)
  exact hK
 | 22, _, _ =>
  repeat' (first | (refine ⟨trivial, ?_⟩; intro q hq; subst hq) | refine ie rfl ?_ | refine it rfl ?_)
  exact hK
 | 23, _, _ =>
  repeat' (first | (refine ⟨trivial, ?_⟩; intro q hq; subst hq) | refine ie rfl ?_ | refine it rfl ?_)
  exact hK
 | 24, _, _ =>
  repeat' (first | (refine ⟨trivial, ?_⟩; intro q hq; subst hq) | refine ie rfl ?_ | refine it rfl ?_)
  exact hK
 | 25, _, _ =>
  repeat' (first | (refine ⟨trivial, ?_⟩; intro q hq; subst hq) | refine ie rfl ?_ | refine it rfl ?_)
  exact hK
 | 26, _, _ =>
  have hx : -1 ≤ x := xge (k := 26) hpr rfl
  repeat' (first | (refine ⟨trivial, ?_⟩; intro q hq; subst hq) | refine ie rfl ?_ | refine it rfl ?_)
  refine tl34a (arr := true) hfn hr hx hK (fun hk => ?_)
  refine iti (fun _ => ?_) (fun _ => ?_)
  all_goals repeat' (first | (refine ⟨trivial, ?_⟩; intro q hq; subst hq) | refine ie rfl ?_ | refine it rfl ?_)
  all_goals exact hk
 | 27, _, _ =>
  repeat' (first | (refine ⟨trivial, ?_⟩; intro q hq; subst hq) | refine ie rfl ?_ | refine it rfl ?_)
  exact hK
 | 28, _, _ =>
  repeat' (first | (refine ⟨trivial, ?_⟩; intro q hq; subst hq) | refine ie rfl ?_ | refine it rfl ?_)
  exact hK
 | 29, _, _ =>
  repeat' (first | (refine ⟨trivial, ?_⟩; intro q hq; subst hq) | refine ie rfl ?_ | refine it rfl ?_)
  exact hK
 | 30, _, _ =>
  have hx : -1 ≤ x := xge (k := 30) hpr rfl
  rcases y30 (show properB si.length sf.length r 30 x _ nm t = true from hpr) with rfl | rfl | rfl | rfl
  ·repeat' (first | (refine ⟨trivial, ?_⟩; intro q hq; subst hq) | refine ie rfl ?_ | refine it rfl ?_)
   exact hK
  ·repeat' (first | (refine ⟨trivial, ?_⟩; intro q hq; subst hq) | refine ie rfl ?_ | refine it rfl ?_)
   exact tl34 (arr := false) hfn hr hx hK
  ·repeat' (first | (refine ⟨trivial, ?_⟩; intro q hq; subst hq) | refine ie rfl ?_ | refine it rfl ?_)
   exact hK
  ·repeat' (first | (refine ⟨trivial, ?_⟩; intro q hq; subst hq) | refine ie rfl ?_ | refine it rfl ?_)
   exact tl34 (arr := true) hfn hr hx hK
 | 31, _, _ =>
  repeat' (first | (refine ⟨trivial, ?_⟩; intro q hq; subst hq) | refine ie rfl ?_ | refine it rfl ?_)
  exact hK
 | 32, _, _ =>
  have hx : -1 ≤ x := xge (k := 32) hpr rfl
  repeat' (first | (refine ⟨trivial, ?_⟩; intro q hq; subst hq) | refine ie rfl ?_ | refine it rfl ?_)
  refine tl34a (arr := true) hfn hr hx hK (fun hk => ?_)
  refine iti (fun _ => ?_) (fun _ => ?_)
  all_goals repeat' (first | (refine ⟨trivial, ?_⟩; intro q hq; subst hq) | refine ie rfl ?_ | refine it rfl ?_)
  all_goals exact hk
 | 33, _, _ =>
  have hx : -1 ≤ x := xge (k := 33) hpr rfl
  rcases y33 (show properB si.length sf.length r 33 x _ nm t = true from hpr) with rfl | rfl | rfl | rfl | rfl | rfl
  ·repeat' (first | (refine ⟨trivial, ?_⟩; intro q hq; subst hq) | refine ie rfl ?_ | refine it rfl ?_)
   exact tl34 (arr := false) hfn hr hx hK
  ·repeat' (first | (refine ⟨trivial, ?_⟩; intro q hq; subst hq) | refine ie rfl ?_ | refine it rfl ?_)
   exact hK
  ·repeat' (first | (refine ⟨trivial, ?_⟩; intro q hq; subst hq) | refine ie rfl ?_ | refine it rfl ?_)
   exact tl34 (arr := true) hfn hr hx hK
  ·repeat' (first | (refine ⟨trivial, ?_⟩; intro q hq; subst hq) | refine ie rfl ?_ | refine it rfl ?_)
   exact tl34 (arr := false) hfn hr hx hK
  ·repeat' (first | (refine ⟨trivial, ?_⟩; intro q hq; subst hq) | refine ie rfl ?_ | refine it rfl ?_)
   exact hK
  ·repeat' (first | (refine ⟨trivial, ?_⟩; intro q hq; subst hq) | refine ie rfl ?_ | refine it rfl ?_)
   exact tl34 (arr := true) hfn hr hx hK
 | 34, _, _ =>
  repeat' (first | (refine ⟨trivial, ?_⟩; intro q hq; subst hq) | refine ie rfl ?_ | refine it rfl ?_)
  exact hK
 | 35, _, _ =>
  repeat' (first | (refine ⟨trivial, ?_⟩; intro q hq; subst hq) | refine ie rfl ?_ | refine it rfl ?_)
  exact hK
 | 36, _, _ =>
  repeat' (first | (refine ⟨trivial, ?_⟩; intro q hq; subst hq) | refine ie rfl ?_ | refine it rfl ?_)
  exact hK
 | 37, _, _ =>
  repeat' (first | (refine ⟨trivial, ?_⟩; intro q hq; subst hq) | refine ie rfl ?_ | refine it rfl ?_)
  exact hK
 | 38, _, _ =>
  have hx : -1 ≤ x := xge (k := 38) hpr rfl
  repeat' (first | (refine ⟨trivial, ?_⟩; intro q hq; subst hq) | refine ie rfl ?_ | refine it rfl ?_)
  refine tl34a (arr := true) hfn hr hx hK (fun hk => ?_)
  refine iti (fun _ => ?_) (fun _ => ?_)
  all_goals repeat' (first | (refine ⟨trivial, ?_⟩; intro q hq; subst hq) | refine ie rfl ?_ | refine it rfl ?_)
  all_goals exact hk
 | 39, _, _ =>
  repeat' (first | (refine ⟨trivial, ?_⟩; intro q hq; subst hq) | refine ie rfl ?_ | refine it rfl ?_)
  exact hK
 | 40, _, _ =>
  repeat' (first | (refine ⟨trivial, ?_⟩; intro q hq; subst hq) | refine ie rfl ?_ | refine it rfl ?_)
  exact hK
 | 41, _, _ =>
  have hx : -1 ≤ x := xge (k := 41) hpr rfl
  repeat' (first | (refine ⟨trivial, ?_⟩; intro q hq; subst hq) | refine ie rfl ?_ | refine it rfl ?_)
  refine tl34a (arr := true) hfn hr hx hK (fun hk => ?_)
  refine iti (fun _ => ?_) (fun _ => ?_)
  all_goals repeat' (first | (refine ⟨trivial, ?_⟩; intro q hq; subst hq) | refine ie rfl ?_ | refine it rfl ?_)
  all_goals exact hk
 | 42, _, _ =>
  have hx : -1 ≤ x := xge (k := 42) hpr rfl
  repeat' (first | (refine ⟨trivial, ?_⟩; intro q hq; subst hq) | refine ie rfl ?_ | refine it rfl ?_)
  refine tl34a (arr := true) hfn hr hx hK (fun hk => ?_)
  refine iti (fun _ => ?_) (fun _ => ?_)
  all_goals repeat' (first | (refine ⟨trivial, ?_⟩; intro q hq; subst hq) | refine ie rfl ?_ | refine it rfl ?_)
  all_goals exact hk
 | 43, _, _ =>
  repeat' (first | (refine ⟨trivial, ?_⟩; intro q hq; subst hq) | refine ie rfl ?_ | refine it rfl ?_)
  exact hK
 | 44, _, _ =>
  repeat' (first | (refine ⟨trivial, ?_⟩; intro q hq; subst hq) | refine ie rfl ?_ | refine it rfl ?_)
  exact hK
 | 45, _, _ =>
  repeat' (first | (refine ⟨trivial, ?_⟩; intro q hq; subst hq) | refine ie rfl ?_ | refine it rfl ?_)
  exact hK
 | 46, _, _ =>
  repeat' (first | (refine ⟨trivial, ?_⟩; intro q hq; subst hq) | refine ie rfl ?_ | refine it rfl ?_)
  exact hK
 | 47, _, _ =>
  repeat' (first | (refine ⟨trivial, ?_⟩; intro q hq; subst hq) | refine ie rfl ?_ | refine it rfl ?_)
  exact hK
 | 48, _, _ =>
  repeat' (first | (refine ⟨trivial, ?_⟩; intro q hq; subst hq) | refine ie rfl ?_ | refine it rfl ?_)
  exact hK
 | 49, _, _ =>
  repeat' (first | (refine ⟨trivial, ?_⟩; intro q hq; subst hq) | refine ie rfl ?_ | refine it rfl ?_)
  exact hK
 | k + 50, _, hk => exact absurd hk (by omega)
set_option maxHeartbeats 1000000 in
theorem wp34n {si sf : Cells} {b e n r op x y nm a ra : Int} {t : List UInt8} {K : AV → Prop} (hpr : properB si.length sf.length r op x y nm t = true)
  (hK : K (bA (partB op false && slotB op x y none))) : wpCall T34 (cfg M) Tryz.prog 100 34 [codeA si sf b e n r, .agg [iA op, iA x, iA y, iA nm, aStr t, iA a], .agg [iA ra, iA (-1)]] heapF fun r h' => wpBack h' r K := by
 refine v34 M si sf b e n r op x y nm t a ra (-1) K ?_
 refine ie rfl ?_
 obtain ⟨k, rfl, hk1, hk⟩ := nat_op (proper_op hpr)
 match k, hk1, hk with
 | 0, h, _ => exact absurd h (by decide)
 | 1, _, _ =>
  repeat' (first | (refine ⟨trivial, ?_⟩; intro q hq; subst hq) | refine ie rfl ?_ | refine it rfl ?_)
  exact hK
 | 2, _, _ =>
  repeat' (first | (refine ⟨trivial, ?_⟩; intro q hq; subst hq) | refine ie rfl ?_ | refine it rfl ?_)
  exact hK
 | 3, _, _ =>
  repeat' (first | (refine ⟨trivial, ?_⟩; intro q hq; subst hq) | refine ie rfl ?_ | refine it rfl ?_)
  exact hK
 | 4, _, _ =>
  repeat' (first | (refine ⟨trivial, ?_⟩; intro q hq; subst hq) | refine ie rfl ?_ | refine it rfl ?_)
  exact hK
 | 5, _, _ =>
  repeat' (first | (refine ⟨trivial, ?_⟩; intro q hq; subst hq) | refine ie rfl ?_ | refine it rfl ?_)
  exact hK
 | 6, _, _ =>
  have hx : -1 ≤ x := xge (k := 6) hpr rfl
  repeat' (first | (refine ⟨trivial, ?_⟩; intro q hq; subst hq) | refine ie rfl ?_ | refine it rfl ?_)
  exact tn34 (arr := false) hx hK
 | 7, _, _ =>
  repeat' (first | (refine ⟨trivial, ?_⟩; intro q hq; subst hq) | refine ie rfl ?_ | refine it rfl ?_)
  exact hK
 | 8, _, _ =>
  repeat' (first | (refine ⟨trivial, ?_⟩; intro q hq; subst hq) | refine ie rfl ?_ | refine it rfl ?_)
  exact hK
 | 9, _, _ =>
  have hx : -1 ≤ x := xge (k := 9) hpr rfl
  repeat' (first | (refine ⟨trivial, ?_⟩; intro q hq; subst hq) | refine ie rfl ?_ | refine it rfl ?_)
  exact tn34 (arr := true) hx hK
 | 10, _, _ =>
  have hx : -1 ≤ x := xge (k := 10) hpr rfl
  repeat' (first | (refine ⟨trivial, ?_⟩; intro q hq; subst hq) | refine ie rfl ?_ | refine it rfl ?_)
  exact tn34 (arr := true) hx hK
 | 11, _, _ =>
  have hx : -1 ≤ x := xge (k := 11) hpr rfl
  repeat' (first | (refine ⟨trivial, ?_⟩; intro q hq; subst hq) | refine ie rfl ?_ | refine it rfl ?_)
  exact tn34 (arr := false) hx hK
 | 12, _, _ =>
  repeat' (first | (refine ⟨trivial, ?_⟩; intro q hq; subst hq) | refine ie rfl ?_ | refine it rfl ?_)
  exact hK
 | 13, _, _ =>
  have hx : -1 ≤ x := xge (k := 13) hpr rfl
  repeat' (first | (refine ⟨trivial, ?_⟩; intro q hq; subst hq) | refine ie rfl ?_ | refine it rfl ?_)
  exact tn34 (arr := true) hx hK
 | 14, _, _ =>
  have hx : -1 ≤ x := xge (k := 14) hpr rfl
  repeat' (first | (refine ⟨trivial, ?_⟩; intro q hq; subst hq) | refine ie rfl ?_ | refine it rfl ?_)
  exact tn34 (arr := false) hx hK
 | 15, _, _ =>
  repeat' (first | (refine ⟨trivial, ?_⟩; intro q hq; subst hq) | refine ie rfl ?_ | refine it rfl ?_)
  exact hK
 | 16, _, _ =>
  have hx : -1 ≤ x := xge (k := 16) hpr rfl
  repeat' (first | (refine ⟨trivial, ?_⟩; intro q hq; subst hq) | refine ie rfl ?_ | refine it rfl ?_)
  exact tn34 (arr := true) hx hK
 | 17, _, _ =>
  repeat' (first | (refine ⟨trivial, ?_⟩; intro q hq; subst hq) | refine ie rfl ?_ | refine it rfl ?_)
  exact hK
 | 18, _, _ =>
  repeat' (first | (refine ⟨trivial, ?_⟩; intro q hq; subst hq) | refine ie rfl ?_ | refine it rfl ?_)
  exact hK
 | 19, _, _ =>
  repeat' (first | (refine ⟨trivial, ?_⟩; intro q hq; subst hq) | refine ie rfl ?_ | refine it rfl ?_)
  exact hK
 | 20, _, _ =>
  repeat' (first | (refine ⟨trivial, ?_⟩; intro q hq; subst hq) | refine ie rfl ?_ | refine it rfl ?_)
  exact hK
 | 21, _, _ =>
  repeat' (first | (refine ⟨trivial, ?_⟩; intro q hq; subst hq) | refine ie rfl ?_ | refine it rfl ?_)
  exact hK
 | 22, _, _ =>
  repeat' (first | (refine ⟨trivial, ?_⟩; intro q hq; subst hq) | refine ie rfl ?_ | refine it rfl ?_)
  exact hK
 | 23, _, _ =>
  repeat' (first | (refine ⟨trivial, ?_⟩; intro q hq; subst hq) | refine ie rfl ?_ | refine it rfl ?_)
  exact hK
 | 24, _, _ =>
  repeat' (first | (refine ⟨trivial, ?_⟩; intro q hq; subst hq) | refine ie rfl ?_ | refine it rfl ?_)
  exact hK
 | 25, _, _ =>
  repeat' (first | (refine ⟨trivial, ?_⟩; intro q hq; subst hq) | refine ie rfl ?_ | refine it rfl ?_)
  exact hK
 | 26, _, _ =>
  have hx : -1 ≤ x := xge (k := 26) hpr rfl
  repeat' (first | (refine ⟨trivial, ?_⟩; intro q hq; subst hq) | refine ie rfl ?_ | refine it rfl ?_)
  exact tn34 (arr := true) hx hK
 | 27, _, _ =>
  repeat' (first | (refine ⟨trivial, ?_⟩; intro q hq; subst hq) | refine ie rfl ?_ | refine it rfl ?_)
  exact hK
 | 28, _, _ =>
  repeat' (first | (refine ⟨trivial, ?_⟩; intro q hq; subst hq) | refine ie rfl ?_ | refine it rfl ?_)
  exact hK
 | 29, _, _ =>
  repeat' (first | (refine ⟨trivial, ?_⟩; intro q hq; subst hq) | refine ie rfl ?_ | refine it rfl ?_)
  exact hK
 | 30, _, _ =>
  have hx : -1 ≤ x := xge (k := 30) hpr rfl
  rcases y30 (show properB si.length sf.length r 30 x _ nm t = true from hpr) with rfl | rfl | rfl | rfl
  ·repeat' (first | (refine ⟨trivial, ?_⟩; intro q hq; subst hq) | refine ie rfl ?_ | refine it rfl ?_)
   exact hK
  ·repeat' (first | (refine ⟨trivial, ?_⟩; intro q hq; subst hq) | refine ie rfl ?_ | refine it rfl ?_)
   exact tn34 (arr := false) hx hK
  ·repeat' (first | (refine ⟨trivial, ?_⟩; intro q hq; subst hq) | refine ie rfl ?_ | refine it rfl ?_)
   exact hK
  ·repeat' (first | (refine ⟨trivial, ?_⟩; intro q hq; subst hq) | refine ie rfl ?_ | refine it rfl ?_)
   exact tn34 (arr := true) hx hK
 | 31, _, _ =>
  repeat' (first | (refine ⟨trivial, ?_⟩; intro q hq; subst hq) | refine ie rfl ?_ | refine it rfl ?_)
  exact hK
 | 32, _, _ =>
  have hx : -1 ≤ x := xge (k := 32) hpr rfl
  repeat' (first | (refine ⟨trivial, ?_⟩; intro q hq; subst hq) | refine ie rfl ?_ | refine it rfl ?_)
  exact tn34 (arr := true) hx hK
 | 33, _, _ =>
  have hx : -1 ≤ x := xge (k := 33) hpr rfl
  rcases y33 (show properB si.length sf.length r 33 x _ nm t = true from hpr) with rfl | rfl | rfl | rfl | rfl | rfl
  ·repeat' (first | (refine ⟨trivial, ?_⟩; intro q hq; subst hq) | refine ie rfl ?_ | refine it rfl ?_)
   exact tn34 (arr := false) hx hK
  ·repeat' (first | (refine ⟨trivial, ?_⟩; intro q hq; subst hq) | refine ie rfl ?_ | refine it rfl ?_)
   exact hK
  ·repeat' (first | (refine ⟨trivial, ?_⟩; intro q hq; subst hq) | refine ie rfl ?_ | refine it rfl ?_)
   exact tn34 (arr := true) hx hK
  ·repeat' (first | (refine ⟨trivial, ?_⟩; intro q hq; subst hq) | refine ie rfl ?_ | refine it rfl ?_)
   exact tn34 (arr := false) hx hK
  ·repeat' (first | (refine ⟨trivial, ?_⟩; intro q hq; subst hq) | refine ie rfl ?_ | refine it rfl ?_)
   exact hK
  ·repeat' (first | (refine ⟨trivial, ?_⟩; intro q hq; subst hq) | refine ie rfl ?_ | refine it rfl ?_)
   exact tn34 (arr := true) hx hK
 | 34, _, _ =>
  repeat' (first | (refine ⟨trivial, ?_⟩; intro q hq; subst hq) | refine ie rfl ?_ | refine it rfl ?_)
  exact hK
 | 35, _, _ =>
  repeat' (first | (refine ⟨trivial, ?_⟩; intro q hq; subst hq) | refine ie rfl ?_ | refine it rfl ?_)
  exact hK
 | 36, _, _ =>
  repeat' (first | (refine ⟨trivial, ?_⟩; intro q hq; subst hq) | refine ie rfl ?_ | refine it rfl ?_)
  exact hK
 | 37, _, _ =>
  repeat' (first | (refine ⟨trivial, ?_⟩; intro q hq; subst hq) | refine ie rfl ?_ | refine it rfl ?_)
  exact hK
 | 38, _, _ =>
  have hx : -1 ≤ x := xge (k := 38) hpr rfl
  repeat' (first | (refine ⟨trivial, ?_⟩; intro q hq; subst hq) | refine ie rfl ?_ | refine it rfl ?_)
  exact tn34 (arr := true) hx hK
 | 39, _, _ =>
  repeat' (first | (refine ⟨trivial, ?_⟩; intro q hq; subst hq) | refine ie rfl ?_ | refine it rfl ?_)
  exact hK
 | 40, _, _ =>
  repeat' (first | (refine ⟨trivial, ?_⟩; intro q hq; subst hq) | refine ie rfl ?_ | refine it rfl ?_)
  exact hK
 | 41, _, _ =>
  have hx : -1 ≤ x := xge (k := 41) hpr rfl
  repeat' (first | (refine ⟨trivial, ?_⟩; intro q hq; subst hq) | refine ie rfl ?_ | refine it rfl ?_)
  exact tn34 (arr := true) hx hK
 | 42, _, _ =>
  have hx : -1 ≤ x := xge (k := 42) hpr rfl
  repeat' (first | (refine ⟨trivial, ?_⟩; intro q hq; subst hq) | refine ie rfl ?_ | refine it rfl ?_)
  exact tn34 (arr := true) hx hK
 | 43, _, _ =>
  repeat' (first | (refine ⟨trivial, ?_⟩; intro q hq; subst hq) | refine ie rfl ?_ | refine it rfl ?_)
  exact hK
 | 44, _, _ =>
  repeat' (first | (refine ⟨trivial, ?_⟩; intro q hq; subst hq) | refine ie rfl ?_ | refine it rfl ?_)
  exact hK
 | 45, _, _ =>
  repeat' (first | (refine ⟨trivial, ?_⟩; intro q hq; subst hq) | refine ie rfl ?_ | refine it rfl ?_)
  exact hK
 | 46, _, _ =>
  repeat' (first | (refine ⟨trivial, ?_⟩; intro q hq; subst hq) | refine ie rfl ?_ | refine it rfl ?_)
  exact hK
 | 47, _, _ =>
  repeat' (first | (refine ⟨trivial, ?_⟩; intro q hq; subst hq) | refine ie rfl ?_ | refine it rfl ?_)
  exact hK
 | 48, _, _ =>
  repeat' (first | (refine ⟨trivial, ?_⟩; intro q hq; subst hq) | refine ie rfl ?_ | refine it rfl ?_)
  exact hK
 | 49, _, _ =>
  repeat' (first | (refine ⟨trivial, ?_⟩; intro q hq; subst hq) | refine ie rfl ?_ | refine it rfl ?_)
  exact hK
 | k + 50, _, hk => exact absurd hk (by omega)
theorem ok34 {T : Tab} (O : Ok M T) : Ok M (T.addC 34 C34) := by
 refine freshK O (ok31 ok0) (n := 100) (by kernel_rfl) rfl fun args h s hs => ?_
 unfold C34 at hs
 split at hs
 ·rename_i si sf b e n r op x y nm t a ra fn
  obtain ⟨⟨t⟩⟩ := t
  cases hs
  refine ⟨rfl, _, _, _, _, rfl, fun hp K hK => ?_⟩
  obtain ⟨⟨hrg, hfs, hpr⟩, h1, h2⟩ := hp
  by_cases h0 : 0 ≤ fn
  ·obtain ⟨f, hr⟩ := funsok_row hfs h0 h2
   refine wp34 hpr h0 (by rw [inRange_iff]; omega) hr ?_
   rw [dt h0, show fiOf sf fn = some (cellSl sf fn 2, cellSl sf fn 3) from if_pos h0] at hK
   exact hK
  ·obtain rfl : fn = -1 := by omega
   exact wp34n hpr hK
 ·cases hs
end
end Go.Proofs.Sp.Sj
namespace Go.Proofs.Sp.Sj
open Go Go.Ef Go.Proofs.Pt
noncomputable section
set_option maxRecDepth 100000
variable {M : Int}
theorem vals_len (n : Int) : (valsF n).length = n.toNat := by unfold valsF; simp
theorem ite_len {p : Prop} [Decidable p] {a b : List UInt8} {n : Nat} (ha : p → a.length ≤ n) (hb : ¬p → b.length ≤ n) : (if p then a else b).length ≤ n := by
 split
 ·exact ha ‹_›
 ·exact hb ‹_›
theorem pops_len {si sf : Cells} {r op x y nm : Int} {t : List UInt8} (h : InsOk si sf r op x y nm t) : (popsF sf op x y).length ≤ 1048576 := by
 obtain ⟨hrg, hfs, hpr⟩ := h
 unfold popsF
 repeat' (refine ite_len (fun h => ?_) (fun h => ?_))
 all_goals first
  | decide
  | (subst_vars; have h1 := wB_spec (show wB y 1 4096 = true from hpr); rw [vals_len]; omega)
  | (subst_vars; have h1 := wB_spec (show wB y 0 1 = true from hpr); rw [vals_len]; omega)
  | (subst_vars; have h1 := y31 (show properB si.length sf.length r 31 x y nm t = true from hpr); rw [vals_len]; omega)
  | (subst_vars; have h1 := wB_spec (show wB x 0 ((sf.length : Int) - 1) = true from hpr); obtain ⟨f, hr⟩ := funsok_row hfs h1.1 (by omega); rw [hr.bs, kinds_rowO, List.length_map]; exact hr.ok.na)
theorem cut_len {s p : List UInt8} (h : (cutT s p).2 = true) : (cutT s p).1.length + p.length = s.length := by
 unfold cutT at h ⊢
 split at h
 ·rename_i hc
  rw [if_pos hc]
  simp only [List.length_take]
  omega
 ·cases h
theorem push_len (op : Int) : (pushF op).length ≤ 1 ∨ op = 39 := by
 by_cases h39 : op = 39
 ·exact .inr h39
 ·left
  unfold pushF
  rw [if_neg h39]
  repeat' (refine ite_len (fun _ => ?_) (fun _ => ?_))
  all_goals decide
theorem push39 : pushF 39 = [108, 118] := rfl
theorem pops39 {sf : Cells} {x y : Int} : popsF sf 39 x y = [108] := rfl
theorem nextK_spec {op x i : Int} {s rest : List UInt8} {m : List (Int × List UInt8)} (h : nextK op x i s rest = some m) : m.length ≤ 2 ∧
  ∀ p ∈ m, (p.1 = i + 1 ∨ (p.1 = x ∧ (op = 22 ∨ op = 23 ∨ op = 24 ∨ op = 39 ∨ op = 45))) ∧ (p.2 = rest ∨ p.2 = s ∨ p.2 = rest ++ pushF op) := by
 unfold nextK at h
 repeat' split at h
 all_goals first
  | (cases h; done)
  | (cases h; refine ⟨by simp, ?_⟩; simp_all; done)
theorem next_spec {si sf : Cells} {i : Int} {s : List UInt8} {m : List (Int × List UInt8)} (h : nextF si sf i s = some m) : m.length ≤ 2 ∧
  ∀ p ∈ m, (p.1 = i + 1 ∨ (p.1 = cellInt si i 1 ∧ (cellInt si i 0 = 22 ∨ cellInt si i 0 = 23 ∨ cellInt si i 0 = 24 ∨ cellInt si i 0 = 39 ∨ cellInt si i 0 = 45))) ∧ p.2.length ≤ s.length + 1 := by
 unfold nextF at h
 split at h
 ·rename_i hc
  have hl := cut_len hc
  obtain ⟨h1, h2⟩ := nextK_spec h
  refine ⟨h1, fun p hp => ⟨(h2 p hp).1, ?_⟩⟩
  rcases (h2 p hp).2 with e | e | e
  ·rw [e]; omega
  ·rw [e]; omega
  ·rw [e, List.length_append]
   rcases push_len (cellInt si i 0) with h3 | h3
   ·omega
   ·rw [h3, pops39] at hl
    rw [h3, push39, pops39]
    simp only [List.length_cons, List.length_nil] at hl ⊢
    omega
 ·cases h
theorem next_pos {si sf : Cells} {r i : Int} {s : List UInt8} {m : List (Int × List UInt8)} (hc : Codes si sf r) (h0 : 0 ≤ i) (h1 : i < si.length) (h : nextF si sf i s = some m) : ∀ p ∈ m, 0 ≤ p.1 := by
 intro p hp
 rcases ((next_spec h).2 p hp).1 with e | ⟨e, ho⟩
 ·omega
 ·have hpr := (hc.row h0 h1).2.is
  rw [e]
  rcases ho with e | e | e | e | e <;> rw [e] at hpr
  ·exact (wB_spec (show wB (cellInt si i 1) 0 ((si.length : Int) - 1) = true from hpr)).1
  ·exact (wB_spec (show wB (cellInt si i 1) 0 ((si.length : Int) - 1) = true from hpr)).1
  ·exact (wB_spec (show wB (cellInt si i 1) 0 ((si.length : Int) - 1) = true from hpr)).1
  ·exact (wB_spec (show wB (cellInt si i 1) 0 ((si.length : Int) - 1) = true from hpr)).1
  ·replace hpr : (wB (cellInt si i 1) 0 ((si.length : Int) - 1) && wB (cellInt si i 2) 0 (r - 1)) = true := hpr
   rw [Bool.and_eq_true] at hpr
   exact (wB_spec hpr.1).1
theorem wp33 {si sf : Cells} {b e n r ra : Int} {s : List UInt8} {K : AV → Prop} (hc : Codes si sf r) (ha : AtOk si ra s)
  (hK1 : ∀ q, Nx (nextF si sf ra s) q → K (.tup [nilA, bA q])) (hK2 : ∀ l, Ny (nextF si sf ra s) l → K (.tup [.sl (rowT l) 0, bA true])) :
  wpCall T33 (cfg M) Tryz.prog 100 33 [codeA si sf b e n r, .agg [iA ra, aStr s]] heapF fun r h' => wpBack h' r K := by
 refine v33 M si sf b e n r ra s K ?_
 obtain ⟨h0, h1, h2⟩ := ha
 obtain ⟨hg, hi⟩ := hc.row h0 h1
 have hpl := pops_len hi
 refine it (by rw [inRange_iff]; omega) ⟨hg, hi, ?_⟩
 intro q hq
 subst hq
 dsimp only
 refine ⟨⟨⟨by omega⟩, ⟨by omega⟩⟩, ?_⟩
 intro q hq
 replace hq : q = cutT s (popsF sf (cellInt si ra 0) (cellInt si ra 1) (cellInt si ra 2)) := hq
 subst hq
 refine iti (fun hcut => ?_) (fun hcut => ?_)
 ·have hn : nextF si sf ra s = nextK (cellInt si ra 0) (cellInt si ra 1) ra s (cutT s (popsF sf (cellInt si ra 0) (cellInt si ra 1) (cellInt si ra 2))).1 := by
   unfold nextF; rw [if_pos hcut]
  have hl := cut_len hcut
  have hw : IntKind.i64.wrap (ra + 1) = ra + 1 := wrap_in (by omega) (by have := hc.n; omega)
  rw [hn] at hK1 hK2
  rw [hw]
  clear hn hcut hw hpl
  revert hK1 hK2 hl
  generalize (cutT s (popsF sf (cellInt si ra 0) (cellInt si ra 1) (cellInt si ra 2))).1 = rest
  clear hi hg
  generalize cellInt si ra 0 = op
  generalize cellInt si ra 1 = x
  intro hK1 hK2 hl
  refine it (fitsS (by
   rcases push_len op with h | h
   ·omega
   ·have h2 : (pushF op).length = 2 := by rw [h, push39]; rfl
    omega)) ?_
  have yes : nextK op x ra s rest = some [] → K (.tup [nilA, bA true]) := fun h => hK1 true ⟨fun _ => h, fun h' => (by cases h')⟩
  have no : nextK op x ra s rest = none → K (.tup [nilA, bA false]) := fun h => hK1 false ⟨fun h' => (by cases h'), fun _ => h⟩
  have some' : ∀ l, nextK op x ra s rest = some l → l ≠ [] → K (.tup [.sl (rowT l) 0, bA true]) := fun l h hne => hK2 l ⟨h, hne⟩
  clear hK1 hK2
  refine iti (fun h => ?_) (fun n29 => ?_)
  ·obtain rfl := eqi h; exact yes rfl
  refine iti (fun h => ?_) (fun n43 => ?_)
  ·obtain rfl := eqi h; exact yes rfl
  refine iti (fun h => ?_) (fun n44 => ?_)
  ·obtain rfl := eqi h; exact yes rfl
  refine iti (fun h => ?_) (fun n48 => ?_)
  ·obtain rfl := eqi h
   refine iti (fun hs => yes ?_) (fun hs => no ?_)
   ·show (if s = [] then some [] else none) = _
    rw [if_pos (of_decide_eq_true hs)]
   ·show (if s = [] then some [] else none) = _
    rw [if_neg (of_decide_eq_false hs)]
  refine iti (fun h => ?_) (fun n49 => ?_)
  ·obtain rfl := eqi h
   refine iti (fun hs => yes ?_) (fun hs => no ?_)
   ·show (if s = [] then some [] else none) = _
    rw [if_pos (of_decide_eq_true hs)]
   ·show (if s = [] then some [] else none) = _
    rw [if_neg (of_decide_eq_false hs)]
  refine iti (fun h => ?_) (fun n22 => ?_)
  ·obtain rfl := eqi h; exact some' _ rfl (by simp)
  refine iti (fun h => ?_) (fun n39 => ?_)
  ·obtain rfl := eqi h; exact some' _ rfl (by simp)
  refine iti (fun h => ?_) (fun n23 => ?_)
  ·obtain rfl := eqi h; exact some' _ rfl (by simp)
  refine iti (fun h => ?_) (fun n24 => ?_)
  ·obtain rfl := eqi h; exact some' _ rfl (by simp)
  refine iti (fun h => ?_) (fun n45 => ?_)
  ·obtain rfl := eqi h; exact some' _ rfl (by simp)
  refine some' [(ra + 1, rest ++ pushF op)] ?_ (by simp)
  unfold nextK
  simp_all
 ·exact hK1 false ⟨fun h => (by cases h), fun _ => by unfold nextF; rw [if_neg (by rw [hcut]; decide)]⟩
theorem ok33 {T : Tab} (O : Ok M T) : Ok M (T.addC 33 C33) := by
 refine addC_ok O fun args h s hs hp => ?_
 unfold C33 at hs
 split at hs
 ·rename_i si sf b e n r ra s
  obtain ⟨⟨s⟩⟩ := s
  cases hs
  obtain ⟨m, v, h', e', hq, rfl⟩ := EvP.freshK (g := 33) (args := [codeA si sf b e n r, .agg [iA ra, aStr s]]) (h := h) (args' := [codeA si sf b e n r, .agg [iA ra, aStr s]]) (Q := fun v => (∃ q, Nx (nextF si sf ra s) q ∧ v = .tup [nilA, bA q]) ∨ ∃ l, Ny (nextF si sf ra s) l ∧ v = .tup [.sl (rowT l) 0, bA true])
   (ok59 (ok58 (M := M) ok0)) (n := 100) (by kernel_rfl) rfl rfl (wp33 hp.1 hp.2 (fun q hq => .inl ⟨q, hq, rfl⟩) (fun l hl => .inr ⟨l, hl, rfl⟩))
  rcases hq with ⟨q, hq, rfl⟩ | ⟨l, hl, rfl⟩
  ·exact ⟨_, List.mem_cons_self .., q, m, hq, e'⟩
  ·exact ⟨_, List.mem_cons_of_mem _ (List.mem_cons_self ..), l, m, hl, e'⟩
 ·cases hs
end
end Go.Proofs.Sp.Sj
namespace Go.Proofs.Sp.Sj
open Go Go.Ef Go.Proofs.Pt
noncomputable section
set_option maxRecDepth 100000
variable {M : Int}
def mayB (si : Cells) (fi : Fi) (i : Int) : Bool := partB (cellInt si i 0) fi.isSome && slotB (cellInt si i 0) (cellInt si i 1) (cellInt si i 2) fi
def stepG (si sf : Cells) (fi : Fi) (i : Int) (s : Str) : Option (List (Int × Str)) := if mayB si fi i = true then nextF si sf i s else none
theorem may_fn {si sf : Cells} {fn i : Int} : (partB (cellInt si i 0) (decide (0 ≤ fn)) && slotB (cellInt si i 0) (cellInt si i 1) (cellInt si i 2) (fiOf sf fn)) = mayB si (fiOf sf fn) i := by
 unfold mayB
 have : (fiOf sf fn).isSome = decide (0 ≤ fn) := by
  unfold fiOf
  by_cases h : 0 ≤ fn
  ·rw [if_pos h, dt h]; rfl
  ·rw [if_neg h, df h]; rfl
 rw [this]
theorem flatT_len (l : List (Int × Str)) : (rowT l).flatten.length = 2 * l.length := by
 induction l with
 | nil => rfl
 | cons p l ih =>
  show ([iA p.1, aStr p.2] ++ (rowT l).flatten).length = _
  rw [List.length_append, ih]; simp only [List.length_cons, List.length_nil]; omega
theorem flatT_app (a b : List (Int × Str)) : (rowT (a ++ b)).flatten = (rowT a).flatten ++ (rowT b).flatten := by
 unfold rowT; rw [List.map_append, List.flatten_append]
theorem rowT_len (l : List (Int × Str)) : (rowT l).length = l.length := by simp [rowT]
theorem rowT_two (l : List (Int × Str)) : (rowT l).all (fun e => e.length.beq 2) = true := by
 unfold rowT; rw [List.all_map]; exact List.all_eq_true.2 fun _ _ => rfl
theorem rowT_one (l : List (Int × Str)) : (rowT l).all (fun e => e.all AV.one) = true := by
 unfold rowT; rw [List.all_map]; exact List.all_eq_true.2 fun _ _ => rfl
structure RowAt (g : Heap) (il : Nat) (l : List (Int × Str)) : Prop where
 is : ∃ cs, Live g il (.cells cs) ∧ cs.take (2 * l.length) = (rowT l).flatten
theorem RowAt.len {cs : List AV} {l : List (Int × Str)} (h : cs.take (2 * l.length) = (rowT l).flatten) : 2 * l.length ≤ cs.length := by
 have := congrArg List.length h
 rw [flatT_len, List.length_take] at this
 omega
theorem RowAt.last {g : Heap} {il : Nat} {l : List (Int × Str)} {a : Int} {s : Str} (h : RowAt g il (l ++ [(a, s)])) :
  kdsIn g il (0 + l.length * 2) [Kd.int .i64, Kd.str] = true ∧ intIn g il (0 + l.length * 2) = a ∧ txtIn g il (0 + l.length * 2 + 1) = s := by
 obtain ⟨cs, h1, h2⟩ := h
 have hl := RowAt.len h2
 rw [List.length_append] at hl h2
 simp only [List.length_cons, List.length_nil] at hl h2
 have key : ∀ j, j < 2 → cs[0 + l.length * 2 + j]? = [iA a, aStr s][j]? := by
  intro j hj
  have e1 : cs[0 + l.length * 2 + j]? = (cs.take (2 * (l.length + (0 + 1))))[0 + l.length * 2 + j]? := by rw [List.getElem?_take, if_pos (by omega)]
  rw [e1, h2, flatT_app, List.getElem?_append_right (by rw [flatT_len]; omega), flatT_len, show 0 + l.length * 2 + j - 2 * l.length = j by omega]
  rfl
 have k0 := key 0 (by omega)
 have k1 := key 1 (by omega)
 have c0 : cellIn g il (0 + l.length * 2) = some (iA a) := by rw [h1.cell]; exact k0
 have c1 : cellIn g il (0 + l.length * 2 + 1) = some (aStr s) := by rw [h1.cell]; exact k1
 refine ⟨?_, ?_, ?_⟩
 ·simp only [kdsIn, c0, c1]; rfl
 ·unfold intIn; rw [c0]; rfl
 ·unfold txtIn; rw [c1]; rfl
theorem RowAt.pre {g : Heap} {il : Nat} {l m : List (Int × Str)} (h : RowAt g il (l ++ m)) : RowAt g il l := by
 obtain ⟨cs, h1, h2⟩ := h
 refine ⟨cs, h1, ?_⟩
 have := congrArg (List.take (2 * l.length)) h2
 rw [List.take_take, flatT_app, List.take_append_of_le_length (by rw [flatT_len]; omega), List.take_of_length_le (l := (rowT l).flatten) (by rw [flatT_len]; omega)] at this
 rw [List.length_append, show min (2 * l.length) (2 * (l.length + m.length)) = 2 * l.length by omega] at this
 exact this
theorem RowAt.app {g : Heap} {il : Nat} {l m : List (Int × Str)} (h : RowAt g il l) : appOk g il 0 (l.length * 2) = true ∧ RowAt (appIn g il 0 (l.length * 2) (rowT m)) g.next (l ++ m) := by
 obtain ⟨cs, h1, h2⟩ := h
 have hl := RowAt.len h2
 refine ⟨app_ok h1 (by omega), _, app_get h1, ?_⟩
 unfold cutC
 rw [List.drop_zero, show l.length * 2 = 2 * l.length by omega, h2, ← flatT_app, List.take_of_length_le (by rw [flatT_len]; omega)]
structure G12 (g : Heap) (im il : Nat) (D : Lab) (l : List (Int × Str)) : Prop where
 map : MapIs g im D
 row : RowAt g il l
 ne : im ≠ il
 lt : im < g.next
theorem fits_small {n : Nat} (h : n ≤ 100000) : fits n 24 = true := by
 unfold fits
 rw [Bool.and_eq_true]
 exact ⟨Nat.ble_eq_true_of_le (by unfold maxRoom; omega), Nat.ble_eq_true_of_le (by unfold maxRoom; omega)⟩
theorem okz12 : Ok M T12r := ⟨(ok34 (ok33 ok0)).call, (ok34 (ok33 ok0)).loop⟩
theorem perm_last {l : List (Int × Str)} {p : Int × Str} (q : Int × Str) : q ∈ p :: l ↔ q ∈ l ++ [p] := by simp [or_comm]
theorem perm_step {l m : List (Int × Str)} (q : Int × Str) : q ∈ m ++ l ↔ q ∈ l ++ m := by simp [or_comm]
theorem end_cases {α : Type} (l : List α) : l = [] ∨ ∃ l0 p, l = l0 ++ [p] := by
 rcases List.eq_nil_or_concat l with h | ⟨l0, p, h⟩
 ·exact .inl h
 ·exact .inr ⟨l0, p, by rw [h, List.concat_eq_append]⟩
set_option maxHeartbeats 1000000 in
theorem loop12 {si sf : Cells} {b e n r ra fn : Int} (hc : Codes si sf r) (hf : FnOk sf fn) {im : Nat} : ∀ (f : Nat) (g : Heap) (il : Nat) (D : Lab) (l : List (Int × Str)), 3 * free si.length D + l.length = f → f ≤ 20000 →
  G12 g im il D l → Fine si.length D → (∀ p ∈ l, 0 ≤ p.1 ∧ p.2.length + free si.length D ≤ si.length) →
  Ev (cfg M) Tryz.prog 12 (.loop (loopAt Tryz.prog 12 4)) (I12 si sf b e n r ra fn im il 0 l.length g) fun ex τ =>
   (ex = .exit 0 ∧ (∃ g', τ = E12 si sf b e n r ra fn g') ∧ Reach si.length (stepG si sf (fiOf sf fn)) D l) ∨ (ex = .ret ∧ (∃ g', τ = R12 si sf b e n r ra fn g') ∧ ¬Reach si.length (stepG si sf (fiOf sf fn)) D l) := by
 have can : ∀ (g : Heap) (il : Nat) (k : Nat), (I12 si sf b e n r ra fn im il 0 k g).tidy [2, 3, 5, 6] 2 = I12 si sf b e n r ra fn im il 0 k g := fun g il k => by kernel_rfl
 intro f
 induction f using Nat.strongRecOn with
 | _ f ih =>
 intro g il D l hm hB hG hF hl
 let N : Nat → Nat → Nat → Heap → Prop := fun il' off' len' g' => ∃ D' l', off' = 0 ∧ len' = l'.length ∧ G12 g' im il' D' l' ∧ Fine si.length D' ∧ (∀ p ∈ l', 0 ≤ p.1 ∧ p.2.length + free si.length D' ≤ si.length) ∧
  3 * free si.length D' + l'.length < f ∧ (Reach si.length (stepG si sf (fiOf sf fn)) D l ↔ Reach si.length (stepG si sf (fiOf sf fn)) D' l')
 refine Ev.round (t := ⟨[2, 3, 5, 6], [4], 2⟩) okz12 (by kernel_rfl) rfl (can g il l.length)
  (r12 M si sf b e n r ra fn im il 0 l.length g N (Reach si.length (stepG si sf (fiOf sf fn)) D l) (fun _ => ¬Reach si.length (stepG si sf (fiOf sf fn)) D l) ?_) (fun τ h => ?_) (fun ex τ h => ?_)
 ·rcases end_cases l with rfl | ⟨l0, p, rfl⟩
  ·exact ie (df (by simp)) ⟨rfl, rfl, reach_nil D⟩
  ·obtain ⟨a, s⟩ := p
   have hlast := hl (a, s) (by simp)
   have hlen : (l0 ++ [(a, s)]).length = l0.length + 1 := by simp
   have hmem : (a, s) ∈ l0 ++ [(a, s)] := by simp
   obtain ⟨hk1, hk2, hk3⟩ := hG.row.last
   have hw : IntKind.i64.wrap (((l0 ++ [(a, s)]).length : Int) - 1) = (l0.length : Int) := by rw [hlen, wrap_in (by omega) (by omega)]; omega
   rw [hw, Int.toNat_natCast, hk2, hk3]
   refine it (dt (by rw [hlen]; omega)) (it (by rw [inRange_iff, hlen]; omega) (it hk1 (it ?_ (iti (fun hge => ?_) (fun hge => ?_)))))
   ·simp only [Bool.and_eq_true, decide_eq_true_eq]; rw [hlen]; omega
   ·have hge := of_decide_eq_true hge
    refine ⟨rfl, reach_out hmem ?_ (by omega)⟩
    cases hd : D a with
    | none => rfl
    | some t => have := hF.dom a t hd; omega
   ·have hge : a < si.length := by have := of_decide_eq_false hge; omega
    have h0 : 0 ≤ a := hlast.1
    have hsl := hlast.2
    have hn := hc.n
    simp only [] at h0 hsl
    refine it hG.map.inn ?_
    have hget := hG.map.find a
    cases hd : D a with
    | some t =>
     refine it (by unfold mapHas; rw [hget, hd]; rfl) ?_
     rw [show mapStr g im a = t by unfold mapStr; rw [hget, hd]; rfl]
     refine iti (fun hne => ?_) (fun hne => ?_)
     ·exact ⟨rfl, reach_other hmem hd (of_decide_eq_true hne)⟩
     ·have hts : t = s := Classical.byContradiction fun h => of_decide_eq_false hne h
      subst hts
      refine ⟨rfl, D, l0, rfl, rfl, ⟨hG.map, hG.row.pre, hG.ne, hG.lt⟩, hF, fun p hp => hl p (by simp [hp]), by rw [hlen] at hm; omega, ?_⟩
      exact (reach_iff perm_last).trans (reach_done hd)
    | none =>
     refine ie (by unfold mapHas; rw [hget, hd]; rfl) ?_
     obtain ⟨hg, hi⟩ := hc.row h0 hge
     have hrange : inRange a si.length = true := by rw [inRange_iff]; omega
     refine it (by rw [hG.map.inn, hG.map.put]; rfl) ⟨⟨hc, h0, hge, by omega⟩, ?_, ?_⟩
     ·intro q hq
      refine iti (fun hqt => ?_) (fun hqf => ?_)
      ·refine it hrange ⟨hg, ⟨hi, hf⟩, ?_⟩
       intro al hal
       rw [may_fn] at hal
       subst hal
       refine iti (fun hal => ?_) (fun hal => ?_)
       ·have hst : stepG si sf (fiOf sf fn) a s = some [] := by unfold stepG; rw [if_pos hal]; exact hq.t hqt
        obtain ⟨m1, m2, m3, m4⟩ := hG.map.set hd s
        have hfs := free_set (s := s) hd h0 hge
        refine ⟨rfl, D.set a s, l0, rfl, rfl, ⟨m1, ?_, hG.ne, by rw [m3]; exact hG.lt⟩, hF.set h0 hge, fun p hp => ?_, by rw [hlen] at hm; omega, ?_⟩
        ·obtain ⟨cs, c1, c2⟩ := hG.row.pre
         exact ⟨cs, m4 _ _ hG.ne c1, c2⟩
        ·have := hl p (by simp [hp]); omega
        ·exact (reach_iff perm_last).trans (reach_step hd h0 hge hst)
       ·exact ⟨rfl, reach_bad hmem hd (by unfold stepG; rw [if_neg (by rw [hal]; decide)])⟩
      ·refine ⟨rfl, reach_bad hmem hd ?_⟩
       unfold stepG
       rw [hq.f hqf]; split <;> rfl
     ·intro m hm2
      refine it hrange ⟨hg, ⟨hi, hf⟩, ?_⟩
      intro al hal
      rw [may_fn] at hal
      subst hal
      refine iti (fun hal => ?_) (fun hal => ?_)
      ·have hst : stepG si sf (fiOf sf fn) a s = some m := by unfold stepG; rw [if_pos hal]; exact hm2.is
       obtain ⟨m1, m2, m3, m4⟩ := hG.map.set hd s
       have hfs := free_set (s := s) hd h0 hge
       obtain ⟨n1, n2⟩ := next_spec hm2.is
       have n3 := next_pos hc h0 hge hm2.is
       have hrow : RowAt (mapSet g im .i64 a s) il l0 := by
        obtain ⟨cs, c1, c2⟩ := hG.row.pre
        exact ⟨cs, m4 _ _ hG.ne c1, c2⟩
       obtain ⟨a1, a2⟩ := hrow.app (m := m)
       have hml : 0 < m.length := List.length_pos_iff.2 hm2.ne
       refine it (rowT_two m) (it (rowT_one m) (ie ?_ (it ?_ ?_)))
       ·cases m with
        | nil => exact absurd rfl hm2.ne
        | cons p m => rfl
       ·rw [rowT_len, Bool.and_eq_true]
        exact ⟨fits_small (by rw [hlen] at hm; omega), a1⟩
       ·refine ⟨rfl, D.set a s, l0 ++ m, rfl, by rw [rowT_len, List.length_append], ⟨m1.keep fun q k => ?_, a2, ?_, ?_⟩, hF.set h0 hge, fun p hp => ?_, ?_, ?_⟩
        ·obtain ⟨cs, c1, _⟩ := hrow
         exact c1.app k hG.ne.symm
        ·have := hG.lt; rw [m3]; omega
        ·obtain ⟨cs, c1, _⟩ := hrow
         rw [(app_rest c1).2, m3]
         have := hG.lt; omega
        ·rcases List.mem_append.1 hp with hp | hp
         ·have := hl p (by simp [hp]); omega
         ·have q1 := n3 p hp
          have q2 := (n2 p hp).2
          omega
        ·rw [List.length_append]; rw [hlen] at hm; omega
        ·exact (reach_iff perm_last).trans ((reach_step hd h0 hge hst).trans (reach_iff fun q => (perm_step q).symm))
      ·exact ⟨rfl, reach_bad hmem hd (by unfold stepG; rw [if_neg (by rw [hal]; decide)])⟩
 ·obtain ⟨he, D', l', h1, h2, h3, h4, h5, h6, h7⟩ := h
  rw [he, h1, h2]
  refine (ih _ h6 τ.h (rI τ 6) D' l' rfl (by omega) h3 h4 h5).mono fun ex τ' hk => ?_
  rcases hk with ⟨k1, k2, k3⟩ | ⟨k1, k2, k3⟩
  ·exact .inl ⟨k1, k2, h7.2 k3⟩
  ·exact .inr ⟨k1, k2, fun k => k3 (h7.1 k)⟩
 ·unfold q12 at h
  split at h
  ·exact .inl ⟨h.1, ⟨_, h.2.1⟩, h.2.2⟩
  ·exact .inr ⟨rfl, ⟨_, h.1⟩, h.2⟩
  ·exact h.elim
end
end Go.Proofs.Sp.Sj
namespace Go.Proofs.Sp.Sj
open Go Go.Ef Go.Proofs.Pt
noncomputable section
def ReachF (si sf : Cells) (fi : Fi) (ra : Int) : Prop := Reach si.length (stepG si sf fi) Lab.none [(ra, [])]
structure P12 (si sf : Cells) (r ra fn : Int) (im il : Nat) (g : Heap) : Prop where
 c : Codes si sf r
 f : FnOk sf fn
 lo : 0 ≤ ra
 m : G12 g im il Lab.none [(ra, [])]
structure RYes (si sf : Cells) (ra fn : Int) : Prop where
 is : ReachF si sf (fiOf sf fn) ra
structure RNo (si sf : Cells) (ra fn : Int) : Prop where
 is : ¬ReachF si sf (fiOf sf fn) ra
def L12 (σ : St) : Option LSpec := some { pre := σ.tidy [2, 3, 5, 6] 2 = I12 (lcE σ 0 0) (lcE σ 0 1) (lcI σ 0 2) (lcI σ 0 3) (lcI σ 0 4) (lcI σ 0 5) (lcI σ 1 0) (lcI σ 1 1) (mpI σ 5) (rI σ 6) 0 1 σ.h ∧ P12 (lcE σ 0 0) (lcE σ 0 1) (lcI σ 0 5) (lcI σ 1 0) (lcI σ 1 1) (mpI σ 5) (rI σ 6) σ.h, alts := [{ α := Heap, post := fun _ => RYes (lcE σ 0 0) (lcE σ 0 1) (lcI σ 1 0) (lcI σ 1 1), ex := .exit 0, st := fun g => E12 (lcE σ 0 0) (lcE σ 0 1) (lcI σ 0 2) (lcI σ 0 3) (lcI σ 0 4) (lcI σ 0 5) (lcI σ 1 0) (lcI σ 1 1) g }, { α := Heap, post := fun _ => RNo (lcE σ 0 0) (lcE σ 0 1) (lcI σ 1 0) (lcI σ 1 1), ex := .ret, st := fun g => R12 (lcE σ 0 0) (lcE σ 0 1) (lcI σ 0 2) (lcI σ 0 3) (lcI σ 0 4) (lcI σ 0 5) (lcI σ 1 0) (lcI σ 1 1) g }] }
def T12 : Tab := T12r.addL 12 4 L12
structure RIff (si sf : Cells) (fi : Fi) (ra : Int) (q : Bool) : Prop where
 is : q = true ↔ ReachF si sf fi ra
def C12 (args : List AV) (h : Heap) : Option CSpec :=
 match args with
 | [.agg [.sl si 0, .sl sf 0, .sc (.int .i64 _), .sc (.int .i64 _), .sc (.int .i64 _), .sc (.int .i64 r)], .agg [.sc (.int .i64 ra), .sc (.int .i64 fn)]] => some { pre := Codes si sf r ∧ FnOk sf fn ∧ 0 ≤ ra, alts := [{ α := Bool, post := fun q => RIff si sf (fiOf sf fn) ra q, val := bA, heap := fun _ => h }] }
 | _ => none
end
end Go.Proofs.Sp.Sj
namespace Go.Proofs.Sp.Sj
open Go Go.Ef Go.Proofs.Pt
noncomputable section
set_option maxRecDepth 100000
theorem v12 (M : Int) (si : Cells) (sf : Cells) (b : Int) (e : Int) (n : Int) (r : Int) (ra : Int) (fn : Int) (K : AV → Prop) (h :
 loopAt Tryz.prog (12 : Nat) (4 : Nat) = loopAt Tryz.prog (12 : Nat) (4 : Nat) ∧
 (I12 si sf b e n r ra fn (1 : Nat) (newIn (Heap.mk (1 : Nat) Tr.leaf (1 : Nat) Tr.leaf) (AObj.map [])).next (0 : Nat)
 (1 : Nat)
 (newIn (newIn (Heap.mk (1 : Nat) Tr.leaf (1 : Nat) Tr.leaf) (AObj.map []))
 (AObj.cells [AV.sc (Value.int IntKind.i64 ra), AV.sc (Value.string (ByteArray.mk (Array.mk [])))])) =
 I12 si sf b e n r ra fn (1 : Nat) (newIn (Heap.mk (1 : Nat) Tr.leaf (1 : Nat) Tr.leaf) (AObj.map [])).next
 (0 : Nat) (1 : Nat)
 (newIn (newIn (Heap.mk (1 : Nat) Tr.leaf (1 : Nat) Tr.leaf) (AObj.map []))
 (AObj.cells [AV.sc (Value.int IntKind.i64 ra), AV.sc (Value.string (ByteArray.mk (Array.mk [])))])) ∧
 P12 si sf r ra fn (1 : Nat) (newIn (Heap.mk (1 : Nat) Tr.leaf (1 : Nat) Tr.leaf) (AObj.map [])).next
 (newIn (newIn (Heap.mk (1 : Nat) Tr.leaf (1 : Nat) Tr.leaf) (AObj.map []))
 (AObj.cells [AV.sc (Value.int IntKind.i64 ra), AV.sc (Value.string (ByteArray.mk (Array.mk [])))]))) ∧
 (∀ (_ : Heap), RYes si sf ra fn → K (AV.sc (Value.bool true))) ∧
 ∀ (_ : Heap), RNo si sf ra fn → K (AV.sc (Value.bool false))) :
 (fun (M : Int) (si sf : Cells) (b e n r ra fn : Int) (K : AV → Prop) => wpCall T12 (cfg M) Tryz.prog 100 12 [codeA si sf b e n r, .agg [iA ra, iA fn]] heapF fun r h' => wpBack h' r K) M si sf b e n r ra fn K :=
 Eq.mp (by kernel_rfl) h
end
end Go.Proofs.Sp.Sj
namespace Go.Proofs.Sp.Sj
open Go Go.Ef Go.Proofs.Pt
noncomputable section
set_option maxRecDepth 100000
variable {M : Int}
theorem ok12L : Ok M T12 := by
 refine addL_ok okz12 fun σ s hs hp => ?_
 cases hs
 obtain ⟨e, hc, hf, h0, hm⟩ := hp
 have he := loop12 (M := M) (b := lcI σ 0 2) (e := lcI σ 0 3) (n := lcI σ 0 4) (ra := lcI σ 1 0) hc hf _ σ.h (rI σ 6) Lab.none [(lcI σ 1 0, [])] rfl (by rw [free_none]; have := hc.n; simp only [List.length_cons, List.length_nil]; omega) hm (Fine.none _) (by
  intro p hp
  simp only [List.mem_singleton] at hp
  subst hp
  rw [free_none]
  exact ⟨h0, by simp⟩)
 have he2 : Ev (cfg M) Tryz.prog 12 (.loop (loopAt Tryz.prog 12 4)) σ _ := Ev.tidied (t := ⟨[2, 3, 5, 6], [4], 2⟩) (τ := I12 (lcE σ 0 0) (lcE σ 0 1) (lcI σ 0 2) (lcI σ 0 3) (lcI σ 0 4) (lcI σ 0 5) (lcI σ 1 0) (lcI σ 1 1) (mpI σ 5) (rI σ 6) 0 1 σ.h) (by kernel_rfl) (by rw [e]; kernel_rfl) he
 obtain ⟨k, ex, τ, h6, hk⟩ := he2
 rcases hk with ⟨rfl, ⟨g', rfl⟩, h7⟩ | ⟨rfl, ⟨g', rfl⟩, h7⟩
 ·exact ⟨_, List.mem_cons_self .., g', ⟨h7⟩, k, h6⟩
 ·exact ⟨_, List.mem_cons_of_mem _ (List.mem_cons_self ..), g', ⟨h7⟩, k, h6⟩
theorem p12_start {si sf : Cells} {r ra fn : Int} (hc : Codes si sf r) (hf : FnOk sf fn) (h0 : 0 ≤ ra) : P12 si sf r ra fn (1 : Nat) (newIn (Heap.mk (1 : Nat) Tr.leaf (1 : Nat) Tr.leaf) (AObj.map [])).next
  (newIn (newIn (Heap.mk (1 : Nat) Tr.leaf (1 : Nat) Tr.leaf) (AObj.map [])) (AObj.cells [AV.sc (Value.int IntKind.i64 ra), AV.sc (Value.string (ByteArray.mk (Array.mk [])))])) := by
 have hm : MapIs (newIn heapF (.map [])) 1 Lab.none := map_new (h := heapF) (Nat.le_refl _)
 have hr := newIn_rest heapF (.map [])
 have hle : (newIn heapF (.map [])).ro ≤ (newIn heapF (.map [])).next := by rw [hr.1, hr.2]; decide
 have hn : (newIn heapF (.map [])).next = 2 := hr.2
 refine ⟨hc, hf, h0, ⟨hm.keep fun q k => k.new, ⟨_, live_new hle _, rfl⟩, ?_, ?_⟩⟩
 ·show 1 ≠ (newIn heapF (.map [])).next
  rw [hn]; decide
 ·show 1 < (newIn (newIn heapF (.map [])) _).next
  rw [(newIn_rest _ _).2, hn]; decide
theorem ok12 {T : Tab} (O : Ok M T) : Ok M (T.addC 12 C12) := by
 refine addC_ok O fun args h s hs hp => ?_
 unfold C12 at hs
 split at hs
 ·rename_i si sf b e n r ra fn
  cases hs
  obtain ⟨hc, hf, h0⟩ := hp
  obtain ⟨m, v, h', e', ⟨q, hq, rfl⟩, rfl⟩ := EvP.freshK (g := 12) (args := [codeA si sf b e n r, .agg [iA ra, iA fn]]) (h := h) (args' := [codeA si sf b e n r, .agg [iA ra, iA fn]]) (Q := fun v => ∃ q, RIff si sf (fiOf sf fn) ra q ∧ v = bA q)
   (ok12L (M := M)) (n := 100) (by kernel_rfl) rfl rfl (v12 M si sf b e n r ra fn _ ⟨rfl, ⟨rfl, p12_start hc hf h0⟩, fun _ hy => ⟨true, ⟨fun _ => hy.is, fun _ => rfl⟩, rfl⟩, fun _ hy => ⟨false, ⟨fun h => (by cases h), fun h => absurd h hy.is⟩, rfl⟩⟩)
  exact ⟨_, List.mem_singleton.2 rfl, q, m, hq, e'⟩
 ·cases hs
end
end Go.Proofs.Sp.Sj
namespace Go.Proofs.Sp.Sj
open Go Go.Ef Go.Proofs.Pt
noncomputable section
def seenC (n : Nat) (K : Lab) : List AV := (List.range n).map fun i : Nat => bA (K (i : Int)).isSome
def kindC (n : Nat) (K : Lab) : List AV := (List.range n).map fun i : Nat => aStr ((K (i : Int)).getD [])
inductive TodoIs (g : Heap) (ids : List Nat) : AV → List Int → Prop
 | no : TodoIs g ids nilA []
 | row (t : Nat) (ts : List AV) (todo : List Int) (l : Live g t (.cells ts)) (e : ts.take todo.length = todo.map iA) (n : todo.length ≤ ts.length) (d : t ∉ ids) : TodoIs g ids (.rsl t 0 todo.length 1) todo
structure WParts (g : Heap) (w a k n fid : Nat) (fo : List AV) (td : AV) (K : Lab) (todo : List Int) (bad : Bool) : Prop where
 lw : Live g w (.cells [.rsl a 0 n 1, .rsl k 0 n 1, td, bA bad])
 la : Live g a (.cells (seenC n K))
 lk : Live g k (.cells (kindC n K))
 lt : TodoIs g [w, a, k, fid] td todo
 wa : w ≠ a
 wk : w ≠ k
 ak : a ≠ k
 fw : fid ≠ w
 fa : fid ≠ a
 fk : fid ≠ k
 lf : fid = 0 ∨ g.get fid = some (.cells fo)
structure WOk (g : Heap) (w n fid : Nat) (fo : List AV) (K : Lab) (todo : List Int) (bad : Bool) : Prop where
 is : ∃ a k td, WParts g w a k n fid fo td K todo bad
def toF (n : Nat) (K : Lab) (todo : List Int) (bad : Bool) (i : Int) (s : Str) : Lab × List Int × Bool :=
 if (n : Int) ≤ i then (K, todo, true) else match K i with
  | some t => if t = s then (K, todo, bad) else (K, todo, true)
  | none => (K.set i s, todo ++ [i], bad)
structure WIs (g : Heap) (w : Nat) (i : Int) : Prop where
 is : ∃ n fid fo K todo bad, WOk g w n fid fo K todo bad ∧ todo.length ≤ 100000
 lo : 0 ≤ i
structure ToDone (g : Heap) (w : Nat) (i : Int) (s : Str) (g' : Heap) : Prop where
 is : ∀ n fid fo K todo bad, WOk g w n fid fo K todo bad → todo.length ≤ 100000 → WOk g' w n fid fo (toF n K todo bad i s).1 (toF n K todo bad i s).2.1 (toF n K todo bad i s).2.2
def unitA : AV := .sc (.tuple #[])
def C36 (args : List AV) (h : Heap) : Option CSpec :=
 match args with
 | [.ptr w 0, .sc (.int .i64 i), .sc (.string s)] => some { pre := WIs h w i, alts := [{ α := Heap, post := fun g => ToDone h w i s.data.toList g, val := fun _ => unitA, heap := fun g => g }] }
 | _ => none
def w36 (t : Nat) : Nat := bif Nat.beq t 61 then 1 else 3
def T36 : Tab := Tab.slices (Tab.heapy tab0 36) 36 w36
def w37 (t : Nat) : Nat := bif Nat.beq t 14 then 2 else 3
def T37 : Tab := Tab.slices (Tab.heapy (((((((tab0.addC 36 C36).addC 60 C60).addC 64 C64).addC 65 C65).addC 66 C66).addC 67 C67).addC 68 C68) 37) 37 w37
end
end Go.Proofs.Sp.Sj
