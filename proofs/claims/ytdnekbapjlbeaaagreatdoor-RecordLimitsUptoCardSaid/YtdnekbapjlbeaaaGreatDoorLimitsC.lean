/- A part of the proof: definitions and lemmas. -/
import Derived.Test.YtdnekbapjlbeaaaGreatDoorLimitsB
import Derived.Orders
import Derived.LoopN
import Derived.Below
import Derived.Deep.Draws
import Derived.Shelf.Strings.Builder1
import Derived.Lib.UnsafeStr
import Derived.Shelf.RegionOpenPlain
import Derived.Lib.Walk
import Derived.WalkKit
import Derived.Lib.Bytealg
import Derived.Shelf.Strings.OnBuilder
import Derived.Shelf.Strings.Repeat
import Derived.Shelf.Strings.Search3
import Derived.Shelf.Strings.Split
import Derived.Shelf.Strings.SlTrimAscii
import Derived.Shelf.Strings.Builder2
import Derived.Shelf.Strings.Trim
import Derived.Shelf.Small.Utf8
import Derived.Shelf.Small.Strs
import Derived.Shelf.Strings.BuilderF
import Derived.Shelf.Strings.BuilderK
import Derived.Shelf.Strings.Search1
import Derived.Shelf.Strings.Search2
import Derived.Shelf.Strings.Cut
import Derived.Shelf.Strings.Count
import Derived.Shelf.LaysM
import Derived.Shelf.Strings.Shaped
import Derived.Shelf.Strings.Prefix
import Derived.Shelf.Unicode.Latin
import Derived.Shelf.Strings.Runes
import Derived.Shelf.Strings.AsciiSet
import Derived.Shelf.Bits.Mul64
import Derived.Shelf.Unicode.DecodeSlow
import Derived.Shelf.Unicode.CaseLookup
import Derived.Shelf.Unicode.CaseConvert
import Derived.Shelf.Unicode.CaseTo
import Derived.Shelf.Unicode.CaseLaid
import Derived.Test.YtdnekbapjlbeaaaGreatDoorProg
import Derived.Lib.Strings
namespace Go.Ef
open Go
noncomputable section
def half (C : Cfg) (P : Program) (call : CallF) (f : FuncId) (ops : Array Oper) (o : Oper) (σ : St) : Option (Slot × St) :=
 match wantedA ops o σ with
 | some true => evOp C P call f o σ
 | some false => some (.v (.sc undef), σ)
 | none => none
def tmPut (d : Option Nat) (s : Slot) (t : Tr Slot) : Tr Slot := match d with
 | none => t
 | some k => t.set k s
def fitsD (n : Nat) (d : Option Nat) : Bool := match d with
 | none => true
 | some k => !Nat.ble n k
section
variable {C : Cfg} {P : Program} {call : CallF} {f : FuncId} {ops : Array Oper} {o x y : Oper} {σ σ' : St}
theorem evStep_eq : evStep C P call f ops o σ = thenO (half C P call f ops o σ) fun r => r.2.put o.dst r.1 := by
 unfold evStep half
 cases wantedA ops o σ with
 | none => rfl
 | some b =>
  cases b with
  | false => rfl
  | true => simp only []; cases evOp C P call f o σ <;> rfl
theorem put_eq {d : Option Nat} {s : Slot} : σ.put d s = bif fitsD σ.n d then some (σ.wt (tmPut d s σ.tm)) else none := by
 cases d with
 | none => rfl
 | some k => simp only [St.put, fitsD, tmPut]; cases Nat.ble σ.n k <;> rfl
theorem step_split (h : evStep C P call f ops o σ = some σ') : ∃ s τ, half C P call f ops o σ = some (s, τ) ∧ fitsD τ.n o.dst = true ∧ σ' = τ.wt (tmPut o.dst s τ.tm) := by
 rw [evStep_eq] at h
 obtain ⟨r, h1, h2⟩ := thenO_some h
 rw [put_eq] at h2
 obtain ⟨h3, h4⟩ := cond_some h2
 exact ⟨r.1, r.2, h1, h3, by cases h4; rfl⟩
theorem step_join {s : Slot} {τ : St} (h : half C P call f ops o σ = some (s, τ)) (hf : fitsD τ.n o.dst = true) : evStep C P call f ops o σ = some (τ.wt (tmPut o.dst s τ.tm)) := by
 rw [evStep_eq, h]
 simp only [thenO]
 rw [put_eq, hf]; rfl
theorem slot_wt {t : Tr Slot} {k : Nat} (h : t.get k = σ.tm.get k) : (σ.wt t).slot (.tmp k) = σ.slot (.tmp k) := by
 simp only [St.slot, St.wt]; rw [h]
theorem wanted_wt {t : Tr Slot} (h : ∀ k ∈ reads ops o, t.get k = σ.tm.get k) : wantedA ops o (σ.wt t) = wantedA ops o σ := by
 unfold wantedA
 cases hg : o.guard with
 | none => rfl
 | some g =>
  obtain ⟨j, want⟩ := g
  simp only []
  cases hj : ops[j]? with
  | none => rfl
  | some oj =>
   simp only []
   cases hd : oj.dst with
   | none => rfl
   | some k =>
    simp only []
    rw [slot_wt (h k (by simp [reads, hg, hj, hd]))]
theorem half_wt {t : Tr Slot} (h : ∀ k ∈ reads ops o, t.get k = σ.tm.get k) : half C P call f ops o (σ.wt t) = (half C P call f ops o σ).map (mapR t) := by
 unfold half
 rw [wanted_wt h]
 cases wantedA ops o σ with
 | none => rfl
 | some b =>
  cases b with
  | false => rfl
  | true =>
   simp only []
   refine evOp_wt fun z hz => ?_
   cases z with
   | tmp k => exact slot_wt (h k (by simp only [reads, List.mem_append, List.mem_filterMap]; exact .inl ⟨_, hz, rfl⟩))
   | _ => rfl
theorem half_keeps {r : Slot × St} (h : half C P call f ops o σ = some r) : Keeps (clsOf C P f o) σ r.2 := by
 unfold half at h
 split at h
 ·exact op_keeps h
 ·cases h; exact .same _ _
 ·cases h
theorem wanted_mem {loc : List LObj} {hp : Heap} : wantedA ops o (σ.mem loc hp) = wantedA ops o σ := rfl
theorem half_mem {loc : List LObj} {hp : Heap} (h : clsOf C P f o = .p) : half C P call f ops o (σ.mem loc hp) = (half C P call f ops o σ).map (memR loc hp) := by
 unfold half
 rw [wanted_mem]
 cases wantedA ops o σ with
 | none => rfl
 | some b =>
  cases b with
  | false => rfl
  | true => exact evOp_mem h
theorem half_heap {hp : Heap} (h : clsOf C P f o = .l) : half C P call f ops o (σ.mem σ.loc hp) = (half C P call f ops o σ).map (memR σ.loc hp) := by
 unfold half
 rw [wanted_mem]
 cases wantedA ops o σ with
 | none => rfl
 | some b =>
  cases b with
  | false => rfl
  | true => exact evOp_heap h
theorem half_h {loc : List LObj} {hp : Heap} (h : clsOf C P f o = .h) (k : Obs σ.h hp) : half C P call f ops o (σ.mem loc hp) = (half C P call f ops o σ).map (memR loc hp) := by
 unfold half
 rw [wanted_mem]
 cases wantedA ops o σ with
 | none => rfl
 | some b =>
  cases b with
  | false => rfl
  | true => exact evOp_h h k
theorem half_q {hp : Heap} (h : clsOf C P f o = .q) (k : Obs σ.h hp) : half C P call f ops o (σ.mem σ.loc hp) = (half C P call f ops o σ).map (memR σ.loc hp) := by
 unfold half
 rw [wanted_mem]
 cases wantedA ops o σ with
 | none => rfl
 | some b =>
  cases b with
  | false => rfl
  | true => exact evOp_q h k
theorem half_quiet {cl : Cls} (hc : clash (clsOf C P f o) cl = false) (h1 : quiet (clsOf C P f o) = true) (k : Keeps cl σ σ' ∨ Keeps cl σ' σ) {s : Slot} {τ : St} (h : half C P call f ops o σ = some (s, τ)) : half C P call f ops o σ' = some (s, σ') := by
 have ht : τ = σ := (half_keeps h).eq h1
 subst ht
 have hn : σ'.n = τ.n := k.elim (·.n) (·.n.symm)
 have htm : σ'.tm = τ.tm := k.elim (·.tm) (·.tm.symm)
 have hd : σ'.d = τ.d := k.elim (·.d) (·.d.symm)
 have hl : cl ≠ .s → cl ≠ .w → σ'.loc = τ.loc := fun e e' => k.elim (·.loc e e') (fun k => (k.loc e e').symm)
 have hh : cl ≠ .s → cl ≠ .c → cl ≠ .o → σ'.h = τ.h := fun e e' e2 => k.elim (·.h e e' e2) (fun k => (k.h e e' e2).symm)
 have ho : cl ≠ .s → cl ≠ .c → Obs τ.h σ'.h := fun e e' => by
  by_cases e2 : cl = .o
  ·exact k.elim (·.obs e2) (fun k => (k.obs e2).symm)
  ·rw [hh e e' e2]; exact .refl _
 have hm : σ' = τ.mem σ'.loc σ'.h := by
  cases σ'; cases τ; simp only [St.mem] at *; subst hn; subst htm; subst hd; rfl
 cases hcl : clsOf C P f o with
 | s => rw [hcl] at h1; cases h1
 | c => rw [hcl] at h1; cases h1
 | o => rw [hcl] at h1; cases h1
 | w => rw [hcl] at h1; cases h1
 | p =>
  rw [hm, half_mem hcl, h]; rfl
 | l =>
  have hcs : cl ≠ .s := by intro e; subst e; rw [hcl] at hc; cases hc
  have hcw : cl ≠ .w := by intro e; subst e; rw [hcl] at hc; cases hc
  rw [hm, hl hcs hcw, half_heap hcl, h]; rfl
 | h =>
  have hcs : cl ≠ .s := by intro e; subst e; rw [hcl] at hc; cases hc
  have hcc : cl ≠ .c := by intro e; subst e; rw [hcl] at hc; cases hc
  rw [hm, half_h hcl (ho hcs hcc), h]; rfl
 | q =>
  have hcs : cl ≠ .s := by intro e; subst e; rw [hcl] at hc; cases hc
  have hcw : cl ≠ .w := by intro e; subst e; rw [hcl] at hc; cases hc
  have hcc : cl ≠ .c := by intro e; subst e; rw [hcl] at hc; cases hc
  rw [hm, hl hcs hcw, half_q hcl (ho hcs hcc), h]; rfl
theorem clash_symm (a b : Cls) : clash a b = clash b a := by cases a <;> cases b <;> rfl
theorem tmPut_get {d : Option Nat} {s : Slot} {t : Tr Slot} {k : Nat} (h : d ≠ some k) : (tmPut d s t).get k = t.get k := by
 cases d with
 | none => rfl
 | some j => simp only [tmPut]; rw [Tr.get_set, if_neg (by intro e; exact h (by rw [e]))]
theorem tmPut_comm {d e : Option Nat} {s u : Slot} {t : Tr Slot} (h : ∀ k, d = some k → e ≠ some k) : tmPut d s (tmPut e u t) = tmPut e u (tmPut d s t) := by
 cases d with
 | none => rfl
 | some j =>
  cases e with
  | none => rfl
  | some k => exact Tr.set_comm _ _ _ _ _ (by intro q; exact h j rfl (by rw [q]))
theorem meets_spec (h : meets ops x y = false) : (∀ k ∈ reads ops y, x.dst ≠ some k) ∧ (∀ k, x.dst = some k → y.dst ≠ some k) := by
 unfold meets at h
 cases hd : x.dst with
 | none => exact ⟨fun k _ e => by simp at e, fun k e => by simp at e⟩
 | some d =>
  rw [hd] at h
  simp only [Bool.or_eq_false_iff] at h
  obtain ⟨h1, h2⟩ := h
  refine ⟨fun k hk e => ?_, fun k e e' => ?_⟩
  ·cases e
   have := List.any_eq_false.1 h1 d hk
   exact this (Nat.beq_refl d)
  ·cases e
   rw [e'] at h2
   simp only [Nat.beq_refl] at h2
   cases h2
theorem swap {σ1 σ2 : St} (ha : apartOps C P f ops x y = true) (h1 : evStep C P call f ops x σ = some σ1) (h2 : evStep C P call f ops y σ1 = some σ2) :
  ∃ σ3, evStep C P call f ops y σ = some σ3 ∧ evStep C P call f ops x σ3 = some σ2 := by
 simp only [apartOps, Bool.and_eq_true, Bool.not_eq_true'] at ha
 obtain ⟨⟨hxy, hyx⟩, hc⟩ := ha
 obtain ⟨mx, md⟩ := meets_spec hxy
 obtain ⟨my, _⟩ := meets_spec hyx
 obtain ⟨sx, τx, hx, fx, rfl⟩ := step_split h1
 obtain ⟨sy, τy', hy, fy, rfl⟩ := step_split h2
 have kx := half_keeps hx
 rw [half_wt (fun k hk => tmPut_get (mx k hk))] at hy
 cases hy0 : half C P call f ops y τx with
 | none => rw [hy0] at hy; cases hy
 | some r =>
  obtain ⟨sy0, τy⟩ := r
  rw [hy0] at hy
  simp only [Option.map_some, mapR, Option.some.injEq, Prod.mk.injEq] at hy
  obtain ⟨rfl, rfl⟩ := hy
  have ky := half_keeps hy0
  by_cases hq : quiet (clsOf C P f x) = true
  ·have ht : τx = σ := kx.eq hq
   subst ht
   refine ⟨_, step_join hy0 fy, ?_⟩
   have hx2 : half C P call f ops x τy = some (sx, τy) := half_quiet hc hq (.inl ky) hx
   have hx3 : half C P call f ops x (τy.wt (tmPut y.dst sy0 τy.tm)) = some (sx, τy.wt (tmPut y.dst sy0 τy.tm)) := by
    rw [half_wt (fun k hk => tmPut_get (my k hk)), hx2]; rfl
   have ntm : τy.tm = τx.tm := ky.tm
   have fx' : fitsD (τy.wt (tmPut y.dst sy0 τy.tm)).n x.dst = true := by
    show fitsD τy.n x.dst = true
    have hn : τy.n = τx.n := ky.n
    rw [hn]; exact fx
   rw [step_join hx3 fx']
   show some (τy.wt (tmPut x.dst sx (tmPut y.dst sy0 τy.tm))) = some (τy.wt (tmPut y.dst sy0 (tmPut x.dst sx τx.tm)))
   rw [ntm, tmPut_comm md]
  ·have hys : quiet (clsOf C P f y) = true := by
    cases hx' : clsOf C P f x <;> cases hy' : clsOf C P f y <;> rw [hx', hy'] at hc <;> rw [hx'] at hq <;> first | rfl | (cases hc; done) | exact absurd rfl hq
   have ht : τy = τx := ky.eq hys
   subst ht
   have hy2 : half C P call f ops y σ = some (sy0, σ) := half_quiet (by rw [clash_symm]; exact hc) hys (.inr kx) hy0
   have hn : τy.n = σ.n := kx.n
   have htm : τy.tm = σ.tm := kx.tm
   have fy' : fitsD τy.n y.dst = true := fy
   rw [hn] at fy'
   refine ⟨_, step_join hy2 fy', ?_⟩
   have hx3 : half C P call f ops x (σ.wt (tmPut y.dst sy0 σ.tm)) = some (sx, τy.wt (tmPut y.dst sy0 σ.tm)) := by
    rw [half_wt (fun k hk => tmPut_get (my k hk)), hx]; rfl
   rw [step_join hx3 fx]
   show some (τy.wt (tmPut x.dst sx (tmPut y.dst sy0 σ.tm))) = some (τy.wt (tmPut y.dst sy0 (tmPut x.dst sx τy.tm)))
   rw [htm, tmPut_comm md]
end
end
end Go.Ef
namespace Go.Ef
open Go
noncomputable section
def evIx (C : Cfg) (P : Program) (call : CallF) (f : FuncId) (ops : Array Oper) : List Nat → St → Option St
 | [], σ => some σ
 | i :: r, σ => match ops[i]? with
  | some o => thenO (evStep C P call f ops o σ) (evIx C P call f ops r)
  | none => none
section
variable {C : Cfg} {P : Program} {call : CallF} {f : FuncId} {ops : Array Oper}
theorem evIx_ops : ∀ (l : List Oper) (k : Nat) (σ : St), (∀ j, j < l.length → l[j]? = ops[k + j]?) → evIx C P call f ops (List.range' k l.length) σ = evOps C P call f ops l σ := by
 intro l
 induction l with
 | nil => intro k σ _; rfl
 | cons o l ih =>
  intro k σ h
  have h0 := h 0 (by simp)
  simp only [List.getElem?_cons_zero, Nat.add_zero] at h0
  rw [List.length_cons, List.range'_succ, evOps_cons]
  simp only [evIx]
  rw [← h0]
  simp only []
  have : evIx C P call f ops (List.range' (k + 1) l.length) = evOps C P call f ops l := by
   funext τ
   exact ih (k + 1) τ fun j hj => by
    have := h (j + 1) (by simp; omega)
    rw [List.getElem?_cons_succ] at this
    rw [this, show k + (j + 1) = k + 1 + j by omega]
  rw [this]
theorem evIx_range (σ : St) : evIx C P call f ops (List.range ops.size) σ = evOps C P call f ops ops.toList σ := by
 rw [List.range_eq_range', show ops.size = ops.toList.length by simp]
 exact evIx_ops ops.toList 0 σ fun j _ => by simp
theorem front {i : Nat} {y : Oper} (hi : ops[i]? = some y) {post : List Nat} : ∀ (pre : List Nat) (σ σ' : St), (∀ j ∈ pre, ∃ x, ops[j]? = some x ∧ apartOps C P f ops x y = true) → evIx C P call f ops (pre ++ i :: post) σ = some σ' →
  ∃ σ3, evStep C P call f ops y σ = some σ3 ∧ evIx C P call f ops (pre ++ post) σ3 = some σ' := by
 intro pre
 induction pre with
 | nil =>
  intro σ σ' _ h
  simp only [List.nil_append, evIx] at h
  rw [hi] at h
  exact thenO_some h
 | cons j pre ih =>
  intro σ σ' hp h
  obtain ⟨x, hj, ha⟩ := hp j (by simp)
  simp only [List.cons_append, evIx] at h
  rw [hj] at h
  obtain ⟨σ1, h1, h2⟩ := thenO_some h
  obtain ⟨σ2, h3, h4⟩ := ih σ1 σ' (fun k hk => hp k (by simp [hk])) h2
  obtain ⟨σ3, h5, h6⟩ := swap ha h1 h3
  refine ⟨σ3, h5, ?_⟩
  simp only [List.cons_append, evIx]
  rw [hj]
  simp only []
  rw [h6]
  exact h4
theorem rowOk_spec {y : Oper} {m : Nat} : ∀ (l : List Oper) (k : Nat), rowOk C P f ops y m l k = true → ∀ (d : Nat) (x : Oper), l[d]? = some x → Nat.testBit m (k + d) = true ∨ apartOps C P f ops x y = true := by
 intro l
 induction l with
 | nil => intro k _ d x h; simp at h
 | cons o l ih =>
  intro k h d x hd
  simp only [rowOk, Bool.and_eq_true, Bool.or_eq_true] at h
  cases d with
  | zero => simp at hd; subst hd; exact h.1
  | succ d =>
   rw [List.getElem?_cons_succ] at hd
   have := ih (k + 1) h.2 d x hd
   rwa [show k + 1 + d = k + (d + 1) by omega] at this
theorem rowsOk_spec : ∀ (l : List Oper) (ms : List Nat) (k : Nat), rowsOk C P f ops l ms k = true → ∀ (d : Nat) (y : Oper), l[d]? = some y →
  ∃ m, ms[d]? = some m ∧ (∀ (j : Nat) (x : Oper), j < k + d → ops[j]? = some x → Nat.testBit m j = true ∨ apartOps C P f ops x y = true) ∧ ∀ e ∈ y.after, Region.binds .any e = true → e.on < k + d := by
 intro l
 induction l with
 | nil => intro ms k _ d x h; simp at h
 | cons o l ih =>
  intro ms k h d y hd
  cases ms with
  | nil => cases h
  | cons m ms =>
   simp only [rowsOk, Bool.and_eq_true] at h
   obtain ⟨⟨h1, h2⟩, h3⟩ := h
   cases d with
   | zero =>
    simp at hd; subst hd
    refine ⟨m, rfl, fun j x hj hx => ?_, fun e he hb => ?_⟩
    ·have := rowOk_spec (ops.toList.take k) 0 h1 j x (by rw [List.getElem?_take]; simp at hj; simp [hj, hx])
     simpa using this
    ·have := Array.all_eq_true'.1 h2 e he
     simp only [hb, Bool.not_true, Bool.false_or] at this
     exact Nat.le_of_ble_eq_true this
   | succ d =>
    rw [List.getElem?_cons_succ] at hd
    obtain ⟨m', g1, g2, g3⟩ := ih ms (k + 1) h3 d y hd
    refine ⟨m', by simpa using g1, fun j x hj hx => g2 j x (by omega) hx, fun e he hb => ?_⟩
    have := g3 e he hb; omega
theorem fold_bits (acc : List Nat) : ∀ (l : List Edge) (s k : Nat), Nat.testBit (l.foldl (fun s e => bif Region.binds .any e then Nat.lor (Nat.lor s (Nat.pow 2 e.on)) ((acc[e.on]?).getD 0) else s) s) k = true →
  Nat.testBit s k = true ∨ ∃ e ∈ l, Region.binds .any e = true ∧ (k = e.on ∨ Nat.testBit ((acc[e.on]?).getD 0) k = true) := by
 intro l
 induction l with
 | nil => intro s k h; exact .inl h
 | cons e l ih =>
  intro s k h
  rw [List.foldl_cons] at h
  rcases ih _ k h with h1 | ⟨e', he, hb, h2⟩
  ·cases hb : Region.binds .any e with
   | false => rw [hb] at h1; exact .inl h1
   | true =>
    rw [hb] at h1
    simp only [cond_true] at h1
    have h1 : ((s ||| 2 ^ e.on) ||| ((acc[e.on]?).getD 0)).testBit k = true := h1
    rw [Nat.testBit_or, Nat.testBit_or, Nat.testBit_two_pow] at h1
    simp only [Bool.or_eq_true, decide_eq_true_eq] at h1
    rcases h1 with (h1 | h1) | h1
    ·exact .inl h1
    ·exact .inr ⟨e, by simp, hb, .inl h1.symm⟩
    ·exact .inr ⟨e, by simp, hb, .inr h1⟩
  ·exact .inr ⟨e', by simp [he], hb, h2⟩
theorem maskOf_bits {acc : List Nat} {o : Oper} {k : Nat} (h : Nat.testBit (maskOf acc o) k = true) : ∃ e ∈ o.after, Region.binds .any e = true ∧ (k = e.on ∨ ∃ m, acc[e.on]? = some m ∧ Nat.testBit m k = true) := by
 rcases fold_bits acc o.after.toList 0 k h with h | ⟨e, he, hb, h⟩
 ·simp at h
 ·refine ⟨e, by simpa using he, hb, ?_⟩
  rcases h with h | h
  ·exact .inl h
  ·cases hm : acc[e.on]? with
   | none => rw [hm] at h; simp at h
   | some m => rw [hm] at h; exact .inr ⟨m, rfl, h⟩
theorem masks_pre : ∀ (l : List Oper) (acc : List Nat), acc <+: masks l acc := by
 intro l
 induction l with
 | nil => intro acc; exact List.prefix_refl _
 | cons o l ih => intro acc; exact (List.prefix_append acc [maskOf acc o]).trans (ih (acc ++ [maskOf acc o]))
theorem masks_at : ∀ (l : List Oper) (acc : List Nat) (d : Nat) (o : Oper), l[d]? = some o → ∃ acc', acc' <+: masks l acc ∧ (masks l acc)[acc.length + d]? = some (maskOf acc' o) := by
 intro l
 induction l with
 | nil => intro acc d o h; simp at h
 | cons o l ih =>
  intro acc d x h
  cases d with
  | zero =>
   simp at h; subst h
   refine ⟨acc, masks_pre (o :: l) acc, ?_⟩
   obtain ⟨r, hr⟩ := masks_pre l (acc ++ [maskOf acc o])
   show (masks l (acc ++ [maskOf acc o]))[acc.length + 0]? = _
   rw [← hr]; simp
  | succ d =>
   rw [List.getElem?_cons_succ] at h
   obtain ⟨acc', h1, h2⟩ := ih (acc ++ [maskOf acc o]) d x h
   refine ⟨acc', h1, ?_⟩
   rw [List.length_append, List.length_singleton] at h2
   rwa [show acc.length + (d + 1) = acc.length + 1 + d by omega]
theorem prefix_get {l l' : List Nat} (h : l <+: l') {i m : Nat} (hi : l[i]? = some m) : l'[i]? = some m := by
 obtain ⟨r, rfl⟩ := h
 rw [List.getElem?_append_left (lt_of_get? hi)]; exact hi
theorem mask_bit {i : Nat} {o : Oper} {m k : Nat} (ho : ops[i]? = some o) (hm : (masks ops.toList [])[i]? = some m) (hb : Nat.testBit m k = true) :
  ∃ e ∈ o.after, Region.binds .any e = true ∧ (k = e.on ∨ ∃ m', (masks ops.toList [])[e.on]? = some m' ∧ Nat.testBit m' k = true) := by
 obtain ⟨acc', h1, h2⟩ := masks_at ops.toList [] i o (by simpa using ho)
 simp only [List.length_nil, Nat.zero_add] at h2
 rw [hm] at h2; cases h2
 obtain ⟨e, he, hbe, h⟩ := maskOf_bits hb
 refine ⟨e, he, hbe, ?_⟩
 rcases h with h | ⟨m', h3, h4⟩
 ·exact .inl h
 ·exact .inr ⟨m', prefix_get h1 h3, h4⟩
end
end
end Go.Ef
namespace Go.Ef
open Go
noncomputable section
theorem ready_mem {md : Region.Mode} {ops : Array Oper} {listed : Array Bool} {i : Nat} (h : i ∈ Region.ready md ops listed) :
  i < ops.size ∧ listed.getD i true = false ∧ ∃ o, ops[i]? = some o ∧ ∀ e ∈ o.after, Region.binds md e = true → listed.getD e.on false = true := by
 unfold Region.ready at h
 simp only [List.mem_filter, List.mem_range, Bool.and_eq_true, Bool.not_eq_true'] at h
 obtain ⟨h1, h2, h3⟩ := h
 refine ⟨h1, h2, ops[i], by simp [h1], fun e he hb => ?_⟩
 rw [Array.getElem?_eq_getElem h1] at h3
 simp only [Option.map_some, Option.getD_some] at h3
 have := Array.all_eq_true'.1 h3 e he
 simpa [hb] using this
theorem mem_ready {md : Region.Mode} {ops : Array Oper} {listed : Array Bool} {i : Nat} {o : Oper} (h2 : listed.getD i true = false) (ho : ops[i]? = some o) (h : ∀ e ∈ o.after, Region.binds md e = true → listed.getD e.on false = true) : i ∈ Region.ready md ops listed := by
 have h1 : i < ops.size := by
  rcases Nat.lt_or_ge i ops.size with h' | h'
  ·exact h'
  ·simp [Array.getElem?_eq_none h'] at ho
 unfold Region.ready
 simp only [List.mem_filter, List.mem_range, Bool.and_eq_true, Bool.not_eq_true']
 refine ⟨h1, h2, ?_⟩
 rw [ho]
 simp only [Option.map_some, Option.getD_some]
 rw [Array.all_eq_true']
 intro e he
 cases hb : Region.binds md e with
 | false => rfl
 | true => simpa using h e he hb
theorem setListed {l : Array Bool} {i j : Nat} {d : Bool} : (l.setIfInBounds i true).getD j d = if i = j ∧ j < l.size then true else l.getD j d := by
 rw [Array.getD_eq_getD_getElem?, Array.getD_eq_getD_getElem?, Array.getElem?_setIfInBounds]
 by_cases h : i = j
 ·subst h
  by_cases h' : i < l.size <;> simp [h']
 ·simp [h]
section
variable {C : Cfg} {P : Program} {E : Ent} {call : CallF} {f : FuncId} {ops : Array Oper}
structure Inv (ops : Array Oper) (rest : List Nat) (listed : Array Bool) : Prop where
 sz : listed.size = ops.size
 sort : rest.Pairwise (· < ·)
 mem : ∀ j, j ∈ rest ↔ j < ops.size ∧ listed.getD j true = false
 down : ∀ (j m : Nat), listed.getD j false = true → (masks ops.toList [])[j]? = some m → ∀ k, Nat.testBit m k = true → listed.getD k false = true
theorem getD_flip {l : Array Bool} {j : Nat} (h : j < l.size) : l.getD j true = l.getD j false := by
 simp [Array.getD_eq_getD_getElem?, h]
theorem any_ok (S : Sane P C) (K : CallOk P C call) (B : Bodied P call) (hr : regOk C P f ops = true) {σ' : St} {Q : Exit → Act → World → Prop} (hq : ∀ L' μ' a' w', Rel C E L' μ' σ' a' w' → Q .normal a' w') :
  ∀ (fuel : Nat) (rest : List Nat) (listed : Array Bool) (L : List Nat) (μ : M) (σ : St) (a : Act) (w : World), rest.length = fuel → Inv ops rest listed → Rel C E L μ σ a w → evIx C P call f ops rest σ = some σ' → wpAny P .any ops Q fuel listed a w := by
 intro fuel
 induction fuel with
 | zero =>
  intro rest listed L μ σ a w hl I R h
  have : rest = [] := List.eq_nil_of_length_eq_zero hl
  subst this
  simp only [evIx] at h; cases h
  refine ⟨?_, hq L μ a w R⟩
  apply List.eq_nil_iff_forall_not_mem.2
  intro i hi
  obtain ⟨h1, h2, _⟩ := ready_mem hi
  have := (I.mem i).2 ⟨h1, h2⟩
  simp at this
 | succ fuel ih =>
  intro rest listed L μ σ a w hl I R h
  refine ⟨fun hnil => ?_, fun i hi => ?_⟩
  ·cases rest with
   | nil => simp at hl
   | cons i rest =>
    exfalso
    obtain ⟨h1, h2⟩ := (I.mem i).1 (by simp)
    have ho : ops[i]? = some ops[i] := by simp [h1]
    obtain ⟨m, _, _, hb⟩ := rowsOk_spec _ _ 0 hr i ops[i] (by simp)
    have : i ∈ Region.ready .any ops listed := by
     refine mem_ready h2 ho fun e he hbe => ?_
     have hlt := hb e he hbe
     simp only [Nat.zero_add] at hlt
     cases hx : listed.getD e.on false with
     | true => rfl
     | false =>
      exfalso
      have hsz : e.on < listed.size := by rw [I.sz]; omega
      have hm := (I.mem e.on).2 ⟨by omega, by rw [getD_flip hsz]; exact hx⟩
      rcases List.mem_cons.1 hm with e1 | e1
      ·omega
      ·have := List.rel_of_pairwise_cons I.sort e1
       omega
    rw [hnil] at this
    simp at this
  ·obtain ⟨h1, h2, o, ho, hedge⟩ := ready_mem hi
   have hin := (I.mem i).2 ⟨h1, h2⟩
   obtain ⟨pre, post, rfl⟩ := List.append_of_mem hin
   obtain ⟨m, hm, hap, _⟩ := rowsOk_spec _ _ 0 hr i o (by simpa using ho)
   have hbits : ∀ k, Nat.testBit m k = true → listed.getD k false = true := by
    intro k hk
    obtain ⟨e, he, hbe, hor⟩ := mask_bit ho hm hk
    have hle := hedge e he hbe
    rcases hor with rfl | ⟨m', hm', hk'⟩
    ·exact hle
    ·exact I.down e.on m' hle hm' k hk'
   have hsorted := I.sort
   rw [List.pairwise_append] at hsorted
   obtain ⟨hs1, hs2, hs3⟩ := hsorted
   obtain ⟨σ3, h3, h4⟩ := front ho pre σ σ' (fun j hj => by
    have hji : j < i := hs3 j hj i (by simp)
    have hjo : ops[j]? = some ops[j] := by simp [Nat.lt_trans hji h1]
    refine ⟨_, hjo, ?_⟩
    rcases hap j ops[j] (by omega) hjo with hb | hb
    ·have hl := hbits j hb
     have := ((I.mem j).1 (by simp [hj])).2
     rw [getD_flip (by rw [I.sz]; omega), hl] at this
     cases this
    ·exact hb) h
   refine step_ok R S K B ho h3 fun L' μ' a' w' R' => ?_
   refine ih (pre ++ post) _ L' μ' σ3 a' w' (by simp at hl ⊢; omega) ⟨?_, ?_, ?_, ?_⟩ R' h4
   ·simp [I.sz]
   ·rw [List.pairwise_append]
    exact ⟨hs1, (List.pairwise_cons.1 hs2).2, fun x hx y hy => hs3 x hx y (by simp [hy])⟩
   ·intro j
    rw [setListed]
    have hmem := I.mem j
    by_cases e : i = j
    ·subst e
     simp only [I.sz, h1, and_self, if_true]
     refine ⟨fun hj => ?_, fun hj => by simp at hj⟩
     exfalso
     rcases List.mem_append.1 hj with hj | hj
     ·exact absurd (hs3 i hj i (by simp)) (by omega)
     ·exact absurd ((List.pairwise_cons.1 hs2).1 i hj) (by omega)
    ·rw [if_neg (fun q => e q.1), ← hmem]
     simp only [List.mem_append, List.mem_cons]
     exact ⟨fun q => q.elim .inl (fun q => .inr (.inr q)), fun q => q.elim .inl (fun q => q.elim (fun q => absurd q.symm e) .inr)⟩
   ·intro j m' hj hm' k hk
    rw [setListed] at hj ⊢
    split
    ·rfl
    ·split at hj
     ·rename_i e
      obtain ⟨rfl, _⟩ := e
      rw [hm] at hm'; cases hm'
      exact hbits k hk
     ·exact I.down j m' hj hm' k hk
theorem Rel.drawn {L : List Nat} {μ : M} {σ : St} {a : Act} {w : World} (R : Rel C E L μ σ a w) (n : Nat) : Rel C E L μ σ a { w with drawn := n } where
 world := {
  imm := R.world.imm
  cells := fun id cs h => let ⟨b, base, sz, h1, h2, h3⟩ := R.world.cells id cs h; ⟨b, base, sz, h1, h2.keep (.refl _) rfl, h3⟩
  own := fun id k t n h => let ⟨b, e, r, h1, h2⟩ := R.world.own id k t n h; ⟨b, e, r, h1, ⟨h2.shape, h2.free, h2.imm⟩⟩
  map := fun id es h => let ⟨b, h1, h2, h3⟩ := R.world.map id es h; ⟨b, h1, ⟨h2.map⟩, h3⟩
  apart := R.world.apart
  next := R.world.next
  ro := R.world.ro
  pos := R.world.pos
  zero := R.world.zero
  fresh := R.world.fresh
  glob := R.world.glob
  ty := R.world.ty }
 ext := ⟨R.ext.le, R.ext.os, R.ext.tape, R.ext.output, R.ext.size, R.ext.ro, R.ext.next, R.ext.frame, R.ext.came, R.ext.imm⟩
 n := R.n
 tm := R.tm
 defers := R.defers
 len := R.len
 loc := fun k b o h1 h2 => let ⟨h3, h4⟩ := R.loc k b o h1 h2; ⟨h3.keep (.refl _) rfl, h4⟩
 nodup := R.nodup
theorem draw_ok {L : List Nat} {μ : M} {σ : St} {a : Act} {w : World} (R : Rel C E L μ σ a w) {id : Nat} (S : Sane P C) (K : CallOk P C call) (B : Bodied P call) (hm : P.follows .mixedOrders = true) (hr : regOk C P f ops = true) {σ' : St} (h : evOps C P call f ops ops.toList σ = some σ')
  {Q : Exit → Act → World → Prop} (hq : ∀ L' μ' a' w', Rel C E L' μ' σ' a' w' → Q .normal a' w') : (Code.region id ops true).wp P Q a w := by
 refine wp_region_any hm (any_ok S K B hr hq ops.size (List.range ops.size) _ L μ σ a _ (by simp) ⟨by simp, List.pairwise_lt_range, fun j => ?_, fun j m hj => ?_⟩ (R.drawn _) ((evIx_range σ).trans h))
 ·rw [List.mem_range]
  constructor
  ·intro h'; exact ⟨h', by simp [Array.getD_eq_getD_getElem?, h']⟩
  ·exact fun h' => h'.1
 ·exfalso
  rw [Array.getD_eq_getD_getElem?, Array.getElem?_replicate] at hj
  split at hj <;> simp at hj
end
end
end Go.Ef
namespace Go.Ef
open Go
noncomputable section
structure Fit (P : Program) (C : Cfg) : Prop where
 sane : Sane P C
 mixed : P.follows .mixedOrders = true
 regs : ∀ (f : FuncId) (fn : Func) (c : Code), P.funcs[f]? = some fn → fn.body = some c → codeOk C P f c = true
def exOf : Ex → Exit
 | .normal => .normal
 | .exit i => .exit i
 | .ret => .ret
def RunOk (P : Program) (C : Cfg) (n : Nat) (run : Run) : Prop :=
 ∀ f c σ e σ', run f c σ = some (e, σ') → codeOk C P f c = true → ∀ E L μ a w Q, Rel C E L μ σ a w → (∀ L' μ' a' w', Rel C E L' μ' σ' a' w' → Q (exOf e) a' w') →
  c.wp P Q a w ∧ ∀ b, c = .loop b → Code.rounds P b Q n a w
theorem argTr_get : ∀ (l : List AV) (i : Nat) (t : Tr Slot) (k : Nat), (argTr i l t).get k = if i ≤ k ∧ k < i + l.length then (l[k - i]?).map .v else t.get k := by
 intro l
 induction l with
 | nil => intro i t k; simp only [argTr, List.length_nil]; rw [if_neg (by omega)]
 | cons x l ih =>
  intro i t k
  simp only [argTr, List.length_cons]
  rw [ih, Tr.get_set]
  by_cases h : k = i
  ·subst h
   rw [if_neg (by omega), if_pos rfl, if_pos (by omega)]; simp
  ·by_cases h2 : i + 1 ≤ k ∧ k < i + 1 + l.length
   ·rw [if_pos h2, if_pos (by omega), show k - i = (k - (i + 1)) + 1 by omega]; simp
   ·rw [if_neg h2, if_neg (fun e => h e.symm), if_neg (by omega)]
section
variable {P : Program} {C : Cfg}
theorem keepTm_get (σ : St) (m : Nat) : ∀ (l : List Nat) (t : Nat), (keepTm σ m l).get t = if t ∈ l then some ((σ.at t).keep m) else none := by
 intro l
 induction l with
 | nil => intro t; simp [keepTm, Tr.get_leaf]
 | cons x l ih =>
  intro t
  show ((keepTm σ m l).set x ((σ.at x).keep m)).get t = _
  rw [Tr.get_set]
  by_cases h : x = t
  ·subst h; simp
  ·rw [if_neg h, ih]
   have : t ≠ x := fun e => h e.symm
   simp [this]
theorem tidy_rel {E : Ent} {L : List Nat} {μ : M} {σ : St} {a : Act} {w : World} (R : Rel C E L μ σ a w) (l : List Nat) (m : Nat) : Rel C E (L.take m) μ (σ.tidy l m) a w where
 world := R.world
 ext := R.ext
 n := R.n
 tm := by
  intro t ht
  have h0 := R.tm t ht
  have hat : (σ.tm.get t).getD σ.d = σ.at t := by unfold St.at; cases σ.tm.get t <;> rfl
  rw [hat] at h0
  show SlotRel (L.take m) μ (((keepTm σ m l).get t).getD .unk) _
  rw [keepTm_get]
  by_cases h : t ∈ l
  ·rw [if_pos h, Option.getD_some]
   cases hs : σ.at t with
   | unk => trivial
   | v a => rw [hs] at h0; exact h0
   | lp k off =>
    rw [hs] at h0
    obtain ⟨b, h1, h2⟩ := h0
    simp only [Slot.keep]
    cases hb : Nat.blt k m with
    | false => trivial
    | true =>
     have hk : k < m := Nat.le_of_ble_eq_true hb
     exact ⟨b, by rw [List.getElem?_take, if_pos hk]; exact h1, h2⟩
  ·rw [if_neg h]; trivial
 defers := R.defers
 len := by
  show (L.take m).length = (σ.loc.take m).length
  simp [R.len]
 loc := by
  intro k b o hk ho
  rw [List.getElem?_take] at hk
  replace ho : (σ.loc.take m)[k]? = some o := ho
  rw [List.getElem?_take] at ho
  split at hk
  ·rename_i hlt
   rw [if_pos hlt] at ho
   exact R.loc k b o hk ho
  ·cases hk
 nodup := by
  intro i j b hi hj
  rw [List.getElem?_take] at hi hj
  split at hi
  ·split at hj
   ·exact R.nodup i j b hi hj
   ·cases hj
  ·cases hi
theorem enter_rel {μ : M} {h : Heap} {w : World} (H : W C μ h w) {args : List AV} {vs : Array Value} (hv : VLs μ args vs) (m : Nat) :
  Rel C ⟨μ, h, w⟩ [] μ { n := args.length + (m - args.length), tm := argTr 0 args .leaf, d := .v (.sc undef), loc := [], h := h } { tmps := vs ++ Array.replicate (m - vs.size) undef, defers := [] } w where
 world := H
 ext := .refl _ _ _
 n := by simp [hv.1]
 tm := by
  intro t ht
  simp only [] at ht ⊢
  rw [argTr_get]
  by_cases h0 : t < args.length
  ·rw [if_pos (by omega)]
   have hvs : t < vs.size := by rw [← hv.1]; exact h0
   have := hv.2 t args[t] vs[t] (by simp [h0]) (by simp [hvs])
   rw [Nat.sub_zero, List.getElem?_eq_getElem h0]
   rw [Array.getD_eq_getD_getElem?, Array.getElem?_append_left hvs, Array.getElem?_eq_getElem hvs]
   exact this
  ·rw [if_neg (by omega)]
   have hvs : vs.size ≤ t := by rw [← hv.1]; omega
   rw [Array.getD_eq_getD_getElem?, Array.getElem?_append_right hvs, Array.getElem?_replicate]
   rw [if_pos (by rw [← hv.1]; omega)]
   exact .sc rfl
 defers := rfl
 len := rfl
 loc := fun k b o hk => by simp at hk
 nodup := fun i j b hk => by simp at hk
theorem callWith_ok {run : Run} {n : Nat} (F : Fit P C) (H : RunOk P C n run) : CallOk P C (callWith C P run) ∧ Bodied P (callWith C P run) := by
 constructor
 ·intro g args h r h' hc μ w vs W0 hv
  unfold callWith at hc
  split at hc
  ·rename_i fn hf
   split at hc
   ·rename_i c hb
    unfold endOf at hc
    split at hc
    ·rename_i e σ' hrun
     refine calls_of_wp hf hb (H g c _ e σ' hrun (F.regs g fn c hf hb) ⟨μ, h, w⟩ [] μ _ w _ (enter_rel W0 hv fn.ntmps) fun L' μ' a' w' R' => ?_).1
     have fin : packR σ' (evResults C P σ' fn.results.toList) = some (r, h') → a'.defers = [] ∧ ∃ v, (results fn a'.tmps).run P w' = .ok v w' ∧ CallEnd C μ h w r h' (.returned v) w' := by
      intro hp
      obtain ⟨v, h1, h2, rfl⟩ := pack_ok (P := P) R' hp
      exact ⟨R'.defers, v, h1, v, μ', rfl, h2, R'.world, R'.ext⟩
     split at hc
     ·cases hc
     ·cases e with
      | normal => exact fin hc
      | ret => exact fin hc
      | exit i => rename_i hne; exact absurd rfl (hne i)
    ·cases hc
   ·cases hc
  ·cases hc
 ·intro g args h r hc
  unfold callWith at hc
  split at hc
  ·rename_i fn hf
   split at hc
   ·rename_i c hb
    exact ⟨fn, hf, by rw [hb]; rfl⟩
   ·cases hc
  ·cases hc
theorem code1_ok {run : Run} {n : Nat} (F : Fit P C) (H : RunOk P C n run) : RunOk P C (n + 1) (evCode1 C P run) := by
 intro f c σ e σ' h hok E L μ a w Q R hq
 by_cases hl : ∃ b, c = .loop b
 ·obtain ⟨b, rfl⟩ := hl
  have hok' := hok
  simp only [codeOk] at hok'
  have key : Code.rounds P b Q (n + 1) a w := by
   simp only [evCode1] at h
   cases ht : C.tidy f (firstId 8 b) with
   | some t =>
    rw [ht] at h
    simp only [] at h
    unfold evLoop at h
    split at h
    ·rename_i e1 σ1 he
     refine (H f b _ e1 σ1 he hok' E _ μ a w _ (tidy_rel R _ _) fun L' μ' a' w' R' => ?_).1
     cases e1 with
     | normal => exact (H f (.loop b) σ1 e σ' h hok E L' μ' a' w' Q R' hq).2 b rfl
     | exit i => cases h; exact hq _ _ _ _ (tidy_rel R' _ _)
     | ret => cases h; exact hq _ _ _ _ (tidy_rel R' _ _)
    ·cases h
   | none =>
   rw [ht] at h
   simp only [] at h
   unfold evSeq at h
   split at h
   ·rename_i e1 σ1 he
    refine (H f b σ e1 σ1 he hok' E L μ a w _ R fun L' μ' a' w' R' => ?_).1
    split at h
    ·exact (H f (.loop b) σ1 e σ' h hok E L' μ' a' w' Q R' hq).2 b rfl
    ·rw [he] at h; cases h
     cases e with
     | normal => rename_i hne; exact absurd rfl hne
     | exit i => exact hq _ _ _ _ R'
     | ret => exact hq _ _ _ _ R'
   ·cases h
  exact ⟨wp_loop_rounds (n + 1) key, fun b' hb => by cases hb; exact key⟩
 refine ⟨?_, fun b hb => absurd ⟨b, hb⟩ hl⟩
 unfold evCode1 at h
 split at h
 ·cases h; exact wp_skip (hq L μ a w R)
 ·rename_i id ops draw
  obtain ⟨K, B⟩ := callWith_ok F H
  unfold evReg at h
  cases hd : draw && C.bad f id with
  | true => rw [hd] at h; cases h
  | false =>
   rw [hd] at h
   simp only [cond_false] at h
   split at h
   ·rename_i σ1 he
    cases h
    cases draw with
    | false => exact region_ok R F.sane K B he hq
    | true =>
     simp only [Bool.true_and] at hd
     simp only [codeOk, hd, Bool.not_true, Bool.false_or] at hok
     exact draw_ok R F.sane K B F.mixed hok he hq
   ·cases h
 ·rename_i x y
  simp only [codeOk, Bool.and_eq_true] at hok
  unfold evSeq at h
  split at h
  ·rename_i e1 σ1 he
   refine wp_seq (H f x σ e1 σ1 he hok.1 E L μ a w _ R fun L' μ' a' w' R' => ?_).1
   split at h
   ·exact (H f y σ1 e σ' h hok.2 E L' μ' a' w' Q R' hq).1
   ·rw [he] at h; cases h
    cases e with
    | normal => rename_i hne; exact absurd rfl hne
    | exit i => exact hq _ _ _ _ R'
    | ret => exact hq _ _ _ _ R'
  ·cases h
 ·rename_i x y z
  simp only [codeOk, Bool.and_eq_true] at hok
  unfold evCond at h
  split at h
  ·rename_i t ht
   have hv := V.sc_eq (val_rel R ht)
   refine wp_cond (t := t) hv ?_
   cases t with
   | true => exact (H f y σ e σ' h hok.1 E L μ a w Q R hq).1
   | false => exact (H f z σ e σ' h hok.2 E L μ a w Q R hq).1
  ·cases h
 ·rename_i id b
  simp only [codeOk] at hok
  unfold evBlk at h
  split at h
  ·rename_i e1 σ1 he
   refine wp_block (H f b σ e1 σ1 he hok E L μ a w _ R fun L' μ' a' w' R' => ?_).1
   split at h
   ·rename_i i
    cases hb : Nat.beq i id with
    | true =>
     rw [hb] at h; cases h
     have : i = id := Nat.eq_of_beq_eq_true hb
     simp only [exOf, Exit.inBlock, this, if_true]
     exact hq _ _ _ _ R'
    | false =>
     rw [hb] at h; rw [cond_false, he] at h; cases h
     have : i ≠ id := Nat.ne_of_beq_eq_false hb
     simp only [exOf, Exit.inBlock, this, if_false]
     exact hq _ _ _ _ R'
   ·rw [he] at h; cases h
    cases e with
    | normal => exact hq _ _ _ _ R'
    | exit i => rename_i hne; exact absurd rfl (hne i)
    | ret => exact hq _ _ _ _ R'
  ·cases h
 ·rename_i b; exact absurd ⟨b, rfl⟩ hl
 ·cases h; exact wp_exit (hq L μ a w R)
 ·cases h; exact wp_ret (hq L μ a w R)
 ·rename_i b
  simp only [codeOk] at hok
  refine wp_scope_straight (H f b σ e σ' h hok E L μ a w _ R fun L' μ' a' w' R' => ?_).1
  cases e <;> exact hq _ _ _ _ R'
 ·cases h; exact wp_label (hq L μ a w R)
 ·cases h
theorem code_ok (F : Fit P C) : ∀ n, RunOk P C n (evCode C P n) := by
 intro n
 induction n with
 | zero => intro f c σ e σ' h; cases h
 | succ n ih => exact code1_ok F ih
theorem call_ok (F : Fit P C) (n : Nat) {g : FuncId} {args : List AV} {h : Heap} {r : AV} {h' : Heap} (hc : evCall C P n g args h = some (r, h')) {μ : M} {w : World} {vs : Array Value} (H : W C μ h w) (hv : VLs μ args vs) : Calls P g vs w (CallEnd C μ h w r h') :=
 (callWith_ok F (code_ok F n)).1 g args h r h' hc μ w vs H hv
end
end
end Go.Ef
namespace Go.Ef
open Go Go.RowKit
noncomputable section
def imm0 (w : World) : M := { imm := fun b o => w.cell? ⟨b, o, none⟩, rho := fun _ => none, own := fun _ => none }
def GlobOk (C : Cfg) (w : World) : Prop := ∀ g cs, C.glob g = some cs → ∀ (i : Nat) (x : AV), cs[i]? = some x → ∃ c, w.cell? ⟨g, i, none⟩ = some c ∧ V (imm0 w) x c
theorem heap0_get (id : Nat) : heap0.get id = none := by show (bif Nat.blt id 1 then (Tr.leaf : Tr AObj).get id else none) = none; cases Nat.blt id 1 <;> rfl
theorem start {C : Cfg} {w : World} (hg : GlobOk C w) : W C (imm0 w) heap0 w where
 imm := fun _ _ _ h => h
 cells := fun id cs h => by rw [heap0_get] at h; cases h
 own := fun id k _ _ h => by rw [heap0_get] at h; cases h
 map := fun id es h => by rw [heap0_get] at h; cases h
 apart := fun i j b h => by simp [M.blk, heap0_get] at h
 next := fun id h => absurd (heap0_get id) h
 ro := Nat.zero_le _
 pos := Nat.zero_lt_one
 zero := rfl
 fresh := fun _ _ => ⟨rfl, rfl⟩
 glob := fun g cs h i x hx => hg g cs h i x hx
 ty := fun id t h => by simp [heap0, Tr.get_leaf] at h
theorem ext_below {w w' : World} {μ' : M} {h' : Heap} (X : Ext (imm0 w) heap0 w μ' h' w') : Below w.heap.size w w' :=
 ⟨X.os, X.tape, X.output, X.size, fun k hk => X.frame k hk fun id _ h => by simp [M.blk, heap0_get] at h⟩
theorem law_of_ev {P : Program} {C : Cfg} (F : Fit P C) (n : Nat) {g : FuncId} {args : List AV} {vs : Array Value} {w : World} {h' : Heap} {b : Bool} (hg : GlobOk C w) (hv : VLs (imm0 w) args vs)
  (hc : evCall C P n g args heap0 = some (.sc (.bool b), h')) : Calls P g vs w fun e w' => e = .returned (.bool b) ∧ Below w.heap.size w w' :=
 (call_ok F n hc (start hg) hv).mono fun e w' ⟨v, μ', he, h1, _, X⟩ => by
  cases h1 with
  | sc _ => exact ⟨he, ext_below X⟩
end
end Go.Ef
namespace Go.Ef
open Go Go.RowKit
noncomputable section
theorem cell_lt {w : World} {b o : Nat} {v : Value} (h : w.cell? ⟨b, o, none⟩ = some v) : b < w.heap.size := by
 rcases Nat.lt_or_ge b w.heap.size with h' | h'
 ·exact h'
 ·simp [World.cell?, Array.getElem?_eq_none h'] at h
theorem W.below {C : Cfg} {μ : M} {h : Heap} {w w' : World} (H : W C μ h w) (hb : Below w.heap.size w w') : W C μ h w' where
 imm := fun b o v hv => (cell_of_heap (hb.block b (cell_lt (H.imm b o v hv))) _).trans (H.imm b o v hv)
 cells := fun _ _ hg => H.old_cells (.refl _) hg (fun b hq => hb.block b (H.blk_lt hq)) (fun _ _ _ hp => hp)
 own := fun _ _ _ _ hg => H.old_own hg rfl (fun b hq => hb.block b (H.blk_lt hq)) (fun _ _ _ hp => hp)
 map := fun _ _ hg => H.old_map (.refl _) hg (fun b hq => hb.block b (H.blk_lt hq)) (fun _ _ _ hp => hp)
 apart := H.apart
 next := H.next
 ro := H.ro
 pos := H.pos
 zero := H.zero
 fresh := H.fresh
 glob := H.glob
 ty := H.keepTy rfl (Nat.le_refl _) (.refl _) fun b x hx => by rw [shape_of_heap (hb.block b (shape_lt hx))]; exact hx
theorem callEnd_below {C : Cfg} {μ : M} {h : Heap} {w w' : World} {r : AV} {v : Value} (H : W C μ h w) (hb : Below w.heap.size w w') (hv : V μ r v) : CallEnd C μ h w r h (.returned v) w' :=
 ⟨v, μ, rfl, hv, H.below hb,
  { le := .refl _, os := hb.os, tape := hb.tape, output := hb.output, size := hb.size, ro := rfl, next := Nat.le_refl _, frame := fun b hq _ => hb.block b hq, came := fun id _ hq _ => ⟨id, hq, .inl rfl⟩, imm := fun _ _ _ h0 h1 => absurd h0 h1 }⟩
end
end Go.Ef
namespace Go.Ef
open Go
noncomputable section
def copyP (T : Nat) (args : List AV) (h : Heap) : Option (AV × Heap) :=
 match args with
 | [.ptr id 0] => match h.ty.get id with
  | some (t, n) => bif Nat.beq t T && Nat.beq n 2 then
    (match h.get id with
     | some (.cells [.sc (.pointer none), x]) => match h.put id (.cells [.ptr id 0, x]) with
      | some h' => some (.sc (.tuple #[]), h')
      | none => none
     | some (.cells [.ptr id' 0, _]) => bif Nat.beq id' id then some (.sc (.tuple #[]), h) else none
     | _ => none)
   else none
  | none => none
 | _ => none
theorem args_one {μ : M} {x : AV} {vs : Array Value} (h : VLs μ [x] vs) : ∃ v, vs = #[v] ∧ V μ x v := by
 obtain ⟨h1, h2⟩ := h
 match vs, h1 with
 | ⟨[v]⟩, _ => exact ⟨v, rfl, h2 0 x v rfl rfl⟩
theorem args_two {μ : M} {x y : AV} {vs : Array Value} (h : VLs μ [x, y] vs) : ∃ u v, vs = #[u, v] ∧ V μ x u ∧ V μ y v := by
 obtain ⟨h1, h2⟩ := h
 match vs, h1 with
 | ⟨[u, v]⟩, _ => exact ⟨u, v, rfl, h2 0 x u rfl rfl, h2 1 y v rfl rfl⟩
theorem known_copy {P : Program} {C : Cfg} {g : FuncId} {T : TypeId} (hb : ∃ fn : Func, P.funcs[g]? = some fn ∧ fn.body.isSome = true)
  (fresh : ∀ (b : Nat) (w : World), w.cell? ⟨b, 0, none⟩ = some (.pointer none) → w.shape? b = some (T, 2) → w.frozen? ⟨b, 0, none⟩ = false →
   Calls P g #[.pointer (some ⟨b, 0, none⟩)] w fun e w' => e = .returned (.tuple #[]) ∧ w' = w.setCell ⟨b, 0, none⟩ (.pointer (some ⟨b, 0, none⟩)))
  (own : ∀ (b : Nat) (w : World), w.cell? ⟨b, 0, none⟩ = some (.pointer (some ⟨b, 0, none⟩)) → w.shape? b = some (T, 2) →
   Calls P g #[.pointer (some ⟨b, 0, none⟩)] w fun e w' => e = .returned (.tuple #[]) ∧ w' = w) : Known P C g (copyP T) := by
 refine .inl ⟨hb, fun args h r h' hp μ w vs H hv0 => ?_⟩
 unfold copyP at hp
 split at hp
 ·rename_i id
  obtain ⟨v, rfl, hv⟩ := args_one hv0
  split at hp
  ·rename_i t n hty
   obtain ⟨hq, hp2⟩ := cond_some hp
   clear hp
   simp only [Bool.and_eq_true] at hq
   obtain ⟨q1, q2⟩ := hq
   have q1 := beq_true q1
   have q2 := beq_true q2
   subst q1; subst q2
   obtain ⟨hid, b, sz, hr, hsh⟩ := H.ty id _ hty
   cases hv with
   | ptr hr' =>
    rw [hr] at hr'; cases hr'
    simp only [Nat.add_zero]
    split at hp2
    ·rename_i x hg
     split at hp2
     ·rename_i h1 hput
      cases hp2
      obtain ⟨b', base', sz', hr', ok, hno⟩ := H.cells id _ hg
      rw [hr] at hr'; cases hr'
      obtain ⟨y, hy, hvy⟩ := ok.cell 0 _ rfl
      have hy0 : y = .pointer none := by cases hvy with | sc _ => rfl
      subst hy0
      refine (fresh b w hy hsh (ok.free 0 (by have := ok.fit; simp at this; omega))).mono fun e w' ⟨he, hw⟩ => ?_
      subst he
      have hw : w' = w.setCells b 0 [.pointer (some ⟨b, 0, none⟩)] := hw
      subst hw
      have okw := cells_write (off := 0) (new := [.ptr id 0]) (r := [.ptr id 0, x]) (vs := [.pointer (some ⟨b, 0, none⟩)]) ok rfl rfl (fun i u q hu hq => by
       match i with
       | 0 => simp at hu hq; subst hu; subst hq; exact V.ptr (base := 0) hr
       | i + 1 => simp at hu)
      obtain ⟨H1, X1⟩ := H.write hg hput hr [.pointer (some ⟨b, 0, none⟩)] okw
      exact ⟨_, μ, rfl, .sc rfl, H1, X1⟩
     ·cases hp2
    ·rename_i id' x hg
     obtain ⟨q3, hp3⟩ := cond_some hp2
     have q3 := beq_true q3
     subst q3
     cases hp3
     obtain ⟨b', base', sz', hr', ok, hno⟩ := H.cells id' _ hg
     rw [hr] at hr'; cases hr'
     obtain ⟨y, hy, hvy⟩ := ok.cell 0 _ rfl
     cases hvy with
     | ptr hr2 =>
      rw [hr] at hr2; cases hr2
      refine (own b w hy hsh).mono fun e w' ⟨he, hw⟩ => ?_
      subst he; subst hw
      exact ⟨_, μ, rfl, .sc rfl, H, .refl _ _ _⟩
    ·cases hp2
  ·cases hp
 ·cases hp
end
end Go.Ef
namespace Go.Ef
open Go Go.RowKit
noncomputable section
theorem freeze_at (w : World) (a : Addr) (n r : Nat) : (w.freeze a n).heap[r]? = w.heap[r]? ∨
  ∃ c e f f', w.heap[r]? = some (.cells c e f) ∧ (w.freeze a n).heap[r]? = some (.cells c e f') := by
 unfold World.freeze
 split
 ·exact .inl rfl
 ·simp only [Array.getElem?_modify]
  by_cases h : a.block = r
  ·simp only [h, if_true]
   cases hr : w.heap[r]? with
   | none => exact .inl rfl
   | some o =>
    cases o with
    | cells c e f => exact .inr ⟨c, e, f, _, rfl, rfl⟩
    | _ => exact .inl rfl
  ·simp only [h, if_false]; exact .inl trivial
theorem freeze_heap (w : World) (a : Addr) (n r : Nat) (h : r ≠ a.block) : (w.freeze a n).heap[r]? = w.heap[r]? := by
 unfold World.freeze
 split
 ·rfl
 ·simp only [Array.getElem?_modify]
  rw [if_neg (fun e => h e.symm)]
theorem freeze_cell (w : World) (a : Addr) (n : Nat) (x : Addr) : (w.freeze a n).cell? x = w.cell? x := by
 unfold World.cell?
 rcases freeze_at w a n x.block with h | ⟨c, e, f, f', h1, h2⟩
 ·rw [h]
 ·rw [h1, h2]
theorem freeze_shape (w : World) (a : Addr) (n r : Nat) : (w.freeze a n).shape? r = w.shape? r := by
 unfold World.shape?
 rcases freeze_at w a n r with h | ⟨c, e, f, f', h1, h2⟩
 ·rw [h]
 ·rw [h1, h2]
theorem freeze_rest (w : World) (a : Addr) (n : Nat) : (w.freeze a n).heap.size = w.heap.size ∧ (w.freeze a n).os = w.os ∧ (w.freeze a n).tape = w.tape ∧ (w.freeze a n).output = w.output := by
 unfold World.freeze
 split
 ·exact ⟨rfl, rfl, rfl, rfl⟩
 ·exact ⟨by simp, rfl, rfl, rfl⟩
theorem W.other {C : Cfg} {μ : M} {h : Heap} {w w' : World} (H : W C μ h w) {g : Nat} (hn : ∀ id, μ.blk h id ≠ some g) (hr : ∀ r, r ≠ g → w'.heap[r]? = w.heap[r]?)
  (hc : ∀ x, w'.cell? x = w.cell? x) (hs : ∀ r, w'.shape? r = w.shape? r) : W C μ h w' where
 imm := fun b o v hv => (hc _).trans (H.imm b o v hv)
 cells := fun id _ hg => H.old_cells (.refl _) hg (fun b hq => hr b fun e => hn id (e ▸ hq)) (fun _ _ _ hp => hp)
 own := fun id _ _ _ hg => H.old_own hg rfl (fun b hq => hr b fun e => hn id (e ▸ hq)) (fun _ _ _ hp => hp)
 map := fun id _ hg => H.old_map (.refl _) hg (fun b hq => hr b fun e => hn id (e ▸ hq)) (fun _ _ _ hp => hp)
 apart := H.apart
 next := H.next
 ro := H.ro
 pos := H.pos
 zero := H.zero
 fresh := H.fresh
 glob := H.glob
 ty := H.keepTy rfl (Nat.le_refl _) (.refl _) fun b _ hx => (hs b).trans hx
theorem W.frozen {C : Cfg} {μ : M} {h h1 : Heap} {w : World} (H : W C μ h w) {id g o n k e v : Nat} (hg : h.get id = some (.own k e v)) (hblk : μ.blk h id = some g) (hp : h.put id .dead = some h1) (m : Nat) :
    W C μ h1 ((w.drewN m).freeze ⟨g, o, none⟩ n) ∧ Ext μ h w μ h1 ((w.drewN m).freeze ⟨g, o, none⟩ n) := by
  obtain ⟨H1, X1⟩ := H.kill hp (by rw [hg]; simp)
  obtain ⟨p1, p2, p3⟩ := put_rest hp
  have hfree : ∀ j, μ.blk h1 j ≠ some g := by
    intro j hj
    rw [kill_blk hp] at hj
    split at hj
    · cases hj
    · rename_i hne
      exact hne (H.apart id j g hblk hj)
  obtain ⟨f1, f2, f3, f4⟩ := freeze_rest (w.drewN m) ⟨g, o, none⟩ n
  have hold : ∀ r, r ≠ g → ((w.drewN m).freeze ⟨g, o, none⟩ n).heap[r]? = w.heap[r]? := fun r hr => freeze_heap (w.drewN m) ⟨g, o, none⟩ n r hr
  refine ⟨H1.other hfree hold (fun x => freeze_cell (w.drewN m) _ n x) (fun r => freeze_shape (w.drewN m) _ n r), ?_⟩
  exact { le := .refl _, os := f2, tape := f3, output := f4, size := by rw [f1]; exact Nat.le_refl _, ro := X1.ro, next := X1.next,
          frame := fun b _ hb => hold b fun q => hb id p3 (q ▸ hblk), came := X1.came, imm := fun _ _ _ a1 a2 => absurd a1 a2 }
def byteS : List AV → Option UInt8
 | [.sc (.int .u8 n)] => bif decide (n = ((UInt8.ofNat n.toNat).toNat : Int)) then some (UInt8.ofNat n.toNat) else none
 | _ => none
theorem byteS_spec {e : List AV} {x : UInt8} (h : byteS e = some x) : e = [.sc (.int .u8 x.toNat)] := by
 unfold byteS at h
 split at h
 ·obtain ⟨h1, h2⟩ := cond_some h
  have h1 := of_decide_eq_true h1
  cases h2
  rw [← h1]
 ·cases h
def stringP (T E : Nat) (args : List AV) (h : Heap) : Option (AV × Heap) :=
 match args with
 | [.ptr id 0] => match h.ty.get id with
  | some (t, n) => bif Nat.beq t T && Nat.beq n 2 then
    (match h.get id with
     | some (.cells [_, .sc (.slice none 0 0)]) => some (.sc (.string .empty), h)
     | some (.cells [_, .sl els (tok + 1)]) => match h.get tok with
      | some (.own k e v) => bif (Nat.beq k 1 && Nat.beq e E && !els.isEmpty && Nat.ble els.length maxRoom) && Nat.beq els.length v then
        (match mapO byteS els, h.put tok .dead with
        | some bs, some h' => some (.sc (.string ⟨⟨bs⟩⟩), h')
        | _, _ => none) else none
      | _ => none
     | _ => none)
   else none
  | none => none
 | _ => none
theorem known_string {P : Program} {C : Cfg} {g : FuncId} {T B : TypeId} (hb : ∃ fn : Func, P.funcs[g]? = some fn ∧ fn.body.isSome = true)
  (empty : ∀ (b : Nat) (w : World), w.cell? ⟨b, 1, none⟩ = some (.slice none 0 0) →
   Calls P g #[.pointer (some ⟨b, 0, none⟩)] w fun e w' => e = .returned (.string .empty) ∧ ∃ m, w' = w.drewN m)
  (full : ∀ (b q o cap n : Nat) (l : List UInt8) (w : World), l ≠ [] → w.cell? ⟨b, 1, none⟩ = some (.slice (some ⟨q, o, none⟩) l.length cap) → w.shape? q = some (B, n) → o + l.length ≤ n → l.length ≤ cap → l.length ≤ maxRoom →
   (∀ (j : Nat) (x : UInt8), l[j]? = some x → w.cell? ⟨q, o + j, none⟩ = some (.int .u8 x.toNat)) →
   Calls P g #[.pointer (some ⟨b, 0, none⟩)] w fun e w' => e = .returned (.string ⟨l.toArray⟩) ∧ ∃ m, w' = (w.drewN m).freeze ⟨q, o, none⟩ l.length) : Known P C g (stringP T B) := by
 refine .inl ⟨hb, fun args h r h' hp μ w vs H hv0 => ?_⟩
 unfold stringP at hp
 split at hp
 ·rename_i id
  obtain ⟨v, rfl, hv⟩ := args_one hv0
  split at hp
  ·rename_i t n hty
   obtain ⟨hq, hp2⟩ := cond_some hp
   clear hp
   obtain ⟨hid, b, sz, hr, hsh⟩ := H.ty id _ hty
   cases hv with
   | ptr hr' =>
    rw [hr] at hr'; cases hr'
    simp only [Nat.add_zero]
    split at hp2
    ·rename_i x hg
     cases hp2
     obtain ⟨b', base', sz', hr', ok, hno⟩ := H.cells id _ hg
     rw [hr] at hr'; cases hr'
     obtain ⟨y, hy, hvy⟩ := ok.cell 1 _ rfl
     cases hvy with
     | sc _ =>
      refine (empty b w hy).mono fun e w' ⟨he, m, hw⟩ => ?_
      subst he; subst hw
      exact callEnd_below H ⟨rfl, rfl, rfl, Nat.le_refl _, fun _ _ => rfl⟩ (.sc rfl)
    ·rename_i x els tok hg
     obtain ⟨b', base', sz', hr', ok, hno⟩ := H.cells id _ hg
     rw [hr] at hr'; cases hr'
     obtain ⟨y, hy, hvy⟩ := ok.cell 1 _ rfl
     split at hp2
     ·rename_i k e v hgt
      obtain ⟨hq2, hp3⟩ := cond_some hp2
      clear hp2
      simp only [Bool.and_eq_true, Bool.not_eq_true'] at hq2
      obtain ⟨⟨⟨⟨e1, e2⟩, e3⟩, e4⟩, e5⟩ := hq2
      have e5 := beq_true e5
      subst e5
      have e4 := ble_true e4
      have e1 := beq_true e1
      have e2 := beq_true e2
      subst e1; subst e2
      split at hp3
      ·rename_i bs h1 hbs hput
       cases hp3
       obtain ⟨G, En, Rm, hown, hO⟩ := H.own tok _ _ _ hgt
       have htok0 : tok ≠ 0 := by rintro rfl; rw [H.zero] at hgt; cases hgt
       have hsp := mapO_spec hbs
       have hbne : bs ≠ [] := by
        intro q
        have hl := hsp.1
        rw [q] at hl
        cases els with
        | nil => simp at e3
        | cons a r => simp at hl
       cases hvy with
       | sl1 q1 q2 q3 q4 q5 q6 =>
        rename_i B' o n' cap k' c
        have hpos : 0 < els.length := by
         cases els with
         | nil => simp at e3
         | cons a r => simp
        have hone : ∀ a ∈ els, a.length = 1 := by
         intro a ha
         obtain ⟨j, hj, rfl⟩ := List.getElem_of_mem ha
         have hjb : j < bs.length := by rw [hsp.1]; exact hj
         obtain ⟨a0, ha0, hf⟩ := mapO_back hbs j _ (List.getElem?_eq_getElem hjb)
         rw [List.getElem?_eq_getElem hj] at ha0; cases ha0
         rw [byteS_spec hf]; rfl
        have hk1 : k' = 1 := by
         have := q3 els[0] (List.getElem_mem hpos)
         rw [hone els[0] (List.getElem_mem hpos)] at this
         exact this.symm
        subst hk1
        rcases q6 with q6 | ⟨G', En', Rm', v', w1, _, w2⟩
        ·exact absurd q6 htok0
        ·rw [hown] at w1; cases w1
         have w2 := w2 q1.symm
         rcases w2 with ⟨w2, _⟩ | ⟨rfl, w3, w4⟩
         ·omega
         ·have hlen : bs.length = els.length := hsp.1
          obtain ⟨ns, hns, hfit⟩ := hO.shape
          have hblk : μ.blk h tok = some G := by simp [M.blk, hgt, hown]
          have hcell : ∀ (j : Nat) (x : UInt8), bs[j]? = some x → w.cell? ⟨G, o + j, none⟩ = some (.int .u8 x.toNat) := by
           intro j x hx
           obtain ⟨a0, ha0, hf⟩ := mapO_back hbs j x hx
           have hs := byteS_spec hf
           subst hs
           have i1 := q4 j _ 0 _ ha0 rfl
           have i2 := q5 j _ 0 _ ha0 rfl
           have i3 := V.sc_eq i2
           rw [i3] at i1
           have := H.imm _ _ _ i1
           rw [show o + j * 1 + 0 = o + j by omega] at this
           exact this
          subst q1
          rw [← hlen] at hy
          refine (full b G o cap ns bs w hbne hy hns (by omega) (by omega) (by omega) hcell).mono fun e w' ⟨he, m, hw⟩ => ?_
          subst he; subst hw
          obtain ⟨H2, X2⟩ := H.frozen hgt hblk hput (o := o) (n := bs.length) m
          exact ⟨_, μ, rfl, .sc rfl, H2, X2⟩
      ·cases hp3
     ·cases hp2
    ·cases hp2
  ·cases hp
 ·cases hp
end
end Go.Ef
namespace Go.Ef
open Go Go.RowKit Go.Shelf Go.Proofs
theorem lies_off {P : Program} {e : TypeId} (hc : P.cellsOf e = 1) (count o n : Nat) (hn : o + n ≤ count) : liesAt P P.depth e count o e n = true := by
 have hd : P.depth = (2 * (P.types.size + Made.depth) + 1) + 1 := rfl
 rw [hd]
 simp only [liesAt, Bool.or_eq_true]
 left
 rw [hd]
 simp [rowAt, hc, hn, sameLayout, Nat.mod_one]
theorem unsafeString_off {P : Program} (w : World) (pt it ty e : TypeId) (hp : P.underlying pt = some (.pointer e)) (hc : P.cellsOf e = 1) (g o cells : Nat) (hsh : w.shape? g = some (e, cells)) (l : List UInt8) (h0 : l ≠ []) (hn : o + l.length ≤ cells) (h63 : l.length ≤ 9223372036854775807)
  (hcell : ∀ (j : Nat) (x : UInt8), l[j]? = some x → w.cell? ⟨g, o + j, none⟩ = some (.int .u8 x.toNat)) :
  (Builtin.unsafeString_ #[pt, it] ty #[.pointer (some ⟨g, o, none⟩), .int .i64 l.length]).run P w = .ok (.string ⟨l.toArray⟩) (w.freeze ⟨g, o, none⟩ l.length) := by
 have hl : l.length ≠ 0 := by simpa using h0
 have hlb := Lib.run_loadBytes (P := P) w l ⟨g, o, none⟩ .empty (fun j x hx => by cases j <;> simpa [Addr.add] using hcell _ x hx)
 have hlies := lies_off (P := P) hc (cells / P.cellsOf e) o l.length (by rw [hc]; simpa using hn)
 have h63' : ¬ (9223372036854775807 : Int) < (l.length : Int) := by omega
 have hdef : Builtin.unsafeString_ #[pt, it] ty #[.pointer (some ⟨g, o, none⟩), .int .i64 l.length] =
   (do
    let n ← asInt (.int .i64 l.length)
    if n < 0 then runtimePanic (.error "unsafe.String: len out of range")
    if n > IntKind.i64.max then unsupported (.unsafePointer "String: a length above the largest int")
    if n = 0 then pure (.string .empty)
    else if ← variablesAt ⟨g, o, none⟩ (← elemOf pt) n.toNat then do
     let s ← loadBytes ⟨g, o, none⟩ .empty n.toNat
     freeze ⟨g, o, none⟩ n.toNat
     pure (.string s)
    else unsupported (.unsafePointer "String: not so many bytes at ptr")) := rfl
 rw [hdef]
 have hmax : IntKind.i64.max = 9223372036854775807 := rfl
 have hneg : ¬ (l.length : Int) < 0 := by omega
 simp [asInt, asIntOf, hmax, h63', hneg, hl, variablesAt, hsh, elemOf, run_underlying hp, hlies, hlb]
section
variable {P : Program} {ρ : Ren} {C : Cfg}
set_option maxHeartbeats 1000000 in
set_option maxRecDepth 100000 in
theorem string_full (L : Lays.n169 P ρ) (X : Builder.Extra P ρ) (b q o cap n : Nat) (l : List UInt8) (w : World) (h0 : l ≠ []) (hc : w.cell? ⟨b, 1, none⟩ = some (.slice (some ⟨q, o, none⟩) l.length cap)) (hs : w.shape? q = some (ρ.t 5, n)) (hn : o + l.length ≤ n) (hcap : l.length ≤ cap) (h63 : l.length ≤ 9223372036854775807)
  (hcell : ∀ (j : Nat) (x : UInt8), l[j]? = some x → w.cell? ⟨q, o + j, none⟩ = some (.int .u8 x.toNat)) :
  Calls P (ρ.f 169) #[.pointer (some ⟨b, 0, none⟩)] w fun e w' => e = .returned (.string ⟨l.toArray⟩) ∧ ∃ m, w' = (w.drewN m).freeze ⟨q, o, none⟩ l.length := by
 have hl0 : l.length ≠ 0 := by simpa using h0
 have c1 : w.drew.cell? ⟨b, 1, none⟩ = some (.slice (some ⟨q, o, none⟩) l.length cap) := hc
 have hSD : (Builtin.unsafeSliceData_ #[(ρ.t 37)] (ρ.t 127) #[.slice (some ⟨q, o, none⟩) l.length cap]).run P w.drew = .ok (.pointer (some ⟨q, o, none⟩)) w.drew :=
  Lib.run_unsafeSliceData_row _ _ _ _ _ _ (by omega)
 have hUS : (Builtin.unsafeString_ #[(ρ.t 127), (ρ.t 3)] (ρ.t 9) #[.pointer (some ⟨q, o, none⟩), .int .i64 l.length]).run P w.drew = .ok (.string ⟨l.toArray⟩) (w.drew.freeze ⟨q, o, none⟩ l.length) :=
  unsafeString_off w.drew _ _ _ _ L.t127 X.cellsByte q o n hs l h0 hn h63 hcell
 have mixed := L.mixed
 have t72 := L.t72; have a72 := L.a72; have z72 := L.z72; have v72 := L.v72; have u72 := run_underlying L.t72
 have t70 := L.t70; have a70 := L.a70; have z70 := L.z70; have v70 := L.v70; have u70 := run_underlying L.t70
 have t37 := L.t37; have a37 := L.a37; have z37 := L.z37; have v37 := L.v37; have u37 := run_underlying L.t37
 have t127 := L.t127; have a127 := L.a127; have z127 := L.z127; have v127 := L.v127; have u127 := run_underlying L.t127
 have t3 := L.t3; have a3 := L.a3; have z3 := L.z3; have v3 := L.v3; have u3 := run_underlying L.t3
 have t9 := L.t9; have a9 := L.a9; have z9 := L.z9; have v9 := L.v9; have u9 := run_underlying L.t9
 have t5 := X.t5; have a5 := X.a5; have z5 := X.z5; have v5 := X.v5; have u5 := run_underlying X.t5
 go_enter L.f169, Body.n169_ntmps ρ
 go_wp2
 go_region_o
 all_goals (go_wp2; go_ret; exact ⟨rfl, 1, rfl⟩)
set_option maxHeartbeats 1000000 in
set_option maxRecDepth 100000 in
theorem string_empty (L : Lays.n169 P ρ) (X : Builder.Extra P ρ) (b : Nat) (w : World) (hc : w.cell? ⟨b, 1, none⟩ = some (.slice none 0 0)) :
  Calls P (ρ.f 169) #[.pointer (some ⟨b, 0, none⟩)] w fun e w' => e = .returned (.string .empty) ∧ ∃ m, w' = w.drewN m := by
 have hUS := Any.unsafeString_none L X
 have c1 : w.drew.cell? ⟨b, 1, none⟩ = some (.slice none 0 0) := hc
 have mixed := L.mixed
 have t72 := L.t72; have a72 := L.a72; have z72 := L.z72; have v72 := L.v72; have u72 := run_underlying L.t72
 have t70 := L.t70; have a70 := L.a70; have z70 := L.z70; have v70 := L.v70; have u70 := run_underlying L.t70
 have t37 := L.t37; have a37 := L.a37; have z37 := L.z37; have v37 := L.v37; have u37 := run_underlying L.t37
 have t127 := L.t127; have a127 := L.a127; have z127 := L.z127; have v127 := L.v127; have u127 := run_underlying L.t127
 have t3 := L.t3; have a3 := L.a3; have z3 := L.z3; have v3 := L.v3; have u3 := run_underlying L.t3
 have t9 := L.t9; have a9 := L.a9; have z9 := L.z9; have v9 := L.v9; have u9 := run_underlying L.t9
 have hSD := Lib.run_unsafeSliceData_nil (P := P) (w := w.drew) #[(ρ.t 37)] (ρ.t 127) 0 0
 go_enter L.f169, Body.n169_ntmps ρ
 go_wp2
 go_region_o
 all_goals (go_wp2; go_ret; exact ⟨rfl, 1, rfl⟩)
theorem shelf_string (L : Lays.n169 P ρ) (X : Builder.Extra P ρ) (hb : ∃ fn : Func, P.funcs[ρ.f 169]? = some fn ∧ fn.body.isSome = true) : Known P C (ρ.f 169) (stringP (ρ.t 72) (ρ.t 5)) := by
 have hm : maxRoom ≤ 9223372036854775807 := by decide
 exact known_string hb (fun b w h => string_empty L X b w h) fun b q o cap n l w h0 h1 h2 h3 h4 h5 h6 => string_full L X b q o cap n l w h0 h1 h2 h3 h4 (Nat.le_trans h5 hm) h6
end
end Go.Ef
namespace Go.Ef
open Go Go.RowKit
noncomputable section
def placeOf (c : UInt8) : List UInt8 → Nat → Int
 | [], _ => -1
 | b :: l, n => bif Nat.beq b.toNat c.toNat then (n : Int) else placeOf c l (n + 1)
theorem indexByte_cons (b c : UInt8) (l : List UInt8) : Lib.indexByte (b :: l) c = if b = c then 0 else if Lib.indexByte l c = -1 then -1 else Lib.indexByte l c + 1 := by
 simp [Lib.indexByte]
theorem placeOf_eq (c : UInt8) : ∀ (l : List UInt8) (n : Nat), placeOf c l n = if Lib.indexByte l c = -1 then -1 else Lib.indexByte l c + n := by
 intro l
 induction l with
 | nil => intro n; rfl
 | cons b l ih =>
  intro n
  have hge := Lib.indexByte_ge l c
  simp only [placeOf]
  rw [indexByte_cons]
  by_cases h : b = c
  ·subst h
   rw [show Nat.beq b.toNat b.toNat = true from Nat.beq_refl _]
   simp
  ·have hb : Nat.beq b.toNat c.toNat = false := by
    cases hq : Nat.beq b.toNat c.toNat with
    | false => rfl
    | true => exact absurd (UInt8.toNat_inj.1 (Nat.eq_of_beq_eq_true hq)) h
   rw [hb, ih, if_neg h]
   simp only [cond_false]
   by_cases h2 : Lib.indexByte l c = -1
   ·simp [h2]
   ·have h4 : ¬ Lib.indexByte l c + 1 = -1 := by omega
    simp only [if_neg h2, if_neg h4]
    omega
theorem placeOf_zero (c : UInt8) (l : List UInt8) : placeOf c l 0 = Lib.indexByte l c := by
 rw [placeOf_eq]
 split
 ·rename_i h; exact h.symm
 ·simp
def indexByteP (args : List AV) (h : Heap) : Option (AV × Heap) :=
 match args with
 | [.sc (.string s), .sc (.int .u8 c)] => some (.sc (.int .i64 (placeOf c.toNat.toUInt8 s.data.toList 0)), h)
 | _ => none
theorem extern_run {P : Program} {g : FuncId} {fn : Func} {f : Array Value → Sem Value} (hf : P.funcs[g]? = some fn) (hn : (fn.name == "runtime.NumGoroutine") = false) (hb : fn.body.isNone = true)
  (hx : Extern.findNext fn = none) (hy : Extern.find fn = some f) {vs : Array Value} {w w' : World} {v : Value} (hr : (f vs).run P w = .ok v w') : (callFunc g vs).run P w = .ok (.value v) w' := by
 simp only [callFunc, Sem.run_bind, run_program, Result.andThen_ok, hf]
 simp [hn, hb, hx, hy, hr]
theorem known_indexByte {P : Program} {C : Cfg} {g : FuncId} {fn : Func} (hf : P.funcs[g]? = some fn) (hn : (fn.name == "runtime.NumGoroutine") = false) (hb : fn.body.isNone = true)
  (hx : Extern.findNext fn = none) (hy : Extern.find fn = some Extern.BytealgIndexByte.indexByte) : Known P C g indexByteP := by
 refine .inr fun args h r h' hp μ w vs H hv0 => ?_
 unfold indexByteP at hp
 split at hp
 ·rename_i s c
  cases hp
  obtain ⟨u, v, rfl, h1, h2⟩ := args_two hv0
  cases h1 with
  | sc _ => cases h2 with
   | sc _ =>
    refine ⟨_, w, extern_run hf hn hb hx hy ?_, callEnd_below H (Below.refl _ _) (.sc rfl)⟩
    rw [placeOf_zero]
    exact Lib.run_indexByteString s c w
 ·cases hp
end
end Go.Ef
namespace Go.Ef
open Go Go.RowKit Go.Shelf Go.Proofs
def strS : List AV → Option ByteArray
 | [.sc (.string s)] => some s
 | _ => none
theorem strS_spec {e : List AV} {s : ByteArray} (h : strS e = some s) : e = [.sc (.string s)] := by
 unfold strS at h
 split at h
 ·cases h; rfl
 ·cases h
def strC : AV → Option ByteArray
 | .sc (.string s) => some s
 | _ => none
theorem strC_spec {e : AV} {s : ByteArray} (h : strC e = some s) : e = .sc (.string s) := by
 unfold strC at h
 split at h
 ·cases h; rfl
 ·cases h
noncomputable def joinP (args : List AV) (h : Heap) : Option (AV × Heap) :=
 match args with
 | [.sc (.slice none 0 0), .sc (.string _)] => some (.sc (.string ⟨#[]⟩), h)
 | [.sl els _, .sc (.string sep)] => match mapO strS els with
  | some xs => bif Nat.ble xs.length maxRoom && Nat.ble (Lib.join (xs.map (·.data.toList)) sep.data.toList).length maxRoom then
    some (.sc (.string ⟨(Lib.join (xs.map (·.data.toList)) sep.data.toList).toArray⟩), h) else none
  | none => none
 | [.rsl id off len 1, .sc (.string sep)] => match h.get id with
  | some (.cells cs) => match stretch off len cs with
   | some part => match mapO strC part with
    | some xs => bif Nat.ble xs.length maxRoom && Nat.ble (Lib.join (xs.map (·.data.toList)) sep.data.toList).length maxRoom then
      some (.sc (.string ⟨(Lib.join (xs.map (·.data.toList)) sep.data.toList).toArray⟩), h) else none
    | none => none
   | none => none
  | _ => none
 | _ => none
def repeatP (args : List AV) (h : Heap) : Option (AV × Heap) :=
 match args with
 | [.sc (.string s), .sc (.int .i64 n)] => bif decide (0 ≤ n) && Nat.ble n.toNat maxRoom && Nat.ble (s.size * n.toNat) maxRoom then
   some (.sc (.string ⟨(Lib.repeatL s.data.toList n.toNat).toArray⟩), h) else none
 | _ => none
theorem sl_strings {C : Cfg} {μ : M} {h : Heap} {w : World} (H : W C μ h w) {els : List (List AV)} {tok : Nat} {xs : List ByteArray} (hx : mapO strS els = some xs) {v : Value} (hv : V μ (.sl els tok) v) :
  ∃ b o cap, v = .slice (some ⟨b, o, none⟩) xs.length cap ∧ xs.length ≤ cap ∧ ∀ (j : Nat) (x : ByteArray), xs[j]? = some x → w.cell? ⟨b, o + j, none⟩ = some (.string x) := by
 have hsp := mapO_spec hx
 have key : ∀ {b o k : Nat} {c : Nat → Nat → Value} {ν : M}, (∀ e ∈ els, e.length = k) →
   (∀ (i : Nat) (e : List AV) (j : Nat) (x : AV), els[i]? = some e → e[j]? = some x → μ.imm b (o + i * k + j) = some (c i j)) →
   (∀ (i : Nat) (e : List AV) (j : Nat) (x : AV), els[i]? = some e → e[j]? = some x → V ν x (c i j)) → ∀ (j : Nat) (x : ByteArray), xs[j]? = some x → w.cell? ⟨b, o + j, none⟩ = some (.string x) := by
  intro b o k c ν h3 h4 h5 j x hj
  obtain ⟨e, he, hf⟩ := mapO_back hx j x hj
  have hs := strS_spec hf
  subst hs
  have hk : k = 1 := (h3 _ (List.mem_of_getElem? he)).symm
  subst hk
  have i1 := h4 j _ 0 _ he rfl
  have i3 := V.sc_eq (h5 j _ 0 _ he rfl)
  rw [i3] at i1
  have := H.imm _ _ _ i1
  rw [show o + j * 1 + 0 = o + j by omega] at this
  exact this
 cases hv with
 | sl0 h1 h2 h3 h4 h5 =>
  subst h1
  rw [hsp.1]
  exact ⟨_, _, _, rfl, h2, key h3 h4 h5⟩
 | sl1 h1 h2 h3 h4 h5 h6 =>
  subst h1
  rw [hsp.1]
  exact ⟨_, _, _, rfl, h2, key h3 h4 h5⟩
section
variable {P : Program} {ρ : Ren} {C : Cfg}
theorem shelf_join (L : Lays.n156 P ρ) (X : Builder.Extra P ρ) (hb : ∃ fn : Func, P.funcs[ρ.f 156]? = some fn ∧ fn.body.isSome = true) : Known P C (ρ.f 156) joinP := by
 refine .inl ⟨hb, fun args h r h' hp μ w vs H hv0 => ?_⟩
 unfold joinP at hp
 split at hp
 ·cases hp
  obtain ⟨u, v, rfl, h1, h2⟩ := args_two hv0
  cases h1 with
  | sc _ => cases h2 with
   | sc _ =>
    refine (Any.strings_Join_none L X none 0 _ w).mono fun e w' ⟨he, hw⟩ => ?_
    subst he; subst hw
    exact callEnd_below H (Below.refl _ _) (.sc rfl)
 ·rename_i els tok sep
  obtain ⟨u, v, rfl, h1, h2⟩ := args_two hv0
  cases h2 with
  | sc _ =>
   split at hp
   ·rename_i xs hx
    obtain ⟨hq, hp2⟩ := cond_some hp
    cases hp2
    simp only [Bool.and_eq_true] at hq
    have q1 := ble_true hq.1
    have q2 := ble_true hq.2
    obtain ⟨b, o, cap, rfl, hcap, hcell⟩ := sl_strings H hx h1
    cases hxs : xs with
    | nil =>
     subst hxs
     refine (Any.strings_Join_none L X (some ⟨b, o, none⟩) cap sep w).mono fun e w' ⟨he, hw⟩ => ?_
     subst he; subst hw
     exact callEnd_below H (Below.refl _ _) (.sc rfl)
    | cons x r =>
     have hlt : b < w.heap.size := cell_lt (hcell 0 x (by rw [hxs]; rfl))
     rw [← hxs]
     refine (Any.strings_Join L X b o cap xs sep w hcell hlt q1 hcap q2).mono fun e w' ⟨he, hw⟩ => ?_
     subst he
     exact callEnd_below H hw (.sc rfl)
   ·cases hp
 ·rename_i id off len sep
  obtain ⟨u, v, rfl, h1, h2⟩ := args_two hv0
  cases h2 with
  | sc _ =>
   split at hp
   ·rename_i cs hg
    split at hp
    ·rename_i part hst
     split at hp
     ·rename_i xs hx
      obtain ⟨hq, hp2⟩ := cond_some hp
      cases hp2
      simp only [Bool.and_eq_true] at hq
      have q1 := ble_true hq.1
      have q2 := ble_true hq.2
      obtain ⟨s1, s2, s3⟩ := stretch_spec hst
      obtain ⟨B, base, sz, hr, ok, _⟩ := H.cells id cs hg
      cases h1 with
      | rsl hr' hcap h3 =>
       rename_i cap b0 base0 sz0 o
       rw [hr] at hr'; cases hr'
       have hxl := (mapO_spec hx).1
       rw [s2] at hxl
       subst hxl
       cases hxs : xs with
       | nil =>
        subst hxs
        refine (Any.strings_Join_none L X (some ⟨B, o, none⟩) cap sep w).mono fun e w' ⟨he, hw⟩ => ?_
        subst he; subst hw
        exact callEnd_below H (Below.refl _ _) (.sc rfl)
       | cons x r =>
        have hpos : 0 < xs.length := by rw [hxs]; exact Nat.succ_pos _
        have hcell : ∀ (j : Nat) (x : ByteArray), xs[j]? = some x → w.cell? ⟨B, o + j, none⟩ = some (.string x) := by
         intro j x hj
         obtain ⟨e, he, hf⟩ := mapO_back hx j x hj
         have hs := strC_spec hf
         subst hs
         have hjl : j < xs.length := lt_of_get? hj
         rw [s3 j hjl] at he
         obtain ⟨y, hy, hv⟩ := ok.cell _ _ he
         rw [V.sc_eq hv] at hy
         rcases h3 with h3 | ⟨h3, _⟩
         ·omega
         ·rw [h3, Nat.add_assoc]; exact hy
        have hlt : B < w.heap.size := cell_lt (hcell 0 x (by rw [hxs]; rfl))
        rw [← hxs]
        refine (Any.strings_Join L X B o cap xs sep w hcell hlt q1 hcap q2).mono fun e w' ⟨he, hw⟩ => ?_
        subst he
        exact callEnd_below H hw (.sc rfl)
     ·cases hp
    ·cases hp
   ·cases hp
 ·cases hp
theorem shelf_repeat (L : Lays.n105 P ρ) (X : Builder.Extra P ρ) (hb : ∃ fn : Func, P.funcs[ρ.f 105]? = some fn ∧ fn.body.isSome = true) : Known P C (ρ.f 105) repeatP := by
 refine .inl ⟨hb, fun args h r h' hp μ w vs H hv0 => ?_⟩
 unfold repeatP at hp
 split at hp
 ·rename_i s n
  obtain ⟨u, v, rfl, h1, h2⟩ := args_two hv0
  cases h1 with
  | sc _ => cases h2 with
   | sc _ =>
    obtain ⟨hq, hp2⟩ := cond_some hp
    cases hp2
    simp only [Bool.and_eq_true, decide_eq_true_eq] at hq
    obtain ⟨⟨q0, q1⟩, q2⟩ := hq
    have q1 := ble_true q1
    have q2 := ble_true q2
    have hm : maxRoom = 140737488355328 := by decide
    have hn : n = (n.toNat : Int) := (Int.toNat_of_nonneg q0).symm
    have := Any.strings_Repeat L X s n.toNat w (by omega) (by omega)
    rw [← hn] at this
    refine this.mono fun e w' ⟨he, hw⟩ => ?_
    subst he
    exact callEnd_below H hw (.sc rfl)
 ·cases hp
end
end Go.Ef
namespace Go.Ef
open Go Go.RowKit Go.Shelf Go.Proofs
def indexP (args : List AV) (h : Heap) : Option (AV × Heap) :=
 match args with
 | [.sc (.string s), .sc (.string t)] => bif Nat.ble s.size 4294967280 then some (.sc (.int .i64 (Lib.index s.data.toList t.data.toList)), h) else none
 | _ => none
section
variable {P : Program} {ρ : Ren} {C : Cfg}
theorem shelf_index (L : Lays.n143 P ρ) {m : Int} (hg : C.glob (ρ.g 1) = some [.sc (.int .i64 m)]) (hb : ∃ fn : Func, P.funcs[ρ.f 143]? = some fn ∧ fn.body.isSome = true) : Known P C (ρ.f 143) indexP := by
 refine .inl ⟨hb, fun args h r h' hp μ w vs H hv0 => ?_⟩
 unfold indexP at hp
 split at hp
 ·rename_i s t
  obtain ⟨u, v, rfl, h1, h2⟩ := args_two hv0
  cases h1 with
  | sc _ => cases h2 with
   | sc _ =>
    obtain ⟨hq, hp2⟩ := cond_some hp
    cases hp2
    have q1 := ble_true hq
    obtain ⟨c, hc, hv⟩ := H.glob _ _ hg 0 _ rfl
    cases hv with
    | sc _ =>
     refine (Any.strings_Index L s t m w (by omega) (H.imm _ _ _ hc)).mono fun e w' ⟨he, hw⟩ => ?_
     subst he; subst hw
     exact callEnd_below H (Below.refl _ _) (.sc rfl)
 ·cases hp
end
end Go.Ef
namespace Go.Ef
noncomputable section
open Go Go.RowKit Go.Shelf Go.Proofs
def consPart (b : UInt8) : List (List UInt8) → List (List UInt8)
 | [] => [[b]]
 | p :: r => (b :: p) :: r
def partsOf (c : UInt8) (l : List UInt8) : List (List UInt8) :=
 List.rec (motive := fun _ => List (List UInt8)) [[]] (fun b _ ih => bif Nat.beq b.toNat c.toNat then [] :: ih else consPart b ih) l
theorem partsOf_cons (c b : UInt8) (l : List UInt8) : partsOf c (b :: l) = if b = c then [] :: partsOf c l else consPart b (partsOf c l) := by
 show (bif Nat.beq b.toNat c.toNat then [] :: partsOf c l else consPart b (partsOf c l)) = _
 by_cases h : b = c
 ·subst h; rw [Nat.beq_refl]; simp
 ·have : Nat.beq b.toNat c.toNat = false := by
   cases hq : Nat.beq b.toNat c.toNat with
   | false => rfl
   | true => exact absurd (UInt8.toNat_inj.1 (Nat.eq_of_beq_eq_true hq)) h
  rw [this]; simp [h]
theorem splitK_ne {c b : UInt8} (h : b ≠ c) (k : Nat) (l : List UInt8) : Lib.splitK [c] 0 k (b :: l) = consPart b (Lib.splitK [c] 0 k l) := by
 have hp : ([c] : List UInt8).isPrefixOf (b :: l) = false := by simp [List.isPrefixOf, Ne.symm h]
 have hix : Lib.index (b :: l) [c] = if Lib.index l [c] == -1 then -1 else Lib.index l [c] + 1 := by rw [Lib.index, hp]; simp
 cases k with
 | zero => rfl
 | succ k =>
  unfold Lib.splitK
  by_cases hm : Lib.index l [c] = -1
  ·rw [hix, if_pos (beq_iff_eq.2 hm), if_pos (by rfl), if_pos (beq_iff_eq.2 hm)]; rfl
  ·have hge := Lib.index_ge l [c]
   rw [hix, if_neg (fun e => hm (beq_iff_eq.1 e)), if_neg (fun e => by have := beq_iff_eq.1 e; omega), if_neg (fun e => hm (beq_iff_eq.1 e))]
   obtain ⟨j, hj⟩ : ∃ j : Nat, Lib.index l [c] = j := ⟨(Lib.index l [c]).toNat, by omega⟩
   rw [hj]
   have e1 : ((j : Int) + 1).toNat = j + 1 := by omega
   have e2 : ((j : Int)).toNat = j := by omega
   rw [e1, e2]
   rfl
theorem splitK_eq (c : UInt8) : ∀ l : List UInt8, Lib.splitK [c] 0 (l.count c) l = partsOf c l := by
 intro l
 induction l with
 | nil => rfl
 | cons b l ih =>
  rw [partsOf_cons]
  by_cases h : b = c
  ·subst h
   rw [if_pos rfl, List.count_cons_self, ← ih]
   have hix : Lib.index (b :: l) [b] = 0 := by rw [Lib.index]; simp [List.isPrefixOf]
   conv => lhs; unfold Lib.splitK
   rw [hix, if_neg (by decide)]
   rfl
  ·rw [if_neg h, List.count_cons_of_ne (by simpa using h), splitK_ne h, ih]
theorem partsOf_length (c : UInt8) (l : List UInt8) : (partsOf c l).length = l.count c + 1 := by
 induction l with
 | nil => rfl
 | cons b l ih =>
  rw [partsOf_cons]
  by_cases h : b = c
  ·subst h; rw [if_pos rfl, List.count_cons_self, List.length_cons, ih]
  ·rw [if_neg h, List.count_cons_of_ne (by simpa using h), ← ih]
   cases hq : partsOf c l with
   | nil => rw [hq] at ih; cases ih
   | cons p r => rfl
def strEl (x : List UInt8) : List AV := [.sc (.string ⟨⟨x⟩⟩)]
def splitP (e : Nat) (args : List AV) (h : Heap) : Option (AV × Heap) :=
 match args with
 | [.sc (.string s), .sc (.string t)] => match t.data.toList with
  | [c] => bif Nat.ble s.data.toList.length 4294967280 then
    some (.sl ((partsOf c s.data.toList).map strEl) (h.next + 1), (h.new (.own 1 e (partsOf c s.data.toList).length)).2) else none
  | _ => none
 | _ => none
def trimP (args : List AV) (h : Heap) : Option (AV × Heap) :=
 match args with
 | [.sc (.string s), .sc (.string t)] => bif Nat.ble s.data.toList.length maxRoom && (Nat.ble t.data.toList.length 1000 && t.data.toList.all (fun b => decide (b.toNat < 128))) then
   some (.sc (.string ⟨⟨Lib.trimS s.data.toList t.data.toList⟩⟩), h) else none
 | _ => none
section
variable {P : Program} {ρ : Ren} {C : Cfg}
theorem shelf_split (L : Lays.n146 P ρ) (hi9 : (P.info? (ρ.t 9)).map (fun i => (i.zero, i.size, i.bytes)) = some (some (.string ByteArray.empty), 1, 16)) {m : Int} (hg : C.glob (ρ.g 1) = some [.sc (.int .i64 m)])
  (hb : ∃ fn : Func, P.funcs[ρ.f 146]? = some fn ∧ fn.body.isSome = true) : Known P C (ρ.f 146) (splitP (ρ.t 9)) := by
 refine .inl ⟨hb, fun args h r h' hp μ w vs H hv0 => ?_⟩
 unfold splitP at hp
 split at hp
 ·rename_i s t
  obtain ⟨u, v, rfl, h1, h2⟩ := args_two hv0
  cases h1 with
  | sc _ => cases h2 with
   | sc _ =>
    split at hp
    ·rename_i c ht
     obtain ⟨hq, hp2⟩ := cond_some hp
     cases hp2
     have q1 := ble_true hq
     have ht' : t = ⟨#[c]⟩ := by rw [← Lib.mk_data t, ht]
     subst ht'
     obtain ⟨x, hc, hv⟩ := H.glob _ _ hg 0 _ rfl
     cases hv with
     | sc _ =>
      refine (Any.strings_Split L hi9 s ⟨#[c]⟩ m w (by rw [Lib.size_eq]; omega) (H.imm _ _ _ hc) (Nat.le_refl 1)).mono fun e w' ⟨he, hw⟩ => ?_
      have hcount : Lib.countB s ⟨#[c]⟩ = s.data.toList.count c := Lib.count_one c _
      have hparts : (Lib.splitB ⟨#[c]⟩ 0 (Lib.countB s ⟨#[c]⟩) s).map (·.data.toList) = partsOf c s.data.toList := by
       rw [Lib.splitB_data, hcount]; exact splitK_eq c _
      have hstr : (Lib.splitB ⟨#[c]⟩ 0 (Lib.countB s ⟨#[c]⟩) s).map Value.string = (partsOf c s.data.toList).map fun l => Value.string ⟨l.toArray⟩ := by
       rw [← hparts, List.map_map]
       refine List.map_congr_left fun x _ => ?_
       show _ = Value.string ⟨x.data.toList.toArray⟩
       rw [Lib.mk_data]
      have hn : Lib.countB s ⟨#[c]⟩ + 1 = ((partsOf c s.data.toList).map strEl).length := by rw [List.length_map, partsOf_length, hcount]
      rw [hstr] at hw
      have hflat : ((partsOf c s.data.toList).map strEl).flatten = (partsOf c s.data.toList).map fun l => AV.sc (.string ⟨⟨l⟩⟩) := by
       generalize partsOf c s.data.toList = L0
       induction L0 with
       | nil => rfl
       | cons a r ih => rw [List.map_cons, List.flatten_cons, ih]; rfl
      subst he
      subst hw
      rw [hn]
      obtain ⟨ν, g1, g2, g3⟩ := H.growOwn (k := 1) (n := ((partsOf c s.data.toList).map strEl).length) (cap := ((partsOf c s.data.toList).map strEl).length) (els := (partsOf c s.data.toList).map strEl)
       (grew_alloc w (.cells ((partsOf c s.data.toList).map fun l => Value.string ⟨l.toArray⟩).toArray (ρ.t 9))) (fun e he => by obtain ⟨x, _, rfl⟩ := List.mem_map.1 he; rfl) rfl (Nat.le_refl _)
       (by simp) (.inr rfl) (by
        rw [hflat]
        refine ⟨by simp, fun i x hx => ?_⟩
        rw [List.getElem?_map] at hx
        obtain ⟨l, hl, rfl⟩ := Option.map_eq_some_iff.1 hx
        exact ⟨.string ⟨l.toArray⟩, by simp [hl], .sc rfl⟩)
      rw [List.length_map] at g1 g2
      exact ⟨_, ν, rfl, g3, g1, g2⟩
    ·cases hp
 ·cases hp
theorem shelf_trim (L : Lays.n160 P ρ) (h116 : (P.info? (ρ.t 116)).map (fun i => (i.zero, i.size)) = some (some (.agg (Array.replicate 256 (.bool false))), 256))
  (hb : ∃ fn : Func, P.funcs[ρ.f 160]? = some fn ∧ fn.body.isSome = true) : Known P C (ρ.f 160) trimP := by
 refine .inl ⟨hb, fun args h r h' hp μ w vs H hv0 => ?_⟩
 unfold trimP at hp
 split at hp
 ·rename_i s t
  obtain ⟨u, v, rfl, h1, h2⟩ := args_two hv0
  cases h1 with
  | sc _ => cases h2 with
   | sc _ =>
    obtain ⟨hq, hp2⟩ := cond_some hp
    cases hp2
    simp only [Bool.and_eq_true] at hq
    obtain ⟨q1, q2, q3⟩ := hq
    have q1 := ble_true q1
    have q2 := ble_true q2
    have hm : maxRoom = 140737488355328 := by decide
    refine (Any.strings_Trim_laid L h116 s t w (by rw [Lib.size_eq]; omega) (by rw [Lib.size_eq]; omega) (ascii_of_all q3)).mono fun e w' ⟨he, hw⟩ => ?_
    subst he
    exact callEnd_below H hw (.sc rfl)
 ·cases hp
end
end
end Go.Ef
namespace Go.Proofs
open Go.Shelf
def Tryz.lays169_ren : Go.Shelf.Ren := ⟨fun | 169 => 40 | n => n, fun | 70 => 93 | 9 => 9 | 0 => 0 | 72 => 95 | 37 => 63 | 127 => 139 | 3 => 3 | 5 => 5 | n => n, fun | n => n⟩
theorem Tryz.lays169 : Go.Proofs.Lays.n169 Tryz.prog Tryz.lays169_ren := {
 mixed := by kernel_rfl
 f169 := Tryz.func40.trans (congrArg some (by kernel_rfl))
 t0 := Tryz.underlying0
 a0 := Tryz.isAgg0
 z0 := Tryz.sizeOf0
 v0 := Tryz.zeroValue0
 t3 := Tryz.underlying3
 a3 := Tryz.isAgg3
 z3 := Tryz.sizeOf3
 v3 := Tryz.zeroValue3
 t9 := Tryz.underlying9
 a9 := Tryz.isAgg9
 z9 := Tryz.sizeOf9
 v9 := Tryz.zeroValue9
 t37 := Tryz.underlying63
 a37 := Tryz.isAgg63
 z37 := Tryz.sizeOf63
 v37 := Tryz.zeroValue63
 t70 := Tryz.underlying93
 a70 := Tryz.isAgg93
 z70 := Tryz.sizeOf93
 v70 := Tryz.zeroValue93
 t72 := Tryz.underlying95
 a72 := Tryz.isAgg95
 z72 := Tryz.sizeOf95
 v72 := Tryz.zeroValue95
 t127 := Tryz.underlying139
 a127 := Tryz.isAgg139
 z127 := Tryz.sizeOf139
 v127 := Tryz.zeroValue139 }
theorem Tryz.Builder_Extra_169 : Builder.Extra Tryz.prog Tryz.lays169_ren := {
 sizeBuilder := by kernel_rfl
 liesBuilder := by kernel_rfl
 t5 := Tryz.underlying5
 a5 := Tryz.isAgg5
 z5 := Tryz.sizeOf5
 v5 := Tryz.zeroValue5
 infoByte := by kernel_rfl
 cellsByte := by kernel_rfl
 sizeByte := by kernel_rfl
 neB5 := by decide }
def Tryz.lays156_ren : Go.Shelf.Ren := ⟨fun | 156 => 73 | 165 => 106 | 166 => 37 | 169 => 40 | 240 => 70 | 241 => 146 | 276 => 105 | 277 => 204 | n => n, fun | 31 => 49 | 9 => 9 | 3 => 3 | 4 => 4 | 0 => 0 | 20 => 20 | 72 => 95 | 76 => 98 | 70 => 93 | 37 => 63 | 75 => 97 | 127 => 139 | 164 => 180 | 5 => 5 | 80 => 71 | n => n, fun | n => n⟩
theorem Tryz.lays156 : Go.Proofs.Lays.n156 Tryz.prog Tryz.lays156_ren := {
 mixed := by kernel_rfl
 f156 := Tryz.func73.trans (congrArg some (by kernel_rfl))
 f165 := Tryz.func106.trans (congrArg some (by kernel_rfl))
 f166 := Tryz.func37.trans (congrArg some (by kernel_rfl))
 f169 := Tryz.func40.trans (congrArg some (by kernel_rfl))
 f240 := Tryz.func70.trans (congrArg some (by kernel_rfl))
 f241 := Tryz.func146.trans (congrArg some (by kernel_rfl))
 f276 := Tryz.func105.trans (congrArg some (by kernel_rfl))
 f277 := Tryz.func204.trans (congrArg some (by kernel_rfl))
 t0 := Tryz.underlying0
 a0 := Tryz.isAgg0
 z0 := Tryz.sizeOf0
 v0 := Tryz.zeroValue0
 t3 := Tryz.underlying3
 a3 := Tryz.isAgg3
 z3 := Tryz.sizeOf3
 v3 := Tryz.zeroValue3
 t4 := Tryz.underlying4
 a4 := Tryz.isAgg4
 z4 := Tryz.sizeOf4
 v4 := Tryz.zeroValue4
 t9 := Tryz.underlying9
 a9 := Tryz.isAgg9
 z9 := Tryz.sizeOf9
 v9 := Tryz.zeroValue9
 t20 := Tryz.underlying20
 a20 := Tryz.isAgg20
 z20 := Tryz.sizeOf20
 v20 := Tryz.zeroValue20
 t31 := Tryz.underlying49
 a31 := Tryz.isAgg49
 z31 := Tryz.sizeOf49
 v31 := Tryz.zeroValue49
 t37 := Tryz.underlying63
 a37 := Tryz.isAgg63
 z37 := Tryz.sizeOf63
 v37 := Tryz.zeroValue63
 t70 := Tryz.underlying93
 a70 := Tryz.isAgg93
 z70 := Tryz.sizeOf93
 v70 := Tryz.zeroValue93
 t72 := Tryz.underlying95
 a72 := Tryz.isAgg95
 z72 := Tryz.sizeOf95
 v72 := Tryz.zeroValue95
 t75 := Tryz.underlying97
 a75 := Tryz.isAgg97
 z75 := Tryz.sizeOf97
 v75 := Tryz.zeroValue97
 t76 := Tryz.underlying98
 a76 := Tryz.isAgg98
 z76 := Tryz.sizeOf98
 v76 := Tryz.zeroValue98
 t127 := Tryz.underlying139
 a127 := Tryz.isAgg139
 z127 := Tryz.sizeOf139
 v127 := Tryz.zeroValue139
 t164 := Tryz.underlying180
 a164 := Tryz.isAgg180
 z164 := Tryz.sizeOf180
 v164 := Tryz.zeroValue180 }
theorem Tryz.Builder_Extra_156 : Builder.Extra Tryz.prog Tryz.lays156_ren := {
 sizeBuilder := by kernel_rfl
 liesBuilder := by kernel_rfl
 t5 := Tryz.underlying5
 a5 := Tryz.isAgg5
 z5 := Tryz.sizeOf5
 v5 := Tryz.zeroValue5
 infoByte := by kernel_rfl
 cellsByte := by kernel_rfl
 sizeByte := by kernel_rfl
 neB5 := by decide }
open Go.RowKit in
theorem Tryz.strings_Join_none (a : Option Addr) (c : Nat) (sep : ByteArray) (w : World) :
  Calls Tryz.prog 73 #[.slice a 0 c, .string sep] w fun e w' => e = .returned (.string ⟨#[]⟩) ∧ w' = w := Any.strings_Join_none Tryz.lays156 Tryz.Builder_Extra_156 a c sep w
open Go.RowKit in
theorem Tryz.strings_Join (bk o c : Nat) (xs : List ByteArray) (sep : ByteArray) (w : World) (hcells : ∀ (j : Nat) x, xs[j]? = some x → w.cell? ⟨bk, o + j, none⟩ = some (.string x)) (hbk : bk < w.heap.size) (hN : xs.length ≤ 140737488355328) (hcap : xs.length ≤ c) (hlen : (Lib.join (xs.map (·.data.toList)) sep.data.toList).length ≤ 140737488355328) :
  Calls Tryz.prog 73 #[.slice (some ⟨bk, o, none⟩) xs.length c, .string sep] w fun e w' => e = .returned (.string ⟨(Lib.join (xs.map (·.data.toList)) sep.data.toList).toArray⟩) ∧ Below w.heap.size w w' := Any.strings_Join Tryz.lays156 Tryz.Builder_Extra_156 bk o c xs sep w hcells hbk hN hcap hlen
def Tryz.lays160_ren : Go.Shelf.Ren := ⟨fun | 160 => 119 | 232 => 162 | 231 => 161 | 227 => 163 | 234 => 165 | 233 => 164 | 236 => 167 | 235 => 166 | 228 => 215 | 271 => 216 | 151 => 139 | 197 => 148 | 120 => 255 | 152 => 197 | 260 => 205 | 137 => 236 | 119 => 237 | 224 => 184 | 225 => 183 | 217 => 182 | 266 => 228 | n => n, fun | 9 => 9 | 4 => 4 | 3 => 3 | 5 => 5 | 117 => 235 | 116 => 234 | 0 => 0 | 124 => 238 | 21 => 21 | 105 => 218 | 46 => 248 | 119 => 301 | 139 => 304 | 138 => 303 | n => n, fun | 3 => 3 | 4 => 4 | n => n⟩
theorem Tryz.lays160 : Go.Proofs.Lays.n160 Tryz.prog Tryz.lays160_ren := {
 mixed := by kernel_rfl
 f119 := Tryz.func237.trans (congrArg some (by kernel_rfl))
 f120 := Tryz.func255.trans (congrArg some (by kernel_rfl))
 f137 := Tryz.func236.trans (congrArg some (by kernel_rfl))
 f151 := Tryz.func139.trans (congrArg some (by kernel_rfl))
 f152 := Tryz.func197.trans (congrArg some (by kernel_rfl))
 f160 := Tryz.func119.trans (congrArg some (by kernel_rfl))
 f197 := Tryz.func148.trans (congrArg some (by kernel_rfl))
 f217 := Tryz.func182.trans (congrArg some (by kernel_rfl))
 f224 := Tryz.func184.trans (congrArg some (by kernel_rfl))
 f225 := Tryz.func183.trans (congrArg some (by kernel_rfl))
 f227 := Tryz.func163.trans (congrArg some (by kernel_rfl))
 f228 := Tryz.func215.trans (congrArg some (by kernel_rfl))
 f231 := Tryz.func161.trans (congrArg some (by kernel_rfl))
 f232 := Tryz.func162.trans (congrArg some (by kernel_rfl))
 f233 := Tryz.func164.trans (congrArg some (by kernel_rfl))
 f234 := Tryz.func165.trans (congrArg some (by kernel_rfl))
 f235 := Tryz.func166.trans (congrArg some (by kernel_rfl))
 f236 := Tryz.func167.trans (congrArg some (by kernel_rfl))
 f260 := Tryz.func205.trans (congrArg some (by kernel_rfl))
 f266 := Tryz.func228.trans (congrArg some (by kernel_rfl))
 f271 := Tryz.func216.trans (congrArg some (by kernel_rfl))
 t0 := Tryz.underlying0
 a0 := Tryz.isAgg0
 z0 := Tryz.sizeOf0
 v0 := Tryz.zeroValue0
 t3 := Tryz.underlying3
 a3 := Tryz.isAgg3
 z3 := Tryz.sizeOf3
 v3 := Tryz.zeroValue3
 t4 := Tryz.underlying4
 a4 := Tryz.isAgg4
 z4 := Tryz.sizeOf4
 v4 := Tryz.zeroValue4
 t5 := Tryz.underlying5
 a5 := Tryz.isAgg5
 z5 := Tryz.sizeOf5
 v5 := Tryz.zeroValue5
 t9 := Tryz.underlying9
 a9 := Tryz.isAgg9
 z9 := Tryz.sizeOf9
 v9 := Tryz.zeroValue9
 t21 := Tryz.underlying21
 a21 := Tryz.isAgg21
 z21 := Tryz.sizeOf21
 v21 := Tryz.zeroValue21
 t46 := Tryz.underlying248
 a46 := Tryz.isAgg248
 z46 := Tryz.sizeOf248
 v46 := Tryz.zeroValue248
 t105 := Tryz.underlying218
 a105 := Tryz.isAgg218
 z105 := Tryz.sizeOf218
 v105 := Tryz.zeroValue218
 t116 := Tryz.underlying234
 a116 := Tryz.isAgg234
 z116 := Tryz.sizeOf234
 t117 := Tryz.underlying235
 a117 := Tryz.isAgg235
 z117 := Tryz.sizeOf235
 v117 := Tryz.zeroValue235
 t119 := Tryz.underlying301
 a119 := Tryz.isAgg301
 z119 := Tryz.sizeOf301
 t124 := Tryz.underlying238
 a124 := Tryz.isAgg238
 z124 := Tryz.sizeOf238
 v124 := Tryz.zeroValue238
 t138 := Tryz.underlying303
 a138 := Tryz.isAgg303
 z138 := Tryz.sizeOf303
 v138 := Tryz.zeroValue303
 t139 := Tryz.underlying304
 a139 := Tryz.isAgg304
 z139 := Tryz.sizeOf304
 v139 := Tryz.zeroValue304
 g3 := by kernel_rfl
 g4 := by kernel_rfl }
def Tryz.lays143_ren : Go.Shelf.Ren := ⟨fun | 143 => 92 | 219 => 128 | 217 => 182 | 225 => 183 | 224 => 184 | 267 => 185 | 266 => 228 | 314 => 229 | n => n, fun | 9 => 9 | 3 => 3 | 4 => 4 | 5 => 5 | 46 => 248 | 146 => 280 | 51 => 279 | n => n, fun | 1 => 1 | n => n⟩
theorem Tryz.lays143 : Go.Proofs.Lays.n143 Tryz.prog Tryz.lays143_ren := {
 mixed := by kernel_rfl
 f143 := Tryz.func92.trans (congrArg some (by kernel_rfl))
 f217 := Tryz.func182.trans (congrArg some (by kernel_rfl))
 f219 := Tryz.func128.trans (congrArg some (by kernel_rfl))
 f224 := Tryz.func184.trans (congrArg some (by kernel_rfl))
 f225 := Tryz.func183.trans (congrArg some (by kernel_rfl))
 f266 := Tryz.func228.trans (congrArg some (by kernel_rfl))
 f267 := Tryz.func185.trans (congrArg some (by kernel_rfl))
 f314 := Tryz.func229.trans (congrArg some (by kernel_rfl))
 t3 := Tryz.underlying3
 a3 := Tryz.isAgg3
 z3 := Tryz.sizeOf3
 v3 := Tryz.zeroValue3
 t4 := Tryz.underlying4
 a4 := Tryz.isAgg4
 z4 := Tryz.sizeOf4
 v4 := Tryz.zeroValue4
 t5 := Tryz.underlying5
 a5 := Tryz.isAgg5
 z5 := Tryz.sizeOf5
 v5 := Tryz.zeroValue5
 t9 := Tryz.underlying9
 a9 := Tryz.isAgg9
 z9 := Tryz.sizeOf9
 v9 := Tryz.zeroValue9
 t46 := Tryz.underlying248
 a46 := Tryz.isAgg248
 z46 := Tryz.sizeOf248
 v46 := Tryz.zeroValue248
 t51 := Tryz.underlying279
 a51 := Tryz.isAgg279
 z51 := Tryz.sizeOf279
 v51 := Tryz.zeroValue279
 t146 := Tryz.underlying280
 a146 := Tryz.isAgg280
 z146 := Tryz.sizeOf280
 v146 := Tryz.zeroValue280
 g1 := by kernel_rfl }
open Go.RowKit Go.Lib in
theorem Tryz.strings_Index (s sub : ByteArray) (m : Int) (w : World) (hs : s.size < 4294967281) (hm : w.cell? ⟨1, 0, none⟩ = some (.int .i64 m)) :
  Calls Tryz.prog 92 #[.string s, .string sub] w fun e w' => e = .returned (.int .i64 (Lib.index s.data.toList sub.data.toList)) ∧ w' = w := Any.strings_Index Tryz.lays143 s sub m w hs hm
def Tryz.lays146_ren : Go.Shelf.Ren := ⟨fun | 146 => 42 | 221 => 75 | 268 => 108 | 138 => 109 | 143 => 92 | 195 => 147 | 197 => 148 | 218 => 149 | 219 => 128 | 260 => 205 | 217 => 182 | 225 => 183 | 224 => 184 | 267 => 185 | 266 => 228 | 314 => 229 | n => n, fun | 9 => 9 | 31 => 49 | 3 => 3 | 4 => 4 | 0 => 0 | 105 => 218 | 21 => 21 | 5 => 5 | 46 => 248 | 119 => 301 | 139 => 304 | 138 => 303 | 146 => 280 | 51 => 279 | n => n, fun | 1 => 1 | 3 => 3 | 4 => 4 | n => n⟩
theorem Tryz.lays146 : Go.Proofs.Lays.n146 Tryz.prog Tryz.lays146_ren := {
 mixed := by kernel_rfl
 f138 := Tryz.func109.trans (congrArg some (by kernel_rfl))
 f143 := Tryz.func92.trans (congrArg some (by kernel_rfl))
 f146 := Tryz.func42.trans (congrArg some (by kernel_rfl))
 f195 := Tryz.func147.trans (congrArg some (by kernel_rfl))
 f197 := Tryz.func148.trans (congrArg some (by kernel_rfl))
 f217 := Tryz.func182.trans (congrArg some (by kernel_rfl))
 f218 := Tryz.func149.trans (congrArg some (by kernel_rfl))
 f219 := Tryz.func128.trans (congrArg some (by kernel_rfl))
 f221 := Tryz.func75.trans (congrArg some (by kernel_rfl))
 f224 := Tryz.func184.trans (congrArg some (by kernel_rfl))
 f225 := Tryz.func183.trans (congrArg some (by kernel_rfl))
 f260 := Tryz.func205.trans (congrArg some (by kernel_rfl))
 f266 := Tryz.func228.trans (congrArg some (by kernel_rfl))
 f267 := Tryz.func185.trans (congrArg some (by kernel_rfl))
 f268 := Tryz.func108.trans (congrArg some (by kernel_rfl))
 f314 := Tryz.func229.trans (congrArg some (by kernel_rfl))
 t0 := Tryz.underlying0
 a0 := Tryz.isAgg0
 z0 := Tryz.sizeOf0
 v0 := Tryz.zeroValue0
 t3 := Tryz.underlying3
 a3 := Tryz.isAgg3
 z3 := Tryz.sizeOf3
 v3 := Tryz.zeroValue3
 t4 := Tryz.underlying4
 a4 := Tryz.isAgg4
 z4 := Tryz.sizeOf4
 v4 := Tryz.zeroValue4
 t5 := Tryz.underlying5
 a5 := Tryz.isAgg5
 z5 := Tryz.sizeOf5
 v5 := Tryz.zeroValue5
 t9 := Tryz.underlying9
 a9 := Tryz.isAgg9
 z9 := Tryz.sizeOf9
 v9 := Tryz.zeroValue9
 t21 := Tryz.underlying21
 a21 := Tryz.isAgg21
 z21 := Tryz.sizeOf21
 v21 := Tryz.zeroValue21
 t31 := Tryz.underlying49
 a31 := Tryz.isAgg49
 z31 := Tryz.sizeOf49
 v31 := Tryz.zeroValue49
 t46 := Tryz.underlying248
 a46 := Tryz.isAgg248
 z46 := Tryz.sizeOf248
 v46 := Tryz.zeroValue248
 t51 := Tryz.underlying279
 a51 := Tryz.isAgg279
 z51 := Tryz.sizeOf279
 v51 := Tryz.zeroValue279
 t105 := Tryz.underlying218
 a105 := Tryz.isAgg218
 z105 := Tryz.sizeOf218
 v105 := Tryz.zeroValue218
 t119 := Tryz.underlying301
 a119 := Tryz.isAgg301
 z119 := Tryz.sizeOf301
 t138 := Tryz.underlying303
 a138 := Tryz.isAgg303
 z138 := Tryz.sizeOf303
 v138 := Tryz.zeroValue303
 t139 := Tryz.underlying304
 a139 := Tryz.isAgg304
 z139 := Tryz.sizeOf304
 v139 := Tryz.zeroValue304
 t146 := Tryz.underlying280
 a146 := Tryz.isAgg280
 z146 := Tryz.sizeOf280
 v146 := Tryz.zeroValue280
 g1 := by kernel_rfl
 g3 := by kernel_rfl
 g4 := by kernel_rfl }
open Go.RowKit Go.Lib in
theorem Tryz.strings_Split (s sep : ByteArray) (m : Int) (w : World) (hs : s.size < 4294967281) (hm : w.cell? ⟨1, 0, none⟩ = some (.int .i64 m)) (h1 : 1 ≤ sep.size) :
  Calls Tryz.prog 42 #[.string s, .string sep] w fun e w' =>
   e = .returned (.slice (some ⟨w.heap.size, 0, none⟩) (Lib.countB s sep + 1) (Lib.countB s sep + 1)) ∧ w' = w.alloc (.cells ((Lib.splitB sep 0 (Lib.countB s sep) s).map Value.string).toArray 9) := Any.strings_Split Tryz.lays146 (by kernel_rfl) s sep m w hs hm h1
def Tryz.lays105_ren : Go.Shelf.Ren := ⟨fun | 105 => 138 | 212 => 196 | 99 => 192 | 165 => 106 | 166 => 37 | 170 => 39 | 169 => 40 | 263 => 234 | 264 => 235 | 206 => 230 | 240 => 70 | 241 => 146 | 276 => 105 | 277 => 204 | n => n, fun | 9 => 9 | 3 => 3 | 4 => 4 | 20 => 20 | 0 => 0 | 46 => 248 | 109 => 258 | 5 => 5 | 72 => 95 | 76 => 98 | 51 => 279 | 146 => 280 | 53 => 38 | 148 => 290 | 70 => 93 | 37 => 63 | 75 => 97 | 127 => 139 | 164 => 180 | 80 => 71 | n => n, fun | n => n⟩
theorem Tryz.lays105 : Go.Proofs.Lays.n105 Tryz.prog Tryz.lays105_ren := {
 mixed := by kernel_rfl
 f99 := Tryz.func192.trans (congrArg some (by kernel_rfl))
 f105 := Tryz.func138.trans (congrArg some (by kernel_rfl))
 f165 := Tryz.func106.trans (congrArg some (by kernel_rfl))
 f166 := Tryz.func37.trans (congrArg some (by kernel_rfl))
 f169 := Tryz.func40.trans (congrArg some (by kernel_rfl))
 f170 := Tryz.func39.trans (congrArg some (by kernel_rfl))
 f206 := Tryz.func230.trans (congrArg some (by kernel_rfl))
 f212 := Tryz.func196.trans (congrArg some (by kernel_rfl))
 f240 := Tryz.func70.trans (congrArg some (by kernel_rfl))
 f241 := Tryz.func146.trans (congrArg some (by kernel_rfl))
 f263 := Tryz.func234.trans (congrArg some (by kernel_rfl))
 f264 := Tryz.func235.trans (congrArg some (by kernel_rfl))
 f276 := Tryz.func105.trans (congrArg some (by kernel_rfl))
 f277 := Tryz.func204.trans (congrArg some (by kernel_rfl))
 t0 := Tryz.underlying0
 a0 := Tryz.isAgg0
 z0 := Tryz.sizeOf0
 v0 := Tryz.zeroValue0
 t3 := Tryz.underlying3
 a3 := Tryz.isAgg3
 z3 := Tryz.sizeOf3
 v3 := Tryz.zeroValue3
 t4 := Tryz.underlying4
 a4 := Tryz.isAgg4
 z4 := Tryz.sizeOf4
 v4 := Tryz.zeroValue4
 t5 := Tryz.underlying5
 a5 := Tryz.isAgg5
 z5 := Tryz.sizeOf5
 v5 := Tryz.zeroValue5
 t9 := Tryz.underlying9
 a9 := Tryz.isAgg9
 z9 := Tryz.sizeOf9
 v9 := Tryz.zeroValue9
 t20 := Tryz.underlying20
 a20 := Tryz.isAgg20
 z20 := Tryz.sizeOf20
 v20 := Tryz.zeroValue20
 t37 := Tryz.underlying63
 a37 := Tryz.isAgg63
 z37 := Tryz.sizeOf63
 v37 := Tryz.zeroValue63
 t46 := Tryz.underlying248
 a46 := Tryz.isAgg248
 z46 := Tryz.sizeOf248
 v46 := Tryz.zeroValue248
 t51 := Tryz.underlying279
 a51 := Tryz.isAgg279
 z51 := Tryz.sizeOf279
 v51 := Tryz.zeroValue279
 t53 := Tryz.underlying38
 a53 := Tryz.isAgg38
 z53 := Tryz.sizeOf38
 v53 := Tryz.zeroValue38
 t70 := Tryz.underlying93
 a70 := Tryz.isAgg93
 z70 := Tryz.sizeOf93
 v70 := Tryz.zeroValue93
 t72 := Tryz.underlying95
 a72 := Tryz.isAgg95
 z72 := Tryz.sizeOf95
 v72 := Tryz.zeroValue95
 t75 := Tryz.underlying97
 a75 := Tryz.isAgg97
 z75 := Tryz.sizeOf97
 v75 := Tryz.zeroValue97
 t76 := Tryz.underlying98
 a76 := Tryz.isAgg98
 z76 := Tryz.sizeOf98
 v76 := Tryz.zeroValue98
 t109 := Tryz.underlying258
 a109 := Tryz.isAgg258
 z109 := Tryz.sizeOf258
 v109 := Tryz.zeroValue258
 t127 := Tryz.underlying139
 a127 := Tryz.isAgg139
 z127 := Tryz.sizeOf139
 v127 := Tryz.zeroValue139
 t146 := Tryz.underlying280
 a146 := Tryz.isAgg280
 z146 := Tryz.sizeOf280
 v146 := Tryz.zeroValue280
 t148 := Tryz.underlying290
 a148 := Tryz.isAgg290
 z148 := Tryz.sizeOf290
 v148 := Tryz.zeroValue290
 t164 := Tryz.underlying180
 a164 := Tryz.isAgg180
 z164 := Tryz.sizeOf180
 v164 := Tryz.zeroValue180 }
theorem Tryz.Builder_Extra_105 : Builder.Extra Tryz.prog Tryz.lays105_ren := {
 sizeBuilder := by kernel_rfl
 liesBuilder := by kernel_rfl
 t5 := Tryz.underlying5
 a5 := Tryz.isAgg5
 z5 := Tryz.sizeOf5
 v5 := Tryz.zeroValue5
 infoByte := by kernel_rfl
 cellsByte := by kernel_rfl
 sizeByte := by kernel_rfl
 neB5 := by decide }
open Go.RowKit Go.Lib in
theorem Tryz.strings_Repeat (s : ByteArray) (c : Nat) (w : World) (hc : c ≤ 9223372036854775807) (hlen : s.size * c ≤ 140737488355328) :
  Calls Tryz.prog 138 #[.string s, .int .i64 c] w fun e w' => e = .returned (.string ⟨(Lib.repeatL s.data.toList c).toArray⟩) ∧ Below w.heap.size w w' := Any.strings_Repeat Tryz.lays105 Tryz.Builder_Extra_105 s c w hc hlen
end Go.Proofs
namespace Go.Proofs
open Go Go.Ef Go.RowKit
set_option maxHeartbeats 1000000 in
set_option maxRecDepth 100000 in
theorem copy_used (b : Nat) (w : World) (h0 : w.cell? ⟨b, 0, none⟩ = some (.pointer (some ⟨b, 0, none⟩))) :
  Calls Tryz.prog 70 #[.pointer (some ⟨b, 0, none⟩)] w fun e w' => e = .returned (.tuple #[]) ∧ w' = w := by
 have hsz : (Tryz.prog.info? 95).map (·.size) = some 2 := by kernel_rfl
 obtain ⟨j, hj, _⟩ := Option.map_eq_some_iff.1 hsz
 go_enter Tryz.func70, Tryz.ntmps70
 go_wp2
 rw [Lib.run_neq_ptr_same w _ Tryz.underlying93 hj]
 go_wp2
 go_end0
 exact ⟨rfl, rfl⟩
set_option maxHeartbeats 1000000 in
set_option maxRecDepth 100000 in
theorem copy_fresh (b : Nat) (w : World) (h0 : w.cell? ⟨b, 0, none⟩ = some (.pointer none)) (hsh : w.shape? b = some (95, 2)) (hfz : w.frozen? ⟨b, 0, none⟩ = false) :
  Calls Tryz.prog 70 #[.pointer (some ⟨b, 0, none⟩)] w fun e w' => e = .returned (.tuple #[]) ∧ w' = w.setCell ⟨b, 0, none⟩ (.pointer (some ⟨b, 0, none⟩)) := by
 have hsz : (Tryz.prog.info? 95).map (·.size) = some 2 := by kernel_rfl
 have hlies : liesAt Tryz.prog Tryz.prog.depth 95 (2 / Tryz.prog.cellsOf 95) 0 95 1 = true := by kernel_rfl
 obtain ⟨j, hj, hjs⟩ := Option.map_eq_some_iff.1 hsz
 go_enter Tryz.func70, Tryz.ntmps70
 go_wp2
 rw [Lib.run_to_unsafe w ⟨b, 0, none⟩ Tryz.underlying93 Tryz.underlying180 hj (by rw [hjs]; decide) hsh (Nat.zero_lt_succ 1)]
 simp only [Result.andThen]
 rw [Oper.upon_value]
 go_wp2
 rw [run_callFunc_extern Tryz.func105 (by kernel_rfl) (by kernel_rfl) (by kernel_rfl) (e := Extern.AbiNoEscape.same) (by kernel_rfl)]
 rw [Lib.run_noEscape]
 simp only [Result.andThen]
 rw [Oper.upon_value]
 go_wp2
 rw [Lib.run_from_unsafe w ⟨b, 0, none⟩ Tryz.underlying180 Tryz.underlying93 hj hsh hlies]
 simp only [Result.andThen]
 rw [Oper.upon_value]
 go_wp2
 go_end0
 exact ⟨rfl, rfl⟩
end Go.Proofs
namespace Go.Proofs
open Go Go.Ef Go.RowKit
noncomputable section
namespace Rec
def globs (m : Int) : Nat → Option (List AV)
 | 1 => some [.sc (.int .i64 m)]
 | _ => none
def prims (g : FuncId) : Option (List AV → Heap → Option (AV × Heap)) :=
 match g with
 | 40 => some (stringP 95 5)
 | 42 => some (splitP 9)
 | 70 => some (copyP 95)
 | 73 => some joinP
 | 92 => some indexP
 | 119 => some trimP
 | 138 => some repeatP
 | 228 => some indexByteP
 | _ => none
def mode (f t : Nat) : Nat :=
 match f with
 | 21 | 77 => 1
 | 8 => bif Nat.beq t 40 then 6 else 0
 | 9 => bif Nat.beq t 12 then 6 else 0
 | 22 => bif Nat.beq t 37 || (Nat.beq t 42 || Nat.beq t 46) then 6 else 0
 | 30 => bif Nat.beq t 33 then 6 else 0
 | 41 => bif Nat.beq t 43 then 6 else 0
 | 43 => bif Nat.beq t 34 || Nat.beq t 66 then 6 else 0
 | 44 => bif Nat.beq t 24 || Nat.beq t 34 then 6 else 0
 | 115 => bif Nat.beq t 12 then 6 else 0
 | _ => 0
def bad (f id : Nat) : Bool :=
 match f with
 | 3 => Nat.testBit 4096 id
 | 32 => Nat.testBit 16 id
 | 40 => Nat.testBit 2 id
 | 53 => Nat.testBit 4096 id
 | 76 => Nat.testBit 80 id
 | 103 => Nat.testBit 32 id
 | 104 => Nat.testBit 8192 id
 | 106 => Nat.testBit 8 id
 | 110 => Nat.testBit 8192 id
 | 143 => Nat.testBit 34 id
 | 146 => Nat.testBit 1 id
 | 200 => Nat.testBit 2 id
 | 203 => Nat.testBit 4096 id
 | 246 => Nat.testBit 2 id
 | 265 => Nat.testBit 1024 id
 | 286 => Nat.testBit 64 id
 | 296 => Nat.testBit 33280 id
 | 314 => Nat.testBit 128 id
 | 365 => Nat.testBit 2097152 id
 | 368 => Nat.testBit 64 id
 | 374 => Nat.testBit 2 id
 | 377 => Nat.testBit 3328 id
 | 379 => Nat.testBit 64 id
 | 387 => Nat.testBit 2 id
 | 388 => Nat.testBit 128 id
 | _ => false
def tidy (f i : Nat) : Option Tidy :=
 match f with
 | 7 => match i with
  | 9 => some ⟨[0, 1, 5, 7, 8], [0, 1, 5, 7], 0⟩
  | _ => some ⟨[1, 5, 12, 13], [1, 5, 12], 0⟩
 | 8 => some ⟨[5, 10, 12, 14], [6], 1⟩
 | 9 => match i with
  | 6 => some ⟨[0, 1, 5, 6, 7, 8, 9], [0, 4, 5, 6, 7, 8], 0⟩
  | _ => some ⟨[0, 1, 5, 6, 7, 8, 9, 10], [0, 1, 4, 5, 6, 7, 8, 9], 0⟩
 | 10 => match i with
  | 5 => some ⟨[0, 3, 5, 6], [0, 2, 3, 5], 0⟩
  | 11 => some ⟨[0, 3, 5, 6, 7, 8], [0, 2, 3, 5, 6, 7], 0⟩
  | 15 => some ⟨[0, 3, 5, 6, 7], [0, 3, 5, 6, 7], 0⟩
  | _ => some ⟨[0, 3, 5], [2, 3], 0⟩
 | 19 => some ⟨[0, 1, 5], [4], 0⟩
 | 30 => some ⟨[0, 4, 5, 6], [2, 3, 4], 0⟩
 | 31 => some ⟨[0, 1, 5, 6], [5], 0⟩
 | 41 => some ⟨[0, 4, 6, 7, 8], [0, 6], 0⟩
 | 43 => some ⟨[4, 5, 6, 7], [4, 5], 0⟩
 | 44 => some ⟨[0, 1, 5, 6, 7], [0, 5, 6], 0⟩
 | 49 => some ⟨[0, 1, 5, 8, 9, 10], [0, 1, 4], 0⟩
 | 79 => some ⟨[0, 4], [0, 4], 0⟩
 | 117 => some ⟨[0, 3], [3], 0⟩
 | 118 => some ⟨[0, 1, 5, 8, 9], [1, 4, 5], 0⟩
 | 160 => some ⟨[0, 3, 5], [3], 0⟩
 | _ => none
def freshMask : Nat := 520872901981923255704118714298189117473338414825252034220154249653048273976730516255406716170010620
def fresh (g : Nat) : Bool := Nat.testBit freshMask g
def cfg (m : Int) : Cfg := { tidy := tidy, fresh := fresh, mode := mode, pure := fun _ => false, bad := bad, glob := globs m, prim := prims }
theorem body_at {g : Nat} {fn : Func} (h : Tryz.prog.funcs[g]? = some fn) (hb : fn.body.isSome = true) : ∃ fn : Func, Tryz.prog.funcs[g]? = some fn ∧ fn.body.isSome = true := ⟨fn, h, hb⟩
set_option maxRecDepth 100000 in
theorem know40 (m : Int) : Known Tryz.prog (cfg m) 40 (stringP 95 5) := shelf_string Tryz.lays169 Tryz.Builder_Extra_169 (body_at Tryz.func40 (by kernel_rfl))
set_option maxRecDepth 100000 in
theorem know42 (m : Int) : Known Tryz.prog (cfg m) 42 (splitP 9) := shelf_split Tryz.lays146 (by kernel_rfl) (m := m) rfl (body_at Tryz.func42 (by kernel_rfl))
set_option maxRecDepth 100000 in
theorem know73 (m : Int) : Known Tryz.prog (cfg m) 73 joinP := shelf_join Tryz.lays156 Tryz.Builder_Extra_156 (body_at Tryz.func73 (by kernel_rfl))
set_option maxRecDepth 100000 in
theorem know92 (m : Int) : Known Tryz.prog (cfg m) 92 indexP := shelf_index Tryz.lays143 (m := m) rfl (body_at Tryz.func92 (by kernel_rfl))
set_option maxRecDepth 100000 in
theorem know119 (m : Int) : Known Tryz.prog (cfg m) 119 trimP := shelf_trim Tryz.lays160 (by kernel_rfl) (body_at Tryz.func119 (by kernel_rfl))
set_option maxRecDepth 100000 in
theorem know138 (m : Int) : Known Tryz.prog (cfg m) 138 repeatP := shelf_repeat Tryz.lays105 Tryz.Builder_Extra_105 (body_at Tryz.func138 (by kernel_rfl))
set_option maxRecDepth 100000 in
theorem know70 (m : Int) : Known Tryz.prog (cfg m) 70 (copyP 95) := known_copy (body_at Tryz.func70 (by kernel_rfl)) copy_fresh fun b w h _ => copy_used b w h
theorem know228 (m : Int) : Known Tryz.prog (cfg m) 228 indexByteP := known_indexByte Tryz.func228 (by kernel_rfl) (by kernel_rfl) (by kernel_rfl) (by kernel_rfl)
theorem knows (m : Int) (g : FuncId) (p : List AV → Heap → Option (AV × Heap)) (h : (cfg m).prim g = some p) : Known Tryz.prog (cfg m) g p := by
 replace h : prims g = some p := h
 unfold prims at h
 split at h
 ·cases h; exact know40 m
 ·cases h; exact know42 m
 ·cases h; exact know70 m
 ·cases h; exact know73 m
 ·cases h; exact know92 m
 ·cases h; exact know119 m
 ·cases h; exact know138 m
 ·cases h; exact know228 m
 ·cases h
theorem plain_ok : (Tryz.prog.funcs.all fun fn => !(fn.name == "runtime.NumGoroutine")) = true := by decide +kernel
def okAt (m : Int) (i : Nat) : List Func → Bool
 | [] => true
 | fn :: r => (match fn.body with
  | some c => codeOk (cfg m) Tryz.prog i c
  | none => true) && okAt m (i + 1) r
theorem okAt_spec (m : Int) : ∀ (l : List Func) (i : Nat), okAt m i l = true → ∀ (j : Nat) (fn : Func) (c : Code), l[j]? = some fn → fn.body = some c → codeOk (cfg m) Tryz.prog (i + j) c = true := by
 intro l
 induction l with
 | nil => intro i _ j fn c h; simp at h
 | cons a r ih =>
  intro i h j fn c hj hc
  simp only [okAt, Bool.and_eq_true] at h
  cases j with
  | zero =>
   simp at hj; subst hj
   have := h.1
   rw [hc] at this
   exact this
  | succ j =>
   rw [List.getElem?_cons_succ] at hj
   have := ih (i + 1) h.2 j fn c hj hc
   rwa [show i + 1 + j = i + (j + 1) by omega] at this
set_option maxRecDepth 100000 in
theorem okAll (m : Int) : okAt m 0 Tryz.prog.funcs.toList = true := by kernel_rfl
theorem fit (m : Int) : Fit Tryz.prog (cfg m) where
 sane := {
  plain := fun g fn h _ => by
   have := Array.all_eq_true'.1 plain_ok fn (Array.mem_of_getElem? h)
   simpa using this
  prim := knows m }
 mixed := by kernel_rfl
 regs := fun f fn c h hc => by
  have := okAt_spec m _ 0 (okAll m) f fn c (by simpa using h) hc
  rwa [Nat.zero_add] at this
def yes : Option (AV × Heap) → Bool
 | some (.sc (.bool true), _) => true
 | _ => false
theorem yes_spec {r : Option (AV × Heap)} (h : yes r = true) : ∃ h', r = some (.sc (.bool true), h') := by
 unfold yes at h
 split at h
 ·exact ⟨_, rfl⟩
 ·cases h
set_option maxRecDepth 100000 in
theorem awake_ev (m : Int) : yes (evCall (cfg m) Tryz.prog 1000 20 [] heapF) = true := by kernel_rfl
end Rec
end
end Go.Proofs
namespace Go.Ef
open Go
noncomputable section
def LeF (c c' : CallF) : Prop := ∀ g args h r, c g args h = some r → c' g args h = some r
section
variable {C : Cfg} {P : Program} {c c' : CallF}
theorem callP_le (l : LeF c c') : LeF (callP C c) (callP C c') := by
 intro g args h r hc
 unfold callP at hc ⊢
 split at hc
 ·rename_i p hp; exact hc
 ·rename_i hp
  cases hfr : C.fresh g with
  | true =>
   rw [hfr] at hc
   simp only [cond_true] at hc ⊢
   split at hc
   ·split at hc
    ·rename_i r0 h0 hcall
     rw [l _ _ _ _ hcall]
     exact hc
    ·cases hc
   ·cases hc
  | false =>
   rw [hfr] at hc
   simp only [cond_false] at hc ⊢
   cases hpure : C.pure g with
   | false => rw [hpure] at hc; exact l _ _ _ _ hc
   | true =>
    rw [hpure] at hc
    simp only [cond_true] at hc ⊢
    split at hc
    ·rename_i r0 h0 hcall
     rw [l _ _ _ _ hcall]
     exact hc
    ·cases hc
theorem back_le (l : LeF c c') {σ : St} {g : FuncId} {args : List AV} {h : Heap} {r : Slot × St} (hb : back σ (c g args h) = some r) : back σ (c' g args h) = some r := by
 cases hq : c g args h with
 | none => rw [hq] at hb; cases hb
 | some v => rw [hq] at hb; rw [l _ _ _ _ hq]; exact hb
theorem op_le (l : LeF c c') {f : FuncId} {o : Oper} {σ : St} {r : Slot × St} (h : evOp C P c f o σ = some r) : evOp C P c' f o σ = some r := by
 cases ho : o.op <;> simp only [evOp, ho] at h ⊢ <;> try exact h
 rename_i k
 unfold opCall at h ⊢
 split at h
 ·cases h
 ·rename_i args hargs
  split at h
  ·exact h
  ·rename_i x hx
   unfold callVal at h ⊢
   split at h
   ·exact back_le (callP_le l) h
   ·cases h
  ·rename_i x name hx
   unfold callMeth at h ⊢
   split at h
   ·split at h
    ·exact back_le (callP_le l) h
    ·cases h
   ·cases h
theorem step_le (l : LeF c c') {f : FuncId} {ops : Array Oper} {o : Oper} {σ σ' : St} (h : evStep C P c f ops o σ = some σ') : evStep C P c' f ops o σ = some σ' := by
 unfold evStep at h ⊢
 split at h
 ·split at h
  ·rename_i hop
   rw [op_le l hop]
   exact h
  ·cases h
 ·exact h
 ·cases h
theorem ops_le (l : LeF c c') {f : FuncId} {ops : Array Oper} : ∀ (os : List Oper) (σ σ' : St), evOps C P c f ops os σ = some σ' → evOps C P c' f ops os σ = some σ' := by
 intro os
 induction os with
 | nil => intro σ σ' h; exact h
 | cons o os ih =>
  intro σ σ' h
  rw [evOps_cons] at h ⊢
  obtain ⟨τ, h1, h2⟩ := thenO_some h
  rw [step_le l h1]
  exact ih τ σ' h2
def LeR (r r' : Run) : Prop := ∀ f c σ x, r f c σ = some x → r' f c σ = some x
theorem callWith_le {r r' : Run} (l : LeR r r') : LeF (callWith C P r) (callWith C P r') := by
 intro g args h x hc
 unfold callWith at hc ⊢
 split at hc
 ·split at hc
  ·unfold endOf at hc ⊢
   split at hc
   ·rename_i hr
    rw [l _ _ _ _ hr]
    exact hc
   ·cases hc
  ·cases hc
 ·cases hc
theorem seq_le {x x' : Option (Ex × St)} {k k' : St → Option (Ex × St)} (hx : ∀ y, x = some y → x' = some y) (hk : ∀ σ y, k σ = some y → k' σ = some y) {y : Ex × St} (h : evSeq x k = some y) : evSeq x' k' = some y := by
 cases hq : x with
 | none => rw [hq] at h; cases h
 | some z =>
  obtain ⟨e, σ⟩ := z
  rw [hx _ hq]
  rw [hq] at h
  cases e with
  | normal => exact hk _ _ h
  | exit i => exact h
  | ret => exact h
theorem code1_le {r r' : Run} (l : LeR r r') : LeR (evCode1 C P r) (evCode1 C P r') := by
 intro f c σ x h
 cases c with
 | region id ops draw =>
  simp only [evCode1, evReg] at h ⊢
  cases hd : draw && C.bad f id with
  | true => rw [hd] at h; cases h
  | false =>
   rw [hd] at h
   simp only [cond_false] at h ⊢
   split at h
   ·rename_i he
    rw [ops_le (callWith_le l) _ _ _ he]
    exact h
   ·cases h
 | seq a b => exact seq_le (fun y hy => l _ _ _ _ hy) (fun τ y hy => l _ _ _ _ hy) h
 | cond k a b =>
  simp only [evCode1, evCond] at h ⊢
  split at h
  ·rename_i t ht
   cases t with
   | true => exact l _ _ _ _ h
   | false => exact l _ _ _ _ h
  ·cases h
 | block id b =>
  simp only [evCode1] at h ⊢
  cases hq : r f b σ with
  | none => rw [hq] at h; cases h
  | some z => rw [hq] at h; rw [l _ _ _ _ hq]; exact h
 | loop b =>
  simp only [evCode1] at h ⊢
  split at h
  ·exact seq_le (fun y hy => l _ _ _ _ hy) (fun τ y hy => l _ _ _ _ hy) h
  ·rename_i t ht
   unfold evLoop at h ⊢
   split at h
   ·rename_i e τ he
    rw [l _ _ _ _ he]
    simp only []
    split at h
    ·exact l _ _ _ _ h
    ·exact h
   ·cases h
 | scope b => exact l _ _ _ _ h
 | _ => exact h
theorem code_le (n : Nat) : LeR (evCode C P n) (evCode C P (n + 1)) := by
 induction n with
 | zero => intro f c σ x h; cases h
 | succ n ih => exact code1_le ih
theorem code_mono {n m : Nat} (h : n ≤ m) : LeR (evCode C P n) (evCode C P m) := by
 induction h with
 | refl => intro f c σ x h; exact h
 | step _ ih => intro f c σ x h; exact code_le _ f c σ x (ih f c σ x h)
theorem call_mono {n m : Nat} (h : n ≤ m) : LeF (evCall C P n) (evCall C P m) := callWith_le (code_mono h)
end
end
end Go.Ef
namespace Go.Ef
open Go
noncomputable section
structure CAlt where
 α : Type
 post : α → Prop
 val : α → AV
 heap : α → Heap
structure CSpec where
 pre : Prop
 alts : List CAlt
structure LAlt where
 α : Type
 post : α → Prop
 ex : Ex
 st : α → St
structure LSpec where
 pre : Prop
 alts : List LAlt
def wpCAlts (l : List CAlt) (K : AV → Heap → Prop) : Prop :=
 List.rec (motive := fun _ => Prop) True (fun s r ih => List.rec (motive := fun _ => Prop) (∀ x, s.post x → K (s.val x) (s.heap x)) (fun _ _ _ => (∀ x, s.post x → K (s.val x) (s.heap x)) ∧ ih) r) l
def wpLAlts (l : List LAlt) (K : Ex → St → Prop) : Prop :=
 List.rec (motive := fun _ => Prop) True (fun s r ih => List.rec (motive := fun _ => Prop) (∀ x, s.post x → K s.ex (s.st x)) (fun _ _ _ => (∀ x, s.post x → K s.ex (s.st x)) ∧ ih) r) l
structure Tab where
 call : FuncId → Option (List AV → Heap → Option CSpec)
 loop : FuncId → Nat → Option (St → Option LSpec)
 exact : FuncId → Nat → Bool
 named : FuncId → Nat → Bool
 lazy : FuncId → Bool := fun _ => false
 sym : FuncId → Bool := fun _ => false
 symS : FuncId → Option Nat → Bool := fun _ _ => false
 symN : FuncId → Bool := fun _ => false
def findLoop (n i : Nat) : Code → Option Code :=
 Nat.rec (motive := fun _ => Code → Option Code) (fun _ => none) (fun _ ih c => match c with
  | .seq a b => match ih a with
   | some x => some x
   | none => ih b
  | .cond _ a b => match ih a with
   | some x => some x
   | none => ih b
  | .block _ b => ih b
  | .scope b => ih b
  | .loop b => bif Nat.beq (firstId 8 b) i then some b else ih b
  | _ => none) n
def loopAt (P : Program) (f : FuncId) (i : Nat) : Code :=
 match P.funcs[f]? with
 | some fn => match fn.body with
  | some c => match findLoop 400 i c with
   | some b => b
   | none => .skip
  | none => .skip
 | none => .skip
def iteP (q : Bool) (A B : Prop) : Prop := Bool.rec (motive := fun _ => Prop) B A q
def inRange (n : Int) (m : Nat) : Bool := decide (0 ≤ n) && decide (n < m)
def byteAt (l : List UInt8) (n : Int) : Int := ((l[n.toNat]?).getD 0).toNat
def cutL {α : Type} (l : List α) (a b : Int) : List α := (l.take b.toNat).drop a.toNat
def byteD (e : List AV) : UInt8 := (byteOf e).getD 0
def isByteCell (e : List AV) : Bool := Nat.beq e.length 1 && (byteOf e).isSome
def bytesLt : List UInt8 → List UInt8 → Bool := Op.bytesLess
abbrev KS := Slot → St → Prop
abbrev KR := Ex → St → Prop
abbrev RunW := FuncId → Code → St → KR → Prop
def forceL (f : AV → (AV → Prop) → Prop) (l : List AV) (k : List AV → Prop) : Prop :=
 List.rec (motive := fun _ => (List AV → Prop) → Prop) (fun k => k []) (fun x _ ih k => f x fun y => ih fun l => k (y :: l)) l k
def forceA (n : Nat) : AV → (AV → Prop) → Prop :=
 Nat.rec (motive := fun _ => AV → (AV → Prop) → Prop) (fun a k => k a)
  (fun _ ih a k => match a with
   | .sc v => match v with
    | .int kd i => k (.sc (.int kd i))
    | .string s => match s with
     | ⟨a⟩ => match a with
      | ⟨l⟩ => k (.sc (.string ⟨⟨l⟩⟩))
    | v => k (.sc v)
   | .agg cs => forceL ih cs fun l => k (.agg l)
   | .tup cs => forceL ih cs fun l => k (.tup l)
   | a => k a) n
def forceO (v : Option Slot) (k : Option Slot → Prop) : Prop :=
 match v with
 | none => k none
 | some s => match s with
  | .v a => forceA 2 a fun a => k (some (.v a))
  | .lp i j => k (some (.lp i j))
  | .unk => k (some .unk)
def forceT (t : Tr Slot) (k : Tr Slot → Prop) : Prop :=
 Tr.rec (motive := fun _ => (Tr Slot → Prop) → Prop) (fun k => k .leaf) (fun _ v _ ihl ihr k => ihl fun l => ihr fun r => forceO v fun v => k (.node l v r)) t k
def forceC (l : List LObj) (k : List LObj → Prop) : Prop :=
 List.rec (motive := fun _ => (List LObj → Prop) → Prop) (fun k => k [])
  (fun x _ ih k => match x with
   | .cells cs => forceL (forceA 1) cs fun cs => ih fun l => k (.cells cs :: l)
   | .iter s p => ih fun l => k (.iter s p :: l)) l k
def forceH (t : Tr AObj) (k : Tr AObj → Prop) : Prop :=
 Tr.rec (motive := fun _ => (Tr AObj → Prop) → Prop) (fun k => k .leaf)
  (fun _ v _ ihl ihr k => ihl fun l => ihr fun r => match v with
   | none => k (.node l none r)
   | some o => match o with
    | .cells cs => forceL (forceA 1) cs fun cs => k (.node l (some (.cells cs)) r)
    | o => k (.node l (some o) r)) t k
def forceS (σ : St) (k : St → Prop) : Prop :=
 match σ with
 | ⟨n, tm, d, loc, h⟩ => forceT tm fun tm => forceC loc fun loc => match h with
  | ⟨nx, objs, ro, ty⟩ => forceH objs fun objs => k ⟨n, tm, d, loc, ⟨nx, objs, ro, ty⟩⟩
def forceN (σ : St) (k : St → Prop) : Prop :=
 match σ with
 | ⟨n, tm, d, loc, h⟩ => forceT tm fun tm => forceC loc fun loc => k ⟨n, tm, d, loc, h⟩
def forceZ (b : Bool) (σ : St) (k : St → Prop) : Prop := bif b then forceN σ k else forceS σ k
def wpRes (r : Res) (K : KS) : Prop :=
 match r with
 | some (s, σ) => K s σ
 | none => False
def wpPut (σ : St) (d : Option Nat) (s : Slot) (K : St → Prop) : Prop :=
 match s with
 | .v (.sc (.bool q)) => iteP q
   (match σ.put d (.v (.sc (.bool true))) with | some τ => K τ | none => False)
   (match σ.put d (.v (.sc (.bool false))) with | some τ => K τ | none => False)
 | s => match σ.put d s with | some τ => K τ | none => False
def namedAt (T : Tab) (f : FuncId) : Option Nat → Bool
 | some t => T.named f t
 | none => false
def wpPutN (T : Tab) (f : FuncId) (σ : St) (d : Option Nat) (s : Slot) (K : St → Prop) : Prop :=
 bif namedAt T f d then
  (match s with
   | .v (.sc (.int k n)) => ∀ m : Int, m = n → wpPut σ d (.v (.sc (.int k m))) K
   | .v (.sc (.string b)) => ∀ l : List UInt8, l = b.data.toList → wpPut σ d (.v (.sc (.string ⟨⟨l⟩⟩))) K
   | s => wpPut σ d s K)
 else wpPut σ d s K
def wpSel (n : Int) (F : Nat → Prop) (m : Nat) : Prop :=
 Nat.rec (motive := fun _ => Prop) False (fun j ih => iteP (decide (n = (j : Int))) (F j) ih) m
def wpIndex (P : Program) (σ : St) (t : TypeId) (x i : Operand) (K : KS) : Prop :=
 match σ.val x with
 | some (.sc (.string s)) => match σ.val i with
  | some (.sc (.int _ n)) => bif isStringT P t then iteP (inRange n s.data.toList.length) (K (.v (.sc (.int .u8 (byteAt s.data.toList n)))) σ) False else False
  | _ => False
 | some (.agg cs) => match σ.val i with
  | some (.sc (.int _ n)) => match arrT P t with
   | some (m, e) => match sizeT P e with
    | some z => wpSel n (fun j => wpRes (resV σ (partA P e (j * z) cs)) K) m
    | none => False
   | none => False
  | _ => False
 | _ => False
def optI (σ : St) : Option Operand → Option (Option Int)
 | none => some none
 | some x => match σ.val x with
  | some (.sc (.int _ n)) => some (some n)
  | _ => none
def wpCutStr (σ : St) (l : List UInt8) (lo hi : Option Int) (K : KS) : Prop :=
 match hi with
 | none => match lo with
  | none => K (.v (.sc (.string ⟨⟨l⟩⟩))) σ
  | some a => iteP (decide (0 ≤ a) && decide (a ≤ (l.length : Int))) (K (.v (.sc (.string ⟨⟨l.drop a.toNat⟩⟩))) σ) False
 | some b => match lo with
  | none => iteP (decide (0 ≤ b) && decide (b ≤ (l.length : Int))) (K (.v (.sc (.string ⟨⟨l.take b.toNat⟩⟩))) σ) False
  | some a => iteP (decide (0 ≤ a) && (decide (a ≤ b) && decide (b ≤ (l.length : Int)))) (K (.v (.sc (.string ⟨⟨cutL l a b⟩⟩))) σ) False
def wpCutSl (σ : St) (els : List (List AV)) (tok : Nat) (lo hi : Option Int) (K : KS) : Prop :=
 match tok with
 | 0 => (match hi with
  | none => match lo with
   | none => K (.v (.sl els 0)) σ
   | some a => iteP (decide (0 ≤ a) && decide (a ≤ (els.length : Int))) (K (.v (.sl (els.drop a.toNat) 0)) σ) False
  | some b => match lo with
   | none => iteP (decide (0 ≤ b) && decide (b ≤ (els.length : Int))) (K (.v (.sl (els.take b.toNat) 0)) σ) False
   | some a => iteP (decide (0 ≤ a) && (decide (a ≤ b) && decide (b ≤ (els.length : Int)))) (K (.v (.sl (cutL els a b) 0)) σ) False)
 | tok + 1 => (match hi with
  | none => match lo with
   | none => K (.v (.sl els (tok + 1))) σ
   | some a => iteP (decide (0 ≤ a) && decide (a ≤ (els.length : Int))) (iteP (decide (a = 0)) (K (.v (.sl els (tok + 1))) σ) (K (.v (.sl (els.drop a.toNat) 1)) σ)) False
  | some b => match lo with
   | none => iteP (decide (0 ≤ b) && decide (b ≤ (els.length : Int))) (iteP (decide (b = (els.length : Int))) (K (.v (.sl els (tok + 1))) σ) (K (.v (.sl (els.take b.toNat) 1)) σ)) False
   | some a => iteP (decide (0 ≤ a) && (decide (a ≤ b) && decide (b ≤ (els.length : Int)))) (iteP (decide (b = (els.length : Int)) && decide (a = 0)) (K (.v (.sl els (tok + 1))) σ) (K (.v (.sl (cutL els a b) 1)) σ)) False)
def cut3L (els : List (List AV)) (tok : Nat) (a b : Int) : AV := .sl (cutL els a b) (bif Nat.beq tok 0 then 0 else 1)
def wpSlice (P : Program) (σ : St) (t : TypeId) (x : Operand) (lo hi mx : Option Operand) (K : KS) : Prop :=
 match mx with
 | some m => match σ.val x with
  | some (.sl els tok) => match sliceOf P t with
   | some k => iteP (headLen k els) (match optI σ lo with
    | some l => match optI σ hi with
     | some (some b) => match optI σ (some m) with
      | some (some c) => iteP (decide (0 ≤ l.getD 0) && (decide (l.getD 0 ≤ b) && (decide (b ≤ c) && decide (c ≤ (els.length : Int))))) (K (.v (cut3L els tok (l.getD 0) b)) σ) False
      | _ => False
     | _ => False
    | none => False) False
   | none => False
  | _ => wpRes (opSlice P σ t x lo hi (some m)) K
 | none => match σ.val x with
  | some (.sc (.string s)) => match P.underlying t with
   | some .string => match optI σ lo with
    | some l => match optI σ hi with
     | some h => wpCutStr σ s.data.toList l h K
     | none => False
    | none => False
   | _ => False
  | some (.sl els tok) => match sliceOf P t with
   | some k => iteP (headLen k els) (match optI σ lo with
    | some l => match optI σ hi with
     | some h => wpCutSl σ els tok l h K
     | none => False
    | none => False) False
   | none => False
  | _ => wpRes (opSlice P σ t x lo hi none) K
def isU8 : AV → Bool
 | .sc (.int .u8 _) => true
 | _ => false
def u8V (cs : List AV) (o : Nat) : Int :=
 match cs[o]? with
 | some (.sc (.int .u8 v)) => v
 | _ => 0
def u8B : AV → UInt8
 | .sc (.int .u8 v) => UInt8.ofNat v.toNat
 | _ => 0
def setC (cs : List AV) (o : Nat) (v : AV) : List AV := cs.set o v
def cutC (cs : List AV) (o n : Nat) : List AV := (cs.drop o).take n
def inCells (o : Nat) (cs : List AV) : Bool := Nat.blt o cs.length && cs.all isU8
def endCells (o : Nat) (cs : List AV) : Bool := Nat.ble o cs.length && cs.all isU8
def ltLen (o : Nat) (cs : List AV) : Bool := Nat.blt o cs.length
def isU8T (P : Program) (t : TypeId) : Bool :=
 match P.underlying t with
 | some (.int .u8) => true
 | _ => false
def hasStr (h : Heap) (id o : Nat) : Bool :=
 match h.get id with
 | some (.cells cs) => match cs[o]? with
  | some (.sc (.string _)) => true
  | _ => false
 | _ => false
def strIn (h : Heap) (id o : Nat) : List UInt8 :=
 match h.get id with
 | some (.cells cs) => match cs[o]? with
  | some (.sc (.string s)) => s.data.toList
  | _ => []
 | _ => []
def overC (cs : List AV) (o : Nat) (new : List AV) : List AV := cs.take o ++ new ++ cs.drop (o + new.length)
def fitC (cs : List AV) (o : Nat) (new : List AV) : Bool := Nat.ble (o + new.length) cs.length && new.all AV.one
def flatC (els : List (List AV)) (n : Nat) : List AV := (els.take n).flatten
def repC (n : Int) (z : AV) : List AV := List.replicate n.toNat z
def wpLoad (T : Tab) (C : Cfg) (P : Program) (σ : St) (f : FuncId) (d : Option Nat) (t : TypeId) (a : Operand) (K : KS) : Prop :=
 match σ.slot a with
 | some (.v (.ptr id off)) => bif (T.sym f && !(C.is f d 3 || C.is f d 5)) && isU8T P t then
   (match σ.h.get id with
    | some (.cells cs) => iteP (inCells off cs) (K (.v (.sc (.int .u8 (u8V cs off)))) σ) False
    | _ => False)
   else bif (T.symS f d && !(C.is f d 3 || C.is f d 5)) && isStringT P t then iteP (hasStr σ.h id off) (K (.v (.sc (.string ⟨⟨strIn σ.h id off⟩⟩))) σ) False
   else wpRes (opLoad C P σ f d t a) K
 | _ => wpRes (opLoad C P σ f d t a) K
def wpStore (T : Tab) (C : Cfg) (P : Program) (σ : St) (f : FuncId) (t : TypeId) (a x : Operand) (K : KS) : Prop :=
 match σ.slot a with
 | some (.v (.ptr id off)) => bif (T.sym f && !isW C f a && isU8T P t) && (sizeT P t).any (Nat.beq 1) then
   (match σ.val x with
    | some (.sc (.int .u8 n)) => match σ.h.get id with
     | some (.cells cs) => match σ.h.put id (.cells (setC cs off (.sc (.int .u8 n)))) with
      | some h => iteP (ltLen off cs) (K (.v (.sc undef)) { σ with h := h }) False
      | none => False
     | _ => False
    | _ => False)
   else bif (T.symN f && !isW C f a && isStringT P t) && (sizeT P t).any (Nat.beq 1) then
   (match σ.val x with
    | some (.sc (.string s)) => match σ.h.get id with
     | some (.cells cs) => match σ.h.put id (.cells (setC cs off (.sc (.string s)))) with
      | some h => iteP (ltLen off cs) (K (.v (.sc undef)) { σ with h := h }) False
      | none => False
     | _ => False
    | _ => False)
   else wpRes (opStore C P σ f t a x) K
 | _ => wpRes (opStore C P σ f t a x) K
def wpMake (T : Tab) (C : Cfg) (P : Program) (σ : St) (f : FuncId) (d : Option Nat) (t : TypeId) (x y : Operand) (K : KS) : Prop :=
 bif T.symN f then
  (match σ.val x, σ.val y, elemT P t with
   | some (.sc (.int _ l)), some (.sc (.int _ c)), some e => match P.info? e, zeroA P e with
    | some i, some z => bif C.is f d 2 then False else
     bif Nat.beq i.size 1 && (Nat.beq z.cells.length 1 && z.one) then
      iteP (decide (0 ≤ l) && decide (l ≤ c) && decide (c ≤ maxRoom) && Nat.ble (c.toNat * i.bytes) maxRoom)
       (iteP (Nat.beq l.toNat 0) (K (.v (σ.newO 1 e []).1) (σ.newO 1 e []).2)
        (K (.v (.rsl σ.h.next 0 l.toNat 1)) { σ with h := (σ.h.new (.cells (repC l z))).2 })) False
     else False
    | _, _ => False
   | _, _, _ => False)
 else wpRes (opMakeSlice C P σ f d t x y) K
def wpCopyTo (σ : St) (id off : Nat) (new : List AV) (K : KS) : Prop :=
 match σ.h.get id with
 | some (.cells cs) => match σ.h.put id (.cells (overC cs off new)) with
  | some h => iteP (fitC cs off new) (iteP new.isEmpty (K (.v (intA 0)) σ) (K (.v (intA new.length)) { σ with h := h })) False
  | none => False
 | _ => False
def wpCopy (T : Tab) (P : Program) (σ : St) (f : FuncId) (types : Array TypeId) (dst src : AV) (K : KS) : Prop :=
 bif T.symN f then
  (match types[0]? with
   | some t => match elemT P t with
    | some e => bif (sizeT P e).any (Nat.beq 1) then
     (match dst with
     | .rsl id off n k => bif Nat.beq k 1 then
      (match src with
       | .sl els _ => iteP (els.all (fun e => Nat.beq e.length 1)) (wpCopyTo σ id off (flatC els n) K) False
       | .rsl id' off' len' k' => bif Nat.beq k' 1 then
        (match σ.h.get id' with
        | some (.cells cs') => iteP (Nat.ble (off' + len') cs'.length) (wpCopyTo σ id off (cutC cs' off' (min n len')) K) False
        | _ => False) else False
       | .sc (.slice none 0 0) => K (.v (intA 0)) σ
       | x => wpRes (evCopy P σ types dst x) K) else False
     | x => (match src with
      | .sl _ _ => False
      | .rsl _ _ _ _ => False
      | y => wpRes (evCopy P σ types x y) K)) else False
    | none => False
   | none => False)
 else wpRes (evCopy P σ types dst src) K
inductive Kd where
 | int (k : IntKind)
 | str
 | bool
 | sl
def kdT (P : Program) : Nat → TypeId → Option (List Kd)
 | 0, _ => none
 | n + 1, t => match P.underlying t with
  | some (.int k) => some [.int k]
  | some .string => some [.str]
  | some .bool => some [.bool]
  | some (.slice _) => some [.sl]
  | some (.struct fs) => (mapO (fun f => kdT P n f.type) fs.toList).map List.flatten
  | _ => none
def cellAt (els : List (List AV)) (n : Int) (j : Nat) : Option AV :=
 match getI n.toNat els with
 | some c => getI j c
 | none => none
def cellInt (els : List (List AV)) (n : Int) (j : Nat) : Int :=
 match cellAt els n j with
 | some (.sc (.int _ v)) => v
 | _ => 0
def cellStr (els : List (List AV)) (n : Int) (j : Nat) : List UInt8 :=
 match cellAt els n j with
 | some (.sc (.string s)) => s.data.toList
 | _ => []
def cellBool (els : List (List AV)) (n : Int) (j : Nat) : Bool :=
 match cellAt els n j with
 | some (.sc (.bool b)) => b
 | _ => false
def cellSl (els : List (List AV)) (n : Int) (j : Nat) : List (List AV) :=
 match cellAt els n j with
 | some (.sl e _) => e
 | _ => []
def mkCells (els : List (List AV)) (n : Int) : Nat → List Kd → List AV
 | _, [] => []
 | j, .int k :: r => .sc (.int k (cellInt els n j)) :: mkCells els n (j + 1) r
 | j, .str :: r => .sc (.string ⟨⟨cellStr els n j⟩⟩) :: mkCells els n (j + 1) r
 | j, .bool :: r => .sc (.bool (cellBool els n j)) :: mkCells els n (j + 1) r
 | j, .sl :: r => .sl (cellSl els n j) 0 :: mkCells els n (j + 1) r
def exactAt (T : Tab) (f : FuncId) : Option Nat → Bool
 | some t => T.exact f t
 | none => false
def wpIndexAddr (T : Tab) (P : Program) (f : FuncId) (d : Option Nat) (σ : St) (t : TypeId) (x i : Operand) (K : KS) : Prop :=
 bif exactAt T f d then wpRes (opIndexAddr P σ t x i) K else
 match σ.slot x with
 | some (.v (.sl els _)) => match σ.val i with
  | some (.sc (.int _ n)) => match elemT P t with
   | some e => match sizeT P e with
    | some z => match kdT P 3 e with
     | some ks => bif Nat.beq (mkCells els n 0 ks).length z then iteP (inRange n els.length) (getI n.toNat els = some (mkCells els n 0 ks) ∧ K (.v (.cp (mkCells els n 0 ks))) σ) False else False
     | none => wpRes (opIndexAddr P σ t x i) K
    | none => False
   | none => False
  | _ => False
 | some (.lp k off) => match σ.val i with
  | some (.sc (.int _ n)) => match arrT P t with
   | some (m, e) => match sizeT P e with
    | some z => wpSel n (fun j => match moveSlot (.lp k off) (j * z) with | some p => K p σ | none => False) m
    | none => False
   | none => False
  | _ => False
 | some (.v (.gp g off)) => match σ.val i with
  | some (.sc (.int _ n)) => match arrT P t with
   | some (m, e) => match sizeT P e with
    | some z => wpSel n (fun j => match moveSlot (.v (.gp g off)) (j * z) with | some p => K p σ | none => False) m
    | none => False
   | none => False
  | _ => False
 | some (.v (.rsl id off len k)) => match σ.val i with
  | some (.sc (.int _ n)) => match elemT P t with
   | some e => match sizeT P e with
    | some z => bif Nat.beq k z then iteP (inRange n len) (K (.v (.ptr id (off + n.toNat * k))) σ) False else False
    | none => False
   | none => False
  | _ => False
 | _ => wpRes (opIndexAddr P σ t x i) K
def lk {α : Type} (a : α) : α := (Classical.choice (⟨⟨a, rfl⟩⟩ : Nonempty { x : α // x = a })).1
theorem lk_eq {α : Type} (a : α) : lk a = a := (Classical.choice (⟨⟨a, rfl⟩⟩ : Nonempty { x : α // x = a })).2
def strFits (a b : List UInt8) : Bool := lk (decide ((a.length : Int) + b.length ≤ 9223372036854775807))
theorem strFits_iff {a b : List UInt8} : (strFits a b = true) = ((a.length : Int) + b.length ≤ 9223372036854775807) := by unfold strFits; rw [lk_eq]; simp
def wpBinStr (σ : St) (op : BinOp) (a b : List UInt8) (K : KS) : Prop :=
 match op with
 | .add => iteP (strFits a b) (K (.v (.sc (.string ⟨⟨a ++ b⟩⟩))) σ) False
 | .eql => K (.v (.sc (.bool (decide (a = b))))) σ
 | .neq => K (.v (.sc (.bool (decide (a ≠ b))))) σ
 | .lss => K (.v (.sc (.bool (bytesLt a b)))) σ
 | .leq => K (.v (.sc (.bool (bytesLt a b || decide (a = b))))) σ
 | .gtr => K (.v (.sc (.bool (!(bytesLt a b || decide (a = b)))))) σ
 | .geq => K (.v (.sc (.bool (!bytesLt a b)))) σ
 | _ => False
def wpBin (P : Program) (σ : St) (op : BinOp) (t : TypeId) (x y : Operand) (K : KS) : Prop :=
 match σ.val x with
 | some (.sc (.string a)) => match σ.val y with
  | some (.sc (.string b)) => wpBinStr σ op a.data.toList b.data.toList K
  | _ => False
 | _ => wpRes (opBin P σ op t x y) K
def wpConv (C : Cfg) (P : Program) (σ : St) (f : FuncId) (q : Option Nat) (s d : TypeId) (x : Operand) (K : KS) : Prop :=
 match σ.val x with
 | some (.rsl id off len k) => match P.underlying s, P.underlying d with
  | some (.slice e), some .string => bif isU8T P e && Nat.beq k 1 then
    (match σ.h.get id with
     | some (.cells cs) => iteP (endCells (off + len) cs) (K (.v (.sc (.string ⟨⟨(cutC cs off len).map u8B⟩⟩))) σ) False
     | _ => False) else False
  | _, _ => False
 | some (.sl els _) => match P.underlying s, P.underlying d with
  | some (.slice e), some .string => match P.underlying e with
   | some (.int .u8) => iteP (els.all isByteCell) (K (.v (.sc (.string ⟨⟨els.map byteD⟩⟩))) σ) False
   | _ => False
  | _, _ => False
 | some (.sc (.string b)) => match P.underlying s, P.underlying d with
  | some .string, some (.slice e) => match P.underlying e with
   | some (.int .u8) => bif C.is f q 1 then iteP (Nat.ble b.data.toList.length maxRoom) (K (.v (.rsl σ.h.next 0 b.data.toList.length 1)) { σ with h := (σ.h.new (.cells (b.data.toList.map fun b => AV.sc (.int .u8 b.toNat)))).2 }) False
    else bif C.is f q 6 then False else iteP (Nat.ble b.data.toList.length maxRoom) (K (.v (.sl (b.data.toList.map fun b => [.sc (.int .u8 b.toNat)]) (σ.h.next + 1))) { σ with h := (σ.h.new (.own 1 e (b.data.toList.map fun b => [AV.sc (.int .u8 b.toNat)]).length)).2 }) False
   | _ => False
  | _, _ => wpRes (opConv C P σ f q s d x) K
 | _ => wpRes (opConv C P σ f q s d x) K
def wpElems (σ : St) (k : Nat) (x : AV) (K : List (List AV) → Prop) : Prop :=
 match x with
 | .sl els _ => iteP (els.all (fun e => Nat.beq e.length k)) (K els) False
 | .sc (.string s) => bif Nat.beq k 1 then K (s.data.toList.map fun b => [.sc (.int .u8 b.toNat)]) else False
 | x => match σ.elems k x with
  | some els => K els
  | none => False
def wpAppendO (σ : St) (e : TypeId) (i : TypeInfo) (els : List (List AV)) (tok : Nat) (new : List (List AV)) (K : KS) : Prop :=
 iteP (allLen i.size els && fits (els.length + new.length) i.bytes)
  (match tok with
   | 0 => False
   | id + 1 => match σ.h.get id with
    | some (.own k e' n) => bif Nat.beq k i.size && Nat.beq e' e then iteP (decide (els.length = n))
      (match σ.h.put id (.own k e (n + new.length)) with
      | some h => K (.v (.sl (els ++ new) (id + 1))) { σ with h := h }
      | none => False) False else False
    | _ => False) False
def wpAppendS (C : Cfg) (σ : St) (f : FuncId) (d : Option Nat) (e : TypeId) (i : TypeInfo) (s : AV) (new : List (List AV)) (K : KS) : Prop :=
 match s with
 | .sc (.slice none 0 0) => iteP new.isEmpty (K (.v s) σ) (iteP (fits new.length i.bytes) (K (.v (σ.newSlice C f d i.size e new).1) (σ.newSlice C f d i.size e new).2) False)
 | .sl els tok => iteP new.isEmpty (K (.v s) σ) (wpAppendO σ e i els tok new K)
 | s => wpRes (appendS C σ f d e i s new) K
def wpAppend (C : Cfg) (P : Program) (σ : St) (f : FuncId) (d : Option Nat) (types : Array TypeId) (s x : AV) (K : KS) : Prop :=
 match types[0]?, types[1]? with
 | some t, some u => bif isRowT P u then
  (match elemT P t with
   | some e => match P.info? e with
    | some i => bif Nat.beq i.size 0 then False else
     wpElems σ i.size x fun new =>
      iteP (new.all (fun e => e.all AV.one)) (bif (zeroA P e).any (fun z => Nat.beq z.cells.length i.size) then wpAppendS C σ f d e i s new K else False) False
    | none => False
   | none => False) else False
 | _, _ => False
def isOwn (h : Heap) (id k e n : Nat) : Bool :=
 match h.get id with
 | some (.own k' e' n') => Nat.beq k' k && (Nat.beq e' e && (Nat.beq n n' && Nat.ble h.ro id))
 | _ => false
def growH (h : Heap) (id k e n : Nat) : Heap :=
 match h.put id (.own k e n) with
 | some h' => h'
 | none => h
def wpAppendOG (σ : St) (e : TypeId) (i : TypeInfo) (els : List (List AV)) (tok : Nat) (new : List (List AV)) (K : KS) : Prop :=
 iteP (allLen i.size els && fits (els.length + new.length) i.bytes)
  (match tok with
   | 0 => False
   | id + 1 => iteP (isOwn σ.h id i.size e els.length) (K (.v (.sl (els ++ new) (id + 1))) { σ with h := growH σ.h id i.size e (els.length + new.length) }) False) False
def newOwnL (h : Heap) (k e n : Nat) : Heap := lk (h.new (.own k e n)).2
def wpAppendSG (C : Cfg) (σ : St) (f : FuncId) (d : Option Nat) (e : TypeId) (i : TypeInfo) (s : AV) (new : List (List AV)) (K : KS) : Prop :=
 match s with
 | .sc (.slice none 0 0) => iteP new.isEmpty (K (.v s) σ) (iteP (fits new.length i.bytes)
   (bif C.is f d 1 || C.is f d 6 then False else K (.v (.sl new (σ.h.next + 1))) { σ with h := newOwnL σ.h i.size e new.length }) False)
 | .sl els tok => iteP new.isEmpty (K (.v s) σ) (wpAppendOG σ e i els tok new K)
 | s => wpRes (appendS C σ f d e i s new) K
def wpAppendG (C : Cfg) (P : Program) (σ : St) (f : FuncId) (d : Option Nat) (types : Array TypeId) (s x : AV) (K : KS) : Prop :=
 match types[0]?, types[1]? with
 | some t, some u => bif isRowT P u then
  (match elemT P t with
   | some e => match P.info? e with
    | some i => bif Nat.beq i.size 0 then False else
     wpElems σ i.size x fun new =>
      iteP (new.all (fun e => e.all AV.one)) (bif (zeroA P e).any (fun z => Nat.beq z.cells.length i.size) then wpAppendSG C σ f d e i s new K else False) False
    | none => False
   | none => False) else False
 | _, _ => False
def wpBuiltin (C : Cfg) (P : Program) (σ : St) (f : FuncId) (d : Option Nat) (b : Builtin) (types : Array TypeId) (type : TypeId) (args : List AV) (K : KS) : Prop :=
 match b with
 | .append => match args with
  | [s, x] => wpAppend C P σ f d types s x K
  | _ => False
 | .len => match args with
  | [.sc (.string s)] => match types[0]? with
   | some t => bif isStringT P t then K (.v (intA s.data.toList.length)) σ else False
   | none => False
  | [.sl els _] => match types[0]? with
   | some t => match elemT P t with
    | some _ => K (.v (intA els.length)) σ
    | none => False
   | none => False
  | _ => wpRes (evBuiltin C P σ f d .len types type args) K
 | .min => match args with
  | [.sc (.int k x), .sc (.int _ y)] => K (.v (.sc (.int k (min x y)))) σ
  | _ => wpRes (evBuiltin C P σ f d .min types type args) K
 | .max => match args with
  | [.sc (.int k x), .sc (.int _ y)] => K (.v (.sc (.int k (max x y)))) σ
  | _ => wpRes (evBuiltin C P σ f d .max types type args) K
 | b => wpRes (evBuiltin C P σ f d b types type args) K
def wpStrip (n : Nat) : AV → (AV → Prop) → Prop :=
 Nat.rec (motive := fun _ => AV → (AV → Prop) → Prop)
  (fun v K => match v with
   | .sc v => K (.sc v)
   | .sl els 0 => K (.sl els 0)
   | _ => False)
  (fun _ ih v K => match v with
   | .sc v => K (.sc v)
   | .sl els 0 => K (.sl els 0)
   | .sl els (_ + 1) => iteP (plainEls els) (K (.sl els 0)) False
   | .agg cs => List.rec (motive := fun _ => (List AV → Prop) → Prop) (fun k => k []) (fun x _ ihl k => ih x fun y => ihl fun l => k (y :: l)) cs fun l => K (.agg l)
   | .tup cs => List.rec (motive := fun _ => (List AV → Prop) → Prop) (fun k => k []) (fun x _ ihl k => ih x fun y => ihl fun l => k (y :: l)) cs fun l => K (.tup l)
   | .ifc t v => ih v fun y => K (.ifc t y)
   | .fn f a b => List.rec (motive := fun _ => (List AV → Prop) → Prop) (fun k => k []) (fun x _ ihl k => ih x fun y => ihl fun l => k (y :: l)) a fun l =>
     List.rec (motive := fun _ => (List AV → Prop) → Prop) (fun k => k []) (fun x _ ihl k => ih x fun y => ihl fun l => k (y :: l)) b fun m => K (.fn f l m)
   | _ => False) n
def wpStrips (l : List AV) (K : List AV → Prop) : Prop :=
 List.rec (motive := fun _ => (List AV → Prop) → Prop) (fun k => k []) (fun x _ ihl k => wpStrip 8 x fun y => ihl fun l => k (y :: l)) l K
def wpBack (h : Heap) (r : AV) (K : AV → Prop) : Prop :=
 match r with
 | .rsl id off len k => match strip 8 h (.rsl id off len k) with
  | some y => K y
  | none => False
 | r => wpStrip 8 r K
abbrev CallW := FuncId → List AV → Heap → (AV → Heap → Prop) → Prop
def wpCallP (T : Tab) (C : Cfg) (call : CallW) (g : FuncId) (args : List AV) (h : Heap) (K : AV → Heap → Prop) : Prop :=
 match T.call g with
 | some t => match t args h with
  | some s => s.pre ∧ wpCAlts s.alts K
  | none => False
 | none => match C.prim g with
  | some p => match p args h with
   | some (v, h') => K v h'
   | none => False
  | none => bif C.fresh g then wpStrips args fun args' => call g args' heapF fun r h' => wpBack h' r fun r' => K r' h
   else bif C.pure g then call g args { h with ro := h.next } fun r h' => wpBack h' r fun r' => K r' h
   else call g args h K
def wpCallV (T : Tab) (C : Cfg) (call : CallW) (σ : St) (x : Operand) (args : List AV) (K : KS) : Prop :=
 match σ.val x with
 | some (.fn (.func g) first cap) => wpCallP T C call g (first ++ args ++ cap) σ.h fun v h => K (.v v) { σ with h := h }
 | _ => False
def wpCallM (T : Tab) (C : Cfg) (P : Program) (call : CallW) (σ : St) (x : Operand) (name : String) (args : List AV) (K : KS) : Prop :=
 match σ.val x with
 | some (.ifc t v) => match evMethod P t v name with
  | some (g, r) => wpCallP T C call g (r :: args) σ.h fun v h => K (.v v) { σ with h := h }
  | none => False
 | _ => False
def wpOpCall (T : Tab) (C : Cfg) (P : Program) (call : CallW) (f : FuncId) (d : Option Nat) (type : TypeId) (c : Call) (σ : St) (K : KS) : Prop :=
 match mapO σ.val c.args.toList with
 | none => False
 | some args => match c.callee with
  | .builtin b => match b with
   | .copy => match args with
    | [s, x] => wpCopy T P σ f c.argTypes s x K
    | _ => False
   | .append => bif T.symN f then
     (match args with
      | [s, x] => wpAppendG C P σ f d c.argTypes s x K
      | _ => False) else wpBuiltin C P σ f d .append c.argTypes type args K
   | b => wpBuiltin C P σ f d b c.argTypes type args K
  | .value x => wpCallV T C call σ x args K
  | .invoke x name => wpCallM T C P call σ x name args K
def noCall : CallF := fun _ _ _ => none
def wpOp (T : Tab) (C : Cfg) (P : Program) (call : CallW) (f : FuncId) (o : Oper) (σ : St) (K : KS) : Prop :=
 match o.op with
 | .index t x i => wpIndex P σ t x i K
 | .slice t x lo hi mx => wpSlice P σ t x lo hi mx K
 | .indexAddr t x i => wpIndexAddr T P f o.dst σ t x i K
 | .binOp op t x y _ => wpBin P σ op t x y K
 | .convert s d x => wpConv C P σ f o.dst s d x K
 | .load t a => wpLoad T C P σ f o.dst t a K
 | .store t a x => wpStore T C P σ f t a x K
 | .makeSlice t l c => wpMake T C P σ f o.dst t l c K
 | .call c => wpOpCall T C P call f o.dst o.type c σ K
 | _ => wpRes (evOp C P noCall f o σ) K
def wpStep (T : Tab) (C : Cfg) (P : Program) (call : CallW) (f : FuncId) (ops : Array Oper) (o : Oper) (σ : St) (K : St → Prop) : Prop :=
 match wantedA ops o σ with
 | some q => iteP q (wpOp T C P call f o σ fun s τ => wpPutN T f τ o.dst s K) (match σ.put o.dst (.v (.sc undef)) with | some τ => K τ | none => False)
 | none => False
def wpOpsW (T : Tab) (C : Cfg) (P : Program) (call : CallW) (f : FuncId) (ops : Array Oper) (l : List Oper) (σ : St) (K : St → Prop) : Prop :=
 List.rec (motive := fun _ => St → Prop) K (fun o _ ih σ => wpStep T C P call f ops o σ ih) l σ
def entry (fn : Func) (args : List AV) (h : Heap) : St := { n := args.length + (fn.ntmps - args.length), tm := argTr 0 args .leaf, d := .v (.sc undef), loc := [], h := h }
def wpCallB (C : Cfg) (P : Program) (run : RunW) : CallW := fun g args h K =>
 match P.funcs[g]? with
 | some fn => match fn.body with
  | some c => run g c (entry fn args h) fun e σ => match endOf C P fn.results.toList (some (e, σ)) with
   | some (v, h') => K v h'
   | none => False
  | none => False
 | none => False
def wpCode1 (T : Tab) (C : Cfg) (P : Program) (ih : RunW) (f : FuncId) (c : Code) (σ : St) (K : KR) : Prop :=
 match c with
 | .skip => K .normal σ
 | .region id ops draw => bif draw && C.bad f id then False else wpOpsW T C P (wpCallB C P ih) f ops ops.toList σ fun τ => forceZ (T.lazy f) τ fun τ => K .normal τ
 | .seq a b => ih f a σ fun e τ => match e with
  | .normal => ih f b τ K
  | .exit i => K (.exit i) τ
  | .ret => K .ret τ
 | .cond c a b => match σ.val c with
  | some (.sc (.bool t)) => iteP t (ih f a σ K) (ih f b σ K)
  | _ => False
 | .block id b => ih f b σ fun e τ => match e with
  | .normal => K .normal τ
  | .exit i => bif Nat.beq i id then K .normal τ else K (.exit i) τ
  | .ret => K .ret τ
 | .loop b => match T.loop f (firstId 8 b) with
  | some t => match t σ with
   | some s => loopAt P f (firstId 8 b) = b ∧ s.pre ∧ wpLAlts s.alts K
   | none => False
  | none => match C.tidy f (firstId 8 b) with
   | none => ih f b σ fun e τ => match e with
    | .normal => ih f (.loop b) τ K
    | .exit i => K (.exit i) τ
    | .ret => K .ret τ
   | some t => ih f b (σ.tidy t.head t.nloc) fun e τ => match e with
    | .normal => ih f (.loop b) τ K
    | .exit i => K (.exit i) (τ.tidy t.exit t.nloc)
    | .ret => K .ret (τ.tidy t.exit t.nloc)
 | .exit id => K (.exit id) σ
 | .ret => K .ret σ
 | .scope b => ih f b σ K
 | .label _ => K .normal σ
 | _ => False
def wpCode (T : Tab) (C : Cfg) (P : Program) (n : Nat) : RunW :=
 Nat.rec (motive := fun _ => RunW) (fun _ _ _ _ => False) (fun _ ih => wpCode1 T C P ih) n
def wpCall (T : Tab) (C : Cfg) (P : Program) (n : Nat) : CallW := wpCallB C P (wpCode T C P n)
end
end Go.Ef
namespace Go.Ef
open Go
theorem iteP_elim {q : Bool} {A B : Prop} (h : iteP q A B) : (q = true ∧ A) ∨ (q = false ∧ B) := by
 cases q with
 | true => exact .inl ⟨rfl, h⟩
 | false => exact .inr ⟨rfl, h⟩
theorem iteP_false {q : Bool} {A : Prop} (h : iteP q A False) : q = true ∧ A := by
 rcases iteP_elim h with h | h
 ·exact h
 ·exact h.2.elim
theorem iteP_intro {q : Bool} {A B : Prop} (h1 : q = true → A) (h2 : q = false → B) : iteP q A B := by
 cases q with
 | true => exact h1 rfl
 | false => exact h2 rfl
theorem cond_prop {q : Bool} {A : Prop} (h : bif q then A else False) : q = true ∧ A := by
 cases q with
 | true => exact ⟨rfl, h⟩
 | false => exact h.elim
theorem ble_of {a b : Nat} (h : a ≤ b) : Nat.ble a b = true := by rw [Nat.ble_eq]; exact h
section
variable {P : Program} {C : Cfg} {σ : St} {K : KS}
theorem wpRes_ok {r : Res} (h : wpRes r K) : ∃ s τ, r = some (s, τ) ∧ K s τ := by
 unfold wpRes at h
 split at h
 ·exact ⟨_, _, rfl, h⟩
 ·exact h.elim
theorem wpPut_ok {d : Option Nat} {s : Slot} {k : St → Prop} (h : wpPut σ d s k) : ∃ τ, σ.put d s = some τ ∧ k τ := by
 unfold wpPut at h
 split at h
 ·rename_i q
  rcases iteP_elim h with ⟨hq, h'⟩ | ⟨hq, h'⟩
  ·clear h
   subst hq
   split at h'
   ·exact ⟨_, ‹_›, h'⟩
   ·exact h'.elim
  ·clear h
   subst hq
   split at h'
   ·exact ⟨_, ‹_›, h'⟩
   ·exact h'.elim
 ·split at h
  ·exact ⟨_, ‹_›, h⟩
  ·exact h.elim
theorem wpPutN_ok {T : Tab} {f : FuncId} {d : Option Nat} {s : Slot} {k : St → Prop} (h : wpPutN T f σ d s k) : ∃ τ, σ.put d s = some τ ∧ k τ := by
 unfold wpPutN at h
 cases hn : namedAt T f d with
 | false => rw [hn] at h; exact wpPut_ok h
 | true =>
  rw [hn] at h
  simp only [cond_true] at h
  split at h
  ·exact wpPut_ok (h _ rfl)
  ·exact wpPut_ok (h _ rfl)
  ·exact wpPut_ok h
theorem wpSel_ok {n : Int} {F : Nat → Prop} : ∀ {m : Nat}, wpSel n F m → ∃ j, j < m ∧ n = (j : Int) ∧ F j := by
 intro m
 induction m with
 | zero => intro h; exact h.elim
 | succ m ih =>
  intro h
  have h : iteP (decide (n = (m : Int))) (F m) (wpSel n F m) := h
  rcases iteP_elim h with ⟨h1, h2⟩ | ⟨_, h2⟩
  ·exact ⟨m, Nat.lt_succ_self m, by simpa using h1, h2⟩
  ·obtain ⟨j, h3, h4⟩ := ih h2
   exact ⟨j, Nat.lt_succ_of_lt h3, h4⟩
theorem inRange_spec {n : Int} {m : Nat} (h : inRange n m = true) : 0 ≤ n ∧ n < m ∧ n.toNat < m := by
 simp only [inRange, Bool.and_eq_true, decide_eq_true_eq] at h
 exact ⟨h.1, h.2, by omega⟩
theorem idx_of {n : Int} {m : Nat} (h : inRange n m = true) (k : IntKind) : idx m (.sc (.int k n)) = some n.toNat := by
 obtain ⟨h1, h2, _⟩ := inRange_spec h
 unfold idx
 simp [h1, h2]
theorem idx_nat {j m : Nat} (h : j < m) (k : IntKind) : idx m (.sc (.int k (j : Int))) = some j := by
 unfold idx
 simp [h]
theorem size_list (s : ByteArray) : s.data.toList.length = s.size := Array.length_toList
theorem wpIndex_ok {t : TypeId} {x i : Operand} (h : wpIndex P σ t x i K) : ∃ s τ, opIndex P σ t x i = some (s, τ) ∧ K s τ := by
 unfold wpIndex at h
 unfold opIndex
 split at h
 ·rename_i s hs
  split at h
  ·rename_i k n hi
   obtain ⟨h1, h⟩ := cond_prop h
   obtain ⟨h2, h⟩ := iteP_false h
   refine ⟨_, _, ?_, h⟩
   have h3 := (inRange_spec h2).2.2
   rw [hs]; simp only []; rw [hi]; simp only []
   unfold indexStr
   rw [h1]
   simp only [cond_true, lenL_eq, idx_of h2, getI_eq, List.getElem?_eq_getElem h3]
   have : s.data.toList[n.toNat] = (s.data.toList[n.toNat]?).getD 0 := by rw [List.getElem?_eq_getElem h3]; rfl
   rw [this]
   rfl
  ·exact h.elim
 ·rename_i cs hs
  split at h
  ·rename_i k n hi
   split at h
   ·rename_i m e ha
    split at h
    ·rename_i z hz
     obtain ⟨j, hj, rfl, h'⟩ := wpSel_ok h
     obtain ⟨s, τ, h1, h2⟩ := wpRes_ok h'
     refine ⟨s, τ, ?_, h2⟩
     rw [hs]; simp only []; rw [hi]; simp only []
     unfold indexAgg
     rw [ha]; simp only []; rw [hz, idx_nat hj]
     exact h1
    ·exact h.elim
   ·exact h.elim
  ·exact h.elim
 ·exact h.elim
theorem optI_val {x : Option Operand} {v : Option Int} (h : optI σ x = some v) : (v = none ∧ optVal σ x = some none) ∨ ∃ n k, v = some n ∧ optVal σ x = some (some (.sc (.int k n))) := by
 cases x with
 | none => simp only [optI] at h; cases h; exact .inl ⟨rfl, rfl⟩
 | some x =>
  simp only [optI] at h
  split at h
  ·rename_i k n hx
   cases h
   exact .inr ⟨n, k, rfl, by simp only [optVal, hx]⟩
  ·cases h
theorem range_of {n : Nat} {lo hi : Option Int} {l h : Option AV} (hl : (lo = none ∧ l = none) ∨ ∃ i k, lo = some i ∧ l = some (.sc (.int k i))) (hh : (hi = none ∧ h = none) ∨ ∃ i k, hi = some i ∧ h = some (.sc (.int k i)))
  (a b : Int) (ha : a = lo.getD 0) (hb : b = hi.getD n) (h0 : 0 ≤ a) (h1 : a ≤ b) (h2 : b ≤ n) : evRange n l h = some (a.toNat, b.toNat) := by
 have e1 : bound n n h = some b.toNat := by
  rcases hh with ⟨rfl, rfl⟩ | ⟨i, k, rfl, rfl⟩
  ·simp only [Option.getD_none] at hb; subst hb; simp [bound]
  ·simp only [Option.getD_some] at hb; subst hb
   have : 0 ≤ b := by omega
   simp [bound, this, h2]
 have e2 : bound b.toNat 0 l = some a.toNat := by
  rcases hl with ⟨rfl, rfl⟩ | ⟨i, k, rfl, rfl⟩
  ·simp only [Option.getD_none] at ha; subst ha; simp [bound]
  ·simp only [Option.getD_some] at ha; subst ha
   have : a ≤ (b.toNat : Int) := by omega
   simp only [bound, h0, this, decide_true, Bool.and_self, cond_true]
 unfold evRange
 rw [e1]; simp only []; rw [e2]
theorem extract_cut (s : ByteArray) (a b : Nat) (_ : b ≤ s.data.toList.length) : s.extract a b = ⟨⟨(s.data.toList.take b).drop a⟩⟩ := by
 apply ByteArray.ext
 apply Array.ext'
 simp only [ByteArray.data_extract, Array.toList_extract, List.extract_eq_take_drop]
 rw [List.drop_take]
theorem wpCutStr_ok {s : ByteArray} {lo hi : Option Int} {l h : Option AV} (hl : (lo = none ∧ l = none) ∨ ∃ i k, lo = some i ∧ l = some (.sc (.int k i))) (hh : (hi = none ∧ h = none) ∨ ∃ i k, hi = some i ∧ h = some (.sc (.int k i)))
  (H : wpCutStr σ s.data.toList lo hi K) : ∃ a b, evRange s.size l h = some (a, b) ∧ K (.v (.sc (.string (s.extract a b)))) σ := by
 have hsz := size_list s
 unfold wpCutStr at H
 split at H
 ·split at H
  ·refine ⟨_, _, range_of hl hh 0 s.size rfl rfl (by omega) (by omega) (by omega), ?_⟩
   rw [extract_cut _ _ _ (by omega), show ((s.data.toList.take (s.size : Int).toNat).drop (0 : Int).toNat) = s.data.toList from by rw [Int.toNat_natCast, ← hsz, List.take_length]; rfl]
   exact H
  ·rename_i a
   obtain ⟨h1, H⟩ := iteP_false H
   simp only [Bool.and_eq_true, decide_eq_true_eq] at h1
   refine ⟨_, _, range_of hl hh a s.size rfl rfl (by omega) (by omega) (by omega), ?_⟩
   rw [extract_cut _ _ _ (by omega), show ((s.data.toList.take (s.size : Int).toNat).drop a.toNat) = s.data.toList.drop a.toNat from by rw [Int.toNat_natCast, ← hsz, List.take_length]]
   exact H
 ·rename_i b
  split at H
  ·obtain ⟨h1, H⟩ := iteP_false H
   simp only [Bool.and_eq_true, decide_eq_true_eq] at h1
   refine ⟨_, _, range_of hl hh 0 b rfl rfl (by omega) (by omega) (by omega), ?_⟩
   rw [extract_cut _ _ _ (by omega)]
   simpa using H
  ·rename_i a
   obtain ⟨h1, H⟩ := iteP_false H
   simp only [Bool.and_eq_true, decide_eq_true_eq] at h1
   refine ⟨_, _, range_of hl hh a b rfl rfl (by omega) (by omega) (by omega), ?_⟩
   rw [extract_cut _ _ _ (by omega)]
   exact H
theorem wpCutSl_ok {els : List (List AV)} {tok : Nat} {lo hi : Option Int} {l h : Option AV} (hl : (lo = none ∧ l = none) ∨ ∃ i k, lo = some i ∧ l = some (.sc (.int k i))) (hh : (hi = none ∧ h = none) ∨ ∃ i k, hi = some i ∧ h = some (.sc (.int k i)))
  (H : wpCutSl σ els tok lo hi K) : ∃ a b, evRange els.length l h = some (a, b) ∧ K (.v (cutS els tok a b)) σ := by
 have key : ∀ a b : Int, a = lo.getD 0 → b = hi.getD els.length → 0 ≤ a → a ≤ b → b ≤ (els.length : Int) → K (.v (cutS els tok a.toNat b.toNat)) σ → ∃ a b, evRange els.length l h = some (a, b) ∧ K (.v (cutS els tok a b)) σ :=
  fun a b h1 h2 h3 h4 h5 h6 => ⟨_, _, range_of hl hh a b h1 h2 h3 h4 h5, h6⟩
 have beqT : ∀ {a b : Nat}, a = b → Nat.beq a b = true := fun e => by subst e; exact Nat.beq_refl _
 have beqF : ∀ {a b : Nat}, a ≠ b → Nat.beq a b = false := fun {a b} e => by
  cases h : Nat.beq a b with
  | false => rfl
  | true => exact absurd (Nat.eq_of_beq_eq_true h) e
 unfold wpCutSl at H
 split at H
 ·have c0 : ∀ a b, cutS els 0 a b = .sl ((els.take b).drop a) 0 := fun a b => by unfold cutS; simp only [dropL_eq, takeL_eq]; rfl
  split at H
  ·split at H
   ·exact key 0 els.length rfl rfl (by omega) (by omega) (by omega) (by rw [c0]; simpa using H)
   ·rename_i a
    obtain ⟨h1, H⟩ := iteP_false H
    simp only [Bool.and_eq_true, decide_eq_true_eq] at h1
    exact key a els.length rfl rfl (by omega) (by omega) (by omega) (by rw [c0]; simpa using H)
  ·rename_i b
   split at H
   ·obtain ⟨h1, H⟩ := iteP_false H
    simp only [Bool.and_eq_true, decide_eq_true_eq] at h1
    exact key 0 b rfl rfl (by omega) (by omega) (by omega) (by rw [c0]; simpa using H)
   ·rename_i a
    obtain ⟨h1, H⟩ := iteP_false H
    simp only [Bool.and_eq_true, decide_eq_true_eq] at h1
    exact key a b rfl rfl (by omega) (by omega) (by omega) (by rw [c0]; exact H)
 ·rename_i tok
  have c1 : ∀ a b, cutS els (tok + 1) a b = bif Nat.beq b els.length && Nat.beq a 0 then .sl els (tok + 1) else .sl ((els.take b).drop a) 1 := fun a b => by unfold cutS; simp only [lenL_eq, dropL_eq, takeL_eq]; rfl
  split at H
  ·split at H
   ·refine key 0 els.length rfl rfl (by omega) (by omega) (by omega) ?_
    rw [c1, beqT (by simp), beqT (by simp)]
    exact H
   ·rename_i a
    obtain ⟨h1, H⟩ := iteP_false H
    simp only [Bool.and_eq_true, decide_eq_true_eq] at h1
    refine key a els.length rfl rfl (by omega) (by omega) (by omega) ?_
    rw [c1, beqT (by simp)]
    rcases iteP_elim H with ⟨h2, H⟩ | ⟨h2, H⟩
    ·simp only [decide_eq_true_eq] at h2
     rw [beqT (by omega)]
     exact H
    ·simp only [decide_eq_false_iff_not] at h2
     rw [beqF (by omega)]
     simpa using H
  ·rename_i b
   split at H
   ·obtain ⟨h1, H⟩ := iteP_false H
    simp only [Bool.and_eq_true, decide_eq_true_eq] at h1
    refine key 0 b rfl rfl (by omega) (by omega) (by omega) ?_
    rw [c1]
    rcases iteP_elim H with ⟨h2, H⟩ | ⟨h2, H⟩
    ·simp only [decide_eq_true_eq] at h2
     rw [beqT (by omega), beqT (by simp)]
     exact H
    ·simp only [decide_eq_false_iff_not] at h2
     rw [beqF (by omega)]
     simpa using H
   ·rename_i a
    obtain ⟨h1, H⟩ := iteP_false H
    simp only [Bool.and_eq_true, decide_eq_true_eq] at h1
    refine key a b rfl rfl (by omega) (by omega) (by omega) ?_
    rw [c1]
    rcases iteP_elim H with ⟨h2, H⟩ | ⟨h2, H⟩
    ·simp only [Bool.and_eq_true, decide_eq_true_eq] at h2
     rw [beqT (by omega), beqT (by omega)]
     exact H
    ·simp only [Bool.and_eq_false_iff, decide_eq_false_iff_not] at h2
     have : (Nat.beq b.toNat els.length && Nat.beq a.toNat 0) = false := by
      rcases h2 with h2 | h2
      ·rw [beqF (by omega)]; rfl
      ·rw [beqF (a := a.toNat) (by omega), Bool.and_false]
     rw [this]
     exact H
theorem optI_some {x : Option Operand} {n : Int} (h : optI σ x = some (some n)) : ∃ y k, x = some y ∧ σ.val y = some (.sc (.int k n)) := by
 cases x with
 | none => simp only [optI] at h; cases h
 | some x =>
  simp only [optI] at h
  split at h
  ·rename_i k n hx
   cases h
   exact ⟨x, k, rfl, hx⟩
  ·cases h
theorem bound_of {n d : Nat} {k : IntKind} {c : Int} (h0 : 0 ≤ c) (h1 : c ≤ (n : Int)) : bound n d (some (.sc (.int k c))) = some c.toNat := by
 show (bif decide (0 ≤ c) && decide (c ≤ n) then some c.toNat else none) = _
 rw [decide_eq_true h0, decide_eq_true h1]; rfl
theorem wpSlice3_ok {t : TypeId} {x m : Operand} {lo hi : Option Operand} (H : wpSlice P σ t x lo hi (some m) K) : ∃ s τ, opSlice P σ t x lo hi (some m) = some (s, τ) ∧ K s τ := by
 unfold wpSlice at H
 simp only [] at H
 split at H
 ·rename_i els tok hs
  split at H
  ·rename_i k hk
   obtain ⟨hhead, H⟩ := iteP_false H
   split at H
   ·rename_i l hl
    split at H
    ·rename_i b hb
     split at H
     ·rename_i c hc
      obtain ⟨hq, H3⟩ := iteP_false H
      simp only [Bool.and_eq_true, decide_eq_true_eq] at hq
      obtain ⟨q1, q2, q3, q4⟩ := hq
      obtain ⟨y, kb, rfl, hy⟩ := optI_some hb
      obtain ⟨z, kc, hz, hz2⟩ := optI_some hc
      cases hz
      have q1' : ∃ lv, optVal σ lo = some lv ∧ ((l = none ∧ lv = none) ∨ ∃ i k, l = some i ∧ lv = some (.sc (.int k i))) := by
       rcases optI_val hl with ⟨h1, h2⟩ | ⟨n, k, h1, h2⟩
       ·exact ⟨_, h2, .inl ⟨h1, rfl⟩⟩
       ·exact ⟨_, h2, .inr ⟨n, k, h1, rfl⟩⟩
      obtain ⟨lv, e1, r1⟩ := q1'
      have hr : evRange c.toNat lv (some (.sc (.int kb b))) = some ((l.getD 0).toNat, b.toNat) :=
       range_of (hi := some b) r1 (.inr ⟨b, kb, rfl, rfl⟩) (l.getD 0) b rfl rfl q1 q2 (by omega)
      refine ⟨_, _, ?_, H3⟩
      unfold opSlice opSlice3
      simp only []
      rw [hs]; simp only []; rw [e1]; simp only []; rw [hy]; simp only []; rw [hz2]
      simp only [evSlice3, hk, bound_of (n := els.length) (d := 0) (k := kc) (show 0 ≤ c by omega) q4, hr, hhead]
      rfl
     ·exact H.elim
    ·exact H.elim
   ·exact H.elim
  ·exact H.elim
 ·exact wpRes_ok H
theorem wpSlice_ok {t : TypeId} {x : Operand} {lo hi mx : Option Operand} (H : wpSlice P σ t x lo hi mx K) : ∃ s τ, opSlice P σ t x lo hi mx = some (s, τ) ∧ K s τ := by
 cases mx with
 | some m => exact wpSlice3_ok H
 | none =>
 unfold wpSlice at H
 split at H
 ·rename_i e; cases e
 ·split at H
  ·rename_i s hs
   split at H
   ·rename_i hu
    split at H
    ·rename_i l hl
     split at H
     ·rename_i h hh
      have hl := optI_val hl
      have hh := optI_val hh
      have q1 : ∃ lv, optVal σ lo = some lv ∧ ((l = none ∧ lv = none) ∨ ∃ i k, l = some i ∧ lv = some (.sc (.int k i))) := by
       rcases hl with ⟨h1, h2⟩ | ⟨n, k, h1, h2⟩
       ·exact ⟨_, h2, .inl ⟨h1, rfl⟩⟩
       ·exact ⟨_, h2, .inr ⟨n, k, h1, rfl⟩⟩
      have q2 : ∃ hv, optVal σ hi = some hv ∧ ((h = none ∧ hv = none) ∨ ∃ i k, h = some i ∧ hv = some (.sc (.int k i))) := by
       rcases hh with ⟨h1, h2⟩ | ⟨n, k, h1, h2⟩
       ·exact ⟨_, h2, .inl ⟨h1, rfl⟩⟩
       ·exact ⟨_, h2, .inr ⟨n, k, h1, rfl⟩⟩
      obtain ⟨lv, e1, r1⟩ := q1
      obtain ⟨hv, e2, r2⟩ := q2
      obtain ⟨a, b, hr, hk⟩ := wpCutStr_ok r1 r2 H
      refine ⟨_, _, ?_, hk⟩
      unfold opSlice
      simp only []
      rw [hs]; simp only []; rw [e1, e2]
      simp only [evSlice, lenL_eq, cutB_eq, hu, size_list, hr]
      rfl
     ·exact H.elim
    ·exact H.elim
   ·exact H.elim
  ·rename_i els tok hs
   split at H
   ·rename_i k hk
    obtain ⟨hhead, H⟩ := iteP_false H
    split at H
    ·rename_i l hl
     split at H
     ·rename_i h hh
      have hl := optI_val hl
      have hh := optI_val hh
      have q1 : ∃ lv, optVal σ lo = some lv ∧ ((l = none ∧ lv = none) ∨ ∃ i k, l = some i ∧ lv = some (.sc (.int k i))) := by
       rcases hl with ⟨h1, h2⟩ | ⟨n, k, h1, h2⟩
       ·exact ⟨_, h2, .inl ⟨h1, rfl⟩⟩
       ·exact ⟨_, h2, .inr ⟨n, k, h1, rfl⟩⟩
      have q2 : ∃ hv, optVal σ hi = some hv ∧ ((h = none ∧ hv = none) ∨ ∃ i k, h = some i ∧ hv = some (.sc (.int k i))) := by
       rcases hh with ⟨h1, h2⟩ | ⟨n, k, h1, h2⟩
       ·exact ⟨_, h2, .inl ⟨h1, rfl⟩⟩
       ·exact ⟨_, h2, .inr ⟨n, k, h1, rfl⟩⟩
      obtain ⟨lv, e1, r1⟩ := q1
      obtain ⟨hv, e2, r2⟩ := q2
      obtain ⟨a, b, hr, hk'⟩ := wpCutSl_ok r1 r2 H
      refine ⟨_, _, ?_, hk'⟩
      unfold opSlice
      simp only []
      rw [hs]; simp only []; rw [e1, e2]
      simp only [evSlice, lenL_eq, hk, hr, hhead]
      rfl
     ·exact H.elim
    ·exact H.elim
   ·exact H.elim
  ·exact wpRes_ok H
theorem wpIndexAddr_ok {T : Tab} {f : FuncId} {d : Option Nat} {t : TypeId} {x i : Operand} (H : wpIndexAddr T P f d σ t x i K) : ∃ s τ, opIndexAddr P σ t x i = some (s, τ) ∧ K s τ := by
 unfold wpIndexAddr at H
 cases hex : exactAt T f d with
 | true => rw [hex] at H; exact wpRes_ok H
 | false =>
  rw [hex] at H
  simp only [cond_false] at H
  split at H
  ·rename_i els tok hs
   split at H
   ·rename_i k n hi
    split at H
    ·rename_i e he
     split at H
     ·rename_i z hz
      split at H
      ·rename_i ks hks
       obtain ⟨h1, H⟩ := cond_prop H
       obtain ⟨h2, h3, h4⟩ := iteP_false H
       refine ⟨_, _, ?_, h4⟩
       unfold opIndexAddr
       rw [hs]; simp only []; rw [hi]; simp only []
       unfold addrSl
       rw [he]; simp only []; rw [hz, lenL_eq, idx_of h2]; simp only []; rw [h3]; simp only []
       rw [lenL_eq, h1]; rfl
      ·exact wpRes_ok H
     ·exact H.elim
    ·exact H.elim
   ·exact H.elim
  ·rename_i k off hs
   split at H
   ·rename_i k' n hi
    split at H
    ·rename_i m e ha
     split at H
     ·rename_i z hz
      obtain ⟨j, hj, rfl, h⟩ := wpSel_ok H
      clear H
      split at h
      ·rename_i p hp
       refine ⟨_, _, ?_, h⟩
       unfold opIndexAddr
       rw [hs]; simp only []; rw [hi]; simp only []
       unfold addrA
       rw [ha]; simp only []; rw [hz, idx_nat hj]; simp only []
       rw [hp]
      ·exact h.elim
     ·exact H.elim
    ·exact H.elim
   ·exact H.elim
  ·rename_i g off hs
   split at H
   ·rename_i k' n hi
    split at H
    ·rename_i m e ha
     split at H
     ·rename_i z hz
      obtain ⟨j, hj, rfl, h⟩ := wpSel_ok H
      clear H
      split at h
      ·rename_i p hp
       refine ⟨_, _, ?_, h⟩
       unfold opIndexAddr
       rw [hs]; simp only []; rw [hi]; simp only []
       unfold addrA
       rw [ha]; simp only []; rw [hz, idx_nat hj]; simp only []
       rw [hp]
      ·exact h.elim
     ·exact H.elim
    ·exact H.elim
   ·exact H.elim
  ·rename_i id off len k hs
   split at H
   ·rename_i k' n hi
    split at H
    ·rename_i e he
     split at H
     ·rename_i z hz
      obtain ⟨h1, H⟩ := cond_prop H
      obtain ⟨h2, h3⟩ := iteP_false H
      refine ⟨_, _, ?_, h3⟩
      unfold opIndexAddr
      rw [hs]; simp only []; rw [hi]; simp only []
      unfold addrR
      rw [he]; simp only []; rw [hz, idx_of h2]; simp only []; rw [h1]; rfl
     ·exact H.elim
    ·exact H.elim
   ·exact H.elim
  ·exact wpRes_ok H
end
end Go.Ef
namespace Go.Ef
open Go
section
variable {P : Program} {C : Cfg} {σ : St} {K : KS}
theorem str_run {P : Program} {op : BinOp} {t : TypeId} {x y : Operand} {a b : ByteArray} {v : Value} (h : pureRun P (Op.stringOp op a b) = some v) (h1 : op ≠ .shl) (h2 : op ≠ .shr) : scOp P (do eqGuard op t x y (.string a) (.string b); binOp op t (.string a) (.string b)) = ofVal 2 v := by
 have e1 : pureRun P (do eqGuard op t x y (.string a) (.string b); binOp op t (.string a) (.string b)) = some v := by
  cases op <;> first | exact absurd rfl h1 | exact absurd rfl h2 | exact h
 unfold scOp
 rw [e1]
theorem wpBin_ok {op : BinOp} {t : TypeId} {x y : Operand} (h : wpBin P σ op t x y K) : ∃ s τ, opBin P σ op t x y = some (s, τ) ∧ K s τ := by
 unfold wpBin at h
 split at h
 ·rename_i a ha
  split at h
  ·rename_i b hb
   have key : ∀ v r, pureRun P (Op.stringOp op a b) = some v → op ≠ .shl → op ≠ .shr → ofVal 2 v = some (.sc r) → K (.v (.sc r)) σ → ∃ s τ, opBin P σ op t x y = some (s, τ) ∧ K s τ := by
    intro v r hv h1 h2 hr hk
    refine ⟨_, _, ?_, hk⟩
    unfold opBin
    rw [ha]; simp only []; rw [hb]; simp only []
    unfold evBin evBinS
    simp only []
    cases hs : strBin op a b with
    | some v' =>
     obtain ⟨g1, g2, _, _⟩ := strBin_spec (P := P) hs
     rw [hv] at g1
     cases g1
     have : ofVal 2 v = some (.sc v) := by
      rcases strBin_kind hs with ⟨x, e⟩ | ⟨x, e⟩ <;> (subst e; rfl)
     rw [hr] at this
     cases this
     rfl
    | none =>
     unfold evBinG
     simp only [toVal]
     rw [str_run hv h1 h2, hr]
     rfl
   have eqd : ∀ l m : List UInt8, (l == m) = decide (l = m) := fun l m => by
    by_cases e : l = m
    ·subst e; simp
    ·simp [e]
   have heq : (a.toList == b.toList) = decide (a.data.toList = b.data.toList) := by rw [Lib.toList_data, Lib.toList_data, eqd]
   unfold wpBinStr at h
   split at h
   ·obtain ⟨h1, h2⟩ := iteP_false h
    have h1 : (a.data.toList.length : Int) + b.data.toList.length ≤ 9223372036854775807 := strFits_iff ▸ h1
    refine key (.string (a ++ b)) (.string (a ++ b)) ?_ (by simp) (by simp) rfl ?_
    ·rw [size_list, size_list] at h1
     have : ¬ ((a.size + b.size : Nat) : Int) > IntKind.i64.max := by
      have : IntKind.i64.max = 9223372036854775807 := by decide
      omega
     simp only [Op.stringOp, if_neg this]
     rfl
    ·have : (a ++ b : ByteArray) = ⟨⟨a.data.toList ++ b.data.toList⟩⟩ := by
      apply ByteArray.ext
      apply Array.ext'
      simp
     rw [this]; exact h2
   ·exact key _ _ rfl (by simp) (by simp) rfl (by rw [heq]; exact h)
   ·refine key _ _ rfl (by simp) (by simp) rfl ?_
    have : (!(a.toList == b.toList)) = decide (a.data.toList ≠ b.data.toList) := by rw [heq]; simp
    rw [this]; exact h
   ·exact key _ _ rfl (by simp) (by simp) rfl (by rw [Lib.toList_data, Lib.toList_data]; exact h)
   ·exact key _ _ rfl (by simp) (by simp) rfl (by rw [heq, Lib.toList_data, Lib.toList_data]; exact h)
   ·exact key _ _ rfl (by simp) (by simp) rfl (by rw [heq, Lib.toList_data, Lib.toList_data]; exact h)
   ·exact key _ _ rfl (by simp) (by simp) rfl (by rw [Lib.toList_data, Lib.toList_data]; exact h)
   ·exact h.elim
  ·exact h.elim
 ·exact wpRes_ok h
theorem byteD_mapO : ∀ (els : List (List AV)), els.all isByteCell = true → mapO byteOf els = some (els.map byteD) := by
 intro els
 induction els with
 | nil => intro _; rfl
 | cons e els ih =>
  intro h
  simp only [List.all_cons, Bool.and_eq_true] at h
  rw [mapO_cons, ih h.2]
  have : byteOf e = some (byteD e) := by
   have := h.1
   simp only [isByteCell, Bool.and_eq_true] at this
   unfold byteD
   cases hb : byteOf e with
   | none => rw [hb] at this; cases this.2
   | some b => rfl
  rw [this]; rfl
theorem u8_cell {a : AV} (h : isU8 a = true) : ∃ v : Int, a = .sc (.int .u8 v) := by
 unfold isU8 at h
 split at h
 ·exact ⟨_, rfl⟩
 ·cases h
theorem chunks_u8 : ∀ (n : Nat) (cs : List AV), cs.length = n → (∀ a ∈ cs, isU8 a = true) → mapO byteOf (chunks n 1 cs) = some (cs.map u8B) := by
 intro n
 induction n with
 | zero => intro cs h _; cases cs with
  | nil => rfl
  | cons a r => cases h
 | succ n ih =>
  intro cs h hu
  cases cs with
  | nil => cases h
  | cons a r =>
   obtain ⟨v, rfl⟩ := u8_cell (hu a (List.mem_cons_self ..))
   have := ih r (by simpa using h) (fun b hb => hu b (List.mem_cons_of_mem _ hb))
   show mapO byteOf ([AV.sc (.int .u8 v)] :: chunks n 1 r) = _
   rw [mapO_cons, this]
   rfl
theorem isU8T_spec {t : TypeId} (h : isU8T P t = true) : P.underlying t = some (.int .u8) := by
 unfold isU8T at h
 split at h
 ·assumption
 ·cases h
theorem wpConv_ok {f : FuncId} {p : Option Nat} {s d : TypeId} {x : Operand} (h : wpConv C P σ f p s d x K) : ∃ q τ, opConv C P σ f p s d x = some (q, τ) ∧ K q τ := by
 unfold wpConv at h
 split at h
 ·rename_i id off len k hx
  split at h
  ·rename_i e h1 h2
   obtain ⟨h3, hb⟩ := cond_prop h
   clear h
   simp only [Bool.and_eq_true] at h3
   obtain ⟨h3, h4⟩ := h3
   have h3 := isU8T_spec h3
   have h4 : k = 1 := Nat.eq_of_beq_eq_true h4
   subst h4
   split at hb
   ·rename_i cs hg
    obtain ⟨h5, h6⟩ := iteP_false hb
    refine ⟨_, _, ?_, h6⟩
    simp only [endCells, Bool.and_eq_true] at h5
    obtain ⟨h5, h7⟩ := h5
    have hst : stretch off (len * 1) cs = some (cutC cs off len) := by
     rw [stretch_eq]
     rw [Nat.mul_one, h5]; rfl
    have hlen : (cutC cs off len).length = len := by
     have := Nat.le_of_ble_eq_true h5
     simp [cutC]; omega
    unfold opConv
    rw [hx]; simp only []
    unfold evConvert
    rw [h1, h2]; simp only [St.elems]
    rw [show Nat.beq 1 1 = true from rfl, cond_true, hg]; simp only []
    rw [hst]
    simp only [Option.map_some, isSlice, cond_true]
    unfold bytesOf
    rw [h3]; simp only []
    rw [chunks_u8 len _ hlen (fun a ha => List.all_eq_true.1 h7 a (List.mem_of_mem_drop (List.mem_of_mem_take ha)))]
    rfl
   ·exact hb.elim
  ·exact h.elim
 ·rename_i els tok hx
  split at h
  ·rename_i e h1 h2
   split at h
   ·rename_i h3
    obtain ⟨h4, h5⟩ := iteP_false h
    refine ⟨_, _, ?_, h5⟩
    have hall : els.all (fun e => Nat.beq e.length 1) = true := by
     rw [List.all_eq_true] at h4 ⊢
     intro e he
     have := h4 e he
     simp only [isByteCell, Bool.and_eq_true] at this
     exact this.1
    unfold opConv
    rw [hx]; simp only []
    unfold evConvert
    rw [h1, h2]; simp only [St.elems, hall, cond_true, isSlice]
    unfold bytesOf
    rw [h3]; simp only []; rw [byteD_mapO els h4]
    rfl
   ·exact h.elim
  ·exact h.elim
 ·rename_i b hx
  split at h
  ·rename_i e h1 h2
   split at h
   ·rename_i h3
    cases hm : C.is f p 1 with
    | true =>
     rw [hm] at h
     simp only [cond_true] at h
     obtain ⟨h4, h5⟩ := iteP_false h
     refine ⟨_, _, ?_, h5⟩
     unfold opConv
     rw [hx]; simp only []
     unfold evConvert
     rw [h1, h2]; simp only []
     unfold toBytes
     rw [h3]; simp only []
     rw [size_list] at h4
     rw [h4]
     simp only [cond_true, St.newSlice, hm, St.newR]
     rw [show (byteEls b).flatten = b.data.toList.map fun b => AV.sc (.int .u8 b.toNat) from byteEls_flat _, show (byteEls b).length = b.data.toList.length by simp [byteEls]]
     rfl
    | false =>
     rw [hm] at h
     simp only [cond_false] at h
     cases hm6 : C.is f p 6 with
     | true => rw [hm6] at h; exact h.elim
     | false =>
     rw [hm6] at h
     simp only [cond_false] at h
     obtain ⟨h4, h5⟩ := iteP_false h
     refine ⟨_, _, ?_, h5⟩
     unfold opConv
     rw [hx]; simp only []
     unfold evConvert
     rw [h1, h2]; simp only []
     unfold toBytes
     rw [h3]; simp only []
     rw [size_list] at h4
     rw [h4]
     simp only [cond_true, St.newSlice, hm, hm6]
     rfl
   ·exact h.elim
  ·exact wpRes_ok h
 ·exact wpRes_ok h
theorem one_at {cs : List AV} {off : Nat} (h : off < cs.length) : stretch off 1 cs = some [cs[off]] := by
 rw [stretch_eq]
 rw [ble_of (show off + 1 ≤ cs.length by omega)]
 simp only [cond_true]
 rw [List.drop_eq_getElem_cons h]; rfl
theorem isStringT_spec {t : TypeId} (h : isStringT P t = true) : P.underlying t = some .string := by
 unfold isStringT at h
 split at h
 ·assumption
 ·cases h
theorem wpLoad_ok {T : Tab} {f : FuncId} {d : Option Nat} {t : TypeId} {a : Operand} (h : wpLoad T C P σ f d t a K) : ∃ q τ, opLoad C P σ f d t a = some (q, τ) ∧ K q τ := by
 unfold wpLoad at h
 split at h
 ·rename_i id off hs
  cases hq : (T.sym f && !(C.is f d 3 || C.is f d 5)) && isU8T P t with
  | false =>
   rw [hq] at h
   simp only [cond_false] at h
   cases hs2 : (T.symS f d && !(C.is f d 3 || C.is f d 5)) && isStringT P t with
   | false => rw [hs2] at h; exact wpRes_ok h
   | true =>
    rw [hs2] at h
    simp only [cond_true] at h
    simp only [Bool.and_eq_true, Bool.not_eq_true'] at hs2
    obtain ⟨⟨_, h3⟩, ht⟩ := hs2
    have ht := isStringT_spec ht
    simp only [Bool.or_eq_false_iff] at h3
    obtain ⟨h1, h2⟩ := iteP_false h
    refine ⟨_, _, ?_, h2⟩
    unfold opLoad
    rw [hs]; simp only []
    rw [h3.1, h3.2]
    unfold hasStr at h1
    unfold strIn
    split at h1
    ·rename_i cs hg
     split at h1
     ·rename_i b hb
      obtain ⟨hlt, hv⟩ := List.getElem?_eq_some_iff.1 hb
      simp only [Bool.false_and, Bool.or_self, cond_false, St.load, isAggT, ht, St.read, hg, one_at hlt, hv]
      rfl
     ·cases h1
    ·cases h1
  | true =>
   rw [hq] at h
   simp only [cond_true] at h
   simp only [Bool.and_eq_true, Bool.not_eq_true'] at hq
   obtain ⟨⟨_, h3⟩, ht⟩ := hq
   have ht := isU8T_spec ht
   simp only [Bool.or_eq_false_iff] at h3
   split at h
   ·rename_i cs hg
    obtain ⟨h1, h2⟩ := iteP_false h
    simp only [inCells, Bool.and_eq_true] at h1
    have hlt : off < cs.length := Nat.le_of_ble_eq_true h1.1
    obtain ⟨v, hv⟩ := u8_cell (List.all_eq_true.1 h1.2 cs[off] (List.getElem_mem hlt))
    refine ⟨_, _, ?_, h2⟩
    unfold opLoad
    rw [hs]; simp only []
    rw [h3.1, h3.2]
    simp only [Bool.false_and, Bool.or_self, cond_false, St.load, isAggT, ht, St.read, hg, one_at hlt]
    have : u8V cs off = v := by unfold u8V; rw [List.getElem?_eq_getElem hlt, hv]
    rw [this, hv]; rfl
   ·exact h.elim
 ·exact wpRes_ok h
theorem splice_one {cs : List AV} {off : Nat} {v : AV} (hlt : off < cs.length) : splice off [v] cs = some (setC cs off v) := by
 rw [splice_eq]
 rw [show off + [v].length = off + 1 from rfl, ble_of (show off + 1 ≤ cs.length by omega)]
 simp only [cond_true, setC]
 rw [List.set_eq_take_append_cons_drop, if_pos hlt]; simp
theorem wpStore_ok {T : Tab} {f : FuncId} {t : TypeId} {a x : Operand} (h : wpStore T C P σ f t a x K) : ∃ q τ, opStore C P σ f t a x = some (q, τ) ∧ K q τ := by
 unfold wpStore at h
 split at h
 ·rename_i id off hs
  cases hq : (T.sym f && !isW C f a && isU8T P t) && (sizeT P t).any (Nat.beq 1) with
  | false =>
   rw [hq] at h
   simp only [cond_false] at h
   cases hs2 : (T.symN f && !isW C f a && isStringT P t) && (sizeT P t).any (Nat.beq 1) with
   | false => rw [hs2] at h; exact wpRes_ok h
   | true =>
    rw [hs2] at h
    simp only [cond_true] at h
    simp only [Bool.and_eq_true] at hs2
    obtain ⟨⟨⟨_, hnw⟩, _⟩, hz⟩ := hs2
    have hz : sizeT P t = some 1 := by
     cases he : sizeT P t with
     | none => rw [he] at hz; cases hz
     | some n => rw [he] at hz; rw [Nat.eq_of_beq_eq_true hz]
    split at h
    ·rename_i n hx
     split at h
     ·rename_i cs hg
      split at h
      ·rename_i hp hput
       obtain ⟨h1, h2⟩ := iteP_false h
       have hlt : off < cs.length := Nat.le_of_ble_eq_true h1
       refine ⟨_, _, ?_, h2⟩
       have hsp : splice off [AV.sc (.string n)] cs = some (setC cs off (.sc (.string n))) := splice_one hlt
       unfold opStore
       rw [hs]; simp only []; rw [hx]; simp only []; rw [hz]; simp only []
       rw [show Nat.beq (AV.sc (.string n)).cells.length 1 = true from rfl, show wOk C f a (.v (.ptr id off)) = true by unfold wOk; rw [hnw]; rfl, Bool.and_self, cond_true]
       simp only [St.write, hg, AV.cells, hsp]
       rw [show [AV.sc (.string n)].all AV.one = true from rfl, cond_true]
       simp only [hput]
       rfl
      ·exact h.elim
     ·exact h.elim
    ·exact h.elim
  | true =>
   rw [hq] at h
   simp only [cond_true] at h
   simp only [Bool.and_eq_true] at hq
   obtain ⟨⟨⟨_, hnw⟩, _⟩, hz⟩ := hq
   have hz : sizeT P t = some 1 := by
    cases he : sizeT P t with
    | none => rw [he] at hz; cases hz
    | some n => rw [he] at hz; rw [Nat.eq_of_beq_eq_true hz]
   split at h
   ·rename_i n hx
    split at h
    ·rename_i cs hg
     split at h
     ·rename_i hp hput
      obtain ⟨h1, h2⟩ := iteP_false h
      have hlt : off < cs.length := Nat.le_of_ble_eq_true h1
      refine ⟨_, _, ?_, h2⟩
      have hsp : splice off [AV.sc (.int .u8 n)] cs = some (setC cs off (.sc (.int .u8 n))) := by
       rw [splice_eq]
       rw [show off + [AV.sc (.int .u8 n)].length = off + 1 from rfl, ble_of (show off + 1 ≤ cs.length by omega)]
       simp only [cond_true, setC]
       rw [List.set_eq_take_append_cons_drop, if_pos hlt]; simp
      unfold opStore
      rw [hs]; simp only []; rw [hx]; simp only []; rw [hz]; simp only []
      rw [show Nat.beq (AV.sc (.int .u8 n)).cells.length 1 = true from rfl, show wOk C f a (.v (.ptr id off)) = true by unfold wOk; rw [hnw]; rfl, Bool.and_self, cond_true]
      simp only [St.write, hg, AV.cells, hsp]
      rw [show [AV.sc (.int .u8 n)].all AV.one = true from rfl, cond_true]
      simp only [hput]
      rfl
     ·exact h.elim
    ·exact h.elim
   ·exact h.elim
 ·exact wpRes_ok h
theorem flat_one {els : List (List AV)} (h : els.all (fun e => Nat.beq e.length 1) = true) : els.flatten.length = els.length := by
 induction els with
 | nil => rfl
 | cons e r ih =>
  simp only [List.all_cons, Bool.and_eq_true] at h
  have h1 := Nat.eq_of_beq_eq_true h.1
  rw [List.flatten_cons, List.length_append, ih h.2, List.length_cons, h1]; omega
theorem flat_rep (n : Nat) (z : AV) : (List.replicate n [z]).flatten = List.replicate n z := by
 induction n with
 | zero => rfl
 | succ n ih => rw [List.replicate_succ, List.flatten_cons, ih, List.replicate_succ]; rfl
theorem wpMake_ok {T : Tab} {f : FuncId} {d : Option Nat} {t : TypeId} {x y : Operand} (h : wpMake T C P σ f d t x y K) : ∃ q τ, opMakeSlice C P σ f d t x y = some (q, τ) ∧ K q τ := by
 unfold wpMake at h
 cases hs : T.symN f with
 | false => rw [hs] at h; exact wpRes_ok h
 | true =>
  rw [hs] at h
  simp only [cond_true] at h
  split at h
  ·rename_i _ l _ c e hx hy he
   split at h
   ·rename_i i z hi hz
    cases h2 : C.is f d 2 with
    | true => rw [h2] at h; exact h.elim
    | false =>
     rw [h2] at h
     simp only [cond_false] at h
     cases hq : Nat.beq i.size 1 && (Nat.beq z.cells.length 1 && z.one) with
     | false => rw [hq] at h; exact h.elim
     | true =>
      rw [hq] at h
      simp only [cond_true] at h
      simp only [Bool.and_eq_true] at hq
      obtain ⟨q1, q2, q3⟩ := hq
      have q1 := Nat.eq_of_beq_eq_true q1
      have hzc : z.cells = [z] := by
       have q2 := Nat.eq_of_beq_eq_true q2
       cases z <;> first | rfl | (simp [AV.one] at q3)
      obtain ⟨hb, h⟩ := iteP_false h
      simp only [Bool.and_eq_true] at hb
      obtain ⟨hb, hb2⟩ := hb
      unfold opMakeSlice
      rw [hx, hy, he]
      simp only []
      rw [show (decide (0 ≤ l) && decide (l ≤ c) && decide (c ≤ (maxRoom : Int))) = true by simp only [Bool.and_eq_true]; exact hb, cond_true]
      unfold makeS
      rw [hi, hz]
      simp only []
      rw [hb2, q1, hzc]
      rw [show (true && Nat.beq [z].length 1 && Nat.ble 1 1) = true from rfl, cond_true, h2]
      rcases iteP_elim h with ⟨h0, h⟩ | ⟨h0, h⟩
      ·rw [h0, Bool.or_true, cond_true, Nat.eq_of_beq_eq_true h0]
       exact ⟨_, _, rfl, h⟩
      ·rw [h0, Bool.or_false, cond_false]
       refine ⟨_, _, rfl, ?_⟩
       unfold St.newR
       rw [flat_rep, List.length_replicate, St.setH_eq]
       exact h
   ·exact h.elim
  ·exact h.elim
theorem wpCopyTo_ok {id off n : Nat} {els : List (List AV)} (hl : els.all (fun e => Nat.beq e.length 1) = true) (h : wpCopyTo σ id off els.flatten K) : ∃ q τ, copyR σ 1 (.rsl id off n 1) els = some (q, τ) ∧ K q τ := by
 unfold wpCopyTo at h
 split at h
 ·rename_i cs hg
  split at h
  ·rename_i h' hput
   obtain ⟨hf, h⟩ := iteP_false h
   simp only [fitC, Bool.and_eq_true] at hf
   have he : els.flatten.isEmpty = els.isEmpty := by
    have := flat_one hl
    cases els with
    | nil => rfl
    | cons e r =>
     cases hh : (e :: r).flatten with
     | nil => rw [hh] at this; simp at this
     | cons _ _ => rfl
   rw [he] at h
   unfold copyR
   rcases iteP_elim h with ⟨h0, h⟩ | ⟨h0, h⟩
   ·rw [h0, cond_true]; exact ⟨_, _, rfl, h⟩
   ·rw [h0, cond_false]
    simp only []
    rw [show Nat.beq 1 1 = true from rfl, cond_true]
    simp only [St.write, hg]
    have hsp : splice off els.flatten cs = some (overC cs off els.flatten) := by
     rw [splice_eq, hf.1]; rfl
    rw [hsp]
    simp only []
    rw [hf.2, cond_true]
    simp only [hput]
    refine ⟨_, _, rfl, ?_⟩
    rw [flat_one hl] at h
    rw [St.setH_eq]
    exact h
  ·exact h.elim
 ·exact h.elim
theorem chunks_one : ∀ (n : Nat) (cs : List AV), cs.length = n → (chunks n 1 cs).all (fun e => Nat.beq e.length 1) = true := by
 intro n
 induction n with
 | zero => intro cs _; rfl
 | succ n ih =>
  intro cs h
  cases cs with
  | nil => cases h
  | cons a r =>
   simp only [chunks, List.all_cons, Bool.and_eq_true]
   exact ⟨rfl, ih r (by simpa using h)⟩
theorem all_take {els : List (List AV)} {n : Nat} (h : els.all (fun e => Nat.beq e.length 1) = true) : (els.take n).all (fun e => Nat.beq e.length 1) = true :=
 List.all_eq_true.2 fun e he => List.all_eq_true.1 h e (List.mem_of_mem_take he)
theorem flat_take : ∀ (els : List (List AV)) (n : Nat), els.all (fun e => Nat.beq e.length 1) = true → (els.take n).flatten = els.flatten.take n := by
 intro els
 induction els with
 | nil => intro n _; simp
 | cons e r ih =>
  intro n h
  cases n with
  | zero => simp
  | succ n =>
   simp only [List.all_cons, Bool.and_eq_true] at h
   have h1 := Nat.eq_of_beq_eq_true h.1
   match e, h1 with
   | [a], _ => simp [ih n h.2]
theorem wpCopy_ok {T : Tab} {f : FuncId} {types : Array TypeId} {dst src : AV} (h : wpCopy T P σ f types dst src K) : ∃ q τ, evCopy P σ types dst src = some (q, τ) ∧ K q τ := by
 unfold wpCopy at h
 cases hs : T.symN f with
 | false => rw [hs] at h; exact wpRes_ok h
 | true =>
  rw [hs] at h
  simp only [cond_true] at h
  split at h
  ·rename_i t ht
   split at h
   ·rename_i e he
    cases hz : (sizeT P e).any (Nat.beq 1) with
    | false => rw [hz] at h; exact h.elim
    | true =>
     rw [hz] at h
     simp only [cond_true] at h
     have hz : sizeT P e = some 1 := by
      cases hh : sizeT P e with
      | none => rw [hh] at hz; cases hz
      | some n => rw [hh] at hz; rw [Nat.eq_of_beq_eq_true hz]
     split at h
     ·rename_i id off n k
      cases hk : Nat.beq k 1 with
      | false => rw [hk] at h; exact h.elim
      | true =>
       rw [hk] at h
       simp only [cond_true] at h
       obtain rfl := Nat.eq_of_beq_eq_true hk
       split at h
       ·rename_i els tok
        obtain ⟨hl, h⟩ := iteP_false h
        obtain ⟨q, τ, h1, h2⟩ := wpCopyTo_ok (n := n) (all_take (n := n) hl) h
        refine ⟨q, τ, ?_, h2⟩
        unfold evCopy
        rw [ht]; simp only []; rw [he]; simp only []; rw [hz]; simp only []
        rw [show Nat.beq 1 0 = false from rfl, cond_false]
        simp only [St.elems, lenA]
        rw [hl, cond_true]
        simp only [isSlice, cond_true]
        exact h1
       ·rename_i id' off' len' k'
        cases hk' : Nat.beq k' 1 with
        | false => rw [hk'] at h; exact h.elim
        | true =>
         rw [hk'] at h
         simp only [cond_true] at h
         obtain rfl := Nat.eq_of_beq_eq_true hk'
         split at h
         ·rename_i cs' hg
          obtain ⟨hle, h⟩ := iteP_false h
          have hlen : ((cs'.drop off').take len').length = len' := by
           have := Nat.le_of_ble_eq_true hle
           simp; omega
          have hall := chunks_one len' ((cs'.drop off').take len') hlen
          have hfl : ((chunks len' 1 ((cs'.drop off').take len')).take n).flatten = cutC cs' off' (min n len') := by
           rw [flat_take _ _ hall, chunks_flatten 1 len' _ (by omega)]
           unfold cutC
           rw [List.take_take]
          rw [← hfl] at h
          obtain ⟨q, τ, h1, h2⟩ := wpCopyTo_ok (n := n) (all_take (n := n) hall) h
          refine ⟨q, τ, ?_, h2⟩
          unfold evCopy
          rw [ht]; simp only []; rw [he]; simp only []; rw [hz]; simp only []
          rw [show Nat.beq 1 0 = false from rfl, cond_false]
          simp only [St.elems, lenA]
          rw [show Nat.beq 1 1 = true from rfl, cond_true]
          simp only [hg]
          rw [stretch_eq, Nat.mul_one, hle, cond_true]
          simp only [Option.map_some, isSlice, cond_true]
          exact h1
         ·exact h.elim
       ·refine ⟨_, _, ?_, h⟩
        unfold evCopy
        rw [ht]; simp only []; rw [he]; simp only []; rw [hz]; simp only []
        rw [show Nat.beq 1 0 = false from rfl, cond_false]
        simp only [St.elems, lenA, isSlice, cond_true, List.take_nil, copyR]
        rfl
       ·exact wpRes_ok h
     ·split at h
      ·exact h.elim
      ·exact h.elim
      ·exact wpRes_ok h
   ·exact h.elim
  ·exact h.elim
theorem wpElems_ok {k : Nat} {x : AV} {k' : List (List AV) → Prop} (h : wpElems σ k x k') : ∃ els, σ.elems k x = some els ∧ k' els := by
 unfold wpElems at h
 split at h
 ·rename_i els tok
  obtain ⟨h1, h2⟩ := iteP_false h
  exact ⟨els, by simp only [St.elems, h1, cond_true], h2⟩
 ·rename_i s
  obtain ⟨h1, h2⟩ := cond_prop h
  exact ⟨_, by simp only [St.elems, h1, cond_true], h2⟩
 ·split at h
  ·exact ⟨_, ‹_›, h⟩
  ·exact h.elim
theorem wpAppendO_ok {e : TypeId} {i : TypeInfo} {els : List (List AV)} {tok : Nat} {new : List (List AV)} (h : wpAppendO σ e i els tok new K) : ∃ s τ, appendO σ e i els tok new = some (s, τ) ∧ K s τ := by
 unfold wpAppendO at h
 obtain ⟨h1, h⟩ := iteP_false h
 have h1 : (headLen i.size els && fits (els.length + new.length) i.bytes) = true := by
  simp only [Bool.and_eq_true] at h1 ⊢
  refine ⟨?_, h1.2⟩
  cases els with
  | nil => rfl
  | cons e es =>
   have := List.all_eq_true.1 h1.1 e (by simp)
   exact this
 unfold appendO
 simp only [lenL_eq, appL_eq]
 rw [h1]
 simp only [cond_true]
 split at h
 ·exact h.elim
 ·simp only []
  split at h
  ·rename_i k e' n hg
   rw [hg]
   simp only []
   obtain ⟨h2, h⟩ := cond_prop h
   obtain ⟨h3, h⟩ := iteP_false h
   have h3 : els.length = n := by simpa using h3
   rw [h2, show Nat.beq els.length n = true by rw [h3]; exact Nat.beq_refl _]
   simp only [cond_true, Bool.and_self]
   split at h
   ·rename_i hh hp
    rw [hp]
    exact ⟨_, _, rfl, h⟩
   ·exact h.elim
  ·exact h.elim
theorem wpAppendS_ok {f : FuncId} {d : Option Nat} {e : TypeId} {i : TypeInfo} {s : AV} {new : List (List AV)} (h : wpAppendS C σ f d e i s new K) : ∃ q τ, appendS C σ f d e i s new = some (q, τ) ∧ K q τ := by
 unfold wpAppendS at h
 split at h
 ·rcases iteP_elim h with ⟨h1, h2⟩ | ⟨h1, h2⟩
  ·exact ⟨_, _, by simp only [appendS, h1, cond_true], h2⟩
  ·obtain ⟨h3, h4⟩ := iteP_false h2
   exact ⟨_, _, by simp only [appendS, h1, cond_false, appendNil, h3, cond_true], h4⟩
 ·rcases iteP_elim h with ⟨h1, h2⟩ | ⟨h1, h2⟩
  ·exact ⟨_, _, by simp only [appendS, h1, cond_true], h2⟩
  ·obtain ⟨q, τ, h3, h4⟩ := wpAppendO_ok h2
   exact ⟨q, τ, by simp only [appendS, h1, cond_false, h3], h4⟩
 ·exact wpRes_ok h
theorem wpAppend_ok {f : FuncId} {d : Option Nat} {types : Array TypeId} {s x : AV} (h : wpAppend C P σ f d types s x K) : ∃ q τ, evAppend C P σ f d types s x = some (q, τ) ∧ K q τ := by
 unfold wpAppend at h
 unfold evAppend
 split at h
 ·rename_i t u ht hu
  rw [ht, hu]
  simp only []
  obtain ⟨h1, h⟩ := cond_prop h
  rw [h1]
  simp only [cond_true]
  split at h
  ·rename_i e he
   rw [he]
   simp only []
   split at h
   ·rename_i i hi
    rw [hi]
    simp only []
    cases hz : Nat.beq i.size 0 with
    | true => rw [hz] at h; exact h.elim
    | false =>
     rw [hz] at h
     simp only [cond_false] at h ⊢
     obtain ⟨new, h2, h⟩ := wpElems_ok h
     rw [h2]
     simp only []
     obtain ⟨h3, h⟩ := iteP_false h
     obtain ⟨h4, h⟩ := cond_prop h
     rw [h3, h4]
     exact wpAppendS_ok h
   ·exact h.elim
  ·exact h.elim
 ·exact h.elim
theorem wpAppendOG_ok {e : TypeId} {i : TypeInfo} {els : List (List AV)} {tok : Nat} {new : List (List AV)} (h : wpAppendOG σ e i els tok new K) : ∃ s τ, appendO σ e i els tok new = some (s, τ) ∧ K s τ := by
 unfold wpAppendOG at h
 obtain ⟨h1, h⟩ := iteP_false h
 have h1 : (headLen i.size els && fits (els.length + new.length) i.bytes) = true := by
  simp only [Bool.and_eq_true] at h1 ⊢
  refine ⟨?_, h1.2⟩
  cases els with
  | nil => rfl
  | cons e es =>
   have := List.all_eq_true.1 h1.1 e (by simp)
   exact this
 unfold appendO
 simp only [lenL_eq, appL_eq]
 rw [h1]
 simp only [cond_true]
 cases tok with
 | zero => exact h.elim
 | succ id =>
  simp only []
  replace h : iteP (isOwn σ.h id i.size e els.length) (K (.v (.sl (els ++ new) (id + 1))) { σ with h := growH σ.h id i.size e (els.length + new.length) }) False := h
  obtain ⟨h2, h⟩ := iteP_false h
  unfold isOwn at h2
  split at h2
  ·rename_i k e' n hg
   rw [hg]
   simp only []
   simp only [Bool.and_eq_true] at h2
   obtain ⟨q1, q2, q3, q4⟩ := h2
   rw [q1, q2, q3]
   simp only [cond_true, Bool.and_self]
   have hk := Nat.eq_of_beq_eq_true q1
   subst hk
   unfold growH at h
   have hlt : Nat.blt id σ.h.next = true := by
    cases hb : Nat.blt id σ.h.next with
    | true => rfl
    | false => simp only [Heap.get, hb, cond_false] at hg; cases hg
   have hput : ∀ o, σ.h.put id o = some (σ.h.setObjs (σ.h.objs.set id o)) := fun o => by unfold Heap.put; rw [q4, hlt]; rfl
   rw [hput] at h ⊢
   have hn := Nat.eq_of_beq_eq_true q3
   exact ⟨_, _, rfl, by rw [← hn, St.setH_eq]; exact h⟩
  ·cases h2
theorem wpAppendSG_ok {f : FuncId} {d : Option Nat} {e : TypeId} {i : TypeInfo} {s : AV} {new : List (List AV)} (h : wpAppendSG C σ f d e i s new K) : ∃ q τ, appendS C σ f d e i s new = some (q, τ) ∧ K q τ := by
 unfold wpAppendSG at h
 split at h
 ·rcases iteP_elim h with ⟨h1, h2⟩ | ⟨h1, h2⟩
  ·exact ⟨_, _, by simp only [appendS, h1, cond_true], h2⟩
  ·obtain ⟨h3, h4⟩ := iteP_false h2
   cases q1 : C.is f d 1 with
   | true => rw [q1] at h4; exact h4.elim
   | false =>
    cases q6 : C.is f d 6 with
    | true => rw [q1, q6] at h4; exact h4.elim
    | false =>
     rw [q1, q6] at h4
     simp only [Bool.or_self, cond_false, newOwnL, lk_eq] at h4
     exact ⟨_, _, by simp only [appendS, h1, cond_false, appendNil, h3, cond_true, St.newSlice, q1, q6, Bool.false_and, St.newO, St.setH_eq], h4⟩
 ·rcases iteP_elim h with ⟨h1, h2⟩ | ⟨h1, h2⟩
  ·exact ⟨_, _, by simp only [appendS, h1, cond_true], h2⟩
  ·obtain ⟨q, τ, h3, h4⟩ := wpAppendOG_ok h2
   exact ⟨q, τ, by simp only [appendS, h1, cond_false, h3], h4⟩
 ·exact wpRes_ok h
theorem wpAppendG_ok {f : FuncId} {d : Option Nat} {types : Array TypeId} {s x : AV} (h : wpAppendG C P σ f d types s x K) : ∃ q τ, evAppend C P σ f d types s x = some (q, τ) ∧ K q τ := by
 unfold wpAppendG at h
 unfold evAppend
 split at h
 ·rename_i t u ht hu
  rw [ht, hu]
  simp only []
  obtain ⟨h1, h⟩ := cond_prop h
  rw [h1]
  simp only [cond_true]
  split at h
  ·rename_i e he
   rw [he]
   simp only []
   split at h
   ·rename_i i hi
    rw [hi]
    simp only []
    cases hz : Nat.beq i.size 0 with
    | true => rw [hz] at h; exact h.elim
    | false =>
     rw [hz] at h
     simp only [cond_false] at h ⊢
     obtain ⟨new, h2, h⟩ := wpElems_ok h
     rw [h2]
     simp only []
     obtain ⟨h3, h⟩ := iteP_false h
     obtain ⟨h4, h⟩ := cond_prop h
     rw [h3, h4]
     exact wpAppendSG_ok h
   ·exact h.elim
  ·exact h.elim
 ·exact h.elim
theorem wpBuiltin_ok {f : FuncId} {d : Option Nat} {b : Builtin} {types : Array TypeId} {type : TypeId} {args : List AV} (h : wpBuiltin C P σ f d b types type args K) : ∃ q τ, evBuiltin C P σ f d b types type args = some (q, τ) ∧ K q τ := by
 unfold wpBuiltin at h
 split at h
 ·split at h
  ·exact wpAppend_ok h
  ·exact h.elim
 ·split at h
  ·rename_i s
   split at h
   ·rename_i t ht
    obtain ⟨h1, h⟩ := cond_prop h
    refine ⟨_, _, ?_, h⟩
    have hu : P.underlying t = some .string := by
     unfold isStringT at h1
     split at h1
     ·assumption
     ·cases h1
    rw [size_list]
    simp only [evBuiltin, evLen]
    have : pureRun P (Builtin.len_ types type #[.string s]) = some (.int .i64 s.size) := by
     have hun : ∀ k : TypeDesc → Sem Value, pureRun P (underlying t >>= k) = pureRun P (k .string) := by
      intro k
      unfold underlying
      rw [bind_assoc]
      show pureRun P ((match P.underlying t with | some d => pure d | none => stuck "no such type") >>= k) = _
      rw [hu]
      rfl
     simp only [Builtin.len_, ht]
     exact hun _
    rw [this]
    rfl
   ·exact h.elim
  ·split at h
   ·rename_i t ht
    split at h
    ·rename_i e he
     refine ⟨_, _, ?_, h⟩
     simp only [evBuiltin, evLen, ht, he, lenL_eq]
     rfl
    ·exact h.elim
   ·exact h.elim
  ·exact wpRes_ok h
 ·split at h
  ·rename_i k x k' y
   refine ⟨_, _, ?_, h⟩
   have : min x y = if y < x then y else x := by split <;> omega
   rw [this]
   rfl
  ·exact wpRes_ok h
 ·split at h
  ·rename_i k x k' y
   refine ⟨_, _, ?_, h⟩
   have : max x y = if x < y then y else x := by split <;> omega
   rw [this]
   rfl
  ·exact wpRes_ok h
 ·exact wpRes_ok h
theorem wpStrip_ok : ∀ n v k, wpStrip n v k → ∃ y, stripA n v = some y ∧ (∀ h, strip n h v = some y) ∧ k y := by
 intro n
 induction n with
 | zero =>
  intro v k h
  cases v with
  | sc v => exact ⟨_, rfl, fun _ => rfl, h⟩
  | sl els tok =>
   cases tok with
   | zero => exact ⟨_, rfl, fun _ => rfl, h⟩
   | succ t => exact h.elim
  | _ => exact h.elim
 | succ n ih =>
  have lists : ∀ (cs : List AV) (k : List AV → Prop), List.rec (motive := fun _ => (List AV → Prop) → Prop) (fun k => k []) (fun x _ ihl k => wpStrip n x fun y => ihl fun l => k (y :: l)) cs k →
    ∃ l, mapO (stripA n) cs = some l ∧ (∀ h, mapO (strip n h) cs = some l) ∧ k l := by
   intro cs
   induction cs with
   | nil => intro k h; exact ⟨[], rfl, fun _ => rfl, h⟩
   | cons x cs ihc =>
    intro k h
    obtain ⟨y, h1, h2, h3⟩ := ih x _ h
    obtain ⟨l, h4, h5, h6⟩ := ihc _ h3
    exact ⟨y :: l, by rw [mapO_cons, h1, h4]; rfl, fun hp => by rw [mapO_cons, h2, h5]; rfl, h6⟩
  intro v k h
  cases v with
  | sc v => exact ⟨_, rfl, fun _ => rfl, h⟩
  | sl els tok =>
   cases tok with
   | zero => exact ⟨_, rfl, fun _ => rfl, h⟩
   | succ t =>
    obtain ⟨h1, h2⟩ := iteP_false (show iteP (plainEls els) (k (.sl els 0)) False from h)
    exact ⟨_, by simp only [stripA, h1, cond_true], fun _ => by simp only [strip, h1, cond_true], h2⟩
  | agg cs =>
   obtain ⟨l, h1, h2, h3⟩ := lists cs _ h
   exact ⟨_, by simp only [stripA, h1, Option.map_some], fun hp => by simp only [strip, h2, Option.map_some], h3⟩
  | tup cs =>
   obtain ⟨l, h1, h2, h3⟩ := lists cs _ h
   exact ⟨_, by simp only [stripA, h1, Option.map_some], fun hp => by simp only [strip, h2, Option.map_some], h3⟩
  | ifc t u =>
   obtain ⟨y, h1, h2, h3⟩ := ih u _ h
   exact ⟨_, by simp only [stripA, h1, Option.map_some], fun hp => by simp only [strip, h2, Option.map_some], h3⟩
  | fn f a b =>
   obtain ⟨l, h1, h2, h3⟩ := lists a _ h
   obtain ⟨m, h4, h5, h6⟩ := lists b _ h3
   exact ⟨_, by simp only [stripA, h1, h4], fun hp => by simp only [strip, h2, h5], h6⟩
  | _ => exact h.elim
theorem wpStrips_ok : ∀ (l : List AV) (k : List AV → Prop), wpStrips l k → ∃ m, mapO (stripA 8) l = some m ∧ k m := by
 intro l
 induction l with
 | nil => intro k h; exact ⟨[], rfl, h⟩
 | cons x l ih =>
  intro k h
  obtain ⟨y, h1, _, h3⟩ := wpStrip_ok 8 x _ (show wpStrip 8 x fun y => wpStrips l fun m => k (y :: m) from h)
  obtain ⟨m, h4, h5⟩ := ih _ h3
  exact ⟨y :: m, by rw [mapO_cons, h1, h4]; rfl, h5⟩
theorem wpBack_ok {h : Heap} {r : AV} {k : AV → Prop} (H : wpBack h r k) : ∃ y, strip 8 h r = some y ∧ k y := by
 unfold wpBack at H
 split at H
 ·split at H
  ·exact ⟨_, ‹_›, H⟩
  ·exact H.elim
 ·obtain ⟨y, _, h2, h3⟩ := wpStrip_ok 8 _ _ H
  exact ⟨y, h2 h, h3⟩
end
end Go.Ef
