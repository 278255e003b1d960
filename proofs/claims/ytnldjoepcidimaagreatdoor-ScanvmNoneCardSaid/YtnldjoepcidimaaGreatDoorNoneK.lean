/- A part of the proof: definitions and lemmas. -/
import Derived.Test.YtnldjoepcidimaaGreatDoorNoneA
import Derived.Test.YtnldjoepcidimaaGreatDoorNoneB
import Derived.Test.YtnldjoepcidimaaGreatDoorNoneC
import Derived.Test.YtnldjoepcidimaaGreatDoorNoneD
import Derived.Test.YtnldjoepcidimaaGreatDoorNoneE
import Derived.Test.YtnldjoepcidimaaGreatDoorNoneF
import Derived.Test.YtnldjoepcidimaaGreatDoorNoneG
import Derived.Test.YtnldjoepcidimaaGreatDoorNoneH
import Derived.Test.YtnldjoepcidimaaGreatDoorNoneI
import Derived.Test.YtnldjoepcidimaaGreatDoorNoneJ
namespace Go.Ef
open Go
noncomputable section
section
variable {P : Program} {C : Cfg} {T : Tab}
def ansG (C : Cfg) (P : Program) (n g : Nat) (args : List AV) (v : AV) : Bool := match mapO (stripA 8) args with
 | some a => match evCall C P n g a heapF with
  | some (r, h) => match strip 8 h r with
   | some y => eqA 20 y v
   | none => false
  | none => false
 | none => false
theorem freshP_ok {g : FuncId} {args a : List AV} {v r : AV} {h h' : Heap} {call : CallF} (ha : mapO (stripA 8) args = some a) (hf : C.fresh g = true) (hp : C.prim g = none) (e : call g a heapF = some (r, h')) (hv : strip 8 h' r = some v) : callP C call g args h = some (v, h) := by
 unfold callP
 rw [hp]; simp only []; rw [hf]; simp only [cond_true]; rw [ha]; simp only []; rw [e]; simp only []; rw [hv]
theorem ansG_ok {n g : Nat} {args : List AV} {v : AV} (h : ansG C P n g args v = true) (hf : C.fresh g = true) (hp : C.prim g = none) (H : Heap) : callP C (evCall C P n) g args H = some (v, H) := by
 unfold ansG at h
 revert h
 generalize evCall C P n = call
 intro h
 split at h
 ·rename_i a ha
  split at h
  ·rename_i r h' hr
   split at h
   ·rename_i y hy
    have e := eqA_ok _ _ _ h
    subst e
    exact freshP_ok ha hf hp hr hy
   ·cases h
  ·cases h
 ·cases h
def sameArgs (l m : List AV) : Bool := eqA 20 (.agg l) (.agg m)
theorem sameArgs_ok {l m : List AV} (h : sameArgs l m = true) : l = m := by
 have := eqA_ok _ _ _ h
 cases this; rfl
def memoC (l : List (List AV × AV)) (args : List AV) (h : Heap) : Option CSpec :=
 List.rec (motive := fun _ => Option CSpec) none (fun p _ ih => bif sameArgs args p.1 then some { pre := True, alts := [{ α := Unit, post := fun _ => True, val := fun _ => p.2, heap := fun _ => h }] } else ih) l
theorem memo_ok (O : TabOk P C T) {g : Nat} {l : List (List AV × AV)} (H : ∀ p ∈ l, ∀ h, ∃ m, callP C (evCall C P m) g p.1 h = some (p.2, h)) : TabOk P C (T.addC g (memoC l)) := by
 refine addC_ok O fun args h s hs hp => ?_
 induction l with
 | nil => cases hs
 | cons p l ih =>
  replace hs : (bif sameArgs args p.1 then some _ else memoC l args h) = some s := hs
  cases hq : sameArgs args p.1 with
  | true =>
   rw [hq] at hs
   cases hs
   obtain rfl := sameArgs_ok hq
   obtain ⟨m, e⟩ := H p (by simp) h
   exact ⟨_, List.mem_singleton.2 rfl, (), m, trivial, e⟩
  | false =>
   rw [hq] at hs
   exact ih (fun q hq => H q (by simp [hq])) hs
end
end
end Go.Ef
namespace Go.Ef
open Go
noncomputable section
def Cfg.addP (C : Cfg) (p : FuncId → Option (List AV → Heap → Option (AV × Heap))) : Cfg := { C with prim := p }
section
variable {C : Cfg} {P : Program} {p : FuncId → Option (List AV → Heap → Option (AV × Heap))} {k : Nat} {c c' : CallF}
def NoCall (C : Cfg) (c : CallF) (k : Nat) : Prop := ∀ args h r, callP C c k args h ≠ some r
theorem callP_add (hp : ∀ g, g ≠ k → p g = C.prim g) (l : LeF c c') (no : NoCall C c k) : LeF (callP C c) (callP (C.addP p) c') := by
 intro g args h r hc
 by_cases hg : g = k
 ·subst hg; exact absurd hc (no _ _ _)
 ·have h1 := callP_le (C := C) l g args h r hc
  have e : callP (C.addP p) c' g args h = callP C c' g args h := by
   unfold callP
   show (match p g with | some q => _ | none => _) = _
   rw [hp g hg]; rfl
  rw [e]; exact h1
theorem back_add {σ : St} {d d' : CallF} (l : LeF d d') {g : FuncId} {args : List AV} {h : Heap} {r : Slot × St} (hb : back σ (d g args h) = some r) : back σ (d' g args h) = some r := by
 cases hq : d g args h with
 | none => rw [hq] at hb; cases hb
 | some v => rw [hq] at hb; rw [l _ _ _ _ hq]; exact hb
theorem op_add (hp : ∀ g, g ≠ k → p g = C.prim g) (l : LeF (callP C c) (callP (C.addP p) c')) (no : NoCall C c k) {f : FuncId} {o : Oper} {σ : St} {r : Slot × St} (h : evOp C P c f o σ = some r) : evOp (C.addP p) P c' f o σ = some r := by
 cases ho : o.op <;> simp only [evOp, ho] at h ⊢ <;> try exact h
 rename_i q
 unfold opCall at h ⊢
 split at h
 ·cases h
 ·rename_i args hargs
  split at h
  ·exact h
  ·rename_i x hx
   unfold callQ at h ⊢
   cases hq : C.is f o.dst 8 && !quietCal C σ x with
   | true => rw [hq] at h; cases h
   | false =>
    rw [hq] at h
    simp only [cond_false] at h
    unfold callVal at h ⊢
    cases hv : σ.val x with
    | none => rw [hv] at h; cases h
    | some v =>
     rw [hv] at h
     cases v with
     | fn w a b =>
      cases w with
      | func g =>
       simp only [] at h
       have hgk : g ≠ k := by
        intro e
        subst e
        cases hc : callP C c g (a ++ args ++ b) σ.h with
        | none => rw [hc] at h; cases h
        | some z => exact no _ _ _ hc
       have hq2 : ((C.addP p).is f o.dst 8 && !quietCal (C.addP p) σ x) = false := by
        have : quietCal (C.addP p) σ x = quietCal C σ x := by
         unfold quietCal
         rw [hv]
         show ((p g).isNone && _) = _
         rw [hp g hgk]; rfl
        rw [this]
        exact hq
       rw [hq2]
       simp only [cond_false]
       exact back_add l h
      | _ => cases h
     | _ => cases h
  ·rename_i x name hx
   unfold callMeth at h ⊢
   split at h
   ·split at h
    ·exact back_add l h
    ·cases h
   ·cases h
theorem step_add (hp : ∀ g, g ≠ k → p g = C.prim g) (l : LeF (callP C c) (callP (C.addP p) c')) (no : NoCall C c k) {f : FuncId} {ops : Array Oper} {o : Oper} {σ σ' : St} (h : evStep C P c f ops o σ = some σ') : evStep (C.addP p) P c' f ops o σ = some σ' := by
 unfold evStep at h ⊢
 split at h
 ·split at h
  ·rename_i hop
   rw [op_add hp l no hop]
   exact h
  ·cases h
 ·exact h
 ·cases h
theorem ops_add (hp : ∀ g, g ≠ k → p g = C.prim g) (l : LeF (callP C c) (callP (C.addP p) c')) (no : NoCall C c k) {f : FuncId} {ops : Array Oper} : ∀ (os : List Oper) (σ σ' : St), evOps C P c f ops os σ = some σ' → evOps (C.addP p) P c' f ops os σ = some σ' := by
 intro os
 induction os with
 | nil => intro σ σ' h; exact h
 | cons o os ih =>
  intro σ σ' h
  rw [evOps_cons] at h ⊢
  obtain ⟨τ, h1, h2⟩ := thenO_some h
  rw [step_add hp l no h1]
  exact ih τ σ' h2
theorem results_add (σ : St) : ∀ rs : List ResultVar, evResults (C.addP p) P σ rs = evResults C P σ rs := by
 intro rs
 induction rs with
 | nil => rfl
 | cons x rs ih =>
  cases x with
  | tmp t => simp only [evResults, ih]
  | cell a t => simp only [evResults, ih]; rfl
theorem callWith_add {r r' : Run} (l : LeR r r') : LeF (callWith C P r) (callWith (C.addP p) P r') := by
 intro g args h x hc
 unfold callWith at hc ⊢
 split at hc
 ·split at hc
  ·unfold endOf at hc ⊢
   split at hc
   ·rename_i hr
    rw [l _ _ _ _ hr]
    simp only [results_add]
    exact hc
   ·cases hc
  ·cases hc
 ·cases hc
theorem code1_add (hp : ∀ g, g ≠ k → p g = C.prim g) {r r' : Run} (l : LeR r r') (no : NoCall C (callWith C P r) k) (ht : ∀ f id, C.two f id = none) : LeR (evCode1 C P r) (evCode1 (C.addP p) P r') := by
 intro f c σ x h
 cases c with
 | region id ops draw =>
  simp only [evCode1, evReg] at h ⊢
  cases hd : draw && C.bad f id with
  | true => rw [hd] at h; simp only [cond_true, evTwo, ht] at h; cases h
  | false =>
   have hd2 : (draw && (C.addP p).bad f id) = false := hd
   rw [hd] at h
   rw [hd2]
   simp only [cond_false] at h ⊢
   split at h
   ·rename_i he
    rw [ops_add hp (callP_add hp (callWith_add l) no) no _ _ _ he]
    exact h
   ·cases h
 | seq a b => exact seq_le (fun y hy => l _ _ _ _ hy) (fun τ y hy => l _ _ _ _ hy) h
 | cond k a b =>
  simp only [evCode1, evCond] at h ⊢
  split at h
  ·rename_i t ht
   cases t with
   | true => exact l _ _ _ _ h
   | false => exact l _ _ _ _ h
  ·cases h
 | block id b =>
  simp only [evCode1] at h ⊢
  cases hq : r f b σ with
  | none => rw [hq] at h; cases h
  | some z => rw [hq] at h; rw [l _ _ _ _ hq]; exact h
 | loop b =>
  have ht2 : (C.addP p).tidy f (firstId 8 b) = C.tidy f (firstId 8 b) := rfl
  simp only [evCode1] at h ⊢
  rw [ht2]
  split at h
  ·exact seq_le (fun y hy => l _ _ _ _ hy) (fun τ y hy => l _ _ _ _ hy) h
  ·rename_i t ht
   unfold evLoop at h ⊢
   split at h
   ·rename_i e τ he
    rw [l _ _ _ _ he]
    simp only []
    split at h
    ·exact l _ _ _ _ h
    ·exact h
   ·cases h
 | scope b => exact l _ _ _ _ h
 | _ => exact h
theorem code_add (hp : ∀ g, g ≠ k → p g = C.prim g) (no : ∀ n, NoCall C (evCall C P n) k) (ht : ∀ f id, C.two f id = none) : ∀ n, LeR (evCode C P n) (evCode (C.addP p) P n) := by
 intro n
 induction n with
 | zero => intro f c σ x h; cases h
 | succ n ih => exact code1_add hp ih (no n) ht
theorem call_add (hp : ∀ g, g ≠ k → p g = C.prim g) (no : ∀ n, NoCall C (evCall C P n) k) (ht : ∀ f id, C.two f id = none) (n : Nat) : LeF (callP C (evCall C P n)) (callP (C.addP p) (evCall (C.addP p) P n)) := callP_add hp (callWith_add (code_add hp no ht n)) (no n)
theorem TabOk.add {T : Tab} (O : TabOk P C T) (hp : ∀ g, g ≠ k → p g = C.prim g) (no : ∀ n, NoCall C (evCall C P n) k) (ht : ∀ f id, C.two f id = none := by intros; rfl) : TabOk P (C.addP p) T where
 call := fun g t args h s h1 h2 h3 => by
  obtain ⟨a, ha, x, m, h4, h5⟩ := O.call g t args h s h1 h2 h3
  exact ⟨a, ha, x, m, h4, call_add hp no ht m _ _ _ _ h5⟩
 loop := fun f i t σ s h1 h2 h3 => by
  obtain ⟨a, ha, x, m, h4, h5⟩ := O.loop f i t σ s h1 h2 h3
  exact ⟨a, ha, x, m, h4, code_add hp no ht m _ _ _ _ h5⟩
end
end
end Go.Ef
namespace Go.Proofs
open Go Go.Ef
noncomputable section
namespace Vm
def tS (l : List UInt8) : AV := .sc (.string ⟨⟨l⟩⟩)
def tI (n : Int) : AV := .sc (.int .i64 n)
def tNil : AV := .sc (.slice none 0 0)
def tT (b : Bool) : AV := .sc (.bool b)
def ins (op x y num : Int) (t : List UInt8) (at' : Int) : List AV := [tI op, tI x, tI y, tI num, tS t, tI at']
def src1 : List UInt8 := [123, 32, 112, 114, 105, 110, 116, 32, 36, 49, 32, 125]
def src2 : List UInt8 := [66, 69, 71, 73, 78, 32, 123, 32, 112, 114, 105, 110, 116, 32, 49, 32, 43, 32, 50, 32, 125]
def src3 : List UInt8 := [123, 32, 112, 114, 105, 110, 116, 32, 125]
def src4 : List UInt8 := [123, 32, 112, 114, 105, 110, 116, 32, 125, 32, 78, 82, 32, 61, 61, 32, 110, 32, 123, 32, 101, 120, 105, 116, 32, 125]
def code1 : AV := .agg [.sl [ins 48 0 0 0 [] 0, ins 1 0 0 0 [] 2, ins 2 0 0 10000 [] 9, ins 7 0 0 0 [] 8, ins 35 0 1 0 [] 2, ins 37 0 0 0 [] 2, ins 48 0 0 0 [] 0, ins 48 0 0 0 [] 0] 0, tNil, tI 0, tI 1, tI 7, tI 0]
def code2 : AV := .agg [.sl [ins 1 0 0 0 [] 8, ins 2 0 0 10000 [] 14, ins 2 0 0 20000 [] 18, ins 18 0 1 0 [] 14, ins 35 0 1 0 [] 8, ins 37 0 0 0 [] 8, ins 48 0 0 0 [] 0, ins 49 0 0 0 [] 0] 0, tNil, tI 0, tI 7, tI 7, tI 0]
def code3 : AV := .agg [.sl [ins 48 0 0 0 [] 0, ins 1 0 0 0 [] 2, ins 2 0 0 0 [] 2, ins 7 0 0 0 [] 2, ins 35 0 1 0 [] 2, ins 37 0 0 0 [] 2, ins 48 0 0 0 [] 0, ins 48 0 0 0 [] 0] 0, tNil, tI 0, tI 1, tI 7, tI 0]
def code4 : AV := .agg [.sl [ins 48 0 0 0 [] 0, ins 1 0 0 0 [] 2, ins 2 0 0 0 [] 2, ins 7 0 0 0 [] 2, ins 35 0 1 0 [] 2, ins 37 0 0 0 [] 2, ins 6 (-1) 0 0 [78, 82] 10, ins 6 (-1) 0 0 [110] 16, ins 18 0 9 0 [] 10, ins 23 12 0 0 [] 10, ins 1 0 0 0 [] 20, ins 44 0 0 0 [] 20, ins 48 0 0 0 [] 0, ins 48 0 0 0 [] 0] 0, tNil, tI 0, tI 1, tI 13, tI 0]
end Vm
end
end Go.Proofs
