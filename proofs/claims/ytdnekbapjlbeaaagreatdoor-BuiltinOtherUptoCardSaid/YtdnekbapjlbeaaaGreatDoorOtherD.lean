/- A part of the proof: definitions and lemmas. -/
import Derived.Test.YtdnekbapjlbeaaaGreatDoorOtherC
import Derived.Lib.LaidTab
import Derived.Stop.LaidErr
import Derived.Test.YtdnekbapjlbeaaaGreatDoorCards
import Derived.Test.YtdnekbapjlbeaaaGreatDoorTie
import Derived.WalkKit
import Derived.ProofKit
import Derived.Handy
import Derived.Lay
import Derived.Shelf.Vars
import Derived.Deep.DeepHandedRow
import Derived.SevenTiedAt
namespace Go.Ef
open Go
noncomputable section
structure TabOk (P : Program) (C : Cfg) (T : Tab) : Prop where
 call : ∀ g t args h s, T.call g = some t → t args h = some s → s.pre → ∃ a ∈ s.alts, ∃ x m, a.post x ∧ callP C (evCall C P m) g args h = some (a.val x, a.heap x)
 loop : ∀ f i t σ s, T.loop f i = some t → t σ = some s → s.pre → ∃ a ∈ s.alts, ∃ x m, a.post x ∧ evCode C P m f (.loop (loopAt P f i)) σ = some (a.ex, a.st x)
def Ev (C : Cfg) (P : Program) (f : FuncId) (c : Code) (σ : St) (K : KR) : Prop := ∃ m e τ, evCode C P m f c σ = some (e, τ) ∧ K e τ
def EvC (C : Cfg) (P : Program) (g : FuncId) (args : List AV) (h : Heap) (K : AV → Heap → Prop) : Prop := ∃ m v h', evCall C P m g args h = some (v, h') ∧ K v h'
def EvP (C : Cfg) (P : Program) (g : FuncId) (args : List AV) (h : Heap) (K : AV → Heap → Prop) : Prop := ∃ m v h', callP C (evCall C P m) g args h = some (v, h') ∧ K v h'
section
variable {P : Program} {C : Cfg} {T : Tab}
def RunWOk (P : Program) (C : Cfg) (run : RunW) : Prop := ∀ f c σ K, run f c σ K → Ev C P f c σ K
def CallWOk (P : Program) (C : Cfg) (call : CallW) : Prop := ∀ g args h K, call g args h K → EvC C P g args h K
theorem forceL_eq {f : AV → (AV → Prop) → Prop} (hf : ∀ a k, f a k = k a) : ∀ (l : List AV) (k : List AV → Prop), forceL f l k = k l := by
 intro l
 induction l with
 | nil => intro k; rfl
 | cons x l ih =>
  intro k
  show (f x fun y => forceL f l fun l => k (y :: l)) = _
  rw [hf, ih]
theorem forceA_eq : ∀ n a k, forceA n a k = k a := by
 intro n
 induction n with
 | zero => intro a k; rfl
 | succ n ih =>
  intro a k
  cases a with
  | sc v =>
   cases v <;> rfl
  | agg cs => exact forceL_eq ih cs fun l => k (.agg l)
  | tup cs => exact forceL_eq ih cs fun l => k (.tup l)
  | _ => rfl
theorem forceO_eq (v : Option Slot) (k : Option Slot → Prop) : forceO v k = k v := by
 cases v with
 | none => rfl
 | some s =>
  cases s with
  | v a => exact forceA_eq 2 a fun a => k (some (.v a))
  | lp i j => rfl
  | unk => rfl
theorem forceT_eq : ∀ (t : Tr Slot) (k : Tr Slot → Prop), forceT t k = k t := by
 intro t
 induction t with
 | leaf => intro k; rfl
 | node l v r ihl ihr =>
  intro k
  show (forceT l fun l => forceT r fun r => forceO v fun v => k (.node l v r)) = _
  rw [ihl, ihr, forceO_eq]
theorem forceC_eq : ∀ (l : List LObj) (k : List LObj → Prop), forceC l k = k l := by
 intro l
 induction l with
 | nil => intro k; rfl
 | cons x l ih =>
  intro k
  cases x with
  | cells cs =>
   show (forceL (forceA 1) cs fun cs => forceC l fun l => k (.cells cs :: l)) = _
   rw [forceL_eq (forceA_eq 1), ih]
  | iter s p => exact ih fun l => k (.iter s p :: l)
theorem forceH_eq : ∀ (t : Tr AObj) (k : Tr AObj → Prop), forceH t k = k t := by
 intro t
 induction t with
 | leaf => intro k; rfl
 | node l v r ihl ihr =>
  intro k
  show (forceH l fun l => forceH r fun r => match v with
   | none => k (.node l none r)
   | some o => match o with
    | .cells cs => forceL (forceA 1) cs fun cs => k (.node l (some (.cells cs)) r)
    | o => k (.node l (some o) r)) = _
  rw [ihl, ihr]
  cases v with
  | none => rfl
  | some o =>
   cases o with
   | cells cs => exact forceL_eq (forceA_eq 1) cs fun cs => k (.node l (some (.cells cs)) r)
   | _ => rfl
theorem forceS_eq (σ : St) (k : St → Prop) : forceS σ k = k σ := by
 obtain ⟨n, tm, d, loc, h⟩ := σ
 obtain ⟨nx, objs, ro, ty⟩ := h
 show (forceT tm fun tm => forceC loc fun loc => forceH objs fun objs => k ⟨n, tm, d, loc, ⟨nx, objs, ro, ty⟩⟩) = _
 rw [forceT_eq, forceC_eq, forceH_eq]
theorem forceZ_eq (b : Bool) (σ : St) (k : St → Prop) : forceZ b σ k = k σ := by
 unfold forceZ
 cases b with
 | false => exact forceS_eq σ k
 | true =>
  obtain ⟨n, tm, d, loc, h⟩ := σ
  show (forceT tm fun tm => forceC loc fun loc => k ⟨n, tm, d, loc, h⟩) = _
  rw [forceT_eq, forceC_eq]
theorem wpCAlts_ok {K : AV → Heap → Prop} : ∀ {l : List CAlt}, wpCAlts l K → ∀ a ∈ l, ∀ x, a.post x → K (a.val x) (a.heap x) := by
 intro l
 induction l with
 | nil => intro _ a ha; cases ha
 | cons s r ih =>
  intro h a ha
  cases r with
  | nil =>
   cases ha with
   | head => exact h
   | tail _ h' => cases h'
  | cons u r =>
   cases ha with
   | head => exact h.1
   | tail _ h' => exact ih h.2 a h'
theorem wpLAlts_ok {K : Ex → St → Prop} : ∀ {l : List LAlt}, wpLAlts l K → ∀ a ∈ l, ∀ x, a.post x → K a.ex (a.st x) := by
 intro l
 induction l with
 | nil => intro _ a ha; cases ha
 | cons s r ih =>
  intro h a ha
  cases r with
  | nil =>
   cases ha with
   | head => exact h
   | tail _ h' => cases h'
  | cons u r =>
   cases ha with
   | head => exact h.1
   | tail _ h' => exact ih h.2 a h'
theorem callB_ok {run : RunW} (H : RunWOk P C run) : CallWOk P C (wpCallB C P run) := by
 intro g args h K hw
 unfold wpCallB at hw
 split at hw
 ·rename_i fn hf
  split at hw
  ·rename_i c hb
   obtain ⟨m, e, τ, h1, h2⟩ := H g c _ _ hw
   split at h2
   ·rename_i v h' he
    refine ⟨m, v, h', ?_, h2⟩
    unfold evCall callWith
    rw [hf]; simp only []; rw [hb]; simp only []
    unfold entry at h1
    rw [h1]; exact he
   ·exact h2.elim
  ·exact hw.elim
 ·exact hw.elim
theorem callP_okW {call : CallW} (O : TabOk P C T) (H : CallWOk P C call) {g : FuncId} {args : List AV} {h : Heap} {K : AV → Heap → Prop} (hw : wpCallP T C call g args h K) : EvP C P g args h K := by
 unfold wpCallP at hw
 split at hw
 ·rename_i t ht
  split at hw
  ·rename_i s hs
   obtain ⟨a, ha, x, m, h1, h2⟩ := O.call g t args h s ht hs hw.1
   exact ⟨m, _, _, h2, wpCAlts_ok hw.2 a ha x h1⟩
  ·exact hw.elim
 ·split at hw
  ·rename_i p hp
   split at hw
   ·rename_i v h' he
    exact ⟨0, v, h', by unfold callP; rw [hp]; exact he, hw⟩
   ·exact hw.elim
  ·rename_i hp
   cases hfr : C.fresh g with
   | true =>
    rw [hfr] at hw
    obtain ⟨args', h1, h2⟩ := wpStrips_ok _ _ hw
    obtain ⟨m, v, h', h3, h4⟩ := H _ _ _ _ h2
    obtain ⟨y, h5, h6⟩ := wpBack_ok h4
    refine ⟨m, y, h, ?_, h6⟩
    unfold callP
    rw [hp]; simp only []; rw [hfr]; simp only [cond_true]; rw [h1]; simp only []; rw [h3]; simp only []; rw [h5]
   | false =>
    rw [hfr] at hw
    simp only [cond_false] at hw
    cases hpu : C.pure g with
    | true =>
     rw [hpu] at hw
     obtain ⟨m, v, h', h3, h4⟩ := H _ _ _ _ hw
     obtain ⟨y, h5, h6⟩ := wpBack_ok h4
     refine ⟨m, y, h, ?_, h6⟩
     unfold callP
     rw [hp]; simp only []; rw [hfr, hpu]; simp only [cond_true, cond_false]; rw [h3]; simp only []; rw [h5]
    | false =>
     rw [hpu] at hw
     obtain ⟨m, v, h', h3, h4⟩ := H _ _ _ _ hw
     refine ⟨m, v, h', ?_, h4⟩
     unfold callP
     rw [hp]; simp only []; rw [hfr, hpu]; exact h3
theorem evP_back {σ : St} {g : FuncId} {args : List AV} {K : KS} (h : EvP C P g args σ.h fun v h => K (.v v) { σ with h := h }) : ∃ m s τ, back σ (callP C (evCall C P m) g args σ.h) = some (s, τ) ∧ K s τ := by
 obtain ⟨m, v, h', h1, h2⟩ := h
 exact ⟨m, _, _, by rw [h1]; rfl, h2⟩
theorem op_okW {call : CallW} (O : TabOk P C T) (H : CallWOk P C call) {f : FuncId} {o : Oper} {σ : St} {K : KS} (hw : wpOp T C P call f o σ K) : ∃ m s τ, evOp C P (evCall C P m) f o σ = some (s, τ) ∧ K s τ := by
 unfold wpOp at hw
 split at hw
 ·rename_i ho; obtain ⟨s, τ, h1, h2⟩ := wpIndex_ok hw; exact ⟨0, s, τ, by unfold evOp; rw [ho]; exact h1, h2⟩
 ·rename_i ho; obtain ⟨s, τ, h1, h2⟩ := wpSlice_ok hw; exact ⟨0, s, τ, by unfold evOp; rw [ho]; exact h1, h2⟩
 ·rename_i ho; obtain ⟨s, τ, h1, h2⟩ := wpIndexAddr_ok hw; exact ⟨0, s, τ, by unfold evOp; rw [ho]; exact h1, h2⟩
 ·rename_i ho; obtain ⟨s, τ, h1, h2⟩ := wpBin_ok hw; exact ⟨0, s, τ, by unfold evOp; rw [ho]; exact h1, h2⟩
 ·rename_i ho; obtain ⟨s, τ, h1, h2⟩ := wpConv_ok hw; exact ⟨0, s, τ, by unfold evOp; rw [ho]; exact h1, h2⟩
 ·rename_i ho; obtain ⟨s, τ, h1, h2⟩ := wpLoad_ok hw; exact ⟨0, s, τ, by unfold evOp; rw [ho]; exact h1, h2⟩
 ·rename_i ho; obtain ⟨s, τ, h1, h2⟩ := wpStore_ok hw; exact ⟨0, s, τ, by unfold evOp; rw [ho]; exact h1, h2⟩
 ·rename_i ho; obtain ⟨s, τ, h1, h2⟩ := wpMake_ok hw; exact ⟨0, s, τ, by unfold evOp; rw [ho]; exact h1, h2⟩
 ·rename_i c ho
  unfold wpOpCall at hw
  split at hw
  ·exact hw.elim
  ·rename_i args hargs
   split at hw
   ·rename_i b hb
    split at hw
    ·split at hw
     ·obtain ⟨s, τ, h1, h2⟩ := wpCopy_ok hw
      exact ⟨0, s, τ, by unfold evOp; rw [ho]; simp only []; unfold opCall; rw [hargs]; simp only []; rw [hb]; exact h1, h2⟩
     ·exact hw.elim
    ·obtain ⟨s, τ, h1, h2⟩ := wpBuiltin_ok hw
     exact ⟨0, s, τ, by unfold evOp; rw [ho]; simp only []; unfold opCall; rw [hargs]; simp only []; rw [hb]; exact h1, h2⟩
   ·rename_i x hx
    unfold wpCallV at hw
    split at hw
    ·rename_i g first cap hv
     obtain ⟨m, s, τ, h1, h2⟩ := evP_back (callP_okW O H hw)
     exact ⟨m, s, τ, by unfold evOp; rw [ho]; simp only []; unfold opCall; rw [hargs]; simp only []; rw [hx]; simp only []; unfold callVal; rw [hv]; exact h1, h2⟩
    ·exact hw.elim
   ·rename_i x name hx
    unfold wpCallM at hw
    split at hw
    ·rename_i t v hv
     split at hw
     ·rename_i g r hm
      obtain ⟨m, s, τ, h1, h2⟩ := evP_back (callP_okW O H hw)
      exact ⟨m, s, τ, by unfold evOp; rw [ho]; simp only []; unfold opCall; rw [hargs]; simp only []; rw [hx]; simp only []; unfold callMeth; rw [hv]; simp only []; rw [hm]; exact h1, h2⟩
     ·exact hw.elim
    ·exact hw.elim
 ·obtain ⟨s, τ, h1, h2⟩ := wpRes_ok hw
  exact ⟨0, s, τ, op_le (fun _ _ _ _ h => by cases h) h1, h2⟩
theorem step_okW {call : CallW} (O : TabOk P C T) (H : CallWOk P C call) {f : FuncId} {ops : Array Oper} {o : Oper} {σ : St} {K : St → Prop} (hw : wpStep T C P call f ops o σ K) : ∃ m τ, evStep C P (evCall C P m) f ops o σ = some τ ∧ K τ := by
 unfold wpStep at hw
 split at hw
 ·rename_i q hq
  rcases iteP_elim hw with ⟨h1, h2⟩ | ⟨h1, h2⟩
  ·obtain ⟨m, s, τ, h3, h4⟩ := op_okW O H h2
   obtain ⟨τ', h5, h6⟩ := wpPutN_ok h4
   refine ⟨m, τ', ?_, h6⟩
   unfold evStep
   rw [hq, h1]; simp only []; rw [h3]; exact h5
  ·clear hw
   split at h2
   ·rename_i τ hp
    refine ⟨0, τ, ?_, h2⟩
    unfold evStep
    rw [hq, h1]; exact hp
   ·exact h2.elim
 ·exact hw.elim
theorem ops_okW {call : CallW} (O : TabOk P C T) (H : CallWOk P C call) {f : FuncId} {ops : Array Oper} : ∀ (l : List Oper) (σ : St) (K : St → Prop), wpOpsW T C P call f ops l σ K → ∃ m τ, evOps C P (evCall C P m) f ops l σ = some τ ∧ K τ := by
 intro l
 induction l with
 | nil => intro σ K h; exact ⟨0, σ, rfl, h⟩
 | cons o l ih =>
  intro σ K h
  obtain ⟨m, τ, h1, h2⟩ := step_okW O H (K := fun τ => wpOpsW T C P call f ops l τ K) h
  obtain ⟨m', τ', h3, h4⟩ := ih τ K h2
  refine ⟨max m m', τ', ?_, h4⟩
  rw [evOps_cons, step_le (call_mono (Nat.le_max_left m m')) h1]
  exact ops_le (call_mono (Nat.le_max_right m m')) _ _ _ h3
theorem Ev.region {f : FuncId} {id : Nat} {ops : Array Oper} {draw : Bool} {σ : St} {K : KR} (hd : (draw && C.bad f id) = false) (h : ∃ m τ, evOps C P (evCall C P m) f ops ops.toList σ = some τ ∧ K .normal τ) : Ev C P f (.region id ops draw) σ K := by
 obtain ⟨m, τ, h1, h2⟩ := h
 refine ⟨m + 1, .normal, τ, ?_, h2⟩
 show evReg C P (callWith C P (evCode C P m)) f id ops draw σ = _
 unfold evReg
 rw [hd]; simp only [cond_false]
 show (match evOps C P (evCall C P m) f ops ops.toList σ with | some σ' => some (Ex.normal, σ') | none => none) = _
 rw [h1]
theorem Ev.seq {f : FuncId} {a b : Code} {σ : St} {K : KR} (h : Ev C P f a σ fun e τ => match e with | .normal => Ev C P f b τ K | .exit i => K (.exit i) τ | .ret => K .ret τ) : Ev C P f (.seq a b) σ K := by
 obtain ⟨m, e, τ, h1, h2⟩ := h
 cases e with
 | normal =>
  obtain ⟨m', e', τ', h3, h4⟩ := h2
  refine ⟨max m m' + 1, e', τ', ?_, h4⟩
  show evSeq (evCode C P (max m m') f a σ) (evCode C P (max m m') f b) = _
  rw [code_mono (Nat.le_max_left m m') _ _ _ _ h1]
  exact code_mono (Nat.le_max_right m m') _ _ _ _ h3
 | exit i =>
  refine ⟨m + 1, .exit i, τ, ?_, h2⟩
  show evSeq (evCode C P m f a σ) (evCode C P m f b) = _
  rw [h1]; rfl
 | ret =>
  refine ⟨m + 1, .ret, τ, ?_, h2⟩
  show evSeq (evCode C P m f a σ) (evCode C P m f b) = _
  rw [h1]; rfl
theorem Ev.cond {f : FuncId} {c : Operand} {a b : Code} {σ : St} {K : KR} {t : Bool} (hc : σ.val c = some (.sc (.bool t))) (h : iteP t (Ev C P f a σ K) (Ev C P f b σ K)) : Ev C P f (.cond c a b) σ K := by
 cases t with
 | true =>
  obtain ⟨m, e, τ, h1, h2⟩ := h
  refine ⟨m + 1, e, τ, ?_, h2⟩
  show evCond σ c (evCode C P m f a σ) (evCode C P m f b σ) = _
  unfold evCond; rw [hc]; exact h1
 | false =>
  obtain ⟨m, e, τ, h1, h2⟩ := h
  refine ⟨m + 1, e, τ, ?_, h2⟩
  show evCond σ c (evCode C P m f a σ) (evCode C P m f b σ) = _
  unfold evCond; rw [hc]; exact h1
theorem Ev.block {f : FuncId} {id : Nat} {b : Code} {σ : St} {K : KR} (h : Ev C P f b σ fun e τ => match e with | .normal => K .normal τ | .exit i => bif Nat.beq i id then K .normal τ else K (.exit i) τ | .ret => K .ret τ) : Ev C P f (.block id b) σ K := by
 obtain ⟨m, e, τ, h1, h2⟩ := h
 cases e with
 | normal => exact ⟨m + 1, .normal, τ, by show evBlk id (evCode C P m f b σ) = _; rw [h1]; rfl, h2⟩
 | ret => exact ⟨m + 1, .ret, τ, by show evBlk id (evCode C P m f b σ) = _; rw [h1]; rfl, h2⟩
 | exit i =>
  cases hq : Nat.beq i id with
  | true =>
   simp only [hq, cond_true] at h2
   exact ⟨m + 1, .normal, τ, by show evBlk id (evCode C P m f b σ) = _; rw [h1]; simp only [evBlk, hq, cond_true], h2⟩
  | false =>
   simp only [hq, cond_false] at h2
   exact ⟨m + 1, .exit i, τ, by show evBlk id (evCode C P m f b σ) = _; rw [h1]; simp only [evBlk, hq, cond_false], h2⟩
theorem Ev.loop {f : FuncId} {b : Code} {σ : St} {K : KR} (ht : C.tidy f (firstId 8 b) = none) (h : Ev C P f b σ fun e τ => match e with | .normal => Ev C P f (.loop b) τ K | .exit i => K (.exit i) τ | .ret => K .ret τ) : Ev C P f (.loop b) σ K := by
 obtain ⟨m, e, τ, h1, h2⟩ := h
 have key : ∀ m, evCode C P (m + 1) f (.loop b) σ = evSeq (evCode C P m f b σ) (evCode C P m f (.loop b)) := by
  intro m
  show (match C.tidy f (firstId 8 b) with | none => _ | some t => _) = _
  rw [ht]; rfl
 cases e with
 | normal =>
  obtain ⟨m', e', τ', h3, h4⟩ := h2
  refine ⟨max m m' + 1, e', τ', ?_, h4⟩
  rw [key, code_mono (Nat.le_max_left m m') _ _ _ _ h1]
  exact code_mono (Nat.le_max_right m m') _ _ _ _ h3
 | exit i => exact ⟨m + 1, .exit i, τ, by rw [key, h1]; rfl, h2⟩
 | ret => exact ⟨m + 1, .ret, τ, by rw [key, h1]; rfl, h2⟩
theorem Ev.loopT {f : FuncId} {b : Code} {σ : St} {K : KR} {t : Tidy} (ht : C.tidy f (firstId 8 b) = some t) (h : Ev C P f b (σ.tidy t.head t.nloc) fun e τ => match e with | .normal => Ev C P f (.loop b) τ K | .exit i => K (.exit i) (τ.tidy t.exit t.nloc) | .ret => K .ret (τ.tidy t.exit t.nloc)) : Ev C P f (.loop b) σ K := by
 obtain ⟨m, e, τ, h1, h2⟩ := h
 have key : ∀ m, evCode C P (m + 1) f (.loop b) σ = evLoop t (evCode C P m f b (σ.tidy t.head t.nloc)) (evCode C P m f (.loop b)) := by
  intro m
  show (match C.tidy f (firstId 8 b) with | none => _ | some t => _) = _
  rw [ht]; rfl
 cases e with
 | normal =>
  obtain ⟨m', e', τ', h3, h4⟩ := h2
  refine ⟨max m m' + 1, e', τ', ?_, h4⟩
  rw [key, code_mono (Nat.le_max_left m m') _ _ _ _ h1]
  exact code_mono (Nat.le_max_right m m') _ _ _ _ h3
 | exit i => exact ⟨m + 1, _, _, by rw [key, h1]; rfl, h2⟩
 | ret => exact ⟨m + 1, _, _, by rw [key, h1]; rfl, h2⟩
theorem Ev.mono {f : FuncId} {c : Code} {σ : St} {K K' : KR} (h : Ev C P f c σ K) (hk : ∀ e τ, K e τ → K' e τ) : Ev C P f c σ K' := by
 obtain ⟨m, e, τ, h1, h2⟩ := h
 exact ⟨m, e, τ, h1, hk e τ h2⟩
theorem code1_okW {run : RunW} (O : TabOk P C T) (H : RunWOk P C run) : RunWOk P C (wpCode1 T C P run) := by
 intro f c σ K hw
 cases c with
 | skip => exact ⟨1, _, _, rfl, hw⟩
 | region id ops draw =>
  replace hw : bif draw && C.bad f id then False else wpOpsW T C P (wpCallB C P run) f ops ops.toList σ fun τ => forceZ (T.lazy f) τ fun τ => K .normal τ := hw
  simp only [forceZ_eq] at hw
  cases hd : draw && C.bad f id with
  | true => rw [hd] at hw; exact hw.elim
  | false => rw [hd] at hw; exact Ev.region hd (ops_okW O (callB_ok H) _ _ _ hw)
 | seq a b =>
  refine Ev.seq ((H f a σ _ hw).mono fun e τ h => ?_)
  cases e with
  | normal => exact H f b τ K h
  | exit i => exact h
  | ret => exact h
 | cond k a b =>
  simp only [wpCode1] at hw
  split at hw
  ·rename_i t ht
   refine Ev.cond ht ?_
   cases t with
   | true => exact H f a σ K hw
   | false => exact H f b σ K hw
  ·exact hw.elim
 | block id b => exact Ev.block (H f b σ _ hw)
 | loop b =>
  simp only [wpCode1] at hw
  split at hw
  ·rename_i t ht
   split at hw
   ·rename_i s hs
    obtain ⟨h1, h2, h3⟩ := hw
    obtain ⟨a, ha, x, m, h4, h5⟩ := O.loop _ _ _ _ _ ht hs h2
    rw [h1] at h5
    exact ⟨m, _, _, h5, wpLAlts_ok h3 a ha x h4⟩
   ·exact hw.elim
  ·split at hw
   ·rename_i ht
    refine Ev.loop ht ((H f b σ _ hw).mono fun e τ h => ?_)
    cases e with
    | normal => exact H f (.loop b) τ K h
    | exit i => exact h
    | ret => exact h
   ·rename_i t ht
    refine Ev.loopT ht ((H f b _ _ hw).mono fun e τ h => ?_)
    cases e with
    | normal => exact H f (.loop b) τ K h
    | exit i => exact h
    | ret => exact h
 | exit id => exact ⟨1, _, _, rfl, hw⟩
 | ret => exact ⟨1, _, _, rfl, hw⟩
 | scope b =>
  obtain ⟨m, e, τ, h1, h2⟩ := H f b σ K hw
  exact ⟨m + 1, e, τ, h1, h2⟩
 | label l => exact ⟨1, _, _, rfl, hw⟩
 | _ => exact hw.elim
theorem code_okW (O : TabOk P C T) : ∀ n, RunWOk P C (wpCode T C P n) := by
 intro n
 induction n with
 | zero => intro f c σ K h; exact h.elim
 | succ n ih => exact code1_okW O ih
theorem call_okW (O : TabOk P C T) (n : Nat) : CallWOk P C (wpCall T C P n) := callB_ok (code_okW O n)
end
end
end Go.Ef
namespace Go.Ef
open Go
noncomputable section
def aStr (l : List UInt8) : AV := .sc (.string ⟨⟨l⟩⟩)
def aBool (b : Bool) : AV := .sc (.bool b)
section
variable {P : Program} {C : Cfg} {T : Tab}
end
end
end Go.Ef
namespace Go.Ef
open Go
theorem iteP_t {A B : Prop} : iteP true A B = A := rfl
theorem iteP_f {A B : Prop} : iteP false A B = B := rfl
end Go.Ef
namespace Go.Ef
open Go
noncomputable section
def tab0 : Tab := { call := fun _ => none, loop := fun _ _ => none, exact := fun _ _ => false, named := fun _ _ => false }
def Tab.addC (T : Tab) (g : FuncId) (t : List AV → Heap → Option CSpec) : Tab := { T with call := fun x => bif Nat.beq x g then some t else T.call x }
def Tab.name (T : Tab) (f t : Nat) : Tab := { T with named := fun x y => bif Nat.beq x f && Nat.beq y t then true else T.named x y }
def fspec (pre : Prop) (v : AV) (h : Heap) : CSpec := { pre := pre, alts := [{ α := Unit, post := fun _ => True, val := fun _ => v, heap := fun _ => h }] }
section
variable {P : Program} {C : Cfg} {T : Tab}
theorem tab0_ok : TabOk P C tab0 := ⟨fun _ _ _ _ _ ht => (by cases ht), fun _ _ _ _ _ ht => (by cases ht)⟩
theorem addC_ok (O : TabOk P C T) {g : FuncId} {t : List AV → Heap → Option CSpec} (H : ∀ args h s, t args h = some s → s.pre → ∃ a ∈ s.alts, ∃ x m, a.post x ∧ callP C (evCall C P m) g args h = some (a.val x, a.heap x)) : TabOk P C (T.addC g t) := by
 refine ⟨fun x t' args h s ht hs hp => ?_, fun f i t' σ s ht => O.loop f i t' σ s ht⟩
 replace ht : (bif Nat.beq x g then some t else T.call x) = some t' := ht
 cases hq : Nat.beq x g with
 | true =>
  rw [hq] at ht
  cases ht
  rw [Nat.eq_of_beq_eq_true hq]
  exact H args h s hs hp
 | false =>
  rw [hq] at ht
  exact O.call x t' args h s ht hs hp
theorem EvP.fresh {g : FuncId} {args args' : List AV} {h : Heap} {K : AV → Heap → Prop} (hf : C.fresh g = true) (hp : C.prim g = none) (ha : mapO (stripA 8) args = some args')
  (H : EvC C P g args' heapF fun r h' => wpBack h' r fun y => K y h) : EvP C P g args h K := by
 obtain ⟨m, r, h', h1, h2⟩ := H
 obtain ⟨y, h3, h4⟩ := wpBack_ok h2
 refine ⟨m, y, h, ?_, h4⟩
 unfold callP
 rw [hp]; simp only []; rw [hf]; simp only [cond_true]; rw [ha]; simp only []; rw [h1]; simp only []; rw [h3]
end
end
end Go.Ef
namespace Go.Proofs.Bi
open Go Go.Ef
noncomputable section
set_option maxRecDepth 100000
abbrev Ok (m : Int) (T : Tab) : Prop := TabOk Tryz.prog (cfg m) T
def C11 (args : List AV) (h : Heap) : Option CSpec :=
 match args with
 | [] => some (fspec True (aBool true) h)
 | _ => none
def T11 : Tab := tab0.addC 11 C11
end
end Go.Proofs.Bi
namespace Go.Proofs.Bi
open Go Go.Ef
noncomputable section
set_option maxRecDepth 100000
theorem c5 (m : Int) (s : List UInt8) (K : AV → Prop) (h :
 iteP (decide ((40 : Int) < (↑s.length : Int))) (True ∧ ∀ (_ : Unit), True → K (AV.sc (Value.bool true)))
 (True ∧ ∀ (_ : Unit), True → K (AV.sc (Value.bool true)))) :
 (fun (m : Int) (s : List UInt8) (K : AV → Prop) => wpCall T11 (cfg m) Tryz.prog 60 5 [aStr s] heap0 fun r _ => K r) m s K :=
 Eq.mp (by kernel_rfl) h
end
end Go.Proofs.Bi
namespace Go.Proofs.Bi
open Go Go.Ef
noncomputable section
set_option maxRecDepth 100000
variable {m : Int} {T : Tab}
theorem ok11 (O : Ok m T) : Ok m (T.addC 11 C11) := by
 refine addC_ok O fun args h s hs _ => ?_
 unfold C11 at hs
 split at hs
 ·cases hs
  obtain ⟨h', he⟩ := Rec.yes_spec (awake_ev m)
  refine ⟨_, List.mem_singleton.2 rfl, (), 1000, trivial, ?_⟩
  show callP (cfg m) (evCall (cfg m) Tryz.prog 1000) 11 [] h = some (aBool true, h)
  have hf : (cfg m).fresh 11 = true := by kernel_rfl
  unfold callP
  rw [show (cfg m).prim 11 = none from rfl]
  simp only []
  rw [hf]
  simp only [cond_true]
  have e : mapO (stripA 8) ([] : List AV) = some [] := rfl
  rw [e]
  simp only []
  rw [he]; rfl
 ·cases hs
theorem law5 (m : Int) (s : List UInt8) : ∃ n h, evCall (cfg m) Tryz.prog n 5 [aStr s] heap0 = some (aBool true, h) := by
 have key := call_okW (ok11 (m := m) (T := tab0) tab0_ok) 60 5 [aStr s] heap0 (fun r _ => r = aBool true) (c5 m s _ ?_)
 ·obtain ⟨n, r, h', h1, rfl⟩ := key
  exact ⟨n, h', h1⟩
 ·cases decide ((40 : Int) < (s.length : Int)) with
  | true => rw [iteP_t]; exact ⟨trivial, fun _ _ => rfl⟩
  | false => rw [iteP_f]; exact ⟨trivial, fun _ _ => rfl⟩
end
end Go.Proofs.Bi
namespace Go.Proofs.Bi
open Go Go.Ef
noncomputable section
def vAt (P : Program) : Nat → TypeId → DataW Unit → Nat → Option Value
 | 0, _, _, _ => none
 | fuel + 1, t, d, i =>
  match P.underlying t with
  | some (.int k) => match d with
   | .lit (.int k' n) => if k' = k ∧ i = 0 then some (.int k n) else none
   | _ => none
  | some .string => match d with
   | .lit (.string b) => if i = 0 then some (.string ⟨⟨b⟩⟩) else none
   | _ => none
  | some (.array _ e) => match d with
   | .agg ds => if i % P.cellsOf e < P.cellsOf e then (ds[i / P.cellsOf e]?).bind fun d => vAt P fuel e d (i % P.cellsOf e) else none
   | _ => none
  | some (.struct fs) => match d with
   | .agg ds => (fs.toList.zip ds).findSome? fun x => if x.1.offset ≤ i ∧ i < x.1.offset + P.cellsOf x.1.type then vAt P fuel x.1.type x.2 (i - x.1.offset) else none
   | _ => none
  | _ => none
theorem take_drop_get {α : Type} {l : List α} {a n i : Nat} {x : α} (h : ((l.drop a).take n)[i]? = some x) : l[a + i]? = some x := by
 rw [List.getElem?_take] at h
 split at h
 ·rw [List.getElem?_drop] at h; exact h
 ·cases h
theorem at_trod {P : Program} {w : World} {base : Nat} {sp : Nat → Bool} : ∀ (g fuel : Nat) (t : TypeId) (cs : List Value) (d : DataW Unit) (p : List MemPlace), DataW.trod (fun _ => ()) P w base sp false fuel t cs = some (d, p) →
  ∀ (i : Nat) (v : Value), vAt P g t d i = some v → cs[i]? = some v := by
 intro g
 induction g with
 | zero => intro fuel t cs d p _ i v h; cases h
 | succ g ih =>
  intro fuel t cs d p h i v hv
  cases fuel with
  | zero => simp [DataW.trod] at h
  | succ fuel =>
   unfold vAt at hv
   split at hv
   ·rename_i k ht
    obtain ⟨z, rfl, hx, _⟩ := DataW.trod_int ht h
    cases hx
    simp only at hv
    split at hv
    ·rename_i hk
     obtain ⟨_, rfl⟩ := hk
     cases hv; rfl
    ·cases hv
   ·rename_i ht
    obtain ⟨z, rfl, hx, _⟩ := DataW.trod_string ht h
    cases hx
    simp only at hv
    split at hv
    ·rename_i hi
     subst hi
     cases hv; rfl
    ·cases hv
   ·rename_i n e ht
    simp only [DataW.trod, ht] at h
    split at h
    ·obtain ⟨xs, hm, hx⟩ := Option.map_eq_some_iff.1 h
     cases hx
     simp only at hv
     split at hv
     ·obtain ⟨d', hd', hv'⟩ := Option.bind_eq_some_iff.1 hv
      rw [List.getElem?_map] at hd'
      obtain ⟨x, hx, rfl⟩ := Option.map_eq_some_iff.1 hd'
      have hlen := Lib.mapM_length hm
      have hlt : i / P.cellsOf e < n := by
       have := (List.getElem?_eq_some_iff.1 hx).1
       simp at hlen
       omega
      obtain ⟨b, hb, hf⟩ := Lib.mapM_at hm (i / P.cellsOf e) (i / P.cellsOf e) (by simp [hlt])
      rw [hx] at hb
      cases hb
      have := ih fuel e _ x.1 x.2 hf _ _ hv'
      have := take_drop_get this
      rwa [Nat.mul_comm, Nat.div_add_mod] at this
     ·cases hv
    ·cases h
   ·rename_i fs ht
    simp only [DataW.trod, ht] at h
    split at h
    ·obtain ⟨xs, hm, hx⟩ := Option.map_eq_some_iff.1 h
     cases hx
     simp only at hv
     obtain ⟨⟨f, d'⟩, hmem, hf⟩ := List.exists_of_findSome?_eq_some hv
     simp only at hf
     split at hf
     ·rename_i hr
      obtain ⟨j, hj⟩ := List.getElem?_of_mem hmem
      rw [List.getElem?_zip_eq_some] at hj
      obtain ⟨hj1, hj2⟩ := hj
      rw [List.getElem?_map] at hj2
      obtain ⟨x, hx, hxd⟩ := Option.map_eq_some_iff.1 hj2
      simp only at hj1 hxd
      obtain ⟨b, hb, hfb⟩ := Lib.mapM_at hm j f hj1
      rw [hx] at hb
      cases hb
      subst hxd
      have := ih fuel f.type _ x.1 x.2 hfb _ _ hf
      have := take_drop_get this
      rwa [show f.offset + (i - f.offset) = i by omega] at this
     ·cases hf
    ·cases h
   ·cases hv
def same : AV → Option Value → Bool
 | .sc (.int k n), some (.int k' n') => decide (k = k') && decide (n = n')
 | .sc (.string a), some (.string b) => decide (a.data.toList = b.data.toList)
 | .sc (.bool a), some (.bool b) => a == b
 | _, _ => false
theorem same_V {w : World} {x : AV} {v : Value} (h : same x (some v) = true) : V (imm0 w) x v := by
 unfold same at h
 split at h
 ·rename_i e
  cases e
  simp only [Bool.and_eq_true, decide_eq_true_eq] at h
  obtain ⟨rfl, rfl⟩ := h
  exact .sc rfl
 ·rename_i a b e
  cases e
  obtain ⟨⟨la⟩⟩ := a
  obtain ⟨⟨lb⟩⟩ := b
  simp only [decide_eq_true_eq] at h
  subst h
  exact .sc rfl
 ·rename_i e
  cases e
  obtain rfl : _ = _ := by simpa using h
  exact .sc rfl
 ·cases h
def chk (P : Program) (t : TypeId) (d : DataW Unit) : Nat → List AV → Bool
 | _, [] => true
 | i, x :: r => same x (vAt P 5 t d i) && chk P t d (i + 1) r
theorem chk_at {P : Program} {t : TypeId} {d : DataW Unit} : ∀ (l : List AV) (k : Nat), chk P t d k l = true → ∀ (i : Nat) (x : AV), l[i]? = some x → ∃ v, vAt P 5 t d (k + i) = some v ∧ same x (some v) = true := by
 intro l
 induction l with
 | nil => intro k _ i x h; simp at h
 | cons y r ih =>
  intro k h i x hx
  simp only [chk, Bool.and_eq_true] at h
  cases i with
  | zero =>
   simp at hx; subst hx
   have h1 := h.1
   rw [Nat.add_zero]
   cases hv : vAt P 5 t d k with
   | some v => rw [hv] at h1; exact ⟨v, rfl, h1⟩
   | none => rw [hv] at h1; unfold same at h1; split at h1 <;> first | (rename_i e; cases e) | cases h1
  | succ i =>
   rw [List.getElem?_cons_succ] at hx
   have := ih (k + 1) h.2 i x hx
   rwa [show k + 1 + i = k + (i + 1) by omega] at this
theorem row_glob {P : Program} {W : World} {name : String} {d : DataW Unit} {rest : List (String × DataW Unit)} {g : Nat} {t : TypeId} {cs : List AV}
  (hg : P.globalNamed name = some g) (hty : (P.globals[g]?).map (·.type) = some t) (hc : chk P t d 0 cs = true) (h : laidMet P ((name, d) :: rest) W) :
  ∀ (i : Nat) (x : AV), cs[i]? = some x → ∃ c, W.cell? ⟨g, i, none⟩ = some c ∧ V (imm0 W) x c := by
 obtain ⟨ps, ⟨g', t', l, fuel, p, q, hg', ht', hvar, hd, _, _⟩, _⟩ := h
 obtain rfl := Option.some.inj (hg.symm.trans hg')
 obtain rfl := Option.some.inj (hty.symm.trans ht')
 intro i x hx
 obtain ⟨v, hv, hs⟩ := chk_at cs 0 hc i x hx
 rw [Nat.zero_add] at hv
 have hcell := at_trod 5 fuel t _ d p hd i v hv
 refine ⟨v, ?_, same_V hs⟩
 rw [World.var?_cell hg hvar i]
 simpa using hcell
set_option maxRecDepth 100000 in
theorem glob_ok {W : World} {m : Int} (hm : W.cell? ⟨1, 0, none⟩ = some (.int .i64 m))
  (h : laidMet Tryz.prog YtdnekbapjlbeaaaGreatDoor.Rows.builtinOtherRow.laid W) : GlobOk (cfg m) W := by
 have h0 : laidMet Tryz.prog (("math/bits.deBruijn32tab", YtdnekbapjlbeaaaGreatDoor.Rows.laid_math_bits_deBruijn32tab) :: ("math/bits.deBruijn64tab", YtdnekbapjlbeaaaGreatDoor.Rows.laid_math_bits_deBruijn64tab) :: ("internal/strconv.uint64pow10", YtdnekbapjlbeaaaGreatDoor.Rows.laid_internal_strconv_uint64pow10) :: ("unicode/utf8.acceptRanges", YtdnekbapjlbeaaaGreatDoor.Rows.laid_unicode_utf8_acceptRanges) :: ("texttools/decimal.units", YtdnekbapjlbeaaaGreatDoor.Rows.laid_texttools_decimal_units) :: ("texttools/builtin.functions", YtdnekbapjlbeaaaGreatDoor.Rows.laid_texttools_builtin_functions) :: ("unicode.CaseRanges", YtdnekbapjlbeaaaGreatDoor.Rows.laid_unicode_CaseRanges) :: ("unicode/utf8.first", YtdnekbapjlbeaaaGreatDoor.Rows.laid_unicode_utf8_first) :: []) W := h
 intro g cs hg
 replace hg : globs m g = some cs := hg
 unfold globs at hg
 split at hg
 ·cases hg; exact row_glob (t := 158) (by kernel_rfl) (by kernel_rfl) (by kernel_rfl) h0.tail.tail.tail.tail.tail
 ·cases hg
  intro i x hx
  match i with
  | 0 => simp at hx; subst hx; exact ⟨_, hm, .sc rfl⟩
  | i + 1 => simp at hx
 ·cases hg; exact row_glob (t := 249) (by kernel_rfl) (by kernel_rfl) (by kernel_rfl) h0.tail.tail.tail.tail
 ·cases hg; exact row_glob (t := 301) (by kernel_rfl) (by kernel_rfl) (by kernel_rfl) h0.tail.tail.tail.tail.tail.tail.tail
 ·cases hg; exact row_glob (t := 304) (by kernel_rfl) (by kernel_rfl) (by kernel_rfl) h0.tail.tail.tail
 ·cases hg; exact row_glob (t := 329) (by kernel_rfl) (by kernel_rfl) (by kernel_rfl) h0.tail.tail
 ·cases hg; exact row_glob (t := 351) (by kernel_rfl) (by kernel_rfl) (by kernel_rfl) h0
 ·cases hg; exact row_glob (t := 352) (by kernel_rfl) (by kernel_rfl) (by kernel_rfl) h0.tail
 ·cases hg
end
end Go.Proofs.Bi
namespace Go.Proofs.YtdnekbapjlbeaaaGreatDoor
open Go Go.Ef Go.ChangeShapes Go.WideShapes Go.ChangeAt Go.RowKit
open Go.ChangeMaps (open_string shut_string)
theorem own : ownKnob Tryz.prog.godebug = none := by kernel_rfl
theorem row_witness {H : Type} {enc : TypeId × Value → H} {C : Checked} {os : Os} {f : FuncId} {fn : Func} {s : OpenSpec} {conds : List PathCond} {apart : Bool} {laid : List (String × DataW Unit)} (w0 : World) (args : Array Value) (hos : w0.os = os)
  (hsh : (w0.forCall (fun _ _ => 0) ⟨#[], args, []⟩).Shaped C.prog) (hok : Input.okWideB C.prog (w0.forCall (fun _ _ => 0) ⟨#[], args, []⟩) f ⟨#[], args, []⟩ = true)
  (hrow : s.preRow enc C.prog fn conds apart laid (w0.forCall (fun _ _ => 0) ⟨#[], args, []⟩).memory args) :
  ∃ (w : World) (tape : Tape) (i : Input), w.os = os ∧ (w.forCall tape i).Shaped C.prog ∧ i.vars = [] ∧ Input.okWide C.prog (w.forCall tape i) .any w.heap.size f i ∧
   s.preRow enc C.prog fn conds apart laid (w.forCall tape i).memory i.args ∧ ({} : Assume).holds C.prog (lone (Frame.enter C.prog f i.args .normal) [] (w.forCall tape i)) :=
 ⟨w0, fun _ _ => 0, ⟨#[], args, []⟩, hos, hsh, (Input.okWide_of_okWideB (base := 0) hok).1, (Input.okWide_of_okWideB hok).2, hrow, by
  simp only [Assume.holds]
  exact ⟨by simp, by simp, fun _ => Modest.zero, by simp, by simp⟩⟩
end Go.Proofs.YtdnekbapjlbeaaaGreatDoor
namespace Go.Proofs.YtdnekbapjlbeaaaGreatDoor
open Go Go.Ef Go.ChangeShapes Go.WideShapes Go.ChangeAt Go.RowKit
theorem room_bi {W : World} (h : W.ShapedOpen Tryz.prog) (hL : laidMet Tryz.prog Rows.builtinOtherRow.laid W) : ∃ m, GlobOk (Bi.cfg m) W := by
 obtain ⟨m, hm⟩ := cell_of_shapedOpen_int (g := 1) (zero := #[.int .i64 0]) (t := 3) h (of_decide_eq_true (by kernel_rfl)) (by kernel_rfl) rfl (by kernel_rfl) (by kernel_rfl) Tryz.underlying3
 exact ⟨m, Bi.glob_ok hm hL⟩
end Go.Proofs.YtdnekbapjlbeaaaGreatDoor
