/- A part of the proof: definitions and lemmas. -/
import Derived.Test.YtdnekbapjlbeaaaGreatDoorLimitsC
import Derived.Lib.Join
namespace Go.Ef
open Go
noncomputable section
structure TabOk (P : Program) (C : Cfg) (T : Tab) : Prop where
 call : ∀ g t args h s, T.call g = some t → t args h = some s → s.pre → ∃ a ∈ s.alts, ∃ x m, a.post x ∧ callP C (evCall C P m) g args h = some (a.val x, a.heap x)
 loop : ∀ f i t σ s, T.loop f i = some t → t σ = some s → s.pre → ∃ a ∈ s.alts, ∃ x m, a.post x ∧ evCode C P m f (.loop (loopAt P f i)) σ = some (a.ex, a.st x)
def Ev (C : Cfg) (P : Program) (f : FuncId) (c : Code) (σ : St) (K : KR) : Prop := ∃ m e τ, evCode C P m f c σ = some (e, τ) ∧ K e τ
def EvC (C : Cfg) (P : Program) (g : FuncId) (args : List AV) (h : Heap) (K : AV → Heap → Prop) : Prop := ∃ m v h', evCall C P m g args h = some (v, h') ∧ K v h'
def EvP (C : Cfg) (P : Program) (g : FuncId) (args : List AV) (h : Heap) (K : AV → Heap → Prop) : Prop := ∃ m v h', callP C (evCall C P m) g args h = some (v, h') ∧ K v h'
section
variable {P : Program} {C : Cfg} {T : Tab}
def RunWOk (P : Program) (C : Cfg) (run : RunW) : Prop := ∀ f c σ K, run f c σ K → Ev C P f c σ K
def CallWOk (P : Program) (C : Cfg) (call : CallW) : Prop := ∀ g args h K, call g args h K → EvC C P g args h K
theorem forceL_eq {f : AV → (AV → Prop) → Prop} (hf : ∀ a k, f a k = k a) : ∀ (l : List AV) (k : List AV → Prop), forceL f l k = k l := by
 intro l
 induction l with
 | nil => intro k; rfl
 | cons x l ih =>
  intro k
  show (f x fun y => forceL f l fun l => k (y :: l)) = _
  rw [hf, ih]
theorem forceA_eq : ∀ n a k, forceA n a k = k a := by
 intro n
 induction n with
 | zero => intro a k; rfl
 | succ n ih =>
  intro a k
  cases a with
  | sc v =>
   cases v <;> rfl
  | agg cs => exact forceL_eq ih cs fun l => k (.agg l)
  | tup cs => exact forceL_eq ih cs fun l => k (.tup l)
  | _ => rfl
theorem forceO_eq (v : Option Slot) (k : Option Slot → Prop) : forceO v k = k v := by
 cases v with
 | none => rfl
 | some s =>
  cases s with
  | v a => exact forceA_eq 2 a fun a => k (some (.v a))
  | lp i j => rfl
  | unk => rfl
theorem forceT_eq : ∀ (t : Tr Slot) (k : Tr Slot → Prop), forceT t k = k t := by
 intro t
 induction t with
 | leaf => intro k; rfl
 | node l v r ihl ihr =>
  intro k
  show (forceT l fun l => forceT r fun r => forceO v fun v => k (.node l v r)) = _
  rw [ihl, ihr, forceO_eq]
theorem forceC_eq : ∀ (l : List LObj) (k : List LObj → Prop), forceC l k = k l := by
 intro l
 induction l with
 | nil => intro k; rfl
 | cons x l ih =>
  intro k
  cases x with
  | cells cs =>
   show (forceL (forceA 1) cs fun cs => forceC l fun l => k (.cells cs :: l)) = _
   rw [forceL_eq (forceA_eq 1), ih]
  | iter s p => exact ih fun l => k (.iter s p :: l)
theorem forceH_eq : ∀ (t : Tr AObj) (k : Tr AObj → Prop), forceH t k = k t := by
 intro t
 induction t with
 | leaf => intro k; rfl
 | node l v r ihl ihr =>
  intro k
  show (forceH l fun l => forceH r fun r => match v with
   | none => k (.node l none r)
   | some o => match o with
    | .cells cs => forceL (forceA 1) cs fun cs => k (.node l (some (.cells cs)) r)
    | o => k (.node l (some o) r)) = _
  rw [ihl, ihr]
  cases v with
  | none => rfl
  | some o =>
   cases o with
   | cells cs => exact forceL_eq (forceA_eq 1) cs fun cs => k (.node l (some (.cells cs)) r)
   | _ => rfl
theorem forceS_eq (σ : St) (k : St → Prop) : forceS σ k = k σ := by
 obtain ⟨n, tm, d, loc, h⟩ := σ
 obtain ⟨nx, objs, ro, ty⟩ := h
 show (forceT tm fun tm => forceC loc fun loc => forceH objs fun objs => k ⟨n, tm, d, loc, ⟨nx, objs, ro, ty⟩⟩) = _
 rw [forceT_eq, forceC_eq, forceH_eq]
theorem forceZ_eq (b : Bool) (σ : St) (k : St → Prop) : forceZ b σ k = k σ := by
 unfold forceZ
 cases b with
 | false => exact forceS_eq σ k
 | true =>
  obtain ⟨n, tm, d, loc, h⟩ := σ
  show (forceT tm fun tm => forceC loc fun loc => k ⟨n, tm, d, loc, h⟩) = _
  rw [forceT_eq, forceC_eq]
theorem wpCAlts_ok {K : AV → Heap → Prop} : ∀ {l : List CAlt}, wpCAlts l K → ∀ a ∈ l, ∀ x, a.post x → K (a.val x) (a.heap x) := by
 intro l
 induction l with
 | nil => intro _ a ha; cases ha
 | cons s r ih =>
  intro h a ha
  cases r with
  | nil =>
   cases ha with
   | head => exact h
   | tail _ h' => cases h'
  | cons u r =>
   cases ha with
   | head => exact h.1
   | tail _ h' => exact ih h.2 a h'
theorem wpLAlts_ok {K : Ex → St → Prop} : ∀ {l : List LAlt}, wpLAlts l K → ∀ a ∈ l, ∀ x, a.post x → K a.ex (a.st x) := by
 intro l
 induction l with
 | nil => intro _ a ha; cases ha
 | cons s r ih =>
  intro h a ha
  cases r with
  | nil =>
   cases ha with
   | head => exact h
   | tail _ h' => cases h'
  | cons u r =>
   cases ha with
   | head => exact h.1
   | tail _ h' => exact ih h.2 a h'
theorem callB_ok {run : RunW} (H : RunWOk P C run) : CallWOk P C (wpCallB C P run) := by
 intro g args h K hw
 unfold wpCallB at hw
 split at hw
 ·rename_i fn hf
  split at hw
  ·rename_i c hb
   obtain ⟨m, e, τ, h1, h2⟩ := H g c _ _ hw
   split at h2
   ·rename_i v h' he
    refine ⟨m, v, h', ?_, h2⟩
    unfold evCall callWith
    rw [hf]; simp only []; rw [hb]; simp only []
    unfold entry at h1
    rw [h1]; exact he
   ·exact h2.elim
  ·exact hw.elim
 ·exact hw.elim
theorem callP_okW {call : CallW} (O : TabOk P C T) (H : CallWOk P C call) {g : FuncId} {args : List AV} {h : Heap} {K : AV → Heap → Prop} (hw : wpCallP T C call g args h K) : EvP C P g args h K := by
 unfold wpCallP at hw
 split at hw
 ·rename_i t ht
  split at hw
  ·rename_i s hs
   obtain ⟨a, ha, x, m, h1, h2⟩ := O.call g t args h s ht hs hw.1
   exact ⟨m, _, _, h2, wpCAlts_ok hw.2 a ha x h1⟩
  ·exact hw.elim
 ·split at hw
  ·rename_i p hp
   split at hw
   ·rename_i v h' he
    exact ⟨0, v, h', by unfold callP; rw [hp]; exact he, hw⟩
   ·exact hw.elim
  ·rename_i hp
   cases hfr : C.fresh g with
   | true =>
    rw [hfr] at hw
    obtain ⟨args', h1, h2⟩ := wpStrips_ok _ _ hw
    obtain ⟨m, v, h', h3, h4⟩ := H _ _ _ _ h2
    obtain ⟨y, h5, h6⟩ := wpBack_ok h4
    refine ⟨m, y, h, ?_, h6⟩
    unfold callP
    rw [hp]; simp only []; rw [hfr]; simp only [cond_true]; rw [h1]; simp only []; rw [h3]; simp only []; rw [h5]
   | false =>
    rw [hfr] at hw
    simp only [cond_false] at hw
    cases hpu : C.pure g with
    | true =>
     rw [hpu] at hw
     obtain ⟨m, v, h', h3, h4⟩ := H _ _ _ _ hw
     obtain ⟨y, h5, h6⟩ := wpBack_ok h4
     refine ⟨m, y, h, ?_, h6⟩
     unfold callP
     rw [hp]; simp only []; rw [hfr, hpu]; simp only [cond_true, cond_false]; rw [h3]; simp only []; rw [h5]
    | false =>
     rw [hpu] at hw
     obtain ⟨m, v, h', h3, h4⟩ := H _ _ _ _ hw
     refine ⟨m, v, h', ?_, h4⟩
     unfold callP
     rw [hp]; simp only []; rw [hfr, hpu]; exact h3
theorem evP_back {σ : St} {g : FuncId} {args : List AV} {K : KS} (h : EvP C P g args σ.h fun v h => K (.v v) { σ with h := h }) : ∃ m s τ, back σ (callP C (evCall C P m) g args σ.h) = some (s, τ) ∧ K s τ := by
 obtain ⟨m, v, h', h1, h2⟩ := h
 exact ⟨m, _, _, by rw [h1]; rfl, h2⟩
theorem op_okW {call : CallW} (O : TabOk P C T) (H : CallWOk P C call) {f : FuncId} {o : Oper} {σ : St} {K : KS} (hw : wpOp T C P call f o σ K) : ∃ m s τ, evOp C P (evCall C P m) f o σ = some (s, τ) ∧ K s τ := by
 unfold wpOp at hw
 split at hw
 ·rename_i ho; obtain ⟨s, τ, h1, h2⟩ := wpIndex_ok hw; exact ⟨0, s, τ, by unfold evOp; rw [ho]; exact h1, h2⟩
 ·rename_i ho; obtain ⟨s, τ, h1, h2⟩ := wpSlice_ok hw; exact ⟨0, s, τ, by unfold evOp; rw [ho]; exact h1, h2⟩
 ·rename_i ho; obtain ⟨s, τ, h1, h2⟩ := wpIndexAddr_ok hw; exact ⟨0, s, τ, by unfold evOp; rw [ho]; exact h1, h2⟩
 ·rename_i ho; obtain ⟨s, τ, h1, h2⟩ := wpBin_ok hw; exact ⟨0, s, τ, by unfold evOp; rw [ho]; exact h1, h2⟩
 ·rename_i ho; obtain ⟨s, τ, h1, h2⟩ := wpConv_ok hw; exact ⟨0, s, τ, by unfold evOp; rw [ho]; exact h1, h2⟩
 ·rename_i ho; obtain ⟨s, τ, h1, h2⟩ := wpLoad_ok hw; exact ⟨0, s, τ, by unfold evOp; rw [ho]; exact h1, h2⟩
 ·rename_i ho; obtain ⟨s, τ, h1, h2⟩ := wpStore_ok hw; exact ⟨0, s, τ, by unfold evOp; rw [ho]; exact h1, h2⟩
 ·rename_i ho; obtain ⟨s, τ, h1, h2⟩ := wpMake_ok hw; exact ⟨0, s, τ, by unfold evOp; rw [ho]; exact h1, h2⟩
 ·rename_i c ho
  unfold wpOpCall at hw
  split at hw
  ·exact hw.elim
  ·rename_i args hargs
   split at hw
   ·rename_i b hb
    split at hw
    ·split at hw
     ·obtain ⟨s, τ, h1, h2⟩ := wpCopy_ok hw
      exact ⟨0, s, τ, by unfold evOp; rw [ho]; simp only []; unfold opCall; rw [hargs]; simp only []; rw [hb]; exact h1, h2⟩
     ·exact hw.elim
    ·cases hsn : T.symN f with
     | true =>
      rw [hsn] at hw
      simp only [cond_true] at hw
      split at hw
      ·obtain ⟨s, τ, h1, h2⟩ := wpAppendG_ok hw
       exact ⟨0, s, τ, by unfold evOp; rw [ho]; simp only []; unfold opCall; rw [hargs]; simp only []; rw [hb]; exact h1, h2⟩
      ·exact hw.elim
     | false =>
      rw [hsn] at hw
      simp only [cond_false] at hw
      obtain ⟨s, τ, h1, h2⟩ := wpBuiltin_ok hw
      exact ⟨0, s, τ, by unfold evOp; rw [ho]; simp only []; unfold opCall; rw [hargs]; simp only []; rw [hb]; exact h1, h2⟩
    ·obtain ⟨s, τ, h1, h2⟩ := wpBuiltin_ok hw
     exact ⟨0, s, τ, by unfold evOp; rw [ho]; simp only []; unfold opCall; rw [hargs]; simp only []; rw [hb]; exact h1, h2⟩
   ·rename_i x hx
    unfold wpCallV at hw
    split at hw
    ·rename_i g first cap hv
     obtain ⟨m, s, τ, h1, h2⟩ := evP_back (callP_okW O H hw)
     exact ⟨m, s, τ, by unfold evOp; rw [ho]; simp only []; unfold opCall; rw [hargs]; simp only []; rw [hx]; simp only []; unfold callVal; rw [hv]; exact h1, h2⟩
    ·exact hw.elim
   ·rename_i x name hx
    unfold wpCallM at hw
    split at hw
    ·rename_i t v hv
     split at hw
     ·rename_i g r hm
      obtain ⟨m, s, τ, h1, h2⟩ := evP_back (callP_okW O H hw)
      exact ⟨m, s, τ, by unfold evOp; rw [ho]; simp only []; unfold opCall; rw [hargs]; simp only []; rw [hx]; simp only []; unfold callMeth; rw [hv]; simp only []; rw [hm]; exact h1, h2⟩
     ·exact hw.elim
    ·exact hw.elim
 ·obtain ⟨s, τ, h1, h2⟩ := wpRes_ok hw
  exact ⟨0, s, τ, op_le (fun _ _ _ _ h => by cases h) h1, h2⟩
theorem step_okW {call : CallW} (O : TabOk P C T) (H : CallWOk P C call) {f : FuncId} {ops : Array Oper} {o : Oper} {σ : St} {K : St → Prop} (hw : wpStep T C P call f ops o σ K) : ∃ m τ, evStep C P (evCall C P m) f ops o σ = some τ ∧ K τ := by
 unfold wpStep at hw
 split at hw
 ·rename_i q hq
  rcases iteP_elim hw with ⟨h1, h2⟩ | ⟨h1, h2⟩
  ·obtain ⟨m, s, τ, h3, h4⟩ := op_okW O H h2
   obtain ⟨τ', h5, h6⟩ := wpPutN_ok h4
   refine ⟨m, τ', ?_, h6⟩
   unfold evStep
   rw [hq, h1]; simp only []; rw [h3]; exact h5
  ·clear hw
   split at h2
   ·rename_i τ hp
    refine ⟨0, τ, ?_, h2⟩
    unfold evStep
    rw [hq, h1]; exact hp
   ·exact h2.elim
 ·exact hw.elim
theorem ops_okW {call : CallW} (O : TabOk P C T) (H : CallWOk P C call) {f : FuncId} {ops : Array Oper} : ∀ (l : List Oper) (σ : St) (K : St → Prop), wpOpsW T C P call f ops l σ K → ∃ m τ, evOps C P (evCall C P m) f ops l σ = some τ ∧ K τ := by
 intro l
 induction l with
 | nil => intro σ K h; exact ⟨0, σ, rfl, h⟩
 | cons o l ih =>
  intro σ K h
  obtain ⟨m, τ, h1, h2⟩ := step_okW O H (K := fun τ => wpOpsW T C P call f ops l τ K) h
  obtain ⟨m', τ', h3, h4⟩ := ih τ K h2
  refine ⟨max m m', τ', ?_, h4⟩
  rw [evOps_cons, step_le (call_mono (Nat.le_max_left m m')) h1]
  exact ops_le (call_mono (Nat.le_max_right m m')) _ _ _ h3
theorem Ev.region {f : FuncId} {id : Nat} {ops : Array Oper} {draw : Bool} {σ : St} {K : KR} (hd : (draw && C.bad f id) = false) (h : ∃ m τ, evOps C P (evCall C P m) f ops ops.toList σ = some τ ∧ K .normal τ) : Ev C P f (.region id ops draw) σ K := by
 obtain ⟨m, τ, h1, h2⟩ := h
 refine ⟨m + 1, .normal, τ, ?_, h2⟩
 show evReg C P (callWith C P (evCode C P m)) f id ops draw σ = _
 unfold evReg
 rw [hd]; simp only [cond_false]
 show (match evOps C P (evCall C P m) f ops ops.toList σ with | some σ' => some (Ex.normal, σ') | none => none) = _
 rw [h1]
theorem Ev.seq {f : FuncId} {a b : Code} {σ : St} {K : KR} (h : Ev C P f a σ fun e τ => match e with | .normal => Ev C P f b τ K | .exit i => K (.exit i) τ | .ret => K .ret τ) : Ev C P f (.seq a b) σ K := by
 obtain ⟨m, e, τ, h1, h2⟩ := h
 cases e with
 | normal =>
  obtain ⟨m', e', τ', h3, h4⟩ := h2
  refine ⟨max m m' + 1, e', τ', ?_, h4⟩
  show evSeq (evCode C P (max m m') f a σ) (evCode C P (max m m') f b) = _
  rw [code_mono (Nat.le_max_left m m') _ _ _ _ h1]
  exact code_mono (Nat.le_max_right m m') _ _ _ _ h3
 | exit i =>
  refine ⟨m + 1, .exit i, τ, ?_, h2⟩
  show evSeq (evCode C P m f a σ) (evCode C P m f b) = _
  rw [h1]; rfl
 | ret =>
  refine ⟨m + 1, .ret, τ, ?_, h2⟩
  show evSeq (evCode C P m f a σ) (evCode C P m f b) = _
  rw [h1]; rfl
theorem Ev.cond {f : FuncId} {c : Operand} {a b : Code} {σ : St} {K : KR} {t : Bool} (hc : σ.val c = some (.sc (.bool t))) (h : iteP t (Ev C P f a σ K) (Ev C P f b σ K)) : Ev C P f (.cond c a b) σ K := by
 cases t with
 | true =>
  obtain ⟨m, e, τ, h1, h2⟩ := h
  refine ⟨m + 1, e, τ, ?_, h2⟩
  show evCond σ c (evCode C P m f a σ) (evCode C P m f b σ) = _
  unfold evCond; rw [hc]; exact h1
 | false =>
  obtain ⟨m, e, τ, h1, h2⟩ := h
  refine ⟨m + 1, e, τ, ?_, h2⟩
  show evCond σ c (evCode C P m f a σ) (evCode C P m f b σ) = _
  unfold evCond; rw [hc]; exact h1
theorem Ev.block {f : FuncId} {id : Nat} {b : Code} {σ : St} {K : KR} (h : Ev C P f b σ fun e τ => match e with | .normal => K .normal τ | .exit i => bif Nat.beq i id then K .normal τ else K (.exit i) τ | .ret => K .ret τ) : Ev C P f (.block id b) σ K := by
 obtain ⟨m, e, τ, h1, h2⟩ := h
 cases e with
 | normal => exact ⟨m + 1, .normal, τ, by show evBlk id (evCode C P m f b σ) = _; rw [h1]; rfl, h2⟩
 | ret => exact ⟨m + 1, .ret, τ, by show evBlk id (evCode C P m f b σ) = _; rw [h1]; rfl, h2⟩
 | exit i =>
  cases hq : Nat.beq i id with
  | true =>
   simp only [hq, cond_true] at h2
   exact ⟨m + 1, .normal, τ, by show evBlk id (evCode C P m f b σ) = _; rw [h1]; simp only [evBlk, hq, cond_true], h2⟩
  | false =>
   simp only [hq, cond_false] at h2
   exact ⟨m + 1, .exit i, τ, by show evBlk id (evCode C P m f b σ) = _; rw [h1]; simp only [evBlk, hq, cond_false], h2⟩
theorem Ev.loop {f : FuncId} {b : Code} {σ : St} {K : KR} (ht : C.tidy f (firstId 8 b) = none) (h : Ev C P f b σ fun e τ => match e with | .normal => Ev C P f (.loop b) τ K | .exit i => K (.exit i) τ | .ret => K .ret τ) : Ev C P f (.loop b) σ K := by
 obtain ⟨m, e, τ, h1, h2⟩ := h
 have key : ∀ m, evCode C P (m + 1) f (.loop b) σ = evSeq (evCode C P m f b σ) (evCode C P m f (.loop b)) := by
  intro m
  show (match C.tidy f (firstId 8 b) with | none => _ | some t => _) = _
  rw [ht]; rfl
 cases e with
 | normal =>
  obtain ⟨m', e', τ', h3, h4⟩ := h2
  refine ⟨max m m' + 1, e', τ', ?_, h4⟩
  rw [key, code_mono (Nat.le_max_left m m') _ _ _ _ h1]
  exact code_mono (Nat.le_max_right m m') _ _ _ _ h3
 | exit i => exact ⟨m + 1, .exit i, τ, by rw [key, h1]; rfl, h2⟩
 | ret => exact ⟨m + 1, .ret, τ, by rw [key, h1]; rfl, h2⟩
theorem Ev.loopT {f : FuncId} {b : Code} {σ : St} {K : KR} {t : Tidy} (ht : C.tidy f (firstId 8 b) = some t) (h : Ev C P f b (σ.tidy t.head t.nloc) fun e τ => match e with | .normal => Ev C P f (.loop b) τ K | .exit i => K (.exit i) (τ.tidy t.exit t.nloc) | .ret => K .ret (τ.tidy t.exit t.nloc)) : Ev C P f (.loop b) σ K := by
 obtain ⟨m, e, τ, h1, h2⟩ := h
 have key : ∀ m, evCode C P (m + 1) f (.loop b) σ = evLoop t (evCode C P m f b (σ.tidy t.head t.nloc)) (evCode C P m f (.loop b)) := by
  intro m
  show (match C.tidy f (firstId 8 b) with | none => _ | some t => _) = _
  rw [ht]; rfl
 cases e with
 | normal =>
  obtain ⟨m', e', τ', h3, h4⟩ := h2
  refine ⟨max m m' + 1, e', τ', ?_, h4⟩
  rw [key, code_mono (Nat.le_max_left m m') _ _ _ _ h1]
  exact code_mono (Nat.le_max_right m m') _ _ _ _ h3
 | exit i => exact ⟨m + 1, _, _, by rw [key, h1]; rfl, h2⟩
 | ret => exact ⟨m + 1, _, _, by rw [key, h1]; rfl, h2⟩
theorem Ev.mono {f : FuncId} {c : Code} {σ : St} {K K' : KR} (h : Ev C P f c σ K) (hk : ∀ e τ, K e τ → K' e τ) : Ev C P f c σ K' := by
 obtain ⟨m, e, τ, h1, h2⟩ := h
 exact ⟨m, e, τ, h1, hk e τ h2⟩
theorem code1_okW {run : RunW} (O : TabOk P C T) (H : RunWOk P C run) : RunWOk P C (wpCode1 T C P run) := by
 intro f c σ K hw
 cases c with
 | skip => exact ⟨1, _, _, rfl, hw⟩
 | region id ops draw =>
  replace hw : bif draw && C.bad f id then False else wpOpsW T C P (wpCallB C P run) f ops ops.toList σ fun τ => forceZ (T.lazy f) τ fun τ => K .normal τ := hw
  simp only [forceZ_eq] at hw
  cases hd : draw && C.bad f id with
  | true => rw [hd] at hw; exact hw.elim
  | false => rw [hd] at hw; exact Ev.region hd (ops_okW O (callB_ok H) _ _ _ hw)
 | seq a b =>
  refine Ev.seq ((H f a σ _ hw).mono fun e τ h => ?_)
  cases e with
  | normal => exact H f b τ K h
  | exit i => exact h
  | ret => exact h
 | cond k a b =>
  simp only [wpCode1] at hw
  split at hw
  ·rename_i t ht
   refine Ev.cond ht ?_
   cases t with
   | true => exact H f a σ K hw
   | false => exact H f b σ K hw
  ·exact hw.elim
 | block id b => exact Ev.block (H f b σ _ hw)
 | loop b =>
  simp only [wpCode1] at hw
  split at hw
  ·rename_i t ht
   split at hw
   ·rename_i s hs
    obtain ⟨h1, h2, h3⟩ := hw
    obtain ⟨a, ha, x, m, h4, h5⟩ := O.loop _ _ _ _ _ ht hs h2
    rw [h1] at h5
    exact ⟨m, _, _, h5, wpLAlts_ok h3 a ha x h4⟩
   ·exact hw.elim
  ·split at hw
   ·rename_i ht
    refine Ev.loop ht ((H f b σ _ hw).mono fun e τ h => ?_)
    cases e with
    | normal => exact H f (.loop b) τ K h
    | exit i => exact h
    | ret => exact h
   ·rename_i t ht
    refine Ev.loopT ht ((H f b _ _ hw).mono fun e τ h => ?_)
    cases e with
    | normal => exact H f (.loop b) τ K h
    | exit i => exact h
    | ret => exact h
 | exit id => exact ⟨1, _, _, rfl, hw⟩
 | ret => exact ⟨1, _, _, rfl, hw⟩
 | scope b =>
  obtain ⟨m, e, τ, h1, h2⟩ := H f b σ K hw
  exact ⟨m + 1, e, τ, h1, h2⟩
 | label l => exact ⟨1, _, _, rfl, hw⟩
 | _ => exact hw.elim
theorem code_okW (O : TabOk P C T) : ∀ n, RunWOk P C (wpCode T C P n) := by
 intro n
 induction n with
 | zero => intro f c σ K h; exact h.elim
 | succ n ih => exact code1_okW O ih
theorem call_okW (O : TabOk P C T) (n : Nat) : CallWOk P C (wpCall T C P n) := callB_ok (code_okW O n)
end
end
end Go.Ef
namespace Go.Ef
open Go
noncomputable section
def sStr (l : List UInt8) : Slot := .v (.sc (.string ⟨⟨l⟩⟩))
def sInt (n : Int) : Slot := .v (.sc (.int .i64 n))
def aStr (l : List UInt8) : AV := .sc (.string ⟨⟨l⟩⟩)
def aBool (b : Bool) : AV := .sc (.bool b)
def stOf (n : Nat) (l : List (Nat × Slot)) (loc : List LObj) (h : Heap) : St :=
 { n := n, tm := List.rec (motive := fun _ => Tr Slot) .leaf (fun p _ ih => ih.set p.1 p.2) l, d := .unk, loc := loc, h := h }
def slI (σ : St) (t : Nat) : Int :=
 match σ.at t with
 | .v (.sc (.int _ n)) => n
 | _ => 0
def slS (σ : St) (t : Nat) : List UInt8 :=
 match σ.at t with
 | .v (.sc (.string s)) => s.data.toList
 | _ => []
def wpRound (T : Tab) (C : Cfg) (P : Program) (n : Nat) (f i : Nat) (σ : St) (N : St → Prop) (X : Ex → St → Prop) : Prop :=
 match C.tidy f i with
 | some t => wpCode T C P n f (loopAt P f i) σ fun e τ => match e with
  | .normal => N (τ.tidy t.head t.nloc)
  | .exit j => X (.exit j) (τ.tidy t.exit t.nloc)
  | .ret => X .ret (τ.tidy t.exit t.nloc)
 | none => False
theorem keep_keep (m : Nat) (s : Slot) : (s.keep m).keep m = s.keep m := by
 cases s with
 | lp k off =>
  simp only [Slot.keep]
  cases h : Nat.blt k m with
  | true => simp only [cond_true, h]
  | false => rfl
 | v a => rfl
 | unk => rfl
theorem keepTm_congr {σ τ : St} {m : Nat} : ∀ {l : List Nat}, (∀ t ∈ l, (σ.at t).keep m = (τ.at t).keep m) → keepTm σ m l = keepTm τ m l := by
 intro l
 induction l with
 | nil => intro _; rfl
 | cons x l ih =>
  intro h
  show (keepTm σ m l).set x ((σ.at x).keep m) = (keepTm τ m l).set x ((τ.at x).keep m)
  rw [ih fun t ht => h t (by simp [ht]), h x (by simp)]
theorem tidy_at (σ : St) (l : List Nat) (m t : Nat) (h : t ∈ l) : (σ.tidy l m).at t = (σ.at t).keep m := by
 show (match (keepTm σ m l).get t with | some s => s | none => Slot.unk) = _
 rw [keepTm_get, if_pos h]
theorem tidy_tidy (σ : St) (l : List Nat) (m : Nat) : (σ.tidy l m).tidy l m = σ.tidy l m := by
 have h1 : keepTm (σ.tidy l m) m l = keepTm σ m l := keepTm_congr fun t ht => by rw [tidy_at σ l m t ht, keep_keep]
 have h2 : (σ.loc.take m).take m = σ.loc.take m := by rw [List.take_take, Nat.min_self]
 show ({ n := σ.n, tm := keepTm (σ.tidy l m) m l, d := .unk, loc := (σ.loc.take m).take m, h := σ.h } : St) = _
 rw [h1, h2]
 rfl
section
variable {P : Program} {C : Cfg} {T : Tab}
theorem Ev.tidied {f : FuncId} {b : Code} {σ τ : St} {K : KR} {t : Tidy} (ht : C.tidy f (firstId 8 b) = some t) (hs : σ.tidy t.head t.nloc = τ.tidy t.head t.nloc) (h : Ev C P f (.loop b) τ K) : Ev C P f (.loop b) σ K := by
 obtain ⟨m, e, τ', h1, h2⟩ := h
 cases m with
 | zero => cases h1
 | succ m =>
  have key : ∀ σ, evCode C P (m + 1) f (.loop b) σ = evLoop t (evCode C P m f b (σ.tidy t.head t.nloc)) (evCode C P m f (.loop b)) := by
   intro σ
   show (match C.tidy f (firstId 8 b) with | none => _ | some t => _) = _
   rw [ht]; rfl
  refine ⟨m + 1, e, τ', ?_, h2⟩
  rw [key, hs, ← key]
  exact h1
end
end
end Go.Ef
namespace Go.Ef
open Go
theorem iteP_t {A B : Prop} : iteP true A B = A := rfl
theorem iteP_f {A B : Prop} : iteP false A B = B := rfl
theorem inRange_iff {n : Int} {m : Nat} : (inRange n m = true) = (0 ≤ n ∧ n < (m : Int)) := by
 simp [inRange]
theorem wrap64 (x : Int) : IntKind.i64.wrap x = (x + 9223372036854775808) % 18446744073709551616 - 9223372036854775808 := by
 have e : IntKind.i64.bits = 64 := rfl
 have g : IntKind.i64.signed = true := rfl
 have e1 : (2 : Int) ^ 64 = 18446744073709551616 := by decide
 have e2 : (2 : Int) ^ (64 - 1) = 9223372036854775808 := by decide
 simp only [IntKind.wrap, e, g, e1, e2, Bool.true_and, decide_eq_true_eq]
 by_cases h : x % 18446744073709551616 ≥ 9223372036854775808
 ·rw [if_pos h]; omega
 ·rw [if_neg h]; omega
theorem wrap_in {x : Int} (h1 : -9223372036854775808 ≤ x) (h2 : x ≤ 9223372036854775807) : IntKind.i64.wrap x = x := by rw [wrap64]; omega
end Go.Ef
namespace Go.Ef
open Go
noncomputable section
def tab0 : Tab := { call := fun _ => none, loop := fun _ _ => none, exact := fun _ _ => false, named := fun _ _ => false }
def Tab.addC (T : Tab) (g : FuncId) (t : List AV → Heap → Option CSpec) : Tab := { T with call := fun x => bif Nat.beq x g then some t else T.call x }
def Tab.addL (T : Tab) (f i : Nat) (t : St → Option LSpec) : Tab := { T with loop := fun x y => bif Nat.beq x f && Nat.beq y i then some t else T.loop x y }
def Tab.name (T : Tab) (f t : Nat) : Tab := { T with named := fun x y => bif Nat.beq x f && Nat.beq y t then true else T.named x y }
def fspec (pre : Prop) (v : AV) (h : Heap) : CSpec := { pre := pre, alts := [{ α := Unit, post := fun _ => True, val := fun _ => v, heap := fun _ => h }] }
section
variable {P : Program} {C : Cfg} {T : Tab}
theorem tab0_ok : TabOk P C tab0 := ⟨fun _ _ _ _ _ ht => (by cases ht), fun _ _ _ _ _ ht => (by cases ht)⟩
theorem addC_ok (O : TabOk P C T) {g : FuncId} {t : List AV → Heap → Option CSpec} (H : ∀ args h s, t args h = some s → s.pre → ∃ a ∈ s.alts, ∃ x m, a.post x ∧ callP C (evCall C P m) g args h = some (a.val x, a.heap x)) : TabOk P C (T.addC g t) := by
 refine ⟨fun x t' args h s ht hs hp => ?_, fun f i t' σ s ht => O.loop f i t' σ s ht⟩
 replace ht : (bif Nat.beq x g then some t else T.call x) = some t' := ht
 cases hq : Nat.beq x g with
 | true =>
  rw [hq] at ht
  cases ht
  rw [Nat.eq_of_beq_eq_true hq]
  exact H args h s hs hp
 | false =>
  rw [hq] at ht
  exact O.call x t' args h s ht hs hp
theorem addL_ok (O : TabOk P C T) {f i : Nat} {t : St → Option LSpec} (H : ∀ σ s, t σ = some s → s.pre → ∃ a ∈ s.alts, ∃ x, a.post x ∧ ∃ m, evCode C P m f (.loop (loopAt P f i)) σ = some (a.ex, a.st x)) : TabOk P C (T.addL f i t) := by
 refine ⟨fun g t' args h s ht => O.call g t' args h s ht, fun x y t' σ s ht hs hp => ?_⟩
 replace ht : (bif Nat.beq x f && Nat.beq y i then some t else T.loop x y) = some t' := ht
 cases hq : Nat.beq x f && Nat.beq y i with
 | true =>
  rw [hq] at ht
  simp only [Bool.and_eq_true] at hq
  cases ht
  rw [Nat.eq_of_beq_eq_true hq.1, Nat.eq_of_beq_eq_true hq.2]
  obtain ⟨a, ha, x, h1, m, h2⟩ := H σ s hs hp
  exact ⟨a, ha, x, m, h1, h2⟩
 | false =>
  rw [hq] at ht
  exact O.loop x y t' σ s ht hs hp
theorem name_ok (O : TabOk P C T) (f t : Nat) : TabOk P C (T.name f t) := ⟨O.call, O.loop⟩
theorem wpStrip_mono : ∀ n v {k k' : AV → Prop}, wpStrip n v k → (∀ y, k y → k' y) → wpStrip n v k' := by
 intro n
 induction n with
 | zero =>
  intro v k k' h hk
  cases v with
  | sc v => exact hk _ h
  | sl els tok =>
   cases tok with
   | zero => exact hk _ h
   | succ t => exact h.elim
  | _ => exact h.elim
 | succ n ih =>
  have lists : ∀ (cs : List AV) {k k' : List AV → Prop}, List.rec (motive := fun _ => (List AV → Prop) → Prop) (fun k => k []) (fun x _ ihl k => wpStrip n x fun y => ihl fun l => k (y :: l)) cs k → (∀ y, k y → k' y) →
    List.rec (motive := fun _ => (List AV → Prop) → Prop) (fun k => k []) (fun x _ ihl k => wpStrip n x fun y => ihl fun l => k (y :: l)) cs k' := by
   intro cs
   induction cs with
   | nil => intro k k' h hk; exact hk _ h
   | cons x cs ihc => intro k k' h hk; exact ih x h fun y hy => ihc hy fun l hl => hk _ hl
  intro v k k' h hk
  cases v with
  | sc v => exact hk _ h
  | sl els tok =>
   cases tok with
   | zero => exact hk _ h
   | succ t =>
    obtain ⟨h1, h2⟩ := iteP_false (show iteP (plainEls els) (k (.sl els 0)) False from h)
    show iteP (plainEls els) (k' (.sl els 0)) False
    rw [h1]; exact hk _ h2
  | agg cs => exact lists cs h fun l hl => hk _ hl
  | tup cs => exact lists cs h fun l hl => hk _ hl
  | ifc t u => exact ih u h fun y hy => hk _ hy
  | fn f a b => exact lists a h fun l hl => lists b hl fun m hm => hk _ hm
  | _ => exact h.elim
theorem wpBack_mono {h : Heap} {r : AV} {k k' : AV → Prop} (H : wpBack h r k) (hk : ∀ y, k y → k' y) : wpBack h r k' := by
 cases r with
 | rsl id off len m =>
  replace H : (match strip 8 h (.rsl id off len m) with | some y => k y | none => False) := H
  show (match strip 8 h (.rsl id off len m) with | some y => k' y | none => False)
  split at H
  ·exact hk _ H
  ·exact H.elim
 | sl els tok => exact wpStrip_mono 8 (.sl els tok) H hk
 | sc v => exact wpStrip_mono 8 (.sc v) H hk
 | agg v => exact wpStrip_mono 8 (.agg v) H hk
 | tup v => exact wpStrip_mono 8 (.tup v) H hk
 | fn f a b => exact wpStrip_mono 8 (.fn f a b) H hk
 | ifc t v => exact wpStrip_mono 8 (.ifc t v) H hk
 | cp v => exact wpStrip_mono 8 (.cp v) H hk
 | gp g o => exact wpStrip_mono 8 (.gp g o) H hk
 | ptr g o => exact wpStrip_mono 8 (.ptr g o) H hk
 | mp g => exact wpStrip_mono 8 (.mp g) H hk
theorem EvP.fresh {g : FuncId} {args args' : List AV} {h : Heap} {K : AV → Heap → Prop} (hf : C.fresh g = true) (hp : C.prim g = none) (ha : mapO (stripA 8) args = some args')
  (H : EvC C P g args' heapF fun r h' => wpBack h' r fun y => K y h) : EvP C P g args h K := by
 obtain ⟨m, r, h', h1, h2⟩ := H
 obtain ⟨y, h3, h4⟩ := wpBack_ok h2
 refine ⟨m, y, h, ?_, h4⟩
 unfold callP
 rw [hp]; simp only []; rw [hf]; simp only [cond_true]; rw [ha]; simp only []; rw [h1]; simp only []; rw [h3]
theorem EvP.freshV (O : TabOk P C T) {n g : Nat} {args args' : List AV} {h : Heap} {v : AV} (hf : C.fresh g = true) (hp : C.prim g = none) (ha : mapO (stripA 8) args = some args')
  (H : wpCall T C P n g args' heapF fun r h' => wpBack h' r fun y => y = v) : EvP C P g args h fun y h' => y = v ∧ h' = h := by
 refine EvP.fresh hf hp ha ?_
 obtain ⟨m, r, h', h1, h2⟩ := call_okW O n g args' heapF _ H
 obtain ⟨y, h3, h4⟩ := wpBack_ok h2
 subst h4
 refine ⟨m, r, h', h1, ?_⟩
 have key : ∀ {k : AV → Prop}, wpBack h' r (fun y' => y' = y) → k y → wpBack h' r k := by
  intro k hb hk
  exact wpBack_mono hb fun z hz => hz ▸ hk
 exact key h2 ⟨rfl, rfl⟩
end
end
end Go.Ef
namespace Go.Ef
open Go
noncomputable section
section
variable {P : Program} {C : Cfg} {T : Tab}
theorem Ev.round (O : TabOk P C T) {n f i : Nat} {t : Tidy} {σ : St} {N : St → Prop} {X : Ex → St → Prop} {K : KR} (hi : firstId 8 (loopAt P f i) = i) (ht : C.tidy f i = some t) (hcan : σ.tidy t.head t.nloc = σ)
  (hs : wpRound T C P n f i σ N X) (hN : ∀ τ, N τ → Ev C P f (.loop (loopAt P f i)) τ K) (hX : ∀ e τ, X e τ → K e τ) : Ev C P f (.loop (loopAt P f i)) σ K := by
 unfold wpRound at hs
 rw [ht] at hs
 refine Ev.loopT (t := t) (by rw [hi]; exact ht) ?_
 rw [hcan]
 refine (code_okW O n f _ _ _ hs).mono fun e τ h => ?_
 cases e with
 | normal => exact Ev.tidied (t := t) (τ := τ.tidy t.head t.nloc) (by rw [hi]; exact ht) (tidy_tidy _ _ _).symm (hN _ h)
 | exit j => exact hX _ _ h
 | ret => exact hX _ _ h
end
end
end Go.Ef
namespace Go.Proofs.Rc
open Go Go.Ef
noncomputable section
abbrev cf (m : Int) : Cfg := Rec.cfg m
def nilA : AV := .sc (.slice none 0 0)
def hO (e n : Nat) : Heap := (heapF.new (.own 1 e n)).2
def stepP (c : UInt8) (a : List (List UInt8) × List UInt8) (b : UInt8) : List (List UInt8) × List UInt8 := if b = c then (a.1 ++ [a.2], []) else (a.1, a.2 ++ [b])
def scanP (c : UInt8) (l : List UInt8) : List (List UInt8) × List UInt8 := l.foldl (stepP c) ([], [])
def C42 (args : List AV) (h : Heap) : Option CSpec :=
 match args with
 | [.sc (.string s), .sc (.string t)] => match t.data.toList with
  | [c] => some { pre := s.data.toList.length ≤ 4294967280, alts := [{ α := List (List UInt8), post := fun p => p = partsOf c s.data.toList, val := fun p => .sl (p.map strEl) (h.next + 1), heap := fun p => (h.new (.own 1 9 p.length)).2 }] }
  | _ => none
 | _ => none
end
end Go.Proofs.Rc
namespace Go.Proofs.Rc
open Go Go.Ef
noncomputable section
inductive Lst : AV → List (List UInt8) → Prop where
 | sl (p : List (List UInt8)) : Lst (.sl (p.map strEl) 0) p
 | nil : Lst nilA []
def u8 (n : Int) : UInt8 := UInt8.ofNat n.toNat
structure IsByte (n : Int) : Prop where
 is : ∃ c : UInt8, n = c.toNat
structure ScanNil (s : List UInt8) (c : UInt8) (k : Nat) : Prop where
 le : k ≤ s.length
 fst : (scanP c s).1 = []
 snd : (scanP c s).2 = s.drop k
structure ScanOwn (s : List UInt8) (c : UInt8) (l : List (List UInt8)) (k : Nat) : Prop where
 le : k ≤ s.length
 fst : (scanP c s).1 = l
 ne : l ≠ []
 snd : (scanP c s).2 = s.drop k
structure Same (a b : List (List AV)) : Prop where
 eq : ∃ p : List (List UInt8), a = p.map strEl ∧ b = p.map strEl ∧ p.length ≤ 4294967281
def recF (c : UInt8) (s : List UInt8) : List (List UInt8) × Bool := if (partsOf c s).getLast? = some [] then ((partsOf c s).dropLast, true) else (partsOf c s, false)
structure IsParts (p : List (List UInt8)) (c : UInt8) (s : List UInt8) : Prop where
 eq : p = partsOf c s
 ne : s ≠ []
structure NoParts (s : List UInt8) : Prop where
 eq : s = []
structure IsRec (q : List (List UInt8) × Bool) (c : UInt8) (s : List UInt8) : Prop where
 eq : q = recF c s
def C20 (args : List AV) (h : Heap) : Option CSpec :=
 match args with
 | [] => some (fspec True (aBool true) h)
 | _ => none
end
end Go.Proofs.Rc
namespace Go.Proofs.Rc
open Go Go.Ef
noncomputable section
set_option maxRecDepth 100000
theorem cells_plain (l : List (List UInt8)) : plainEls (l.map strEl) = true := by
 unfold plainEls
 rw [List.all_map]
 exact List.all_eq_true.2 fun _ _ => rfl
variable {m : Int} {T : Tab}
abbrev Ok (m : Int) (T : Tab) : Prop := TabOk Tryz.prog (cf m) T
theorem ok42 (O : Ok m T) : Ok m (T.addC 42 C42) := by
 refine addC_ok O fun args h s hs hp => ?_
 unfold C42 at hs
 split at hs
 ·rename_i s0 t0
  split at hs
  ·rename_i c ht
   cases hs
   refine ⟨_, List.mem_singleton.2 rfl, partsOf c s0.data.toList, 0, rfl, ?_⟩
   show splitP 9 [.sc (.string s0), .sc (.string t0)] h = _
   unfold splitP
   simp only [ht]
   rw [Nat.ble_eq_true_of_le hp]; rfl
  ·cases hs
 ·cases hs
theorem ok20 (O : Ok m T) : Ok m (T.addC 20 C20) := by
 refine addC_ok O fun args h s hs _ => ?_
 unfold C20 at hs
 split at hs
 ·cases hs
  obtain ⟨h', he⟩ := Rec.yes_spec (Rec.awake_ev m)
  refine ⟨_, List.mem_singleton.2 rfl, (), 1000, trivial, ?_⟩
  show callP (cf m) (evCall (cf m) Tryz.prog 1000) 20 [] h = some (aBool true, h)
  have hf : (cf m).fresh 20 = true := by kernel_rfl
  unfold callP
  rw [show (cf m).prim 20 = none from rfl]
  simp only []
  rw [hf]
  simp only [cond_true]
  show (match evCall (cf m) Tryz.prog 1000 20 [] heapF with | some (r, h') => _ | none => _) = _
  rw [he]; rfl
 ·cases hs
end
end Go.Proofs.Rc
namespace Go.Proofs.Rc
open Go Go.Ef
noncomputable section
structure NoByte (els : List (List AV)) (i c : Int) : Prop where
 is : ∃ (j : Nat) (x : List UInt8) (d : UInt8), i = j ∧ c = d.toNat ∧ els[j]? = some (strEl x) ∧ d ∉ x ∧ x.length ≤ 4294967280
def joinE (c : UInt8) (p : List (List UInt8)) : List UInt8 := (p.map (· ++ [c])).flatten
structure Free (els : List (List AV)) (c : Int) (p : List (List UInt8)) : Prop where
 is : ∃ d : UInt8, c = d.toNat ∧ els = p.map strEl ∧ (∀ x ∈ p, d ∉ x) ∧ (joinE d p).length ≤ 4294967280
structure Joined (t : List UInt8) (els : List (List AV)) (c : Int) : Prop where
 is : ∀ p d, els = p.map strEl → c = ((d : UInt8).toNat : Int) → t = joinE d p
structure HasFree (els : List (List AV)) (c : Int) : Prop where
 is : ∃ p, Free els c p
end
end Go.Proofs.Rc
namespace Go.Proofs.Rc
open Go Go.Ef
noncomputable section
set_option maxRecDepth 100000
variable {m : Int} {T : Tab}
theorem cells_inj {p q : List (List UInt8)} (h : p.map strEl = q.map strEl) : p = q := by
 refine List.map_inj_right (f := strEl) (fun x y e => ?_) |>.1 h
 unfold strEl at e
 simpa using e
end
end Go.Proofs.Rc
namespace Go.Proofs.Rc
open Go Go.Ef
noncomputable section
def joinN (p : List (List UInt8)) : List UInt8 := Lib.join p [10]
def flushG (a : List (List UInt8) × List (List UInt8)) : List (List UInt8) := if a.2 = [] then a.1 else a.1 ++ [joinN a.2]
def stepG (a : List (List UInt8) × List (List UInt8)) (x : List UInt8) : List (List UInt8) × List (List UInt8) := if x = [] then (flushG a, []) else (a.1, a.2 ++ [x])
def groupF (p : List (List UInt8)) : List (List UInt8) := flushG (p.foldl stepG ([], []))
def endsTwo (s : List UInt8) : Bool := decide (2 ≤ s.length ∧ s.drop (s.length - 2) = [10, 10])
def paraF (s : List UInt8) : List (List UInt8) × Bool := (groupF (recF 10 s).1, (groupF (recF 10 s).1).isEmpty || endsTwo s)
def stepR (n : Nat) (a : List (List UInt8) × List UInt8) (x : List UInt8 × Nat) : List (List UInt8) × List UInt8 :=
 if x.1 = [] then (if a.2 ≠ [] ∧ x.2 + 1 < n then (a.1 ++ [a.2], []) else a) else if a.2 ≠ [] then (a.1, a.2 ++ [10] ++ x.1) else (a.1, x.1)
def scanR (p : List (List UInt8)) (i : Nat) : List (List UInt8) × List UInt8 := ((p.zipIdx).take i).foldl (stepR p.length) ([], [])
def paraR (s : List UInt8) : List (List UInt8) × Bool := if (scanR (partsOf 10 s) (partsOf 10 s).length).2 = [] then ((scanR (partsOf 10 s) (partsOf 10 s).length).1, true) else ((scanR (partsOf 10 s) (partsOf 10 s).length).1 ++ [(scanR (partsOf 10 s) (partsOf 10 s).length).2], false)
structure JoinOk (els : List (List AV)) : Prop where
 is : ∃ p : List (List UInt8), els = p.map strEl ∧ p.length ≤ 4294967281 ∧ (joinN p).length ≤ 8589934592
structure IsJoin (x : List UInt8) (els : List (List AV)) : Prop where
 is : ∀ p : List (List UInt8), els = p.map strEl → x = joinN p
def C73 (args : List AV) (h : Heap) : Option CSpec :=
 match args with
 | [.sl els _, .sc (.string t)] => match t.data.toList with
  | [10] => some { pre := JoinOk els, alts := [{ α := List UInt8, post := fun x => IsJoin x els, val := fun x => aStr x, heap := fun _ => h }] }
  | _ => none
 | _ => none
end
end Go.Proofs.Rc
namespace Go.Proofs.Rc
open Go Go.Ef
noncomputable section
set_option maxRecDepth 100000
variable {m : Int} {T : Tab}
theorem joinN_one (x : List UInt8) : joinN [x] = x := Lib.join_one x _
theorem joinN_cons (x y : List UInt8) (r : List (List UInt8)) : joinN (x :: y :: r) = x ++ [10] ++ joinN (y :: r) := by
 unfold joinN
 rw [Lib.join_cons, Lib.join_cons]
 unfold Lib.joinTail
 simp
theorem joinN_snoc (q : List (List UInt8)) (x : List UInt8) (h : q ≠ []) : joinN (q ++ [x]) = joinN q ++ [10] ++ x := by
 induction q with
 | nil => exact absurd rfl h
 | cons a r ih =>
  cases r with
  | nil =>
   show joinN [a, x] = joinN [a] ++ [10] ++ x
   rw [joinN_cons, joinN_one, joinN_one]
  | cons b r =>
   have := ih (by simp)
   show joinN (a :: b :: (r ++ [x])) = joinN (a :: b :: r) ++ [10] ++ x
   rw [joinN_cons, joinN_cons]
   have e : joinN (b :: (r ++ [x])) = joinN (b :: r) ++ [10] ++ x := this
   rw [e]; simp
theorem ok73 (O : Ok m T) : Ok m (T.addC 73 C73) := by
 refine addC_ok O fun args h s hs hp => ?_
 unfold C73 at hs
 split at hs
 ·rename_i els tok t0
  split at hs
  ·rename_i ht
   cases hs
   obtain ⟨p, rfl, h1, h2⟩ := hp
   refine ⟨_, List.mem_singleton.2 rfl, joinN p, 0, ⟨fun q hq => by rw [cells_inj hq]⟩, ?_⟩
   show joinP [.sl (p.map strEl) tok, .sc (.string t0)] h = some (aStr (joinN p), h)
   have hm : maxRoom = 140737488355328 := by decide
   have e1 : ∀ p : List (List UInt8), mapO strS (p.map strEl) = some (p.map fun l => (⟨⟨l⟩⟩ : ByteArray)) := by
    intro p
    induction p with
    | nil => rfl
    | cons a r ih => rw [List.map_cons, mapO_cons, ih]; rfl
   have e2 : (p.map fun l => (⟨⟨l⟩⟩ : ByteArray)).map (·.data.toList) = p := by
    rw [List.map_map]
    exact List.map_id'' (fun _ => rfl) p
   unfold joinP
   simp only [e1, e2, ht]
   rw [List.length_map, Nat.ble_eq_true_of_le (show p.length ≤ maxRoom by omega), Nat.ble_eq_true_of_le (show (Lib.join p [10]).length ≤ maxRoom by unfold joinN at h2; omega)]
   rfl
  ·cases hs
 ·cases hs
end
end Go.Proofs.Rc
namespace Go.Proofs.Rc
open Go Go.Ef
noncomputable section
set_option maxRecDepth 100000
variable {m : Int} {T : Tab}
structure IsGroup (els : List (List AV)) (p : List (List UInt8)) : Prop where
 lines : els = p.map strEl
 room : (joinE 10 p).length ≤ 4294967270
structure HasGroup (els : List (List AV)) : Prop where
 is : ∃ p, IsGroup els p
structure GroupNil (els : List (List AV)) : Prop where
 is : ∀ p, els = p.map strEl → groupF p = []
structure GroupOwn (els : List (List AV)) (g : List (List UInt8)) : Prop where
 is : ∀ p, els = p.map strEl → groupF p = g
 ne : g ≠ []
structure SomeText (s : List UInt8) : Prop where
 ne : s ≠ []
structure NoPara (s : List UInt8) : Prop where
 eq : paraF s = ([], true)
structure IsPara (q : List (List UInt8) × Bool) (s : List UInt8) : Prop where
 eq : q = paraF s
end
end Go.Proofs.Rc
namespace Go.Proofs.Rc
open Go Go.Ef
noncomputable section
set_option maxRecDepth 100000
variable {m : Int} {T : Tab}
structure HasRead (els : List (List AV)) : Prop where
 is : ∃ p : List (List UInt8), els = p.map strEl ∧ (joinE 10 p).length ≤ 4294967270
structure ReadIs (els : List (List AV)) (q : List (List UInt8) × List UInt8) : Prop where
 is : ∀ p : List (List UInt8), els = p.map strEl → scanR p p.length = q
structure ReadOwn (els : List (List AV)) (q : List (List UInt8) × List UInt8) : Prop where
 is : ReadIs els q
 ne : q.1 ≠ []
structure NoRead (s : List UInt8) : Prop where
 eq : paraR s = ([], true)
structure IsRead (q : List (List UInt8) × Bool) (s : List UInt8) : Prop where
 eq : q = paraR s
end
end Go.Proofs.Rc
namespace Go.Proofs.Rc
open Go Go.Ef
noncomputable section
set_option maxRecDepth 100000
variable {m : Int} {T : Tab}
structure Alike (a : List (List UInt8) × List (List UInt8)) (b : List (List UInt8) × List UInt8) : Prop where
 fst : b.1 = a.1
 snd : b.2 = joinN a.2
 ne : ∀ x ∈ a.2, x ≠ []
theorem Alike.nil {a b} (h : Alike a b) : b.2 = [] ↔ a.2 = [] := by
 rw [h.snd]
 constructor
 ·intro e
  cases ha : a.2 with
  | nil => rfl
  | cons x r =>
   rw [ha] at e
   cases r with
   | nil =>
    rw [joinN_one] at e
    exact absurd e (h.ne x (by rw [ha]; simp))
   | cons y r => rw [joinN_cons] at e; simp at e
 ·intro e; rw [e]; rfl
theorem Alike.step {a b} (h : Alike a b) {n : Nat} (x : List UInt8) (i : Nat) (hi : i + 1 < n) : Alike (stepG a x) (stepR n b (x, i)) := by
 unfold stepG stepR
 have hn := h.nil
 by_cases hx : x = []
 ·rw [if_pos hx, if_pos hx]
  by_cases hb : b.2 = []
  ·rw [if_neg (fun e => e.1 hb)]
   refine ⟨?_, hb, fun _ hy => by cases hy⟩
   unfold flushG
   rw [if_pos (hn.1 hb)]
   exact h.fst
  ·rw [if_pos ⟨hb, hi⟩]
   refine ⟨?_, rfl, fun _ hy => by cases hy⟩
   unfold flushG
   rw [if_neg (fun e => hb (hn.2 e)), h.fst, h.snd]
 ·rw [if_neg hx, if_neg hx]
  have hne : ∀ y ∈ a.2 ++ [x], y ≠ [] := fun y hy => by
   rcases List.mem_append.1 hy with hy | hy
   ·exact h.ne y hy
   ·obtain rfl := List.mem_singleton.1 hy; exact hx
  by_cases hb : b.2 = []
  ·rw [if_neg (fun e => e hb)]
   refine ⟨h.fst, ?_, hne⟩
   rw [hn.1 hb]
   exact (joinN_one x).symm
  ·rw [if_pos hb]
   refine ⟨h.fst, ?_, hne⟩
   show b.2 ++ [10] ++ x = joinN (a.2 ++ [x])
   rw [joinN_snoc _ _ (fun e => hb (hn.2 e)), h.snd]
end
end Go.Proofs.Rc
namespace Go.Proofs.Rd
open Go Go.Ef
noncomputable section
abbrev cf (m : Int) : Cfg := Rec.cfg m
structure Room (s : List UInt8) : Prop where
 le : s.length ≤ 4294967280
structure InLen (s : List UInt8) (n : Int) : Prop where
 lo : 0 ≤ n
 hi : n ≤ s.length
def I117 (s : List UInt8) (n : Int) : St := stOf 23 [(0, sStr s), (3, sInt n)] [] heapF
def E117 (n : Int) : St := stOf 23 [(3, sInt n)] [] heapF
def q117 (X : Int → Prop) (e : Ex) (τ : St) : Prop :=
 match e with
 | .exit _ => e = .exit 0 ∧ τ = E117 (slI τ 3) ∧ X (slI τ 3)
 | _ => False
def txtV (s : List UInt8) : AV := .agg [.sc (.int .i64 2), .sc (.int .i64 0), aStr s]
end
end Go.Proofs.Rd
namespace Go.Proofs.Rd
open Go Go.Ef
noncomputable section
set_option maxRecDepth 100000
theorem v117 (m : Int) (s : List UInt8) (n : Int) (N : Int → Prop) (X : Int → Prop) (h :
 iteP (decide (n < (↑s.length : Int)))
 (iteP (inRange n s.length)
 (iteP (decide ((48 : Int) ≤ byteAt s n))
 (iteP (inRange n s.length)
 (iteP (decide (byteAt s n ≤ (57 : Int)))
 (I117 s (IntKind.i64.wrap (n + (1 : Int))) = I117 s (IntKind.i64.wrap (n + (1 : Int))) ∧
 N (IntKind.i64.wrap (n + (1 : Int))))
 (Ex.exit (0 : Nat) = Ex.exit (0 : Nat) ∧ E117 n = E117 n ∧ X n))
 False)
 (Ex.exit (0 : Nat) = Ex.exit (0 : Nat) ∧ E117 n = E117 n ∧ X n))
 False)
 (Ex.exit (0 : Nat) = Ex.exit (0 : Nat) ∧ E117 n = E117 n ∧ X n)) :
 (fun (m : Int) (s : List UInt8) (n : Int) (N : Int → Prop) (X : Int → Prop) => wpRound tab0 (cf m) Tryz.prog 40 117 3 (I117 s n) (fun τ => τ = I117 s (slI τ 3) ∧ N (slI τ 3)) (q117 X)) m s n N X :=
 Eq.mp (by kernel_rfl) h
end
end Go.Proofs.Rd
namespace Go.Proofs.Rd
open Go Go.Ef
noncomputable section
set_option maxRecDepth 100000
variable {m : Int} {T : Tab}
abbrev Ok (m : Int) (T : Tab) : Prop := TabOk Tryz.prog (cf m) T
structure Q79 (s : List UInt8) (y : AV) : Prop where
 is : ∃ p : Int × Int, InLen s p.2 ∧ y = .tup [intA p.1, intA p.2]
end
end Go.Proofs.Rd
namespace Go.Proofs.Rd
open Go Go.Ef
noncomputable section
def nilA : AV := .sc (.slice none 0 0)
def i0 : AV := .sc (.int .i64 0)
def u0 : AV := .sc (.int .u64 0)
def recC (c : UInt8) (out whole : List UInt8) (f : AV) : List AV := [aStr [c], aStr [], i0, i0, i0, u0, u0, u0, u0, i0, i0, i0, nilA, aStr out, aStr whole, f]
def hG (k : Nat) (a b r1 r0 : Tr AObj) (v1 v0 : Option AObj) (ro : Nat) (ty : Tr (Nat × Nat)) (rec : List AV) : Heap := ⟨k + 4, .node (.node (.node a (some (.cells rec)) b) v1 r1) v0 r0, ro, ty⟩
theorem hG_of {h : Heap} {rec : List AV} (hg : h.get 3 = some (.cells rec)) : ∃ k a b r1 r0 v1 v0 ro ty, h = hG k a b r1 r0 v1 v0 ro ty rec := by
 obtain ⟨nx, ob, ro, ty⟩ := h
 have hb : Nat.blt 3 nx = true := by
  cases hb : Nat.blt 3 nx with
  | true => rfl
  | false => simp only [Heap.get, hb, cond_false] at hg; cases hg
 have hn : 4 ≤ nx := Nat.le_of_ble_eq_true hb
 have h2 : ob.get 3 = some (.cells rec) := by
  simp only [Heap.get, hb, cond_true] at hg; exact hg
 obtain ⟨k, rfl⟩ : ∃ k, nx = k + 4 := ⟨nx - 4, by omega⟩
 cases ob with
 | leaf => cases h2
 | node l v0 r0 =>
  have h3 : l.get 1 = some (.cells rec) := h2
  cases l with
  | leaf => cases h3
  | node l v1 r1 =>
   have h4 : l.get 0 = some (.cells rec) := h3
   cases l with
   | leaf => cases h4
   | node a v b =>
    have h5 : v = some (.cells rec) := h4
    subst h5
    exact ⟨k, a, b, r1, r0, v1, v0, ro, ty, rfl⟩
inductive Fld (h : Heap) : AV → List (List UInt8) → Prop where
 | nil : Fld h nilA []
 | sl (L : List (List UInt8)) : L ≠ [] → Fld h (.sl (L.map strEl) 0) L
 | row (id : Nat) (L : List (List UInt8)) : L ≠ [] → h.get id = some (.cells (L.map aStr)) → Fld h (.rsl id 0 L.length 1) L
structure IsRec (h : Heap) (L : List (List UInt8)) : Prop where
 is : ∃ c out whole f, h.get 3 = some (.cells (recC c out whole f)) ∧ Fld h f L
structure HasRec (h : Heap) : Prop where
 is : ∃ L, IsRec h L
structure GetOk (h : Heap) (k : Int) : Prop where
 is : ∃ L, IsRec h L ∧ 1 ≤ k ∧ k ≤ L.length ∧ L.length ≤ 1024 ∧ ∀ x ∈ L, Room x
structure IsGet (h : Heap) (k : Int) (s : List UInt8) : Prop where
 is : ∀ L, IsRec h L → L[(k - 1).toNat]? = some s
structure FldsOk (h : Heap) : Prop where
 is : ∃ L, IsRec h L ∧ L.length ≤ 1024 ∧ ∀ x ∈ L, Room x
 ro : h.ro ≤ h.next
def tabS : Tab := { tab0 with symS := fun f d => Nat.beq f 27 && (match d with | some t => Nat.beq t 42 | none => false), lazy := fun f => Nat.beq f 26 || Nat.beq f 27 }
structure Loop30 (h : Heap) (n : Int) : Prop where
 is : ∃ L, IsRec h L ∧ n = L.length ∧ L.length ≤ 1024 ∧ ∀ x ∈ L, Room x
 ro : h.ro ≤ h.next
structure NoFld (h : Heap) : Prop where
 is : IsRec h []
structure SomeFld (h : Heap) (L : List (List UInt8)) : Prop where
 is : IsRec h L
 ne : L ≠ []
def fieldC (h : Heap) : Option AV :=
 match h.get 3 with
 | some (.cells cs) => getI 15 cs
 | _ => none
end
end Go.Proofs.Rd
namespace Go.Proofs.Rd
open Go Go.Ef
noncomputable section
set_option maxRecDepth 100000
variable {m : Int} {T : Tab}
theorem EvP.direct {g : FuncId} {args : List AV} {h : Heap} {K : AV → Heap → Prop} (hp : (cf m).prim g = none) (hf : (cf m).fresh g = false) (H : EvC (cf m) Tryz.prog g args h K) : EvP (cf m) Tryz.prog g args h K := by
 obtain ⟨n, r, h', h1, h2⟩ := H
 refine ⟨n, r, h', ?_, h2⟩
 unfold callP
 rw [hp]; simp only []; rw [hf]
 exact h1
theorem Fld.mono {h h' : Heap} {f : AV} {L : List (List UInt8)} (hm : ∀ id cs, h.get id = some (.cells cs) → h'.get id = some (.cells cs)) (H : Fld h f L) : Fld h' f L := by
 cases H with
 | nil => exact .nil
 | sl L h => exact .sl L h
 | row id L h g => exact .row id L h (hm _ _ g)
theorem IsRec.mono {h h' : Heap} {L : List (List UInt8)} (hm : ∀ id cs, h.get id = some (.cells cs) → h'.get id = some (.cells cs)) (H : IsRec h L) : IsRec h' L := by
 obtain ⟨c, out, whole, f, h1, h2⟩ := H
 exact ⟨c, out, whole, f, hm _ _ h1, h2.mono hm⟩
theorem str_inj {L M : List (List UInt8)} (h : L.map strEl = M.map strEl) : L = M := by
 induction L generalizing M with
 | nil => cases M with
  | nil => rfl
  | cons _ _ => cases h
 | cons a L ih => cases M with
  | nil => cases h
  | cons b M =>
   simp only [List.map_cons, List.cons.injEq, strEl] at h
   obtain ⟨h1, h2⟩ := h
   have h1 : a = b := by simpa using h1
   rw [h1, ih h2]
theorem aStr_inj {L M : List (List UInt8)} (h : L.map aStr = M.map aStr) : L = M := by
 induction L generalizing M with
 | nil => cases M with
  | nil => rfl
  | cons _ _ => cases h
 | cons a L ih => cases M with
  | nil => cases h
  | cons b M =>
   simp only [List.map_cons, List.cons.injEq, aStr] at h
   obtain ⟨h1, h2⟩ := h
   have h1 : a = b := by simpa using h1
   rw [h1, ih h2]
theorem IsRec.uniq {h : Heap} {L M : List (List UInt8)} (A : IsRec h L) (B : IsRec h M) : L = M := by
 obtain ⟨c, out, whole, f, h1, h2⟩ := A
 obtain ⟨c', out', whole', f', h3, h4⟩ := B
 rw [h1] at h3
 have hf : f = f' := by
  simp only [Option.some.injEq, AObj.cells.injEq, recC, List.cons.injEq] at h3
  simp_all
 subst hf
 cases h2 with
 | nil => cases h4; rfl
 | sl L h =>
  generalize he : L.map strEl = e at h4
  cases h4 with
  | sl M _ => exact str_inj he
 | row id L h g =>
  generalize he : L.length = e at h4
  cases h4 with
  | row id M _ g' =>
   rw [g] at g'
   have : L.map aStr = M.map aStr := by simpa using g'
   exact aStr_inj this
end
end Go.Proofs.Rd
namespace Go.Proofs.Rd
open Go Go.Ef
noncomputable section
def splC (c : UInt8) : List AV := [aStr [c], aStr [], i0, i0, i0, u0, u0, u0, u0, i0, i0, i0, nilA]
structure Parts (c : UInt8) (s : List UInt8) : Prop where
 ne : s ≠ []
 sp : c ≠ 32
 le : (partsOf c s).length ≤ 1024
 room : s.length ≤ 4294967280
def sepOf (x : AV) : List UInt8 :=
 match x with
 | .agg (.sc (.string b) :: _) => b.data.toList
 | _ => []
structure SplOk (x : AV) (s : List UInt8) : Prop where
 is : ∃ c, x = .agg (splC c) ∧ Parts c s
structure SplNil (x : AV) (s : List UInt8) : Prop where
 is : ∃ c, x = .agg (splC c) ∧ c ≠ 32 ∧ s = []
structure IsSpl (x : AV) (s : List UInt8) (L : List (List UInt8)) : Prop where
 is : ∀ c, x = .agg (splC c) → L = partsOf c s
def C48a (args : List AV) (h : Heap) : Option CSpec :=
 match args with
 | [x, .sc (.string s)] => some { pre := SplOk x s.data.toList, alts := [{ α := List (List UInt8), post := fun L => IsSpl x s.data.toList L, val := fun L => .tup [.sl (L.map strEl) 0, intA 0], heap := fun _ => h }] }
 | _ => none
def C48b (args : List AV) (h : Heap) : Option CSpec :=
 match args with
 | [x, .sc (.string s)] => some (fspec (SplNil x s.data.toList) (.tup [nilA, intA 0]) h)
 | _ => none
def CNo (_ : List AV) (h : Heap) : Option CSpec := some (fspec False nilA h)
def T48 : Tab := (tab0.addC 42 Rc.C42).addC 77 CNo
def I31 (els : List (List AV)) (t out : List UInt8) (i : Int) : St := stOf 25 [(0, .v (.sl els 0)), (1, sStr t), (5, sStr out), (6, sInt i)] [] heapF
def E31 (out : List UInt8) : St := stOf 25 [(5, sStr out)] [] heapF
def q31 (X : Prop) (out : List UInt8) (e : Ex) (τ : St) : Prop :=
 match e with
 | .exit _ => e = .exit 0 ∧ τ = E31 out ∧ X
 | _ => False
structure JoinOk (els : List (List AV)) (t : List UInt8) : Prop where
 is : ∃ L : List (List UInt8), els = L.map strEl ∧ (Lib.join L t).length ≤ 4294967280 ∧ L.length ≤ 4294967280
structure IsJoin (x : List UInt8) (els : List (List AV)) (t : List UInt8) : Prop where
 is : ∀ L : List (List UInt8), els = L.map strEl → x = Lib.join L t
def rwS (id n : Nat) : Slot := .v (.rsl id 0 n 1)
def rwN (σ : St) (t : Nat) : Nat :=
 match σ.at t with
 | .v (.rsl _ _ n _) => n
 | _ => 0
def rwId (σ : St) (t : Nat) : Nat :=
 match σ.at t with
 | .v (.rsl id _ _ _) => id
 | _ => 0
def I49 (id n : Nat) (acc i : Int) (h : Heap) : St := stOf 44 [(0, .v (.ptr 3 0)), (1, rwS id n), (5, sInt acc), (8, rwS id n), (9, sInt n), (10, sInt i)] [] h
def E49 (id n : Nat) (h : Heap) : St := stOf 44 [(0, .v (.ptr 3 0)), (1, rwS id n), (4, .unk)] [] h
def q49 (id n : Nat) (h : Heap) (X : Prop) (e : Ex) (τ : St) : Prop :=
 match e with
 | .exit _ => e = .exit 0 ∧ τ = E49 id n h ∧ X
 | _ => False
structure Whole (h : Heap) (id n : Nat) : Prop where
 is : ∃ (L : List (List UInt8)) (c : UInt8) (out whole : List UInt8) (f : AV), h.get id = some (.cells (L.map aStr)) ∧ n = L.length ∧ h.get 3 = some (.cells (recC c out whole f)) ∧ (Lib.join L out).length ≤ 65536 ∧ L.length ≤ 70000
def L49 (σ : St) : Option LSpec := some { pre := σ.tidy [0, 1, 5, 8, 9, 10] 0 = I49 (rwId σ 1) (rwN σ 1) 0 0 σ.h ∧ Whole σ.h (rwId σ 1) (rwN σ 1), alts := [{ α := Unit, post := fun _ => True, ex := .exit 0, st := fun _ => E49 (rwId σ 1) (rwN σ 1) σ.h }] }
def T49z : Tab := { tab0 with symS := fun f d => Nat.beq f 49 && (match d with | some t => Nat.beq t 14 || Nat.beq t 25 | none => false), lazy := fun f => Nat.beq f 49 }
structure RowOk (h : Heap) (id n : Nat) (sep : List UInt8) : Prop where
 is : ∃ L : List (List UInt8), h.get id = some (.cells (L.map aStr)) ∧ n = L.length ∧ (Lib.join L sep).length ≤ 4294967280 ∧ L.length ≤ 70000
structure RowJoin (h : Heap) (id : Nat) (sep x : List UInt8) : Prop where
 is : ∀ L : List (List UInt8), h.get id = some (.cells (L.map aStr)) → x = Lib.join L sep
def C73 (args : List AV) (h : Heap) : Option CSpec :=
 match args with
 | [.rsl id 0 n 1, .sc (.string sep)] => some { pre := RowOk h id n sep.data.toList, alts := [{ α := List UInt8, post := fun x => RowJoin h id sep.data.toList x, val := fun x => aStr x, heap := fun _ => h }] }
 | _ => none
end
end Go.Proofs.Rd
namespace Go.Proofs.Rd
open Go Go.Ef
noncomputable section
set_option maxRecDepth 100000
theorem c48a (m : Int) (c : UInt8) (s : List UInt8) (K : AV → Prop) (h :
 iteP (decide ([c] = [(32 : UInt8)]))
 (False ∧
 ∀ (_ : Unit),
 True → K (AV.tup [AV.sc (Value.slice none (0 : Nat) (0 : Nat)), AV.sc (Value.int IntKind.i64 (0 : Int))]))
 (iteP (decide (s ≠ []))
 (s.length.le (4294967280 : Nat) ∧
 ∀ (x : List (List UInt8)),
 x = partsOf c s →
 iteP (decide ((1024 : Int) < (↑(List.map strEl x).length : Int)))
 (K (AV.tup [AV.sc (Value.slice none (0 : Nat) (0 : Nat)), AV.sc (Value.int IntKind.i64 (3 : Int))]))
 (iteP (plainEls (List.map strEl x))
 (K (AV.tup [AV.sl (List.map strEl x) (0 : Nat), AV.sc (Value.int IntKind.i64 (0 : Int))])) False))
 (K (AV.tup [AV.sc (Value.slice none (0 : Nat) (0 : Nat)), AV.sc (Value.int IntKind.i64 (0 : Int))])))) :
 (fun (m : Int) (c : UInt8) (s : List UInt8) (K : AV → Prop) => wpCall T48 (cf m) Tryz.prog 40 48 [.agg (splC c), aStr s] heapF fun r h' => wpBack h' r K) m c s K :=
 Eq.mp (by kernel_rfl) h
theorem v31 (m : Int) (els : List (List AV)) (t : List UInt8) (out : List UInt8) (i : Int) (N : List UInt8 → Int → Prop) (X : Prop) (h :
 iteP (decide (i < (↑els.length : Int)))
 (iteP (decide ((0 : Int) < i))
 (iteP (strFits out t)
 (iteP (inRange i els.length)
 (getI i.toNat els = some [AV.sc (Value.string (ByteArray.mk (Array.mk (cellStr els i (0 : Nat)))))] ∧
 iteP (strFits (out ++ t) (cellStr els i (0 : Nat)))
 (I31 els t (out ++ t ++ cellStr els i (0 : Nat)) (IntKind.i64.wrap (i + (1 : Int))) =
 I31 els t (out ++ t ++ cellStr els i (0 : Nat)) (IntKind.i64.wrap (i + (1 : Int))) ∧
 N (out ++ t ++ cellStr els i (0 : Nat)) (IntKind.i64.wrap (i + (1 : Int))))
 False)
 False)
 False)
 (iteP (inRange i els.length)
 (getI i.toNat els = some [AV.sc (Value.string (ByteArray.mk (Array.mk (cellStr els i (0 : Nat)))))] ∧
 iteP (strFits out (cellStr els i (0 : Nat)))
 (I31 els t (out ++ cellStr els i (0 : Nat)) (IntKind.i64.wrap (i + (1 : Int))) =
 I31 els t (out ++ cellStr els i (0 : Nat)) (IntKind.i64.wrap (i + (1 : Int))) ∧
 N (out ++ cellStr els i (0 : Nat)) (IntKind.i64.wrap (i + (1 : Int))))
 False)
 False))
 (Ex.exit (0 : Nat) = Ex.exit (0 : Nat) ∧ E31 out = E31 out ∧ X)) :
 (fun (m : Int) (els : List (List AV)) (t out : List UInt8) (i : Int) (N : List UInt8 → Int → Prop) (X : Prop) => wpRound tab0 (cf m) Tryz.prog 40 31 4 (I31 els t out i) (fun τ => τ = I31 els t (slS τ 5) (slI τ 6) ∧ N (slS τ 5) (slI τ 6)) (q31 X out)) m els t out i N X :=
 Eq.mp (by kernel_rfl) h
theorem v49 (m : Int) (id : Nat) (n : Nat) (acc : Int) (i : Int) (H : Heap) (N : Int → Int → Prop) (X : Prop) (h :
 iteP (decide (i < (↑n : Int)))
 (iteP (inRange i n)
 (iteP (hasStr H id ((0 : Nat) + i.toNat * (1 : Nat)))
 (iteP (decide ((0 : Int) < i))
 (iteP (hasStr H (3 : Nat) (13 : Nat))
 (iteP
 (decide
 ((65536 : Int) <
 IntKind.i64.wrap
 (IntKind.i64.wrap (acc + (↑(strIn H id ((0 : Nat) + i.toNat * (1 : Nat))).length : Int)) +
 (↑(strIn H (3 : Nat) (13 : Nat)).length : Int))))
 False
 (I49 id n
 (IntKind.i64.wrap
 (IntKind.i64.wrap (acc + (↑(strIn H id ((0 : Nat) + i.toNat * (1 : Nat))).length : Int)) +
 (↑(strIn H (3 : Nat) (13 : Nat)).length : Int)))
 (IntKind.i64.wrap (i + (1 : Int))) H =
 I49 id n
 (IntKind.i64.wrap
 (IntKind.i64.wrap (acc + (↑(strIn H id ((0 : Nat) + i.toNat * (1 : Nat))).length : Int)) +
 (↑(strIn H (3 : Nat) (13 : Nat)).length : Int)))
 (IntKind.i64.wrap (i + (1 : Int))) H ∧
 N
 (IntKind.i64.wrap
 (IntKind.i64.wrap (acc + (↑(strIn H id ((0 : Nat) + i.toNat * (1 : Nat))).length : Int)) +
 (↑(strIn H (3 : Nat) (13 : Nat)).length : Int)))
 (IntKind.i64.wrap (i + (1 : Int)))))
 False)
 (iteP
 (decide
 ((65536 : Int) < IntKind.i64.wrap (acc + (↑(strIn H id ((0 : Nat) + i.toNat * (1 : Nat))).length : Int))))
 False
 (I49 id n (IntKind.i64.wrap (acc + (↑(strIn H id ((0 : Nat) + i.toNat * (1 : Nat))).length : Int)))
 (IntKind.i64.wrap (i + (1 : Int))) H =
 I49 id n (IntKind.i64.wrap (acc + (↑(strIn H id ((0 : Nat) + i.toNat * (1 : Nat))).length : Int)))
 (IntKind.i64.wrap (i + (1 : Int))) H ∧
 N (IntKind.i64.wrap (acc + (↑(strIn H id ((0 : Nat) + i.toNat * (1 : Nat))).length : Int)))
 (IntKind.i64.wrap (i + (1 : Int))))))
 False)
 False)
 (Ex.exit (0 : Nat) = Ex.exit (0 : Nat) ∧ E49 id n H = E49 id n H ∧ X)) :
 (fun (m : Int) (id n : Nat) (acc i : Int) (H : Heap) (N : Int → Int → Prop) (X : Prop) => wpRound T49z (cf m) Tryz.prog 40 49 4 (I49 id n acc i H) (fun τ => τ = I49 id n (slI τ 5) (slI τ 10) H ∧ N (slI τ 5) (slI τ 10)) (q49 id n H X)) m id n acc i H N X :=
 Eq.mp (by kernel_rfl) h
end
end Go.Proofs.Rd
namespace Go.Proofs.Rd
open Go Go.Ef
noncomputable section
set_option maxRecDepth 100000
variable {m : Int} {T : Tab}
theorem join_snoc {L : List (List UInt8)} (h : L ≠ []) (y t : List UInt8) : Lib.join (L ++ [y]) t = Lib.join L t ++ t ++ y := by
 cases L with
 | nil => exact absurd rfl h
 | cons x r =>
  rw [List.cons_append, Lib.join_cons, Lib.join_cons]
  simp [Lib.joinTail]
theorem join_le {L : List (List UInt8)} {t : List UInt8} : ∀ {i : Nat}, (Lib.join (L.take i) t).length ≤ (Lib.join L t).length := by
 intro i
 cases L with
 | nil => simp
 | cons x r =>
  cases i with
  | zero => simp [Lib.join_nil]
  | succ i =>
   rw [List.take_succ_cons, Lib.join_cons, Lib.join_cons]
   have : (Lib.joinTail t (r.take i)).length ≤ (Lib.joinTail t r).length := by
    have e : Lib.joinTail t r = Lib.joinTail t (r.take i) ++ Lib.joinTail t (r.drop i) := by
     unfold Lib.joinTail
     rw [← List.flatten_append, ← List.map_append, List.take_append_drop]
    rw [e, List.length_append]
    omega
   simp only [List.length_append]
   omega
theorem take_next {L : List (List UInt8)} {j : Nat} (h : j < L.length) : L.take (j + 1) = L.take j ++ [L[j]] := by
 rw [List.take_add_one, List.getElem?_eq_getElem h]; rfl
theorem okNo (O : Ok m T) (g : FuncId) : Ok m (T.addC g CNo) := by
 refine addC_ok O fun args h s hs hp => ?_
 unfold CNo at hs
 cases hs
 exact hp.elim
theorem ok48T : Ok m T48 := okNo (Rc.ok42 tab0_ok) 77
theorem ok48a (O : Ok m T) : Ok m (T.addC 48 C48a) := by
 refine addC_ok O fun args h s hs hp => ?_
 unfold C48a at hs
 split at hs
 ·rename_i x s0
  obtain ⟨⟨s0⟩⟩ := s0
  cases hs
  obtain ⟨c, rfl, h1, h2, h3, h4⟩ := hp
  have h1 : s0 ≠ [] := h1
  have h3 : (partsOf c s0).length ≤ 1024 := h3
  have key : EvP (cf m) Tryz.prog 48 [.agg (splC c), aStr s0] h fun y h' => y = .tup [.sl ((partsOf c s0).map strEl) 0, intA 0] ∧ h' = h := by
   refine EvP.freshV ok48T (n := 40) (by kernel_rfl) (by kernel_rfl) (args' := [.agg (splC c), aStr s0]) rfl (c48a m c s0 _ ?_)
   rw [decide_eq_false (by simpa using h2), iteP_f, decide_eq_true h1, iteP_t]
   refine ⟨h4, fun L hL => ?_⟩
   subst hL
   rw [List.length_map, decide_eq_false (by omega), iteP_f, Rc.cells_plain, iteP_t]; rfl
  obtain ⟨n, v, h', g1, rfl, rfl⟩ := key
  refine ⟨_, List.mem_singleton.2 rfl, partsOf c s0, n, ⟨fun c' hc' => ?_⟩, g1⟩
  have : c = c' := by
   have := congrArg sepOf hc'
   have : [c] = [c'] := this
   simpa using this
  rw [← this]
 ·cases hs
theorem ok48b (O : Ok m T) : Ok m (T.addC 48 C48b) := by
 refine addC_ok O fun args h s hs hp => ?_
 unfold C48b at hs
 split at hs
 ·rename_i x s0
  obtain ⟨⟨s0⟩⟩ := s0
  cases hs
  obtain ⟨c, rfl, h2, h1⟩ := hp
  have h1 : s0 = [] := h1
  subst h1
  have key : EvP (cf m) Tryz.prog 48 [.agg (splC c), aStr []] h fun y h' => y = .tup [nilA, intA 0] ∧ h' = h := by
   refine EvP.freshV ok48T (n := 40) (by kernel_rfl) (by kernel_rfl) (args' := [.agg (splC c), aStr []]) rfl (c48a m c [] _ ?_)
   rw [decide_eq_false (by simpa using h2), iteP_f, decide_eq_false (by simp), iteP_f]; rfl
  obtain ⟨n, v, h', g1, rfl, rfl⟩ := key
  exact ⟨_, List.mem_singleton.2 rfl, (), n, trivial, g1⟩
 ·cases hs
theorem ok49z : Ok m T49z := ⟨fun _ _ _ _ _ ht => (by cases ht), fun _ _ _ _ _ ht => (by cases ht)⟩
theorem row_str {H : Heap} {id : Nat} {L : List (List UInt8)} (hg : H.get id = some (.cells (L.map aStr))) {i : Nat} (h : i < L.length) : strIn H id i = L[i] ∧ hasStr H id i = true := by
 have hc : (L.map aStr)[i]? = some (aStr L[i]) := by rw [List.getElem?_map, List.getElem?_eq_getElem h]; rfl
 unfold strIn hasStr
 rw [hg]; simp only []; rw [hc]
 exact ⟨rfl, rfl⟩
theorem out_str {H : Heap} {c : UInt8} {out whole : List UInt8} {f : AV} (hg : H.get 3 = some (.cells (recC c out whole f))) : strIn H 3 13 = out ∧ hasStr H 3 13 = true := by
 unfold strIn hasStr
 rw [hg]
 exact ⟨rfl, rfl⟩
theorem loop49 (m : Int) (H : Heap) (id : Nat) (L : List (List UInt8)) (c : UInt8) (out whole : List UInt8) (f : AV) (hg : H.get id = some (.cells (L.map aStr))) (hr : H.get 3 = some (.cells (recC c out whole f)))
  (hl : (Lib.join L out).length ≤ 65536) (hn : L.length ≤ 70000) : ∀ (k i : Nat), L.length - i = k → i ≤ L.length →
  Ev (cf m) Tryz.prog 49 (.loop (loopAt Tryz.prog 49 4)) (I49 id L.length (Lib.join (L.take i) out).length i H) fun e τ => e = .exit 0 ∧ τ = E49 id L.length H := by
 have can : ∀ (acc : Int) (i : Nat), (I49 id L.length acc i H).tidy [0, 1, 5, 8, 9, 10] 0 = I49 id L.length acc i H := fun acc i => by kernel_rfl
 obtain ⟨o1, o2⟩ := out_str hr
 intro k
 induction k with
 | zero =>
  intro i hf hi
  refine Ev.round (t := ⟨[0, 1, 5, 8, 9, 10], [0, 1, 4], 0⟩) ok49z (by kernel_rfl) rfl (can _ i) (v49 m id L.length _ i H (fun _ _ => False) True ?_) (fun τ h => h.2.elim) (fun e τ h => ?_)
  ·rw [decide_eq_false (by omega), iteP_f]
   exact ⟨rfl, rfl, trivial⟩
  ·unfold q49 at h
   split at h
   ·exact ⟨h.1, h.2.1⟩
   ·exact h.elim
 | succ k ih =>
  intro i hf hi
  have hlt : i < L.length := by omega
  have hw : IntKind.i64.wrap ((i : Int) + 1) = ((i + 1 : Nat) : Int) := by rw [wrap_in (by omega) (by omega)]; rfl
  obtain ⟨r1, r2⟩ := row_str hg hlt
  have hb := join_le (L := L) (t := out) (i := i + 1)
  refine Ev.round (t := ⟨[0, 1, 5, 8, 9, 10], [0, 1, 4], 0⟩) ok49z (by kernel_rfl) rfl (can _ i) (v49 m id L.length _ i H (fun o j => o = (Lib.join (L.take (i + 1)) out).length ∧ j = ((i + 1 : Nat) : Int)) False ?_) (fun τ h => ?_) (fun e τ h => ?_)
  ·rw [Int.toNat_natCast, Nat.zero_add, Nat.mul_one, r1, r2, o1, o2, hw, decide_eq_true (by omega), iteP_t, show inRange (i : Int) L.length = true by rw [inRange_iff]; omega, iteP_t, iteP_t]
   by_cases h0 : i = 0
   ·subst h0
    have e : Lib.join (L.take (0 + 1)) out = L[0] := by rw [take_next hlt]; exact Lib.join_one _ _
    have hlen := congrArg List.length e
    have hz : (Lib.join (L.take 0) out).length = 0 := by simp [Lib.join_nil]
    rw [decide_eq_false (by omega), iteP_f, hz, wrap_in (by omega) (by omega), decide_eq_false (by omega), iteP_f]
    exact ⟨rfl, by omega, rfl⟩
   ·have hne : L.take i ≠ [] := by
     intro e
     have := congrArg List.length e
     rw [List.length_take, List.length_nil] at this; omega
    have e : Lib.join (L.take (i + 1)) out = Lib.join (L.take i) out ++ out ++ L[i] := by rw [take_next hlt, join_snoc hne]
    have hlen := congrArg List.length e
    simp only [List.length_append] at hlen
    rw [decide_eq_true (by omega), iteP_t, iteP_t, wrap_in (x := ((Lib.join (L.take i) out).length : Int) + (L[i].length : Int)) (by omega) (by omega), wrap_in (by omega) (by omega), decide_eq_false (by omega), iteP_f]
    exact ⟨rfl, by omega, rfl⟩
  ·obtain ⟨h1, h2, h3⟩ := h
   rw [h2, h3] at h1
   rw [h1]
   exact ih (i + 1) (by omega) (by omega)
  ·unfold q49 at h
   split at h
   ·exact h.2.2.elim
   ·exact h.elim
theorem ok49L (O : Ok m T) : Ok m (T.addL 49 4 L49) := by
 refine addL_ok O fun σ s hs hp => ?_
 cases hs
 obtain ⟨e, L, c, out, whole, f, h1, h2, h3, h4, h5⟩ := hp
 have he : Ev (cf m) Tryz.prog 49 (.loop (loopAt Tryz.prog 49 4)) σ fun e τ => e = .exit 0 ∧ τ = E49 (rwId σ 1) (rwN σ 1) σ.h := by
  refine Ev.tidied (t := ⟨[0, 1, 5, 8, 9, 10], [0, 1, 4], 0⟩) (τ := I49 (rwId σ 1) L.length (Lib.join (L.take 0) out).length (0 : Nat) σ.h) (by kernel_rfl) (by rw [e, h2]; kernel_rfl) ?_
  rw [h2]
  exact loop49 m σ.h (rwId σ 1) L c out whole f h1 h3 h4 h5 _ 0 rfl (Nat.zero_le _)
 obtain ⟨n, ex, τ, h6, rfl, rfl⟩ := he
 exact ⟨_, List.mem_singleton.2 rfl, (), trivial, n, h6⟩
theorem mapO_strC (L : List (List UInt8)) : mapO strC (L.map aStr) = some (L.map fun b => (⟨⟨b⟩⟩ : ByteArray)) := by
 induction L with
 | nil => rfl
 | cons a L ih =>
  show consO (strC (aStr a)) (mapO strC (L.map aStr)) = _
  rw [ih]; rfl
theorem ok73 (O : Ok m T) : Ok m (T.addC 73 C73) := by
 refine addC_ok O fun args h s hs hp => ?_
 unfold C73 at hs
 split at hs
 ·rename_i id n sep
  obtain ⟨⟨sep⟩⟩ := sep
  cases hs
  obtain ⟨L, h1, rfl, h3, h4⟩ := hp
  refine ⟨_, List.mem_singleton.2 rfl, Lib.join L sep, 0, ⟨fun M hM => ?_⟩, ?_⟩
  ·rw [h1] at hM
   have : L.map aStr = M.map aStr := by simpa using hM
   rw [aStr_inj this]
  ·show joinP [.rsl id 0 L.length 1, .sc (.string ⟨⟨sep⟩⟩)] h = _
   have hst : stretch 0 L.length (L.map aStr) = some (L.map aStr) := by
    rw [stretch_eq, Nat.zero_add, List.length_map, Nat.ble_eq_true_of_le (Nat.le_refl _), cond_true, List.drop_zero, List.take_of_length_le (by simp)]
   have hmap : (L.map fun b => (⟨⟨b⟩⟩ : ByteArray)).map (·.data.toList) = L := by
    rw [List.map_map]; exact (List.map_congr_left fun b _ => rfl).trans (List.map_id L)
   have hm : maxRoom = 140737488355328 := by decide
   unfold joinP
   simp only [h1, hst, mapO_strC, hmap, List.length_map]
   have h3 : (Lib.join L sep).length ≤ 4294967280 := h3
   rw [Nat.ble_eq_true_of_le (by omega), Nat.ble_eq_true_of_le (by omega)]
   rfl
 ·cases hs
end
end Go.Proofs.Rd
namespace Go.Proofs.Rd
open Go Go.Ef
noncomputable section
def lowB (c : UInt8) : UInt8 := if 65 ≤ c ∧ c ≤ 90 then c + 32 else c
def upB (c : UInt8) : UInt8 := if 97 ≤ c ∧ c ≤ 122 then c - 32 else c
def tabOf (f : UInt8 → UInt8) : List UInt8 := (List.range 256).map fun i => f (UInt8.ofNat i)
def locA : AV := .agg [aStr [112, 111, 115, 105, 120], .sl ((List.range 256).map fun (i : Nat) => [AV.sc (.int .i64 i)]) 0, aStr (tabOf lowB), aStr (tabOf upB), nilA, nilA]
def wEls : List (List AV) := lk ((List.range 256).map fun (i : Nat) => [AV.sc (.int .i64 i)])
def wLow : List UInt8 := lk (tabOf lowB)
def wUp : List UInt8 := lk (tabOf upB)
def locL : AV := .agg [aStr [112, 111, 115, 105, 120], .sl wEls 0, aStr wLow, aStr wUp, nilA, nilA]
theorem locL_eq : locL = locA := by unfold locL locA wEls wLow wUp; rw [lk_eq, lk_eq, lk_eq]
def eqL {α : Type} (f : α → α → Bool) : List α → List α → Bool
 | [], [] => true
 | a :: l, b :: m => f a b && eqL f l m
 | _, _ => false
def eqV : Value → Value → Bool
 | .int k m, .int k' n => decide (k = k') && decide (m = n)
 | .string a, .string b => sameL a.data.toList b.data.toList
 | .bool a, .bool b => decide (a = b)
 | .slice none 0 0, .slice none 0 0 => true
 | _, _ => false
def eqA : Nat → AV → AV → Bool
 | 0, _, _ => false
 | n + 1, a, b => match a, b with
  | .sc u, .sc v => eqV u v
  | .sl x t, .sl y t' => Nat.beq t t' && eqL (eqL (eqA n)) x y
  | .agg x, .agg y => eqL (eqA n) x y
  | .tup x, .tup y => eqL (eqA n) x y
  | _, _ => false
theorem eqL_spec {α : Type} {f : α → α → Bool} (hf : ∀ a b, f a b = true → a = b) : ∀ l m : List α, eqL f l m = true → l = m := by
 intro l
 induction l with
 | nil => intro m h; cases m with
  | nil => rfl
  | cons _ _ => cases h
 | cons a l ih => intro m h; cases m with
  | nil => cases h
  | cons b m =>
   simp only [eqL, Bool.and_eq_true] at h
   rw [hf a b h.1, ih m h.2]
theorem eqV_spec {u v : Value} (h : eqV u v = true) : u = v := by
 unfold eqV at h
 split at h
 ·simp only [Bool.and_eq_true, decide_eq_true_eq] at h
  rw [h.1, h.2]
 ·rename_i a b
  obtain ⟨⟨a⟩⟩ := a
  obtain ⟨⟨b⟩⟩ := b
  rw [sameL_eq] at h
  have := of_decide_eq_true h
  simp only at this
  rw [this]
 ·rw [of_decide_eq_true h]
 ·rfl
 ·cases h
theorem eqA_spec : ∀ n a b, eqA n a b = true → a = b := by
 intro n
 induction n with
 | zero => intro a b h; cases h
 | succ n ih =>
  intro a b h
  unfold eqA at h
  split at h
  ·rw [eqV_spec h]
  ·simp only [Bool.and_eq_true] at h
   rw [Nat.eq_of_beq_eq_true h.1, eqL_spec (eqL_spec ih) _ _ h.2]
  ·rw [eqL_spec ih _ _ h]
  ·rw [eqL_spec ih _ _ h]
  ·cases h
def evIs (m : Int) (g : FuncId) (args : List AV) (v : AV) : Bool :=
 match callP (cf m) (evCall (cf m) Tryz.prog 1000) g args heapF with
 | some (r, _) => eqA 6 r v
 | none => false
def C22 (args : List AV) (h : Heap) : Option CSpec :=
 match args with
 | [] => some (fspec True locL h)
 | _ => none
def putL (L : List (List UInt8)) (k : Nat) (t : List UInt8) : List (List UInt8) := (L ++ List.replicate (k - L.length) []).set (k - 1) t
inductive Before : AV → List (List UInt8) → Prop where
 | nil : Before nilA []
 | sl (L : List (List UInt8)) (tok : Nat) : Before (.sl (L.map strEl) tok) L
structure Changed (b : AV) (els : List (List AV)) (k : Int) (t : List UInt8) : Prop where
 is : ∃ (L : List (List UInt8)) (j : Nat), Before b L ∧ k = j ∧ 1 ≤ j ∧ els = (putL L j t).map strEl ∧ L.length ≤ 1024 ∧ j ≤ 1024
end
end Go.Proofs.Rd
namespace Go.Proofs.Rd
open Go Go.Ef
noncomputable section
set_option maxRecDepth 100000
variable {m : Int} {T : Tab}
theorem ev22 (m : Int) : evIs m 22 [] locA = true := by kernel_rfl
theorem ok22 (O : Ok m T) : Ok m (T.addC 22 C22) := by
 refine addC_ok O fun args h s hs _ => ?_
 unfold C22 at hs
 split at hs
 ·cases hs
  refine ⟨_, List.mem_singleton.2 rfl, (), 1000, trivial, ?_⟩
  show callP (cf m) (evCall (cf m) Tryz.prog 1000) 22 [] h = some (locL, h)
  rw [locL_eq]
  have hf : (cf m).fresh 22 = true := by kernel_rfl
  have hp : (cf m).prim 22 = none := by kernel_rfl
  have hv := ev22 m
  unfold evIs at hv
  unfold callP at hv ⊢
  rw [hp] at hv ⊢
  simp only [] at hv ⊢
  rw [hf] at hv ⊢
  simp only [cond_true] at hv ⊢
  cases ha : mapO (stripA 8) ([] : List AV) with
  | none => rw [ha] at hv; cases hv
  | some args' =>
   rw [ha] at hv
   simp only [] at hv ⊢
   cases hr : evCall (cf m) Tryz.prog 1000 22 args' heapF with
   | none => rw [hr] at hv; cases hv
   | some r =>
    obtain ⟨r, h'⟩ := r
    rw [hr] at hv
    simp only [] at hv ⊢
    cases hs : strip 8 h' r with
    | none => rw [hs] at hv; cases hv
    | some r' =>
     rw [hs] at hv
     simp only [] at hv ⊢
     rw [eqA_spec _ _ _ hv]
 ·cases hs
end
end Go.Proofs.Rd
namespace Go.Proofs.Rd
open Go Go.Ef
noncomputable section
set_option maxRecDepth 100000
theorem join_cons2 {x : List UInt8} {P : List (List UInt8)} (h : P ≠ []) (t : List UInt8) : Lib.join (x :: P) t = x ++ t ++ Lib.join P t := by
 cases P with
 | nil => exact absurd rfl h
 | cons p r =>
  rw [Lib.join_cons, Lib.join_cons]
  simp [Lib.joinTail]
theorem join_bound {M : List (List UInt8)} {t : List UInt8} {b : Nat} (h : ∀ x ∈ M, x.length ≤ b) : (Lib.join M t).length ≤ M.length * (b + t.length) := by
 induction M with
 | nil => simp [Lib.join_nil]
 | cons x r ih =>
  have h1 := h x (List.mem_cons_self ..)
  by_cases hr : r = []
  ·subst hr; rw [Lib.join_one]; simp; omega
  ·rw [join_cons2 hr]
   have := ih fun y hy => h y (List.mem_cons_of_mem _ hy)
   simp only [List.length_append, List.length_cons, Nat.add_mul, Nat.one_mul]
   omega
theorem flat_str (L : List (List UInt8)) {n : Nat} (h : L.length ≤ n) : flatC (L.map strEl) n = L.map aStr := by
 unfold flatC
 rw [List.take_of_length_le (by simpa using h)]
 induction L with
 | nil => rfl
 | cons a L ih =>
  rw [List.map_cons, List.flatten_cons, ih (by simp at h; omega)]; rfl
theorem all_len1 (L : List (List UInt8)) : (L.map strEl).all (fun (e : List AV) => e.length.beq 1) = true := by
 rw [List.all_map]
 exact List.all_eq_true.2 fun _ _ => rfl
end
end Go.Proofs.Rd
namespace Go.Proofs.Rd
open Go Go.Ef
noncomputable section
def cellsAt (id : Nat) (h : Heap) : List AV :=
 match h.get id with
 | some (.cells cs) => cs
 | _ => []
def hP4 (k : Nat) (l a b r1 : Tr AObj) (v v1 : Option AObj) (ty : Tr (Nat × Nat)) (cs : List AV) : Heap := ⟨k + 5, .node l v (.node (.node a (some (.cells cs)) b) v1 r1), 0, ty⟩
def hP6 (k : Nat) (l l1 a b : Tr AObj) (v v1 : Option AObj) (ty : Tr (Nat × Nat)) (cs : List AV) : Heap := ⟨k + 7, .node l v (.node l1 v1 (.node a (some (.cells cs)) b)), 0, ty⟩
def hP7 (k : Nat) (a b r3 r2 r1 : Tr AObj) (v3 v2 v1 : Option AObj) (ty : Tr (Nat × Nat)) (cs : List AV) : Heap := ⟨k + 8, .node (.node (.node (.node a (some (.cells cs)) b) v3 r3) v2 r2) v1 r1, 0, ty⟩
def I7a (n size : Int) (w : Nat) (i : Int) (h : Heap) : St := stOf 148 [(0, sInt n), (1, sInt size), (5, .v (.ptr 3 0)), (7, rwS 4 w), (8, sInt i)] [] h
def E7a (n size : Int) (w : Nat) (h : Heap) : St := stOf 148 [(0, sInt n), (1, sInt size), (5, .v (.ptr 3 0)), (7, rwS 4 w)] [] h
def q7a (n size : Int) (w : Nat) (h : Heap) (X : Prop) (e : Ex) (τ : St) : Prop :=
 match e with
 | .exit _ => e = .exit 0 ∧ τ = E7a n size w h ∧ X
 | _ => False
def I7b (size : Int) (id w : Nat) (i : Int) (h : Heap) : St := stOf 148 [(1, sInt size), (5, .v (.ptr 3 0)), (12, rwS id w), (13, sInt i)] [] h
def E7b (size : Int) (id w : Nat) (h : Heap) : St := stOf 148 [(1, sInt size), (5, .v (.ptr 3 0)), (12, rwS id w)] [] h
def q7b (size : Int) (id w : Nat) (h : Heap) (X : Prop) (e : Ex) (τ : St) : Prop :=
 match e with
 | .exit _ => e = .exit 2 ∧ τ = E7b size id w h ∧ X
 | _ => False
def T7z : Tab := { tab0 with sym := fun f => Nat.beq f 7, lazy := fun f => Nat.beq f 7 }
end
end Go.Proofs.Rd
namespace Go.Proofs.Rd
open Go Go.Ef
noncomputable section
set_option maxRecDepth 100000
theorem v7a (m : Int) (n : Int) (size : Int) (w : Nat) (i : Int) (k : Nat) (l : Tr AObj) (a : Tr AObj) (b : Tr AObj) (r1 : Tr AObj) (v : Option AObj) (v1 : Option AObj) (ty : Tr (Nat × Nat)) (cs : List AV) (N : List AV → Int → Prop) (X : Prop) (h :
 iteP (decide (i < n))
 (iteP (inRange i w)
 (iteP (ltLen ((0 : Nat) + i.toNat * (1 : Nat)) cs)
 (I7a n size w (IntKind.i64.wrap (i + (1 : Int)))
 (Heap.mk (k + (5 : Nat))
 (l.node v
 ((a.node
 (some
 (AObj.cells
 (setC cs ((0 : Nat) + i.toNat * (1 : Nat)) (AV.sc (Value.int IntKind.u8 (58 : Int))))))
 b).node
 v1 r1))
 (0 : Nat) ty) =
 I7a n size w (IntKind.i64.wrap (i + (1 : Int)))
 (Heap.mk (k + (5 : Nat))
 (l.node v
 ((a.node
 (some
 (AObj.cells
 (setC cs ((0 : Nat) + i.toNat * (1 : Nat)) (AV.sc (Value.int IntKind.u8 (58 : Int))))))
 b).node
 v1 r1))
 (0 : Nat) ty) ∧
 N (setC cs ((0 : Nat) + i.toNat * (1 : Nat)) (AV.sc (Value.int IntKind.u8 (58 : Int))))
 (IntKind.i64.wrap (i + (1 : Int))))
 False)
 False)
 (Ex.exit (0 : Nat) = Ex.exit (0 : Nat) ∧
 E7a n size w (Heap.mk (k + (5 : Nat)) (l.node v ((a.node (some (AObj.cells cs)) b).node v1 r1)) (0 : Nat) ty) =
 E7a n size w (Heap.mk (k + (5 : Nat)) (l.node v ((a.node (some (AObj.cells cs)) b).node v1 r1)) (0 : Nat) ty) ∧
 X)) :
 (fun (m : Int) (n size : Int) (w : Nat) (i : Int) (k : Nat) (l a b r1 : Tr AObj) (v v1 : Option AObj) (ty : Tr (Nat × Nat)) (cs : List AV) (N : List AV → Int → Prop) (X : Prop) => wpRound T7z (cf m) Tryz.prog 40 7 9 (I7a n size w i (hP4 k l a b r1 v v1 ty cs)) (fun τ => τ = I7a n size w (slI τ 8) (hP4 k l a b r1 v v1 ty (cellsAt 4 τ.h)) ∧ N (cellsAt 4 τ.h) (slI τ 8)) (q7a n size w (hP4 k l a b r1 v v1 ty cs) X)) m n size w i k l a b r1 v v1 ty cs N X :=
 Eq.mp (by kernel_rfl) h
theorem v7b7 (m : Int) (size : Int) (w : Nat) (i : Int) (k : Nat) (a : Tr AObj) (b : Tr AObj) (r3 : Tr AObj) (r2 : Tr AObj) (r1 : Tr AObj) (v3 : Option AObj) (v2 : Option AObj) (v1 : Option AObj) (ty : Tr (Nat × Nat)) (cs : List AV) (N : List AV → Int → Prop) (X : Prop) (h :
 iteP (decide (i < size))
 (iteP (inRange i w)
 (iteP (ltLen ((0 : Nat) + i.toNat * (1 : Nat)) cs)
 (I7b size (7 : Nat) w (IntKind.i64.wrap (i + (1 : Int)))
 (Heap.mk (k + (8 : Nat))
 ((((a.node
 (some
 (AObj.cells
 (setC cs ((0 : Nat) + i.toNat * (1 : Nat)) (AV.sc (Value.int IntKind.u8 (120 : Int))))))
 b).node
 v3 r3).node
 v2 r2).node
 v1 r1)
 (0 : Nat) ty) =
 I7b size (7 : Nat) w (IntKind.i64.wrap (i + (1 : Int)))
 (Heap.mk (k + (8 : Nat))
 ((((a.node
 (some
 (AObj.cells
 (setC cs ((0 : Nat) + i.toNat * (1 : Nat)) (AV.sc (Value.int IntKind.u8 (120 : Int))))))
 b).node
 v3 r3).node
 v2 r2).node
 v1 r1)
 (0 : Nat) ty) ∧
 N (setC cs ((0 : Nat) + i.toNat * (1 : Nat)) (AV.sc (Value.int IntKind.u8 (120 : Int))))
 (IntKind.i64.wrap (i + (1 : Int))))
 False)
 False)
 (Ex.exit (2 : Nat) = Ex.exit (2 : Nat) ∧
 E7b size (7 : Nat) w
 (Heap.mk (k + (8 : Nat)) ((((a.node (some (AObj.cells cs)) b).node v3 r3).node v2 r2).node v1 r1) (0 : Nat)
 ty) =
 E7b size (7 : Nat) w
 (Heap.mk (k + (8 : Nat)) ((((a.node (some (AObj.cells cs)) b).node v3 r3).node v2 r2).node v1 r1) (0 : Nat)
 ty) ∧
 X)) :
 (fun (m : Int) (size : Int) (w : Nat) (i : Int) (k : Nat) (a b r3 r2 r1 : Tr AObj) (v3 v2 v1 : Option AObj) (ty : Tr (Nat × Nat)) (cs : List AV) (N : List AV → Int → Prop) (X : Prop) => wpRound T7z (cf m) Tryz.prog 40 7 24 (I7b size 7 w i (hP7 k a b r3 r2 r1 v3 v2 v1 ty cs)) (fun τ => τ = I7b size 7 w (slI τ 13) (hP7 k a b r3 r2 r1 v3 v2 v1 ty (cellsAt 7 τ.h)) ∧ N (cellsAt 7 τ.h) (slI τ 13)) (q7b size 7 w (hP7 k a b r3 r2 r1 v3 v2 v1 ty cs) X)) m size w i k a b r3 r2 r1 v3 v2 v1 ty cs N X :=
 Eq.mp (by kernel_rfl) h
end
end Go.Proofs.Rd
namespace Go.Proofs.Rd
open Go Go.Ef
noncomputable section
set_option maxRecDepth 100000
variable {m : Int} {T : Tab}
def bC (c : Int) : AV := .sc (.int .u8 c)
def fillB (n : Nat) (c : Int) (i : Nat) : List AV := List.replicate i (bC c) ++ List.replicate (n - i) (bC 0)
theorem fill_len {n i : Nat} {c : Int} (h : i ≤ n) : (fillB n c i).length = n := by simp [fillB]; omega
theorem fill_set {n i : Nat} {c : Int} (h : i < n) : setC (fillB n c i) i (bC c) = fillB n c (i + 1) := by
 unfold setC fillB
 rw [List.set_append_right _ _ (by simp), List.length_replicate, Nat.sub_self, show n - i = (n - (i + 1)) + 1 by omega, List.replicate_succ, List.set_cons_zero, List.replicate_succ', List.append_assoc]
 rfl
theorem fill_lt {n i : Nat} {c : Int} (h : i < n) : ltLen i (fillB n c i) = true := by
 unfold ltLen
 rw [fill_len (Nat.le_of_lt h)]
 exact Nat.ble_eq_true_of_le h
theorem hP4_of {h : Heap} {cs : List AV} (hro : h.ro = 0) (hg : h.get 4 = some (.cells cs)) : ∃ k l a b r1 v v1 ty, h = hP4 k l a b r1 v v1 ty cs := by
 obtain ⟨nx, ob, ro, ty⟩ := h
 have hro : ro = 0 := hro
 subst hro
 have hb : Nat.blt 4 nx = true := by
  cases hb : Nat.blt 4 nx with
  | true => rfl
  | false => simp only [Heap.get, hb, cond_false] at hg; cases hg
 have hn : 5 ≤ nx := Nat.le_of_ble_eq_true hb
 have h2 : ob.get 4 = some (.cells cs) := by
  simp only [Heap.get, hb, cond_true] at hg; exact hg
 obtain ⟨k, rfl⟩ : ∃ k, nx = k + 5 := ⟨nx - 5, by omega⟩
 cases ob with
 | leaf => cases h2
 | node l v r =>
  have h3 : r.get 1 = some (.cells cs) := h2
  cases r with
  | leaf => cases h3
  | node r v1 r1 =>
   have h4 : r.get 0 = some (.cells cs) := h3
   cases r with
   | leaf => cases h4
   | node a u b =>
    have h5 : u = some (.cells cs) := h4
    subst h5
    exact ⟨k, l, a, b, r1, v, v1, ty, rfl⟩
theorem hP7_of {h : Heap} {cs : List AV} (hro : h.ro = 0) (hg : h.get 7 = some (.cells cs)) : ∃ k a b r3 r2 r1 v3 v2 v1 ty, h = hP7 k a b r3 r2 r1 v3 v2 v1 ty cs := by
 obtain ⟨nx, ob, ro, ty⟩ := h
 have hro : ro = 0 := hro
 subst hro
 have hb : Nat.blt 7 nx = true := by
  cases hb : Nat.blt 7 nx with
  | true => rfl
  | false => simp only [Heap.get, hb, cond_false] at hg; cases hg
 have hn : 8 ≤ nx := Nat.le_of_ble_eq_true hb
 have h2 : ob.get 7 = some (.cells cs) := by
  simp only [Heap.get, hb, cond_true] at hg; exact hg
 obtain ⟨k, rfl⟩ : ∃ k, nx = k + 8 := ⟨nx - 8, by omega⟩
 cases ob with
 | leaf => cases h2
 | node l v1 r1 =>
  have h3 : l.get 3 = some (.cells cs) := h2
  cases l with
  | leaf => cases h3
  | node l v2 r2 =>
   have h4 : l.get 1 = some (.cells cs) := h3
   cases l with
   | leaf => cases h4
   | node l v3 r3 =>
    have h5 : l.get 0 = some (.cells cs) := h4
    cases l with
    | leaf => cases h5
    | node a u b =>
     have h6 : u = some (.cells cs) := h5
     subst h6
     exact ⟨k, a, b, r3, r2, r1, v3, v2, v1, ty, rfl⟩
def putH (h : Heap) (id : Nat) (cs : List AV) : Heap :=
 match h.put id (.cells cs) with
 | some h' => h'
 | none => h
theorem ok7z : Ok m T7z := ⟨fun _ _ _ _ _ ht => (by cases ht), fun _ _ _ _ _ ht => (by cases ht)⟩
theorem loop7a (m : Int) (n : Nat) (size : Int) (k : Nat) (l a b r1 : Tr AObj) (v v1 : Option AObj) (ty : Tr (Nat × Nat)) (hn : n ≤ 70000) : ∀ (f i : Nat), n - i = f → i ≤ n →
  Ev (cf m) Tryz.prog 7 (.loop (loopAt Tryz.prog 7 9)) (I7a n size n i (hP4 k l a b r1 v v1 ty (fillB n 58 i))) fun e τ => e = .exit 0 ∧ τ = E7a n size n (hP4 k l a b r1 v v1 ty (List.replicate n (bC 58))) := by
 have can : ∀ (i : Nat) (h : Heap), (I7a n size n i h).tidy [0, 1, 5, 7, 8] 0 = I7a n size n i h := fun i h => by kernel_rfl
 intro f
 induction f with
 | zero =>
  intro i hf hi
  have hi : i = n := by omega
  refine Ev.round (t := ⟨[0, 1, 5, 7, 8], [0, 1, 5, 7], 0⟩) ok7z (by kernel_rfl) rfl (can i _) (v7a m n size n i k l a b r1 v v1 ty _ (fun _ _ => False) True ?_) (fun τ h => h.2.elim) (fun e τ h => ?_)
  ·rw [decide_eq_false (by omega), iteP_f]
   exact ⟨rfl, rfl, trivial⟩
  ·unfold q7a at h
   split at h
   ·obtain ⟨h1, h2, _⟩ := h
    refine ⟨h1, ?_⟩
    rw [h2, hi]
    unfold fillB
    rw [Nat.sub_self, List.replicate_zero, List.append_nil]
   ·exact h.elim
 | succ f ih =>
  intro i hf hi
  have hlt : i < n := by omega
  have hw : IntKind.i64.wrap ((i : Int) + 1) = ((i + 1 : Nat) : Int) := by rw [wrap_in (by omega) (by omega)]; rfl
  refine Ev.round (t := ⟨[0, 1, 5, 7, 8], [0, 1, 5, 7], 0⟩) ok7z (by kernel_rfl) rfl (can i _) (v7a m n size n i k l a b r1 v v1 ty _ (fun cs j => cs = fillB n 58 (i + 1) ∧ j = ((i + 1 : Nat) : Int)) False ?_) (fun τ h => ?_) (fun e τ h => ?_)
  ·rw [Int.toNat_natCast, Nat.zero_add, Nat.mul_one, hw, decide_eq_true (by omega), iteP_t, show inRange (i : Int) n = true by rw [inRange_iff]; omega, iteP_t, fill_lt hlt, iteP_t]
   exact ⟨rfl, fill_set hlt, rfl⟩
  ·obtain ⟨h1, h2, h3⟩ := h
   rw [h2, h3] at h1
   rw [h1]
   exact ih (i + 1) (by omega) (by omega)
  ·unfold q7a at h
   split at h
   ·exact h.2.2.elim
   ·exact h.elim
theorem loop7b (m : Int) (n : Nat) (k : Nat) (a b r3 r2 r1 : Tr AObj) (v3 v2 v1 : Option AObj) (ty : Tr (Nat × Nat)) (hn : n ≤ 70000) : ∀ (f i : Nat), n - i = f → i ≤ n →
  Ev (cf m) Tryz.prog 7 (.loop (loopAt Tryz.prog 7 24)) (I7b n 7 n i (hP7 k a b r3 r2 r1 v3 v2 v1 ty (fillB n 120 i))) fun e τ => e = .exit 2 ∧ τ = E7b n 7 n (hP7 k a b r3 r2 r1 v3 v2 v1 ty (List.replicate n (bC 120))) := by
 have can : ∀ (i : Nat) (h : Heap), (I7b n 7 n i h).tidy [1, 5, 12, 13] 0 = I7b n 7 n i h := fun i h => by kernel_rfl
 intro f
 induction f with
 | zero =>
  intro i hf hi
  have hi : i = n := by omega
  refine Ev.round (t := ⟨[1, 5, 12, 13], [1, 5, 12], 0⟩) ok7z (by kernel_rfl) rfl (can i _) (v7b7 m n n i k a b r3 r2 r1 v3 v2 v1 ty _ (fun _ _ => False) True ?_) (fun τ h => h.2.elim) (fun e τ h => ?_)
  ·rw [decide_eq_false (by omega), iteP_f]
   exact ⟨rfl, rfl, trivial⟩
  ·unfold q7b at h
   split at h
   ·obtain ⟨h1, h2, _⟩ := h
    refine ⟨h1, ?_⟩
    rw [h2, hi]
    unfold fillB
    rw [Nat.sub_self, List.replicate_zero, List.append_nil]
   ·exact h.elim
 | succ f ih =>
  intro i hf hi
  have hlt : i < n := by omega
  have hw : IntKind.i64.wrap ((i : Int) + 1) = ((i + 1 : Nat) : Int) := by rw [wrap_in (by omega) (by omega)]; rfl
  refine Ev.round (t := ⟨[1, 5, 12, 13], [1, 5, 12], 0⟩) ok7z (by kernel_rfl) rfl (can i _) (v7b7 m n n i k a b r3 r2 r1 v3 v2 v1 ty _ (fun cs j => cs = fillB n 120 (i + 1) ∧ j = ((i + 1 : Nat) : Int)) False ?_) (fun τ h => ?_) (fun e τ h => ?_)
  ·rw [Int.toNat_natCast, Nat.zero_add, Nat.mul_one, hw, decide_eq_true (by omega), iteP_t, show inRange (i : Int) n = true by rw [inRange_iff]; omega, iteP_t, fill_lt hlt, iteP_t]
   exact ⟨rfl, fill_set hlt, rfl⟩
  ·obtain ⟨h1, h2, h3⟩ := h
   rw [h2, h3] at h1
   rw [h1]
   exact ih (i + 1) (by omega) (by omega)
  ·unfold q7b at h
   split at h
   ·exact h.2.2.elim
   ·exact h.elim
end
end Go.Proofs.Rd
namespace Go.Proofs.Rd
open Go Go.Ef
noncomputable section
def R49 (id n : Nat) (h : Heap) : St := stOf 44 [(0, .v (.ptr 3 0)), (1, rwS id n), (4, sInt 3)] [] h
def q49e (id n : Nat) (h : Heap) (X Y : Prop) (e : Ex) (τ : St) : Prop :=
 match e with
 | .exit _ => e = .exit 0 ∧ τ = E49 id n h ∧ X
 | .ret => τ = R49 id n h ∧ Y
 | _ => False
structure WholeE (h : Heap) (id n : Nat) : Prop where
 is : ∃ (L : List (List UInt8)) (c : UInt8) (out whole : List UInt8) (f : AV), h.get id = some (.cells (L.map aStr)) ∧ n = L.length ∧ h.get 3 = some (.cells (recC c out whole f)) ∧ (Lib.join L out).length ≤ 1000000 ∧ L.length ≤ 70000
structure Fits (h : Heap) (id : Nat) : Prop where
 is : ∀ (L : List (List UInt8)) (c : UInt8) (out whole : List UInt8) (f : AV), h.get id = some (.cells (L.map aStr)) → h.get 3 = some (.cells (recC c out whole f)) → (Lib.join L out).length ≤ 65536
structure Over (h : Heap) (id : Nat) : Prop where
 is : ∀ (L : List (List UInt8)) (c : UInt8) (out whole : List UInt8) (f : AV), h.get id = some (.cells (L.map aStr)) → h.get 3 = some (.cells (recC c out whole f)) → 65536 < (Lib.join L out).length
def L49e (σ : St) : Option LSpec := some { pre := σ.tidy [0, 1, 5, 8, 9, 10] 0 = I49 (rwId σ 1) (rwN σ 1) 0 0 σ.h ∧ WholeE σ.h (rwId σ 1) (rwN σ 1), alts := [{ α := Unit, post := fun _ => Fits σ.h (rwId σ 1), ex := .exit 0, st := fun _ => E49 (rwId σ 1) (rwN σ 1) σ.h }, { α := Unit, post := fun _ => Over σ.h (rwId σ 1), ex := .ret, st := fun _ => R49 (rwId σ 1) (rwN σ 1) σ.h }] }
end
end Go.Proofs.Rd
namespace Go.Proofs.Rd
open Go Go.Ef
noncomputable section
set_option maxRecDepth 100000
theorem v49e (m : Int) (id : Nat) (n : Nat) (acc : Int) (i : Int) (H : Heap) (N : Int → Int → Prop) (X : Prop) (Y : Prop) (h :
 iteP (decide (i < (↑n : Int)))
 (iteP (inRange i n)
 (iteP (hasStr H id ((0 : Nat) + i.toNat * (1 : Nat)))
 (iteP (decide ((0 : Int) < i))
 (iteP (hasStr H (3 : Nat) (13 : Nat))
 (iteP
 (decide
 ((65536 : Int) <
 IntKind.i64.wrap
 (IntKind.i64.wrap (acc + (↑(strIn H id ((0 : Nat) + i.toNat * (1 : Nat))).length : Int)) +
 (↑(strIn H (3 : Nat) (13 : Nat)).length : Int))))
 (R49 id n H = R49 id n H ∧ Y)
 (I49 id n
 (IntKind.i64.wrap
 (IntKind.i64.wrap (acc + (↑(strIn H id ((0 : Nat) + i.toNat * (1 : Nat))).length : Int)) +
 (↑(strIn H (3 : Nat) (13 : Nat)).length : Int)))
 (IntKind.i64.wrap (i + (1 : Int))) H =
 I49 id n
 (IntKind.i64.wrap
 (IntKind.i64.wrap (acc + (↑(strIn H id ((0 : Nat) + i.toNat * (1 : Nat))).length : Int)) +
 (↑(strIn H (3 : Nat) (13 : Nat)).length : Int)))
 (IntKind.i64.wrap (i + (1 : Int))) H ∧
 N
 (IntKind.i64.wrap
 (IntKind.i64.wrap (acc + (↑(strIn H id ((0 : Nat) + i.toNat * (1 : Nat))).length : Int)) +
 (↑(strIn H (3 : Nat) (13 : Nat)).length : Int)))
 (IntKind.i64.wrap (i + (1 : Int)))))
 False)
 (iteP
 (decide
 ((65536 : Int) < IntKind.i64.wrap (acc + (↑(strIn H id ((0 : Nat) + i.toNat * (1 : Nat))).length : Int))))
 (R49 id n H = R49 id n H ∧ Y)
 (I49 id n (IntKind.i64.wrap (acc + (↑(strIn H id ((0 : Nat) + i.toNat * (1 : Nat))).length : Int)))
 (IntKind.i64.wrap (i + (1 : Int))) H =
 I49 id n (IntKind.i64.wrap (acc + (↑(strIn H id ((0 : Nat) + i.toNat * (1 : Nat))).length : Int)))
 (IntKind.i64.wrap (i + (1 : Int))) H ∧
 N (IntKind.i64.wrap (acc + (↑(strIn H id ((0 : Nat) + i.toNat * (1 : Nat))).length : Int)))
 (IntKind.i64.wrap (i + (1 : Int))))))
 False)
 False)
 (Ex.exit (0 : Nat) = Ex.exit (0 : Nat) ∧ E49 id n H = E49 id n H ∧ X)) :
 (fun (m : Int) (id n : Nat) (acc i : Int) (H : Heap) (N : Int → Int → Prop) (X Y : Prop) => wpRound T49z (cf m) Tryz.prog 40 49 4 (I49 id n acc i H) (fun τ => τ = I49 id n (slI τ 5) (slI τ 10) H ∧ N (slI τ 5) (slI τ 10)) (q49e id n H X Y)) m id n acc i H N X Y :=
 Eq.mp (by kernel_rfl) h
end
end Go.Proofs.Rd
namespace Go.Proofs.Rd
open Go Go.Ef
noncomputable section
set_option maxRecDepth 100000
variable {m : Int} {T : Tab}
theorem loop49e (m : Int) (H : Heap) (id : Nat) (L : List (List UInt8)) (c : UInt8) (out whole : List UInt8) (f : AV) (hg : H.get id = some (.cells (L.map aStr))) (hr : H.get 3 = some (.cells (recC c out whole f)))
  (hl : (Lib.join L out).length ≤ 1000000) (hn : L.length ≤ 70000) : ∀ (k i : Nat), L.length - i = k → i ≤ L.length → (Lib.join (L.take i) out).length ≤ 65536 →
  Ev (cf m) Tryz.prog 49 (.loop (loopAt Tryz.prog 49 4)) (I49 id L.length (Lib.join (L.take i) out).length i H) fun e τ => ((Lib.join L out).length ≤ 65536 ∧ e = .exit 0 ∧ τ = E49 id L.length H) ∨ (65536 < (Lib.join L out).length ∧ e = .ret ∧ τ = R49 id L.length H) := by
 have can : ∀ (acc : Int) (i : Nat), (I49 id L.length acc i H).tidy [0, 1, 5, 8, 9, 10] 0 = I49 id L.length acc i H := fun acc i => by kernel_rfl
 obtain ⟨o1, o2⟩ := out_str hr
 have outs : ∀ (X Y : Prop), (X → (Lib.join L out).length ≤ 65536) → (Y → 65536 < (Lib.join L out).length) → ∀ e τ, q49e id L.length H X Y e τ → ((Lib.join L out).length ≤ 65536 ∧ e = .exit 0 ∧ τ = E49 id L.length H) ∨ (65536 < (Lib.join L out).length ∧ e = .ret ∧ τ = R49 id L.length H) := by
  intro X Y hX hY e τ h
  unfold q49e at h
  split at h
  ·exact .inl ⟨hX h.2.2, h.1, h.2.1⟩
  ·exact .inr ⟨hY h.2, rfl, h.1⟩
  ·exact h.elim
 intro k
 induction k with
 | zero =>
  intro i hf hi hb
  have hi : i = L.length := by omega
  refine Ev.round (t := ⟨[0, 1, 5, 8, 9, 10], [0, 1, 4], 0⟩) ok49z (by kernel_rfl) rfl (can _ i) (v49e m id L.length _ i H (fun _ _ => False) True False ?_) (fun τ h => h.2.elim) (outs True False (fun _ => ?_) (fun h => h.elim))
  ·rw [decide_eq_false (by omega), iteP_f]
   exact ⟨rfl, rfl, trivial⟩
  ·rw [hi, List.take_length] at hb; exact hb
 | succ k ih =>
  intro i hf hi hb0
  have hlt : i < L.length := by omega
  have hw : IntKind.i64.wrap ((i : Int) + 1) = ((i + 1 : Nat) : Int) := by rw [wrap_in (by omega) (by omega)]; rfl
  obtain ⟨r1, r2⟩ := row_str hg hlt
  have hb := join_le (L := L) (t := out) (i := i + 1)
  refine Ev.round (t := ⟨[0, 1, 5, 8, 9, 10], [0, 1, 4], 0⟩) ok49z (by kernel_rfl) rfl (can _ i) (v49e m id L.length _ i H (fun o j => o = (Lib.join (L.take (i + 1)) out).length ∧ j = ((i + 1 : Nat) : Int) ∧ (Lib.join (L.take (i + 1)) out).length ≤ 65536) False (65536 < (Lib.join L out).length) ?_) (fun τ h => ?_) (outs False _ (fun h => h.elim) (fun h => h))
  ·rw [Int.toNat_natCast, Nat.zero_add, Nat.mul_one, r1, r2, o1, o2, hw, decide_eq_true (by omega), iteP_t, show inRange (i : Int) L.length = true by rw [inRange_iff]; omega, iteP_t, iteP_t]
   by_cases h0 : i = 0
   ·subst h0
    have e : Lib.join (L.take (0 + 1)) out = L[0] := by rw [take_next hlt]; exact Lib.join_one _ _
    have hlen := congrArg List.length e
    have hz : (Lib.join (L.take 0) out).length = 0 := by simp [Lib.join_nil]
    rw [decide_eq_false (by omega), iteP_f, hz, wrap_in (by omega) (by omega)]
    refine iteP_intro (fun hq => ⟨rfl, ?_⟩) (fun hq => ⟨rfl, by omega, rfl, ?_⟩)
    ·have := of_decide_eq_true hq; omega
    ·have := of_decide_eq_false hq; omega
   ·have hne : L.take i ≠ [] := by
     intro e
     have := congrArg List.length e
     rw [List.length_take, List.length_nil] at this; omega
    have e : Lib.join (L.take (i + 1)) out = Lib.join (L.take i) out ++ out ++ L[i] := by rw [take_next hlt, join_snoc hne]
    have hlen := congrArg List.length e
    simp only [List.length_append] at hlen
    rw [decide_eq_true (by omega), iteP_t, iteP_t, wrap_in (x := ((Lib.join (L.take i) out).length : Int) + (L[i].length : Int)) (by omega) (by omega), wrap_in (by omega) (by omega)]
    refine iteP_intro (fun hq => ⟨rfl, ?_⟩) (fun hq => ⟨rfl, by omega, rfl, ?_⟩)
    ·have := of_decide_eq_true hq; omega
    ·have := of_decide_eq_false hq; omega
  ·obtain ⟨h1, h2, h3, h4⟩ := h
   rw [h2, h3] at h1
   rw [h1]
   exact ih (i + 1) (by omega) (by omega) h4
theorem ok49e (O : Ok m T) : Ok m (T.addL 49 4 L49e) := by
 refine addL_ok O fun σ s hs hp => ?_
 cases hs
 obtain ⟨e, L, c, out, whole, f, h1, h2, h3, h4, h5⟩ := hp
 have he : Ev (cf m) Tryz.prog 49 (.loop (loopAt Tryz.prog 49 4)) σ fun e τ => ((Lib.join L out).length ≤ 65536 ∧ e = .exit 0 ∧ τ = E49 (rwId σ 1) (rwN σ 1) σ.h) ∨ (65536 < (Lib.join L out).length ∧ e = .ret ∧ τ = R49 (rwId σ 1) (rwN σ 1) σ.h) := by
  refine Ev.tidied (t := ⟨[0, 1, 5, 8, 9, 10], [0, 1, 4], 0⟩) (τ := I49 (rwId σ 1) L.length (Lib.join (L.take 0) out).length (0 : Nat) σ.h) (by kernel_rfl) (by rw [e, h2]; kernel_rfl) ?_
  rw [h2]
  exact loop49e m σ.h (rwId σ 1) L c out whole f h1 h3 h4 h5 _ 0 rfl (Nat.zero_le _) (by simp [Lib.join_nil])
 have same : ∀ (M : List (List UInt8)) (c' : UInt8) (out' whole' : List UInt8) (f' : AV), σ.h.get (rwId σ 1) = some (.cells (M.map aStr)) → σ.h.get 3 = some (.cells (recC c' out' whole' f')) → L = M ∧ out = out' := by
  intro M c' out' whole' f' g1 g3
  rw [h1] at g1
  rw [h3] at g3
  refine ⟨aStr_inj (by simpa using g1), ?_⟩
  simp only [Option.some.injEq, AObj.cells.injEq, recC, aStr, List.cons.injEq] at g3
  simp_all
 obtain ⟨n, ex, τ, h6, ⟨h7, rfl, rfl⟩ | ⟨h7, rfl, rfl⟩⟩ := he
 ·refine ⟨_, List.mem_cons_self .., (), ⟨fun M c' out' whole' f' g1 g3 => ?_⟩, n, h6⟩
  obtain ⟨rfl, rfl⟩ := same M c' out' whole' f' g1 g3
  exact h7
 ·refine ⟨_, List.mem_cons_of_mem _ (List.mem_cons_self ..), (), ⟨fun M c' out' whole' f' g1 g3 => ?_⟩, n, h6⟩
  obtain ⟨rfl, rfl⟩ := same M c' out' whole' f' g1 g3
  exact h7
end
end Go.Proofs.Rd
namespace Go.Proofs.Rd
open Go Go.Ef
noncomputable section
structure Fill (h : Heap) (id : Nat) (n : Int) (w : Nat) : Prop where
 eq : n = w
 le : w ≤ 70000
 ro : h.ro = 0
 get : h.get id = some (.cells (repC n (bC 0)))
def L7a (σ : St) : Option LSpec :=
 match σ.at 7 with
 | .v (.rsl 4 0 w 1) => some { pre := σ.tidy [0, 1, 5, 7, 8] 0 = I7a (slI σ 0) (slI σ 1) w 0 σ.h ∧ Fill σ.h 4 (slI σ 0) w, alts := [{ α := Unit, post := fun _ => True, ex := .exit 0, st := fun _ => E7a (slI σ 0) (slI σ 1) w (putH σ.h 4 (List.replicate w (bC 58))) }] }
 | _ => none
def L7b (σ : St) : Option LSpec :=
 match σ.at 12 with
 | .v (.rsl 7 0 w 1) => some { pre := σ.tidy [1, 5, 12, 13] 0 = I7b (slI σ 1) 7 w 0 σ.h ∧ Fill σ.h 7 (slI σ 1) w, alts := [{ α := Unit, post := fun _ => True, ex := .exit 2, st := fun _ => E7b (slI σ 1) 7 w (putH σ.h 7 (List.replicate w (bC 120))) }] }
 | _ => none
structure SplOver (x : AV) (s : List UInt8) : Prop where
 is : ∃ c, x = .agg (splC c) ∧ s ≠ [] ∧ c ≠ 32 ∧ 1024 < (partsOf c s).length ∧ s.length ≤ 4294967280
def C48c (args : List AV) (h : Heap) : Option CSpec :=
 match args with
 | [x, .sc (.string s)] => some (fspec (SplOver x s.data.toList) (.tup [nilA, intA 3]) h)
 | _ => none
def ly : Tab := { tab0 with lazy := fun f => Nat.beq f 7 || Nat.beq f 24 || Nat.beq f 25 || Nat.beq f 49 || Nat.beq f 29 || Nat.beq f 26 || Nat.beq f 23, sym := fun f => Nat.beq f 7, symN := fun f => Nat.beq f 7 || Nat.beq f 24 || Nat.beq f 25, symS := fun f d => Nat.beq f 49 && (match d with | some t => Nat.beq t 14 || Nat.beq t 25 | none => false) }
def TA : Tab := (((((ly.addC 20 Rc.C20).addC 22 C22).addC 48 C48c).addC 49 CNo).addL 7 9 L7a).addL 7 24 L7b
theorem okLy {m : Int} : Ok m ly := ⟨fun _ _ _ _ _ ht => (by cases ht), fun _ _ _ _ _ ht => (by cases ht)⟩
theorem ok7a {m : Int} {T : Tab} (O : Ok m T) : Ok m (T.addL 7 9 L7a) := by
 refine addL_ok O fun σ s hs hp => ?_
 unfold L7a at hs
 split at hs
 ·rename_i w hw
  cases hs
  obtain ⟨e, h1, h2, h3, h4⟩ := hp
  obtain ⟨k, l, a, b, r1, v, v1, ty, hh⟩ := hP4_of h3 h4
  have hc : repC (slI σ 0) (bC 0) = fillB w 58 0 := by rw [h1]; unfold repC fillB; rw [Int.toNat_natCast]; simp
  rw [hc] at hh
  have he : Ev (cf m) Tryz.prog 7 (.loop (loopAt Tryz.prog 7 9)) σ fun e τ => e = .exit 0 ∧ τ = E7a (slI σ 0) (slI σ 1) w (putH σ.h 4 (List.replicate w (bC 58))) := by
   refine Ev.tidied (t := ⟨[0, 1, 5, 7, 8], [0, 1, 5, 7], 0⟩) (τ := I7a w (slI σ 1) w (0 : Nat) (hP4 k l a b r1 v v1 ty (fillB w 58 0))) (by kernel_rfl) (by rw [e, h1, hh]; kernel_rfl) ?_
   ·rw [hh, h1]
    exact loop7a m w (slI σ 1) k l a b r1 v v1 ty h2 _ 0 rfl (Nat.zero_le _)
  obtain ⟨n, ex, τ, h6, rfl, rfl⟩ := he
  exact ⟨_, List.mem_singleton.2 rfl, (), trivial, n, h6⟩
 ·cases hs
theorem ok7b {m : Int} {T : Tab} (O : Ok m T) : Ok m (T.addL 7 24 L7b) := by
 refine addL_ok O fun σ s hs hp => ?_
 unfold L7b at hs
 split at hs
 ·rename_i w hw
  cases hs
  obtain ⟨e, h1, h2, h3, h4⟩ := hp
  obtain ⟨k, a, b, r3, r2, r1, v3, v2, v1, ty, hh⟩ := hP7_of h3 h4
  have hc : repC (slI σ 1) (bC 0) = fillB w 120 0 := by rw [h1]; unfold repC fillB; rw [Int.toNat_natCast]; simp
  rw [hc] at hh
  have he : Ev (cf m) Tryz.prog 7 (.loop (loopAt Tryz.prog 7 24)) σ fun e τ => e = .exit 2 ∧ τ = E7b (slI σ 1) 7 w (putH σ.h 7 (List.replicate w (bC 120))) := by
   refine Ev.tidied (t := ⟨[1, 5, 12, 13], [1, 5, 12], 0⟩) (τ := I7b w 7 w (0 : Nat) (hP7 k a b r3 r2 r1 v3 v2 v1 ty (fillB w 120 0))) (by kernel_rfl) (by rw [e, h1, hh]; kernel_rfl) ?_
   ·rw [hh, h1]
    exact loop7b m w k a b r3 r2 r1 v3 v2 v1 ty h2 _ 0 rfl (Nat.zero_le _)
  obtain ⟨n, ex, τ, h6, rfl, rfl⟩ := he
  exact ⟨_, List.mem_singleton.2 rfl, (), trivial, n, h6⟩
 ·cases hs
end
end Go.Proofs.Rd
namespace Go.Proofs.Rd
open Go Go.Ef
noncomputable section
set_option maxRecDepth 100000
theorem c7A (m : Int) (n : Int) (size : Int) (K : AV → Prop) (h :
 iteP (decide (n < (0 : Int))) (True ∧ ∀ (_ : Unit), True → K (AV.sc (Value.bool true)))
 (iteP (decide ((70000 : Int) < n)) (True ∧ ∀ (_ : Unit), True → K (AV.sc (Value.bool true)))
 (iteP (decide (size < (0 : Int))) (True ∧ ∀ (_ : Unit), True → K (AV.sc (Value.bool true)))
 (iteP (decide ((70000 : Int) < size)) (True ∧ ∀ (_ : Unit), True → K (AV.sc (Value.bool true)))
 (True ∧
 ∀ (_ : Unit),
 True →
 iteP
 (decide ((0 : Int) ≤ n) && decide (n ≤ n) && decide (n ≤ (140737488355328 : Int)) &&
 (n.toNat * (1 : Nat)).ble (140737488355328 : Nat))
 (iteP (n.toNat.beq (0 : Nat)) False
 (loopAt Tryz.prog (7 : Nat) (9 : Nat) = loopAt Tryz.prog (7 : Nat) (9 : Nat) ∧
 (I7a n size n.toNat (0 : Int)
 (Heap.mk (5 : Nat)
 (((Tr.leaf.node
 (some
 (AObj.cells
 [AV.sc (Value.string (ByteArray.mk (Array.mk [(58 : UInt8)]))),
 AV.sc (Value.string (ByteArray.mk (Array.mk []))),
 AV.sc (Value.int IntKind.i64 (0 : Int)),
 AV.sc (Value.int IntKind.i64 (0 : Int)),
 AV.sc (Value.int IntKind.i64 (0 : Int)),
 AV.sc (Value.int IntKind.u64 (0 : Int)),
 AV.sc (Value.int IntKind.u64 (0 : Int)),
 AV.sc (Value.int IntKind.u64 (0 : Int)),
 AV.sc (Value.int IntKind.u64 (0 : Int)),
 AV.sc (Value.int IntKind.i64 (0 : Int)),
 AV.sc (Value.int IntKind.i64 (0 : Int)),
 AV.sc (Value.int IntKind.i64 (0 : Int)),
 AV.sc (Value.slice none (0 : Nat) (0 : Nat)),
 AV.sc (Value.string (ByteArray.mk (Array.mk [(44 : UInt8)]))),
 AV.sc (Value.string (ByteArray.mk (Array.mk []))),
 AV.sc (Value.slice none (0 : Nat) (0 : Nat))]))
 Tr.leaf).node
 (some
 (AObj.cells
 [AV.sc
 (Value.string
 (ByteArray.mk
 (Array.mk
 [(112 : UInt8), (111 : UInt8), (115 : UInt8), (105 : UInt8),
 (120 : UInt8)]))),
 AV.sl wEls (0 : Nat), AV.sc (Value.string (ByteArray.mk (Array.mk wLow))),
 AV.sc (Value.string (ByteArray.mk (Array.mk wUp))),
 AV.sc (Value.slice none (0 : Nat) (0 : Nat)),
 AV.sc (Value.slice none (0 : Nat) (0 : Nat))]))
 Tr.leaf).node
 none
 ((Tr.leaf.node (some (AObj.cells (repC n (AV.sc (Value.int IntKind.u8 (0 : Int))))))
 Tr.leaf).node
 (some
 (AObj.cells
 [AV.sc (Value.string (ByteArray.mk (Array.mk [(58 : UInt8)]))),
 AV.sc (Value.string (ByteArray.mk (Array.mk []))),
 AV.sc (Value.int IntKind.i64 (0 : Int)),
 AV.sc (Value.int IntKind.i64 (0 : Int)),
 AV.sc (Value.int IntKind.i64 (0 : Int)),
 AV.sc (Value.int IntKind.u64 (0 : Int)),
 AV.sc (Value.int IntKind.u64 (0 : Int)),
 AV.sc (Value.int IntKind.u64 (0 : Int)),
 AV.sc (Value.int IntKind.u64 (0 : Int)),
 AV.sc (Value.int IntKind.i64 (0 : Int)),
 AV.sc (Value.int IntKind.i64 (0 : Int)),
 AV.sc (Value.int IntKind.i64 (0 : Int)),
 AV.sc (Value.slice none (0 : Nat) (0 : Nat))]))
 Tr.leaf))
 (0 : Nat)
 (((Tr.leaf.node (some ((112 : Nat), (16 : Nat))) Tr.leaf).node
 (some
 ((61 : Nat),
 [AV.sc
 (Value.string
 (ByteArray.mk
 (Array.mk
 [(112 : UInt8), (111 : UInt8), (115 : UInt8), (105 : UInt8),
 (120 : UInt8)]))),
 AV.sl wEls (0 : Nat), AV.sc (Value.string (ByteArray.mk (Array.mk wLow))),
 AV.sc (Value.string (ByteArray.mk (Array.mk wUp))),
 AV.sc (Value.slice none (0 : Nat) (0 : Nat)),
 AV.sc (Value.slice none (0 : Nat) (0 : Nat))].length))
 Tr.leaf).node
 none (Tr.leaf.node (some ((108 : Nat), (13 : Nat))) Tr.leaf))) =
 I7a n size n.toNat (0 : Int)
 (Heap.mk (5 : Nat)
 (((Tr.leaf.node
 (some
 (AObj.cells
 [AV.sc (Value.string (ByteArray.mk (Array.mk [(58 : UInt8)]))),
 AV.sc (Value.string (ByteArray.mk (Array.mk []))),
 AV.sc (Value.int IntKind.i64 (0 : Int)),
 AV.sc (Value.int IntKind.i64 (0 : Int)),
 AV.sc (Value.int IntKind.i64 (0 : Int)),
 AV.sc (Value.int IntKind.u64 (0 : Int)),
 AV.sc (Value.int IntKind.u64 (0 : Int)),
 AV.sc (Value.int IntKind.u64 (0 : Int)),
 AV.sc (Value.int IntKind.u64 (0 : Int)),
 AV.sc (Value.int IntKind.i64 (0 : Int)),
 AV.sc (Value.int IntKind.i64 (0 : Int)),
 AV.sc (Value.int IntKind.i64 (0 : Int)),
 AV.sc (Value.slice none (0 : Nat) (0 : Nat)),
 AV.sc (Value.string (ByteArray.mk (Array.mk [(44 : UInt8)]))),
 AV.sc (Value.string (ByteArray.mk (Array.mk []))),
 AV.sc (Value.slice none (0 : Nat) (0 : Nat))]))
 Tr.leaf).node
 (some
 (AObj.cells
 [AV.sc
 (Value.string
 (ByteArray.mk
 (Array.mk
 [(112 : UInt8), (111 : UInt8), (115 : UInt8), (105 : UInt8),
 (120 : UInt8)]))),
 AV.sl wEls (0 : Nat), AV.sc (Value.string (ByteArray.mk (Array.mk wLow))),
 AV.sc (Value.string (ByteArray.mk (Array.mk wUp))),
 AV.sc (Value.slice none (0 : Nat) (0 : Nat)),
 AV.sc (Value.slice none (0 : Nat) (0 : Nat))]))
 Tr.leaf).node
 none
 ((Tr.leaf.node (some (AObj.cells (repC n (AV.sc (Value.int IntKind.u8 (0 : Int))))))
 Tr.leaf).node
 (some
 (AObj.cells
 [AV.sc (Value.string (ByteArray.mk (Array.mk [(58 : UInt8)]))),
 AV.sc (Value.string (ByteArray.mk (Array.mk []))),
 AV.sc (Value.int IntKind.i64 (0 : Int)),
 AV.sc (Value.int IntKind.i64 (0 : Int)),
 AV.sc (Value.int IntKind.i64 (0 : Int)),
 AV.sc (Value.int IntKind.u64 (0 : Int)),
 AV.sc (Value.int IntKind.u64 (0 : Int)),
 AV.sc (Value.int IntKind.u64 (0 : Int)),
 AV.sc (Value.int IntKind.u64 (0 : Int)),
 AV.sc (Value.int IntKind.i64 (0 : Int)),
 AV.sc (Value.int IntKind.i64 (0 : Int)),
 AV.sc (Value.int IntKind.i64 (0 : Int)),
 AV.sc (Value.slice none (0 : Nat) (0 : Nat))]))
 Tr.leaf))
 (0 : Nat)
 (((Tr.leaf.node (some ((112 : Nat), (16 : Nat))) Tr.leaf).node
 (some
 ((61 : Nat),
 [AV.sc
 (Value.string
 (ByteArray.mk
 (Array.mk
 [(112 : UInt8), (111 : UInt8), (115 : UInt8), (105 : UInt8),
 (120 : UInt8)]))),
 AV.sl wEls (0 : Nat), AV.sc (Value.string (ByteArray.mk (Array.mk wLow))),
 AV.sc (Value.string (ByteArray.mk (Array.mk wUp))),
 AV.sc (Value.slice none (0 : Nat) (0 : Nat)),
 AV.sc (Value.slice none (0 : Nat) (0 : Nat))].length))
 Tr.leaf).node
 none (Tr.leaf.node (some ((108 : Nat), (13 : Nat))) Tr.leaf))) ∧
 Fill
 (Heap.mk (5 : Nat)
 (((Tr.leaf.node
 (some
 (AObj.cells
 [AV.sc (Value.string (ByteArray.mk (Array.mk [(58 : UInt8)]))),
 AV.sc (Value.string (ByteArray.mk (Array.mk []))),
 AV.sc (Value.int IntKind.i64 (0 : Int)),
 AV.sc (Value.int IntKind.i64 (0 : Int)),
 AV.sc (Value.int IntKind.i64 (0 : Int)),
 AV.sc (Value.int IntKind.u64 (0 : Int)),
 AV.sc (Value.int IntKind.u64 (0 : Int)),
 AV.sc (Value.int IntKind.u64 (0 : Int)),
 AV.sc (Value.int IntKind.u64 (0 : Int)),
 AV.sc (Value.int IntKind.i64 (0 : Int)),
 AV.sc (Value.int IntKind.i64 (0 : Int)),
 AV.sc (Value.int IntKind.i64 (0 : Int)),
 AV.sc (Value.slice none (0 : Nat) (0 : Nat)),
 AV.sc (Value.string (ByteArray.mk (Array.mk [(44 : UInt8)]))),
 AV.sc (Value.string (ByteArray.mk (Array.mk []))),
 AV.sc (Value.slice none (0 : Nat) (0 : Nat))]))
 Tr.leaf).node
 (some
 (AObj.cells
 [AV.sc
 (Value.string
 (ByteArray.mk
 (Array.mk
 [(112 : UInt8), (111 : UInt8), (115 : UInt8), (105 : UInt8),
 (120 : UInt8)]))),
 AV.sl wEls (0 : Nat), AV.sc (Value.string (ByteArray.mk (Array.mk wLow))),
 AV.sc (Value.string (ByteArray.mk (Array.mk wUp))),
 AV.sc (Value.slice none (0 : Nat) (0 : Nat)),
 AV.sc (Value.slice none (0 : Nat) (0 : Nat))]))
 Tr.leaf).node
 none
 ((Tr.leaf.node (some (AObj.cells (repC n (AV.sc (Value.int IntKind.u8 (0 : Int))))))
 Tr.leaf).node
 (some
 (AObj.cells
 [AV.sc (Value.string (ByteArray.mk (Array.mk [(58 : UInt8)]))),
 AV.sc (Value.string (ByteArray.mk (Array.mk []))),
 AV.sc (Value.int IntKind.i64 (0 : Int)), AV.sc (Value.int IntKind.i64 (0 : Int)),
 AV.sc (Value.int IntKind.i64 (0 : Int)), AV.sc (Value.int IntKind.u64 (0 : Int)),
 AV.sc (Value.int IntKind.u64 (0 : Int)), AV.sc (Value.int IntKind.u64 (0 : Int)),
 AV.sc (Value.int IntKind.u64 (0 : Int)), AV.sc (Value.int IntKind.i64 (0 : Int)),
 AV.sc (Value.int IntKind.i64 (0 : Int)), AV.sc (Value.int IntKind.i64 (0 : Int)),
 AV.sc (Value.slice none (0 : Nat) (0 : Nat))]))
 Tr.leaf))
 (0 : Nat)
 (((Tr.leaf.node (some ((112 : Nat), (16 : Nat))) Tr.leaf).node
 (some
 ((61 : Nat),
 [AV.sc
 (Value.string
 (ByteArray.mk
 (Array.mk
 [(112 : UInt8), (111 : UInt8), (115 : UInt8), (105 : UInt8),
 (120 : UInt8)]))),
 AV.sl wEls (0 : Nat), AV.sc (Value.string (ByteArray.mk (Array.mk wLow))),
 AV.sc (Value.string (ByteArray.mk (Array.mk wUp))),
 AV.sc (Value.slice none (0 : Nat) (0 : Nat)),
 AV.sc (Value.slice none (0 : Nat) (0 : Nat))].length))
 Tr.leaf).node
 none (Tr.leaf.node (some ((108 : Nat), (13 : Nat))) Tr.leaf)))
 (4 : Nat) n n.toNat) ∧
 ∀ (_ : Unit),
 True →
 iteP (decide ((1024 : Int) ≤ n))
 (iteP
 (endCells ((0 : Nat) + n.toNat)
 (List.replicate n.toNat (AV.sc (Value.int IntKind.u8 (58 : Int)))))
 (iteP
 (decide
 ((65536 : Int) <
 (↑(List.map u8B
 (cutC (List.replicate n.toNat (AV.sc (Value.int IntKind.u8 (58 : Int))))
 (0 : Nat) n.toNat)).length :
 Int)))
 (iteP (decide (n < (0 : Int)))
 (iteP (decide (n < (1 : Int)))
 (iteP (decide ((1024 : Int) < n)) (K (AV.sc (Value.bool false)))
 (K (AV.sc (Value.bool false))))
 (iteP (decide ((1024 : Int) < n))
 (iteP (decide ((1024 : Int) < n)) (K (AV.sc (Value.bool false)))
 (K (AV.sc (Value.bool false))))
 (iteP
 (decide ((0 : Int) ≤ max n (0 : Int)) &&
 decide (max n (0 : Int) ≤ max n (0 : Int)) &&
 decide (max n (0 : Int) ≤ (140737488355328 : Int)) &&
 ((max n (0 : Int)).toNat * (16 : Nat)).ble (140737488355328 : Nat))
 (iteP ((max n (0 : Int)).toNat.beq (0 : Nat))
 (iteP (inRange (IntKind.i64.wrap (n - (1 : Int))) (0 : Nat))
 (none =
 some
 [AV.sc
 (Value.string
 (ByteArray.mk
 (Array.mk
 (cellStr [] (IntKind.i64.wrap (n - (1 : Int)))
 (0 : Nat)))))] ∧
 False)
 False)
 (iteP (inRange (IntKind.i64.wrap (n - (1 : Int))) (max n (0 : Int)).toNat)
 (iteP
 (ltLen ((0 : Nat) + (IntKind.i64.wrap (n - (1 : Int))).toNat * (1 : Nat))
 (repC (max n (0 : Int))
 (AV.sc (Value.string (ByteArray.mk (Array.mk []))))))
 (False ∧
 ∀ (_ : Unit),
 True →
 iteP (decide ((1024 : Int) < n)) (K (AV.sc (Value.bool false)))
 (K (AV.sc (Value.bool false))))
 False)
 False))
 False)))
 (iteP (decide ((1024 : Int) < n))
 (iteP (decide (n < (1 : Int)))
 (iteP (decide ((1024 : Int) < n)) (K (AV.sc (Value.bool false)))
 (K (AV.sc (Value.bool false))))
 (iteP (decide ((1024 : Int) < n))
 (iteP (decide ((1024 : Int) < n))
 (True ∧ ∀ (_ : Unit), True → K (AV.sc (Value.bool true)))
 (K (AV.sc (Value.bool false))))
 (iteP
 (decide ((0 : Int) ≤ max n (0 : Int)) &&
 decide (max n (0 : Int) ≤ max n (0 : Int)) &&
 decide (max n (0 : Int) ≤ (140737488355328 : Int)) &&
 ((max n (0 : Int)).toNat * (16 : Nat)).ble (140737488355328 : Nat))
 (iteP ((max n (0 : Int)).toNat.beq (0 : Nat))
 (iteP (inRange (IntKind.i64.wrap (n - (1 : Int))) (0 : Nat))
 (none =
 some
 [AV.sc
 (Value.string
 (ByteArray.mk
 (Array.mk
 (cellStr [] (IntKind.i64.wrap (n - (1 : Int)))
 (0 : Nat)))))] ∧
 False)
 False)
 (iteP (inRange (IntKind.i64.wrap (n - (1 : Int))) (max n (0 : Int)).toNat)
 (iteP
 (ltLen
 ((0 : Nat) + (IntKind.i64.wrap (n - (1 : Int))).toNat * (1 : Nat))
 (repC (max n (0 : Int))
 (AV.sc (Value.string (ByteArray.mk (Array.mk []))))))
 (False ∧
 ∀ (_ : Unit),
 True →
 iteP (decide ((1024 : Int) < n)) False
 (K (AV.sc (Value.bool false))))
 False)
 False))
 False)))
 (iteP
 (decide ((0 : Int) ≤ n) && decide (n ≤ n) &&
 decide (n ≤ (140737488355328 : Int)) &&
 (n.toNat * (16 : Nat)).ble (140737488355328 : Nat))
 (iteP (n.toNat.beq (0 : Nat))
 (False ∧
 ∀ (_ : Unit),
 True →
 iteP (decide (n < (1 : Int)))
 (iteP (decide ((1024 : Int) < n)) False False)
 (iteP (decide ((1024 : Int) < n))
 (iteP (decide ((1024 : Int) < n)) False False)
 (iteP
 (decide ((0 : Int) ≤ max n (0 : Int)) &&
 decide (max n (0 : Int) ≤ max n (0 : Int)) &&
 decide (max n (0 : Int) ≤ (140737488355328 : Int)) &&
 ((max n (0 : Int)).toNat * (16 : Nat)).ble
 (140737488355328 : Nat))
 (iteP ((max n (0 : Int)).toNat.beq (0 : Nat))
 (iteP (inRange (IntKind.i64.wrap (n - (1 : Int))) (0 : Nat))
 (none =
 some
 [AV.sc
 (Value.string
 (ByteArray.mk
 (Array.mk
 (cellStr [] (IntKind.i64.wrap (n - (1 : Int)))
 (0 : Nat)))))] ∧
 False)
 False)
 (iteP
 (inRange (IntKind.i64.wrap (n - (1 : Int)))
 (max n (0 : Int)).toNat)
 (iteP
 (ltLen
 ((0 : Nat) +
 (IntKind.i64.wrap (n - (1 : Int))).toNat * (1 : Nat))
 (repC (max n (0 : Int))
 (AV.sc (Value.string (ByteArray.mk (Array.mk []))))))
 (False ∧
 ∀ (_ : Unit),
 True → iteP (decide ((1024 : Int) < n)) False False)
 False)
 False))
 False)))
 (False ∧
 ∀ (_ : Unit),
 True →
 iteP (decide (n < (1 : Int)))
 (iteP (decide ((1024 : Int) < n)) False False)
 (iteP (decide ((1024 : Int) < n))
 (iteP (decide ((1024 : Int) < n)) False False)
 (iteP
 (decide ((0 : Int) ≤ max n (0 : Int)) &&
 decide (max n (0 : Int) ≤ max n (0 : Int)) &&
 decide (max n (0 : Int) ≤ (140737488355328 : Int)) &&
 ((max n (0 : Int)).toNat * (16 : Nat)).ble
 (140737488355328 : Nat))
 (iteP ((max n (0 : Int)).toNat.beq (0 : Nat))
 (iteP (inRange (IntKind.i64.wrap (n - (1 : Int))) (0 : Nat))
 (none =
 some
 [AV.sc
 (Value.string
 (ByteArray.mk
 (Array.mk
 (cellStr [] (IntKind.i64.wrap (n - (1 : Int)))
 (0 : Nat)))))] ∧
 False)
 False)
 (iteP
 (inRange (IntKind.i64.wrap (n - (1 : Int)))
 (max n (0 : Int)).toNat)
 (iteP
 (ltLen
 ((0 : Nat) +
 (IntKind.i64.wrap (n - (1 : Int))).toNat * (1 : Nat))
 (repC (max n (0 : Int))
 (AV.sc (Value.string (ByteArray.mk (Array.mk []))))))
 (False ∧
 ∀ (_ : Unit),
 True → iteP (decide ((1024 : Int) < n)) False False)
 False)
 False))
 False))))
 False)))
 (SplOver
 (AV.agg
 [AV.sc (Value.string (ByteArray.mk (Array.mk [(58 : UInt8)]))),
 AV.sc (Value.string (ByteArray.mk (Array.mk []))),
 AV.sc (Value.int IntKind.i64 (0 : Int)),
 AV.sc (Value.int IntKind.i64 (0 : Int)),
 AV.sc (Value.int IntKind.i64 (0 : Int)),
 AV.sc (Value.int IntKind.u64 (0 : Int)),
 AV.sc (Value.int IntKind.u64 (0 : Int)),
 AV.sc (Value.int IntKind.u64 (0 : Int)),
 AV.sc (Value.int IntKind.u64 (0 : Int)),
 AV.sc (Value.int IntKind.i64 (0 : Int)),
 AV.sc (Value.int IntKind.i64 (0 : Int)),
 AV.sc (Value.int IntKind.i64 (0 : Int)),
 AV.sc (Value.slice none (0 : Nat) (0 : Nat))])
 (List.map u8B
 (cutC (List.replicate n.toNat (AV.sc (Value.int IntKind.u8 (58 : Int)))) (0 : Nat)
 n.toNat)) ∧
 ∀ (_ : Unit),
 True →
 iteP (decide (n < (0 : Int)))
 (iteP (decide (n < (1 : Int)))
 (iteP (decide ((1024 : Int) < n)) (K (AV.sc (Value.bool false)))
 (K (AV.sc (Value.bool false))))
 (iteP (decide ((1024 : Int) < n))
 (iteP (decide ((1024 : Int) < n)) (K (AV.sc (Value.bool false)))
 (K (AV.sc (Value.bool false))))
 (iteP
 (decide ((0 : Int) ≤ max n (0 : Int)) &&
 decide (max n (0 : Int) ≤ max n (0 : Int)) &&
 decide (max n (0 : Int) ≤ (140737488355328 : Int)) &&
 ((max n (0 : Int)).toNat * (16 : Nat)).ble (140737488355328 : Nat))
 (iteP ((max n (0 : Int)).toNat.beq (0 : Nat))
 (iteP (inRange (IntKind.i64.wrap (n - (1 : Int))) (0 : Nat))
 (none =
 some
 [AV.sc
 (Value.string
 (ByteArray.mk
 (Array.mk
 (cellStr [] (IntKind.i64.wrap (n - (1 : Int)))
 (0 : Nat)))))] ∧
 False)
 False)
 (iteP
 (inRange (IntKind.i64.wrap (n - (1 : Int))) (max n (0 : Int)).toNat)
 (iteP
 (ltLen
 ((0 : Nat) + (IntKind.i64.wrap (n - (1 : Int))).toNat * (1 : Nat))
 (repC (max n (0 : Int))
 (AV.sc (Value.string (ByteArray.mk (Array.mk []))))))
 (False ∧
 ∀ (_ : Unit),
 True →
 iteP (decide ((1024 : Int) < n))
 (K (AV.sc (Value.bool false)))
 (K (AV.sc (Value.bool false))))
 False)
 False))
 False)))
 (iteP (decide ((1024 : Int) < n))
 (iteP (decide (n < (1 : Int)))
 (iteP (decide ((1024 : Int) < n)) (K (AV.sc (Value.bool false)))
 (K (AV.sc (Value.bool false))))
 (iteP (decide ((1024 : Int) < n))
 (iteP (decide ((1024 : Int) < n))
 (True ∧ ∀ (_ : Unit), True → K (AV.sc (Value.bool true)))
 (K (AV.sc (Value.bool false))))
 (iteP
 (decide ((0 : Int) ≤ max n (0 : Int)) &&
 decide (max n (0 : Int) ≤ max n (0 : Int)) &&
 decide (max n (0 : Int) ≤ (140737488355328 : Int)) &&
 ((max n (0 : Int)).toNat * (16 : Nat)).ble (140737488355328 : Nat))
 (iteP ((max n (0 : Int)).toNat.beq (0 : Nat))
 (iteP (inRange (IntKind.i64.wrap (n - (1 : Int))) (0 : Nat))
 (none =
 some
 [AV.sc
 (Value.string
 (ByteArray.mk
 (Array.mk
 (cellStr [] (IntKind.i64.wrap (n - (1 : Int)))
 (0 : Nat)))))] ∧
 False)
 False)
 (iteP
 (inRange (IntKind.i64.wrap (n - (1 : Int))) (max n (0 : Int)).toNat)
 (iteP
 (ltLen
 ((0 : Nat) +
 (IntKind.i64.wrap (n - (1 : Int))).toNat * (1 : Nat))
 (repC (max n (0 : Int))
 (AV.sc (Value.string (ByteArray.mk (Array.mk []))))))
 (False ∧
 ∀ (_ : Unit),
 True →
 iteP (decide ((1024 : Int) < n)) False
 (K (AV.sc (Value.bool false))))
 False)
 False))
 False)))
 (iteP
 (decide ((0 : Int) ≤ n) && decide (n ≤ n) &&
 decide (n ≤ (140737488355328 : Int)) &&
 (n.toNat * (16 : Nat)).ble (140737488355328 : Nat))
 (iteP (n.toNat.beq (0 : Nat))
 (False ∧
 ∀ (_ : Unit),
 True →
 iteP (decide (n < (1 : Int)))
 (iteP (decide ((1024 : Int) < n)) False False)
 (iteP (decide ((1024 : Int) < n))
 (iteP (decide ((1024 : Int) < n)) False False)
 (iteP
 (decide ((0 : Int) ≤ max n (0 : Int)) &&
 decide (max n (0 : Int) ≤ max n (0 : Int)) &&
 decide (max n (0 : Int) ≤ (140737488355328 : Int)) &&
 ((max n (0 : Int)).toNat * (16 : Nat)).ble
 (140737488355328 : Nat))
 (iteP ((max n (0 : Int)).toNat.beq (0 : Nat))
 (iteP (inRange (IntKind.i64.wrap (n - (1 : Int))) (0 : Nat))
 (none =
 some
 [AV.sc
 (Value.string
 (ByteArray.mk
 (Array.mk
 (cellStr []
 (IntKind.i64.wrap (n - (1 : Int)))
 (0 : Nat)))))] ∧
 False)
 False)
 (iteP
 (inRange (IntKind.i64.wrap (n - (1 : Int)))
 (max n (0 : Int)).toNat)
 (iteP
 (ltLen
 ((0 : Nat) +
 (IntKind.i64.wrap (n - (1 : Int))).toNat *
 (1 : Nat))
 (repC (max n (0 : Int))
 (AV.sc
 (Value.string (ByteArray.mk (Array.mk []))))))
 (False ∧
 ∀ (_ : Unit),
 True → iteP (decide ((1024 : Int) < n)) False False)
 False)
 False))
 False)))
 (False ∧
 ∀ (_ : Unit),
 True →
 iteP (decide (n < (1 : Int)))
 (iteP (decide ((1024 : Int) < n)) False False)
 (iteP (decide ((1024 : Int) < n))
 (iteP (decide ((1024 : Int) < n)) False False)
 (iteP
 (decide ((0 : Int) ≤ max n (0 : Int)) &&
 decide (max n (0 : Int) ≤ max n (0 : Int)) &&
 decide (max n (0 : Int) ≤ (140737488355328 : Int)) &&
 ((max n (0 : Int)).toNat * (16 : Nat)).ble
 (140737488355328 : Nat))
 (iteP ((max n (0 : Int)).toNat.beq (0 : Nat))
 (iteP (inRange (IntKind.i64.wrap (n - (1 : Int))) (0 : Nat))
 (none =
 some
 [AV.sc
 (Value.string
 (ByteArray.mk
 (Array.mk
 (cellStr []
 (IntKind.i64.wrap (n - (1 : Int)))
 (0 : Nat)))))] ∧
 False)
 False)
 (iteP
 (inRange (IntKind.i64.wrap (n - (1 : Int)))
 (max n (0 : Int)).toNat)
 (iteP
 (ltLen
 ((0 : Nat) +
 (IntKind.i64.wrap (n - (1 : Int))).toNat *
 (1 : Nat))
 (repC (max n (0 : Int))
 (AV.sc
 (Value.string (ByteArray.mk (Array.mk []))))))
 (False ∧
 ∀ (_ : Unit),
 True → iteP (decide ((1024 : Int) < n)) False False)
 False)
 False))
 False))))
 False))))
 False)
 (iteP
 (endCells ((0 : Nat) + n.toNat)
 (List.replicate n.toNat (AV.sc (Value.int IntKind.u8 (58 : Int)))))
 (iteP
 (decide
 ((65536 : Int) <
 (↑(List.map u8B
 (cutC (List.replicate n.toNat (AV.sc (Value.int IntKind.u8 (58 : Int))))
 (0 : Nat) n.toNat)).length :
 Int)))
 (K (AV.sc (Value.bool false)))
 (SplOver
 (AV.agg
 [AV.sc (Value.string (ByteArray.mk (Array.mk [(58 : UInt8)]))),
 AV.sc (Value.string (ByteArray.mk (Array.mk []))),
 AV.sc (Value.int IntKind.i64 (0 : Int)),
 AV.sc (Value.int IntKind.i64 (0 : Int)),
 AV.sc (Value.int IntKind.i64 (0 : Int)),
 AV.sc (Value.int IntKind.u64 (0 : Int)),
 AV.sc (Value.int IntKind.u64 (0 : Int)),
 AV.sc (Value.int IntKind.u64 (0 : Int)),
 AV.sc (Value.int IntKind.u64 (0 : Int)),
 AV.sc (Value.int IntKind.i64 (0 : Int)),
 AV.sc (Value.int IntKind.i64 (0 : Int)),
 AV.sc (Value.int IntKind.i64 (0 : Int)),
 AV.sc (Value.slice none (0 : Nat) (0 : Nat))])
 (List.map u8B
 (cutC (List.replicate n.toNat (AV.sc (Value.int IntKind.u8 (58 : Int)))) (0 : Nat)
 n.toNat)) ∧
 ∀ (_ : Unit), True → K (AV.sc (Value.bool false))))
 False)))
 False))))) :
 (fun (m : Int) (n size : Int) (K : AV → Prop) => wpCall TA (cf m) Tryz.prog 60 7 [.sc (.int .i64 n), .sc (.int .i64 size)] heap0 fun r _ => K r) m n size K :=
 Eq.mp (by kernel_rfl) h
end
end Go.Proofs.Rd
namespace Go.Proofs.Rd
open Go Go.Ef
noncomputable section
set_option maxRecDepth 100000
variable {m : Int} {T : Tab}
theorem ok48c (O : Ok m T) : Ok m (T.addC 48 C48c) := by
 refine addC_ok O fun args h s hs hp => ?_
 unfold C48c at hs
 split at hs
 ·rename_i x s0
  obtain ⟨⟨s0⟩⟩ := s0
  cases hs
  obtain ⟨c, rfl, h1, h2, h3, h4⟩ := hp
  have h1 : s0 ≠ [] := h1
  have h3 : 1024 < (partsOf c s0).length := h3
  have key : EvP (cf m) Tryz.prog 48 [.agg (splC c), aStr s0] h fun y h' => y = .tup [nilA, intA 3] ∧ h' = h := by
   refine EvP.freshV ok48T (n := 40) (by kernel_rfl) (by kernel_rfl) (args' := [.agg (splC c), aStr s0]) rfl (c48a m c s0 _ ?_)
   rw [decide_eq_false (by simpa using h2), iteP_f, decide_eq_true h1, iteP_t]
   refine ⟨h4, fun L hL => ?_⟩
   subst hL
   rw [List.length_map, decide_eq_true (by omega), iteP_t]; rfl
  obtain ⟨n, v, h', g1, rfl, rfl⟩ := key
  exact ⟨_, List.mem_singleton.2 rfl, (), n, trivial, g1⟩
 ·cases hs
theorem okTA : Ok m TA := ok7b (ok7a (okNo (ok48c (ok22 (Rc.ok20 okLy))) 49))
theorem row58 (w : Nat) (c : UInt8) : (cutC (List.replicate w (bC c.toNat)) 0 w).map u8B = List.replicate w c := by
 unfold cutC
 rw [List.drop_zero, List.take_of_length_le (by simp), List.map_replicate]
 show List.replicate w (UInt8.ofNat (c.toNat : Int).toNat) = _
 rw [Int.toNat_natCast, UInt8.ofNat_toNat]
theorem end58 (w : Nat) (c : Int) : endCells (0 + w) (List.replicate w (bC c)) = true := by
 unfold endCells
 rw [Nat.zero_add, List.length_replicate, Nat.ble_eq_true_of_le (Nat.le_refl _), Bool.true_and]
 exact List.all_eq_true.2 fun x hx => by rw [List.eq_of_mem_replicate hx]; rfl
theorem parts58 (w : Nat) : (partsOf 58 (List.replicate w 58)).length = w + 1 := by
 rw [partsOf_length, List.count_replicate_self]
theorem law7A (m : Int) (j : Nat) (size : Int) (hj : 1024 < j) : ∃ n h, evCall (cf m) Tryz.prog n 7 [.sc (.int .i64 (j : Int)), .sc (.int .i64 size)] heap0 = some (aBool true, h) := by
 have key := call_okW (okTA (m := m)) 60 7 [.sc (.int .i64 (j : Int)), .sc (.int .i64 size)] heap0 (fun r _ => r = aBool true) (c7A m j size (fun r => r = aBool true) ?_)
 ·obtain ⟨n, r, h', h1, rfl⟩ := key
  exact ⟨n, h', h1⟩
 have h0 : ¬ (j : Int) < 0 := by omega
 have h1 : ¬ (j : Int) < 1 := by omega
 have h2 : (1024 : Int) < j := by omega
 have h3 : (1024 : Int) ≤ j := by omega
 simp only [decide_eq_false h0, decide_eq_false h1, decide_eq_true h2, decide_eq_true h3, iteP_t, iteP_f, Int.toNat_natCast]
 by_cases h4 : (70000 : Int) < j
 ·rw [decide_eq_true h4, iteP_t]; exact ⟨trivial, fun _ _ => rfl⟩
 rw [decide_eq_false h4, iteP_f]
 by_cases h5 : size < 0
 ·rw [decide_eq_true h5, iteP_t]; exact ⟨trivial, fun _ _ => rfl⟩
 rw [decide_eq_false h5, iteP_f]
 by_cases h6 : 70000 < size
 ·rw [decide_eq_true h6, iteP_t]; exact ⟨trivial, fun _ _ => rfl⟩
 rw [decide_eq_false h6, iteP_f]
 refine ⟨trivial, fun _ _ => ?_⟩
 have q1 : (decide ((0 : Int) ≤ (j : Int)) && decide ((j : Int) ≤ (j : Int)) && decide ((j : Int) ≤ 140737488355328) && (j * 1).ble 140737488355328) = true := by
  rw [decide_eq_true (by omega), decide_eq_true (by omega), decide_eq_true (by omega), Nat.ble_eq_true_of_le (by omega)]; rfl
 have q2 : j.beq 0 = false := by
  cases hq : j.beq 0 with
  | false => rfl
  | true => exact absurd (Nat.eq_of_beq_eq_true hq) (by omega)
 have q3 : endCells (0 + j) (List.replicate j (AV.sc (Value.int IntKind.u8 58))) = true := end58 j 58
 have q4 : List.map u8B (cutC (List.replicate j (AV.sc (Value.int IntKind.u8 58))) 0 j) = List.replicate j 58 := row58 j 58
 rw [q1, iteP_t, q2, iteP_f]
 refine ⟨by trivial, ⟨by trivial, ⟨rfl, by omega, rfl, rfl⟩⟩, fun _ _ => ?_⟩
 rw [q3, iteP_t]
 simp only [q4]
 refine iteP_intro (fun _ => ⟨trivial, fun _ _ => rfl⟩) (fun hq => ?_)
 have hq := of_decide_eq_false hq
 rw [List.length_replicate] at hq
 refine ⟨⟨58, rfl, ?_, by decide, by rw [parts58]; omega, by rw [List.length_replicate]; omega⟩, fun _ _ => ⟨trivial, fun _ _ => rfl⟩⟩
 intro e
 have := congrArg List.length e
 rw [List.length_replicate, List.length_nil] at this
 omega
end
end Go.Proofs.Rd
namespace Go.Proofs.Rd
open Go Go.Ef
noncomputable section
def I7as (n size : Int) (tok : Nat) (i : Int) (h : Heap) : St := stOf 148 [(0, sInt n), (1, sInt size), (5, .v (.ptr 3 0)), (7, .v (.sl [] tok)), (8, sInt i)] [] h
def E7as (n size : Int) (tok : Nat) (h : Heap) : St := stOf 148 [(0, sInt n), (1, sInt size), (5, .v (.ptr 3 0)), (7, .v (.sl [] tok))] [] h
def I7bs (size : Int) (tok : Nat) (i : Int) (h : Heap) : St := stOf 148 [(1, sInt size), (5, .v (.ptr 3 0)), (12, .v (.sl [] tok)), (13, sInt i)] [] h
def E7bs (size : Int) (tok : Nat) (h : Heap) : St := stOf 148 [(1, sInt size), (5, .v (.ptr 3 0)), (12, .v (.sl [] tok))] [] h
def q7as (n size : Int) (tok : Nat) (h : Heap) (e : Ex) (τ : St) : Prop :=
 match e with
 | .exit _ => e = .exit 0 ∧ τ = E7as n size tok h
 | _ => False
def q7bs (size : Int) (tok : Nat) (h : Heap) (e : Ex) (τ : St) : Prop :=
 match e with
 | .exit _ => e = .exit 2 ∧ τ = E7bs size tok h
 | _ => False
def L7bz (σ : St) : Option LSpec :=
 match σ.at 12 with
 | .v (.sl [] tok) => some { pre := σ.tidy [1, 5, 12, 13] 0 = I7bs (slI σ 1) tok 0 σ.h ∧ slI σ 1 = 0, alts := [{ α := Unit, post := fun _ => True, ex := .exit 2, st := fun _ => E7bs (slI σ 1) tok σ.h }] }
 | _ => L7b σ
def L7az (σ : St) : Option LSpec :=
 match σ.at 7 with
 | .v (.sl [] tok) => some { pre := σ.tidy [0, 1, 5, 7, 8] 0 = I7as (slI σ 0) (slI σ 1) tok 0 σ.h ∧ slI σ 0 = 0, alts := [{ α := Unit, post := fun _ => True, ex := .exit 0, st := fun _ => E7as (slI σ 0) (slI σ 1) tok σ.h }] }
 | _ => L7a σ
end
end Go.Proofs.Rd
namespace Go.Proofs.Rd
open Go Go.Ef
noncomputable section
set_option maxRecDepth 100000
theorem v7as (m : Int) (size : Int) (tok : Nat) (H : Heap) (N : Prop) (h :
 Ex.exit (0 : Nat) = Ex.exit (0 : Nat) ∧ E7as (0 : Int) size tok H = E7as (0 : Int) size tok H) :
 (fun (m : Int) (size : Int) (tok : Nat) (H : Heap) (N : Prop) => wpRound T7z (cf m) Tryz.prog 40 7 9 (I7as 0 size tok 0 H) (fun _ => N) (q7as 0 size tok H)) m size tok H N :=
 Eq.mp (by kernel_rfl) h
theorem v7bs (m : Int) (tok : Nat) (H : Heap) (N : Prop) (h :
 Ex.exit (2 : Nat) = Ex.exit (2 : Nat) ∧ E7bs (0 : Int) tok H = E7bs (0 : Int) tok H) :
 (fun (m : Int) (tok : Nat) (H : Heap) (N : Prop) => wpRound T7z (cf m) Tryz.prog 40 7 24 (I7bs 0 tok 0 H) (fun _ => N) (q7bs 0 tok H)) m tok H N :=
 Eq.mp (by kernel_rfl) h
end
end Go.Proofs.Rd
namespace Go.Proofs.Rd
open Go Go.Ef
noncomputable section
set_option maxRecDepth 100000
variable {m : Int} {T : Tab}
theorem ok7az (O : Ok m T) : Ok m (T.addL 7 9 L7az) := by
 refine addL_ok O fun σ s hs hp => ?_
 unfold L7az at hs
 split at hs
 ·rename_i tok hw
  cases hs
  obtain ⟨e, h1⟩ := hp
  have can : ∀ (h : Heap), (I7as 0 (slI σ 1) tok 0 h).tidy [0, 1, 5, 7, 8] 0 = I7as 0 (slI σ 1) tok 0 h := fun h => by kernel_rfl
  have he : Ev (cf m) Tryz.prog 7 (.loop (loopAt Tryz.prog 7 9)) σ fun e τ => e = .exit 0 ∧ τ = E7as (slI σ 0) (slI σ 1) tok σ.h := by
   refine Ev.tidied (t := ⟨[0, 1, 5, 7, 8], [0, 1, 5, 7], 0⟩) (τ := I7as 0 (slI σ 1) tok 0 σ.h) (by kernel_rfl) (by rw [e, h1]; kernel_rfl) ?_
   rw [h1]
   refine Ev.round (t := ⟨[0, 1, 5, 7, 8], [0, 1, 5, 7], 0⟩) ok7z (by kernel_rfl) rfl (can _) (v7as m (slI σ 1) tok σ.h False ?_) (fun τ h => h.elim) (fun e τ h => ?_)
   ·exact ⟨rfl, rfl⟩
   ·unfold q7as at h
    split at h
    ·exact h
    ·exact h.elim
  obtain ⟨n, ex, τ, h6, rfl, rfl⟩ := he
  exact ⟨_, List.mem_singleton.2 rfl, (), trivial, n, h6⟩
 ·exact (ok7a (m := m) (T := tab0) tab0_ok).loop 7 9 L7a σ s rfl hs hp |> fun ⟨a, ha, x, n, h1, h2⟩ => ⟨a, ha, x, h1, n, h2⟩
theorem ok7bz (O : Ok m T) : Ok m (T.addL 7 24 L7bz) := by
 refine addL_ok O fun σ s hs hp => ?_
 unfold L7bz at hs
 split at hs
 ·rename_i tok hw
  cases hs
  obtain ⟨e, h1⟩ := hp
  have can : ∀ (h : Heap), (I7bs 0 tok 0 h).tidy [1, 5, 12, 13] 0 = I7bs 0 tok 0 h := fun h => by kernel_rfl
  have he : Ev (cf m) Tryz.prog 7 (.loop (loopAt Tryz.prog 7 24)) σ fun e τ => e = .exit 2 ∧ τ = E7bs (slI σ 1) tok σ.h := by
   refine Ev.tidied (t := ⟨[1, 5, 12, 13], [1, 5, 12], 0⟩) (τ := I7bs 0 tok 0 σ.h) (by kernel_rfl) (by rw [e, h1]; kernel_rfl) ?_
   rw [h1]
   refine Ev.round (t := ⟨[1, 5, 12, 13], [1, 5, 12], 0⟩) ok7z (by kernel_rfl) rfl (can _) (v7bs m tok σ.h False ?_) (fun τ h => h.elim) (fun e τ h => ?_)
   ·exact ⟨rfl, rfl⟩
   ·unfold q7bs at h
    split at h
    ·exact h
    ·exact h.elim
  obtain ⟨n, ex, τ, h6, rfl, rfl⟩ := he
  exact ⟨_, List.mem_singleton.2 rfl, (), trivial, n, h6⟩
 ·exact (ok7b (m := m) (T := tab0) tab0_ok).loop 7 24 L7b σ s rfl hs hp |> fun ⟨a, ha, x, n, h1, h2⟩ => ⟨a, ha, x, h1, n, h2⟩
end
end Go.Proofs.Rd
namespace Go.Proofs.Rd
open Go Go.Ef
noncomputable section
def I49s (tok : Nat) (h : Heap) : St := stOf 44 [(0, .v (.ptr 3 0)), (1, .v (.sl [] tok)), (5, sInt 0), (8, .v (.sl [] tok)), (9, sInt 0), (10, sInt 0)] [] h
def E49s (tok : Nat) (h : Heap) : St := stOf 44 [(0, .v (.ptr 3 0)), (1, .v (.sl [] tok)), (4, .unk)] [] h
def q49s (tok : Nat) (h : Heap) (e : Ex) (τ : St) : Prop :=
 match e with
 | .exit _ => e = .exit 0 ∧ τ = E49s tok h
 | _ => False
def L49z (σ : St) : Option LSpec :=
 match σ.at 1 with
 | .v (.sl [] tok) => some { pre := σ.tidy [0, 1, 5, 8, 9, 10] 0 = I49s tok σ.h, alts := [{ α := Unit, post := fun _ => True, ex := .exit 0, st := fun _ => E49s tok σ.h }] }
 | _ => L49e σ
def C73z (args : List AV) (h : Heap) : Option CSpec :=
 match args with
 | [.sl [] _, .sc (.string _)] => some (fspec True (aStr []) h)
 | _ => C73 args h
end
end Go.Proofs.Rd
namespace Go.Proofs.Rd
open Go Go.Ef
noncomputable section
set_option maxRecDepth 100000
theorem v49s (m : Int) (tok : Nat) (H : Heap) (N : Prop) (h :
 Ex.exit (0 : Nat) = Ex.exit (0 : Nat) ∧ E49s tok H = E49s tok H) :
 (fun (m : Int) (tok : Nat) (H : Heap) (N : Prop) => wpRound T49z (cf m) Tryz.prog 40 49 4 (I49s tok H) (fun _ => N) (q49s tok H)) m tok H N :=
 Eq.mp (by kernel_rfl) h
end
end Go.Proofs.Rd
namespace Go.Proofs.Rd
open Go Go.Ef
noncomputable section
set_option maxRecDepth 100000
variable {m : Int} {T : Tab}
theorem ok49Z (O : Ok m T) : Ok m (T.addL 49 4 L49z) := by
 refine addL_ok O fun σ s hs hp => ?_
 unfold L49z at hs
 split at hs
 ·rename_i tok hw
  cases hs
  have e := hp
  have can : ∀ (h : Heap), (I49s tok h).tidy [0, 1, 5, 8, 9, 10] 0 = I49s tok h := fun h => by kernel_rfl
  have he : Ev (cf m) Tryz.prog 49 (.loop (loopAt Tryz.prog 49 4)) σ fun e τ => e = .exit 0 ∧ τ = E49s tok σ.h := by
   refine Ev.tidied (t := ⟨[0, 1, 5, 8, 9, 10], [0, 1, 4], 0⟩) (τ := I49s tok σ.h) (by kernel_rfl) (by rw [e]; kernel_rfl) ?_
   refine Ev.round (t := ⟨[0, 1, 5, 8, 9, 10], [0, 1, 4], 0⟩) ok49z (by kernel_rfl) rfl (can _) (v49s m tok σ.h False ?_) (fun τ h => h.elim) (fun e τ h => ?_)
   ·exact ⟨rfl, rfl⟩
   ·unfold q49s at h
    split at h
    ·exact h
    ·exact h.elim
  obtain ⟨n, ex, τ, h6, rfl, rfl⟩ := he
  exact ⟨_, List.mem_singleton.2 rfl, (), trivial, n, h6⟩
 ·exact (ok49e (m := m) (T := tab0) tab0_ok).loop 49 4 L49e σ s rfl hs hp |> fun ⟨a, ha, x, n, h1, h2⟩ => ⟨a, ha, x, h1, n, h2⟩
theorem ok73z (O : Ok m T) : Ok m (T.addC 73 C73z) := by
 refine addC_ok O fun args h s hs hp => ?_
 unfold C73z at hs
 split at hs
 ·rename_i tok z
  cases hs
  exact ⟨_, List.mem_singleton.2 rfl, (), 0, trivial, rfl⟩
 ·exact (ok73 (m := m) (T := tab0) tab0_ok).call 73 C73 args h s rfl hs hp
end
end Go.Proofs.Rd
namespace Go.Proofs.Rd
open Go Go.Ef
noncomputable section
def strsOf (cs : List AV) : List (List UInt8) := cs.map fun a => match a with | .sc (.string s) => s.data.toList | _ => []
def rowS (els : List (List AV)) : List AV := els.flatten
def rowAt (h : Heap) (f : AV) : List AV :=
 match f with
 | .sl els _ => rowS els
 | .rsl id 0 _ 1 => cellsAt id h
 | _ => []
def zRow (cs : List AV) (n : Nat) : List AV := cs.take n ++ List.replicate (n - cs.length) (aStr [])
def pRow (cs : List AV) (k : Nat) (s : List UInt8) : List AV := (zRow cs (max k cs.length)).set (k - 1) (aStr s)
def joinC (cs : List AV) : List UInt8 := Lib.join (strsOf cs) [44]
def hS5 (a b : Tr AObj) (v1 v0 : Option AObj) (r0 : Tr AObj) (ty : Tr (Nat × Nat)) (rec : List AV) : Heap := ⟨5, .node (.node (.node a (some (.cells rec)) b) v1 .leaf) v0 r0, 0, ty⟩
def hS6 (a b c d e : Tr AObj) (v1 v0 v2 : Option AObj) (ty : Tr (Nat × Nat)) (row rec : List AV) : Heap := ⟨6, .node (.node (.node a (some (.cells rec)) b) v1 (.node c (some (.cells row)) d)) v0 (.node e v2 .leaf), 0, ty⟩
def hS8 (a b c d e d4 : Tr AObj) (v1 v0 v2 v4 : Option AObj) (ty : Tr (Nat × Nat)) (row rec : List AV) : Heap := ⟨8, .node (.node (.node a (some (.cells rec)) b) v1 c) v0 (.node (.node .leaf v4 d4) v2 (.node d (some (.cells row)) e)), 0, ty⟩
def hS9 (a b c d d4 d5 r2 : Tr AObj) (v1 v0 v2 v4 v5 : Option AObj) (ty : Tr (Nat × Nat)) (row rec : List AV) : Heap := ⟨9, .node (.node (.node a (some (.cells rec)) b) v1 (.node .leaf v5 d5)) v0 (.node (.node (.node c (some (.cells row)) d) v4 d4) v2 r2), 0, ty⟩
inductive ShZ : Heap → AV → List (List UInt8) → Prop where
 | n5 (a b : Tr AObj) (v1 v0 : Option AObj) (r0 : Tr AObj) (ty : Tr (Nat × Nat)) (whole : List UInt8) : ShZ (hS5 a b v1 v0 r0 ty (recC 58 [44] whole nilA)) nilA []
 | s5 (a b : Tr AObj) (v1 v0 : Option AObj) (r0 : Tr AObj) (ty : Tr (Nat × Nat)) (whole : List UInt8) (L : List (List UInt8)) (hne : L ≠ []) : ShZ (hS5 a b v1 v0 r0 ty (recC 58 [44] whole (.sl (L.map strEl) 0))) (.sl (L.map strEl) 0) L
 | r8 (a b c d e d4 : Tr AObj) (v1 v0 v2 v4 : Option AObj) (ty : Tr (Nat × Nat)) (whole : List UInt8) (L : List (List UInt8)) (hne : L ≠ []) : ShZ (hS8 a b c d e d4 v1 v0 v2 v4 ty (L.map aStr) (recC 58 [44] whole (.rsl 6 0 L.length 1))) (.rsl 6 0 L.length 1) L
inductive ShP : Heap → AV → List (List UInt8) → Prop where
 | r6 (a b c d e : Tr AObj) (v1 v0 v2 : Option AObj) (ty : Tr (Nat × Nat)) (whole : List UInt8) (L : List (List UInt8)) (hne : L ≠ []) : ShP (hS6 a b c d e v1 v0 v2 ty (L.map aStr) (recC 58 [44] whole (.rsl 5 0 L.length 1))) (.rsl 5 0 L.length 1) L
inductive ShQ : Heap → AV → List (List UInt8) → Prop where
 | r9 (a b c d d4 d5 r2 : Tr AObj) (v1 v0 v2 v4 v5 : Option AObj) (ty : Tr (Nat × Nat)) (whole : List UInt8) (L : List (List UInt8)) (hne : L ≠ []) : ShQ (hS9 a b c d d4 d5 r2 v1 v0 v2 v4 v5 ty (L.map aStr) (recC 58 [44] whole (.rsl 8 0 L.length 1))) (.rsl 8 0 L.length 1) L
structure Rz (h : Heap) (f : AV) (n : Int) : Prop where
 is : ∃ L, ShZ h f L ∧ 1 ≤ n ∧ n ≤ 1024 ∧ L.length ≤ 2000 ∧ (joinC (zRow (L.map aStr) n.toNat)).length ≤ 65536
structure PutIn (h : Heap) (f : AV) (k : Int) (s : List UInt8) : Prop where
 is : ∃ L, ShP h f L ∧ 1 ≤ k ∧ k ≤ 1024 ∧ L.length ≤ 1024 ∧ (joinC (pRow (L.map aStr) k.toNat s)).length ≤ 65536
structure PutOr (h : Heap) (f : AV) (k : Int) (s : List UInt8) : Prop where
 is : ∃ L, ShQ h f L ∧ 1 ≤ k ∧ k ≤ 1024 ∧ L.length ≤ 1024 ∧ (joinC (pRow (L.map aStr) k.toNat s)).length ≤ 1000000
structure FitP (x : List UInt8) : Prop where
 le : x.length ≤ 65536
structure OverP (x : List UInt8) : Prop where
 gt : 65536 < x.length
def withRow (h : Heap) (row : List AV) (w : List UInt8) (n : Nat) : Heap := putH (h.new (.cells row)).2 3 (recC 58 [44] w (.rsl h.next 0 n 1))
def C24 (args : List AV) (h : Heap) : Option CSpec :=
 match args with
 | [.ptr 3 0, .sc (.int .i64 n)] =>
  match fieldC h with
  | some f => some { pre := Rz h f n, alts := [{ α := Unit, post := fun _ => True, val := fun _ => intA 0, heap := fun _ => withRow h (zRow (rowAt h f) n.toNat) (joinC (zRow (rowAt h f) n.toNat)) n.toNat }] }
  | none => none
 | _ => none
def lenF (f : AV) : Nat :=
 match f with
 | .rsl _ _ n _ => n
 | _ => 0
def C25 (args : List AV) (h : Heap) : Option CSpec :=
 match args with
 | [.ptr 3 0, .sc (.int .i64 k), .sc (.string s)] =>
  match fieldC h with
  | some f => bif Nat.beq h.next 6 then some { pre := PutIn h f k s.data.toList, alts := [{ α := Unit, post := fun _ => True, val := fun _ => intA 0, heap := fun _ => withRow h (pRow (rowAt h f) k.toNat s.data.toList) (joinC (pRow (rowAt h f) k.toNat s.data.toList)) (max k.toNat (lenF f)) }] }
   else some { pre := PutOr h f k s.data.toList, alts := [{ α := Unit, post := fun _ => FitP (joinC (pRow (rowAt h f) k.toNat s.data.toList)), val := fun _ => intA 0, heap := fun _ => withRow h (pRow (rowAt h f) k.toNat s.data.toList) (joinC (pRow (rowAt h f) k.toNat s.data.toList)) (max k.toNat (lenF f)) }, { α := Unit, post := fun _ => OverP (joinC (pRow (rowAt h f) k.toNat s.data.toList)), val := fun _ => intA 3, heap := fun _ => (h.new (.cells (pRow (rowAt h f) k.toNat s.data.toList))).2 }] }
  | none => none
 | _ => none
def L49r (σ : St) : Option LSpec :=
 match σ.at 1 with
 | .v (.rsl _ _ _ _) => L49 σ
 | _ => none
def L49q (σ : St) : Option LSpec :=
 match σ.at 1 with
 | .v (.rsl _ _ _ _) => L49e σ
 | _ => none
def TZ : Tab := (ly.addC 73 C73).addL 49 4 L49r
def TQ : Tab := (ly.addC 73 C73).addL 49 4 L49q
end
end Go.Proofs.Rd
namespace Go.Proofs.Rd
open Go Go.Ef
noncomputable section
set_option maxRecDepth 100000
abbrev z1 : AV := AV.sc (Value.string (ByteArray.mk (Array.mk [])))
def zL (L : List (List UInt8)) (n : Nat) : List (List UInt8) := L.take n ++ List.replicate (n - L.length) []
theorem strs_map (L : List (List UInt8)) : strsOf (L.map aStr) = L := by
 unfold strsOf
 rw [List.map_map]
 exact (List.map_congr_left fun b _ => rfl).trans (List.map_id L)
theorem zRow_map (L : List (List UInt8)) (n : Nat) : zRow (L.map aStr) n = (zL L n).map aStr := by
 unfold zRow zL
 rw [List.map_append, List.map_take, List.map_replicate, List.length_map]
theorem zL_len (L : List (List UInt8)) (n : Nat) : (zL L n).length = n := by
 unfold zL
 rw [List.length_append, List.length_take, List.length_replicate]; omega
theorem zRow_len (L : List (List UInt8)) (n : Nat) : (zRow (L.map aStr) n).length = n := by rw [zRow_map, List.length_map, zL_len]
theorem pRow_map (L : List (List UInt8)) (k : Nat) (s : List UInt8) : pRow (L.map aStr) k s = ((zL L (max k L.length)).set (k - 1) s).map aStr := by
 unfold pRow
 rw [zRow_map, List.map_set, List.length_map]
theorem joinC_map (L : List (List UInt8)) : joinC (L.map aStr) = Lib.join L [44] := by
 unfold joinC
 rw [strs_map]
theorem rowS_map (L : List (List UInt8)) : rowS (L.map strEl) = L.map aStr := by
 have := flat_str L (n := L.length) (Nat.le_refl _)
 unfold flatC at this
 rw [List.take_of_length_le (by rw [List.length_map]; exact Nat.le_refl _)] at this
 exact this
theorem flat_take (L : List (List UInt8)) (n : Nat) : flatC (L.map strEl) n = (L.map aStr).take n := by
 unfold flatC
 rw [← List.map_take]
 exact (rowS_map (L.take n)).trans (by rw [List.map_take])
theorem rep_eq (n : Nat) : repC (n : Int) z1 = List.replicate n (aStr []) := by
 unfold repC
 rw [Int.toNat_natCast]; rfl
theorem over_take (cs : List AV) (n : Nat) : overC (List.replicate n (aStr [])) 0 (cs.take n) = zRow cs n := by
 unfold overC zRow
 rw [List.take_zero, List.nil_append, Nat.zero_add, List.drop_replicate, List.length_take]
 congr 2
 omega
theorem over_flat (L : List (List UInt8)) (n : Nat) : overC (repC (n : Int) z1) 0 (flatC (L.map strEl) n) = zRow (L.map aStr) n := by
 rw [rep_eq, flat_take, over_take]
theorem cut_take (cs : List AV) (n : Nat) : cutC cs 0 (min n cs.length) = cs.take n := by
 unfold cutC
 rw [List.drop_zero]
 by_cases h : n ≤ cs.length
 ·rw [Nat.min_eq_left h]
 ·rw [Nat.min_eq_right (by omega), List.take_of_length_le (Nat.le_refl _), List.take_of_length_le (by omega)]
theorem over_cut (cs : List AV) (n : Nat) : overC (repC (n : Int) z1) 0 (cutC cs 0 (min n cs.length)) = zRow cs n := by
 rw [rep_eq, cut_take, over_take]
theorem fit_take (L : List (List UInt8)) (n : Nat) : fitC (repC (n : Int) z1) 0 ((L.map aStr).take n) = true := by
 rw [rep_eq]
 unfold fitC
 rw [List.length_take, List.length_replicate, Nat.zero_add, Nat.ble_eq_true_of_le (by omega), Bool.true_and, ← List.map_take, List.all_map]
 exact List.all_eq_true.2 fun _ _ => rfl
theorem fit_flat (L : List (List UInt8)) (n : Nat) : fitC (repC (n : Int) z1) 0 (flatC (L.map strEl) n) = true := by rw [flat_take]; exact fit_take L n
theorem fit_cut (L : List (List UInt8)) (n : Nat) : fitC (repC (n : Int) z1) 0 (cutC (L.map aStr) 0 (min n (L.map aStr).length)) = true := by rw [cut_take]; exact fit_take L n
theorem ne_take {L : List (List UInt8)} {n : Nat} (h : L ≠ []) (hn : 1 ≤ n) : ((L.map aStr).take n).isEmpty = false := by
 cases L with
 | nil => exact absurd rfl h
 | cons a L =>
  cases n with
  | zero => omega
  | succ n => rfl
theorem parts58_eq (w : Nat) : partsOf 58 (List.replicate w 58) = List.replicate (w + 1) [] := by
 induction w with
 | zero => rfl
 | succ w ih => rw [List.replicate_succ, partsOf_cons, if_pos rfl, ih]; rfl
theorem zRow_parts (n : Nat) : zRow ((List.replicate (n + 1) ([] : List UInt8)).map aStr) n = (List.replicate n []).map aStr := by
 rw [zRow_map]
 unfold zL
 rw [List.take_replicate, List.length_replicate, show min n (n + 1) = n by omega, show n - (n + 1) = 0 by omega, List.replicate_zero, List.append_nil]
theorem zRow_nil (n : Nat) : zRow [] n = (List.replicate n []).map aStr := by
 unfold zRow
 rw [List.take_nil, List.nil_append, List.length_nil, Nat.sub_zero, List.map_replicate]
def lA (n : Nat) : List (List UInt8) := (List.replicate n []).set (n - 1) [97]
theorem lA_len (n : Nat) : (lA n).length = n := by unfold lA; rw [List.length_set, List.length_replicate]
theorem pRow_lA (n : Nat) : pRow ((List.replicate n ([] : List UInt8)).map aStr) n [97] = (lA n).map aStr := by
 rw [pRow_map, List.length_replicate, Nat.max_self]
 unfold zL lA
 rw [List.length_replicate, Nat.sub_self, List.replicate_zero, List.append_nil, List.take_of_length_le (by rw [List.length_replicate]; exact Nat.le_refl _)]
theorem lA_mem {n : Nat} : ∀ x ∈ lA n, x.length ≤ 1 := by
 intro x hx
 unfold lA at hx
 rcases List.mem_or_eq_of_mem_set hx with hx | rfl
 ·rw [List.eq_of_mem_replicate hx]; exact Nat.zero_le _
 ·exact Nat.le_refl _
theorem put_two (x y c : List UInt8) : pRow ([x, y].map aStr) 1 c = [c, y].map aStr := by
 rw [pRow_map]; rfl
theorem join_two (x y : List UInt8) : (Lib.join [x, y] [44]).length = x.length + 1 + y.length := by
 rw [join_cons2 (by simp), Lib.join_one]; simp; omega
theorem join_small {L : List (List UInt8)} {n : Nat} (hn : L.length ≤ n) (hb : ∀ x ∈ L, x.length ≤ 1) : (Lib.join L [44]).length ≤ n * 2 := by
 have := join_bound (t := [44]) hb
 have h2 : L.length * (1 + 1) ≤ n * 2 := Nat.mul_le_mul_right _ hn
 have h3 : ([44] : List UInt8).length = 1 := rfl
 rw [h3] at this
 omega
end
end Go.Proofs.Rd
namespace Go.Proofs.Rd
open Go Go.Ef
noncomputable section
structure Easy (s : List UInt8) : Prop where
 is : s = [] ∨ s = [97]
def C50s (args : List AV) (h : Heap) : Option CSpec :=
 match args with
 | [.sc (.string s)] => some (fspec (Easy s.data.toList) (txtV s.data.toList) h)
 | _ => none
def T27s : Tab := tabS.addC 50 C50s
structure GetEasy (h : Heap) (k : Int) : Prop where
 is : ∃ (c : UInt8) (out whole : List UInt8) (id : Nat) (L : List (List UInt8)) (x : List UInt8), h.get 3 = some (.cells (recC c out whole (.rsl id 0 L.length 1))) ∧ h.get id = some (.cells (L.map aStr)) ∧ 1 ≤ k ∧ k ≤ 1024 ∧ L[(k - 1).toNat]? = some x ∧ Easy x
def C27s (args : List AV) (h : Heap) : Option CSpec :=
 match args with
 | [.ptr 3 0, .sc (.int .i64 k)] => some { pre := GetEasy h k, alts := [{ α := List UInt8, post := fun s => IsGet h k s, val := fun s => .tup [txtV s, intA 0], heap := fun _ => h }] }
 | _ => none
def TB : Tab := (((((((((ly.addC 20 Rc.C20).addC 22 C22).addC 48 C48a).addC 24 C24).addC 25 C25).addC 27 C27s).addL 7 9 L7a).addL 7 24 L7bz).name 7 121).name 7 142
def TC : Tab := (((((((((ly.addC 20 Rc.C20).addC 22 C22).addC 48 C48c).addC 24 C24).addC 25 C25).addC 27 C27s).addL 7 9 L7a).addL 7 24 L7bz).name 7 121).name 7 142
def TBs : Tab := (((((((((ly.addC 20 Rc.C20).addC 22 C22).addC 48 C48a).addC 24 C24).addC 25 C25).addC 27 C27s).addL 7 9 L7a).addL 7 24 L7b).name 7 121).name 7 142
def TCs : Tab := (((((((((ly.addC 20 Rc.C20).addC 22 C22).addC 48 C48c).addC 24 C24).addC 25 C25).addC 27 C27s).addL 7 9 L7a).addL 7 24 L7b).name 7 121).name 7 142
end
end Go.Proofs.Rd
namespace Go.Proofs.Rd
open Go Go.Ef
noncomputable section
def L7by (σ : St) : Option LSpec :=
 match σ.at 12 with
 | .v (.rsl 6 0 w 1) => some { pre := σ.tidy [1, 5, 12, 13] 0 = I7b (slI σ 1) 6 w 0 σ.h ∧ Fill σ.h 6 (slI σ 1) w, alts := [{ α := Unit, post := fun _ => True, ex := .exit 2, st := fun _ => E7b (slI σ 1) 6 w (putH σ.h 6 (List.replicate w (bC 120))) }] }
 | _ => none
def T0b : Tab := (((((((((ly.addC 20 Rc.C20).addC 22 C22).addC 48 C48b).addC 27 C27s).addC 73 C73z).addL 49 4 L49z).addL 7 9 L7az).addL 7 24 L7by).name 7 121).name 7 142
def T0s : Tab := (((((((((ly.addC 20 Rc.C20).addC 22 C22).addC 48 C48b).addC 27 C27s).addC 73 C73z).addL 49 4 L49z).addL 7 9 L7az).addL 7 24 L7bz).name 7 121).name 7 142
end
end Go.Proofs.Rd
namespace Go.Proofs.Rd
open Go Go.Ef
noncomputable section
set_option maxRecDepth 100000
def hSa1 (size : Int) : List AV := [AV.sc (Value.string (ByteArray.mk (Array.mk (List.map u8B (cutC (List.replicate size.toNat (AV.sc (Value.int IntKind.u8 (120 : Int)))) (0 : Nat) size.toNat))))), AV.sc (Value.string (ByteArray.mk (Array.mk [])))]
def hSa2 : List AV := [AV.sc (Value.string (ByteArray.mk (Array.mk [(112 : UInt8), (111 : UInt8), (115 : UInt8), (105 : UInt8), (120 : UInt8)]))), AV.sl wEls (0 : Nat), AV.sc (Value.string (ByteArray.mk (Array.mk wLow))), AV.sc (Value.string (ByteArray.mk (Array.mk wUp))), AV.sc (Value.slice none (0 : Nat) (0 : Nat)), AV.sc (Value.slice none (0 : Nat) (0 : Nat))]
def hSa3 : List AV := [AV.sc (Value.string (ByteArray.mk (Array.mk [(58 : UInt8)]))), AV.sc (Value.string (ByteArray.mk (Array.mk []))), AV.sc (Value.int IntKind.i64 (0 : Int)), AV.sc (Value.int IntKind.i64 (0 : Int)), AV.sc (Value.int IntKind.i64 (0 : Int)), AV.sc (Value.int IntKind.u64 (0 : Int)), AV.sc (Value.int IntKind.u64 (0 : Int)), AV.sc (Value.int IntKind.u64 (0 : Int)), AV.sc (Value.int IntKind.u64 (0 : Int)), AV.sc (Value.int IntKind.i64 (0 : Int)), AV.sc (Value.int IntKind.i64 (0 : Int)), AV.sc (Value.int IntKind.i64 (0 : Int)), AV.sc (Value.slice none (0 : Nat) (0 : Nat))]
def hSa4 : List AV := [AV.sc (Value.string (ByteArray.mk (Array.mk [(58 : UInt8)]))), AV.sc (Value.string (ByteArray.mk (Array.mk []))), AV.sc (Value.int IntKind.i64 (0 : Int)), AV.sc (Value.int IntKind.i64 (0 : Int)), AV.sc (Value.int IntKind.i64 (0 : Int)), AV.sc (Value.int IntKind.u64 (0 : Int)), AV.sc (Value.int IntKind.u64 (0 : Int)), AV.sc (Value.int IntKind.u64 (0 : Int)), AV.sc (Value.int IntKind.u64 (0 : Int)), AV.sc (Value.int IntKind.i64 (0 : Int)), AV.sc (Value.int IntKind.i64 (0 : Int)), AV.sc (Value.int IntKind.i64 (0 : Int)), AV.sc (Value.slice none (0 : Nat) (0 : Nat)), AV.sc (Value.string (ByteArray.mk (Array.mk [(44 : UInt8)]))), AV.sc (Value.string (ByteArray.mk (Array.mk []))), AV.sc (Value.slice none (0 : Nat) (0 : Nat))]
def hSa5 : Heap := (Heap.mk (5 : Nat) (((Tr.leaf.node (some (AObj.cells (hSa4))) Tr.leaf).node (some (AObj.cells (hSa2))) Tr.leaf).node none ((Tr.leaf.node (some (AObj.own (1 : Nat) (5 : Nat) (0 : Nat))) Tr.leaf).node (some (AObj.cells (hSa3))) Tr.leaf)) (0 : Nat) (((Tr.leaf.node (some ((112 : Nat), (16 : Nat))) Tr.leaf).node (some ((61 : Nat), (hSa2).length)) Tr.leaf).node none (Tr.leaf.node (some ((108 : Nat), (13 : Nat))) Tr.leaf)))
def hSa6 : List AV := [AV.sc (Value.string (ByteArray.mk (Array.mk [(58 : UInt8)]))), AV.sc (Value.string (ByteArray.mk (Array.mk []))), AV.sc (Value.int IntKind.i64 (0 : Int)), AV.sc (Value.int IntKind.i64 (0 : Int)), AV.sc (Value.int IntKind.i64 (0 : Int)), AV.sc (Value.int IntKind.u64 (0 : Int)), AV.sc (Value.int IntKind.u64 (0 : Int)), AV.sc (Value.int IntKind.u64 (0 : Int)), AV.sc (Value.int IntKind.u64 (0 : Int)), AV.sc (Value.int IntKind.i64 (0 : Int)), AV.sc (Value.int IntKind.i64 (0 : Int)), AV.sc (Value.int IntKind.i64 (0 : Int)), AV.sc (Value.slice none (0 : Nat) (0 : Nat)), AV.sc (Value.string (ByteArray.mk (Array.mk [(44 : UInt8)]))), AV.sc (Value.string (ByteArray.mk (Array.mk []))), AV.sl [] ((4 : Nat) + (1 : Nat) + (1 : Nat))]
def hSa7 (size : Int) : Heap := (Heap.mk (7 : Nat) (((Tr.leaf.node (some (AObj.cells (hSa6))) Tr.leaf).node (some (AObj.cells (hSa2))) (Tr.leaf.node (some (AObj.own (1 : Nat) (9 : Nat) (0 : Nat))) Tr.leaf)).node none ((Tr.leaf.node (some (AObj.own (1 : Nat) (5 : Nat) (0 : Nat))) Tr.leaf).node (some (AObj.cells (hSa3))) (Tr.leaf.node (some (AObj.cells (repC size (AV.sc (Value.int IntKind.u8 (0 : Int)))))) Tr.leaf))) (0 : Nat) (((Tr.leaf.node (some ((112 : Nat), (16 : Nat))) Tr.leaf).node (some ((61 : Nat), (hSa2).length)) Tr.leaf).node none (Tr.leaf.node (some ((108 : Nat), (13 : Nat))) Tr.leaf)))
def hSa8 (size : Int) : Heap := (Heap.mk (8 : Nat) ((((Tr.leaf.node (some (AObj.cells [AV.sc (Value.string (ByteArray.mk (Array.mk []))), AV.sc (Value.string (ByteArray.mk (Array.mk [])))])) Tr.leaf).node (some (AObj.cells (hSa6))) Tr.leaf).node (some (AObj.cells (hSa2))) (Tr.leaf.node (some (AObj.own (1 : Nat) (9 : Nat) (0 : Nat))) Tr.leaf)).node none ((Tr.leaf.node (some (AObj.own (1 : Nat) (5 : Nat) (0 : Nat))) Tr.leaf).node (some (AObj.cells (hSa3))) (Tr.leaf.node (some (AObj.cells (List.replicate size.toNat (AV.sc (Value.int IntKind.u8 (120 : Int)))))) Tr.leaf))) (0 : Nat) (((Tr.leaf.node (some ((112 : Nat), (16 : Nat))) Tr.leaf).node (some ((61 : Nat), (hSa2).length)) Tr.leaf).node none (Tr.leaf.node (some ((108 : Nat), (13 : Nat))) Tr.leaf)))
def hSa9 : List AV := [AV.sc (Value.string (ByteArray.mk (Array.mk [(58 : UInt8)]))), AV.sc (Value.string (ByteArray.mk (Array.mk []))), AV.sc (Value.int IntKind.i64 (0 : Int)), AV.sc (Value.int IntKind.i64 (0 : Int)), AV.sc (Value.int IntKind.i64 (0 : Int)), AV.sc (Value.int IntKind.u64 (0 : Int)), AV.sc (Value.int IntKind.u64 (0 : Int)), AV.sc (Value.int IntKind.u64 (0 : Int)), AV.sc (Value.int IntKind.u64 (0 : Int)), AV.sc (Value.int IntKind.i64 (0 : Int)), AV.sc (Value.int IntKind.i64 (0 : Int)), AV.sc (Value.int IntKind.i64 (0 : Int)), AV.sc (Value.slice none (0 : Nat) (0 : Nat)), AV.sc (Value.string (ByteArray.mk (Array.mk [(44 : UInt8)]))), AV.sc (Value.string (ByteArray.mk (Array.mk (List.map byteD [])))), AV.sc (Value.slice none (0 : Nat) (0 : Nat))]
def hSa10 : Heap := (Heap.mk (6 : Nat) (((Tr.leaf.node (some (AObj.cells (hSa9))) Tr.leaf).node (some (AObj.cells (hSa2))) (Tr.leaf.node (some (AObj.own (1 : Nat) (9 : Nat) (0 : Nat))) Tr.leaf)).node none ((Tr.leaf.node (some (AObj.own (1 : Nat) (5 : Nat) (0 : Nat))) Tr.leaf).node (some (AObj.cells (hSa3))) Tr.leaf)) (0 : Nat) (((Tr.leaf.node (some ((112 : Nat), (16 : Nat))) Tr.leaf).node (some ((61 : Nat), (hSa2).length)) Tr.leaf).node none (Tr.leaf.node (some ((108 : Nat), (13 : Nat))) Tr.leaf)))
def hSa11 (y0 : List UInt8) : List AV := [AV.sc (Value.string (ByteArray.mk (Array.mk [(58 : UInt8)]))), AV.sc (Value.string (ByteArray.mk (Array.mk []))), AV.sc (Value.int IntKind.i64 (0 : Int)), AV.sc (Value.int IntKind.i64 (0 : Int)), AV.sc (Value.int IntKind.i64 (0 : Int)), AV.sc (Value.int IntKind.u64 (0 : Int)), AV.sc (Value.int IntKind.u64 (0 : Int)), AV.sc (Value.int IntKind.u64 (0 : Int)), AV.sc (Value.int IntKind.u64 (0 : Int)), AV.sc (Value.int IntKind.i64 (0 : Int)), AV.sc (Value.int IntKind.i64 (0 : Int)), AV.sc (Value.int IntKind.i64 (0 : Int)), AV.sc (Value.slice none (0 : Nat) (0 : Nat)), AV.sc (Value.string (ByteArray.mk (Array.mk [(44 : UInt8)]))), AV.sc (Value.string (ByteArray.mk (Array.mk y0))), AV.rsl (OfNat.ofNat (7 : Nat)) (0 : Nat) (2 : Nat) (1 : Nat)]
def hSa12 (y0_2 : List UInt8) : List AV := [AV.sc (Value.string (ByteArray.mk (Array.mk [(58 : UInt8)]))), AV.sc (Value.string (ByteArray.mk (Array.mk []))), AV.sc (Value.int IntKind.i64 (0 : Int)), AV.sc (Value.int IntKind.i64 (0 : Int)), AV.sc (Value.int IntKind.i64 (0 : Int)), AV.sc (Value.int IntKind.u64 (0 : Int)), AV.sc (Value.int IntKind.u64 (0 : Int)), AV.sc (Value.int IntKind.u64 (0 : Int)), AV.sc (Value.int IntKind.u64 (0 : Int)), AV.sc (Value.int IntKind.i64 (0 : Int)), AV.sc (Value.int IntKind.i64 (0 : Int)), AV.sc (Value.int IntKind.i64 (0 : Int)), AV.sc (Value.slice none (0 : Nat) (0 : Nat)), AV.sc (Value.string (ByteArray.mk (Array.mk [(44 : UInt8)]))), AV.sc (Value.string (ByteArray.mk (Array.mk y0_2))), AV.rsl (OfNat.ofNat (7 : Nat) + (1 : Nat)) (0 : Nat) (2 : Nat) (1 : Nat)]
def hSa13 (y0 : List UInt8) (size : Int) : Heap := (Heap.mk (9 : Nat) ((((Tr.leaf.node (some (AObj.cells [AV.sc (Value.string (ByteArray.mk (Array.mk []))), AV.sc (Value.string (ByteArray.mk (Array.mk [])))])) Tr.leaf).node (some (AObj.cells (hSa11 y0))) Tr.leaf).node (some (AObj.cells (hSa2))) (Tr.leaf.node (some (AObj.own (1 : Nat) (9 : Nat) (0 : Nat))) Tr.leaf)).node none (((Tr.leaf.node (some (AObj.cells (hSa1 size))) Tr.leaf).node (some (AObj.own (1 : Nat) (5 : Nat) (0 : Nat))) Tr.leaf).node (some (AObj.cells (hSa3))) (Tr.leaf.node (some (AObj.cells (List.replicate size.toNat (AV.sc (Value.int IntKind.u8 (120 : Int)))))) Tr.leaf))) (0 : Nat) (((Tr.leaf.node (some ((112 : Nat), (16 : Nat))) Tr.leaf).node (some ((61 : Nat), (hSa2).length)) Tr.leaf).node none (Tr.leaf.node (some ((108 : Nat), (13 : Nat))) Tr.leaf)))
def hSa14 (y0_2 : List UInt8) (size : Int) : Heap := (Heap.mk (9 : Nat) ((((Tr.leaf.node (some (AObj.cells [AV.sc (Value.string (ByteArray.mk (Array.mk []))), AV.sc (Value.string (ByteArray.mk (Array.mk [])))])) Tr.leaf).node (some (AObj.cells (hSa12 y0_2))) Tr.leaf).node (some (AObj.cells (hSa2))) (Tr.leaf.node (some (AObj.own (1 : Nat) (9 : Nat) (0 : Nat))) Tr.leaf)).node none (((Tr.leaf.node (some (AObj.cells (hSa1 size))) Tr.leaf).node (some (AObj.own (1 : Nat) (5 : Nat) (0 : Nat))) Tr.leaf).node (some (AObj.cells (hSa3))) (Tr.leaf.node (some (AObj.cells (List.replicate size.toNat (AV.sc (Value.int IntKind.u8 (120 : Int)))))) Tr.leaf))) (0 : Nat) (((Tr.leaf.node (some ((112 : Nat), (16 : Nat))) Tr.leaf).node (some ((61 : Nat), (hSa2).length)) Tr.leaf).node none (Tr.leaf.node (some ((108 : Nat), (13 : Nat))) Tr.leaf)))
theorem c7Zb (m : Int) (size : Int) (K : AV → Prop) (h :
 iteP (decide (size < (0 : Int))) (True ∧
 ∀ (_ : Unit), True → K (AV.sc (Value.bool true)))
 (iteP (decide ((70000 : Int) < size)) (True ∧
 ∀ (_ : Unit), True → K (AV.sc (Value.bool true))) (True ∧
 ∀ (_ : Unit), True → loopAt Tryz.prog (7 : Nat) (9 : Nat) = loopAt Tryz.prog (7 : Nat) (9 : Nat) ∧ (I7as (0 : Int) size ((3 : Nat) + (1 : Nat) + (1 : Nat)) (0 : Int) (hSa5) = I7as (0 : Int) size ((3 : Nat) + (1 : Nat) + (1 : Nat)) (0 : Int) (hSa5) ∧ (0 : Int) = (0 : Int)) ∧
 ∀ (_ : Unit), True → SplNil (AV.agg (hSa3)) (List.map byteD []) ∧
 ∀ (_ : Unit), True → loopAt Tryz.prog (49 : Nat) (4 : Nat) = loopAt Tryz.prog (49 : Nat) (4 : Nat) ∧ I49s ((4 : Nat) + (1 : Nat) + (1 : Nat)) (hSa10) = I49s ((4 : Nat) + (1 : Nat) + (1 : Nat)) (hSa10) ∧
 ∀ (_ : Unit), True → True ∧
 ∀ (_ : Unit), True →
 iteP (decide ((0 : Int) ≤ size) && decide (size ≤ size) && decide (size ≤ (140737488355328 : Int)) && (size.toNat * (1 : Nat)).ble (140737488355328 : Nat))
 (iteP (size.toNat.beq (0 : Nat)) False (loopAt Tryz.prog (7 : Nat) (24 : Nat) = loopAt Tryz.prog (7 : Nat) (24 : Nat) ∧ (I7b size (6 : Nat) size.toNat (0 : Int) (hSa7 size) = I7b size (6 : Nat) size.toNat (0 : Int) (hSa7 size) ∧ Fill (hSa7 size) (6 : Nat) size size.toNat) ∧
 ∀ (_ : Unit), True → loopAt Tryz.prog (49 : Nat) (4 : Nat) = loopAt Tryz.prog (49 : Nat) (4 : Nat) ∧ (I49 (OfNat.ofNat (7 : Nat)) (2 : Nat) (0 : Int) (0 : Int) (hSa8 size) = I49 (OfNat.ofNat (7 : Nat)) (2 : Nat) (0 : Int) (0 : Int) (hSa8 size) ∧ WholeE (hSa8 size) (OfNat.ofNat (7 : Nat)) (2 : Nat)) ∧ (∀ (_ : Unit), Fits (hSa8 size) (OfNat.ofNat (7 : Nat)) → RowOk (hSa8 size) (OfNat.ofNat (7 : Nat)) (2 : Nat) [(44 : UInt8)] ∧
 ∀ (y0 : List UInt8), RowJoin (hSa8 size) (OfNat.ofNat (7 : Nat)) [(44 : UInt8)] y0 →
 iteP (endCells ((0 : Nat) + size.toNat) (List.replicate size.toNat (AV.sc (Value.int IntKind.u8 (120 : Int))))) (loopAt Tryz.prog (49 : Nat) (4 : Nat) = loopAt Tryz.prog (49 : Nat) (4 : Nat) ∧ (I49 (OfNat.ofNat (7 : Nat) + (1 : Nat)) (2 : Nat) (0 : Int) (0 : Int) (hSa13 y0 size) = I49 (OfNat.ofNat (7 : Nat) + (1 : Nat)) (2 : Nat) (0 : Int) (0 : Int) (hSa13 y0 size) ∧ WholeE (hSa13 y0 size) (OfNat.ofNat (7 : Nat) + (1 : Nat)) (2 : Nat)) ∧ (∀ (_ : Unit), Fits (hSa13 y0 size) (OfNat.ofNat (7 : Nat) + (1 : Nat)) → RowOk (hSa13 y0 size) (OfNat.ofNat (7 : Nat) + (1 : Nat)) (2 : Nat) [(44 : UInt8)] ∧
 ∀ (y0_2 : List UInt8), RowJoin (hSa13 y0 size) (OfNat.ofNat (7 : Nat) + (1 : Nat)) [(44 : UInt8)] y0_2 → GetEasy (hSa14 y0_2 size) (2 : Int) ∧
 ∀ (y0 : List UInt8), IsGet (hSa14 y0_2 size) (2 : Int) y0 →
 ∀ (y1m : Int), y1m = IntKind.i64.wrap (IntKind.i64.wrap (size + (1 : Int)) + (↑y0.length : Int)) →
 iteP (decide (y1m ≤ (65536 : Int))) (∀ (y1m : Int), y1m = (↑y0_2.length : Int) →
 iteP (decide (y1m ≤ (65536 : Int))) (True ∧
 ∀ (_ : Unit), True → K (AV.sc (Value.bool true))) (K (AV.sc (Value.bool false)))) (K (AV.sc (Value.bool false)))) ∧
 ∀ (_ : Unit), Over (hSa13 y0 size) (OfNat.ofNat (7 : Nat) + (1 : Nat)) → GetEasy (hSa13 y0 size) (2 : Int) ∧
 ∀ (y0_2 : List UInt8), IsGet (hSa13 y0 size) (2 : Int) y0_2 →
 ∀ (y1m : Int), y1m = IntKind.i64.wrap (IntKind.i64.wrap (size + (1 : Int)) + (↑y0_2.length : Int)) →
 iteP (decide (y1m ≤ (65536 : Int))) (K (AV.sc (Value.bool false))) (∀ (y1m : Int), y1m = (↑y0.length : Int) →
 iteP (decide (y1m ≤ (65536 : Int))) (True ∧
 ∀ (_ : Unit), True → K (AV.sc (Value.bool true))) (K (AV.sc (Value.bool false))))) False) ∧
 ∀ (_ : Unit), Over (hSa8 size) (OfNat.ofNat (7 : Nat)) → K (AV.sc (Value.bool false)))) False))) :
 (fun (m : Int) (size : Int) (K : AV → Prop) => wpCall T0b (cf m) Tryz.prog 60 7 [.sc (.int .i64 0), .sc (.int .i64 size)] heap0 fun r _ => K r) m size K :=
 Eq.mp (by kernel_rfl) h
def hSb1 : List AV := [AV.sc (Value.string (ByteArray.mk (Array.mk [(112 : UInt8), (111 : UInt8), (115 : UInt8), (105 : UInt8), (120 : UInt8)]))), AV.sl wEls (0 : Nat), AV.sc (Value.string (ByteArray.mk (Array.mk wLow))), AV.sc (Value.string (ByteArray.mk (Array.mk wUp))), AV.sc (Value.slice none (0 : Nat) (0 : Nat)), AV.sc (Value.slice none (0 : Nat) (0 : Nat))]
def hSb2 : List AV := [AV.sc (Value.string (ByteArray.mk (Array.mk [(58 : UInt8)]))), AV.sc (Value.string (ByteArray.mk (Array.mk []))), AV.sc (Value.int IntKind.i64 (0 : Int)), AV.sc (Value.int IntKind.i64 (0 : Int)), AV.sc (Value.int IntKind.i64 (0 : Int)), AV.sc (Value.int IntKind.u64 (0 : Int)), AV.sc (Value.int IntKind.u64 (0 : Int)), AV.sc (Value.int IntKind.u64 (0 : Int)), AV.sc (Value.int IntKind.u64 (0 : Int)), AV.sc (Value.int IntKind.i64 (0 : Int)), AV.sc (Value.int IntKind.i64 (0 : Int)), AV.sc (Value.int IntKind.i64 (0 : Int)), AV.sc (Value.slice none (0 : Nat) (0 : Nat))]
def hSb3 : List AV := [AV.sc (Value.string (ByteArray.mk (Array.mk [(58 : UInt8)]))), AV.sc (Value.string (ByteArray.mk (Array.mk []))), AV.sc (Value.int IntKind.i64 (0 : Int)), AV.sc (Value.int IntKind.i64 (0 : Int)), AV.sc (Value.int IntKind.i64 (0 : Int)), AV.sc (Value.int IntKind.u64 (0 : Int)), AV.sc (Value.int IntKind.u64 (0 : Int)), AV.sc (Value.int IntKind.u64 (0 : Int)), AV.sc (Value.int IntKind.u64 (0 : Int)), AV.sc (Value.int IntKind.i64 (0 : Int)), AV.sc (Value.int IntKind.i64 (0 : Int)), AV.sc (Value.int IntKind.i64 (0 : Int)), AV.sc (Value.slice none (0 : Nat) (0 : Nat)), AV.sc (Value.string (ByteArray.mk (Array.mk [(44 : UInt8)]))), AV.sc (Value.string (ByteArray.mk (Array.mk []))), AV.sc (Value.slice none (0 : Nat) (0 : Nat))]
def hSb4 : Heap := (Heap.mk (5 : Nat) (((Tr.leaf.node (some (AObj.cells (hSb3))) Tr.leaf).node (some (AObj.cells (hSb1))) Tr.leaf).node none ((Tr.leaf.node (some (AObj.own (1 : Nat) (5 : Nat) (0 : Nat))) Tr.leaf).node (some (AObj.cells (hSb2))) Tr.leaf)) (0 : Nat) (((Tr.leaf.node (some ((112 : Nat), (16 : Nat))) Tr.leaf).node (some ((61 : Nat), (hSb1).length)) Tr.leaf).node none (Tr.leaf.node (some ((108 : Nat), (13 : Nat))) Tr.leaf)))
def hSb5 : List AV := [AV.sc (Value.string (ByteArray.mk (Array.mk [(58 : UInt8)]))), AV.sc (Value.string (ByteArray.mk (Array.mk []))), AV.sc (Value.int IntKind.i64 (0 : Int)), AV.sc (Value.int IntKind.i64 (0 : Int)), AV.sc (Value.int IntKind.i64 (0 : Int)), AV.sc (Value.int IntKind.u64 (0 : Int)), AV.sc (Value.int IntKind.u64 (0 : Int)), AV.sc (Value.int IntKind.u64 (0 : Int)), AV.sc (Value.int IntKind.u64 (0 : Int)), AV.sc (Value.int IntKind.i64 (0 : Int)), AV.sc (Value.int IntKind.i64 (0 : Int)), AV.sc (Value.int IntKind.i64 (0 : Int)), AV.sc (Value.slice none (0 : Nat) (0 : Nat)), AV.sc (Value.string (ByteArray.mk (Array.mk [(44 : UInt8)]))), AV.sc (Value.string (ByteArray.mk (Array.mk []))), AV.sl [] ((4 : Nat) + (1 : Nat) + (1 : Nat))]
def hSb6 : Heap := (Heap.mk (7 : Nat) (((Tr.leaf.node (some (AObj.cells (hSb5))) Tr.leaf).node (some (AObj.cells (hSb1))) (Tr.leaf.node (some (AObj.own (1 : Nat) (9 : Nat) (0 : Nat))) Tr.leaf)).node none ((Tr.leaf.node (some (AObj.own (1 : Nat) (5 : Nat) (0 : Nat))) Tr.leaf).node (some (AObj.cells (hSb2))) (Tr.leaf.node (some (AObj.own (1 : Nat) (5 : Nat) (0 : Nat))) Tr.leaf))) (0 : Nat) (((Tr.leaf.node (some ((112 : Nat), (16 : Nat))) Tr.leaf).node (some ((61 : Nat), (hSb1).length)) Tr.leaf).node none (Tr.leaf.node (some ((108 : Nat), (13 : Nat))) Tr.leaf)))
def hSb7 : Heap := (Heap.mk (8 : Nat) ((((Tr.leaf.node (some (AObj.cells [AV.sc (Value.string (ByteArray.mk (Array.mk []))), AV.sc (Value.string (ByteArray.mk (Array.mk [])))])) Tr.leaf).node (some (AObj.cells (hSb5))) Tr.leaf).node (some (AObj.cells (hSb1))) (Tr.leaf.node (some (AObj.own (1 : Nat) (9 : Nat) (0 : Nat))) Tr.leaf)).node none ((Tr.leaf.node (some (AObj.own (1 : Nat) (5 : Nat) (0 : Nat))) Tr.leaf).node (some (AObj.cells (hSb2))) (Tr.leaf.node (some (AObj.own (1 : Nat) (5 : Nat) (0 : Nat))) Tr.leaf))) (0 : Nat) (((Tr.leaf.node (some ((112 : Nat), (16 : Nat))) Tr.leaf).node (some ((61 : Nat), (hSb1).length)) Tr.leaf).node none (Tr.leaf.node (some ((108 : Nat), (13 : Nat))) Tr.leaf)))
def hSb8 (y0 : List UInt8) : List AV := [AV.sc (Value.string (ByteArray.mk (Array.mk [(58 : UInt8)]))), AV.sc (Value.string (ByteArray.mk (Array.mk []))), AV.sc (Value.int IntKind.i64 (0 : Int)), AV.sc (Value.int IntKind.i64 (0 : Int)), AV.sc (Value.int IntKind.i64 (0 : Int)), AV.sc (Value.int IntKind.u64 (0 : Int)), AV.sc (Value.int IntKind.u64 (0 : Int)), AV.sc (Value.int IntKind.u64 (0 : Int)), AV.sc (Value.int IntKind.u64 (0 : Int)), AV.sc (Value.int IntKind.i64 (0 : Int)), AV.sc (Value.int IntKind.i64 (0 : Int)), AV.sc (Value.int IntKind.i64 (0 : Int)), AV.sc (Value.slice none (0 : Nat) (0 : Nat)), AV.sc (Value.string (ByteArray.mk (Array.mk [(44 : UInt8)]))), AV.sc (Value.string (ByteArray.mk (Array.mk y0))), AV.rsl (7 : Nat) (0 : Nat) (2 : Nat) (1 : Nat)]
def hSb9 (y0_2 : List UInt8) : List AV := [AV.sc (Value.string (ByteArray.mk (Array.mk [(58 : UInt8)]))), AV.sc (Value.string (ByteArray.mk (Array.mk []))), AV.sc (Value.int IntKind.i64 (0 : Int)), AV.sc (Value.int IntKind.i64 (0 : Int)), AV.sc (Value.int IntKind.i64 (0 : Int)), AV.sc (Value.int IntKind.u64 (0 : Int)), AV.sc (Value.int IntKind.u64 (0 : Int)), AV.sc (Value.int IntKind.u64 (0 : Int)), AV.sc (Value.int IntKind.u64 (0 : Int)), AV.sc (Value.int IntKind.i64 (0 : Int)), AV.sc (Value.int IntKind.i64 (0 : Int)), AV.sc (Value.int IntKind.i64 (0 : Int)), AV.sc (Value.slice none (0 : Nat) (0 : Nat)), AV.sc (Value.string (ByteArray.mk (Array.mk [(44 : UInt8)]))), AV.sc (Value.string (ByteArray.mk (Array.mk y0_2))), AV.rsl (8 : Nat) (0 : Nat) (2 : Nat) (1 : Nat)]
def hSb10 : List AV := [AV.sc (Value.string (ByteArray.mk (Array.mk [(58 : UInt8)]))), AV.sc (Value.string (ByteArray.mk (Array.mk []))), AV.sc (Value.int IntKind.i64 (0 : Int)), AV.sc (Value.int IntKind.i64 (0 : Int)), AV.sc (Value.int IntKind.i64 (0 : Int)), AV.sc (Value.int IntKind.u64 (0 : Int)), AV.sc (Value.int IntKind.u64 (0 : Int)), AV.sc (Value.int IntKind.u64 (0 : Int)), AV.sc (Value.int IntKind.u64 (0 : Int)), AV.sc (Value.int IntKind.i64 (0 : Int)), AV.sc (Value.int IntKind.i64 (0 : Int)), AV.sc (Value.int IntKind.i64 (0 : Int)), AV.sc (Value.slice none (0 : Nat) (0 : Nat)), AV.sc (Value.string (ByteArray.mk (Array.mk [(44 : UInt8)]))), AV.sc (Value.string (ByteArray.mk (Array.mk (List.map byteD [])))), AV.sc (Value.slice none (0 : Nat) (0 : Nat))]
def hSb11 : Heap := (Heap.mk (6 : Nat) (((Tr.leaf.node (some (AObj.cells (hSb10))) Tr.leaf).node (some (AObj.cells (hSb1))) (Tr.leaf.node (some (AObj.own (1 : Nat) (9 : Nat) (0 : Nat))) Tr.leaf)).node none ((Tr.leaf.node (some (AObj.own (1 : Nat) (5 : Nat) (0 : Nat))) Tr.leaf).node (some (AObj.cells (hSb2))) Tr.leaf)) (0 : Nat) (((Tr.leaf.node (some ((112 : Nat), (16 : Nat))) Tr.leaf).node (some ((61 : Nat), (hSb1).length)) Tr.leaf).node none (Tr.leaf.node (some ((108 : Nat), (13 : Nat))) Tr.leaf)))
def hSb12 (y0 : List UInt8) : Heap := (Heap.mk (9 : Nat) ((((Tr.leaf.node (some (AObj.cells [AV.sc (Value.string (ByteArray.mk (Array.mk []))), AV.sc (Value.string (ByteArray.mk (Array.mk [])))])) Tr.leaf).node (some (AObj.cells (hSb8 y0))) Tr.leaf).node (some (AObj.cells (hSb1))) (Tr.leaf.node (some (AObj.own (1 : Nat) (9 : Nat) (0 : Nat))) Tr.leaf)).node none (((Tr.leaf.node (some (AObj.cells [AV.sc (Value.string (ByteArray.mk (Array.mk (List.map byteD [])))), AV.sc (Value.string (ByteArray.mk (Array.mk [])))])) Tr.leaf).node (some (AObj.own (1 : Nat) (5 : Nat) (0 : Nat))) Tr.leaf).node (some (AObj.cells (hSb2))) (Tr.leaf.node (some (AObj.own (1 : Nat) (5 : Nat) (0 : Nat))) Tr.leaf))) (0 : Nat) (((Tr.leaf.node (some ((112 : Nat), (16 : Nat))) Tr.leaf).node (some ((61 : Nat), (hSb1).length)) Tr.leaf).node none (Tr.leaf.node (some ((108 : Nat), (13 : Nat))) Tr.leaf)))
def hSb13 (y0_2 : List UInt8) : Heap := (Heap.mk (9 : Nat) ((((Tr.leaf.node (some (AObj.cells [AV.sc (Value.string (ByteArray.mk (Array.mk []))), AV.sc (Value.string (ByteArray.mk (Array.mk [])))])) Tr.leaf).node (some (AObj.cells (hSb9 y0_2))) Tr.leaf).node (some (AObj.cells (hSb1))) (Tr.leaf.node (some (AObj.own (1 : Nat) (9 : Nat) (0 : Nat))) Tr.leaf)).node none (((Tr.leaf.node (some (AObj.cells [AV.sc (Value.string (ByteArray.mk (Array.mk (List.map byteD [])))), AV.sc (Value.string (ByteArray.mk (Array.mk [])))])) Tr.leaf).node (some (AObj.own (1 : Nat) (5 : Nat) (0 : Nat))) Tr.leaf).node (some (AObj.cells (hSb2))) (Tr.leaf.node (some (AObj.own (1 : Nat) (5 : Nat) (0 : Nat))) Tr.leaf))) (0 : Nat) (((Tr.leaf.node (some ((112 : Nat), (16 : Nat))) Tr.leaf).node (some ((61 : Nat), (hSb1).length)) Tr.leaf).node none (Tr.leaf.node (some ((108 : Nat), (13 : Nat))) Tr.leaf)))
theorem c7Zs (m : Int) (K : AV → Prop) (h : True ∧
 ∀ (_ : Unit), True → loopAt Tryz.prog (7 : Nat) (9 : Nat) = loopAt Tryz.prog (7 : Nat) (9 : Nat) ∧ (I7as (0 : Int) (0 : Int) ((3 : Nat) + (1 : Nat) + (1 : Nat)) (0 : Int) (hSb4) = I7as (0 : Int) (0 : Int) ((3 : Nat) + (1 : Nat) + (1 : Nat)) (0 : Int) (hSb4) ∧ (0 : Int) = (0 : Int)) ∧
 ∀ (_ : Unit), True → SplNil (AV.agg (hSb2)) (List.map byteD []) ∧
 ∀ (_ : Unit), True → loopAt Tryz.prog (49 : Nat) (4 : Nat) = loopAt Tryz.prog (49 : Nat) (4 : Nat) ∧ I49s ((4 : Nat) + (1 : Nat) + (1 : Nat)) (hSb11) = I49s ((4 : Nat) + (1 : Nat) + (1 : Nat)) (hSb11) ∧
 ∀ (_ : Unit), True → True ∧
 ∀ (_ : Unit), True → loopAt Tryz.prog (7 : Nat) (24 : Nat) = loopAt Tryz.prog (7 : Nat) (24 : Nat) ∧ (I7bs (0 : Int) ((5 : Nat) + (1 : Nat) + (1 : Nat)) (0 : Int) (hSb6) = I7bs (0 : Int) ((5 : Nat) + (1 : Nat) + (1 : Nat)) (0 : Int) (hSb6) ∧ (0 : Int) = (0 : Int)) ∧
 ∀ (_ : Unit), True → loopAt Tryz.prog (49 : Nat) (4 : Nat) = loopAt Tryz.prog (49 : Nat) (4 : Nat) ∧ (I49 (7 : Nat) (2 : Nat) (0 : Int) (0 : Int) (hSb7) = I49 (7 : Nat) (2 : Nat) (0 : Int) (0 : Int) (hSb7) ∧ WholeE (hSb7) (7 : Nat) (2 : Nat)) ∧ (∀ (_ : Unit), Fits (hSb7) (7 : Nat) → RowOk (hSb7) (7 : Nat) (2 : Nat) [(44 : UInt8)] ∧
 ∀ (y0 : List UInt8), RowJoin (hSb7) (7 : Nat) [(44 : UInt8)] y0 → loopAt Tryz.prog (49 : Nat) (4 : Nat) = loopAt Tryz.prog (49 : Nat) (4 : Nat) ∧ (I49 (8 : Nat) (2 : Nat) (0 : Int) (0 : Int) (hSb12 y0) = I49 (8 : Nat) (2 : Nat) (0 : Int) (0 : Int) (hSb12 y0) ∧ WholeE (hSb12 y0) (8 : Nat) (2 : Nat)) ∧ (∀ (_ : Unit), Fits (hSb12 y0) (8 : Nat) → RowOk (hSb12 y0) (8 : Nat) (2 : Nat) [(44 : UInt8)] ∧
 ∀ (y0_2 : List UInt8), RowJoin (hSb12 y0) (8 : Nat) [(44 : UInt8)] y0_2 → GetEasy (hSb13 y0_2) (2 : Int) ∧
 ∀ (y0 : List UInt8), IsGet (hSb13 y0_2) (2 : Int) y0 →
 ∀ (y1m : Int), y1m = IntKind.i64.wrap (IntKind.i64.wrap ((0 : Int) + (1 : Int)) + (↑y0.length : Int)) →
 iteP (decide (y1m ≤ (65536 : Int))) (∀ (y1m : Int), y1m = (↑y0_2.length : Int) →
 iteP (decide (y1m ≤ (65536 : Int))) (True ∧
 ∀ (_ : Unit), True → K (AV.sc (Value.bool true))) (K (AV.sc (Value.bool false)))) (K (AV.sc (Value.bool false)))) ∧
 ∀ (_ : Unit), Over (hSb12 y0) (8 : Nat) → GetEasy (hSb12 y0) (2 : Int) ∧
 ∀ (y0_2 : List UInt8), IsGet (hSb12 y0) (2 : Int) y0_2 →
 ∀ (y1m : Int), y1m = IntKind.i64.wrap (IntKind.i64.wrap ((0 : Int) + (1 : Int)) + (↑y0_2.length : Int)) →
 iteP (decide (y1m ≤ (65536 : Int))) (K (AV.sc (Value.bool false))) (∀ (y1m : Int), y1m = (↑y0.length : Int) →
 iteP (decide (y1m ≤ (65536 : Int))) (True ∧
 ∀ (_ : Unit), True → K (AV.sc (Value.bool true))) (K (AV.sc (Value.bool false))))) ∧
 ∀ (_ : Unit), Over (hSb7) (7 : Nat) → K (AV.sc (Value.bool false))) :
 (fun (m : Int) (K : AV → Prop) => wpCall T0s (cf m) Tryz.prog 60 7 [.sc (.int .i64 0), .sc (.int .i64 0)] heap0 fun r _ => K r) m K :=
 Eq.mp (by kernel_rfl) h
end
end Go.Proofs.Rd
namespace Go.Proofs.Rd
open Go Go.Ef
noncomputable section
set_option maxRecDepth 100000
theorem v7b6 (m : Int) (size : Int) (w : Nat) (i : Int) (k : Nat) (l : Tr AObj) (l1 : Tr AObj) (a : Tr AObj) (b : Tr AObj) (v : Option AObj) (v1 : Option AObj) (ty : Tr (Nat × Nat)) (cs : List AV) (N : List AV → Int → Prop) (X : Prop) (h :
 iteP (decide (i < size))
 (iteP (inRange i w)
 (iteP (ltLen ((0 : Nat) + i.toNat * (1 : Nat)) cs)
 (I7b size (6 : Nat) w (IntKind.i64.wrap (i + (1 : Int)))
 (Heap.mk (k + (7 : Nat))
 (l.node v
 (l1.node v1
 (a.node
 (some
 (AObj.cells
 (setC cs ((0 : Nat) + i.toNat * (1 : Nat)) (AV.sc (Value.int IntKind.u8 (120 : Int))))))
 b)))
 (0 : Nat) ty) =
 I7b size (6 : Nat) w (IntKind.i64.wrap (i + (1 : Int)))
 (Heap.mk (k + (7 : Nat))
 (l.node v
 (l1.node v1
 (a.node
 (some
 (AObj.cells
 (setC cs ((0 : Nat) + i.toNat * (1 : Nat)) (AV.sc (Value.int IntKind.u8 (120 : Int))))))
 b)))
 (0 : Nat) ty) ∧
 N (setC cs ((0 : Nat) + i.toNat * (1 : Nat)) (AV.sc (Value.int IntKind.u8 (120 : Int))))
 (IntKind.i64.wrap (i + (1 : Int))))
 False)
 False)
 (Ex.exit (2 : Nat) = Ex.exit (2 : Nat) ∧
 E7b size (6 : Nat) w
 (Heap.mk (k + (7 : Nat)) (l.node v (l1.node v1 (a.node (some (AObj.cells cs)) b))) (0 : Nat) ty) =
 E7b size (6 : Nat) w
 (Heap.mk (k + (7 : Nat)) (l.node v (l1.node v1 (a.node (some (AObj.cells cs)) b))) (0 : Nat) ty) ∧
 X)) :
 (fun (m : Int) (size : Int) (w : Nat) (i : Int) (k : Nat) (l l1 a b : Tr AObj) (v v1 : Option AObj) (ty : Tr (Nat × Nat)) (cs : List AV) (N : List AV → Int → Prop) (X : Prop) => wpRound T7z (cf m) Tryz.prog 40 7 24 (I7b size 6 w i (hP6 k l l1 a b v v1 ty cs)) (fun τ => τ = I7b size 6 w (slI τ 13) (hP6 k l l1 a b v v1 ty (cellsAt 6 τ.h)) ∧ N (cellsAt 6 τ.h) (slI τ 13)) (q7b size 6 w (hP6 k l l1 a b v v1 ty cs) X)) m size w i k l l1 a b v v1 ty cs N X :=
 Eq.mp (by kernel_rfl) h
end
end Go.Proofs.Rd
namespace Go.Proofs.Rd
open Go Go.Ef
noncomputable section
set_option maxRecDepth 100000
def hPa1 : List AV := [AV.sc (Value.string (ByteArray.mk (Array.mk [(112 : UInt8), (111 : UInt8), (115 : UInt8), (105 : UInt8), (120 : UInt8)]))), AV.sl wEls (0 : Nat), AV.sc (Value.string (ByteArray.mk (Array.mk wLow))), AV.sc (Value.string (ByteArray.mk (Array.mk wUp))), AV.sc (Value.slice none (0 : Nat) (0 : Nat)), AV.sc (Value.slice none (0 : Nat) (0 : Nat))]
def hPa2 : List AV := [AV.sc (Value.string (ByteArray.mk (Array.mk [(58 : UInt8)]))), AV.sc (Value.string (ByteArray.mk (Array.mk []))), AV.sc (Value.int IntKind.i64 (0 : Int)), AV.sc (Value.int IntKind.i64 (0 : Int)), AV.sc (Value.int IntKind.i64 (0 : Int)), AV.sc (Value.int IntKind.u64 (0 : Int)), AV.sc (Value.int IntKind.u64 (0 : Int)), AV.sc (Value.int IntKind.u64 (0 : Int)), AV.sc (Value.int IntKind.u64 (0 : Int)), AV.sc (Value.int IntKind.i64 (0 : Int)), AV.sc (Value.int IntKind.i64 (0 : Int)), AV.sc (Value.int IntKind.i64 (0 : Int)), AV.sc (Value.slice none (0 : Nat) (0 : Nat))]
def hPa3 : List AV := [AV.sc (Value.string (ByteArray.mk (Array.mk [(58 : UInt8)]))), AV.sc (Value.string (ByteArray.mk (Array.mk []))), AV.sc (Value.int IntKind.i64 (0 : Int)), AV.sc (Value.int IntKind.i64 (0 : Int)), AV.sc (Value.int IntKind.i64 (0 : Int)), AV.sc (Value.int IntKind.u64 (0 : Int)), AV.sc (Value.int IntKind.u64 (0 : Int)), AV.sc (Value.int IntKind.u64 (0 : Int)), AV.sc (Value.int IntKind.u64 (0 : Int)), AV.sc (Value.int IntKind.i64 (0 : Int)), AV.sc (Value.int IntKind.i64 (0 : Int)), AV.sc (Value.int IntKind.i64 (0 : Int)), AV.sc (Value.slice none (0 : Nat) (0 : Nat)), AV.sc (Value.string (ByteArray.mk (Array.mk [(44 : UInt8)]))), AV.sc (Value.string (ByteArray.mk (Array.mk []))), AV.sc (Value.slice none (0 : Nat) (0 : Nat))]
def hPa4 (n : Int) : Heap := (Heap.mk (5 : Nat) (((Tr.leaf.node (some (AObj.cells (hPa3))) Tr.leaf).node (some (AObj.cells (hPa1))) Tr.leaf).node none ((Tr.leaf.node (some (AObj.cells (repC n (AV.sc (Value.int IntKind.u8 (0 : Int)))))) Tr.leaf).node (some (AObj.cells (hPa2))) Tr.leaf)) (0 : Nat) (((Tr.leaf.node (some ((112 : Nat), (16 : Nat))) Tr.leaf).node (some ((61 : Nat), (hPa1).length)) Tr.leaf).node none (Tr.leaf.node (some ((108 : Nat), (13 : Nat))) Tr.leaf)))
def hPa5 (n : Int) : Heap := (Heap.mk (5 : Nat) (((Tr.leaf.node (some (AObj.cells (hPa3))) Tr.leaf).node (some (AObj.cells (hPa1))) Tr.leaf).node none ((Tr.leaf.node (some (AObj.cells (List.replicate n.toNat (AV.sc (Value.int IntKind.u8 (58 : Int)))))) Tr.leaf).node (some (AObj.cells (hPa2))) Tr.leaf)) (0 : Nat) (((Tr.leaf.node (some ((112 : Nat), (16 : Nat))) Tr.leaf).node (some ((61 : Nat), (hPa1).length)) Tr.leaf).node none (Tr.leaf.node (some ((108 : Nat), (13 : Nat))) Tr.leaf)))
def hPa6 (n : Int) : List AV := [AV.sc (Value.string (ByteArray.mk (Array.mk [(58 : UInt8)]))), AV.sc (Value.string (ByteArray.mk (Array.mk []))), AV.sc (Value.int IntKind.i64 (0 : Int)), AV.sc (Value.int IntKind.i64 (0 : Int)), AV.sc (Value.int IntKind.i64 (0 : Int)), AV.sc (Value.int IntKind.u64 (0 : Int)), AV.sc (Value.int IntKind.u64 (0 : Int)), AV.sc (Value.int IntKind.u64 (0 : Int)), AV.sc (Value.int IntKind.u64 (0 : Int)), AV.sc (Value.int IntKind.i64 (0 : Int)), AV.sc (Value.int IntKind.i64 (0 : Int)), AV.sc (Value.int IntKind.i64 (0 : Int)), AV.sc (Value.slice none (0 : Nat) (0 : Nat)), AV.sc (Value.string (ByteArray.mk (Array.mk [(44 : UInt8)]))), AV.sc (Value.string (ByteArray.mk (Array.mk (joinC (zRow [] n.toNat))))), AV.rsl (hPa5 n).next (0 : Nat) n.toNat (1 : Nat)]
def hPa7 (n : Int) : Heap := (Heap.mk (6 : Nat) (((Tr.leaf.node (some (AObj.cells (hPa6 n))) Tr.leaf).node (some (AObj.cells (hPa1))) (Tr.leaf.node (some (AObj.cells (zRow [] n.toNat))) Tr.leaf)).node none ((Tr.leaf.node (some (AObj.cells (List.replicate n.toNat (AV.sc (Value.int IntKind.u8 (58 : Int)))))) Tr.leaf).node (some (AObj.cells (hPa2))) Tr.leaf)) (0 : Nat) (((Tr.leaf.node (some ((112 : Nat), (16 : Nat))) Tr.leaf).node (some ((61 : Nat), (hPa1).length)) Tr.leaf).node none (Tr.leaf.node (some ((108 : Nat), (13 : Nat))) Tr.leaf)))
def hPa8 (n : Int) : List AV := [AV.sc (Value.string (ByteArray.mk (Array.mk [(58 : UInt8)]))), AV.sc (Value.string (ByteArray.mk (Array.mk []))), AV.sc (Value.int IntKind.i64 (0 : Int)), AV.sc (Value.int IntKind.i64 (0 : Int)), AV.sc (Value.int IntKind.i64 (0 : Int)), AV.sc (Value.int IntKind.u64 (0 : Int)), AV.sc (Value.int IntKind.u64 (0 : Int)), AV.sc (Value.int IntKind.u64 (0 : Int)), AV.sc (Value.int IntKind.u64 (0 : Int)), AV.sc (Value.int IntKind.i64 (0 : Int)), AV.sc (Value.int IntKind.i64 (0 : Int)), AV.sc (Value.int IntKind.i64 (0 : Int)), AV.sc (Value.slice none (0 : Nat) (0 : Nat)), AV.sc (Value.string (ByteArray.mk (Array.mk [(44 : UInt8)]))), AV.sc (Value.string (ByteArray.mk (Array.mk (joinC (pRow (zRow [] n.toNat) n.toNat [(97 : UInt8)]))))), AV.rsl (hPa7 n).next (0 : Nat) (max n.toNat n.toNat) (1 : Nat)]
def hPa9 (size : Int) (n : Int) : Heap := (Heap.mk (8 : Nat) ((((Tr.leaf.node (some (AObj.cells (repC size (AV.sc (Value.int IntKind.u8 (0 : Int)))))) Tr.leaf).node (some (AObj.cells (hPa8 n))) Tr.leaf).node (some (AObj.cells (hPa1))) (Tr.leaf.node (some (AObj.cells (zRow [] n.toNat))) Tr.leaf)).node none ((Tr.leaf.node (some (AObj.cells (List.replicate n.toNat (AV.sc (Value.int IntKind.u8 (58 : Int)))))) Tr.leaf).node (some (AObj.cells (hPa2))) (Tr.leaf.node (some (AObj.cells (pRow (zRow [] n.toNat) n.toNat [(97 : UInt8)]))) Tr.leaf))) (0 : Nat) (((Tr.leaf.node (some ((112 : Nat), (16 : Nat))) Tr.leaf).node (some ((61 : Nat), (hPa1).length)) Tr.leaf).node none (Tr.leaf.node (some ((108 : Nat), (13 : Nat))) Tr.leaf)))
def hPa10 (size : Int) (n : Int) : Heap := (Heap.mk (8 : Nat) ((((Tr.leaf.node (some (AObj.cells (List.replicate size.toNat (AV.sc (Value.int IntKind.u8 (120 : Int)))))) Tr.leaf).node (some (AObj.cells (hPa8 n))) Tr.leaf).node (some (AObj.cells (hPa1))) (Tr.leaf.node (some (AObj.cells (zRow [] n.toNat))) Tr.leaf)).node none ((Tr.leaf.node (some (AObj.cells (List.replicate n.toNat (AV.sc (Value.int IntKind.u8 (58 : Int)))))) Tr.leaf).node (some (AObj.cells (hPa2))) (Tr.leaf.node (some (AObj.cells (pRow (zRow [] n.toNat) n.toNat [(97 : UInt8)]))) Tr.leaf))) (0 : Nat) (((Tr.leaf.node (some ((112 : Nat), (16 : Nat))) Tr.leaf).node (some ((61 : Nat), (hPa1).length)) Tr.leaf).node none (Tr.leaf.node (some ((108 : Nat), (13 : Nat))) Tr.leaf)))
def hPa11 (n : Int) (size : Int) : List AV := [AV.sc (Value.string (ByteArray.mk (Array.mk [(58 : UInt8)]))), AV.sc (Value.string (ByteArray.mk (Array.mk []))), AV.sc (Value.int IntKind.i64 (0 : Int)), AV.sc (Value.int IntKind.i64 (0 : Int)), AV.sc (Value.int IntKind.i64 (0 : Int)), AV.sc (Value.int IntKind.u64 (0 : Int)), AV.sc (Value.int IntKind.u64 (0 : Int)), AV.sc (Value.int IntKind.u64 (0 : Int)), AV.sc (Value.int IntKind.u64 (0 : Int)), AV.sc (Value.int IntKind.i64 (0 : Int)), AV.sc (Value.int IntKind.i64 (0 : Int)), AV.sc (Value.int IntKind.i64 (0 : Int)), AV.sc (Value.slice none (0 : Nat) (0 : Nat)), AV.sc (Value.string (ByteArray.mk (Array.mk [(44 : UInt8)]))), AV.sc (Value.string (ByteArray.mk (Array.mk (joinC (zRow (pRow (zRow [] n.toNat) n.toNat [(97 : UInt8)]) (2 : Nat)))))), AV.rsl (hPa10 size n).next (0 : Nat) (2 : Nat) (1 : Nat)]
def hPa12 (size : Int) (n : Int) : Heap := (Heap.mk (9 : Nat) ((((Tr.leaf.node (some (AObj.cells (List.replicate size.toNat (AV.sc (Value.int IntKind.u8 (120 : Int)))))) Tr.leaf).node (some (AObj.cells (hPa11 n size))) Tr.leaf).node (some (AObj.cells (hPa1))) (Tr.leaf.node (some (AObj.cells (zRow [] n.toNat))) Tr.leaf)).node none (((Tr.leaf.node (some (AObj.cells (zRow (pRow (zRow [] n.toNat) n.toNat [(97 : UInt8)]) (2 : Nat)))) Tr.leaf).node (some (AObj.cells (List.replicate n.toNat (AV.sc (Value.int IntKind.u8 (58 : Int)))))) Tr.leaf).node (some (AObj.cells (hPa2))) (Tr.leaf.node (some (AObj.cells (pRow (zRow [] n.toNat) n.toNat [(97 : UInt8)]))) Tr.leaf))) (0 : Nat) (((Tr.leaf.node (some ((112 : Nat), (16 : Nat))) Tr.leaf).node (some ((61 : Nat), (hPa1).length)) Tr.leaf).node none (Tr.leaf.node (some ((108 : Nat), (13 : Nat))) Tr.leaf)))
def hPa13 (n : Int) (size : Int) : List AV := [AV.sc (Value.string (ByteArray.mk (Array.mk [(58 : UInt8)]))), AV.sc (Value.string (ByteArray.mk (Array.mk []))), AV.sc (Value.int IntKind.i64 (0 : Int)), AV.sc (Value.int IntKind.i64 (0 : Int)), AV.sc (Value.int IntKind.i64 (0 : Int)), AV.sc (Value.int IntKind.u64 (0 : Int)), AV.sc (Value.int IntKind.u64 (0 : Int)), AV.sc (Value.int IntKind.u64 (0 : Int)), AV.sc (Value.int IntKind.u64 (0 : Int)), AV.sc (Value.int IntKind.i64 (0 : Int)), AV.sc (Value.int IntKind.i64 (0 : Int)), AV.sc (Value.int IntKind.i64 (0 : Int)), AV.sc (Value.slice none (0 : Nat) (0 : Nat)), AV.sc (Value.string (ByteArray.mk (Array.mk [(44 : UInt8)]))), AV.sc (Value.string (ByteArray.mk (Array.mk (joinC (pRow (zRow (pRow (zRow [] n.toNat) n.toNat [(97 : UInt8)]) (2 : Nat)) (1 : Nat) (List.map u8B (cutC (List.replicate size.toNat (AV.sc (Value.int IntKind.u8 (120 : Int)))) (0 : Nat) size.toNat))))))), AV.rsl (hPa12 size n).next (0 : Nat) (max (1 : Nat) (Int.toNat (2 : Int))) (1 : Nat)]
def hPa14 (size : Int) (n : Int) : Heap := (Heap.mk (10 : Nat) ((((Tr.leaf.node (some (AObj.cells (List.replicate size.toNat (AV.sc (Value.int IntKind.u8 (120 : Int)))))) Tr.leaf).node (some (AObj.cells (hPa13 n size))) Tr.leaf).node (some (AObj.cells (hPa1))) ((Tr.leaf.node (some (AObj.cells (pRow (zRow (pRow (zRow [] n.toNat) n.toNat [(97 : UInt8)]) (2 : Nat)) (1 : Nat) (List.map u8B (cutC (List.replicate size.toNat (AV.sc (Value.int IntKind.u8 (120 : Int)))) (0 : Nat) size.toNat))))) Tr.leaf).node (some (AObj.cells (zRow [] n.toNat))) Tr.leaf)).node none (((Tr.leaf.node (some (AObj.cells (zRow (pRow (zRow [] n.toNat) n.toNat [(97 : UInt8)]) (2 : Nat)))) Tr.leaf).node (some (AObj.cells (List.replicate n.toNat (AV.sc (Value.int IntKind.u8 (58 : Int)))))) Tr.leaf).node (some (AObj.cells (hPa2))) (Tr.leaf.node (some (AObj.cells (pRow (zRow [] n.toNat) n.toNat [(97 : UInt8)]))) Tr.leaf))) (0 : Nat) (((Tr.leaf.node (some ((112 : Nat), (16 : Nat))) Tr.leaf).node (some ((61 : Nat), (hPa1).length)) Tr.leaf).node none (Tr.leaf.node (some ((108 : Nat), (13 : Nat))) Tr.leaf)))
def hPa15 (size : Int) (n : Int) : Heap := (Heap.mk (10 : Nat) ((((Tr.leaf.node (some (AObj.cells (List.replicate size.toNat (AV.sc (Value.int IntKind.u8 (120 : Int)))))) Tr.leaf).node (some (AObj.cells (hPa11 n size))) Tr.leaf).node (some (AObj.cells (hPa1))) ((Tr.leaf.node (some (AObj.cells (pRow (zRow (pRow (zRow [] n.toNat) n.toNat [(97 : UInt8)]) (2 : Nat)) (1 : Nat) (List.map u8B (cutC (List.replicate size.toNat (AV.sc (Value.int IntKind.u8 (120 : Int)))) (0 : Nat) size.toNat))))) Tr.leaf).node (some (AObj.cells (zRow [] n.toNat))) Tr.leaf)).node none (((Tr.leaf.node (some (AObj.cells (zRow (pRow (zRow [] n.toNat) n.toNat [(97 : UInt8)]) (2 : Nat)))) Tr.leaf).node (some (AObj.cells (List.replicate n.toNat (AV.sc (Value.int IntKind.u8 (58 : Int)))))) Tr.leaf).node (some (AObj.cells (hPa2))) (Tr.leaf.node (some (AObj.cells (pRow (zRow [] n.toNat) n.toNat [(97 : UInt8)]))) Tr.leaf))) (0 : Nat) (((Tr.leaf.node (some ((112 : Nat), (16 : Nat))) Tr.leaf).node (some ((61 : Nat), (hPa1).length)) Tr.leaf).node none (Tr.leaf.node (some ((108 : Nat), (13 : Nat))) Tr.leaf)))
theorem c7C (m : Int) (n : Int) (size : Int) (K : AV → Prop) (h :
 iteP (decide (n < (0 : Int))) (True ∧
 ∀ (_ : Unit), True → K (AV.sc (Value.bool true)))
 (iteP (decide ((70000 : Int) < n)) (True ∧
 ∀ (_ : Unit), True → K (AV.sc (Value.bool true)))
 (iteP (decide (size < (0 : Int))) (True ∧
 ∀ (_ : Unit), True → K (AV.sc (Value.bool true)))
 (iteP (decide ((70000 : Int) < size)) (True ∧
 ∀ (_ : Unit), True → K (AV.sc (Value.bool true))) (True ∧
 ∀ (_ : Unit), True →
 iteP (decide ((0 : Int) ≤ n) && decide (n ≤ n) && decide (n ≤ (140737488355328 : Int)) && (n.toNat * (1 : Nat)).ble (140737488355328 : Nat))
 (iteP (n.toNat.beq (0 : Nat)) False (loopAt Tryz.prog (7 : Nat) (9 : Nat) = loopAt Tryz.prog (7 : Nat) (9 : Nat) ∧ (I7a n size n.toNat (0 : Int) (hPa4 n) = I7a n size n.toNat (0 : Int) (hPa4 n) ∧ Fill (hPa4 n) (4 : Nat) n n.toNat) ∧
 ∀ (_ : Unit), True →
 iteP (decide ((1024 : Int) ≤ n))
 (iteP (endCells ((0 : Nat) + n.toNat) (List.replicate n.toNat (AV.sc (Value.int IntKind.u8 (58 : Int)))))
 (iteP (decide ((65536 : Int) < (↑(List.map u8B (cutC (List.replicate n.toNat (AV.sc (Value.int IntKind.u8 (58 : Int)))) (0 : Nat) n.toNat)).length : Int))) (Rz (hPa5 n) (AV.sc (Value.slice none (0 : Nat) (0 : Nat))) n ∧
 ∀ (_ : Unit), True → PutIn (hPa7 n) (AV.rsl (hPa5 n).next (0 : Nat) n.toNat (1 : Nat)) n [(97 : UInt8)] ∧
 ∀ (_ : Unit), True →
 iteP (decide ((1024 : Int) < n)) (K (AV.sc (Value.bool false)))
 (iteP (decide ((0 : Int) < n))
 (iteP ((↑(max n.toNat n.toNat) : Int) != n) (K (AV.sc (Value.bool false)))
 (iteP (decide ((0 : Int) ≤ size) && decide (size ≤ size) && decide (size ≤ (140737488355328 : Int)) && (size.toNat * (1 : Nat)).ble (140737488355328 : Nat))
 (iteP (size.toNat.beq (0 : Nat)) False (loopAt Tryz.prog (7 : Nat) (24 : Nat) = loopAt Tryz.prog (7 : Nat) (24 : Nat) ∧ (I7b size (7 : Nat) size.toNat (0 : Int) (hPa9 size n) = I7b size (7 : Nat) size.toNat (0 : Int) (hPa9 size n) ∧ Fill (hPa9 size n) (7 : Nat) size size.toNat) ∧
 ∀ (_ : Unit), True → Rz (hPa10 size n) (AV.rsl (hPa7 n).next (0 : Nat) (max n.toNat n.toNat) (1 : Nat)) (2 : Int) ∧
 ∀ (_ : Unit), True →
 iteP (endCells ((0 : Nat) + size.toNat) (List.replicate size.toNat (AV.sc (Value.int IntKind.u8 (120 : Int))))) (PutOr (hPa12 size n) (AV.rsl (hPa10 size n).next (0 : Nat) (2 : Nat) (1 : Nat)) (1 : Int) (List.map u8B (cutC (List.replicate size.toNat (AV.sc (Value.int IntKind.u8 (120 : Int)))) (0 : Nat) size.toNat)) ∧ (∀ (_ : Unit), FitP (joinC (pRow (zRow (pRow (zRow [] n.toNat) n.toNat [(97 : UInt8)]) (2 : Nat)) (1 : Nat) (List.map u8B (cutC (List.replicate size.toNat (AV.sc (Value.int IntKind.u8 (120 : Int)))) (0 : Nat) size.toNat)))) → GetEasy (hPa14 size n) (2 : Int) ∧
 ∀ (y0 : List UInt8), IsGet (hPa14 size n) (2 : Int) y0 →
 ∀ (y1m : Int), y1m = IntKind.i64.wrap (IntKind.i64.wrap (size + (1 : Int)) + (↑y0.length : Int)) →
 iteP (decide (y1m ≤ (65536 : Int))) (∀ (y1m : Int), y1m = (↑(joinC (pRow (zRow (pRow (zRow [] n.toNat) n.toNat [(97 : UInt8)]) (2 : Nat)) (1 : Nat) (List.map u8B (cutC (List.replicate size.toNat (AV.sc (Value.int IntKind.u8 (120 : Int)))) (0 : Nat) size.toNat)))).length : Int) →
 iteP (decide (y1m ≤ (65536 : Int))) (True ∧
 ∀ (_ : Unit), True → K (AV.sc (Value.bool true))) (K (AV.sc (Value.bool false)))) (K (AV.sc (Value.bool false)))) ∧
 ∀ (_ : Unit), OverP (joinC (pRow (zRow (pRow (zRow [] n.toNat) n.toNat [(97 : UInt8)]) (2 : Nat)) (1 : Nat) (List.map u8B (cutC (List.replicate size.toNat (AV.sc (Value.int IntKind.u8 (120 : Int)))) (0 : Nat) size.toNat)))) → GetEasy (hPa15 size n) (2 : Int) ∧
 ∀ (y0 : List UInt8), IsGet (hPa15 size n) (2 : Int) y0 →
 ∀ (y1m : Int), y1m = IntKind.i64.wrap (IntKind.i64.wrap (size + (1 : Int)) + (↑y0.length : Int)) →
 iteP (decide (y1m ≤ (65536 : Int))) (K (AV.sc (Value.bool false))) (∀ (y1m : Int), y1m = (↑(joinC (zRow (pRow (zRow [] n.toNat) n.toNat [(97 : UInt8)]) (2 : Nat))).length : Int) →
 iteP (decide (y1m ≤ (65536 : Int))) (True ∧
 ∀ (_ : Unit), True → K (AV.sc (Value.bool true))) (K (AV.sc (Value.bool false))))) False)) False)) (K (AV.sc (Value.bool false))))) (SplOver (AV.agg (hPa2)) (List.map u8B (cutC (List.replicate n.toNat (AV.sc (Value.int IntKind.u8 (58 : Int)))) (0 : Nat) n.toNat)) ∧
 ∀ (_ : Unit), True → Rz (hPa5 n) (AV.sc (Value.slice none (0 : Nat) (0 : Nat))) n ∧
 ∀ (_ : Unit), True → PutIn (hPa7 n) (AV.rsl (hPa5 n).next (0 : Nat) n.toNat (1 : Nat)) n [(97 : UInt8)] ∧
 ∀ (_ : Unit), True →
 iteP (decide ((1024 : Int) < n)) (K (AV.sc (Value.bool false)))
 (iteP (decide ((0 : Int) < n))
 (iteP ((↑(max n.toNat n.toNat) : Int) != n) (K (AV.sc (Value.bool false)))
 (iteP (decide ((0 : Int) ≤ size) && decide (size ≤ size) && decide (size ≤ (140737488355328 : Int)) && (size.toNat * (1 : Nat)).ble (140737488355328 : Nat))
 (iteP (size.toNat.beq (0 : Nat)) False (loopAt Tryz.prog (7 : Nat) (24 : Nat) = loopAt Tryz.prog (7 : Nat) (24 : Nat) ∧ (I7b size (7 : Nat) size.toNat (0 : Int) (hPa9 size n) = I7b size (7 : Nat) size.toNat (0 : Int) (hPa9 size n) ∧ Fill (hPa9 size n) (7 : Nat) size size.toNat) ∧
 ∀ (_ : Unit), True → Rz (hPa10 size n) (AV.rsl (hPa7 n).next (0 : Nat) (max n.toNat n.toNat) (1 : Nat)) (2 : Int) ∧
 ∀ (_ : Unit), True →
 iteP (endCells ((0 : Nat) + size.toNat) (List.replicate size.toNat (AV.sc (Value.int IntKind.u8 (120 : Int))))) (PutOr (hPa12 size n) (AV.rsl (hPa10 size n).next (0 : Nat) (2 : Nat) (1 : Nat)) (1 : Int) (List.map u8B (cutC (List.replicate size.toNat (AV.sc (Value.int IntKind.u8 (120 : Int)))) (0 : Nat) size.toNat)) ∧ (∀ (_ : Unit), FitP (joinC (pRow (zRow (pRow (zRow [] n.toNat) n.toNat [(97 : UInt8)]) (2 : Nat)) (1 : Nat) (List.map u8B (cutC (List.replicate size.toNat (AV.sc (Value.int IntKind.u8 (120 : Int)))) (0 : Nat) size.toNat)))) → GetEasy (hPa14 size n) (2 : Int) ∧
 ∀ (y0 : List UInt8), IsGet (hPa14 size n) (2 : Int) y0 →
 ∀ (y1m : Int), y1m = IntKind.i64.wrap (IntKind.i64.wrap (size + (1 : Int)) + (↑y0.length : Int)) →
 iteP (decide (y1m ≤ (65536 : Int))) (∀ (y1m : Int), y1m = (↑(joinC (pRow (zRow (pRow (zRow [] n.toNat) n.toNat [(97 : UInt8)]) (2 : Nat)) (1 : Nat) (List.map u8B (cutC (List.replicate size.toNat (AV.sc (Value.int IntKind.u8 (120 : Int)))) (0 : Nat) size.toNat)))).length : Int) →
 iteP (decide (y1m ≤ (65536 : Int))) (True ∧
 ∀ (_ : Unit), True → K (AV.sc (Value.bool true))) (K (AV.sc (Value.bool false)))) (K (AV.sc (Value.bool false)))) ∧
 ∀ (_ : Unit), OverP (joinC (pRow (zRow (pRow (zRow [] n.toNat) n.toNat [(97 : UInt8)]) (2 : Nat)) (1 : Nat) (List.map u8B (cutC (List.replicate size.toNat (AV.sc (Value.int IntKind.u8 (120 : Int)))) (0 : Nat) size.toNat)))) → GetEasy (hPa15 size n) (2 : Int) ∧
 ∀ (y0 : List UInt8), IsGet (hPa15 size n) (2 : Int) y0 →
 ∀ (y1m : Int), y1m = IntKind.i64.wrap (IntKind.i64.wrap (size + (1 : Int)) + (↑y0.length : Int)) →
 iteP (decide (y1m ≤ (65536 : Int))) (K (AV.sc (Value.bool false))) (∀ (y1m : Int), y1m = (↑(joinC (zRow (pRow (zRow [] n.toNat) n.toNat [(97 : UInt8)]) (2 : Nat))).length : Int) →
 iteP (decide (y1m ≤ (65536 : Int))) (True ∧
 ∀ (_ : Unit), True → K (AV.sc (Value.bool true))) (K (AV.sc (Value.bool false))))) False)) False)) (K (AV.sc (Value.bool false)))))) False)
 (iteP (endCells ((0 : Nat) + n.toNat) (List.replicate n.toNat (AV.sc (Value.int IntKind.u8 (58 : Int)))))
 (iteP (decide ((65536 : Int) < (↑(List.map u8B (cutC (List.replicate n.toNat (AV.sc (Value.int IntKind.u8 (58 : Int)))) (0 : Nat) n.toNat)).length : Int))) (K (AV.sc (Value.bool false))) (SplOver (AV.agg (hPa2)) (List.map u8B (cutC (List.replicate n.toNat (AV.sc (Value.int IntKind.u8 (58 : Int)))) (0 : Nat) n.toNat)) ∧
 ∀ (_ : Unit), True → K (AV.sc (Value.bool false)))) False))) False))))) :
 (fun (m : Int) (n size : Int) (K : AV → Prop) => wpCall TCs (cf m) Tryz.prog 60 7 [.sc (.int .i64 n), .sc (.int .i64 size)] heap0 fun r _ => K r) m n size K :=
 Eq.mp (by kernel_rfl) h
end
end Go.Proofs.Rd
