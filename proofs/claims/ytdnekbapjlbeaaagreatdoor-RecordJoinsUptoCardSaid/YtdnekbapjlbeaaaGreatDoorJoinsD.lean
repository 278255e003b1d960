/- A part of the proof: definitions and lemmas. -/
import Derived.Test.YtdnekbapjlbeaaaGreatDoorJoinsC
import Derived.Lib.Join
namespace Go.Ef
open Go
noncomputable section
structure TabOk (P : Program) (C : Cfg) (T : Tab) : Prop where
 call : ∀ g t args h s, T.call g = some t → t args h = some s → s.pre → ∃ a ∈ s.alts, ∃ x m, a.post x ∧ callP C (evCall C P m) g args h = some (a.val x, a.heap x)
 loop : ∀ f i t σ s, T.loop f i = some t → t σ = some s → s.pre → ∃ a ∈ s.alts, ∃ x m, a.post x ∧ evCode C P m f (.loop (loopAt P f i)) σ = some (a.ex, a.st x)
def Ev (C : Cfg) (P : Program) (f : FuncId) (c : Code) (σ : St) (K : KR) : Prop := ∃ m e τ, evCode C P m f c σ = some (e, τ) ∧ K e τ
def EvC (C : Cfg) (P : Program) (g : FuncId) (args : List AV) (h : Heap) (K : AV → Heap → Prop) : Prop := ∃ m v h', evCall C P m g args h = some (v, h') ∧ K v h'
def EvP (C : Cfg) (P : Program) (g : FuncId) (args : List AV) (h : Heap) (K : AV → Heap → Prop) : Prop := ∃ m v h', callP C (evCall C P m) g args h = some (v, h') ∧ K v h'
section
variable {P : Program} {C : Cfg} {T : Tab}
def RunWOk (P : Program) (C : Cfg) (run : RunW) : Prop := ∀ f c σ K, run f c σ K → Ev C P f c σ K
def CallWOk (P : Program) (C : Cfg) (call : CallW) : Prop := ∀ g args h K, call g args h K → EvC C P g args h K
theorem forceL_eq {f : AV → (AV → Prop) → Prop} (hf : ∀ a k, f a k = k a) : ∀ (l : List AV) (k : List AV → Prop), forceL f l k = k l := by
 intro l
 induction l with
 | nil => intro k; rfl
 | cons x l ih =>
  intro k
  show (f x fun y => forceL f l fun l => k (y :: l)) = _
  rw [hf, ih]
theorem forceA_eq : ∀ n a k, forceA n a k = k a := by
 intro n
 induction n with
 | zero => intro a k; rfl
 | succ n ih =>
  intro a k
  cases a with
  | sc v =>
   cases v <;> rfl
  | agg cs => exact forceL_eq ih cs fun l => k (.agg l)
  | tup cs => exact forceL_eq ih cs fun l => k (.tup l)
  | _ => rfl
theorem forceO_eq (v : Option Slot) (k : Option Slot → Prop) : forceO v k = k v := by
 cases v with
 | none => rfl
 | some s =>
  cases s with
  | v a => exact forceA_eq 2 a fun a => k (some (.v a))
  | lp i j => rfl
  | unk => rfl
theorem forceT_eq : ∀ (t : Tr Slot) (k : Tr Slot → Prop), forceT t k = k t := by
 intro t
 induction t with
 | leaf => intro k; rfl
 | node l v r ihl ihr =>
  intro k
  show (forceT l fun l => forceT r fun r => forceO v fun v => k (.node l v r)) = _
  rw [ihl, ihr, forceO_eq]
theorem forceC_eq : ∀ (l : List LObj) (k : List LObj → Prop), forceC l k = k l := by
 intro l
 induction l with
 | nil => intro k; rfl
 | cons x l ih =>
  intro k
  cases x with
  | cells cs =>
   show (forceL (forceA 1) cs fun cs => forceC l fun l => k (.cells cs :: l)) = _
   rw [forceL_eq (forceA_eq 1), ih]
  | iter s p => exact ih fun l => k (.iter s p :: l)
theorem forceH_eq : ∀ (t : Tr AObj) (k : Tr AObj → Prop), forceH t k = k t := by
 intro t
 induction t with
 | leaf => intro k; rfl
 | node l v r ihl ihr =>
  intro k
  show (forceH l fun l => forceH r fun r => match v with
   | none => k (.node l none r)
   | some o => match o with
    | .cells cs => forceL (forceA 1) cs fun cs => k (.node l (some (.cells cs)) r)
    | o => k (.node l (some o) r)) = _
  rw [ihl, ihr]
  cases v with
  | none => rfl
  | some o =>
   cases o with
   | cells cs => exact forceL_eq (forceA_eq 1) cs fun cs => k (.node l (some (.cells cs)) r)
   | _ => rfl
theorem forceS_eq (σ : St) (k : St → Prop) : forceS σ k = k σ := by
 obtain ⟨n, tm, d, loc, h⟩ := σ
 obtain ⟨nx, objs, ro, ty⟩ := h
 show (forceT tm fun tm => forceC loc fun loc => forceH objs fun objs => k ⟨n, tm, d, loc, ⟨nx, objs, ro, ty⟩⟩) = _
 rw [forceT_eq, forceC_eq, forceH_eq]
theorem forceZ_eq (b : Bool) (σ : St) (k : St → Prop) : forceZ b σ k = k σ := by
 unfold forceZ
 cases b with
 | false => exact forceS_eq σ k
 | true =>
  obtain ⟨n, tm, d, loc, h⟩ := σ
  show (forceT tm fun tm => forceC loc fun loc => k ⟨n, tm, d, loc, h⟩) = _
  rw [forceT_eq, forceC_eq]
theorem wpCAlts_ok {K : AV → Heap → Prop} : ∀ {l : List CAlt}, wpCAlts l K → ∀ a ∈ l, ∀ x, a.post x → K (a.val x) (a.heap x) := by
 intro l
 induction l with
 | nil => intro _ a ha; cases ha
 | cons s r ih =>
  intro h a ha
  cases r with
  | nil =>
   cases ha with
   | head => exact h
   | tail _ h' => cases h'
  | cons u r =>
   cases ha with
   | head => exact h.1
   | tail _ h' => exact ih h.2 a h'
theorem wpLAlts_ok {K : Ex → St → Prop} : ∀ {l : List LAlt}, wpLAlts l K → ∀ a ∈ l, ∀ x, a.post x → K a.ex (a.st x) := by
 intro l
 induction l with
 | nil => intro _ a ha; cases ha
 | cons s r ih =>
  intro h a ha
  cases r with
  | nil =>
   cases ha with
   | head => exact h
   | tail _ h' => cases h'
  | cons u r =>
   cases ha with
   | head => exact h.1
   | tail _ h' => exact ih h.2 a h'
theorem callB_ok {run : RunW} (H : RunWOk P C run) : CallWOk P C (wpCallB C P run) := by
 intro g args h K hw
 unfold wpCallB at hw
 split at hw
 ·rename_i fn hf
  split at hw
  ·rename_i c hb
   obtain ⟨m, e, τ, h1, h2⟩ := H g c _ _ hw
   split at h2
   ·rename_i v h' he
    refine ⟨m, v, h', ?_, h2⟩
    unfold evCall callWith
    rw [hf]; simp only []; rw [hb]; simp only []
    unfold entry at h1
    rw [h1]; exact he
   ·exact h2.elim
  ·exact hw.elim
 ·exact hw.elim
theorem callP_okW {call : CallW} (O : TabOk P C T) (H : CallWOk P C call) {g : FuncId} {args : List AV} {h : Heap} {K : AV → Heap → Prop} (hw : wpCallP T C call g args h K) : EvP C P g args h K := by
 unfold wpCallP at hw
 split at hw
 ·rename_i t ht
  split at hw
  ·rename_i s hs
   obtain ⟨a, ha, x, m, h1, h2⟩ := O.call g t args h s ht hs hw.1
   exact ⟨m, _, _, h2, wpCAlts_ok hw.2 a ha x h1⟩
  ·exact hw.elim
 ·split at hw
  ·rename_i p hp
   split at hw
   ·rename_i v h' he
    exact ⟨0, v, h', by unfold callP; rw [hp]; exact he, hw⟩
   ·exact hw.elim
  ·rename_i hp
   cases hfr : C.fresh g with
   | true =>
    rw [hfr] at hw
    obtain ⟨args', h1, h2⟩ := wpStrips_ok _ _ hw
    obtain ⟨m, v, h', h3, h4⟩ := H _ _ _ _ h2
    obtain ⟨y, h5, h6⟩ := wpBack_ok h4
    refine ⟨m, y, h, ?_, h6⟩
    unfold callP
    rw [hp]; simp only []; rw [hfr]; simp only [cond_true]; rw [h1]; simp only []; rw [h3]; simp only []; rw [h5]
   | false =>
    rw [hfr] at hw
    simp only [cond_false] at hw
    cases hpu : C.pure g with
    | true =>
     rw [hpu] at hw
     obtain ⟨m, v, h', h3, h4⟩ := H _ _ _ _ hw
     obtain ⟨y, h5, h6⟩ := wpBack_ok h4
     refine ⟨m, y, h, ?_, h6⟩
     unfold callP
     rw [hp]; simp only []; rw [hfr, hpu]; simp only [cond_true, cond_false]; rw [h3]; simp only []; rw [h5]
    | false =>
     rw [hpu] at hw
     obtain ⟨m, v, h', h3, h4⟩ := H _ _ _ _ hw
     refine ⟨m, v, h', ?_, h4⟩
     unfold callP
     rw [hp]; simp only []; rw [hfr, hpu]; exact h3
theorem evP_back {σ : St} {g : FuncId} {args : List AV} {K : KS} (h : EvP C P g args σ.h fun v h => K (.v v) { σ with h := h }) : ∃ m s τ, back σ (callP C (evCall C P m) g args σ.h) = some (s, τ) ∧ K s τ := by
 obtain ⟨m, v, h', h1, h2⟩ := h
 exact ⟨m, _, _, by rw [h1]; rfl, h2⟩
theorem op_okW {call : CallW} (O : TabOk P C T) (H : CallWOk P C call) {f : FuncId} {o : Oper} {σ : St} {K : KS} (hw : wpOp T C P call f o σ K) : ∃ m s τ, evOp C P (evCall C P m) f o σ = some (s, τ) ∧ K s τ := by
 unfold wpOp at hw
 split at hw
 ·rename_i ho; obtain ⟨s, τ, h1, h2⟩ := wpIndex_ok hw; exact ⟨0, s, τ, by unfold evOp; rw [ho]; exact h1, h2⟩
 ·rename_i ho; obtain ⟨s, τ, h1, h2⟩ := wpSlice_ok hw; exact ⟨0, s, τ, by unfold evOp; rw [ho]; exact h1, h2⟩
 ·rename_i ho; obtain ⟨s, τ, h1, h2⟩ := wpIndexAddr_ok hw; exact ⟨0, s, τ, by unfold evOp; rw [ho]; exact h1, h2⟩
 ·rename_i ho; obtain ⟨s, τ, h1, h2⟩ := wpBin_ok hw; exact ⟨0, s, τ, by unfold evOp; rw [ho]; exact h1, h2⟩
 ·rename_i ho; obtain ⟨s, τ, h1, h2⟩ := wpConv_ok hw; exact ⟨0, s, τ, by unfold evOp; rw [ho]; exact h1, h2⟩
 ·rename_i ho; obtain ⟨s, τ, h1, h2⟩ := wpLoad_ok hw; exact ⟨0, s, τ, by unfold evOp; rw [ho]; exact h1, h2⟩
 ·rename_i ho; obtain ⟨s, τ, h1, h2⟩ := wpStore_ok hw; exact ⟨0, s, τ, by unfold evOp; rw [ho]; exact h1, h2⟩
 ·rename_i ho; obtain ⟨s, τ, h1, h2⟩ := wpMake_ok hw; exact ⟨0, s, τ, by unfold evOp; rw [ho]; exact h1, h2⟩
 ·rename_i c ho
  unfold wpOpCall at hw
  split at hw
  ·exact hw.elim
  ·rename_i args hargs
   split at hw
   ·rename_i b hb
    split at hw
    ·split at hw
     ·obtain ⟨s, τ, h1, h2⟩ := wpCopy_ok hw
      exact ⟨0, s, τ, by unfold evOp; rw [ho]; simp only []; unfold opCall; rw [hargs]; simp only []; rw [hb]; exact h1, h2⟩
     ·exact hw.elim
    ·cases hsn : T.symN f with
     | true =>
      rw [hsn] at hw
      simp only [cond_true] at hw
      split at hw
      ·obtain ⟨s, τ, h1, h2⟩ := wpAppendG_ok hw
       exact ⟨0, s, τ, by unfold evOp; rw [ho]; simp only []; unfold opCall; rw [hargs]; simp only []; rw [hb]; exact h1, h2⟩
      ·exact hw.elim
     | false =>
      rw [hsn] at hw
      simp only [cond_false] at hw
      obtain ⟨s, τ, h1, h2⟩ := wpBuiltin_ok hw
      exact ⟨0, s, τ, by unfold evOp; rw [ho]; simp only []; unfold opCall; rw [hargs]; simp only []; rw [hb]; exact h1, h2⟩
    ·obtain ⟨s, τ, h1, h2⟩ := wpBuiltin_ok hw
     exact ⟨0, s, τ, by unfold evOp; rw [ho]; simp only []; unfold opCall; rw [hargs]; simp only []; rw [hb]; exact h1, h2⟩
   ·rename_i x hx
    unfold wpCallV at hw
    split at hw
    ·rename_i g first cap hv
     obtain ⟨m, s, τ, h1, h2⟩ := evP_back (callP_okW O H hw)
     exact ⟨m, s, τ, by unfold evOp; rw [ho]; simp only []; unfold opCall; rw [hargs]; simp only []; rw [hx]; simp only []; unfold callVal; rw [hv]; exact h1, h2⟩
    ·exact hw.elim
   ·rename_i x name hx
    unfold wpCallM at hw
    split at hw
    ·rename_i t v hv
     split at hw
     ·rename_i g r hm
      obtain ⟨m, s, τ, h1, h2⟩ := evP_back (callP_okW O H hw)
      exact ⟨m, s, τ, by unfold evOp; rw [ho]; simp only []; unfold opCall; rw [hargs]; simp only []; rw [hx]; simp only []; unfold callMeth; rw [hv]; simp only []; rw [hm]; exact h1, h2⟩
     ·exact hw.elim
    ·exact hw.elim
 ·obtain ⟨s, τ, h1, h2⟩ := wpRes_ok hw
  exact ⟨0, s, τ, op_le (fun _ _ _ _ h => by cases h) h1, h2⟩
theorem step_okW {call : CallW} (O : TabOk P C T) (H : CallWOk P C call) {f : FuncId} {ops : Array Oper} {o : Oper} {σ : St} {K : St → Prop} (hw : wpStep T C P call f ops o σ K) : ∃ m τ, evStep C P (evCall C P m) f ops o σ = some τ ∧ K τ := by
 unfold wpStep at hw
 split at hw
 ·rename_i q hq
  rcases iteP_elim hw with ⟨h1, h2⟩ | ⟨h1, h2⟩
  ·obtain ⟨m, s, τ, h3, h4⟩ := op_okW O H h2
   obtain ⟨τ', h5, h6⟩ := wpPutN_ok h4
   refine ⟨m, τ', ?_, h6⟩
   unfold evStep
   rw [hq, h1]; simp only []; rw [h3]; exact h5
  ·clear hw
   split at h2
   ·rename_i τ hp
    refine ⟨0, τ, ?_, h2⟩
    unfold evStep
    rw [hq, h1]; exact hp
   ·exact h2.elim
 ·exact hw.elim
theorem ops_okW {call : CallW} (O : TabOk P C T) (H : CallWOk P C call) {f : FuncId} {ops : Array Oper} : ∀ (l : List Oper) (σ : St) (K : St → Prop), wpOpsW T C P call f ops l σ K → ∃ m τ, evOps C P (evCall C P m) f ops l σ = some τ ∧ K τ := by
 intro l
 induction l with
 | nil => intro σ K h; exact ⟨0, σ, rfl, h⟩
 | cons o l ih =>
  intro σ K h
  obtain ⟨m, τ, h1, h2⟩ := step_okW O H (K := fun τ => wpOpsW T C P call f ops l τ K) h
  obtain ⟨m', τ', h3, h4⟩ := ih τ K h2
  refine ⟨max m m', τ', ?_, h4⟩
  rw [evOps_cons, step_le (call_mono (Nat.le_max_left m m')) h1]
  exact ops_le (call_mono (Nat.le_max_right m m')) _ _ _ h3
theorem Ev.region {f : FuncId} {id : Nat} {ops : Array Oper} {draw : Bool} {σ : St} {K : KR} (hd : (draw && C.bad f id) = false) (h : ∃ m τ, evOps C P (evCall C P m) f ops ops.toList σ = some τ ∧ K .normal τ) : Ev C P f (.region id ops draw) σ K := by
 obtain ⟨m, τ, h1, h2⟩ := h
 refine ⟨m + 1, .normal, τ, ?_, h2⟩
 show evReg C P (callWith C P (evCode C P m)) f id ops draw σ = _
 unfold evReg
 rw [hd]; simp only [cond_false]
 show (match evOps C P (evCall C P m) f ops ops.toList σ with | some σ' => some (Ex.normal, σ') | none => none) = _
 rw [h1]
theorem Ev.seq {f : FuncId} {a b : Code} {σ : St} {K : KR} (h : Ev C P f a σ fun e τ => match e with | .normal => Ev C P f b τ K | .exit i => K (.exit i) τ | .ret => K .ret τ) : Ev C P f (.seq a b) σ K := by
 obtain ⟨m, e, τ, h1, h2⟩ := h
 cases e with
 | normal =>
  obtain ⟨m', e', τ', h3, h4⟩ := h2
  refine ⟨max m m' + 1, e', τ', ?_, h4⟩
  show evSeq (evCode C P (max m m') f a σ) (evCode C P (max m m') f b) = _
  rw [code_mono (Nat.le_max_left m m') _ _ _ _ h1]
  exact code_mono (Nat.le_max_right m m') _ _ _ _ h3
 | exit i =>
  refine ⟨m + 1, .exit i, τ, ?_, h2⟩
  show evSeq (evCode C P m f a σ) (evCode C P m f b) = _
  rw [h1]; rfl
 | ret =>
  refine ⟨m + 1, .ret, τ, ?_, h2⟩
  show evSeq (evCode C P m f a σ) (evCode C P m f b) = _
  rw [h1]; rfl
theorem Ev.cond {f : FuncId} {c : Operand} {a b : Code} {σ : St} {K : KR} {t : Bool} (hc : σ.val c = some (.sc (.bool t))) (h : iteP t (Ev C P f a σ K) (Ev C P f b σ K)) : Ev C P f (.cond c a b) σ K := by
 cases t with
 | true =>
  obtain ⟨m, e, τ, h1, h2⟩ := h
  refine ⟨m + 1, e, τ, ?_, h2⟩
  show evCond σ c (evCode C P m f a σ) (evCode C P m f b σ) = _
  unfold evCond; rw [hc]; exact h1
 | false =>
  obtain ⟨m, e, τ, h1, h2⟩ := h
  refine ⟨m + 1, e, τ, ?_, h2⟩
  show evCond σ c (evCode C P m f a σ) (evCode C P m f b σ) = _
  unfold evCond; rw [hc]; exact h1
theorem Ev.block {f : FuncId} {id : Nat} {b : Code} {σ : St} {K : KR} (h : Ev C P f b σ fun e τ => match e with | .normal => K .normal τ | .exit i => bif Nat.beq i id then K .normal τ else K (.exit i) τ | .ret => K .ret τ) : Ev C P f (.block id b) σ K := by
 obtain ⟨m, e, τ, h1, h2⟩ := h
 cases e with
 | normal => exact ⟨m + 1, .normal, τ, by show evBlk id (evCode C P m f b σ) = _; rw [h1]; rfl, h2⟩
 | ret => exact ⟨m + 1, .ret, τ, by show evBlk id (evCode C P m f b σ) = _; rw [h1]; rfl, h2⟩
 | exit i =>
  cases hq : Nat.beq i id with
  | true =>
   simp only [hq, cond_true] at h2
   exact ⟨m + 1, .normal, τ, by show evBlk id (evCode C P m f b σ) = _; rw [h1]; simp only [evBlk, hq, cond_true], h2⟩
  | false =>
   simp only [hq, cond_false] at h2
   exact ⟨m + 1, .exit i, τ, by show evBlk id (evCode C P m f b σ) = _; rw [h1]; simp only [evBlk, hq, cond_false], h2⟩
theorem Ev.loop {f : FuncId} {b : Code} {σ : St} {K : KR} (ht : C.tidy f (firstId 8 b) = none) (h : Ev C P f b σ fun e τ => match e with | .normal => Ev C P f (.loop b) τ K | .exit i => K (.exit i) τ | .ret => K .ret τ) : Ev C P f (.loop b) σ K := by
 obtain ⟨m, e, τ, h1, h2⟩ := h
 have key : ∀ m, evCode C P (m + 1) f (.loop b) σ = evSeq (evCode C P m f b σ) (evCode C P m f (.loop b)) := by
  intro m
  show (match C.tidy f (firstId 8 b) with | none => _ | some t => _) = _
  rw [ht]; rfl
 cases e with
 | normal =>
  obtain ⟨m', e', τ', h3, h4⟩ := h2
  refine ⟨max m m' + 1, e', τ', ?_, h4⟩
  rw [key, code_mono (Nat.le_max_left m m') _ _ _ _ h1]
  exact code_mono (Nat.le_max_right m m') _ _ _ _ h3
 | exit i => exact ⟨m + 1, .exit i, τ, by rw [key, h1]; rfl, h2⟩
 | ret => exact ⟨m + 1, .ret, τ, by rw [key, h1]; rfl, h2⟩
theorem Ev.loopT {f : FuncId} {b : Code} {σ : St} {K : KR} {t : Tidy} (ht : C.tidy f (firstId 8 b) = some t) (h : Ev C P f b (σ.tidy t.head t.nloc) fun e τ => match e with | .normal => Ev C P f (.loop b) τ K | .exit i => K (.exit i) (τ.tidy t.exit t.nloc) | .ret => K .ret (τ.tidy t.exit t.nloc)) : Ev C P f (.loop b) σ K := by
 obtain ⟨m, e, τ, h1, h2⟩ := h
 have key : ∀ m, evCode C P (m + 1) f (.loop b) σ = evLoop t (evCode C P m f b (σ.tidy t.head t.nloc)) (evCode C P m f (.loop b)) := by
  intro m
  show (match C.tidy f (firstId 8 b) with | none => _ | some t => _) = _
  rw [ht]; rfl
 cases e with
 | normal =>
  obtain ⟨m', e', τ', h3, h4⟩ := h2
  refine ⟨max m m' + 1, e', τ', ?_, h4⟩
  rw [key, code_mono (Nat.le_max_left m m') _ _ _ _ h1]
  exact code_mono (Nat.le_max_right m m') _ _ _ _ h3
 | exit i => exact ⟨m + 1, _, _, by rw [key, h1]; rfl, h2⟩
 | ret => exact ⟨m + 1, _, _, by rw [key, h1]; rfl, h2⟩
theorem Ev.mono {f : FuncId} {c : Code} {σ : St} {K K' : KR} (h : Ev C P f c σ K) (hk : ∀ e τ, K e τ → K' e τ) : Ev C P f c σ K' := by
 obtain ⟨m, e, τ, h1, h2⟩ := h
 exact ⟨m, e, τ, h1, hk e τ h2⟩
theorem code1_okW {run : RunW} (O : TabOk P C T) (H : RunWOk P C run) : RunWOk P C (wpCode1 T C P run) := by
 intro f c σ K hw
 cases c with
 | skip => exact ⟨1, _, _, rfl, hw⟩
 | region id ops draw =>
  replace hw : bif draw && C.bad f id then False else wpOpsW T C P (wpCallB C P run) f ops ops.toList σ fun τ => forceZ (T.lazy f) τ fun τ => K .normal τ := hw
  simp only [forceZ_eq] at hw
  cases hd : draw && C.bad f id with
  | true => rw [hd] at hw; exact hw.elim
  | false => rw [hd] at hw; exact Ev.region hd (ops_okW O (callB_ok H) _ _ _ hw)
 | seq a b =>
  refine Ev.seq ((H f a σ _ hw).mono fun e τ h => ?_)
  cases e with
  | normal => exact H f b τ K h
  | exit i => exact h
  | ret => exact h
 | cond k a b =>
  simp only [wpCode1] at hw
  split at hw
  ·rename_i t ht
   refine Ev.cond ht ?_
   cases t with
   | true => exact H f a σ K hw
   | false => exact H f b σ K hw
  ·exact hw.elim
 | block id b => exact Ev.block (H f b σ _ hw)
 | loop b =>
  simp only [wpCode1] at hw
  split at hw
  ·rename_i t ht
   split at hw
   ·rename_i s hs
    obtain ⟨h1, h2, h3⟩ := hw
    obtain ⟨a, ha, x, m, h4, h5⟩ := O.loop _ _ _ _ _ ht hs h2
    rw [h1] at h5
    exact ⟨m, _, _, h5, wpLAlts_ok h3 a ha x h4⟩
   ·exact hw.elim
  ·split at hw
   ·rename_i ht
    refine Ev.loop ht ((H f b σ _ hw).mono fun e τ h => ?_)
    cases e with
    | normal => exact H f (.loop b) τ K h
    | exit i => exact h
    | ret => exact h
   ·rename_i t ht
    refine Ev.loopT ht ((H f b _ _ hw).mono fun e τ h => ?_)
    cases e with
    | normal => exact H f (.loop b) τ K h
    | exit i => exact h
    | ret => exact h
 | exit id => exact ⟨1, _, _, rfl, hw⟩
 | ret => exact ⟨1, _, _, rfl, hw⟩
 | scope b =>
  obtain ⟨m, e, τ, h1, h2⟩ := H f b σ K hw
  exact ⟨m + 1, e, τ, h1, h2⟩
 | label l => exact ⟨1, _, _, rfl, hw⟩
 | _ => exact hw.elim
theorem code_okW (O : TabOk P C T) : ∀ n, RunWOk P C (wpCode T C P n) := by
 intro n
 induction n with
 | zero => intro f c σ K h; exact h.elim
 | succ n ih => exact code1_okW O ih
theorem call_okW (O : TabOk P C T) (n : Nat) : CallWOk P C (wpCall T C P n) := callB_ok (code_okW O n)
end
end
end Go.Ef
namespace Go.Ef
open Go
noncomputable section
def sStr (l : List UInt8) : Slot := .v (.sc (.string ⟨⟨l⟩⟩))
def sInt (n : Int) : Slot := .v (.sc (.int .i64 n))
def aStr (l : List UInt8) : AV := .sc (.string ⟨⟨l⟩⟩)
def aK (k : IntKind) (n : Int) : AV := .sc (.int k n)
def aBool (b : Bool) : AV := .sc (.bool b)
def stOf (n : Nat) (l : List (Nat × Slot)) (loc : List LObj) (h : Heap) : St :=
 { n := n, tm := List.rec (motive := fun _ => Tr Slot) .leaf (fun p _ ih => ih.set p.1 p.2) l, d := .unk, loc := loc, h := h }
def slI (σ : St) (t : Nat) : Int :=
 match σ.at t with
 | .v (.sc (.int _ n)) => n
 | _ => 0
def slS (σ : St) (t : Nat) : List UInt8 :=
 match σ.at t with
 | .v (.sc (.string s)) => s.data.toList
 | _ => []
def slEls (σ : St) (t : Nat) : List (List AV) :=
 match σ.at t with
 | .v (.sl e _) => e
 | _ => []
def lcI (σ : St) (k j : Nat) : Int :=
 match getI k σ.loc with
 | some (.cells cs) => match getI j cs with
  | some (.sc (.int _ n)) => n
  | _ => 0
 | _ => 0
def lcS (σ : St) (k j : Nat) : List UInt8 :=
 match getI k σ.loc with
 | some (.cells cs) => match getI j cs with
  | some (.sc (.string s)) => s.data.toList
  | _ => []
 | _ => []
def wpRound (T : Tab) (C : Cfg) (P : Program) (n : Nat) (f i : Nat) (σ : St) (N : St → Prop) (X : Ex → St → Prop) : Prop :=
 match C.tidy f i with
 | some t => wpCode T C P n f (loopAt P f i) σ fun e τ => match e with
  | .normal => N (τ.tidy t.head t.nloc)
  | .exit j => X (.exit j) (τ.tidy t.exit t.nloc)
  | .ret => X .ret (τ.tidy t.exit t.nloc)
 | none => False
theorem keep_keep (m : Nat) (s : Slot) : (s.keep m).keep m = s.keep m := by
 cases s with
 | lp k off =>
  simp only [Slot.keep]
  cases h : Nat.blt k m with
  | true => simp only [cond_true, h]
  | false => rfl
 | v a => rfl
 | unk => rfl
theorem keepTm_congr {σ τ : St} {m : Nat} : ∀ {l : List Nat}, (∀ t ∈ l, (σ.at t).keep m = (τ.at t).keep m) → keepTm σ m l = keepTm τ m l := by
 intro l
 induction l with
 | nil => intro _; rfl
 | cons x l ih =>
  intro h
  show (keepTm σ m l).set x ((σ.at x).keep m) = (keepTm τ m l).set x ((τ.at x).keep m)
  rw [ih fun t ht => h t (by simp [ht]), h x (by simp)]
theorem tidy_at (σ : St) (l : List Nat) (m t : Nat) (h : t ∈ l) : (σ.tidy l m).at t = (σ.at t).keep m := by
 show (match (keepTm σ m l).get t with | some s => s | none => Slot.unk) = _
 rw [keepTm_get, if_pos h]
theorem tidy_tidy (σ : St) (l : List Nat) (m : Nat) : (σ.tidy l m).tidy l m = σ.tidy l m := by
 have h1 : keepTm (σ.tidy l m) m l = keepTm σ m l := keepTm_congr fun t ht => by rw [tidy_at σ l m t ht, keep_keep]
 have h2 : (σ.loc.take m).take m = σ.loc.take m := by rw [List.take_take, Nat.min_self]
 show ({ n := σ.n, tm := keepTm (σ.tidy l m) m l, d := .unk, loc := (σ.loc.take m).take m, h := σ.h } : St) = _
 rw [h1, h2]
 rfl
section
variable {P : Program} {C : Cfg} {T : Tab}
theorem Ev.tidied {f : FuncId} {b : Code} {σ τ : St} {K : KR} {t : Tidy} (ht : C.tidy f (firstId 8 b) = some t) (hs : σ.tidy t.head t.nloc = τ.tidy t.head t.nloc) (h : Ev C P f (.loop b) τ K) : Ev C P f (.loop b) σ K := by
 obtain ⟨m, e, τ', h1, h2⟩ := h
 cases m with
 | zero => cases h1
 | succ m =>
  have key : ∀ σ, evCode C P (m + 1) f (.loop b) σ = evLoop t (evCode C P m f b (σ.tidy t.head t.nloc)) (evCode C P m f (.loop b)) := by
   intro σ
   show (match C.tidy f (firstId 8 b) with | none => _ | some t => _) = _
   rw [ht]; rfl
  refine ⟨m + 1, e, τ', ?_, h2⟩
  rw [key, hs, ← key]
  exact h1
end
end
end Go.Ef
namespace Go.Ef
open Go
theorem iteP_t {A B : Prop} : iteP true A B = A := rfl
theorem iteP_f {A B : Prop} : iteP false A B = B := rfl
theorem inRange_iff {n : Int} {m : Nat} : (inRange n m = true) = (0 ≤ n ∧ n < (m : Int)) := by
 simp [inRange]
theorem wrap64 (x : Int) : IntKind.i64.wrap x = (x + 9223372036854775808) % 18446744073709551616 - 9223372036854775808 := by
 have e : IntKind.i64.bits = 64 := rfl
 have g : IntKind.i64.signed = true := rfl
 have e1 : (2 : Int) ^ 64 = 18446744073709551616 := by decide
 have e2 : (2 : Int) ^ (64 - 1) = 9223372036854775808 := by decide
 simp only [IntKind.wrap, e, g, e1, e2, Bool.true_and, decide_eq_true_eq]
 by_cases h : x % 18446744073709551616 ≥ 9223372036854775808
 ·rw [if_pos h]; omega
 ·rw [if_neg h]; omega
theorem wrap_in {x : Int} (h1 : -9223372036854775808 ≤ x) (h2 : x ≤ 9223372036854775807) : IntKind.i64.wrap x = x := by rw [wrap64]; omega
end Go.Ef
namespace Go.Ef
open Go
noncomputable section
def tab0 : Tab := { call := fun _ => none, loop := fun _ _ => none, exact := fun _ _ => false, named := fun _ _ => false }
def Tab.addC (T : Tab) (g : FuncId) (t : List AV → Heap → Option CSpec) : Tab := { T with call := fun x => bif Nat.beq x g then some t else T.call x }
def Tab.addL (T : Tab) (f i : Nat) (t : St → Option LSpec) : Tab := { T with loop := fun x y => bif Nat.beq x f && Nat.beq y i then some t else T.loop x y }
def Tab.name (T : Tab) (f t : Nat) : Tab := { T with named := fun x y => bif Nat.beq x f && Nat.beq y t then true else T.named x y }
def fspec (pre : Prop) (v : AV) (h : Heap) : CSpec := { pre := pre, alts := [{ α := Unit, post := fun _ => True, val := fun _ => v, heap := fun _ => h }] }
section
variable {P : Program} {C : Cfg} {T : Tab}
theorem tab0_ok : TabOk P C tab0 := ⟨fun _ _ _ _ _ ht => (by cases ht), fun _ _ _ _ _ ht => (by cases ht)⟩
theorem addC_ok (O : TabOk P C T) {g : FuncId} {t : List AV → Heap → Option CSpec} (H : ∀ args h s, t args h = some s → s.pre → ∃ a ∈ s.alts, ∃ x m, a.post x ∧ callP C (evCall C P m) g args h = some (a.val x, a.heap x)) : TabOk P C (T.addC g t) := by
 refine ⟨fun x t' args h s ht hs hp => ?_, fun f i t' σ s ht => O.loop f i t' σ s ht⟩
 replace ht : (bif Nat.beq x g then some t else T.call x) = some t' := ht
 cases hq : Nat.beq x g with
 | true =>
  rw [hq] at ht
  cases ht
  rw [Nat.eq_of_beq_eq_true hq]
  exact H args h s hs hp
 | false =>
  rw [hq] at ht
  exact O.call x t' args h s ht hs hp
theorem addL_ok (O : TabOk P C T) {f i : Nat} {t : St → Option LSpec} (H : ∀ σ s, t σ = some s → s.pre → ∃ a ∈ s.alts, ∃ x, a.post x ∧ ∃ m, evCode C P m f (.loop (loopAt P f i)) σ = some (a.ex, a.st x)) : TabOk P C (T.addL f i t) := by
 refine ⟨fun g t' args h s ht => O.call g t' args h s ht, fun x y t' σ s ht hs hp => ?_⟩
 replace ht : (bif Nat.beq x f && Nat.beq y i then some t else T.loop x y) = some t' := ht
 cases hq : Nat.beq x f && Nat.beq y i with
 | true =>
  rw [hq] at ht
  simp only [Bool.and_eq_true] at hq
  cases ht
  rw [Nat.eq_of_beq_eq_true hq.1, Nat.eq_of_beq_eq_true hq.2]
  obtain ⟨a, ha, x, h1, m, h2⟩ := H σ s hs hp
  exact ⟨a, ha, x, m, h1, h2⟩
 | false =>
  rw [hq] at ht
  exact O.loop x y t' σ s ht hs hp
theorem name_ok (O : TabOk P C T) (f t : Nat) : TabOk P C (T.name f t) := ⟨O.call, O.loop⟩
theorem wpStrip_mono : ∀ n v {k k' : AV → Prop}, wpStrip n v k → (∀ y, k y → k' y) → wpStrip n v k' := by
 intro n
 induction n with
 | zero =>
  intro v k k' h hk
  cases v with
  | sc v => exact hk _ h
  | sl els tok =>
   cases tok with
   | zero => exact hk _ h
   | succ t => exact h.elim
  | _ => exact h.elim
 | succ n ih =>
  have lists : ∀ (cs : List AV) {k k' : List AV → Prop}, List.rec (motive := fun _ => (List AV → Prop) → Prop) (fun k => k []) (fun x _ ihl k => wpStrip n x fun y => ihl fun l => k (y :: l)) cs k → (∀ y, k y → k' y) →
    List.rec (motive := fun _ => (List AV → Prop) → Prop) (fun k => k []) (fun x _ ihl k => wpStrip n x fun y => ihl fun l => k (y :: l)) cs k' := by
   intro cs
   induction cs with
   | nil => intro k k' h hk; exact hk _ h
   | cons x cs ihc => intro k k' h hk; exact ih x h fun y hy => ihc hy fun l hl => hk _ hl
  intro v k k' h hk
  cases v with
  | sc v => exact hk _ h
  | sl els tok =>
   cases tok with
   | zero => exact hk _ h
   | succ t =>
    obtain ⟨h1, h2⟩ := iteP_false (show iteP (plainEls els) (k (.sl els 0)) False from h)
    show iteP (plainEls els) (k' (.sl els 0)) False
    rw [h1]; exact hk _ h2
  | agg cs => exact lists cs h fun l hl => hk _ hl
  | tup cs => exact lists cs h fun l hl => hk _ hl
  | ifc t u => exact ih u h fun y hy => hk _ hy
  | fn f a b => exact lists a h fun l hl => lists b hl fun m hm => hk _ hm
  | _ => exact h.elim
theorem wpBack_mono {h : Heap} {r : AV} {k k' : AV → Prop} (H : wpBack h r k) (hk : ∀ y, k y → k' y) : wpBack h r k' := by
 cases r with
 | rsl id off len m =>
  replace H : (match strip 8 h (.rsl id off len m) with | some y => k y | none => False) := H
  show (match strip 8 h (.rsl id off len m) with | some y => k' y | none => False)
  split at H
  ·exact hk _ H
  ·exact H.elim
 | sl els tok => exact wpStrip_mono 8 (.sl els tok) H hk
 | sc v => exact wpStrip_mono 8 (.sc v) H hk
 | agg v => exact wpStrip_mono 8 (.agg v) H hk
 | tup v => exact wpStrip_mono 8 (.tup v) H hk
 | fn f a b => exact wpStrip_mono 8 (.fn f a b) H hk
 | ifc t v => exact wpStrip_mono 8 (.ifc t v) H hk
 | cp v => exact wpStrip_mono 8 (.cp v) H hk
 | gp g o => exact wpStrip_mono 8 (.gp g o) H hk
 | ptr g o => exact wpStrip_mono 8 (.ptr g o) H hk
 | mp g => exact wpStrip_mono 8 (.mp g) H hk
theorem EvP.fresh {g : FuncId} {args args' : List AV} {h : Heap} {K : AV → Heap → Prop} (hf : C.fresh g = true) (hp : C.prim g = none) (ha : mapO (stripA 8) args = some args')
  (H : EvC C P g args' heapF fun r h' => wpBack h' r fun y => K y h) : EvP C P g args h K := by
 obtain ⟨m, r, h', h1, h2⟩ := H
 obtain ⟨y, h3, h4⟩ := wpBack_ok h2
 refine ⟨m, y, h, ?_, h4⟩
 unfold callP
 rw [hp]; simp only []; rw [hf]; simp only [cond_true]; rw [ha]; simp only []; rw [h1]; simp only []; rw [h3]
theorem EvP.freshV (O : TabOk P C T) {n g : Nat} {args args' : List AV} {h : Heap} {v : AV} (hf : C.fresh g = true) (hp : C.prim g = none) (ha : mapO (stripA 8) args = some args')
  (H : wpCall T C P n g args' heapF fun r h' => wpBack h' r fun y => y = v) : EvP C P g args h fun y h' => y = v ∧ h' = h := by
 refine EvP.fresh hf hp ha ?_
 obtain ⟨m, r, h', h1, h2⟩ := call_okW O n g args' heapF _ H
 obtain ⟨y, h3, h4⟩ := wpBack_ok h2
 subst h4
 refine ⟨m, r, h', h1, ?_⟩
 have key : ∀ {k : AV → Prop}, wpBack h' r (fun y' => y' = y) → k y → wpBack h' r k := by
  intro k hb hk
  exact wpBack_mono hb fun z hz => hz ▸ hk
 exact key h2 ⟨rfl, rfl⟩
end
end
end Go.Ef
namespace Go.Ef
open Go
noncomputable section
section
variable {P : Program} {C : Cfg} {T : Tab}
theorem EvP.freshK (O : TabOk P C T) {n g : Nat} {args args' : List AV} {h : Heap} {Q : AV → Prop} (hf : C.fresh g = true) (hp : C.prim g = none) (ha : mapO (stripA 8) args = some args')
  (H : wpCall T C P n g args' heapF fun r h' => wpBack h' r Q) : EvP C P g args h fun y h' => Q y ∧ h' = h := by
 refine EvP.fresh hf hp ha ?_
 obtain ⟨m, r, h', h1, h2⟩ := call_okW O n g args' heapF _ H
 exact ⟨m, r, h', h1, wpBack_mono h2 fun y hy => ⟨hy, rfl⟩⟩
end
end
end Go.Ef
namespace Go.Ef
open Go
noncomputable section
section
variable {P : Program} {C : Cfg} {T : Tab}
theorem Ev.round (O : TabOk P C T) {n f i : Nat} {t : Tidy} {σ : St} {N : St → Prop} {X : Ex → St → Prop} {K : KR} (hi : firstId 8 (loopAt P f i) = i) (ht : C.tidy f i = some t) (hcan : σ.tidy t.head t.nloc = σ)
  (hs : wpRound T C P n f i σ N X) (hN : ∀ τ, N τ → Ev C P f (.loop (loopAt P f i)) τ K) (hX : ∀ e τ, X e τ → K e τ) : Ev C P f (.loop (loopAt P f i)) σ K := by
 unfold wpRound at hs
 rw [ht] at hs
 refine Ev.loopT (t := t) (by rw [hi]; exact ht) ?_
 rw [hcan]
 refine (code_okW O n f _ _ _ hs).mono fun e τ h => ?_
 cases e with
 | normal => exact Ev.tidied (t := t) (τ := τ.tidy t.head t.nloc) (by rw [hi]; exact ht) (tidy_tidy _ _ _).symm (hN _ h)
 | exit j => exact hX _ _ h
 | ret => exact hX _ _ h
end
end
end Go.Ef
namespace Go.Proofs.Rc
open Go Go.Ef
noncomputable section
abbrev cf (m : Int) : Cfg := Rec.cfg m
def nilA : AV := .sc (.slice none 0 0)
def hO (e n : Nat) : Heap := (heapF.new (.own 1 e n)).2
def stepP (c : UInt8) (a : List (List UInt8) × List UInt8) (b : UInt8) : List (List UInt8) × List UInt8 := if b = c then (a.1 ++ [a.2], []) else (a.1, a.2 ++ [b])
def scanP (c : UInt8) (l : List UInt8) : List (List UInt8) × List UInt8 := l.foldl (stepP c) ([], [])
def C42 (args : List AV) (h : Heap) : Option CSpec :=
 match args with
 | [.sc (.string s), .sc (.string t)] => match t.data.toList with
  | [c] => some { pre := s.data.toList.length ≤ 4294967280, alts := [{ α := List (List UInt8), post := fun p => p = partsOf c s.data.toList, val := fun p => .sl (p.map strEl) (h.next + 1), heap := fun p => (h.new (.own 1 9 p.length)).2 }] }
  | _ => none
 | _ => none
end
end Go.Proofs.Rc
namespace Go.Proofs.Rc
open Go Go.Ef
noncomputable section
inductive Lst : AV → List (List UInt8) → Prop where
 | sl (p : List (List UInt8)) : Lst (.sl (p.map strEl) 0) p
 | nil : Lst nilA []
def u8 (n : Int) : UInt8 := UInt8.ofNat n.toNat
structure IsByte (n : Int) : Prop where
 is : ∃ c : UInt8, n = c.toNat
structure ScanNil (s : List UInt8) (c : UInt8) (k : Nat) : Prop where
 le : k ≤ s.length
 fst : (scanP c s).1 = []
 snd : (scanP c s).2 = s.drop k
structure ScanOwn (s : List UInt8) (c : UInt8) (l : List (List UInt8)) (k : Nat) : Prop where
 le : k ≤ s.length
 fst : (scanP c s).1 = l
 ne : l ≠ []
 snd : (scanP c s).2 = s.drop k
structure Same (a b : List (List AV)) : Prop where
 eq : ∃ p : List (List UInt8), a = p.map strEl ∧ b = p.map strEl ∧ p.length ≤ 4294967281
def recF (c : UInt8) (s : List UInt8) : List (List UInt8) × Bool := if (partsOf c s).getLast? = some [] then ((partsOf c s).dropLast, true) else (partsOf c s, false)
structure IsParts (p : List (List UInt8)) (c : UInt8) (s : List UInt8) : Prop where
 eq : p = partsOf c s
 ne : s ≠ []
structure NoParts (s : List UInt8) : Prop where
 eq : s = []
structure IsRec (q : List (List UInt8) × Bool) (c : UInt8) (s : List UInt8) : Prop where
 eq : q = recF c s
def C20 (args : List AV) (h : Heap) : Option CSpec :=
 match args with
 | [] => some (fspec True (aBool true) h)
 | _ => none
end
end Go.Proofs.Rc
namespace Go.Proofs.Rc
open Go Go.Ef
noncomputable section
set_option maxRecDepth 100000
theorem cell_get (l : List (List UInt8)) (i : Nat) : getI i (l.map strEl) = (l[i]?).map strEl := by rw [getI_eq, List.getElem?_map]
theorem cell_str {l : List (List UInt8)} {i : Nat} {x : List UInt8} (h : l[i]? = some x) : cellStr (l.map strEl) (i : Int) 0 = x := by
 unfold cellStr cellAt
 rw [Int.toNat_natCast, cell_get, h]; rfl
theorem cell_some {l : List (List UInt8)} {i : Nat} {x : List UInt8} (h : l[i]? = some x) : getI (i : Int).toNat (l.map strEl) = some [AV.sc (Value.string (ByteArray.mk (Array.mk (cellStr (l.map strEl) (i : Int) 0))))] := by
 rw [cell_str h, Int.toNat_natCast, cell_get, h]; rfl
theorem cells_plain (l : List (List UInt8)) : plainEls (l.map strEl) = true := by
 unfold plainEls
 rw [List.all_map]
 exact List.all_eq_true.2 fun _ _ => rfl
theorem parts_ne (c : UInt8) (s : List UInt8) : partsOf c s ≠ [] := by
 intro h
 have := partsOf_length c s
 rw [h] at this; cases this
theorem parts_len (c : UInt8) (s : List UInt8) : (partsOf c s).length ≤ s.length + 1 := by
 rw [partsOf_length]
 have : s.count c ≤ s.length := List.count_le_length
 omega
variable {m : Int} {T : Tab}
abbrev Ok (m : Int) (T : Tab) : Prop := TabOk Tryz.prog (cf m) T
theorem ok42 (O : Ok m T) : Ok m (T.addC 42 C42) := by
 refine addC_ok O fun args h s hs hp => ?_
 unfold C42 at hs
 split at hs
 ·rename_i s0 t0
  split at hs
  ·rename_i c ht
   cases hs
   refine ⟨_, List.mem_singleton.2 rfl, partsOf c s0.data.toList, 0, rfl, ?_⟩
   show splitP 9 [.sc (.string s0), .sc (.string t0)] h = _
   unfold splitP
   simp only [ht]
   rw [Nat.ble_eq_true_of_le hp]; rfl
  ·cases hs
 ·cases hs
theorem ok20 (O : Ok m T) : Ok m (T.addC 20 C20) := by
 refine addC_ok O fun args h s hs _ => ?_
 unfold C20 at hs
 split at hs
 ·cases hs
  obtain ⟨h', he⟩ := Rec.yes_spec (Rec.awake_ev m)
  refine ⟨_, List.mem_singleton.2 rfl, (), 1000, trivial, ?_⟩
  show callP (cf m) (evCall (cf m) Tryz.prog 1000) 20 [] h = some (aBool true, h)
  have hf : (cf m).fresh 20 = true := by kernel_rfl
  unfold callP
  rw [show (cf m).prim 20 = none from rfl]
  simp only []
  rw [hf]
  simp only [cond_true]
  show (match evCall (cf m) Tryz.prog 1000 20 [] heapF with | some (r, h') => _ | none => _) = _
  rw [he]; rfl
 ·cases hs
end
end Go.Proofs.Rc
namespace Go.Proofs.Rc
open Go Go.Ef
noncomputable section
structure NoByte (els : List (List AV)) (i c : Int) : Prop where
 is : ∃ (j : Nat) (x : List UInt8) (d : UInt8), i = j ∧ c = d.toNat ∧ els[j]? = some (strEl x) ∧ d ∉ x ∧ x.length ≤ 4294967280
def joinE (c : UInt8) (p : List (List UInt8)) : List UInt8 := (p.map (· ++ [c])).flatten
structure Free (els : List (List AV)) (c : Int) (p : List (List UInt8)) : Prop where
 is : ∃ d : UInt8, c = d.toNat ∧ els = p.map strEl ∧ (∀ x ∈ p, d ∉ x) ∧ (joinE d p).length ≤ 4294967280
structure Joined (t : List UInt8) (els : List (List AV)) (c : Int) : Prop where
 is : ∀ p d, els = p.map strEl → c = ((d : UInt8).toNat : Int) → t = joinE d p
structure HasFree (els : List (List AV)) (c : Int) : Prop where
 is : ∃ p, Free els c p
end
end Go.Proofs.Rc
namespace Go.Proofs.Rc
open Go Go.Ef
noncomputable section
set_option maxRecDepth 100000
variable {m : Int} {T : Tab}
theorem cells_inj {p q : List (List UInt8)} (h : p.map strEl = q.map strEl) : p = q := by
 refine List.map_inj_right (f := strEl) (fun x y e => ?_) |>.1 h
 unfold strEl at e
 simpa using e
end
end Go.Proofs.Rc
namespace Go.Proofs.Rc
open Go Go.Ef
noncomputable section
def joinN (p : List (List UInt8)) : List UInt8 := Lib.join p [10]
def flushG (a : List (List UInt8) × List (List UInt8)) : List (List UInt8) := if a.2 = [] then a.1 else a.1 ++ [joinN a.2]
def stepG (a : List (List UInt8) × List (List UInt8)) (x : List UInt8) : List (List UInt8) × List (List UInt8) := if x = [] then (flushG a, []) else (a.1, a.2 ++ [x])
def groupF (p : List (List UInt8)) : List (List UInt8) := flushG (p.foldl stepG ([], []))
def endsTwo (s : List UInt8) : Bool := decide (2 ≤ s.length ∧ s.drop (s.length - 2) = [10, 10])
def paraF (s : List UInt8) : List (List UInt8) × Bool := (groupF (recF 10 s).1, (groupF (recF 10 s).1).isEmpty || endsTwo s)
def stepR (n : Nat) (a : List (List UInt8) × List UInt8) (x : List UInt8 × Nat) : List (List UInt8) × List UInt8 :=
 if x.1 = [] then (if a.2 ≠ [] ∧ x.2 + 1 < n then (a.1 ++ [a.2], []) else a) else if a.2 ≠ [] then (a.1, a.2 ++ [10] ++ x.1) else (a.1, x.1)
def scanR (p : List (List UInt8)) (i : Nat) : List (List UInt8) × List UInt8 := ((p.zipIdx).take i).foldl (stepR p.length) ([], [])
def paraR (s : List UInt8) : List (List UInt8) × Bool := if (scanR (partsOf 10 s) (partsOf 10 s).length).2 = [] then ((scanR (partsOf 10 s) (partsOf 10 s).length).1, true) else ((scanR (partsOf 10 s) (partsOf 10 s).length).1 ++ [(scanR (partsOf 10 s) (partsOf 10 s).length).2], false)
structure JoinOk (els : List (List AV)) : Prop where
 is : ∃ p : List (List UInt8), els = p.map strEl ∧ p.length ≤ 4294967281 ∧ (joinN p).length ≤ 8589934592
structure IsJoin (x : List UInt8) (els : List (List AV)) : Prop where
 is : ∀ p : List (List UInt8), els = p.map strEl → x = joinN p
def C73 (args : List AV) (h : Heap) : Option CSpec :=
 match args with
 | [.sl els _, .sc (.string t)] => match t.data.toList with
  | [10] => some { pre := JoinOk els, alts := [{ α := List UInt8, post := fun x => IsJoin x els, val := fun x => aStr x, heap := fun _ => h }] }
  | _ => none
 | _ => none
end
end Go.Proofs.Rc
namespace Go.Proofs.Rc
open Go Go.Ef
noncomputable section
set_option maxRecDepth 100000
variable {m : Int} {T : Tab}
theorem joinN_one (x : List UInt8) : joinN [x] = x := Lib.join_one x _
theorem joinN_cons (x y : List UInt8) (r : List (List UInt8)) : joinN (x :: y :: r) = x ++ [10] ++ joinN (y :: r) := by
 unfold joinN
 rw [Lib.join_cons, Lib.join_cons]
 unfold Lib.joinTail
 simp
theorem joinN_snoc (q : List (List UInt8)) (x : List UInt8) (h : q ≠ []) : joinN (q ++ [x]) = joinN q ++ [10] ++ x := by
 induction q with
 | nil => exact absurd rfl h
 | cons a r ih =>
  cases r with
  | nil =>
   show joinN [a, x] = joinN [a] ++ [10] ++ x
   rw [joinN_cons, joinN_one, joinN_one]
  | cons b r =>
   have := ih (by simp)
   show joinN (a :: b :: (r ++ [x])) = joinN (a :: b :: r) ++ [10] ++ x
   rw [joinN_cons, joinN_cons]
   have e : joinN (b :: (r ++ [x])) = joinN (b :: r) ++ [10] ++ x := this
   rw [e]; simp
theorem ok73 (O : Ok m T) : Ok m (T.addC 73 C73) := by
 refine addC_ok O fun args h s hs hp => ?_
 unfold C73 at hs
 split at hs
 ·rename_i els tok t0
  split at hs
  ·rename_i ht
   cases hs
   obtain ⟨p, rfl, h1, h2⟩ := hp
   refine ⟨_, List.mem_singleton.2 rfl, joinN p, 0, ⟨fun q hq => by rw [cells_inj hq]⟩, ?_⟩
   show joinP [.sl (p.map strEl) tok, .sc (.string t0)] h = some (aStr (joinN p), h)
   have hm : maxRoom = 140737488355328 := by decide
   have e1 : ∀ p : List (List UInt8), mapO strS (p.map strEl) = some (p.map fun l => (⟨⟨l⟩⟩ : ByteArray)) := by
    intro p
    induction p with
    | nil => rfl
    | cons a r ih => rw [List.map_cons, mapO_cons, ih]; rfl
   have e2 : (p.map fun l => (⟨⟨l⟩⟩ : ByteArray)).map (·.data.toList) = p := by
    rw [List.map_map]
    exact List.map_id'' (fun _ => rfl) p
   unfold joinP
   simp only [e1, e2, ht]
   rw [List.length_map, Nat.ble_eq_true_of_le (show p.length ≤ maxRoom by omega), Nat.ble_eq_true_of_le (show (Lib.join p [10]).length ≤ maxRoom by unfold joinN at h2; omega)]
   rfl
  ·cases hs
 ·cases hs
end
end Go.Proofs.Rc
namespace Go.Proofs.Rc
open Go Go.Ef
noncomputable section
set_option maxRecDepth 100000
variable {m : Int} {T : Tab}
structure IsGroup (els : List (List AV)) (p : List (List UInt8)) : Prop where
 lines : els = p.map strEl
 room : (joinE 10 p).length ≤ 4294967270
structure HasGroup (els : List (List AV)) : Prop where
 is : ∃ p, IsGroup els p
structure GroupNil (els : List (List AV)) : Prop where
 is : ∀ p, els = p.map strEl → groupF p = []
structure GroupOwn (els : List (List AV)) (g : List (List UInt8)) : Prop where
 is : ∀ p, els = p.map strEl → groupF p = g
 ne : g ≠ []
structure SomeText (s : List UInt8) : Prop where
 ne : s ≠ []
structure NoPara (s : List UInt8) : Prop where
 eq : paraF s = ([], true)
structure IsPara (q : List (List UInt8) × Bool) (s : List UInt8) : Prop where
 eq : q = paraF s
end
end Go.Proofs.Rc
namespace Go.Proofs.Rc
open Go Go.Ef
noncomputable section
set_option maxRecDepth 100000
variable {m : Int} {T : Tab}
structure HasRead (els : List (List AV)) : Prop where
 is : ∃ p : List (List UInt8), els = p.map strEl ∧ (joinE 10 p).length ≤ 4294967270
structure ReadIs (els : List (List AV)) (q : List (List UInt8) × List UInt8) : Prop where
 is : ∀ p : List (List UInt8), els = p.map strEl → scanR p p.length = q
structure ReadOwn (els : List (List AV)) (q : List (List UInt8) × List UInt8) : Prop where
 is : ReadIs els q
 ne : q.1 ≠ []
structure NoRead (s : List UInt8) : Prop where
 eq : paraR s = ([], true)
structure IsRead (q : List (List UInt8) × Bool) (s : List UInt8) : Prop where
 eq : q = paraR s
end
end Go.Proofs.Rc
namespace Go.Proofs.Rc
open Go Go.Ef
noncomputable section
set_option maxRecDepth 100000
variable {m : Int} {T : Tab}
structure Alike (a : List (List UInt8) × List (List UInt8)) (b : List (List UInt8) × List UInt8) : Prop where
 fst : b.1 = a.1
 snd : b.2 = joinN a.2
 ne : ∀ x ∈ a.2, x ≠ []
theorem Alike.nil {a b} (h : Alike a b) : b.2 = [] ↔ a.2 = [] := by
 rw [h.snd]
 constructor
 ·intro e
  cases ha : a.2 with
  | nil => rfl
  | cons x r =>
   rw [ha] at e
   cases r with
   | nil =>
    rw [joinN_one] at e
    exact absurd e (h.ne x (by rw [ha]; simp))
   | cons y r => rw [joinN_cons] at e; simp at e
 ·intro e; rw [e]; rfl
theorem Alike.step {a b} (h : Alike a b) {n : Nat} (x : List UInt8) (i : Nat) (hi : i + 1 < n) : Alike (stepG a x) (stepR n b (x, i)) := by
 unfold stepG stepR
 have hn := h.nil
 by_cases hx : x = []
 ·rw [if_pos hx, if_pos hx]
  by_cases hb : b.2 = []
  ·rw [if_neg (fun e => e.1 hb)]
   refine ⟨?_, hb, fun _ hy => by cases hy⟩
   unfold flushG
   rw [if_pos (hn.1 hb)]
   exact h.fst
  ·rw [if_pos ⟨hb, hi⟩]
   refine ⟨?_, rfl, fun _ hy => by cases hy⟩
   unfold flushG
   rw [if_neg (fun e => hb (hn.2 e)), h.fst, h.snd]
 ·rw [if_neg hx, if_neg hx]
  have hne : ∀ y ∈ a.2 ++ [x], y ≠ [] := fun y hy => by
   rcases List.mem_append.1 hy with hy | hy
   ·exact h.ne y hy
   ·obtain rfl := List.mem_singleton.1 hy; exact hx
  by_cases hb : b.2 = []
  ·rw [if_neg (fun e => e hb)]
   refine ⟨h.fst, ?_, hne⟩
   rw [hn.1 hb]
   exact (joinN_one x).symm
  ·rw [if_pos hb]
   refine ⟨h.fst, ?_, hne⟩
   show b.2 ++ [10] ++ x = joinN (a.2 ++ [x])
   rw [joinN_snoc _ _ (fun e => hb (hn.2 e)), h.snd]
end
end Go.Proofs.Rc
namespace Go.Proofs.Rd
open Go Go.Ef
noncomputable section
abbrev cf (m : Int) : Cfg := Rec.cfg m
structure Room (s : List UInt8) : Prop where
 le : s.length ≤ 4294967280
structure InLen (s : List UInt8) (n : Int) : Prop where
 lo : 0 ≤ n
 hi : n ≤ s.length
def I117 (s : List UInt8) (n : Int) : St := stOf 23 [(0, sStr s), (3, sInt n)] [] heapF
def E117 (n : Int) : St := stOf 23 [(3, sInt n)] [] heapF
def I79 (s : List UInt8) (n : Int) : St := stOf 116 [(0, sStr s), (4, sInt n)] [] heapF
def I118 (s f : List UInt8) (d n i : Int) : St := stOf 29 [(0, sStr s), (1, sStr f), (5, sInt d), (8, sInt n), (9, sInt i)] [] heapF
def E118 (f : List UInt8) (d : Int) : St := stOf 29 [(1, sStr f), (4, .unk), (5, sInt d)] [] heapF
def R118 (f : List UInt8) (d : Int) : St := stOf 29 [(1, sStr f), (4, sInt 10000000000001), (5, sInt d)] [] heapF
def I160 (s : List UInt8) (d i : Int) : St := stOf 23 [(0, sStr s), (3, sInt d), (5, sInt i)] [] heapF
def E160 (d : Int) : St := stOf 23 [(3, sInt d)] [] heapF
def q117 (X : Int → Prop) (e : Ex) (τ : St) : Prop :=
 match e with
 | .exit _ => e = .exit 0 ∧ τ = E117 (slI τ 3) ∧ X (slI τ 3)
 | _ => False
def q79 (X : List UInt8 → Int → Prop) (e : Ex) (τ : St) : Prop :=
 match e with
 | .exit _ => e = .exit 0 ∧ τ = I79 (slS τ 0) (slI τ 4) ∧ X (slS τ 0) (slI τ 4)
 | _ => False
def q118 (f : List UInt8) (e : Ex) (τ : St) : Prop :=
 match e with
 | .exit _ => e = .exit 0 ∧ τ = E118 f (slI τ 5)
 | .ret => τ = R118 f (slI τ 5)
 | _ => False
def q160 (e : Ex) (τ : St) : Prop :=
 match e with
 | .exit _ => e = .exit 0 ∧ τ = E160 (slI τ 3)
 | _ => False
def L117 (σ : St) : Option LSpec := some { pre := σ.tidy [0, 3] 0 = I117 (slS σ 0) 0 ∧ Room (slS σ 0), alts := [{ α := Int, post := fun n => InLen (slS σ 0) n, ex := .exit 0, st := fun n => E117 n }] }
def L79 (σ : St) : Option LSpec := some { pre := σ.tidy [0, 4] 0 = I79 (slS σ 0) 0 ∧ Room (slS σ 0), alts := [{ α := Int, post := fun n => InLen (slS σ 0) n, ex := .exit 0, st := fun n => I79 (slS σ 0) n }] }
def L118 (σ : St) : Option LSpec := some { pre := σ.tidy [0, 1, 5, 8, 9] 0 = I118 (slS σ 0) (slS σ 1) 0 (slS σ 0).length 0 ∧ Room (slS σ 0), alts := [{ α := Int, post := fun _ => True, ex := .exit 0, st := fun d => E118 (slS σ 1) d }, { α := Int, post := fun _ => True, ex := .ret, st := fun d => R118 (slS σ 1) d }] }
def L160 (σ : St) : Option LSpec := some { pre := σ.tidy [0, 3, 5] 0 = I160 (slS σ 0) 0 0, alts := [{ α := Int, post := fun _ => True, ex := .exit 0, st := fun d => E160 d }] }
def C117 (args : List AV) (h : Heap) : Option CSpec :=
 match args with
 | [.sc (.string s)] => some { pre := Room s.data.toList, alts := [{ α := Int, post := fun n => InLen s.data.toList n, val := fun n => intA n, heap := fun _ => h }] }
 | _ => none
def C160 (args : List AV) (h : Heap) : Option CSpec :=
 match args with
 | [.sc (.string _)] => some { pre := True, alts := [{ α := Int, post := fun _ => True, val := fun n => intA n, heap := fun _ => h }] }
 | _ => none
def C118 (args : List AV) (h : Heap) : Option CSpec :=
 match args with
 | [.sc (.string s), .sc (.string _)] => some { pre := Room s.data.toList, alts := [{ α := Int, post := fun _ => True, val := fun n => intA n, heap := fun _ => h }] }
 | _ => none
def C79 (args : List AV) (h : Heap) : Option CSpec :=
 match args with
 | [.sc (.string s)] => some { pre := Room s.data.toList, alts := [{ α := Int × Int, post := fun p => InLen s.data.toList p.2, val := fun p => .tup [intA p.1, intA p.2], heap := fun _ => h }] }
 | _ => none
def C80 (args : List AV) (h : Heap) : Option CSpec :=
 match args with
 | [.sc (.string s)] => some { pre := Room s.data.toList, alts := [{ α := Bool, post := fun _ => True, val := fun b => aBool b, heap := fun _ => h }] }
 | _ => none
def numV (d : Int) (s : List UInt8) : AV := .agg [.sc (.int .i64 3), .sc (.int .i64 d), aStr s]
def txtV (s : List UInt8) : AV := .agg [.sc (.int .i64 2), .sc (.int .i64 0), aStr s]
def C50 (args : List AV) (h : Heap) : Option CSpec :=
 match args with
 | [.sc (.string s)] => some { pre := Room s.data.toList, alts := [{ α := Int, post := fun _ => True, val := fun d => numV d s.data.toList, heap := fun _ => h }, { α := Unit, post := fun _ => True, val := fun _ => txtV s.data.toList, heap := fun _ => h }] }
 | _ => none
def T117 : Tab := tab0.addL 117 3 L117
def T160 : Tab := tab0.addL 160 4 L160
def T118 : Tab := (tab0.addL 118 4 L118).addC 160 C160
def T79 : Tab := ((((((((tab0.addL 79 3 L79).addC 117 C117).addC 118 C118).name 79 63).name 79 67).name 79 80).name 79 54).name 79 100).name 79 95
def C119 (args : List AV) (h : Heap) : Option CSpec :=
 match args with
 | [.sc (.string s), .sc (.string t)] => bif sameL t.data.toList [32, 9] then some (fspec (Room s.data.toList) (aStr (Lib.trimS s.data.toList t.data.toList)) h) else none
 | _ => none
def T80 : Tab := tab0.addC 119 C119
def T50 : Tab := (tab0.addC 79 C79).addC 80 C80
end
end Go.Proofs.Rd
namespace Go.Proofs.Rd
open Go Go.Ef
noncomputable section
set_option maxRecDepth 100000
theorem v117 (m : Int) (s : List UInt8) (n : Int) (N : Int → Prop) (X : Int → Prop) (h :
 iteP (decide (n < (↑s.length : Int)))
 (iteP (inRange n s.length)
 (iteP (decide ((48 : Int) ≤ byteAt s n))
 (iteP (inRange n s.length)
 (iteP (decide (byteAt s n ≤ (57 : Int)))
 (I117 s (IntKind.i64.wrap (n + (1 : Int))) = I117 s (IntKind.i64.wrap (n + (1 : Int))) ∧
 N (IntKind.i64.wrap (n + (1 : Int))))
 (Ex.exit (0 : Nat) = Ex.exit (0 : Nat) ∧ E117 n = E117 n ∧ X n))
 False)
 (Ex.exit (0 : Nat) = Ex.exit (0 : Nat) ∧ E117 n = E117 n ∧ X n))
 False)
 (Ex.exit (0 : Nat) = Ex.exit (0 : Nat) ∧ E117 n = E117 n ∧ X n)) :
 (fun (m : Int) (s : List UInt8) (n : Int) (N : Int → Prop) (X : Int → Prop) => wpRound tab0 (cf m) Tryz.prog 40 117 3 (I117 s n) (fun τ => τ = I117 s (slI τ 3) ∧ N (slI τ 3)) (q117 X)) m s n N X :=
 Eq.mp (by kernel_rfl) h
theorem v79 (m : Int) (s : List UInt8) (n : Int) (N : Int → Prop) (X : List UInt8 → Int → Prop) (h :
 iteP (decide (n < (↑s.length : Int)))
 (iteP (inRange n s.length)
 (iteP (byteAt s n == (32 : Int))
 (I79 s (IntKind.i64.wrap (n + (1 : Int))) = I79 s (IntKind.i64.wrap (n + (1 : Int))) ∧
 N (IntKind.i64.wrap (n + (1 : Int))))
 (iteP (inRange n s.length)
 (iteP (byteAt s n == (9 : Int))
 (I79 s (IntKind.i64.wrap (n + (1 : Int))) = I79 s (IntKind.i64.wrap (n + (1 : Int))) ∧
 N (IntKind.i64.wrap (n + (1 : Int))))
 (Ex.exit (0 : Nat) = Ex.exit (0 : Nat) ∧ I79 s n = I79 s n ∧ X s n))
 False))
 False)
 (Ex.exit (0 : Nat) = Ex.exit (0 : Nat) ∧ I79 s n = I79 s n ∧ X s n)) :
 (fun (m : Int) (s : List UInt8) (n : Int) (N : Int → Prop) (X : List UInt8 → Int → Prop) => wpRound tab0 (cf m) Tryz.prog 40 79 3 (I79 s n) (fun τ => τ = I79 s (slI τ 4) ∧ N (slI τ 4)) (q79 X)) m s n N X :=
 Eq.mp (by kernel_rfl) h
theorem v118 (m : Int) (s : List UInt8) (f : List UInt8) (d : Int) (n : Int) (i : Int) (N : Int → Int → Prop) (h :
 iteP (decide (i < n))
 (iteP (inRange i s.length)
 (iteP
 (decide
 ((1000000000 : Int) <
 IntKind.i64.wrap
 (IntKind.i64.wrap ((10 : Int) * d) + IntKind.i64.wrap (IntKind.u8.wrap (byteAt s i - (48 : Int))))))
 (R118 f
 (IntKind.i64.wrap
 (IntKind.i64.wrap ((10 : Int) * d) + IntKind.i64.wrap (IntKind.u8.wrap (byteAt s i - (48 : Int))))) =
 R118 f
 (IntKind.i64.wrap
 (IntKind.i64.wrap ((10 : Int) * d) + IntKind.i64.wrap (IntKind.u8.wrap (byteAt s i - (48 : Int))))))
 (I118 s f
 (IntKind.i64.wrap
 (IntKind.i64.wrap ((10 : Int) * d) + IntKind.i64.wrap (IntKind.u8.wrap (byteAt s i - (48 : Int)))))
 n (IntKind.i64.wrap (i + (1 : Int))) =
 I118 s f
 (IntKind.i64.wrap
 (IntKind.i64.wrap ((10 : Int) * d) + IntKind.i64.wrap (IntKind.u8.wrap (byteAt s i - (48 : Int)))))
 n (IntKind.i64.wrap (i + (1 : Int))) ∧
 N
 (IntKind.i64.wrap
 (IntKind.i64.wrap ((10 : Int) * d) + IntKind.i64.wrap (IntKind.u8.wrap (byteAt s i - (48 : Int)))))
 (IntKind.i64.wrap (i + (1 : Int)))))
 False)
 (Ex.exit (0 : Nat) = Ex.exit (0 : Nat) ∧ E118 f d = E118 f d)) :
 (fun (m : Int) (s f : List UInt8) (d n i : Int) (N : Int → Int → Prop) => wpRound tab0 (cf m) Tryz.prog 40 118 4 (I118 s f d n i) (fun τ => τ = I118 s f (slI τ 5) n (slI τ 9) ∧ N (slI τ 5) (slI τ 9)) (q118 f)) m s f d n i N :=
 Eq.mp (by kernel_rfl) h
theorem v160 (m : Int) (s : List UInt8) (d : Int) (i : Int) (N : Int → Int → Prop) (h :
 iteP (decide (i < (4 : Int)))
 (iteP (decide (i < (↑s.length : Int)))
 (iteP (inRange i s.length)
 (I160 s
 (IntKind.i64.wrap
 (IntKind.i64.wrap (d * (10 : Int)) + IntKind.i64.wrap (IntKind.u8.wrap (byteAt s i - (48 : Int)))))
 (IntKind.i64.wrap (i + (1 : Int))) =
 I160 s
 (IntKind.i64.wrap
 (IntKind.i64.wrap (d * (10 : Int)) + IntKind.i64.wrap (IntKind.u8.wrap (byteAt s i - (48 : Int)))))
 (IntKind.i64.wrap (i + (1 : Int))) ∧
 N
 (IntKind.i64.wrap
 (IntKind.i64.wrap (d * (10 : Int)) + IntKind.i64.wrap (IntKind.u8.wrap (byteAt s i - (48 : Int)))))
 (IntKind.i64.wrap (i + (1 : Int))))
 False)
 (I160 s (IntKind.i64.wrap (d * (10 : Int))) (IntKind.i64.wrap (i + (1 : Int))) =
 I160 s (IntKind.i64.wrap (d * (10 : Int))) (IntKind.i64.wrap (i + (1 : Int))) ∧
 N (IntKind.i64.wrap (d * (10 : Int))) (IntKind.i64.wrap (i + (1 : Int)))))
 (Ex.exit (0 : Nat) = Ex.exit (0 : Nat) ∧ E160 d = E160 d)) :
 (fun (m : Int) (s : List UInt8) (d i : Int) (N : Int → Int → Prop) => wpRound tab0 (cf m) Tryz.prog 40 160 4 (I160 s d i) (fun τ => τ = I160 s (slI τ 3) (slI τ 5) ∧ N (slI τ 3) (slI τ 5)) q160) m s d i N :=
 Eq.mp (by kernel_rfl) h
theorem c117 (m : Int) (s : List UInt8) (K : AV → Prop) (h :
 loopAt Tryz.prog (117 : Nat) (3 : Nat) = loopAt Tryz.prog (117 : Nat) (3 : Nat) ∧
 (I117 s (0 : Int) = I117 s (0 : Int) ∧ Room s) ∧ ∀ (x : Int), InLen s x → K (AV.sc (Value.int IntKind.i64 x))) :
 (fun (m : Int) (s : List UInt8) (K : AV → Prop) => wpCall T117 (cf m) Tryz.prog 40 117 [aStr s] heapF fun r h' => wpBack h' r K) m s K :=
 Eq.mp (by kernel_rfl) h
theorem c160 (m : Int) (s : List UInt8) (K : AV → Prop) (h :
 loopAt Tryz.prog (160 : Nat) (4 : Nat) = loopAt Tryz.prog (160 : Nat) (4 : Nat) ∧
 I160 s (0 : Int) (0 : Int) = I160 s (0 : Int) (0 : Int) ∧ ∀ (x : Int), True → K (AV.sc (Value.int IntKind.i64 x))) :
 (fun (m : Int) (s : List UInt8) (K : AV → Prop) => wpCall T160 (cf m) Tryz.prog 40 160 [aStr s] heapF fun r h' => wpBack h' r K) m s K :=
 Eq.mp (by kernel_rfl) h
theorem c118 (m : Int) (s : List UInt8) (f : List UInt8) (K : AV → Prop) (h :
 loopAt Tryz.prog (118 : Nat) (4 : Nat) = loopAt Tryz.prog (118 : Nat) (4 : Nat) ∧
 (I118 s f (0 : Int) (↑s.length : Int) (0 : Int) = I118 s f (0 : Int) (↑s.length : Int) (0 : Int) ∧ Room s) ∧
 (∀ (x : Int),
 True →
 True ∧
 ∀ (x_1 : Int),
 True →
 K
 (AV.sc
 (Value.int IntKind.i64
 (min (10000000000001 : Int) (IntKind.i64.wrap (IntKind.i64.wrap (x * (10000 : Int)) + x_1)))))) ∧
 ∀ (_ : Int), True → K (AV.sc (Value.int IntKind.i64 (10000000000001 : Int)))) :
 (fun (m : Int) (s f : List UInt8) (K : AV → Prop) => wpCall T118 (cf m) Tryz.prog 40 118 [aStr s, aStr f] heapF fun r h' => wpBack h' r K) m s f K :=
 Eq.mp (by kernel_rfl) h
theorem c79 (m : Int) (s : List UInt8) (K : AV → Prop) (h :
 loopAt Tryz.prog (79 : Nat) (3 : Nat) = loopAt Tryz.prog (79 : Nat) (3 : Nat) ∧
 (I79 s (0 : Int) = I79 s (0 : Int) ∧ Room s) ∧
 ∀ (x : Int),
 InLen s x →
 iteP (decide (x < (↑s.length : Int)))
 (iteP (inRange x s.length)
 (iteP (byteAt s x == (45 : Int))
 (∀ (m : Int),
 m = IntKind.i64.wrap (x + (1 : Int)) →
 iteP (decide ((0 : Int) ≤ m) && decide (m ≤ (↑s.length : Int)))
 (Room (List.drop m.toNat s) ∧
 ∀ (x : Int),
 InLen (List.drop m.toNat s) x →
 ∀ (m_1 : Int),
 m_1 = IntKind.i64.wrap (m + x) →
 iteP (decide ((0 : Int) ≤ m) && (decide (m ≤ m_1) && decide (m_1 ≤ (↑s.length : Int))))
 (∀ (m_2 : Int),
 m_2 = IntKind.i64.wrap (m + x) →
 iteP (decide (m_2 < (↑s.length : Int)))
 (iteP (inRange m_2 s.length)
 (iteP (byteAt s m_2 == (46 : Int))
 (∀ (m_3 : Int),
 m_3 = IntKind.i64.wrap (m_2 + (1 : Int)) →
 iteP (decide ((0 : Int) ≤ m_3) && decide (m_3 ≤ (↑s.length : Int)))
 (Room (List.drop m_3.toNat s) ∧
 ∀ (x_1 : Int),
 InLen (List.drop m_3.toNat s) x_1 →
 iteP (decide ((0 : Int) < x))
 (∀ (m_4 : Int),
 m_4 =
 IntKind.i64.wrap
 (IntKind.i64.wrap (m_2 + (1 : Int)) + x_1) →
 iteP
 (decide
 ((0 : Int) ≤ IntKind.i64.wrap (m_2 + (1 : Int))) &&
 (decide (IntKind.i64.wrap (m_2 + (1 : Int)) ≤ m_4) &&
 decide (m_4 ≤ (↑s.length : Int))))
 (∀ (m_5 : Int),
 m_5 =
 IntKind.i64.wrap
 (m_2 + IntKind.i64.wrap ((1 : Int) + x_1)) →
 iteP (x == (0 : Int))
 (iteP
 (decide
 (cutL s (IntKind.i64.wrap (m_2 + (1 : Int)))
 m_4 =
 []))
 (K
 (AV.tup
 [AV.sc (Value.int IntKind.i64 (0 : Int)),
 AV.sc (Value.int IntKind.i64 (0 : Int))]))
 (Room (cutL s m m_1) ∧
 ∀ (x : Int),
 True →
 K
 (AV.tup
 [AV.sc
 (Value.int IntKind.i64
 (IntKind.i64.wrap
 ((0 : Int) -
 min (10000000000000 : Int)
 x))),
 AV.sc (Value.int IntKind.i64 m_5)])))
 (Room (cutL s m m_1) ∧
 ∀ (x : Int),
 True →
 K
 (AV.tup
 [AV.sc
 (Value.int IntKind.i64
 (IntKind.i64.wrap
 ((0 : Int) -
 min (10000000000000 : Int) x))),
 AV.sc (Value.int IntKind.i64 m_5)])))
 False)
 (iteP (decide ((0 : Int) < x_1))
 (∀ (m_4 : Int),
 m_4 =
 IntKind.i64.wrap
 (IntKind.i64.wrap (m_2 + (1 : Int)) + x_1) →
 iteP
 (decide
 ((0 : Int) ≤ IntKind.i64.wrap (m_2 + (1 : Int))) &&
 (decide (IntKind.i64.wrap (m_2 + (1 : Int)) ≤ m_4) &&
 decide (m_4 ≤ (↑s.length : Int))))
 (∀ (m_5 : Int),
 m_5 =
 IntKind.i64.wrap
 (m_2 + IntKind.i64.wrap ((1 : Int) + x_1)) →
 iteP (x == (0 : Int))
 (iteP
 (decide
 (cutL s (IntKind.i64.wrap (m_2 + (1 : Int)))
 m_4 =
 []))
 (K
 (AV.tup
 [AV.sc (Value.int IntKind.i64 (0 : Int)),
 AV.sc (Value.int IntKind.i64 (0 : Int))]))
 (Room (cutL s m m_1) ∧
 ∀ (x : Int),
 True →
 K
 (AV.tup
 [AV.sc
 (Value.int IntKind.i64
 (IntKind.i64.wrap
 ((0 : Int) -
 min (10000000000000 : Int)
 x))),
 AV.sc
 (Value.int IntKind.i64 m_5)])))
 (Room (cutL s m m_1) ∧
 ∀ (x : Int),
 True →
 K
 (AV.tup
 [AV.sc
 (Value.int IntKind.i64
 (IntKind.i64.wrap
 ((0 : Int) -
 min (10000000000000 : Int)
 x))),
 AV.sc (Value.int IntKind.i64 m_5)])))
 False)
 (iteP (x == (0 : Int))
 (K
 (AV.tup
 [AV.sc (Value.int IntKind.i64 (0 : Int)),
 AV.sc (Value.int IntKind.i64 (0 : Int))]))
 (Room (cutL s m m_1) ∧
 ∀ (x : Int),
 True →
 K
 (AV.tup
 [AV.sc
 (Value.int IntKind.i64
 (IntKind.i64.wrap
 ((0 : Int) -
 min (10000000000000 : Int) x))),
 AV.sc (Value.int IntKind.i64 m_2)])))))
 False)
 (iteP (x == (0 : Int))
 (K
 (AV.tup
 [AV.sc (Value.int IntKind.i64 (0 : Int)),
 AV.sc (Value.int IntKind.i64 (0 : Int))]))
 (Room (cutL s m m_1) ∧
 ∀ (x : Int),
 True →
 K
 (AV.tup
 [AV.sc
 (Value.int IntKind.i64
 (IntKind.i64.wrap
 ((0 : Int) - min (10000000000000 : Int) x))),
 AV.sc (Value.int IntKind.i64 m_2)]))))
 False)
 (iteP (x == (0 : Int))
 (K
 (AV.tup
 [AV.sc (Value.int IntKind.i64 (0 : Int)),
 AV.sc (Value.int IntKind.i64 (0 : Int))]))
 (Room (cutL s m m_1) ∧
 ∀ (x : Int),
 True →
 K
 (AV.tup
 [AV.sc
 (Value.int IntKind.i64
 (IntKind.i64.wrap ((0 : Int) - min (10000000000000 : Int) x))),
 AV.sc (Value.int IntKind.i64 m_2)]))))
 False)
 False)
 (iteP (decide (x < (↑s.length : Int)))
 (iteP (inRange x s.length)
 (iteP (byteAt s x == (43 : Int))
 (∀ (m : Int),
 m = IntKind.i64.wrap (x + (1 : Int)) →
 iteP (decide ((0 : Int) ≤ m) && decide (m ≤ (↑s.length : Int)))
 (Room (List.drop m.toNat s) ∧
 ∀ (x : Int),
 InLen (List.drop m.toNat s) x →
 ∀ (m_1 : Int),
 m_1 = IntKind.i64.wrap (m + x) →
 iteP
 (decide ((0 : Int) ≤ m) && (decide (m ≤ m_1) && decide (m_1 ≤ (↑s.length : Int))))
 (∀ (m_2 : Int),
 m_2 = IntKind.i64.wrap (m + x) →
 iteP (decide (m_2 < (↑s.length : Int)))
 (iteP (inRange m_2 s.length)
 (iteP (byteAt s m_2 == (46 : Int))
 (∀ (m_3 : Int),
 m_3 = IntKind.i64.wrap (m_2 + (1 : Int)) →
 iteP (decide ((0 : Int) ≤ m_3) && decide (m_3 ≤ (↑s.length : Int)))
 (Room (List.drop m_3.toNat s) ∧
 ∀ (x_1 : Int),
 InLen (List.drop m_3.toNat s) x_1 →
 iteP (decide ((0 : Int) < x))
 (∀ (m_4 : Int),
 m_4 =
 IntKind.i64.wrap
 (IntKind.i64.wrap (m_2 + (1 : Int)) + x_1) →
 iteP
 (decide
 ((0 : Int) ≤
 IntKind.i64.wrap (m_2 + (1 : Int))) &&
 (decide
 (IntKind.i64.wrap (m_2 + (1 : Int)) ≤ m_4) &&
 decide (m_4 ≤ (↑s.length : Int))))
 (∀ (m_5 : Int),
 m_5 =
 IntKind.i64.wrap
 (m_2 + IntKind.i64.wrap ((1 : Int) + x_1)) →
 iteP (x == (0 : Int))
 (iteP
 (decide
 (cutL s
 (IntKind.i64.wrap (m_2 + (1 : Int)))
 m_4 =
 []))
 (K
 (AV.tup
 [AV.sc
 (Value.int IntKind.i64 (0 : Int)),
 AV.sc
 (Value.int IntKind.i64 (0 : Int))]))
 (Room (cutL s m m_1) ∧
 ∀ (x : Int),
 True →
 K
 (AV.tup
 [AV.sc
 (Value.int IntKind.i64
 (min (10000000000000 : Int)
 x)),
 AV.sc
 (Value.int IntKind.i64
 m_5)])))
 (Room (cutL s m m_1) ∧
 ∀ (x : Int),
 True →
 K
 (AV.tup
 [AV.sc
 (Value.int IntKind.i64
 (min (10000000000000 : Int)
 x)),
 AV.sc
 (Value.int IntKind.i64 m_5)])))
 False)
 (iteP (decide ((0 : Int) < x_1))
 (∀ (m_4 : Int),
 m_4 =
 IntKind.i64.wrap
 (IntKind.i64.wrap (m_2 + (1 : Int)) + x_1) →
 iteP
 (decide
 ((0 : Int) ≤
 IntKind.i64.wrap (m_2 + (1 : Int))) &&
 (decide
 (IntKind.i64.wrap (m_2 + (1 : Int)) ≤
 m_4) &&
 decide (m_4 ≤ (↑s.length : Int))))
 (∀ (m_5 : Int),
 m_5 =
 IntKind.i64.wrap
 (m_2 +
 IntKind.i64.wrap ((1 : Int) + x_1)) →
 iteP (x == (0 : Int))
 (iteP
 (decide
 (cutL s
 (IntKind.i64.wrap (m_2 + (1 : Int)))
 m_4 =
 []))
 (K
 (AV.tup
 [AV.sc
 (Value.int IntKind.i64 (0 : Int)),
 AV.sc
 (Value.int IntKind.i64
 (0 : Int))]))
 (Room (cutL s m m_1) ∧
 ∀ (x : Int),
 True →
 K
 (AV.tup
 [AV.sc
 (Value.int IntKind.i64
 (min
 (10000000000000 : Int)
 x)),
 AV.sc
 (Value.int IntKind.i64
 m_5)])))
 (Room (cutL s m m_1) ∧
 ∀ (x : Int),
 True →
 K
 (AV.tup
 [AV.sc
 (Value.int IntKind.i64
 (min (10000000000000 : Int)
 x)),
 AV.sc
 (Value.int IntKind.i64
 m_5)])))
 False)
 (iteP (x == (0 : Int))
 (K
 (AV.tup
 [AV.sc (Value.int IntKind.i64 (0 : Int)),
 AV.sc (Value.int IntKind.i64 (0 : Int))]))
 (Room (cutL s m m_1) ∧
 ∀ (x : Int),
 True →
 K
 (AV.tup
 [AV.sc
 (Value.int IntKind.i64
 (min (10000000000000 : Int) x)),
 AV.sc (Value.int IntKind.i64 m_2)])))))
 False)
 (iteP (x == (0 : Int))
 (K
 (AV.tup
 [AV.sc (Value.int IntKind.i64 (0 : Int)),
 AV.sc (Value.int IntKind.i64 (0 : Int))]))
 (Room (cutL s m m_1) ∧
 ∀ (x : Int),
 True →
 K
 (AV.tup
 [AV.sc
 (Value.int IntKind.i64 (min (10000000000000 : Int) x)),
 AV.sc (Value.int IntKind.i64 m_2)]))))
 False)
 (iteP (x == (0 : Int))
 (K
 (AV.tup
 [AV.sc (Value.int IntKind.i64 (0 : Int)),
 AV.sc (Value.int IntKind.i64 (0 : Int))]))
 (Room (cutL s m m_1) ∧
 ∀ (x : Int),
 True →
 K
 (AV.tup
 [AV.sc (Value.int IntKind.i64 (min (10000000000000 : Int) x)),
 AV.sc (Value.int IntKind.i64 m_2)]))))
 False)
 False)
 (iteP (decide ((0 : Int) ≤ x) && decide (x ≤ (↑s.length : Int)))
 (Room (List.drop x.toNat s) ∧
 ∀ (x_1 : Int),
 InLen (List.drop x.toNat s) x_1 →
 ∀ (m : Int),
 m = IntKind.i64.wrap (x + x_1) →
 iteP (decide ((0 : Int) ≤ x) && (decide (x ≤ m) && decide (m ≤ (↑s.length : Int))))
 (∀ (m_1 : Int),
 m_1 = IntKind.i64.wrap (x + x_1) →
 iteP (decide (m_1 < (↑s.length : Int)))
 (iteP (inRange m_1 s.length)
 (iteP (byteAt s m_1 == (46 : Int))
 (∀ (m_2 : Int),
 m_2 = IntKind.i64.wrap (m_1 + (1 : Int)) →
 iteP (decide ((0 : Int) ≤ m_2) && decide (m_2 ≤ (↑s.length : Int)))
 (Room (List.drop m_2.toNat s) ∧
 ∀ (x_2 : Int),
 InLen (List.drop m_2.toNat s) x_2 →
 iteP (decide ((0 : Int) < x_1))
 (∀ (m_3 : Int),
 m_3 =
 IntKind.i64.wrap
 (IntKind.i64.wrap (m_1 + (1 : Int)) + x_2) →
 iteP
 (decide
 ((0 : Int) ≤ IntKind.i64.wrap (m_1 + (1 : Int))) &&
 (decide (IntKind.i64.wrap (m_1 + (1 : Int)) ≤ m_3) &&
 decide (m_3 ≤ (↑s.length : Int))))
 (∀ (m_4 : Int),
 m_4 =
 IntKind.i64.wrap
 (m_1 + IntKind.i64.wrap ((1 : Int) + x_2)) →
 iteP (x_1 == (0 : Int))
 (iteP
 (decide
 (cutL s (IntKind.i64.wrap (m_1 + (1 : Int)))
 m_3 =
 []))
 (K
 (AV.tup
 [AV.sc (Value.int IntKind.i64 (0 : Int)),
 AV.sc (Value.int IntKind.i64 (0 : Int))]))
 (Room (cutL s x m) ∧
 ∀ (x : Int),
 True →
 K
 (AV.tup
 [AV.sc
 (Value.int IntKind.i64
 (min (10000000000000 : Int) x)),
 AV.sc
 (Value.int IntKind.i64 m_4)])))
 (Room (cutL s x m) ∧
 ∀ (x : Int),
 True →
 K
 (AV.tup
 [AV.sc
 (Value.int IntKind.i64
 (min (10000000000000 : Int) x)),
 AV.sc (Value.int IntKind.i64 m_4)])))
 False)
 (iteP (decide ((0 : Int) < x_2))
 (∀ (m_3 : Int),
 m_3 =
 IntKind.i64.wrap
 (IntKind.i64.wrap (m_1 + (1 : Int)) + x_2) →
 iteP
 (decide
 ((0 : Int) ≤
 IntKind.i64.wrap (m_1 + (1 : Int))) &&
 (decide
 (IntKind.i64.wrap (m_1 + (1 : Int)) ≤ m_3) &&
 decide (m_3 ≤ (↑s.length : Int))))
 (∀ (m_4 : Int),
 m_4 =
 IntKind.i64.wrap
 (m_1 + IntKind.i64.wrap ((1 : Int) + x_2)) →
 iteP (x_1 == (0 : Int))
 (iteP
 (decide
 (cutL s (IntKind.i64.wrap (m_1 + (1 : Int)))
 m_3 =
 []))
 (K
 (AV.tup
 [AV.sc (Value.int IntKind.i64 (0 : Int)),
 AV.sc
 (Value.int IntKind.i64 (0 : Int))]))
 (Room (cutL s x m) ∧
 ∀ (x : Int),
 True →
 K
 (AV.tup
 [AV.sc
 (Value.int IntKind.i64
 (min (10000000000000 : Int)
 x)),
 AV.sc
 (Value.int IntKind.i64 m_4)])))
 (Room (cutL s x m) ∧
 ∀ (x : Int),
 True →
 K
 (AV.tup
 [AV.sc
 (Value.int IntKind.i64
 (min (10000000000000 : Int) x)),
 AV.sc
 (Value.int IntKind.i64 m_4)])))
 False)
 (iteP (x_1 == (0 : Int))
 (K
 (AV.tup
 [AV.sc (Value.int IntKind.i64 (0 : Int)),
 AV.sc (Value.int IntKind.i64 (0 : Int))]))
 (Room (cutL s x m) ∧
 ∀ (x : Int),
 True →
 K
 (AV.tup
 [AV.sc
 (Value.int IntKind.i64
 (min (10000000000000 : Int) x)),
 AV.sc (Value.int IntKind.i64 m_1)])))))
 False)
 (iteP (x_1 == (0 : Int))
 (K
 (AV.tup
 [AV.sc (Value.int IntKind.i64 (0 : Int)),
 AV.sc (Value.int IntKind.i64 (0 : Int))]))
 (Room (cutL s x m) ∧
 ∀ (x : Int),
 True →
 K
 (AV.tup
 [AV.sc (Value.int IntKind.i64 (min (10000000000000 : Int) x)),
 AV.sc (Value.int IntKind.i64 m_1)]))))
 False)
 (iteP (x_1 == (0 : Int))
 (K
 (AV.tup
 [AV.sc (Value.int IntKind.i64 (0 : Int)),
 AV.sc (Value.int IntKind.i64 (0 : Int))]))
 (Room (cutL s x m) ∧
 ∀ (x : Int),
 True →
 K
 (AV.tup
 [AV.sc (Value.int IntKind.i64 (min (10000000000000 : Int) x)),
 AV.sc (Value.int IntKind.i64 m_1)]))))
 False)
 False))
 False)
 (iteP (decide ((0 : Int) ≤ x) && decide (x ≤ (↑s.length : Int)))
 (Room (List.drop x.toNat s) ∧
 ∀ (x_1 : Int),
 InLen (List.drop x.toNat s) x_1 →
 ∀ (m : Int),
 m = IntKind.i64.wrap (x + x_1) →
 iteP (decide ((0 : Int) ≤ x) && (decide (x ≤ m) && decide (m ≤ (↑s.length : Int))))
 (∀ (m_1 : Int),
 m_1 = IntKind.i64.wrap (x + x_1) →
 iteP (decide (m_1 < (↑s.length : Int)))
 (iteP (inRange m_1 s.length)
 (iteP (byteAt s m_1 == (46 : Int))
 (∀ (m_2 : Int),
 m_2 = IntKind.i64.wrap (m_1 + (1 : Int)) →
 iteP (decide ((0 : Int) ≤ m_2) && decide (m_2 ≤ (↑s.length : Int)))
 (Room (List.drop m_2.toNat s) ∧
 ∀ (x_2 : Int),
 InLen (List.drop m_2.toNat s) x_2 →
 iteP (decide ((0 : Int) < x_1))
 (∀ (m_3 : Int),
 m_3 =
 IntKind.i64.wrap
 (IntKind.i64.wrap (m_1 + (1 : Int)) + x_2) →
 iteP
 (decide ((0 : Int) ≤ IntKind.i64.wrap (m_1 + (1 : Int))) &&
 (decide (IntKind.i64.wrap (m_1 + (1 : Int)) ≤ m_3) &&
 decide (m_3 ≤ (↑s.length : Int))))
 (∀ (m_4 : Int),
 m_4 =
 IntKind.i64.wrap
 (m_1 + IntKind.i64.wrap ((1 : Int) + x_2)) →
 iteP (x_1 == (0 : Int))
 (iteP
 (decide
 (cutL s (IntKind.i64.wrap (m_1 + (1 : Int))) m_3 =
 []))
 (K
 (AV.tup
 [AV.sc (Value.int IntKind.i64 (0 : Int)),
 AV.sc (Value.int IntKind.i64 (0 : Int))]))
 (Room (cutL s x m) ∧
 ∀ (x : Int),
 True →
 K
 (AV.tup
 [AV.sc
 (Value.int IntKind.i64
 (min (10000000000000 : Int) x)),
 AV.sc (Value.int IntKind.i64 m_4)])))
 (Room (cutL s x m) ∧
 ∀ (x : Int),
 True →
 K
 (AV.tup
 [AV.sc
 (Value.int IntKind.i64
 (min (10000000000000 : Int) x)),
 AV.sc (Value.int IntKind.i64 m_4)])))
 False)
 (iteP (decide ((0 : Int) < x_2))
 (∀ (m_3 : Int),
 m_3 =
 IntKind.i64.wrap
 (IntKind.i64.wrap (m_1 + (1 : Int)) + x_2) →
 iteP
 (decide
 ((0 : Int) ≤ IntKind.i64.wrap (m_1 + (1 : Int))) &&
 (decide (IntKind.i64.wrap (m_1 + (1 : Int)) ≤ m_3) &&
 decide (m_3 ≤ (↑s.length : Int))))
 (∀ (m_4 : Int),
 m_4 =
 IntKind.i64.wrap
 (m_1 + IntKind.i64.wrap ((1 : Int) + x_2)) →
 iteP (x_1 == (0 : Int))
 (iteP
 (decide
 (cutL s (IntKind.i64.wrap (m_1 + (1 : Int)))
 m_3 =
 []))
 (K
 (AV.tup
 [AV.sc (Value.int IntKind.i64 (0 : Int)),
 AV.sc (Value.int IntKind.i64 (0 : Int))]))
 (Room (cutL s x m) ∧
 ∀ (x : Int),
 True →
 K
 (AV.tup
 [AV.sc
 (Value.int IntKind.i64
 (min (10000000000000 : Int) x)),
 AV.sc (Value.int IntKind.i64 m_4)])))
 (Room (cutL s x m) ∧
 ∀ (x : Int),
 True →
 K
 (AV.tup
 [AV.sc
 (Value.int IntKind.i64
 (min (10000000000000 : Int) x)),
 AV.sc (Value.int IntKind.i64 m_4)])))
 False)
 (iteP (x_1 == (0 : Int))
 (K
 (AV.tup
 [AV.sc (Value.int IntKind.i64 (0 : Int)),
 AV.sc (Value.int IntKind.i64 (0 : Int))]))
 (Room (cutL s x m) ∧
 ∀ (x : Int),
 True →
 K
 (AV.tup
 [AV.sc
 (Value.int IntKind.i64
 (min (10000000000000 : Int) x)),
 AV.sc (Value.int IntKind.i64 m_1)])))))
 False)
 (iteP (x_1 == (0 : Int))
 (K
 (AV.tup
 [AV.sc (Value.int IntKind.i64 (0 : Int)),
 AV.sc (Value.int IntKind.i64 (0 : Int))]))
 (Room (cutL s x m) ∧
 ∀ (x : Int),
 True →
 K
 (AV.tup
 [AV.sc (Value.int IntKind.i64 (min (10000000000000 : Int) x)),
 AV.sc (Value.int IntKind.i64 m_1)]))))
 False)
 (iteP (x_1 == (0 : Int))
 (K
 (AV.tup
 [AV.sc (Value.int IntKind.i64 (0 : Int)),
 AV.sc (Value.int IntKind.i64 (0 : Int))]))
 (Room (cutL s x m) ∧
 ∀ (x : Int),
 True →
 K
 (AV.tup
 [AV.sc (Value.int IntKind.i64 (min (10000000000000 : Int) x)),
 AV.sc (Value.int IntKind.i64 m_1)]))))
 False)
 False)))
 False)
 (iteP (decide (x < (↑s.length : Int)))
 (iteP (inRange x s.length)
 (iteP (byteAt s x == (43 : Int))
 (∀ (m : Int),
 m = IntKind.i64.wrap (x + (1 : Int)) →
 iteP (decide ((0 : Int) ≤ m) && decide (m ≤ (↑s.length : Int)))
 (Room (List.drop m.toNat s) ∧
 ∀ (x : Int),
 InLen (List.drop m.toNat s) x →
 ∀ (m_1 : Int),
 m_1 = IntKind.i64.wrap (m + x) →
 iteP (decide ((0 : Int) ≤ m) && (decide (m ≤ m_1) && decide (m_1 ≤ (↑s.length : Int))))
 (∀ (m_2 : Int),
 m_2 = IntKind.i64.wrap (m + x) →
 iteP (decide (m_2 < (↑s.length : Int)))
 (iteP (inRange m_2 s.length)
 (iteP (byteAt s m_2 == (46 : Int))
 (∀ (m_3 : Int),
 m_3 = IntKind.i64.wrap (m_2 + (1 : Int)) →
 iteP (decide ((0 : Int) ≤ m_3) && decide (m_3 ≤ (↑s.length : Int)))
 (Room (List.drop m_3.toNat s) ∧
 ∀ (x_1 : Int),
 InLen (List.drop m_3.toNat s) x_1 →
 iteP (decide ((0 : Int) < x))
 (∀ (m_4 : Int),
 m_4 =
 IntKind.i64.wrap
 (IntKind.i64.wrap (m_2 + (1 : Int)) + x_1) →
 iteP
 (decide
 ((0 : Int) ≤ IntKind.i64.wrap (m_2 + (1 : Int))) &&
 (decide (IntKind.i64.wrap (m_2 + (1 : Int)) ≤ m_4) &&
 decide (m_4 ≤ (↑s.length : Int))))
 (∀ (m_5 : Int),
 m_5 =
 IntKind.i64.wrap
 (m_2 + IntKind.i64.wrap ((1 : Int) + x_1)) →
 iteP (x == (0 : Int))
 (iteP
 (decide
 (cutL s (IntKind.i64.wrap (m_2 + (1 : Int)))
 m_4 =
 []))
 (K
 (AV.tup
 [AV.sc (Value.int IntKind.i64 (0 : Int)),
 AV.sc (Value.int IntKind.i64 (0 : Int))]))
 (Room (cutL s m m_1) ∧
 ∀ (x : Int),
 True →
 K
 (AV.tup
 [AV.sc
 (Value.int IntKind.i64
 (min (10000000000000 : Int) x)),
 AV.sc
 (Value.int IntKind.i64 m_5)])))
 (Room (cutL s m m_1) ∧
 ∀ (x : Int),
 True →
 K
 (AV.tup
 [AV.sc
 (Value.int IntKind.i64
 (min (10000000000000 : Int) x)),
 AV.sc (Value.int IntKind.i64 m_5)])))
 False)
 (iteP (decide ((0 : Int) < x_1))
 (∀ (m_4 : Int),
 m_4 =
 IntKind.i64.wrap
 (IntKind.i64.wrap (m_2 + (1 : Int)) + x_1) →
 iteP
 (decide
 ((0 : Int) ≤
 IntKind.i64.wrap (m_2 + (1 : Int))) &&
 (decide
 (IntKind.i64.wrap (m_2 + (1 : Int)) ≤ m_4) &&
 decide (m_4 ≤ (↑s.length : Int))))
 (∀ (m_5 : Int),
 m_5 =
 IntKind.i64.wrap
 (m_2 + IntKind.i64.wrap ((1 : Int) + x_1)) →
 iteP (x == (0 : Int))
 (iteP
 (decide
 (cutL s (IntKind.i64.wrap (m_2 + (1 : Int)))
 m_4 =
 []))
 (K
 (AV.tup
 [AV.sc (Value.int IntKind.i64 (0 : Int)),
 AV.sc
 (Value.int IntKind.i64 (0 : Int))]))
 (Room (cutL s m m_1) ∧
 ∀ (x : Int),
 True →
 K
 (AV.tup
 [AV.sc
 (Value.int IntKind.i64
 (min (10000000000000 : Int)
 x)),
 AV.sc
 (Value.int IntKind.i64 m_5)])))
 (Room (cutL s m m_1) ∧
 ∀ (x : Int),
 True →
 K
 (AV.tup
 [AV.sc
 (Value.int IntKind.i64
 (min (10000000000000 : Int) x)),
 AV.sc
 (Value.int IntKind.i64 m_5)])))
 False)
 (iteP (x == (0 : Int))
 (K
 (AV.tup
 [AV.sc (Value.int IntKind.i64 (0 : Int)),
 AV.sc (Value.int IntKind.i64 (0 : Int))]))
 (Room (cutL s m m_1) ∧
 ∀ (x : Int),
 True →
 K
 (AV.tup
 [AV.sc
 (Value.int IntKind.i64
 (min (10000000000000 : Int) x)),
 AV.sc (Value.int IntKind.i64 m_2)])))))
 False)
 (iteP (x == (0 : Int))
 (K
 (AV.tup
 [AV.sc (Value.int IntKind.i64 (0 : Int)),
 AV.sc (Value.int IntKind.i64 (0 : Int))]))
 (Room (cutL s m m_1) ∧
 ∀ (x : Int),
 True →
 K
 (AV.tup
 [AV.sc (Value.int IntKind.i64 (min (10000000000000 : Int) x)),
 AV.sc (Value.int IntKind.i64 m_2)]))))
 False)
 (iteP (x == (0 : Int))
 (K
 (AV.tup
 [AV.sc (Value.int IntKind.i64 (0 : Int)),
 AV.sc (Value.int IntKind.i64 (0 : Int))]))
 (Room (cutL s m m_1) ∧
 ∀ (x : Int),
 True →
 K
 (AV.tup
 [AV.sc (Value.int IntKind.i64 (min (10000000000000 : Int) x)),
 AV.sc (Value.int IntKind.i64 m_2)]))))
 False)
 False)
 (iteP (decide ((0 : Int) ≤ x) && decide (x ≤ (↑s.length : Int)))
 (Room (List.drop x.toNat s) ∧
 ∀ (x_1 : Int),
 InLen (List.drop x.toNat s) x_1 →
 ∀ (m : Int),
 m = IntKind.i64.wrap (x + x_1) →
 iteP (decide ((0 : Int) ≤ x) && (decide (x ≤ m) && decide (m ≤ (↑s.length : Int))))
 (∀ (m_1 : Int),
 m_1 = IntKind.i64.wrap (x + x_1) →
 iteP (decide (m_1 < (↑s.length : Int)))
 (iteP (inRange m_1 s.length)
 (iteP (byteAt s m_1 == (46 : Int))
 (∀ (m_2 : Int),
 m_2 = IntKind.i64.wrap (m_1 + (1 : Int)) →
 iteP (decide ((0 : Int) ≤ m_2) && decide (m_2 ≤ (↑s.length : Int)))
 (Room (List.drop m_2.toNat s) ∧
 ∀ (x_2 : Int),
 InLen (List.drop m_2.toNat s) x_2 →
 iteP (decide ((0 : Int) < x_1))
 (∀ (m_3 : Int),
 m_3 =
 IntKind.i64.wrap
 (IntKind.i64.wrap (m_1 + (1 : Int)) + x_2) →
 iteP
 (decide ((0 : Int) ≤ IntKind.i64.wrap (m_1 + (1 : Int))) &&
 (decide (IntKind.i64.wrap (m_1 + (1 : Int)) ≤ m_3) &&
 decide (m_3 ≤ (↑s.length : Int))))
 (∀ (m_4 : Int),
 m_4 =
 IntKind.i64.wrap
 (m_1 + IntKind.i64.wrap ((1 : Int) + x_2)) →
 iteP (x_1 == (0 : Int))
 (iteP
 (decide
 (cutL s (IntKind.i64.wrap (m_1 + (1 : Int))) m_3 =
 []))
 (K
 (AV.tup
 [AV.sc (Value.int IntKind.i64 (0 : Int)),
 AV.sc (Value.int IntKind.i64 (0 : Int))]))
 (Room (cutL s x m) ∧
 ∀ (x : Int),
 True →
 K
 (AV.tup
 [AV.sc
 (Value.int IntKind.i64
 (min (10000000000000 : Int) x)),
 AV.sc (Value.int IntKind.i64 m_4)])))
 (Room (cutL s x m) ∧
 ∀ (x : Int),
 True →
 K
 (AV.tup
 [AV.sc
 (Value.int IntKind.i64
 (min (10000000000000 : Int) x)),
 AV.sc (Value.int IntKind.i64 m_4)])))
 False)
 (iteP (decide ((0 : Int) < x_2))
 (∀ (m_3 : Int),
 m_3 =
 IntKind.i64.wrap
 (IntKind.i64.wrap (m_1 + (1 : Int)) + x_2) →
 iteP
 (decide
 ((0 : Int) ≤ IntKind.i64.wrap (m_1 + (1 : Int))) &&
 (decide (IntKind.i64.wrap (m_1 + (1 : Int)) ≤ m_3) &&
 decide (m_3 ≤ (↑s.length : Int))))
 (∀ (m_4 : Int),
 m_4 =
 IntKind.i64.wrap
 (m_1 + IntKind.i64.wrap ((1 : Int) + x_2)) →
 iteP (x_1 == (0 : Int))
 (iteP
 (decide
 (cutL s (IntKind.i64.wrap (m_1 + (1 : Int)))
 m_3 =
 []))
 (K
 (AV.tup
 [AV.sc (Value.int IntKind.i64 (0 : Int)),
 AV.sc (Value.int IntKind.i64 (0 : Int))]))
 (Room (cutL s x m) ∧
 ∀ (x : Int),
 True →
 K
 (AV.tup
 [AV.sc
 (Value.int IntKind.i64
 (min (10000000000000 : Int) x)),
 AV.sc (Value.int IntKind.i64 m_4)])))
 (Room (cutL s x m) ∧
 ∀ (x : Int),
 True →
 K
 (AV.tup
 [AV.sc
 (Value.int IntKind.i64
 (min (10000000000000 : Int) x)),
 AV.sc (Value.int IntKind.i64 m_4)])))
 False)
 (iteP (x_1 == (0 : Int))
 (K
 (AV.tup
 [AV.sc (Value.int IntKind.i64 (0 : Int)),
 AV.sc (Value.int IntKind.i64 (0 : Int))]))
 (Room (cutL s x m) ∧
 ∀ (x : Int),
 True →
 K
 (AV.tup
 [AV.sc
 (Value.int IntKind.i64
 (min (10000000000000 : Int) x)),
 AV.sc (Value.int IntKind.i64 m_1)])))))
 False)
 (iteP (x_1 == (0 : Int))
 (K
 (AV.tup
 [AV.sc (Value.int IntKind.i64 (0 : Int)),
 AV.sc (Value.int IntKind.i64 (0 : Int))]))
 (Room (cutL s x m) ∧
 ∀ (x : Int),
 True →
 K
 (AV.tup
 [AV.sc (Value.int IntKind.i64 (min (10000000000000 : Int) x)),
 AV.sc (Value.int IntKind.i64 m_1)]))))
 False)
 (iteP (x_1 == (0 : Int))
 (K
 (AV.tup
 [AV.sc (Value.int IntKind.i64 (0 : Int)),
 AV.sc (Value.int IntKind.i64 (0 : Int))]))
 (Room (cutL s x m) ∧
 ∀ (x : Int),
 True →
 K
 (AV.tup
 [AV.sc (Value.int IntKind.i64 (min (10000000000000 : Int) x)),
 AV.sc (Value.int IntKind.i64 m_1)]))))
 False)
 False))
 False)
 (iteP (decide ((0 : Int) ≤ x) && decide (x ≤ (↑s.length : Int)))
 (Room (List.drop x.toNat s) ∧
 ∀ (x_1 : Int),
 InLen (List.drop x.toNat s) x_1 →
 ∀ (m : Int),
 m = IntKind.i64.wrap (x + x_1) →
 iteP (decide ((0 : Int) ≤ x) && (decide (x ≤ m) && decide (m ≤ (↑s.length : Int))))
 (∀ (m_1 : Int),
 m_1 = IntKind.i64.wrap (x + x_1) →
 iteP (decide (m_1 < (↑s.length : Int)))
 (iteP (inRange m_1 s.length)
 (iteP (byteAt s m_1 == (46 : Int))
 (∀ (m_2 : Int),
 m_2 = IntKind.i64.wrap (m_1 + (1 : Int)) →
 iteP (decide ((0 : Int) ≤ m_2) && decide (m_2 ≤ (↑s.length : Int)))
 (Room (List.drop m_2.toNat s) ∧
 ∀ (x_2 : Int),
 InLen (List.drop m_2.toNat s) x_2 →
 iteP (decide ((0 : Int) < x_1))
 (∀ (m_3 : Int),
 m_3 = IntKind.i64.wrap (IntKind.i64.wrap (m_1 + (1 : Int)) + x_2) →
 iteP
 (decide ((0 : Int) ≤ IntKind.i64.wrap (m_1 + (1 : Int))) &&
 (decide (IntKind.i64.wrap (m_1 + (1 : Int)) ≤ m_3) &&
 decide (m_3 ≤ (↑s.length : Int))))
 (∀ (m_4 : Int),
 m_4 =
 IntKind.i64.wrap
 (m_1 + IntKind.i64.wrap ((1 : Int) + x_2)) →
 iteP (x_1 == (0 : Int))
 (iteP
 (decide
 (cutL s (IntKind.i64.wrap (m_1 + (1 : Int))) m_3 =
 []))
 (K
 (AV.tup
 [AV.sc (Value.int IntKind.i64 (0 : Int)),
 AV.sc (Value.int IntKind.i64 (0 : Int))]))
 (Room (cutL s x m) ∧
 ∀ (x : Int),
 True →
 K
 (AV.tup
 [AV.sc
 (Value.int IntKind.i64
 (min (10000000000000 : Int) x)),
 AV.sc (Value.int IntKind.i64 m_4)])))
 (Room (cutL s x m) ∧
 ∀ (x : Int),
 True →
 K
 (AV.tup
 [AV.sc
 (Value.int IntKind.i64
 (min (10000000000000 : Int) x)),
 AV.sc (Value.int IntKind.i64 m_4)])))
 False)
 (iteP (decide ((0 : Int) < x_2))
 (∀ (m_3 : Int),
 m_3 =
 IntKind.i64.wrap (IntKind.i64.wrap (m_1 + (1 : Int)) + x_2) →
 iteP
 (decide ((0 : Int) ≤ IntKind.i64.wrap (m_1 + (1 : Int))) &&
 (decide (IntKind.i64.wrap (m_1 + (1 : Int)) ≤ m_3) &&
 decide (m_3 ≤ (↑s.length : Int))))
 (∀ (m_4 : Int),
 m_4 =
 IntKind.i64.wrap
 (m_1 + IntKind.i64.wrap ((1 : Int) + x_2)) →
 iteP (x_1 == (0 : Int))
 (iteP
 (decide
 (cutL s (IntKind.i64.wrap (m_1 + (1 : Int))) m_3 =
 []))
 (K
 (AV.tup
 [AV.sc (Value.int IntKind.i64 (0 : Int)),
 AV.sc (Value.int IntKind.i64 (0 : Int))]))
 (Room (cutL s x m) ∧
 ∀ (x : Int),
 True →
 K
 (AV.tup
 [AV.sc
 (Value.int IntKind.i64
 (min (10000000000000 : Int) x)),
 AV.sc (Value.int IntKind.i64 m_4)])))
 (Room (cutL s x m) ∧
 ∀ (x : Int),
 True →
 K
 (AV.tup
 [AV.sc
 (Value.int IntKind.i64
 (min (10000000000000 : Int) x)),
 AV.sc (Value.int IntKind.i64 m_4)])))
 False)
 (iteP (x_1 == (0 : Int))
 (K
 (AV.tup
 [AV.sc (Value.int IntKind.i64 (0 : Int)),
 AV.sc (Value.int IntKind.i64 (0 : Int))]))
 (Room (cutL s x m) ∧
 ∀ (x : Int),
 True →
 K
 (AV.tup
 [AV.sc
 (Value.int IntKind.i64
 (min (10000000000000 : Int) x)),
 AV.sc (Value.int IntKind.i64 m_1)])))))
 False)
 (iteP (x_1 == (0 : Int))
 (K
 (AV.tup
 [AV.sc (Value.int IntKind.i64 (0 : Int)),
 AV.sc (Value.int IntKind.i64 (0 : Int))]))
 (Room (cutL s x m) ∧
 ∀ (x : Int),
 True →
 K
 (AV.tup
 [AV.sc (Value.int IntKind.i64 (min (10000000000000 : Int) x)),
 AV.sc (Value.int IntKind.i64 m_1)]))))
 False)
 (iteP (x_1 == (0 : Int))
 (K
 (AV.tup
 [AV.sc (Value.int IntKind.i64 (0 : Int)),
 AV.sc (Value.int IntKind.i64 (0 : Int))]))
 (Room (cutL s x m) ∧
 ∀ (x : Int),
 True →
 K
 (AV.tup
 [AV.sc (Value.int IntKind.i64 (min (10000000000000 : Int) x)),
 AV.sc (Value.int IntKind.i64 m_1)]))))
 False)
 False))) :
 (fun (m : Int) (s : List UInt8) (K : AV → Prop) => wpCall T79 (cf m) Tryz.prog 60 79 [aStr s] heapF fun r h' => wpBack h' r K) m s K :=
 Eq.mp (by kernel_rfl) h
theorem c80 (m : Int) (s : List UInt8) (K : AV → Prop) (h :
 Room s ∧
 ∀ (_ : Unit),
 True →
 iteP (decide (Lib.trimS s [(32 : UInt8), (9 : UInt8)] = [])) (K (AV.sc (Value.bool true)))
 (K (AV.sc (Value.bool false)))) :
 (fun (m : Int) (s : List UInt8) (K : AV → Prop) => wpCall T80 (cf m) Tryz.prog 60 80 [aStr s] heapF fun r h' => wpBack h' r K) m s K :=
 Eq.mp (by kernel_rfl) h
theorem c50 (m : Int) (s : List UInt8) (K : AV → Prop) (h :
 Room s ∧
 ∀ (x : Int × Int),
 InLen s x.snd →
 iteP (decide ((0 : Int) < x.snd))
 (iteP (decide ((0 : Int) ≤ x.snd) && decide (x.snd ≤ (↑s.length : Int)))
 (Room (List.drop x.snd.toNat s) ∧
 ∀ (x_1 : Bool),
 True →
 iteP x_1
 (K
 (AV.agg
 [AV.sc (Value.int IntKind.i64 (3 : Int)), AV.sc (Value.int IntKind.i64 x.fst),
 AV.sc (Value.string (ByteArray.mk (Array.mk s)))]))
 (K
 (AV.agg
 [AV.sc (Value.int IntKind.i64 (2 : Int)), AV.sc (Value.int IntKind.i64 (0 : Int)),
 AV.sc (Value.string (ByteArray.mk (Array.mk s)))])))
 False)
 (K
 (AV.agg
 [AV.sc (Value.int IntKind.i64 (2 : Int)), AV.sc (Value.int IntKind.i64 (0 : Int)),
 AV.sc (Value.string (ByteArray.mk (Array.mk s)))]))) :
 (fun (m : Int) (s : List UInt8) (K : AV → Prop) => wpCall T50 (cf m) Tryz.prog 60 50 [aStr s] heapF fun r h' => wpBack h' r K) m s K :=
 Eq.mp (by kernel_rfl) h
end
end Go.Proofs.Rd
namespace Go.Proofs.Rd
open Go Go.Ef
noncomputable section
set_option maxRecDepth 100000
variable {m : Int} {T : Tab}
abbrev Ok (m : Int) (T : Tab) : Prop := TabOk Tryz.prog (cf m) T
theorem inRange_ff {n : Int} {k : Nat} : (inRange n k = false) = ¬ (0 ≤ n ∧ n < (k : Int)) := by
 rw [← inRange_iff]
 cases inRange n k <;> simp
theorem ran {s : List UInt8} {i : Nat} (h : i < s.length) : inRange (i : Int) s.length = true := by rw [inRange_iff]; omega
theorem loop117 (m : Int) (s : List UInt8) (hs : Room s) : ∀ (f i : Nat), s.length - i = f → i ≤ s.length →
  Ev (cf m) Tryz.prog 117 (.loop (loopAt Tryz.prog 117 3)) (I117 s i) fun e τ => e = .exit 0 ∧ ∃ n, InLen s n ∧ τ = E117 n := by
 have hs := hs.le
 have can : ∀ i : Nat, (I117 s i).tidy [0, 3] 0 = I117 s i := fun i => by kernel_rfl
 have out : ∀ (i : Nat), i ≤ s.length → ∀ e τ, q117 (fun n => n = i) e τ → e = .exit 0 ∧ ∃ n, InLen s n ∧ τ = E117 n := by
  intro i hi e τ h
  unfold q117 at h
  split at h
  ·obtain ⟨h1, h2, h3⟩ := h
   exact ⟨h1, _, ⟨by omega, by omega⟩, h2⟩
  ·exact h.elim
 intro f
 induction f with
 | zero =>
  intro i hf hi
  refine Ev.round (t := ⟨[0, 3], [3], 0⟩) tab0_ok (by kernel_rfl) rfl (can i) (v117 m s i (fun _ => False) (fun n => n = i) ?_) (fun τ h => h.2.elim) (out i hi)
  rw [decide_eq_false (by omega), iteP_f]
  exact ⟨rfl, rfl, rfl⟩
 | succ f ih =>
  intro i hf hi
  have hlt : i < s.length := by omega
  have hw : IntKind.i64.wrap ((i : Int) + 1) = ((i + 1 : Nat) : Int) := by rw [wrap_in (by omega) (by omega)]; rfl
  refine Ev.round (t := ⟨[0, 3], [3], 0⟩) tab0_ok (by kernel_rfl) rfl (can i) (v117 m s i (fun j => j = ((i + 1 : Nat) : Int)) (fun n => n = i) ?_) (fun τ h => ?_) (out i hi)
  ·rw [decide_eq_true (by omega), iteP_t, ran hlt, iteP_t, iteP_t, hw]
   exact iteP_intro (fun _ => iteP_intro (fun _ => ⟨rfl, rfl⟩) fun _ => ⟨rfl, rfl, rfl⟩) fun _ => ⟨rfl, rfl, rfl⟩
  ·obtain ⟨h1, h2⟩ := h
   rw [h2] at h1
   rw [h1]
   exact ih (i + 1) (by omega) (by omega)
theorem ok117L : Ok m T117 := by
 refine addL_ok tab0_ok fun σ s hs hp => ?_
 cases hs
 obtain ⟨e, h1⟩ := hp
 have he : Ev (cf m) Tryz.prog 117 (.loop (loopAt Tryz.prog 117 3)) σ fun e τ => e = .exit 0 ∧ ∃ n, InLen (slS σ 0) n ∧ τ = E117 n := by
  refine Ev.tidied (t := ⟨[0, 3], [3], 0⟩) (τ := I117 (slS σ 0) (0 : Nat)) (by kernel_rfl) (by rw [e]; kernel_rfl) ?_
  exact loop117 m (slS σ 0) h1 _ 0 rfl (Nat.zero_le _)
 obtain ⟨n, ex, τ, h6, rfl, k, h7, rfl⟩ := he
 exact ⟨_, List.mem_singleton.2 rfl, k, h7, n, h6⟩
theorem ok117 (O : Ok m T) : Ok m (T.addC 117 C117) := by
 refine addC_ok O fun args h s hs hp => ?_
 unfold C117 at hs
 split at hs
 ·rename_i s0
  cases hs
  obtain ⟨⟨s0⟩⟩ := s0
  have key : EvP (cf m) Tryz.prog 117 [aStr s0] h fun y h' => (∃ n, InLen s0 n ∧ y = intA n) ∧ h' = h := by
   refine EvP.freshK ok117L (n := 40) (by kernel_rfl) (by kernel_rfl) (args' := [aStr s0]) rfl (c117 m s0 _ ⟨rfl, ⟨rfl, hp⟩, fun x hx => ⟨x, hx, rfl⟩⟩)
  obtain ⟨n, v, h', g1, ⟨k, hk, rfl⟩, rfl⟩ := key
  exact ⟨_, List.mem_singleton.2 rfl, k, n, hk, g1⟩
 ·cases hs
theorem loop79 (m : Int) (s : List UInt8) (hs : Room s) : ∀ (f i : Nat), s.length - i = f → i ≤ s.length →
  Ev (cf m) Tryz.prog 79 (.loop (loopAt Tryz.prog 79 3)) (I79 s i) fun e τ => e = .exit 0 ∧ ∃ n, InLen s n ∧ τ = I79 s n := by
 have hs := hs.le
 have can : ∀ i : Nat, (I79 s i).tidy [0, 4] 0 = I79 s i := fun i => by kernel_rfl
 have out : ∀ (i : Nat), i ≤ s.length → ∀ e τ, q79 (fun t n => t = s ∧ n = i) e τ → e = .exit 0 ∧ ∃ n, InLen s n ∧ τ = I79 s n := by
  intro i hi e τ h
  unfold q79 at h
  split at h
  ·obtain ⟨h1, h2, h3, h4⟩ := h
   rw [h3] at h2
   exact ⟨h1, _, ⟨by omega, by omega⟩, h2⟩
  ·exact h.elim
 intro f
 induction f with
 | zero =>
  intro i hf hi
  refine Ev.round (t := ⟨[0, 4], [0, 4], 0⟩) tab0_ok (by kernel_rfl) rfl (can i) (v79 m s i (fun _ => False) (fun t n => t = s ∧ n = i) ?_) (fun τ h => h.2.elim) (out i hi)
  rw [decide_eq_false (by omega), iteP_f]
  exact ⟨rfl, rfl, rfl, rfl⟩
 | succ f ih =>
  intro i hf hi
  have hlt : i < s.length := by omega
  have hw : IntKind.i64.wrap ((i : Int) + 1) = ((i + 1 : Nat) : Int) := by rw [wrap_in (by omega) (by omega)]; rfl
  refine Ev.round (t := ⟨[0, 4], [0, 4], 0⟩) tab0_ok (by kernel_rfl) rfl (can i) (v79 m s i (fun j => j = ((i + 1 : Nat) : Int)) (fun t n => t = s ∧ n = i) ?_) (fun τ h => ?_) (out i hi)
  ·rw [decide_eq_true (by omega), iteP_t, ran hlt, iteP_t, iteP_t, hw]
   exact iteP_intro (fun _ => ⟨rfl, rfl⟩) fun _ => iteP_intro (fun _ => ⟨rfl, rfl⟩) fun _ => ⟨rfl, rfl, rfl, rfl⟩
  ·obtain ⟨h1, h2⟩ := h
   rw [h2] at h1
   rw [h1]
   exact ih (i + 1) (by omega) (by omega)
theorem ok79L (O : Ok m T) : Ok m (T.addL 79 3 L79) := by
 refine addL_ok O fun σ s hs hp => ?_
 cases hs
 obtain ⟨e, h1⟩ := hp
 have he : Ev (cf m) Tryz.prog 79 (.loop (loopAt Tryz.prog 79 3)) σ fun e τ => e = .exit 0 ∧ ∃ n, InLen (slS σ 0) n ∧ τ = I79 (slS σ 0) n := by
  refine Ev.tidied (t := ⟨[0, 4], [0, 4], 0⟩) (τ := I79 (slS σ 0) (0 : Nat)) (by kernel_rfl) (by rw [e]; kernel_rfl) ?_
  exact loop79 m (slS σ 0) h1 _ 0 rfl (Nat.zero_le _)
 obtain ⟨n, ex, τ, h6, rfl, k, h7, rfl⟩ := he
 exact ⟨_, List.mem_singleton.2 rfl, k, h7, n, h6⟩
theorem loop160 (m : Int) (s : List UInt8) : ∀ (f i : Nat) (d : Int), 4 - i = f → i ≤ 4 →
  Ev (cf m) Tryz.prog 160 (.loop (loopAt Tryz.prog 160 4)) (I160 s d i) fun e τ => e = .exit 0 ∧ ∃ d, τ = E160 d := by
 have can : ∀ (d : Int) (i : Nat), (I160 s d i).tidy [0, 3, 5] 0 = I160 s d i := fun d i => by kernel_rfl
 have out : ∀ e τ, q160 e τ → e = .exit 0 ∧ ∃ d, τ = E160 d := by
  intro e τ h
  unfold q160 at h
  split at h
  ·exact ⟨h.1, _, h.2⟩
  ·exact h.elim
 intro f
 induction f with
 | zero =>
  intro i d hf hi
  refine Ev.round (t := ⟨[0, 3, 5], [3], 0⟩) tab0_ok (by kernel_rfl) rfl (can d i) (v160 m s d i (fun _ _ => False) ?_) (fun τ h => h.2.elim) out
  rw [decide_eq_false (by omega), iteP_f]
  exact ⟨rfl, rfl⟩
 | succ f ih =>
  intro i d hf hi
  have hw : IntKind.i64.wrap ((i : Int) + 1) = ((i + 1 : Nat) : Int) := by rw [wrap_in (by omega) (by omega)]; rfl
  refine Ev.round (t := ⟨[0, 3, 5], [3], 0⟩) tab0_ok (by kernel_rfl) rfl (can d i) (v160 m s d i (fun _ j => j = ((i + 1 : Nat) : Int)) ?_) (fun τ h => ?_) out
  ·rw [decide_eq_true (by omega), iteP_t, hw]
   refine iteP_intro (fun hq => ?_) fun _ => ⟨rfl, rfl⟩
   have hq := of_decide_eq_true hq
   rw [ran (by omega), iteP_t]
   exact ⟨rfl, rfl⟩
  ·obtain ⟨h1, h2⟩ := h
   rw [h2] at h1
   rw [h1]
   exact ih (i + 1) _ (by omega) (by omega)
theorem ok160L : Ok m T160 := by
 refine addL_ok tab0_ok fun σ s hs hp => ?_
 cases hs
 have he : Ev (cf m) Tryz.prog 160 (.loop (loopAt Tryz.prog 160 4)) σ fun e τ => e = .exit 0 ∧ ∃ d, τ = E160 d := by
  refine Ev.tidied (t := ⟨[0, 3, 5], [3], 0⟩) (τ := I160 (slS σ 0) 0 (0 : Nat)) (by kernel_rfl) (by rw [show σ.tidy [0, 3, 5] 0 = _ from hp]; kernel_rfl) ?_
  exact loop160 m (slS σ 0) _ 0 0 rfl (Nat.zero_le _)
 obtain ⟨n, ex, τ, h6, rfl, k, rfl⟩ := he
 exact ⟨_, List.mem_singleton.2 rfl, k, trivial, n, h6⟩
theorem ok160 (O : Ok m T) : Ok m (T.addC 160 C160) := by
 refine addC_ok O fun args h s hs hp => ?_
 unfold C160 at hs
 split at hs
 ·rename_i s0
  cases hs
  obtain ⟨⟨s0⟩⟩ := s0
  have key : EvP (cf m) Tryz.prog 160 [aStr s0] h fun y h' => (∃ n, y = intA n) ∧ h' = h := by
   refine EvP.freshK ok160L (n := 40) (by kernel_rfl) (by kernel_rfl) (args' := [aStr s0]) rfl (c160 m s0 _ ⟨rfl, rfl, fun x _ => ⟨x, rfl⟩⟩)
  obtain ⟨n, v, h', g1, ⟨k, rfl⟩, rfl⟩ := key
  exact ⟨_, List.mem_singleton.2 rfl, k, n, trivial, g1⟩
 ·cases hs
theorem loop118 (m : Int) (s f : List UInt8) (hs : Room s) : ∀ (k i : Nat) (d : Int), s.length - i = k → i ≤ s.length →
  Ev (cf m) Tryz.prog 118 (.loop (loopAt Tryz.prog 118 4)) (I118 s f d s.length i) fun e τ => (e = .exit 0 ∧ ∃ d, τ = E118 f d) ∨ (e = .ret ∧ ∃ d, τ = R118 f d) := by
 have hs := hs.le
 have can : ∀ (d : Int) (i : Nat), (I118 s f d s.length i).tidy [0, 1, 5, 8, 9] 0 = I118 s f d s.length i := fun d i => by kernel_rfl
 have out : ∀ e τ, q118 f e τ → (e = .exit 0 ∧ ∃ d, τ = E118 f d) ∨ (e = .ret ∧ ∃ d, τ = R118 f d) := by
  intro e τ h
  unfold q118 at h
  split at h
  ·exact .inl ⟨h.1, _, h.2⟩
  ·exact .inr ⟨rfl, _, h⟩
  ·exact h.elim
 intro k
 induction k with
 | zero =>
  intro i d hf hi
  refine Ev.round (t := ⟨[0, 1, 5, 8, 9], [1, 4, 5], 0⟩) tab0_ok (by kernel_rfl) rfl (can d i) (v118 m s f d s.length i (fun _ _ => False) ?_) (fun τ h => h.2.elim) out
  rw [decide_eq_false (by omega), iteP_f]
  exact ⟨rfl, rfl⟩
 | succ k ih =>
  intro i d hf hi
  have hw : IntKind.i64.wrap ((i : Int) + 1) = ((i + 1 : Nat) : Int) := by rw [wrap_in (by omega) (by omega)]; rfl
  refine Ev.round (t := ⟨[0, 1, 5, 8, 9], [1, 4, 5], 0⟩) tab0_ok (by kernel_rfl) rfl (can d i) (v118 m s f d s.length i (fun _ j => j = ((i + 1 : Nat) : Int)) ?_) (fun τ h => ?_) out
  ·rw [decide_eq_true (by omega), iteP_t, hw, ran (by omega), iteP_t]
   exact iteP_intro (fun _ => rfl) fun _ => ⟨rfl, rfl⟩
  ·obtain ⟨h1, h2⟩ := h
   rw [h2] at h1
   rw [h1]
   exact ih (i + 1) _ (by omega) (by omega)
theorem ok118L (O : Ok m T) : Ok m (T.addL 118 4 L118) := by
 refine addL_ok O fun σ s hs hp => ?_
 cases hs
 obtain ⟨e, h1⟩ := hp
 have he : Ev (cf m) Tryz.prog 118 (.loop (loopAt Tryz.prog 118 4)) σ fun e τ => (e = .exit 0 ∧ ∃ d, τ = E118 (slS σ 1) d) ∨ (e = .ret ∧ ∃ d, τ = R118 (slS σ 1) d) := by
  refine Ev.tidied (t := ⟨[0, 1, 5, 8, 9], [1, 4, 5], 0⟩) (τ := I118 (slS σ 0) (slS σ 1) 0 (slS σ 0).length (0 : Nat)) (by kernel_rfl) (by rw [e]; kernel_rfl) ?_
  exact loop118 m (slS σ 0) (slS σ 1) h1 _ 0 0 rfl (Nat.zero_le _)
 obtain ⟨n, ex, τ, h6, ⟨rfl, k, rfl⟩ | ⟨rfl, k, rfl⟩⟩ := he
 ·exact ⟨_, List.mem_cons_self .., k, trivial, n, h6⟩
 ·exact ⟨_, List.mem_cons_of_mem _ (List.mem_cons_self ..), k, trivial, n, h6⟩
theorem ok118 (O : Ok m T) : Ok m (T.addC 118 C118) := by
 refine addC_ok O fun args h s hs hp => ?_
 unfold C118 at hs
 split at hs
 ·rename_i s0 f0
  cases hs
  obtain ⟨⟨s0⟩⟩ := s0
  obtain ⟨⟨f0⟩⟩ := f0
  have key : EvP (cf m) Tryz.prog 118 [aStr s0, aStr f0] h fun y h' => (∃ n, y = intA n) ∧ h' = h := by
   refine EvP.freshK (ok160 (ok118L tab0_ok)) (n := 40) (by kernel_rfl) (by kernel_rfl) (args' := [aStr s0, aStr f0]) rfl (c118 m s0 f0 _ ⟨rfl, ⟨rfl, hp⟩, fun x _ => ⟨trivial, fun y _ => ⟨_, rfl⟩⟩, fun x _ => ⟨_, rfl⟩⟩)
  obtain ⟨n, v, h', g1, ⟨k, rfl⟩, rfl⟩ := key
  exact ⟨_, List.mem_singleton.2 rfl, k, n, trivial, g1⟩
 ·cases hs
theorem okC119 : Ok m T80 := by
 refine addC_ok tab0_ok fun args h s hs hp => ?_
 unfold C119 at hs
 split at hs
 ·rename_i s0 t0
  obtain ⟨⟨t0⟩⟩ := t0
  rw [sameL_eq] at hs
  cases q : decide (t0 = [32, 9]) with
  | false => rw [show decide ((ByteArray.mk ⟨t0⟩).data.toList = [32, 9]) = false from q] at hs; cases hs
  | true =>
   rw [show decide ((ByteArray.mk ⟨t0⟩).data.toList = [32, 9]) = true from q] at hs
   obtain rfl := of_decide_eq_true q
   cases hs
   refine ⟨_, List.mem_singleton.2 rfl, (), 0, trivial, ?_⟩
   show trimP [.sc (.string s0), .sc (.string ⟨⟨[32, 9]⟩⟩)] h = _
   unfold trimP
   simp only []
   have hp := hp.le
   rw [Nat.ble_eq_true_of_le (Nat.le_trans hp (by decide))]; rfl
 ·cases hs
theorem ok80 (O : Ok m T) : Ok m (T.addC 80 C80) := by
 refine addC_ok O fun args h s hs hp => ?_
 unfold C80 at hs
 split at hs
 ·rename_i s0
  cases hs
  obtain ⟨⟨s0⟩⟩ := s0
  have hp := hp.le
  have hp : s0.length ≤ 4294967280 := hp
  have key : EvP (cf m) Tryz.prog 80 [aStr s0] h fun y h' => (∃ b, y = aBool b) ∧ h' = h := by
   refine EvP.freshK okC119 (n := 60) (by kernel_rfl) (by kernel_rfl) (args' := [aStr s0]) rfl (c80 m s0 (fun y => ∃ b, y = aBool b) ⟨⟨hp⟩, fun _ _ => iteP_intro (fun _ => ⟨true, rfl⟩) fun _ => ⟨false, rfl⟩⟩)
  obtain ⟨n, v, h', g1, ⟨b, rfl⟩, rfl⟩ := key
  exact ⟨_, List.mem_singleton.2 rfl, b, n, trivial, g1⟩
 ·cases hs
structure Q79 (s : List UInt8) (y : AV) : Prop where
 is : ∃ p : Int × Int, InLen s p.2 ∧ y = .tup [intA p.1, intA p.2]
theorem q79_mk {s : List UInt8} {a n : Int} (h1 : 0 ≤ n) (h2 : n ≤ s.length) : Q79 s (AV.tup [AV.sc (Value.int IntKind.i64 a), AV.sc (Value.int IntKind.i64 n)]) := ⟨(a, n), ⟨h1, h2⟩, rfl⟩
theorem room_drop {s : List UInt8} {n : Nat} (h : Room s) : Room (s.drop n) := ⟨by have := h.le; simp; omega⟩
theorem room_cut {s : List UInt8} {a b : Int} (h : Room s) : Room (cutL s a b) := ⟨by have := h.le; unfold cutL; simp; omega⟩
set_option maxHeartbeats 2000000 in
theorem w79 (m : Int) (s0 : List UInt8) (hp : Room s0) : wpCall T79 (cf m) Tryz.prog 60 79 [aStr s0] heapF fun r h' => wpBack h' r (Q79 s0) := by
 have hl := hp.le
 refine c79 m s0 (Q79 s0) ?_
 refine ⟨rfl, ⟨rfl, hp⟩, ?_⟩
 repeat' first
  | with_reducible (refine iteP_intro ?_ ?_)
  | with_reducible (refine And.intro ?_ ?_)
  | with_reducible exact room_drop hp
  | with_reducible exact room_cut hp
  | with_reducible (intro h; have h1 := InLen.lo h; have h2 := InLen.hi h; clear h)
  | with_reducible intro h
 all_goals (
  simp only [wrap64, decide_eq_true_eq, decide_eq_false_iff_not, Bool.and_eq_true, Bool.and_eq_false_imp, inRange_iff, inRange_ff, List.length_drop, beq_iff_eq, beq_eq_false_iff_ne, ne_eq] at *
  first
   | (exfalso; omega)
   | (refine q79_mk ?_ ?_ <;> omega))
theorem ok79 (O : Ok m T) : Ok m (T.addC 79 C79) := by
 refine addC_ok O fun args h s hs hp => ?_
 unfold C79 at hs
 split at hs
 ·rename_i s0
  cases hs
  obtain ⟨⟨s0⟩⟩ := s0
  have key : EvP (cf m) Tryz.prog 79 [aStr s0] h fun y h' => Q79 s0 y ∧ h' = h :=
   EvP.freshK (name_ok (name_ok (name_ok (name_ok (name_ok (name_ok (ok118 (ok117 (ok79L tab0_ok))) 79 63) 79 67) 79 80) 79 54) 79 100) 79 95) (n := 60) (by kernel_rfl) (by kernel_rfl) (args' := [aStr s0]) rfl (w79 m s0 hp)
  obtain ⟨n, v, h', g1, ⟨k, h3, rfl⟩, rfl⟩ := key
  exact ⟨_, List.mem_singleton.2 rfl, k, n, h3, g1⟩
 ·cases hs
theorem ok50 (O : Ok m T) : Ok m (T.addC 50 C50) := by
 refine addC_ok O fun args h s hs hp => ?_
 unfold C50 at hs
 split at hs
 ·rename_i s0
  cases hs
  obtain ⟨⟨s0⟩⟩ := s0
  have hp : Room s0 := hp
  have hl := hp.le
  have key : EvP (cf m) Tryz.prog 50 [aStr s0] h fun y h' => ((∃ d, y = numV d s0) ∨ y = txtV s0) ∧ h' = h := by
   refine EvP.freshK (ok80 (ok79 tab0_ok)) (n := 60) (by kernel_rfl) (by kernel_rfl) (args' := [aStr s0]) rfl (c50 m s0 _ ⟨hp, fun x hx => ?_⟩)
   have h1 := hx.lo
   have h2 := hx.hi
   refine iteP_intro (fun _ => ?_) fun _ => .inr rfl
   rw [decide_eq_true h1, decide_eq_true h2, Bool.and_self, iteP_t]
   exact ⟨⟨by simp; omega⟩, fun b _ => iteP_intro (fun _ => .inl ⟨_, rfl⟩) fun _ => .inr rfl⟩
  obtain ⟨n, v, h', g1, ⟨d, rfl⟩ | rfl, rfl⟩ := key
  ·exact ⟨_, List.mem_cons_self .., d, n, trivial, g1⟩
  ·exact ⟨_, List.mem_cons_of_mem _ (List.mem_cons_self ..), (), n, trivial, g1⟩
 ·cases hs
end
end Go.Proofs.Rd
namespace Go.Proofs.Rd
open Go Go.Ef
noncomputable section
def nilA : AV := .sc (.slice none 0 0)
def i0 : AV := .sc (.int .i64 0)
def u0 : AV := .sc (.int .u64 0)
def recC (c : UInt8) (out whole : List UInt8) (f : AV) : List AV := [aStr [c], aStr [], i0, i0, i0, u0, u0, u0, u0, i0, i0, i0, nilA, aStr out, aStr whole, f]
def hG (k : Nat) (a b r1 r0 : Tr AObj) (v1 v0 : Option AObj) (ro : Nat) (ty : Tr (Nat × Nat)) (rec : List AV) : Heap := ⟨k + 4, .node (.node (.node a (some (.cells rec)) b) v1 r1) v0 r0, ro, ty⟩
theorem hG_of {h : Heap} {rec : List AV} (hg : h.get 3 = some (.cells rec)) : ∃ k a b r1 r0 v1 v0 ro ty, h = hG k a b r1 r0 v1 v0 ro ty rec := by
 obtain ⟨nx, ob, ro, ty⟩ := h
 have hb : Nat.blt 3 nx = true := by
  cases hb : Nat.blt 3 nx with
  | true => rfl
  | false => simp only [Heap.get, hb, cond_false] at hg; cases hg
 have hn : 4 ≤ nx := Nat.le_of_ble_eq_true hb
 have h2 : ob.get 3 = some (.cells rec) := by
  simp only [Heap.get, hb, cond_true] at hg; exact hg
 obtain ⟨k, rfl⟩ : ∃ k, nx = k + 4 := ⟨nx - 4, by omega⟩
 cases ob with
 | leaf => cases h2
 | node l v0 r0 =>
  have h3 : l.get 1 = some (.cells rec) := h2
  cases l with
  | leaf => cases h3
  | node l v1 r1 =>
   have h4 : l.get 0 = some (.cells rec) := h3
   cases l with
   | leaf => cases h4
   | node a v b =>
    have h5 : v = some (.cells rec) := h4
    subst h5
    exact ⟨k, a, b, r1, r0, v1, v0, ro, ty, rfl⟩
inductive Fld (h : Heap) : AV → List (List UInt8) → Prop where
 | nil : Fld h nilA []
 | sl (L : List (List UInt8)) : L ≠ [] → Fld h (.sl (L.map strEl) 0) L
 | row (id : Nat) (L : List (List UInt8)) : L ≠ [] → h.get id = some (.cells (L.map aStr)) → Fld h (.rsl id 0 L.length 1) L
structure IsRec (h : Heap) (L : List (List UInt8)) : Prop where
 is : ∃ c out whole f, h.get 3 = some (.cells (recC c out whole f)) ∧ Fld h f L
structure HasRec (h : Heap) : Prop where
 is : ∃ L, IsRec h L
structure GetOk (h : Heap) (k : Int) : Prop where
 is : ∃ L, IsRec h L ∧ 1 ≤ k ∧ k ≤ L.length ∧ L.length ≤ 1024 ∧ ∀ x ∈ L, Room x
structure IsGet (h : Heap) (k : Int) (s : List UInt8) : Prop where
 is : ∀ L, IsRec h L → L[(k - 1).toNat]? = some s
structure FldsOk (h : Heap) : Prop where
 is : ∃ L, IsRec h L ∧ L.length ≤ 1024 ∧ ∀ x ∈ L, Room x
 ro : h.ro ≤ h.next
def C26 (args : List AV) (h : Heap) : Option CSpec :=
 match args with
 | [.ptr 3 0] => some { pre := HasRec h, alts := [{ α := List (List UInt8), post := fun L => IsRec h L, val := fun L => intA L.length, heap := fun _ => h }] }
 | _ => none
def C27 (args : List AV) (h : Heap) : Option CSpec :=
 match args with
 | [.ptr 3 0, .sc (.int .i64 k)] => some { pre := GetOk h k, alts := [{ α := List UInt8 × Int, post := fun p => IsGet h k p.1, val := fun p => .tup [numV p.2 p.1, intA 0], heap := fun _ => h }, { α := List UInt8, post := fun s => IsGet h k s, val := fun s => .tup [txtV s, intA 0], heap := fun _ => h }] }
 | _ => none
def tabS : Tab := { tab0 with symS := fun f d => Nat.beq f 27 && (match d with | some t => Nat.beq t 42 | none => false), lazy := fun f => Nat.beq f 26 || Nat.beq f 27 }
def T27 : Tab := tabS.addC 50 C50
def I30n (h : Heap) (n i : Int) : St := stOf 36 [(0, .v (.ptr 3 0)), (4, .v nilA), (5, sInt n), (6, sInt i)] [] h
def I30o (h : Heap) (els : List (List AV)) (id : Nat) (n i : Int) : St := stOf 36 [(0, .v (.ptr 3 0)), (4, .v (.sl els (id + 1))), (5, sInt n), (6, sInt i)] [] h
def E30n (h : Heap) : St := stOf 36 [(2, .unk), (3, .unk), (4, .v nilA)] [] h
def E30o (h : Heap) (els : List (List AV)) (id : Nat) : St := stOf 36 [(2, .unk), (3, .unk), (4, .v (.sl els (id + 1)))] [] h
def q30n (h : Heap) (X : Prop) (e : Ex) (τ : St) : Prop :=
 match e with
 | .exit _ => e = .exit 0 ∧ τ = E30n h ∧ X
 | _ => False
def q30o (h : Heap) (els : List (List AV)) (id : Nat) (X : Prop) (e : Ex) (τ : St) : Prop :=
 match e with
 | .exit _ => e = .exit 0 ∧ τ = E30o h els id ∧ X
 | _ => False
def T30z : Tab := { (((tab0.addC 26 C26).addC 27 C27)) with symN := fun f => Nat.beq f 30, lazy := fun f => Nat.beq f 30 }
structure Loop30 (h : Heap) (n : Int) : Prop where
 is : ∃ L, IsRec h L ∧ n = L.length ∧ L.length ≤ 1024 ∧ ∀ x ∈ L, Room x
 ro : h.ro ≤ h.next
structure NoFld (h : Heap) : Prop where
 is : IsRec h []
structure SomeFld (h : Heap) (L : List (List UInt8)) : Prop where
 is : IsRec h L
 ne : L ≠ []
def L30 (σ : St) : Option LSpec := some { pre := σ.tidy [0, 4, 5, 6] 0 = I30n σ.h (slI σ 5) 1 ∧ Loop30 σ.h (slI σ 5), alts := [{ α := Unit, post := fun _ => NoFld σ.h, ex := .exit 0, st := fun _ => E30n σ.h }, { α := List (List UInt8), post := fun L => SomeFld σ.h L, ex := .exit 0, st := fun L => E30o (newOwnL σ.h 1 9 L.length) (L.map strEl) σ.h.next }] }
def T30 : Tab := T30z.addL 30 7 L30
def fieldC (h : Heap) : Option AV :=
 match h.get 3 with
 | some (.cells cs) => getI 15 cs
 | _ => none
def isNilC (h : Heap) : Bool :=
 match fieldC h with
 | some (.sc (.slice none 0 0)) => true
 | _ => false
def C30 (args : List AV) (h : Heap) : Option CSpec :=
 match args with
 | [.ptr 3 0] => bif isNilC h then some { pre := FldsOk h, alts := [{ α := Unit, post := fun _ => NoFld h, val := fun _ => .tup [nilA, aBool true], heap := fun _ => h }] }
   else some { pre := FldsOk h, alts := [{ α := List (List UInt8), post := fun L => SomeFld h L, val := fun L => .tup [.sl (L.map strEl) (h.next + 1), aBool true], heap := fun L => (h.new (.own 1 9 L.length)).2 }] }
 | _ => none
end
end Go.Proofs.Rd
namespace Go.Proofs.Rd
open Go Go.Ef
noncomputable section
set_option maxRecDepth 100000
theorem c26n (m : Int) (k : Nat) (a : Tr AObj) (b : Tr AObj) (r1 : Tr AObj) (r0 : Tr AObj) (v1 : Option AObj) (v0 : Option AObj) (ro : Nat) (ty : Tr (Nat × Nat)) (c : UInt8) (out : List UInt8) (whole : List UInt8) (K : AV → Heap → Prop) (h :
 K (AV.sc (Value.int IntKind.i64 (0 : Int)))
 (Heap.mk (k + (4 : Nat))
 (((a.node
 (some
 (AObj.cells
 [AV.sc (Value.string (ByteArray.mk (Array.mk [c]))),
 AV.sc (Value.string (ByteArray.mk (Array.mk []))), AV.sc (Value.int IntKind.i64 (0 : Int)),
 AV.sc (Value.int IntKind.i64 (0 : Int)), AV.sc (Value.int IntKind.i64 (0 : Int)),
 AV.sc (Value.int IntKind.u64 (0 : Int)), AV.sc (Value.int IntKind.u64 (0 : Int)),
 AV.sc (Value.int IntKind.u64 (0 : Int)), AV.sc (Value.int IntKind.u64 (0 : Int)),
 AV.sc (Value.int IntKind.i64 (0 : Int)), AV.sc (Value.int IntKind.i64 (0 : Int)),
 AV.sc (Value.int IntKind.i64 (0 : Int)), AV.sc (Value.slice none (0 : Nat) (0 : Nat)),
 AV.sc (Value.string (ByteArray.mk (Array.mk out))),
 AV.sc (Value.string (ByteArray.mk (Array.mk whole))),
 AV.sc (Value.slice none (0 : Nat) (0 : Nat))]))
 b).node
 v1 r1).node
 v0 r0)
 ro ty)) :
 (fun (m : Int) (k : Nat) (a b r1 r0 : Tr AObj) (v1 v0 : Option AObj) (ro : Nat) (ty : Tr (Nat × Nat)) (c : UInt8) (out whole : List UInt8) (K : AV → Heap → Prop) => wpCall tabS (cf m) Tryz.prog 40 26 [.ptr 3 0] (hG k a b r1 r0 v1 v0 ro ty (recC c out whole nilA)) K) m k a b r1 r0 v1 v0 ro ty c out whole K :=
 Eq.mp (by kernel_rfl) h
theorem c26s (m : Int) (k : Nat) (a : Tr AObj) (b : Tr AObj) (r1 : Tr AObj) (r0 : Tr AObj) (v1 : Option AObj) (v0 : Option AObj) (ro : Nat) (ty : Tr (Nat × Nat)) (c : UInt8) (out : List UInt8) (whole : List UInt8) (els : List (List AV)) (K : AV → Heap → Prop) (h :
 K (AV.sc (Value.int IntKind.i64 (↑els.length : Int)))
 (Heap.mk (k + (4 : Nat))
 (((a.node
 (some
 (AObj.cells
 [AV.sc (Value.string (ByteArray.mk (Array.mk [c]))),
 AV.sc (Value.string (ByteArray.mk (Array.mk []))), AV.sc (Value.int IntKind.i64 (0 : Int)),
 AV.sc (Value.int IntKind.i64 (0 : Int)), AV.sc (Value.int IntKind.i64 (0 : Int)),
 AV.sc (Value.int IntKind.u64 (0 : Int)), AV.sc (Value.int IntKind.u64 (0 : Int)),
 AV.sc (Value.int IntKind.u64 (0 : Int)), AV.sc (Value.int IntKind.u64 (0 : Int)),
 AV.sc (Value.int IntKind.i64 (0 : Int)), AV.sc (Value.int IntKind.i64 (0 : Int)),
 AV.sc (Value.int IntKind.i64 (0 : Int)), AV.sc (Value.slice none (0 : Nat) (0 : Nat)),
 AV.sc (Value.string (ByteArray.mk (Array.mk out))),
 AV.sc (Value.string (ByteArray.mk (Array.mk whole))), AV.sl els (0 : Nat)]))
 b).node
 v1 r1).node
 v0 r0)
 ro ty)) :
 (fun (m : Int) (k : Nat) (a b r1 r0 : Tr AObj) (v1 v0 : Option AObj) (ro : Nat) (ty : Tr (Nat × Nat)) (c : UInt8) (out whole : List UInt8) (els : List (List AV)) (K : AV → Heap → Prop) => wpCall tabS (cf m) Tryz.prog 40 26 [.ptr 3 0] (hG k a b r1 r0 v1 v0 ro ty (recC c out whole (.sl els 0))) K) m k a b r1 r0 v1 v0 ro ty c out whole els K :=
 Eq.mp (by kernel_rfl) h
theorem c26r (m : Int) (k : Nat) (a : Tr AObj) (b : Tr AObj) (r1 : Tr AObj) (r0 : Tr AObj) (v1 : Option AObj) (v0 : Option AObj) (ro : Nat) (ty : Tr (Nat × Nat)) (c : UInt8) (out : List UInt8) (whole : List UInt8) (id : Nat) (n : Nat) (K : AV → Heap → Prop) (h :
 K (AV.sc (Value.int IntKind.i64 (↑n : Int)))
 (Heap.mk (k + (4 : Nat))
 (((a.node
 (some
 (AObj.cells
 [AV.sc (Value.string (ByteArray.mk (Array.mk [c]))),
 AV.sc (Value.string (ByteArray.mk (Array.mk []))), AV.sc (Value.int IntKind.i64 (0 : Int)),
 AV.sc (Value.int IntKind.i64 (0 : Int)), AV.sc (Value.int IntKind.i64 (0 : Int)),
 AV.sc (Value.int IntKind.u64 (0 : Int)), AV.sc (Value.int IntKind.u64 (0 : Int)),
 AV.sc (Value.int IntKind.u64 (0 : Int)), AV.sc (Value.int IntKind.u64 (0 : Int)),
 AV.sc (Value.int IntKind.i64 (0 : Int)), AV.sc (Value.int IntKind.i64 (0 : Int)),
 AV.sc (Value.int IntKind.i64 (0 : Int)), AV.sc (Value.slice none (0 : Nat) (0 : Nat)),
 AV.sc (Value.string (ByteArray.mk (Array.mk out))),
 AV.sc (Value.string (ByteArray.mk (Array.mk whole))), AV.rsl id (0 : Nat) n (1 : Nat)]))
 b).node
 v1 r1).node
 v0 r0)
 ro ty)) :
 (fun (m : Int) (k : Nat) (a b r1 r0 : Tr AObj) (v1 v0 : Option AObj) (ro : Nat) (ty : Tr (Nat × Nat)) (c : UInt8) (out whole : List UInt8) (id n : Nat) (K : AV → Heap → Prop) => wpCall tabS (cf m) Tryz.prog 40 26 [.ptr 3 0] (hG k a b r1 r0 v1 v0 ro ty (recC c out whole (.rsl id 0 n 1))) K) m k a b r1 r0 v1 v0 ro ty c out whole id n K :=
 Eq.mp (by kernel_rfl) h
theorem c27s (m : Int) (k : Nat) (a : Tr AObj) (b : Tr AObj) (r1 : Tr AObj) (r0 : Tr AObj) (v1 : Option AObj) (v0 : Option AObj) (ro : Nat) (ty : Tr (Nat × Nat)) (c : UInt8) (out : List UInt8) (whole : List UInt8) (els : List (List AV)) (i : Int) (K : AV → Heap → Prop) (h :
 iteP (decide (i < (0 : Int)))
 (K
 (AV.tup
 [AV.agg
 [AV.sc (Value.int IntKind.i64 (0 : Int)), AV.sc (Value.int IntKind.i64 (0 : Int)),
 AV.sc (Value.string (ByteArray.mk (Array.mk [])))],
 AV.sc (Value.int IntKind.i64 (2 : Int))])
 (Heap.mk (k + (4 : Nat))
 (((a.node
 (some
 (AObj.cells
 [AV.sc (Value.string (ByteArray.mk (Array.mk [c]))),
 AV.sc (Value.string (ByteArray.mk (Array.mk []))), AV.sc (Value.int IntKind.i64 (0 : Int)),
 AV.sc (Value.int IntKind.i64 (0 : Int)), AV.sc (Value.int IntKind.i64 (0 : Int)),
 AV.sc (Value.int IntKind.u64 (0 : Int)), AV.sc (Value.int IntKind.u64 (0 : Int)),
 AV.sc (Value.int IntKind.u64 (0 : Int)), AV.sc (Value.int IntKind.u64 (0 : Int)),
 AV.sc (Value.int IntKind.i64 (0 : Int)), AV.sc (Value.int IntKind.i64 (0 : Int)),
 AV.sc (Value.int IntKind.i64 (0 : Int)), AV.sc (Value.slice none (0 : Nat) (0 : Nat)),
 AV.sc (Value.string (ByteArray.mk (Array.mk out))),
 AV.sc (Value.string (ByteArray.mk (Array.mk whole))), AV.sl els (0 : Nat)]))
 b).node
 v1 r1).node
 v0 r0)
 ro ty))
 (iteP (decide ((1024 : Int) < i))
 (K
 (AV.tup
 [AV.agg
 [AV.sc (Value.int IntKind.i64 (0 : Int)), AV.sc (Value.int IntKind.i64 (0 : Int)),
 AV.sc (Value.string (ByteArray.mk (Array.mk [])))],
 AV.sc (Value.int IntKind.i64 (3 : Int))])
 (Heap.mk (k + (4 : Nat))
 (((a.node
 (some
 (AObj.cells
 [AV.sc (Value.string (ByteArray.mk (Array.mk [c]))),
 AV.sc (Value.string (ByteArray.mk (Array.mk []))), AV.sc (Value.int IntKind.i64 (0 : Int)),
 AV.sc (Value.int IntKind.i64 (0 : Int)), AV.sc (Value.int IntKind.i64 (0 : Int)),
 AV.sc (Value.int IntKind.u64 (0 : Int)), AV.sc (Value.int IntKind.u64 (0 : Int)),
 AV.sc (Value.int IntKind.u64 (0 : Int)), AV.sc (Value.int IntKind.u64 (0 : Int)),
 AV.sc (Value.int IntKind.i64 (0 : Int)), AV.sc (Value.int IntKind.i64 (0 : Int)),
 AV.sc (Value.int IntKind.i64 (0 : Int)), AV.sc (Value.slice none (0 : Nat) (0 : Nat)),
 AV.sc (Value.string (ByteArray.mk (Array.mk out))),
 AV.sc (Value.string (ByteArray.mk (Array.mk whole))), AV.sl els (0 : Nat)]))
 b).node
 v1 r1).node
 v0 r0)
 ro ty))
 (iteP (i == (0 : Int))
 (Room whole ∧
 (∀ (x : Int),
 True →
 K
 (AV.tup
 [AV.agg
 [AV.sc (Value.int IntKind.i64 (3 : Int)), AV.sc (Value.int IntKind.i64 x),
 AV.sc (Value.string (ByteArray.mk (Array.mk whole)))],
 AV.sc (Value.int IntKind.i64 (0 : Int))])
 (Heap.mk (k + (4 : Nat))
 (((a.node
 (some
 (AObj.cells
 [AV.sc (Value.string (ByteArray.mk (Array.mk [c]))),
 AV.sc (Value.string (ByteArray.mk (Array.mk []))),
 AV.sc (Value.int IntKind.i64 (0 : Int)), AV.sc (Value.int IntKind.i64 (0 : Int)),
 AV.sc (Value.int IntKind.i64 (0 : Int)), AV.sc (Value.int IntKind.u64 (0 : Int)),
 AV.sc (Value.int IntKind.u64 (0 : Int)), AV.sc (Value.int IntKind.u64 (0 : Int)),
 AV.sc (Value.int IntKind.u64 (0 : Int)), AV.sc (Value.int IntKind.i64 (0 : Int)),
 AV.sc (Value.int IntKind.i64 (0 : Int)), AV.sc (Value.int IntKind.i64 (0 : Int)),
 AV.sc (Value.slice none (0 : Nat) (0 : Nat)),
 AV.sc (Value.string (ByteArray.mk (Array.mk out))),
 AV.sc (Value.string (ByteArray.mk (Array.mk whole))), AV.sl els (0 : Nat)]))
 b).node
 v1 r1).node
 v0 r0)
 ro ty)) ∧
 ∀ (_ : Unit),
 True →
 K
 (AV.tup
 [AV.agg
 [AV.sc (Value.int IntKind.i64 (2 : Int)), AV.sc (Value.int IntKind.i64 (0 : Int)),
 AV.sc (Value.string (ByteArray.mk (Array.mk whole)))],
 AV.sc (Value.int IntKind.i64 (0 : Int))])
 (Heap.mk (k + (4 : Nat))
 (((a.node
 (some
 (AObj.cells
 [AV.sc (Value.string (ByteArray.mk (Array.mk [c]))),
 AV.sc (Value.string (ByteArray.mk (Array.mk []))),
 AV.sc (Value.int IntKind.i64 (0 : Int)), AV.sc (Value.int IntKind.i64 (0 : Int)),
 AV.sc (Value.int IntKind.i64 (0 : Int)), AV.sc (Value.int IntKind.u64 (0 : Int)),
 AV.sc (Value.int IntKind.u64 (0 : Int)), AV.sc (Value.int IntKind.u64 (0 : Int)),
 AV.sc (Value.int IntKind.u64 (0 : Int)), AV.sc (Value.int IntKind.i64 (0 : Int)),
 AV.sc (Value.int IntKind.i64 (0 : Int)), AV.sc (Value.int IntKind.i64 (0 : Int)),
 AV.sc (Value.slice none (0 : Nat) (0 : Nat)),
 AV.sc (Value.string (ByteArray.mk (Array.mk out))),
 AV.sc (Value.string (ByteArray.mk (Array.mk whole))), AV.sl els (0 : Nat)]))
 b).node
 v1 r1).node
 v0 r0)
 ro ty))
 (iteP (decide ((↑els.length : Int) < i))
 (K
 (AV.tup
 [AV.agg
 [AV.sc (Value.int IntKind.i64 (0 : Int)), AV.sc (Value.int IntKind.i64 (0 : Int)),
 AV.sc (Value.string (ByteArray.mk (Array.mk [])))],
 AV.sc (Value.int IntKind.i64 (0 : Int))])
 (Heap.mk (k + (4 : Nat))
 (((a.node
 (some
 (AObj.cells
 [AV.sc (Value.string (ByteArray.mk (Array.mk [c]))),
 AV.sc (Value.string (ByteArray.mk (Array.mk []))), AV.sc (Value.int IntKind.i64 (0 : Int)),
 AV.sc (Value.int IntKind.i64 (0 : Int)), AV.sc (Value.int IntKind.i64 (0 : Int)),
 AV.sc (Value.int IntKind.u64 (0 : Int)), AV.sc (Value.int IntKind.u64 (0 : Int)),
 AV.sc (Value.int IntKind.u64 (0 : Int)), AV.sc (Value.int IntKind.u64 (0 : Int)),
 AV.sc (Value.int IntKind.i64 (0 : Int)), AV.sc (Value.int IntKind.i64 (0 : Int)),
 AV.sc (Value.int IntKind.i64 (0 : Int)), AV.sc (Value.slice none (0 : Nat) (0 : Nat)),
 AV.sc (Value.string (ByteArray.mk (Array.mk out))),
 AV.sc (Value.string (ByteArray.mk (Array.mk whole))), AV.sl els (0 : Nat)]))
 b).node
 v1 r1).node
 v0 r0)
 ro ty))
 (iteP (inRange (IntKind.i64.wrap (i - (1 : Int))) els.length)
 (getI (IntKind.i64.wrap (i - (1 : Int))).toNat els =
 some
 [AV.sc
 (Value.string
 (ByteArray.mk (Array.mk (cellStr els (IntKind.i64.wrap (i - (1 : Int))) (0 : Nat)))))] ∧
 Room (cellStr els (IntKind.i64.wrap (i - (1 : Int))) (0 : Nat)) ∧
 (∀ (x : Int),
 True →
 K
 (AV.tup
 [AV.agg
 [AV.sc (Value.int IntKind.i64 (3 : Int)), AV.sc (Value.int IntKind.i64 x),
 AV.sc
 (Value.string
 (ByteArray.mk
 (Array.mk (cellStr els (IntKind.i64.wrap (i - (1 : Int))) (0 : Nat)))))],
 AV.sc (Value.int IntKind.i64 (0 : Int))])
 (Heap.mk (k + (4 : Nat))
 (((a.node
 (some
 (AObj.cells
 [AV.sc (Value.string (ByteArray.mk (Array.mk [c]))),
 AV.sc (Value.string (ByteArray.mk (Array.mk []))),
 AV.sc (Value.int IntKind.i64 (0 : Int)),
 AV.sc (Value.int IntKind.i64 (0 : Int)),
 AV.sc (Value.int IntKind.i64 (0 : Int)),
 AV.sc (Value.int IntKind.u64 (0 : Int)),
 AV.sc (Value.int IntKind.u64 (0 : Int)),
 AV.sc (Value.int IntKind.u64 (0 : Int)),
 AV.sc (Value.int IntKind.u64 (0 : Int)),
 AV.sc (Value.int IntKind.i64 (0 : Int)),
 AV.sc (Value.int IntKind.i64 (0 : Int)),
 AV.sc (Value.int IntKind.i64 (0 : Int)),
 AV.sc (Value.slice none (0 : Nat) (0 : Nat)),
 AV.sc (Value.string (ByteArray.mk (Array.mk out))),
 AV.sc (Value.string (ByteArray.mk (Array.mk whole))), AV.sl els (0 : Nat)]))
 b).node
 v1 r1).node
 v0 r0)
 ro ty)) ∧
 ∀ (_ : Unit),
 True →
 K
 (AV.tup
 [AV.agg
 [AV.sc (Value.int IntKind.i64 (2 : Int)), AV.sc (Value.int IntKind.i64 (0 : Int)),
 AV.sc
 (Value.string
 (ByteArray.mk
 (Array.mk (cellStr els (IntKind.i64.wrap (i - (1 : Int))) (0 : Nat)))))],
 AV.sc (Value.int IntKind.i64 (0 : Int))])
 (Heap.mk (k + (4 : Nat))
 (((a.node
 (some
 (AObj.cells
 [AV.sc (Value.string (ByteArray.mk (Array.mk [c]))),
 AV.sc (Value.string (ByteArray.mk (Array.mk []))),
 AV.sc (Value.int IntKind.i64 (0 : Int)),
 AV.sc (Value.int IntKind.i64 (0 : Int)),
 AV.sc (Value.int IntKind.i64 (0 : Int)),
 AV.sc (Value.int IntKind.u64 (0 : Int)),
 AV.sc (Value.int IntKind.u64 (0 : Int)),
 AV.sc (Value.int IntKind.u64 (0 : Int)),
 AV.sc (Value.int IntKind.u64 (0 : Int)),
 AV.sc (Value.int IntKind.i64 (0 : Int)),
 AV.sc (Value.int IntKind.i64 (0 : Int)),
 AV.sc (Value.int IntKind.i64 (0 : Int)),
 AV.sc (Value.slice none (0 : Nat) (0 : Nat)),
 AV.sc (Value.string (ByteArray.mk (Array.mk out))),
 AV.sc (Value.string (ByteArray.mk (Array.mk whole))), AV.sl els (0 : Nat)]))
 b).node
 v1 r1).node
 v0 r0)
 ro ty))
 False))))) :
 (fun (m : Int) (k : Nat) (a b r1 r0 : Tr AObj) (v1 v0 : Option AObj) (ro : Nat) (ty : Tr (Nat × Nat)) (c : UInt8) (out whole : List UInt8) (els : List (List AV)) (i : Int) (K : AV → Heap → Prop) => wpCall T27 (cf m) Tryz.prog 40 27 [.ptr 3 0, .sc (.int .i64 i)] (hG k a b r1 r0 v1 v0 ro ty (recC c out whole (.sl els 0))) K) m k a b r1 r0 v1 v0 ro ty c out whole els i K :=
 Eq.mp (by kernel_rfl) h
theorem c27r (m : Int) (k : Nat) (a : Tr AObj) (b : Tr AObj) (r1 : Tr AObj) (r0 : Tr AObj) (v1 : Option AObj) (v0 : Option AObj) (ro : Nat) (ty : Tr (Nat × Nat)) (c : UInt8) (out : List UInt8) (whole : List UInt8) (id : Nat) (n : Nat) (i : Int) (K : AV → Heap → Prop) (h :
 iteP (decide (i < (0 : Int)))
 (K
 (AV.tup
 [AV.agg
 [AV.sc (Value.int IntKind.i64 (0 : Int)), AV.sc (Value.int IntKind.i64 (0 : Int)),
 AV.sc (Value.string (ByteArray.mk (Array.mk [])))],
 AV.sc (Value.int IntKind.i64 (2 : Int))])
 (Heap.mk (k + (4 : Nat))
 (((a.node
 (some
 (AObj.cells
 [AV.sc (Value.string (ByteArray.mk (Array.mk [c]))),
 AV.sc (Value.string (ByteArray.mk (Array.mk []))), AV.sc (Value.int IntKind.i64 (0 : Int)),
 AV.sc (Value.int IntKind.i64 (0 : Int)), AV.sc (Value.int IntKind.i64 (0 : Int)),
 AV.sc (Value.int IntKind.u64 (0 : Int)), AV.sc (Value.int IntKind.u64 (0 : Int)),
 AV.sc (Value.int IntKind.u64 (0 : Int)), AV.sc (Value.int IntKind.u64 (0 : Int)),
 AV.sc (Value.int IntKind.i64 (0 : Int)), AV.sc (Value.int IntKind.i64 (0 : Int)),
 AV.sc (Value.int IntKind.i64 (0 : Int)), AV.sc (Value.slice none (0 : Nat) (0 : Nat)),
 AV.sc (Value.string (ByteArray.mk (Array.mk out))),
 AV.sc (Value.string (ByteArray.mk (Array.mk whole))), AV.rsl id (0 : Nat) n (1 : Nat)]))
 b).node
 v1 r1).node
 v0 r0)
 ro ty))
 (iteP (decide ((1024 : Int) < i))
 (K
 (AV.tup
 [AV.agg
 [AV.sc (Value.int IntKind.i64 (0 : Int)), AV.sc (Value.int IntKind.i64 (0 : Int)),
 AV.sc (Value.string (ByteArray.mk (Array.mk [])))],
 AV.sc (Value.int IntKind.i64 (3 : Int))])
 (Heap.mk (k + (4 : Nat))
 (((a.node
 (some
 (AObj.cells
 [AV.sc (Value.string (ByteArray.mk (Array.mk [c]))),
 AV.sc (Value.string (ByteArray.mk (Array.mk []))), AV.sc (Value.int IntKind.i64 (0 : Int)),
 AV.sc (Value.int IntKind.i64 (0 : Int)), AV.sc (Value.int IntKind.i64 (0 : Int)),
 AV.sc (Value.int IntKind.u64 (0 : Int)), AV.sc (Value.int IntKind.u64 (0 : Int)),
 AV.sc (Value.int IntKind.u64 (0 : Int)), AV.sc (Value.int IntKind.u64 (0 : Int)),
 AV.sc (Value.int IntKind.i64 (0 : Int)), AV.sc (Value.int IntKind.i64 (0 : Int)),
 AV.sc (Value.int IntKind.i64 (0 : Int)), AV.sc (Value.slice none (0 : Nat) (0 : Nat)),
 AV.sc (Value.string (ByteArray.mk (Array.mk out))),
 AV.sc (Value.string (ByteArray.mk (Array.mk whole))), AV.rsl id (0 : Nat) n (1 : Nat)]))
 b).node
 v1 r1).node
 v0 r0)
 ro ty))
 (iteP (i == (0 : Int))
 (Room whole ∧
 (∀ (x : Int),
 True →
 K
 (AV.tup
 [AV.agg
 [AV.sc (Value.int IntKind.i64 (3 : Int)), AV.sc (Value.int IntKind.i64 x),
 AV.sc (Value.string (ByteArray.mk (Array.mk whole)))],
 AV.sc (Value.int IntKind.i64 (0 : Int))])
 (Heap.mk (k + (4 : Nat))
 (((a.node
 (some
 (AObj.cells
 [AV.sc (Value.string (ByteArray.mk (Array.mk [c]))),
 AV.sc (Value.string (ByteArray.mk (Array.mk []))),
 AV.sc (Value.int IntKind.i64 (0 : Int)), AV.sc (Value.int IntKind.i64 (0 : Int)),
 AV.sc (Value.int IntKind.i64 (0 : Int)), AV.sc (Value.int IntKind.u64 (0 : Int)),
 AV.sc (Value.int IntKind.u64 (0 : Int)), AV.sc (Value.int IntKind.u64 (0 : Int)),
 AV.sc (Value.int IntKind.u64 (0 : Int)), AV.sc (Value.int IntKind.i64 (0 : Int)),
 AV.sc (Value.int IntKind.i64 (0 : Int)), AV.sc (Value.int IntKind.i64 (0 : Int)),
 AV.sc (Value.slice none (0 : Nat) (0 : Nat)),
 AV.sc (Value.string (ByteArray.mk (Array.mk out))),
 AV.sc (Value.string (ByteArray.mk (Array.mk whole))),
 AV.rsl id (0 : Nat) n (1 : Nat)]))
 b).node
 v1 r1).node
 v0 r0)
 ro ty)) ∧
 ∀ (_ : Unit),
 True →
 K
 (AV.tup
 [AV.agg
 [AV.sc (Value.int IntKind.i64 (2 : Int)), AV.sc (Value.int IntKind.i64 (0 : Int)),
 AV.sc (Value.string (ByteArray.mk (Array.mk whole)))],
 AV.sc (Value.int IntKind.i64 (0 : Int))])
 (Heap.mk (k + (4 : Nat))
 (((a.node
 (some
 (AObj.cells
 [AV.sc (Value.string (ByteArray.mk (Array.mk [c]))),
 AV.sc (Value.string (ByteArray.mk (Array.mk []))),
 AV.sc (Value.int IntKind.i64 (0 : Int)), AV.sc (Value.int IntKind.i64 (0 : Int)),
 AV.sc (Value.int IntKind.i64 (0 : Int)), AV.sc (Value.int IntKind.u64 (0 : Int)),
 AV.sc (Value.int IntKind.u64 (0 : Int)), AV.sc (Value.int IntKind.u64 (0 : Int)),
 AV.sc (Value.int IntKind.u64 (0 : Int)), AV.sc (Value.int IntKind.i64 (0 : Int)),
 AV.sc (Value.int IntKind.i64 (0 : Int)), AV.sc (Value.int IntKind.i64 (0 : Int)),
 AV.sc (Value.slice none (0 : Nat) (0 : Nat)),
 AV.sc (Value.string (ByteArray.mk (Array.mk out))),
 AV.sc (Value.string (ByteArray.mk (Array.mk whole))),
 AV.rsl id (0 : Nat) n (1 : Nat)]))
 b).node
 v1 r1).node
 v0 r0)
 ro ty))
 (iteP (decide ((↑n : Int) < i))
 (K
 (AV.tup
 [AV.agg
 [AV.sc (Value.int IntKind.i64 (0 : Int)), AV.sc (Value.int IntKind.i64 (0 : Int)),
 AV.sc (Value.string (ByteArray.mk (Array.mk [])))],
 AV.sc (Value.int IntKind.i64 (0 : Int))])
 (Heap.mk (k + (4 : Nat))
 (((a.node
 (some
 (AObj.cells
 [AV.sc (Value.string (ByteArray.mk (Array.mk [c]))),
 AV.sc (Value.string (ByteArray.mk (Array.mk []))), AV.sc (Value.int IntKind.i64 (0 : Int)),
 AV.sc (Value.int IntKind.i64 (0 : Int)), AV.sc (Value.int IntKind.i64 (0 : Int)),
 AV.sc (Value.int IntKind.u64 (0 : Int)), AV.sc (Value.int IntKind.u64 (0 : Int)),
 AV.sc (Value.int IntKind.u64 (0 : Int)), AV.sc (Value.int IntKind.u64 (0 : Int)),
 AV.sc (Value.int IntKind.i64 (0 : Int)), AV.sc (Value.int IntKind.i64 (0 : Int)),
 AV.sc (Value.int IntKind.i64 (0 : Int)), AV.sc (Value.slice none (0 : Nat) (0 : Nat)),
 AV.sc (Value.string (ByteArray.mk (Array.mk out))),
 AV.sc (Value.string (ByteArray.mk (Array.mk whole))), AV.rsl id (0 : Nat) n (1 : Nat)]))
 b).node
 v1 r1).node
 v0 r0)
 ro ty))
 (iteP (inRange (IntKind.i64.wrap (i - (1 : Int))) n)
 (iteP
 (hasStr
 (Heap.mk (k + (4 : Nat))
 (((a.node
 (some
 (AObj.cells
 [AV.sc (Value.string (ByteArray.mk (Array.mk [c]))),
 AV.sc (Value.string (ByteArray.mk (Array.mk []))),
 AV.sc (Value.int IntKind.i64 (0 : Int)), AV.sc (Value.int IntKind.i64 (0 : Int)),
 AV.sc (Value.int IntKind.i64 (0 : Int)), AV.sc (Value.int IntKind.u64 (0 : Int)),
 AV.sc (Value.int IntKind.u64 (0 : Int)), AV.sc (Value.int IntKind.u64 (0 : Int)),
 AV.sc (Value.int IntKind.u64 (0 : Int)), AV.sc (Value.int IntKind.i64 (0 : Int)),
 AV.sc (Value.int IntKind.i64 (0 : Int)), AV.sc (Value.int IntKind.i64 (0 : Int)),
 AV.sc (Value.slice none (0 : Nat) (0 : Nat)),
 AV.sc (Value.string (ByteArray.mk (Array.mk out))),
 AV.sc (Value.string (ByteArray.mk (Array.mk whole))), AV.rsl id (0 : Nat) n (1 : Nat)]))
 b).node
 v1 r1).node
 v0 r0)
 ro ty)
 id ((0 : Nat) + (IntKind.i64.wrap (i - (1 : Int))).toNat * (1 : Nat)))
 (Room
 (strIn
 (Heap.mk (k + (4 : Nat))
 (((a.node
 (some
 (AObj.cells
 [AV.sc (Value.string (ByteArray.mk (Array.mk [c]))),
 AV.sc (Value.string (ByteArray.mk (Array.mk []))),
 AV.sc (Value.int IntKind.i64 (0 : Int)), AV.sc (Value.int IntKind.i64 (0 : Int)),
 AV.sc (Value.int IntKind.i64 (0 : Int)), AV.sc (Value.int IntKind.u64 (0 : Int)),
 AV.sc (Value.int IntKind.u64 (0 : Int)), AV.sc (Value.int IntKind.u64 (0 : Int)),
 AV.sc (Value.int IntKind.u64 (0 : Int)), AV.sc (Value.int IntKind.i64 (0 : Int)),
 AV.sc (Value.int IntKind.i64 (0 : Int)), AV.sc (Value.int IntKind.i64 (0 : Int)),
 AV.sc (Value.slice none (0 : Nat) (0 : Nat)),
 AV.sc (Value.string (ByteArray.mk (Array.mk out))),
 AV.sc (Value.string (ByteArray.mk (Array.mk whole))),
 AV.rsl id (0 : Nat) n (1 : Nat)]))
 b).node
 v1 r1).node
 v0 r0)
 ro ty)
 id ((0 : Nat) + (IntKind.i64.wrap (i - (1 : Int))).toNat * (1 : Nat))) ∧
 (∀ (x : Int),
 True →
 K
 (AV.tup
 [AV.agg
 [AV.sc (Value.int IntKind.i64 (3 : Int)), AV.sc (Value.int IntKind.i64 x),
 AV.sc
 (Value.string
 (ByteArray.mk
 (Array.mk
 (strIn
 (Heap.mk (k + (4 : Nat))
 (((a.node
 (some
 (AObj.cells
 [AV.sc (Value.string (ByteArray.mk (Array.mk [c]))),
 AV.sc (Value.string (ByteArray.mk (Array.mk []))),
 AV.sc (Value.int IntKind.i64 (0 : Int)),
 AV.sc (Value.int IntKind.i64 (0 : Int)),
 AV.sc (Value.int IntKind.i64 (0 : Int)),
 AV.sc (Value.int IntKind.u64 (0 : Int)),
 AV.sc (Value.int IntKind.u64 (0 : Int)),
 AV.sc (Value.int IntKind.u64 (0 : Int)),
 AV.sc (Value.int IntKind.u64 (0 : Int)),
 AV.sc (Value.int IntKind.i64 (0 : Int)),
 AV.sc (Value.int IntKind.i64 (0 : Int)),
 AV.sc (Value.int IntKind.i64 (0 : Int)),
 AV.sc (Value.slice none (0 : Nat) (0 : Nat)),
 AV.sc (Value.string (ByteArray.mk (Array.mk out))),
 AV.sc (Value.string (ByteArray.mk (Array.mk whole))),
 AV.rsl id (0 : Nat) n (1 : Nat)]))
 b).node
 v1 r1).node
 v0 r0)
 ro ty)
 id ((0 : Nat) + (IntKind.i64.wrap (i - (1 : Int))).toNat * (1 : Nat))))))],
 AV.sc (Value.int IntKind.i64 (0 : Int))])
 (Heap.mk (k + (4 : Nat))
 (((a.node
 (some
 (AObj.cells
 [AV.sc (Value.string (ByteArray.mk (Array.mk [c]))),
 AV.sc (Value.string (ByteArray.mk (Array.mk []))),
 AV.sc (Value.int IntKind.i64 (0 : Int)),
 AV.sc (Value.int IntKind.i64 (0 : Int)),
 AV.sc (Value.int IntKind.i64 (0 : Int)),
 AV.sc (Value.int IntKind.u64 (0 : Int)),
 AV.sc (Value.int IntKind.u64 (0 : Int)),
 AV.sc (Value.int IntKind.u64 (0 : Int)),
 AV.sc (Value.int IntKind.u64 (0 : Int)),
 AV.sc (Value.int IntKind.i64 (0 : Int)),
 AV.sc (Value.int IntKind.i64 (0 : Int)),
 AV.sc (Value.int IntKind.i64 (0 : Int)),
 AV.sc (Value.slice none (0 : Nat) (0 : Nat)),
 AV.sc (Value.string (ByteArray.mk (Array.mk out))),
 AV.sc (Value.string (ByteArray.mk (Array.mk whole))),
 AV.rsl id (0 : Nat) n (1 : Nat)]))
 b).node
 v1 r1).node
 v0 r0)
 ro ty)) ∧
 ∀ (_ : Unit),
 True →
 K
 (AV.tup
 [AV.agg
 [AV.sc (Value.int IntKind.i64 (2 : Int)), AV.sc (Value.int IntKind.i64 (0 : Int)),
 AV.sc
 (Value.string
 (ByteArray.mk
 (Array.mk
 (strIn
 (Heap.mk (k + (4 : Nat))
 (((a.node
 (some
 (AObj.cells
 [AV.sc (Value.string (ByteArray.mk (Array.mk [c]))),
 AV.sc (Value.string (ByteArray.mk (Array.mk []))),
 AV.sc (Value.int IntKind.i64 (0 : Int)),
 AV.sc (Value.int IntKind.i64 (0 : Int)),
 AV.sc (Value.int IntKind.i64 (0 : Int)),
 AV.sc (Value.int IntKind.u64 (0 : Int)),
 AV.sc (Value.int IntKind.u64 (0 : Int)),
 AV.sc (Value.int IntKind.u64 (0 : Int)),
 AV.sc (Value.int IntKind.u64 (0 : Int)),
 AV.sc (Value.int IntKind.i64 (0 : Int)),
 AV.sc (Value.int IntKind.i64 (0 : Int)),
 AV.sc (Value.int IntKind.i64 (0 : Int)),
 AV.sc (Value.slice none (0 : Nat) (0 : Nat)),
 AV.sc (Value.string (ByteArray.mk (Array.mk out))),
 AV.sc (Value.string (ByteArray.mk (Array.mk whole))),
 AV.rsl id (0 : Nat) n (1 : Nat)]))
 b).node
 v1 r1).node
 v0 r0)
 ro ty)
 id ((0 : Nat) + (IntKind.i64.wrap (i - (1 : Int))).toNat * (1 : Nat))))))],
 AV.sc (Value.int IntKind.i64 (0 : Int))])
 (Heap.mk (k + (4 : Nat))
 (((a.node
 (some
 (AObj.cells
 [AV.sc (Value.string (ByteArray.mk (Array.mk [c]))),
 AV.sc (Value.string (ByteArray.mk (Array.mk []))),
 AV.sc (Value.int IntKind.i64 (0 : Int)),
 AV.sc (Value.int IntKind.i64 (0 : Int)),
 AV.sc (Value.int IntKind.i64 (0 : Int)),
 AV.sc (Value.int IntKind.u64 (0 : Int)),
 AV.sc (Value.int IntKind.u64 (0 : Int)),
 AV.sc (Value.int IntKind.u64 (0 : Int)),
 AV.sc (Value.int IntKind.u64 (0 : Int)),
 AV.sc (Value.int IntKind.i64 (0 : Int)),
 AV.sc (Value.int IntKind.i64 (0 : Int)),
 AV.sc (Value.int IntKind.i64 (0 : Int)),
 AV.sc (Value.slice none (0 : Nat) (0 : Nat)),
 AV.sc (Value.string (ByteArray.mk (Array.mk out))),
 AV.sc (Value.string (ByteArray.mk (Array.mk whole))),
 AV.rsl id (0 : Nat) n (1 : Nat)]))
 b).node
 v1 r1).node
 v0 r0)
 ro ty))
 False)
 False))))) :
 (fun (m : Int) (k : Nat) (a b r1 r0 : Tr AObj) (v1 v0 : Option AObj) (ro : Nat) (ty : Tr (Nat × Nat)) (c : UInt8) (out whole : List UInt8) (id n : Nat) (i : Int) (K : AV → Heap → Prop) => wpCall T27 (cf m) Tryz.prog 40 27 [.ptr 3 0, .sc (.int .i64 i)] (hG k a b r1 r0 v1 v0 ro ty (recC c out whole (.rsl id 0 n 1))) K) m k a b r1 r0 v1 v0 ro ty c out whole id n i K :=
 Eq.mp (by kernel_rfl) h
theorem v30n (m : Int) (H : Heap) (n : Int) (i : Int) (N : Heap → List (List AV) → Nat → Int → Prop) (X : Prop) (h :
 iteP (decide (i ≤ n))
 (GetOk H i ∧
 (∀ (x : List UInt8 × Int),
 IsGet H i x.fst →
 I30o (newOwnL H (1 : Nat) (9 : Nat) [[AV.sc (Value.string (ByteArray.mk (Array.mk x.fst)))]].length)
 [[AV.sc (Value.string (ByteArray.mk (Array.mk x.fst)))]] H.next n (IntKind.i64.wrap (i + (1 : Int))) =
 I30o (newOwnL H (1 : Nat) (9 : Nat) [[AV.sc (Value.string (ByteArray.mk (Array.mk x.fst)))]].length)
 [[AV.sc (Value.string (ByteArray.mk (Array.mk x.fst)))]] H.next n (IntKind.i64.wrap (i + (1 : Int))) ∧
 N (newOwnL H (1 : Nat) (9 : Nat) [[AV.sc (Value.string (ByteArray.mk (Array.mk x.fst)))]].length)
 [[AV.sc (Value.string (ByteArray.mk (Array.mk x.fst)))]] H.next (IntKind.i64.wrap (i + (1 : Int)))) ∧
 ∀ (x : List UInt8),
 IsGet H i x →
 I30o (newOwnL H (1 : Nat) (9 : Nat) [[AV.sc (Value.string (ByteArray.mk (Array.mk x)))]].length)
 [[AV.sc (Value.string (ByteArray.mk (Array.mk x)))]] H.next n (IntKind.i64.wrap (i + (1 : Int))) =
 I30o (newOwnL H (1 : Nat) (9 : Nat) [[AV.sc (Value.string (ByteArray.mk (Array.mk x)))]].length)
 [[AV.sc (Value.string (ByteArray.mk (Array.mk x)))]] H.next n (IntKind.i64.wrap (i + (1 : Int))) ∧
 N (newOwnL H (1 : Nat) (9 : Nat) [[AV.sc (Value.string (ByteArray.mk (Array.mk x)))]].length)
 [[AV.sc (Value.string (ByteArray.mk (Array.mk x)))]] H.next (IntKind.i64.wrap (i + (1 : Int))))
 (Ex.exit (0 : Nat) = Ex.exit (0 : Nat) ∧ E30n H = E30n H ∧ X)) :
 (fun (m : Int) (H : Heap) (n i : Int) (N : Heap → List (List AV) → Nat → Int → Prop) (X : Prop) => wpRound T30z (cf m) Tryz.prog 40 30 7 (I30n H n i) (fun τ => match τ.at 4 with | .v (.sl els (id + 1)) => τ = I30o τ.h els id n (slI τ 6) ∧ N τ.h els id (slI τ 6) | _ => False) (q30n H X)) m H n i N X :=
 Eq.mp (by kernel_rfl) h
theorem v30o (m : Int) (H : Heap) (els : List (List AV)) (id : Nat) (n : Int) (i : Int) (N : Heap → List (List AV) → Nat → Int → Prop) (X : Prop) (h :
 iteP (decide (i ≤ n))
 (GetOk H i ∧
 (∀ (x : List UInt8 × Int),
 IsGet H i x.fst →
 iteP
 (allLen (1 : Nat) els &&
 fits (els.length + [[AV.sc (Value.string (ByteArray.mk (Array.mk x.fst)))]].length) (16 : Nat))
 (iteP (isOwn H id (1 : Nat) (9 : Nat) els.length)
 (I30o
 (growH H id (1 : Nat) (9 : Nat)
 (els.length + [[AV.sc (Value.string (ByteArray.mk (Array.mk x.fst)))]].length))
 (els ++ [[AV.sc (Value.string (ByteArray.mk (Array.mk x.fst)))]]) id n
 (IntKind.i64.wrap (i + (1 : Int))) =
 I30o
 (growH H id (1 : Nat) (9 : Nat)
 (els.length + [[AV.sc (Value.string (ByteArray.mk (Array.mk x.fst)))]].length))
 (els ++ [[AV.sc (Value.string (ByteArray.mk (Array.mk x.fst)))]]) id n
 (IntKind.i64.wrap (i + (1 : Int))) ∧
 N
 (growH H id (1 : Nat) (9 : Nat)
 (els.length + [[AV.sc (Value.string (ByteArray.mk (Array.mk x.fst)))]].length))
 (els ++ [[AV.sc (Value.string (ByteArray.mk (Array.mk x.fst)))]]) id
 (IntKind.i64.wrap (i + (1 : Int))))
 False)
 False) ∧
 ∀ (x : List UInt8),
 IsGet H i x →
 iteP
 (allLen (1 : Nat) els &&
 fits (els.length + [[AV.sc (Value.string (ByteArray.mk (Array.mk x)))]].length) (16 : Nat))
 (iteP (isOwn H id (1 : Nat) (9 : Nat) els.length)
 (I30o
 (growH H id (1 : Nat) (9 : Nat)
 (els.length + [[AV.sc (Value.string (ByteArray.mk (Array.mk x)))]].length))
 (els ++ [[AV.sc (Value.string (ByteArray.mk (Array.mk x)))]]) id n
 (IntKind.i64.wrap (i + (1 : Int))) =
 I30o
 (growH H id (1 : Nat) (9 : Nat)
 (els.length + [[AV.sc (Value.string (ByteArray.mk (Array.mk x)))]].length))
 (els ++ [[AV.sc (Value.string (ByteArray.mk (Array.mk x)))]]) id n
 (IntKind.i64.wrap (i + (1 : Int))) ∧
 N
 (growH H id (1 : Nat) (9 : Nat)
 (els.length + [[AV.sc (Value.string (ByteArray.mk (Array.mk x)))]].length))
 (els ++ [[AV.sc (Value.string (ByteArray.mk (Array.mk x)))]]) id (IntKind.i64.wrap (i + (1 : Int))))
 False)
 False)
 (Ex.exit (0 : Nat) = Ex.exit (0 : Nat) ∧ E30o H els id = E30o H els id ∧ X)) :
 (fun (m : Int) (H : Heap) (els : List (List AV)) (id : Nat) (n i : Int) (N : Heap → List (List AV) → Nat → Int → Prop) (X : Prop) => wpRound T30z (cf m) Tryz.prog 40 30 7 (I30o H els id n i) (fun τ => match τ.at 4 with | .v (.sl els (id + 1)) => τ = I30o τ.h els id n (slI τ 6) ∧ N τ.h els id (slI τ 6) | _ => False) (q30o H els id X)) m H els id n i N X :=
 Eq.mp (by kernel_rfl) h
theorem c30 (m : Int) (H : Heap) (K : AV → Heap → Prop) (h :
 HasRec H ∧
 ∀ (x : List (List UInt8)),
 IsRec H x →
 iteP (decide ((1024 : Int) < (↑x.length : Int)))
 (K (AV.tup [AV.sc (Value.slice none (0 : Nat) (0 : Nat)), AV.sc (Value.bool false)]) H)
 (loopAt Tryz.prog (30 : Nat) (7 : Nat) = loopAt Tryz.prog (30 : Nat) (7 : Nat) ∧
 (I30n H (↑x.length : Int) (1 : Int) = I30n H (↑x.length : Int) (1 : Int) ∧ Loop30 H (↑x.length : Int)) ∧
 (∀ (_ : Unit),
 NoFld H → K (AV.tup [AV.sc (Value.slice none (0 : Nat) (0 : Nat)), AV.sc (Value.bool true)]) H) ∧
 ∀ (x : List (List UInt8)),
 SomeFld H x →
 K (AV.tup [AV.sl (List.map strEl x) (H.next + (1 : Nat)), AV.sc (Value.bool true)])
 (newOwnL H (1 : Nat) (9 : Nat) x.length))) :
 (fun (m : Int) (H : Heap) (K : AV → Heap → Prop) => wpCall T30 (cf m) Tryz.prog 40 30 [.ptr 3 0] H K) m H K :=
 Eq.mp (by kernel_rfl) h
end
end Go.Proofs.Rd
namespace Go.Proofs.Rd
open Go Go.Ef
noncomputable section
set_option maxRecDepth 100000
variable {m : Int} {T : Tab}
theorem tr_set_set_leaf {α : Type} (x y : α) : ∀ n, ((Tr.leaf : Tr α).set n x).set n y = (Tr.leaf : Tr α).set n y := by
 have key : ∀ k n, n < k → ((Tr.leaf : Tr α).set n x).set n y = (Tr.leaf : Tr α).set n y := by
  intro k
  induction k with
  | zero => intro n h; omega
  | succ k ih =>
   intro n h
   cases n with
   | zero => rw [Tr.set_leaf x, Tr.set_leaf y]; simp [Tr.set_node]
   | succ n =>
    rw [Tr.set_leaf x, Tr.set_leaf y]
    simp only []
    by_cases e : n % 2 = 0
    ·simp only [e, if_true, Tr.set_node]; rw [ih (n / 2) (by omega)]
    ·simp only [e, if_false, Tr.set_node]; rw [ih (n / 2) (by omega)]
 exact fun n => key (n + 1) n (by omega)
theorem tr_set_set {α : Type} (x y : α) : ∀ (t : Tr α) n, (t.set n x).set n y = t.set n y := by
 intro t
 induction t with
 | leaf => exact tr_set_set_leaf x y
 | node l v r ihl ihr =>
  intro n
  cases n with
  | zero => simp [Tr.set_node]
  | succ n =>
   simp only [Tr.set_node]
   by_cases e : n % 2 = 0
   ·simp only [e, if_true, Tr.set_node]; rw [ihl]
   ·simp only [e, if_false, Tr.set_node]; rw [ihr]
theorem EvP.direct {g : FuncId} {args : List AV} {h : Heap} {K : AV → Heap → Prop} (hp : (cf m).prim g = none) (hf : (cf m).fresh g = false) (H : EvC (cf m) Tryz.prog g args h K) : EvP (cf m) Tryz.prog g args h K := by
 obtain ⟨n, r, h', h1, h2⟩ := H
 refine ⟨n, r, h', ?_, h2⟩
 unfold callP
 rw [hp]; simp only []; rw [hf]
 exact h1
theorem own_get {h : Heap} {n : Nat} {id : Nat} {cs : List AV} (hg : h.get id = some (.cells cs)) : (newOwnL h 1 9 n).get id = some (.cells cs) := by
 unfold newOwnL
 rw [lk_eq, new_get]
 rw [if_neg, hg]
 rintro rfl
 have : Nat.blt h.next h.next = false := by
  cases hb : Nat.blt h.next h.next with
  | false => rfl
  | true => exact absurd (Nat.le_of_ble_eq_true hb) (by omega)
 simp only [Heap.get, this, cond_false] at hg
 cases hg
theorem own_is {h : Heap} (hro : h.ro ≤ h.next) (n : Nat) : isOwn (newOwnL h 1 9 n) h.next 1 9 n = true := by
 unfold isOwn newOwnL
 rw [lk_eq, new_get, if_pos rfl]
 simp only [Nat.beq_refl, Bool.true_and]
 exact Nat.ble_eq_true_of_le hro
theorem own_grow {h : Heap} (hro : h.ro ≤ h.next) (n k : Nat) : growH (newOwnL h 1 9 n) h.next 1 9 k = newOwnL h 1 9 k := by
 unfold growH newOwnL
 rw [lk_eq, lk_eq]
 obtain ⟨nx, ob, ro, ty⟩ := h
 have h1 : Nat.ble ro nx = true := Nat.ble_eq_true_of_le hro
 have h2 : Nat.blt nx (nx + 1) = true := Nat.ble_eq_true_of_le (Nat.le_refl _)
 simp only [Heap.new, Heap.put, h1, h2, Bool.and_self, cond_true, Heap.setObjs, tr_set_set]
theorem Fld.mono {h h' : Heap} {f : AV} {L : List (List UInt8)} (hm : ∀ id cs, h.get id = some (.cells cs) → h'.get id = some (.cells cs)) (H : Fld h f L) : Fld h' f L := by
 cases H with
 | nil => exact .nil
 | sl L h => exact .sl L h
 | row id L h g => exact .row id L h (hm _ _ g)
theorem IsRec.mono {h h' : Heap} {L : List (List UInt8)} (hm : ∀ id cs, h.get id = some (.cells cs) → h'.get id = some (.cells cs)) (H : IsRec h L) : IsRec h' L := by
 obtain ⟨c, out, whole, f, h1, h2⟩ := H
 exact ⟨c, out, whole, f, hm _ _ h1, h2.mono hm⟩
theorem str_inj {L M : List (List UInt8)} (h : L.map strEl = M.map strEl) : L = M := by
 induction L generalizing M with
 | nil => cases M with
  | nil => rfl
  | cons _ _ => cases h
 | cons a L ih => cases M with
  | nil => cases h
  | cons b M =>
   simp only [List.map_cons, List.cons.injEq, strEl] at h
   obtain ⟨h1, h2⟩ := h
   have h1 : a = b := by simpa using h1
   rw [h1, ih h2]
theorem aStr_inj {L M : List (List UInt8)} (h : L.map aStr = M.map aStr) : L = M := by
 induction L generalizing M with
 | nil => cases M with
  | nil => rfl
  | cons _ _ => cases h
 | cons a L ih => cases M with
  | nil => cases h
  | cons b M =>
   simp only [List.map_cons, List.cons.injEq, aStr] at h
   obtain ⟨h1, h2⟩ := h
   have h1 : a = b := by simpa using h1
   rw [h1, ih h2]
theorem IsRec.uniq {h : Heap} {L M : List (List UInt8)} (A : IsRec h L) (B : IsRec h M) : L = M := by
 obtain ⟨c, out, whole, f, h1, h2⟩ := A
 obtain ⟨c', out', whole', f', h3, h4⟩ := B
 rw [h1] at h3
 have hf : f = f' := by
  simp only [Option.some.injEq, AObj.cells.injEq, recC, List.cons.injEq] at h3
  simp_all
 subst hf
 cases h2 with
 | nil => cases h4; rfl
 | sl L h =>
  generalize he : L.map strEl = e at h4
  cases h4 with
  | sl M _ => exact str_inj he
 | row id L h g =>
  generalize he : L.length = e at h4
  cases h4 with
  | row id M _ g' =>
   rw [g] at g'
   have : L.map aStr = M.map aStr := by simpa using g'
   exact aStr_inj this
theorem ok26 (O : Ok m T) : Ok m (T.addC 26 C26) := by
 refine addC_ok O fun args h s hs hp => ?_
 unfold C26 at hs
 split at hs
 ·cases hs
  obtain ⟨L, hL⟩ := hp
  have hL' := hL
  obtain ⟨c, out, whole, f, hg, hf⟩ := hL
  obtain ⟨k, a, b, r1, r0, v1, v0, ro, ty, rfl⟩ := hG_of hg
  have key : EvP (cf m) Tryz.prog 26 [.ptr 3 0] (hG k a b r1 r0 v1 v0 ro ty (recC c out whole f)) fun r h' => r = intA L.length ∧ h' = hG k a b r1 r0 v1 v0 ro ty (recC c out whole f) := by
   refine EvP.direct (by kernel_rfl) (by kernel_rfl) ?_
   have okS : Ok m tabS := ⟨fun _ _ _ _ _ ht => (by cases ht), fun _ _ _ _ _ ht => (by cases ht)⟩
   cases hf with
   | nil => exact call_okW okS 40 26 _ _ _ (c26n m k a b r1 r0 v1 v0 ro ty c out whole _ ⟨rfl, rfl⟩)
   | sl L _ => exact call_okW okS 40 26 _ _ _ (c26s m k a b r1 r0 v1 v0 ro ty c out whole _ _ ⟨by rw [List.length_map]; rfl, rfl⟩)
   | row id L _ _ => exact call_okW okS 40 26 _ _ _ (c26r m k a b r1 r0 v1 v0 ro ty c out whole id L.length _ ⟨rfl, rfl⟩)
  obtain ⟨n, v, h', g1, rfl, rfl⟩ := key
  exact ⟨_, List.mem_singleton.2 rfl, L, n, hL', g1⟩
 ·cases hs
theorem ok27 (O : Ok m T) : Ok m (T.addC 27 C27) := by
 refine addC_ok O fun args h s hs hp => ?_
 unfold C27 at hs
 split at hs
 ·rename_i i
  cases hs
  obtain ⟨L, hL, h1, h2, h3, h4⟩ := hp
  have hL' := hL
  obtain ⟨c, out, whole, f, hg, hf⟩ := hL
  have hlt : (i - 1).toNat < L.length := by omega
  have hx : L[(i - 1).toNat]? = some (L[(i - 1).toNat]'hlt) := List.getElem?_eq_getElem _
  have hroom : Room (L[(i - 1).toNat]'hlt) := h4 _ (List.getElem_mem hlt)
  have hget : ∀ h, IsRec h L → IsGet h i (L[(i - 1).toNat]'hlt) := fun h hR => ⟨fun M hM => by rw [hM.uniq hR]; exact hx⟩
  have hw : IntKind.i64.wrap (i - 1) = i - 1 := wrap_in (by omega) (by omega)
  have hi : i - 1 = (((i - 1).toNat : Nat) : Int) := by omega
  have key : EvP (cf m) Tryz.prog 27 [.ptr 3 0, .sc (.int .i64 i)] h fun r h' => ((∃ d, r = .tup [numV d (L[(i - 1).toNat]'hlt), intA 0]) ∨ r = .tup [txtV (L[(i - 1).toNat]'hlt), intA 0]) ∧ h' = h := by
   refine EvP.direct (by kernel_rfl) (by kernel_rfl) ?_
   have okS : Ok m T27 := ok50 ⟨fun _ _ _ _ _ ht => (by cases ht), fun _ _ _ _ _ ht => (by cases ht)⟩
   cases hf with
   | nil => exact absurd hlt (by simp)
   | sl L _ =>
    obtain ⟨k, a, b, r1, r0, v1, v0, ro, ty, rfl⟩ := hG_of hg
    refine call_okW okS 40 27 _ _ _ (c27s m k a b r1 r0 v1 v0 ro ty c out whole _ i _ ?_)
    rw [decide_eq_false (by omega), iteP_f, decide_eq_false (by omega), iteP_f, show (i == 0) = false by simp; omega, iteP_f, List.length_map, decide_eq_false (by omega), iteP_f, hw, show inRange (i - 1) L.length = true by rw [inRange_iff]; omega, iteP_t]
    have e1 : cellStr (L.map strEl) (i - 1) 0 = L[(i - 1).toNat]'hlt := by
     have := Rc.cell_str hx
     rwa [← hi] at this
    rw [e1]
    refine ⟨?_, hroom, fun d _ => ⟨.inl ⟨d, rfl⟩, rfl⟩, fun _ _ => ⟨.inr rfl, rfl⟩⟩
    rw [Rc.cell_get, hx]; rfl
   | row id L _ g =>
    obtain ⟨k, a, b, r1, r0, v1, v0, ro, ty, rfl⟩ := hG_of hg
    refine call_okW okS 40 27 _ _ _ (c27r m k a b r1 r0 v1 v0 ro ty c out whole id L.length i _ ?_)
    rw [decide_eq_false (by omega), iteP_f, decide_eq_false (by omega), iteP_f, show (i == 0) = false by simp; omega, iteP_f, decide_eq_false (by omega), iteP_f, hw, show inRange (i - 1) L.length = true by rw [inRange_iff]; omega, iteP_t]
    have hc : (L.map aStr)[(i - 1).toNat]? = some (aStr (L[(i - 1).toNat]'hlt)) := by rw [List.getElem?_map, hx]; rfl
    have e1 : strIn (hG k a b r1 r0 v1 v0 ro ty (recC c out whole (.rsl id 0 L.length 1))) id (0 + (i - 1).toNat * 1) = L[(i - 1).toNat]'hlt := by
     unfold strIn
     rw [g]; simp only []; rw [Nat.zero_add, Nat.mul_one, hc]; rfl
    have e2 : hasStr (hG k a b r1 r0 v1 v0 ro ty (recC c out whole (.rsl id 0 L.length 1))) id (0 + (i - 1).toNat * 1) = true := by
     unfold hasStr
     rw [g]; simp only []; rw [Nat.zero_add, Nat.mul_one, hc]; rfl
    refine iteP_intro (fun _ => ?_) (fun hq => absurd (e2.symm.trans hq) (by simp))
    have e3 := e1
    unfold hG recC at e3
    refine ⟨?_, fun d _ => ⟨.inl ⟨d, ?_⟩, rfl⟩, fun _ _ => ⟨.inr ?_, rfl⟩⟩
    ·exact (congrArg Room e1).symm ▸ hroom
    ·exact congrArg (fun x => AV.tup [numV d x, intA 0]) e1
    ·exact congrArg (fun x => AV.tup [txtV x, intA 0]) e1
  obtain ⟨n, v, h', g1, ⟨d, rfl⟩ | rfl, rfl⟩ := key
  ·exact ⟨_, List.mem_cons_self .., (_, d), n, hget _ hL', g1⟩
  ·exact ⟨_, List.mem_cons_of_mem _ (List.mem_cons_self ..), _, n, hget _ hL', g1⟩
 ·cases hs
end
end Go.Proofs.Rd
namespace Go.Proofs.Rd
open Go Go.Ef
noncomputable section
set_option maxRecDepth 100000
variable {m : Int} {T : Tab}
theorem ok30z : Ok m T30z :=
 have O := ok27 (ok26 (m := m) (T := tab0) tab0_ok)
 ⟨O.call, O.loop⟩
theorem all_one (L : List (List UInt8)) : allLen 1 (L.map strEl) = true := by
 unfold allLen
 rw [List.all_map]
 exact List.all_eq_true.2 fun _ _ => rfl
theorem fits16 {n : Nat} (h : n ≤ 100000) : fits n 16 = true := by
 unfold fits
 have : maxRoom = 140737488355328 := by decide
 rw [Nat.ble_eq_true_of_le (by omega), Nat.ble_eq_true_of_le (by omega)]; rfl
theorem get_at {H : Heap} {L : List (List UInt8)} (hR : IsRec H L) {j : Nat} {x : List UInt8} (hx : IsGet H ((j + 1 : Nat) : Int) x) : L[j]? = some x := by
 have := hx.is L hR
 rwa [show (((j + 1 : Nat) : Int) - 1).toNat = j by omega] at this
theorem getOk {H : Heap} {L : List (List UInt8)} (hR : IsRec H L) (hl : L.length ≤ 1024) (hr : ∀ x ∈ L, Room x) {j : Nat} (hj : j < L.length) : GetOk H ((j + 1 : Nat) : Int) := ⟨L, hR, by omega, by omega, hl, hr⟩
theorem own_rec {H : Heap} {L : List (List UInt8)} (hR : IsRec H L) (n : Nat) : IsRec (newOwnL H 1 9 n) L := hR.mono fun _ _ => own_get
theorem loop30 (m : Int) (H : Heap) (L : List (List UInt8)) (hR : IsRec H L) (hl : L.length ≤ 1024) (hr : ∀ x ∈ L, Room x) (hro : H.ro ≤ H.next) : ∀ (f j : Nat), L.length - j = f → 1 ≤ j → j ≤ L.length →
  Ev (cf m) Tryz.prog 30 (.loop (loopAt Tryz.prog 30 7)) (I30o (newOwnL H 1 9 j) ((L.take j).map strEl) H.next L.length ((j + 1 : Nat) : Int)) fun e τ => e = .exit 0 ∧ τ = E30o (newOwnL H 1 9 L.length) (L.map strEl) H.next := by
 have can : ∀ (h : Heap) (els : List (List AV)) (id : Nat) (n i : Int), (I30o h els id n i).tidy [0, 4, 5, 6] 0 = I30o h els id n i := fun h els id n i => by kernel_rfl
 intro f
 induction f with
 | zero =>
  intro j hf h1 hj
  have hj : j = L.length := by omega
  refine Ev.round (t := ⟨[0, 4, 5, 6], [2, 3, 4], 0⟩) ok30z (by kernel_rfl) rfl (can _ _ _ _ _) (v30o m _ _ _ _ _ (fun _ _ _ _ => False) True ?_) (fun τ h => ?_) (fun e τ h => ?_)
  ·rw [decide_eq_false (by omega), iteP_f]
   exact ⟨rfl, rfl, trivial⟩
  ·split at h
   ·exact h.2.elim
   ·exact h.elim
  ·unfold q30o at h
   split at h
   ·obtain ⟨g1, g2, _⟩ := h
    refine ⟨g1, ?_⟩
    rw [g2, hj, List.take_length]
   ·exact h.elim
 | succ f ih =>
  intro j hf h1 hj
  have hlt : j < L.length := by omega
  have hw : IntKind.i64.wrap (((j + 1 : Nat) : Int) + 1) = ((j + 1 + 1 : Nat) : Int) := by rw [wrap_in (by omega) (by omega)]; rfl
  have hlen : ((L.take j).map strEl).length = j := by simp; omega
  have hx : L[j]? = some (L[j]'hlt) := List.getElem?_eq_getElem _
  have e1 : (L.take j).map strEl ++ [strEl (L[j]'hlt)] = (L.take (j + 1)).map strEl := by
   rw [List.take_add_one, hx, List.map_append]; rfl
  have hget : ∀ x, IsGet (newOwnL H 1 9 j) ((j + 1 : Nat) : Int) x → x = L[j]'hlt := fun x h => by
   have := get_at (own_rec hR j) h
   rw [hx] at this
   exact (Option.some.inj this).symm
  refine Ev.round (t := ⟨[0, 4, 5, 6], [2, 3, 4], 0⟩) ok30z (by kernel_rfl) rfl (can _ _ _ _ _) (v30o m _ _ _ _ _ (fun h els id i => h = newOwnL H 1 9 (j + 1) ∧ els = (L.take (j + 1)).map strEl ∧ id = H.next ∧ i = ((j + 1 + 1 : Nat) : Int)) False ?_) (fun τ h => ?_) (fun e τ h => ?_)
  ·rw [decide_eq_true (by omega), iteP_t, hlen, hw, all_one, own_is hro]
   refine ⟨getOk (own_rec hR j) hl hr hlt, fun p hp => ?_, fun x hp => ?_⟩
   ·rw [hget _ hp, show [[AV.sc (Value.string (ByteArray.mk (Array.mk (L[j]'hlt))))]].length = 1 from rfl, fits16 (by omega), Bool.and_self, iteP_t, iteP_t, own_grow hro]
    exact ⟨rfl, rfl, e1, rfl, rfl⟩
   ·rw [hget _ hp, show [[AV.sc (Value.string (ByteArray.mk (Array.mk (L[j]'hlt))))]].length = 1 from rfl, fits16 (by omega), Bool.and_self, iteP_t, iteP_t, own_grow hro]
    exact ⟨rfl, rfl, e1, rfl, rfl⟩
  ·split at h
   ·obtain ⟨g1, g2, g3, g4, g5⟩ := h
    rw [g2, g3, g4, g5] at g1
    rw [g1]
    exact ih (j + 1) (by omega) (by omega) (by omega)
   ·exact h.elim
  ·unfold q30o at h
   split at h
   ·exact h.2.2.elim
   ·exact h.elim
theorem ok30L : Ok m T30 := by
 refine addL_ok ok30z fun σ s hs hp => ?_
 cases hs
 obtain ⟨e, ⟨L, hR, hn, hl, hr⟩, hro⟩ := hp
 have can : ∀ (h : Heap) (n i : Int), (I30n h n i).tidy [0, 4, 5, 6] 0 = I30n h n i := fun h n i => by kernel_rfl
 have he : Ev (cf m) Tryz.prog 30 (.loop (loopAt Tryz.prog 30 7)) σ fun e τ => e = .exit 0 ∧ ((L = [] ∧ τ = E30n σ.h) ∨ (L ≠ [] ∧ τ = E30o (newOwnL σ.h 1 9 L.length) (L.map strEl) σ.h.next)) := by
  refine Ev.tidied (t := ⟨[0, 4, 5, 6], [2, 3, 4], 0⟩) (τ := I30n σ.h (slI σ 5) 1) (by kernel_rfl) (by rw [e]; kernel_rfl) ?_
  rw [hn]
  cases hL : L with
  | nil =>
   refine Ev.round (t := ⟨[0, 4, 5, 6], [2, 3, 4], 0⟩) ok30z (by kernel_rfl) rfl (can _ _ _) (v30n m _ _ _ (fun _ _ _ _ => False) True ?_) (fun τ h => ?_) (fun e τ h => ?_)
   ·exact ⟨rfl, rfl, trivial⟩
   ·split at h
    ·exact h.2.elim
    ·exact h.elim
   ·unfold q30n at h
    split at h
    ·exact ⟨h.1, .inl ⟨rfl, h.2.1⟩⟩
    ·exact h.elim
  | cons x0 r =>
   rw [hL] at hR hl hr
   have hget : ∀ x, IsGet σ.h 1 x → x = x0 := fun x h => by
    have := get_at (j := 0) hR h
    simpa using this.symm
   refine Ev.round (t := ⟨[0, 4, 5, 6], [2, 3, 4], 0⟩) ok30z (by kernel_rfl) rfl (can _ _ _) (v30n m _ _ _ (fun h els id i => h = newOwnL σ.h 1 9 1 ∧ els = [strEl x0] ∧ id = σ.h.next ∧ i = ((1 + 1 : Nat) : Int)) False ?_) (fun τ h => ?_) (fun e τ h => ?_)
   ·rw [decide_eq_true (by simp only [List.length_cons]; omega), iteP_t, show IntKind.i64.wrap ((1 : Int) + 1) = ((1 + 1 : Nat) : Int) from wrap_in (by omega) (by omega)]
    refine ⟨getOk (j := 0) hR hl hr (by simp), fun p hp => ?_, fun x hp => ?_⟩
    ·rw [hget _ hp]; exact ⟨rfl, rfl, rfl, rfl, rfl⟩
    ·rw [hget _ hp]; exact ⟨rfl, rfl, rfl, rfl, rfl⟩
   ·split at h
    ·obtain ⟨g1, g2, g3, g4, g5⟩ := h
     rw [g2, g3, g4, g5] at g1
     rw [g1]
     refine (loop30 m σ.h (x0 :: r) hR hl hr hro _ 1 rfl (Nat.le_refl _) (by simp)).mono fun e τ h => ⟨h.1, .inr ⟨by simp, h.2⟩⟩
    ·exact h.elim
   ·unfold q30n at h
    split at h
    ·exact h.2.2.elim
    ·exact h.elim
 obtain ⟨n, ex, τ, h6, rfl, ⟨h7, rfl⟩ | ⟨h7, rfl⟩⟩ := he
 ·subst h7
  exact ⟨_, List.mem_cons_self .., (), ⟨hR⟩, n, h6⟩
 ·exact ⟨_, List.mem_cons_of_mem _ (List.mem_cons_self ..), L, ⟨hR, h7⟩, n, h6⟩
theorem field_of {h : Heap} {c : UInt8} {out whole : List UInt8} {f : AV} (hg : h.get 3 = some (.cells (recC c out whole f))) : fieldC h = some f := by
 unfold fieldC
 rw [hg]; rfl
theorem ok30 (O : Ok m T) : Ok m (T.addC 30 C30) := by
 refine addC_ok O fun args h s hs hp => ?_
 unfold C30 at hs
 split at hs
 ·have main : ∀ L, IsRec h L → L.length ≤ 1024 → (∀ x ∈ L, Room x) → h.ro ≤ h.next → EvP (cf m) Tryz.prog 30 [.ptr 3 0] h fun r h' => (L = [] ∧ r = .tup [nilA, aBool true] ∧ h' = h) ∨ (L ≠ [] ∧ r = .tup [.sl (L.map strEl) (h.next + 1), aBool true] ∧ h' = (h.new (.own 1 9 L.length)).2) := by
   intro L hR hl hr hro
   refine EvP.direct (by kernel_rfl) (by kernel_rfl) (call_okW ok30L 40 30 _ _ _ (c30 m h _ ⟨⟨L, hR⟩, fun M hM => ?_⟩))
   obtain rfl := hM.uniq hR
   rw [decide_eq_false (by omega), iteP_f]
   refine ⟨rfl, ⟨rfl, ⟨M, hR, rfl, hl, hr⟩, hro⟩, fun _ h0 => ?_, fun N hN => ?_⟩
   ·obtain rfl := h0.is.uniq hR
    exact .inl ⟨rfl, rfl, rfl⟩
   ·obtain rfl := hN.is.uniq hR
    refine .inr ⟨hN.ne, rfl, ?_⟩
    unfold newOwnL
    rw [lk_eq]
  cases hn : isNilC h with
  | true =>
   rw [hn] at hs
   cases hs
   obtain ⟨⟨L, hR, hl, hr⟩, hro⟩ := hp
   have hL : L = [] := by
    obtain ⟨c, out, whole, f, h1, h2⟩ := hR
    unfold isNilC at hn
    rw [field_of h1] at hn
    cases h2 with
    | nil => rfl
    | sl L _ => cases hn
    | row id L _ _ => cases hn
   obtain ⟨n, v, h', g1, ⟨_, rfl, rfl⟩ | ⟨hne, _, _⟩⟩ := main L hR hl hr hro
   ·exact ⟨_, List.mem_singleton.2 rfl, (), n, ⟨hL ▸ hR⟩, g1⟩
   ·exact absurd hL hne
  | false =>
   rw [hn] at hs
   cases hs
   obtain ⟨⟨L, hR, hl, hr⟩, hro⟩ := hp
   have hL : L ≠ [] := by
    obtain ⟨c, out, whole, f, h1, h2⟩ := hR
    unfold isNilC at hn
    rw [field_of h1] at hn
    cases h2 with
    | nil => cases hn
    | sl L h => exact h
    | row id L h _ => exact h
   obtain ⟨n, v, h', g1, ⟨h0, _, _⟩ | ⟨_, rfl, rfl⟩⟩ := main L hR hl hr hro
   ·exact absurd h0 hL
   ·exact ⟨_, List.mem_singleton.2 rfl, L, n, ⟨hR, hL⟩, g1⟩
 ·cases hs
end
end Go.Proofs.Rd
namespace Go.Proofs.Rd
open Go Go.Ef
noncomputable section
def splC (c : UInt8) : List AV := [aStr [c], aStr [], i0, i0, i0, u0, u0, u0, u0, i0, i0, i0, nilA]
structure Parts (c : UInt8) (s : List UInt8) : Prop where
 ne : s ≠ []
 sp : c ≠ 32
 le : (partsOf c s).length ≤ 1024
 room : s.length ≤ 4294967280
def sepOf (x : AV) : List UInt8 :=
 match x with
 | .agg (.sc (.string b) :: _) => b.data.toList
 | _ => []
structure SplOk (x : AV) (s : List UInt8) : Prop where
 is : ∃ c, x = .agg (splC c) ∧ Parts c s
structure SplNil (x : AV) (s : List UInt8) : Prop where
 is : ∃ c, x = .agg (splC c) ∧ c ≠ 32 ∧ s = []
structure IsSpl (x : AV) (s : List UInt8) (L : List (List UInt8)) : Prop where
 is : ∀ c, x = .agg (splC c) → L = partsOf c s
def C48a (args : List AV) (h : Heap) : Option CSpec :=
 match args with
 | [x, .sc (.string s)] => some { pre := SplOk x s.data.toList, alts := [{ α := List (List UInt8), post := fun L => IsSpl x s.data.toList L, val := fun L => .tup [.sl (L.map strEl) 0, intA 0], heap := fun _ => h }] }
 | _ => none
def C48b (args : List AV) (h : Heap) : Option CSpec :=
 match args with
 | [x, .sc (.string s)] => some (fspec (SplNil x s.data.toList) (.tup [nilA, intA 0]) h)
 | _ => none
def CNo (_ : List AV) (h : Heap) : Option CSpec := some (fspec False nilA h)
def T48 : Tab := (tab0.addC 42 Rc.C42).addC 77 CNo
def I31 (els : List (List AV)) (t out : List UInt8) (i : Int) : St := stOf 25 [(0, .v (.sl els 0)), (1, sStr t), (5, sStr out), (6, sInt i)] [] heapF
def E31 (out : List UInt8) : St := stOf 25 [(5, sStr out)] [] heapF
def q31 (X : Prop) (out : List UInt8) (e : Ex) (τ : St) : Prop :=
 match e with
 | .exit _ => e = .exit 0 ∧ τ = E31 out ∧ X
 | _ => False
structure JoinOk (els : List (List AV)) (t : List UInt8) : Prop where
 is : ∃ L : List (List UInt8), els = L.map strEl ∧ (Lib.join L t).length ≤ 4294967280 ∧ L.length ≤ 4294967280
structure IsJoin (x : List UInt8) (els : List (List AV)) (t : List UInt8) : Prop where
 is : ∀ L : List (List UInt8), els = L.map strEl → x = Lib.join L t
def L31 (σ : St) : Option LSpec := some { pre := σ.tidy [0, 1, 5, 6] 0 = I31 (slEls σ 0) (slS σ 1) [] 0 ∧ JoinOk (slEls σ 0) (slS σ 1), alts := [{ α := List UInt8, post := fun x => IsJoin x (slEls σ 0) (slS σ 1), ex := .exit 0, st := fun x => E31 x }] }
def T31 : Tab := tab0.addL 31 4 L31
def C31 (args : List AV) (h : Heap) : Option CSpec :=
 match args with
 | [.sl els _, .sc (.string t)] => some { pre := JoinOk els t.data.toList, alts := [{ α := List UInt8, post := fun x => IsJoin x els t.data.toList, val := fun x => aStr x, heap := fun _ => h }] }
 | [.sc (.slice none 0 0), .sc (.string _)] => some (fspec True (aStr []) h)
 | _ => none
def rwS (id n : Nat) : Slot := .v (.rsl id 0 n 1)
def rwN (σ : St) (t : Nat) : Nat :=
 match σ.at t with
 | .v (.rsl _ _ n _) => n
 | _ => 0
def rwId (σ : St) (t : Nat) : Nat :=
 match σ.at t with
 | .v (.rsl id _ _ _) => id
 | _ => 0
def I49 (id n : Nat) (acc i : Int) (h : Heap) : St := stOf 44 [(0, .v (.ptr 3 0)), (1, rwS id n), (5, sInt acc), (8, rwS id n), (9, sInt n), (10, sInt i)] [] h
def E49 (id n : Nat) (h : Heap) : St := stOf 44 [(0, .v (.ptr 3 0)), (1, rwS id n), (4, .unk)] [] h
def q49 (id n : Nat) (h : Heap) (X : Prop) (e : Ex) (τ : St) : Prop :=
 match e with
 | .exit _ => e = .exit 0 ∧ τ = E49 id n h ∧ X
 | _ => False
structure Whole (h : Heap) (id n : Nat) : Prop where
 is : ∃ (L : List (List UInt8)) (c : UInt8) (out whole : List UInt8) (f : AV), h.get id = some (.cells (L.map aStr)) ∧ n = L.length ∧ h.get 3 = some (.cells (recC c out whole f)) ∧ (Lib.join L out).length ≤ 65536 ∧ L.length ≤ 70000
def L49 (σ : St) : Option LSpec := some { pre := σ.tidy [0, 1, 5, 8, 9, 10] 0 = I49 (rwId σ 1) (rwN σ 1) 0 0 σ.h ∧ Whole σ.h (rwId σ 1) (rwN σ 1), alts := [{ α := Unit, post := fun _ => True, ex := .exit 0, st := fun _ => E49 (rwId σ 1) (rwN σ 1) σ.h }] }
def T49z : Tab := { tab0 with symS := fun f d => Nat.beq f 49 && (match d with | some t => Nat.beq t 14 || Nat.beq t 25 | none => false), lazy := fun f => Nat.beq f 49 }
structure RowOk (h : Heap) (id n : Nat) (sep : List UInt8) : Prop where
 is : ∃ L : List (List UInt8), h.get id = some (.cells (L.map aStr)) ∧ n = L.length ∧ (Lib.join L sep).length ≤ 4294967280 ∧ L.length ≤ 70000
structure RowJoin (h : Heap) (id : Nat) (sep x : List UInt8) : Prop where
 is : ∀ L : List (List UInt8), h.get id = some (.cells (L.map aStr)) → x = Lib.join L sep
def C73 (args : List AV) (h : Heap) : Option CSpec :=
 match args with
 | [.rsl id 0 n 1, .sc (.string sep)] => some { pre := RowOk h id n sep.data.toList, alts := [{ α := List UInt8, post := fun x => RowJoin h id sep.data.toList x, val := fun x => aStr x, heap := fun _ => h }] }
 | _ => none
end
end Go.Proofs.Rd
namespace Go.Proofs.Rd
open Go Go.Ef
noncomputable section
set_option maxRecDepth 100000
theorem c48a (m : Int) (c : UInt8) (s : List UInt8) (K : AV → Prop) (h :
 iteP (decide ([c] = [(32 : UInt8)]))
 (False ∧
 ∀ (_ : Unit),
 True → K (AV.tup [AV.sc (Value.slice none (0 : Nat) (0 : Nat)), AV.sc (Value.int IntKind.i64 (0 : Int))]))
 (iteP (decide (s ≠ []))
 (s.length.le (4294967280 : Nat) ∧
 ∀ (x : List (List UInt8)),
 x = partsOf c s →
 iteP (decide ((1024 : Int) < (↑(List.map strEl x).length : Int)))
 (K (AV.tup [AV.sc (Value.slice none (0 : Nat) (0 : Nat)), AV.sc (Value.int IntKind.i64 (3 : Int))]))
 (iteP (plainEls (List.map strEl x))
 (K (AV.tup [AV.sl (List.map strEl x) (0 : Nat), AV.sc (Value.int IntKind.i64 (0 : Int))])) False))
 (K (AV.tup [AV.sc (Value.slice none (0 : Nat) (0 : Nat)), AV.sc (Value.int IntKind.i64 (0 : Int))])))) :
 (fun (m : Int) (c : UInt8) (s : List UInt8) (K : AV → Prop) => wpCall T48 (cf m) Tryz.prog 40 48 [.agg (splC c), aStr s] heapF fun r h' => wpBack h' r K) m c s K :=
 Eq.mp (by kernel_rfl) h
theorem v31 (m : Int) (els : List (List AV)) (t : List UInt8) (out : List UInt8) (i : Int) (N : List UInt8 → Int → Prop) (X : Prop) (h :
 iteP (decide (i < (↑els.length : Int)))
 (iteP (decide ((0 : Int) < i))
 (iteP (strFits out t)
 (iteP (inRange i els.length)
 (getI i.toNat els = some [AV.sc (Value.string (ByteArray.mk (Array.mk (cellStr els i (0 : Nat)))))] ∧
 iteP (strFits (out ++ t) (cellStr els i (0 : Nat)))
 (I31 els t (out ++ t ++ cellStr els i (0 : Nat)) (IntKind.i64.wrap (i + (1 : Int))) =
 I31 els t (out ++ t ++ cellStr els i (0 : Nat)) (IntKind.i64.wrap (i + (1 : Int))) ∧
 N (out ++ t ++ cellStr els i (0 : Nat)) (IntKind.i64.wrap (i + (1 : Int))))
 False)
 False)
 False)
 (iteP (inRange i els.length)
 (getI i.toNat els = some [AV.sc (Value.string (ByteArray.mk (Array.mk (cellStr els i (0 : Nat)))))] ∧
 iteP (strFits out (cellStr els i (0 : Nat)))
 (I31 els t (out ++ cellStr els i (0 : Nat)) (IntKind.i64.wrap (i + (1 : Int))) =
 I31 els t (out ++ cellStr els i (0 : Nat)) (IntKind.i64.wrap (i + (1 : Int))) ∧
 N (out ++ cellStr els i (0 : Nat)) (IntKind.i64.wrap (i + (1 : Int))))
 False)
 False))
 (Ex.exit (0 : Nat) = Ex.exit (0 : Nat) ∧ E31 out = E31 out ∧ X)) :
 (fun (m : Int) (els : List (List AV)) (t out : List UInt8) (i : Int) (N : List UInt8 → Int → Prop) (X : Prop) => wpRound tab0 (cf m) Tryz.prog 40 31 4 (I31 els t out i) (fun τ => τ = I31 els t (slS τ 5) (slI τ 6) ∧ N (slS τ 5) (slI τ 6)) (q31 X out)) m els t out i N X :=
 Eq.mp (by kernel_rfl) h
theorem c31 (m : Int) (els : List (List AV)) (t : List UInt8) (K : AV → Prop) (h :
 loopAt Tryz.prog (31 : Nat) (4 : Nat) = loopAt Tryz.prog (31 : Nat) (4 : Nat) ∧
 (I31 els t [] (0 : Int) = I31 els t [] (0 : Int) ∧ JoinOk els t) ∧
 ∀ (x : List UInt8), IsJoin x els t → K (AV.sc (Value.string (ByteArray.mk (Array.mk x))))) :
 (fun (m : Int) (els : List (List AV)) (t : List UInt8) (K : AV → Prop) => wpCall T31 (cf m) Tryz.prog 40 31 [.sl els 0, aStr t] heapF fun r h' => wpBack h' r K) m els t K :=
 Eq.mp (by kernel_rfl) h
theorem v49 (m : Int) (id : Nat) (n : Nat) (acc : Int) (i : Int) (H : Heap) (N : Int → Int → Prop) (X : Prop) (h :
 iteP (decide (i < (↑n : Int)))
 (iteP (inRange i n)
 (iteP (hasStr H id ((0 : Nat) + i.toNat * (1 : Nat)))
 (iteP (decide ((0 : Int) < i))
 (iteP (hasStr H (3 : Nat) (13 : Nat))
 (iteP
 (decide
 ((65536 : Int) <
 IntKind.i64.wrap
 (IntKind.i64.wrap (acc + (↑(strIn H id ((0 : Nat) + i.toNat * (1 : Nat))).length : Int)) +
 (↑(strIn H (3 : Nat) (13 : Nat)).length : Int))))
 False
 (I49 id n
 (IntKind.i64.wrap
 (IntKind.i64.wrap (acc + (↑(strIn H id ((0 : Nat) + i.toNat * (1 : Nat))).length : Int)) +
 (↑(strIn H (3 : Nat) (13 : Nat)).length : Int)))
 (IntKind.i64.wrap (i + (1 : Int))) H =
 I49 id n
 (IntKind.i64.wrap
 (IntKind.i64.wrap (acc + (↑(strIn H id ((0 : Nat) + i.toNat * (1 : Nat))).length : Int)) +
 (↑(strIn H (3 : Nat) (13 : Nat)).length : Int)))
 (IntKind.i64.wrap (i + (1 : Int))) H ∧
 N
 (IntKind.i64.wrap
 (IntKind.i64.wrap (acc + (↑(strIn H id ((0 : Nat) + i.toNat * (1 : Nat))).length : Int)) +
 (↑(strIn H (3 : Nat) (13 : Nat)).length : Int)))
 (IntKind.i64.wrap (i + (1 : Int)))))
 False)
 (iteP
 (decide
 ((65536 : Int) < IntKind.i64.wrap (acc + (↑(strIn H id ((0 : Nat) + i.toNat * (1 : Nat))).length : Int))))
 False
 (I49 id n (IntKind.i64.wrap (acc + (↑(strIn H id ((0 : Nat) + i.toNat * (1 : Nat))).length : Int)))
 (IntKind.i64.wrap (i + (1 : Int))) H =
 I49 id n (IntKind.i64.wrap (acc + (↑(strIn H id ((0 : Nat) + i.toNat * (1 : Nat))).length : Int)))
 (IntKind.i64.wrap (i + (1 : Int))) H ∧
 N (IntKind.i64.wrap (acc + (↑(strIn H id ((0 : Nat) + i.toNat * (1 : Nat))).length : Int)))
 (IntKind.i64.wrap (i + (1 : Int))))))
 False)
 False)
 (Ex.exit (0 : Nat) = Ex.exit (0 : Nat) ∧ E49 id n H = E49 id n H ∧ X)) :
 (fun (m : Int) (id n : Nat) (acc i : Int) (H : Heap) (N : Int → Int → Prop) (X : Prop) => wpRound T49z (cf m) Tryz.prog 40 49 4 (I49 id n acc i H) (fun τ => τ = I49 id n (slI τ 5) (slI τ 10) H ∧ N (slI τ 5) (slI τ 10)) (q49 id n H X)) m id n acc i H N X :=
 Eq.mp (by kernel_rfl) h
end
end Go.Proofs.Rd
namespace Go.Proofs.Rd
open Go Go.Ef
noncomputable section
set_option maxRecDepth 100000
variable {m : Int} {T : Tab}
theorem join_snoc {L : List (List UInt8)} (h : L ≠ []) (y t : List UInt8) : Lib.join (L ++ [y]) t = Lib.join L t ++ t ++ y := by
 cases L with
 | nil => exact absurd rfl h
 | cons x r =>
  rw [List.cons_append, Lib.join_cons, Lib.join_cons]
  simp [Lib.joinTail]
theorem join_le {L : List (List UInt8)} {t : List UInt8} : ∀ {i : Nat}, (Lib.join (L.take i) t).length ≤ (Lib.join L t).length := by
 intro i
 cases L with
 | nil => simp
 | cons x r =>
  cases i with
  | zero => simp [Lib.join_nil]
  | succ i =>
   rw [List.take_succ_cons, Lib.join_cons, Lib.join_cons]
   have : (Lib.joinTail t (r.take i)).length ≤ (Lib.joinTail t r).length := by
    have e : Lib.joinTail t r = Lib.joinTail t (r.take i) ++ Lib.joinTail t (r.drop i) := by
     unfold Lib.joinTail
     rw [← List.flatten_append, ← List.map_append, List.take_append_drop]
    rw [e, List.length_append]
    omega
   simp only [List.length_append]
   omega
theorem take_next {L : List (List UInt8)} {j : Nat} (h : j < L.length) : L.take (j + 1) = L.take j ++ [L[j]] := by
 rw [List.take_add_one, List.getElem?_eq_getElem h]; rfl
theorem okNo (O : Ok m T) (g : FuncId) : Ok m (T.addC g CNo) := by
 refine addC_ok O fun args h s hs hp => ?_
 unfold CNo at hs
 cases hs
 exact hp.elim
theorem ok48T : Ok m T48 := okNo (Rc.ok42 tab0_ok) 77
theorem ok48a (O : Ok m T) : Ok m (T.addC 48 C48a) := by
 refine addC_ok O fun args h s hs hp => ?_
 unfold C48a at hs
 split at hs
 ·rename_i x s0
  obtain ⟨⟨s0⟩⟩ := s0
  cases hs
  obtain ⟨c, rfl, h1, h2, h3, h4⟩ := hp
  have h1 : s0 ≠ [] := h1
  have h3 : (partsOf c s0).length ≤ 1024 := h3
  have key : EvP (cf m) Tryz.prog 48 [.agg (splC c), aStr s0] h fun y h' => y = .tup [.sl ((partsOf c s0).map strEl) 0, intA 0] ∧ h' = h := by
   refine EvP.freshV ok48T (n := 40) (by kernel_rfl) (by kernel_rfl) (args' := [.agg (splC c), aStr s0]) rfl (c48a m c s0 _ ?_)
   rw [decide_eq_false (by simpa using h2), iteP_f, decide_eq_true h1, iteP_t]
   refine ⟨h4, fun L hL => ?_⟩
   subst hL
   rw [List.length_map, decide_eq_false (by omega), iteP_f, Rc.cells_plain, iteP_t]; rfl
  obtain ⟨n, v, h', g1, rfl, rfl⟩ := key
  refine ⟨_, List.mem_singleton.2 rfl, partsOf c s0, n, ⟨fun c' hc' => ?_⟩, g1⟩
  have : c = c' := by
   have := congrArg sepOf hc'
   have : [c] = [c'] := this
   simpa using this
  rw [← this]
 ·cases hs
theorem ok48b (O : Ok m T) : Ok m (T.addC 48 C48b) := by
 refine addC_ok O fun args h s hs hp => ?_
 unfold C48b at hs
 split at hs
 ·rename_i x s0
  obtain ⟨⟨s0⟩⟩ := s0
  cases hs
  obtain ⟨c, rfl, h2, h1⟩ := hp
  have h1 : s0 = [] := h1
  subst h1
  have key : EvP (cf m) Tryz.prog 48 [.agg (splC c), aStr []] h fun y h' => y = .tup [nilA, intA 0] ∧ h' = h := by
   refine EvP.freshV ok48T (n := 40) (by kernel_rfl) (by kernel_rfl) (args' := [.agg (splC c), aStr []]) rfl (c48a m c [] _ ?_)
   rw [decide_eq_false (by simpa using h2), iteP_f, decide_eq_false (by simp), iteP_f]; rfl
  obtain ⟨n, v, h', g1, rfl, rfl⟩ := key
  exact ⟨_, List.mem_singleton.2 rfl, (), n, trivial, g1⟩
 ·cases hs
theorem loop31 (m : Int) (L : List (List UInt8)) (t : List UInt8) (hl : (Lib.join L t).length ≤ 4294967280) (hn : L.length ≤ 4294967280) : ∀ (f i : Nat), L.length - i = f → i ≤ L.length →
  Ev (cf m) Tryz.prog 31 (.loop (loopAt Tryz.prog 31 4)) (I31 (L.map strEl) t (Lib.join (L.take i) t) i) fun e τ => e = .exit 0 ∧ τ = E31 (Lib.join L t) := by
 have can : ∀ (els : List (List AV)) (out : List UInt8) (i : Nat), (I31 els t out i).tidy [0, 1, 5, 6] 0 = I31 els t out i := fun els out i => by kernel_rfl
 intro f
 induction f with
 | zero =>
  intro i hf hi
  have hi : i = L.length := by omega
  refine Ev.round (t := ⟨[0, 1, 5, 6], [5], 0⟩) tab0_ok (by kernel_rfl) rfl (can _ _ i) (v31 m _ t _ i (fun _ _ => False) True ?_) (fun τ h => h.2.elim) (fun e τ h => ?_)
  ·rw [List.length_map, decide_eq_false (by omega), iteP_f]
   exact ⟨rfl, rfl, trivial⟩
  ·unfold q31 at h
   split at h
   ·obtain ⟨g1, g2, _⟩ := h
    rw [g2, hi, List.take_length]
    exact ⟨g1, rfl⟩
   ·exact h.elim
 | succ f ih =>
  intro i hf hi
  have hlt : i < L.length := by omega
  have hw : IntKind.i64.wrap ((i : Int) + 1) = ((i + 1 : Nat) : Int) := by rw [wrap_in (by omega) (by omega)]; rfl
  have hx : L[i]? = some L[i] := List.getElem?_eq_getElem hlt
  have hb := join_le (L := L) (t := t) (i := i + 1)
  refine Ev.round (t := ⟨[0, 1, 5, 6], [5], 0⟩) tab0_ok (by kernel_rfl) rfl (can _ _ i) (v31 m _ t _ i (fun o j => o = Lib.join (L.take (i + 1)) t ∧ j = ((i + 1 : Nat) : Int)) False ?_) (fun τ h => ?_) (fun e τ h => ?_)
  ·rw [List.length_map, decide_eq_true (by omega), iteP_t, show inRange (i : Int) L.length = true by rw [inRange_iff]; omega, iteP_t, hw]
   have hc := Rc.cell_str hx
   have hg := Rc.cell_some hx
   by_cases h0 : i = 0
   ·subst h0
    rw [decide_eq_false (by omega), iteP_f]
    refine ⟨hg, ?_⟩
    rw [hc]
    have e : Lib.join (L.take (0 + 1)) t = L[0] := by rw [take_next hlt]; exact Lib.join_one _ _
    rw [e] at hb
    rw [show strFits (Lib.join (L.take 0) t) L[0] = true by rw [strFits_iff]; simp only [List.take_zero, Lib.join_nil, List.length_nil]; omega, iteP_t]
    refine ⟨rfl, ?_, rfl⟩
    rw [e]; simp [Lib.join_nil]
   ·have hne : L.take i ≠ [] := by
     intro e
     have := congrArg List.length e
     rw [List.length_take, List.length_nil] at this; omega
    have e : Lib.join (L.take (i + 1)) t = Lib.join (L.take i) t ++ t ++ L[i] := by rw [take_next hlt, join_snoc hne]
    have hlen := congrArg List.length e
    simp only [List.length_append] at hlen
    rw [decide_eq_true (by omega), iteP_t, show strFits (Lib.join (L.take i) t) t = true by rw [strFits_iff]; omega, iteP_t]
    refine ⟨hg, ?_⟩
    rw [hc, show strFits (Lib.join (L.take i) t ++ t) L[i] = true by rw [strFits_iff, List.length_append]; omega, iteP_t]
    exact ⟨rfl, e.symm, rfl⟩
  ·obtain ⟨h1, h2, h3⟩ := h
   rw [h2, h3] at h1
   rw [h1]
   exact ih (i + 1) (by omega) (by omega)
  ·unfold q31 at h
   split at h
   ·exact h.2.2.elim
   ·exact h.elim
theorem ok31L : Ok m T31 := by
 refine addL_ok tab0_ok fun σ s hs hp => ?_
 cases hs
 obtain ⟨e, L, h1, h2, h3⟩ := hp
 have he : Ev (cf m) Tryz.prog 31 (.loop (loopAt Tryz.prog 31 4)) σ fun e τ => e = .exit 0 ∧ τ = E31 (Lib.join L (slS σ 1)) := by
  refine Ev.tidied (t := ⟨[0, 1, 5, 6], [5], 0⟩) (τ := I31 (L.map strEl) (slS σ 1) (Lib.join (L.take 0) (slS σ 1)) (0 : Nat)) (by kernel_rfl) (by rw [e, h1]; kernel_rfl) ?_
  exact loop31 m L (slS σ 1) h2 h3 _ 0 rfl (Nat.zero_le _)
 obtain ⟨n, ex, τ, h6, rfl, rfl⟩ := he
 refine ⟨_, List.mem_singleton.2 rfl, Lib.join L (slS σ 1), ⟨fun M hM => ?_⟩, n, h6⟩
 rw [str_inj (h1.symm.trans hM)]
theorem ok31 (O : Ok m T) : Ok m (T.addC 31 C31) := by
 refine addC_ok O fun args h s hs hp => ?_
 unfold C31 at hs
 split at hs
 ·rename_i els tok t0
  obtain ⟨⟨t0⟩⟩ := t0
  cases hs
  have hp' := hp
  obtain ⟨L, rfl, h2, h3⟩ := hp
  have hst : mapO (stripA 8) [.sl (L.map strEl) tok, aStr t0] = some [.sl (L.map strEl) 0, aStr t0] := by
   cases tok with
   | zero => rfl
   | succ k =>
    have e : stripA 8 (.sl (L.map strEl) (k + 1)) = some (.sl (L.map strEl) 0) := by
     unfold stripA
     simp only [Rc.cells_plain]
     rfl
    show consO (stripA 8 (.sl (L.map strEl) (k + 1))) (some [aStr t0]) = _
    rw [e]; rfl
  have key : EvP (cf m) Tryz.prog 31 [.sl (L.map strEl) tok, aStr t0] h fun y h' => y = aStr (Lib.join L t0) ∧ h' = h := by
   refine EvP.freshV ok31L (n := 40) (by kernel_rfl) (by kernel_rfl) (args' := [.sl (L.map strEl) 0, aStr t0]) hst (c31 m _ t0 _ ⟨rfl, ⟨rfl, hp'⟩, fun x hx => ?_⟩)
   rw [hx.is L rfl]; rfl
  obtain ⟨n, v, h', g1, rfl, rfl⟩ := key
  refine ⟨_, List.mem_singleton.2 rfl, Lib.join L t0, n, ⟨fun M hM => ?_⟩, g1⟩
  rw [str_inj hM]
 ·rename_i t0
  obtain ⟨⟨t0⟩⟩ := t0
  cases hs
  exact ⟨_, List.mem_singleton.2 rfl, (), 100, trivial, by kernel_rfl⟩
 ·cases hs
theorem ok49z : Ok m T49z := ⟨fun _ _ _ _ _ ht => (by cases ht), fun _ _ _ _ _ ht => (by cases ht)⟩
theorem row_str {H : Heap} {id : Nat} {L : List (List UInt8)} (hg : H.get id = some (.cells (L.map aStr))) {i : Nat} (h : i < L.length) : strIn H id i = L[i] ∧ hasStr H id i = true := by
 have hc : (L.map aStr)[i]? = some (aStr L[i]) := by rw [List.getElem?_map, List.getElem?_eq_getElem h]; rfl
 unfold strIn hasStr
 rw [hg]; simp only []; rw [hc]
 exact ⟨rfl, rfl⟩
theorem out_str {H : Heap} {c : UInt8} {out whole : List UInt8} {f : AV} (hg : H.get 3 = some (.cells (recC c out whole f))) : strIn H 3 13 = out ∧ hasStr H 3 13 = true := by
 unfold strIn hasStr
 rw [hg]
 exact ⟨rfl, rfl⟩
theorem loop49 (m : Int) (H : Heap) (id : Nat) (L : List (List UInt8)) (c : UInt8) (out whole : List UInt8) (f : AV) (hg : H.get id = some (.cells (L.map aStr))) (hr : H.get 3 = some (.cells (recC c out whole f)))
  (hl : (Lib.join L out).length ≤ 65536) (hn : L.length ≤ 70000) : ∀ (k i : Nat), L.length - i = k → i ≤ L.length →
  Ev (cf m) Tryz.prog 49 (.loop (loopAt Tryz.prog 49 4)) (I49 id L.length (Lib.join (L.take i) out).length i H) fun e τ => e = .exit 0 ∧ τ = E49 id L.length H := by
 have can : ∀ (acc : Int) (i : Nat), (I49 id L.length acc i H).tidy [0, 1, 5, 8, 9, 10] 0 = I49 id L.length acc i H := fun acc i => by kernel_rfl
 obtain ⟨o1, o2⟩ := out_str hr
 intro k
 induction k with
 | zero =>
  intro i hf hi
  refine Ev.round (t := ⟨[0, 1, 5, 8, 9, 10], [0, 1, 4], 0⟩) ok49z (by kernel_rfl) rfl (can _ i) (v49 m id L.length _ i H (fun _ _ => False) True ?_) (fun τ h => h.2.elim) (fun e τ h => ?_)
  ·rw [decide_eq_false (by omega), iteP_f]
   exact ⟨rfl, rfl, trivial⟩
  ·unfold q49 at h
   split at h
   ·exact ⟨h.1, h.2.1⟩
   ·exact h.elim
 | succ k ih =>
  intro i hf hi
  have hlt : i < L.length := by omega
  have hw : IntKind.i64.wrap ((i : Int) + 1) = ((i + 1 : Nat) : Int) := by rw [wrap_in (by omega) (by omega)]; rfl
  obtain ⟨r1, r2⟩ := row_str hg hlt
  have hb := join_le (L := L) (t := out) (i := i + 1)
  refine Ev.round (t := ⟨[0, 1, 5, 8, 9, 10], [0, 1, 4], 0⟩) ok49z (by kernel_rfl) rfl (can _ i) (v49 m id L.length _ i H (fun o j => o = (Lib.join (L.take (i + 1)) out).length ∧ j = ((i + 1 : Nat) : Int)) False ?_) (fun τ h => ?_) (fun e τ h => ?_)
  ·rw [Int.toNat_natCast, Nat.zero_add, Nat.mul_one, r1, r2, o1, o2, hw, decide_eq_true (by omega), iteP_t, show inRange (i : Int) L.length = true by rw [inRange_iff]; omega, iteP_t, iteP_t]
   by_cases h0 : i = 0
   ·subst h0
    have e : Lib.join (L.take (0 + 1)) out = L[0] := by rw [take_next hlt]; exact Lib.join_one _ _
    have hlen := congrArg List.length e
    have hz : (Lib.join (L.take 0) out).length = 0 := by simp [Lib.join_nil]
    rw [decide_eq_false (by omega), iteP_f, hz, wrap_in (by omega) (by omega), decide_eq_false (by omega), iteP_f]
    exact ⟨rfl, by omega, rfl⟩
   ·have hne : L.take i ≠ [] := by
     intro e
     have := congrArg List.length e
     rw [List.length_take, List.length_nil] at this; omega
    have e : Lib.join (L.take (i + 1)) out = Lib.join (L.take i) out ++ out ++ L[i] := by rw [take_next hlt, join_snoc hne]
    have hlen := congrArg List.length e
    simp only [List.length_append] at hlen
    rw [decide_eq_true (by omega), iteP_t, iteP_t, wrap_in (x := ((Lib.join (L.take i) out).length : Int) + (L[i].length : Int)) (by omega) (by omega), wrap_in (by omega) (by omega), decide_eq_false (by omega), iteP_f]
    exact ⟨rfl, by omega, rfl⟩
  ·obtain ⟨h1, h2, h3⟩ := h
   rw [h2, h3] at h1
   rw [h1]
   exact ih (i + 1) (by omega) (by omega)
  ·unfold q49 at h
   split at h
   ·exact h.2.2.elim
   ·exact h.elim
theorem ok49L (O : Ok m T) : Ok m (T.addL 49 4 L49) := by
 refine addL_ok O fun σ s hs hp => ?_
 cases hs
 obtain ⟨e, L, c, out, whole, f, h1, h2, h3, h4, h5⟩ := hp
 have he : Ev (cf m) Tryz.prog 49 (.loop (loopAt Tryz.prog 49 4)) σ fun e τ => e = .exit 0 ∧ τ = E49 (rwId σ 1) (rwN σ 1) σ.h := by
  refine Ev.tidied (t := ⟨[0, 1, 5, 8, 9, 10], [0, 1, 4], 0⟩) (τ := I49 (rwId σ 1) L.length (Lib.join (L.take 0) out).length (0 : Nat) σ.h) (by kernel_rfl) (by rw [e, h2]; kernel_rfl) ?_
  rw [h2]
  exact loop49 m σ.h (rwId σ 1) L c out whole f h1 h3 h4 h5 _ 0 rfl (Nat.zero_le _)
 obtain ⟨n, ex, τ, h6, rfl, rfl⟩ := he
 exact ⟨_, List.mem_singleton.2 rfl, (), trivial, n, h6⟩
theorem mapO_strC (L : List (List UInt8)) : mapO strC (L.map aStr) = some (L.map fun b => (⟨⟨b⟩⟩ : ByteArray)) := by
 induction L with
 | nil => rfl
 | cons a L ih =>
  show consO (strC (aStr a)) (mapO strC (L.map aStr)) = _
  rw [ih]; rfl
theorem ok73 (O : Ok m T) : Ok m (T.addC 73 C73) := by
 refine addC_ok O fun args h s hs hp => ?_
 unfold C73 at hs
 split at hs
 ·rename_i id n sep
  obtain ⟨⟨sep⟩⟩ := sep
  cases hs
  obtain ⟨L, h1, rfl, h3, h4⟩ := hp
  refine ⟨_, List.mem_singleton.2 rfl, Lib.join L sep, 0, ⟨fun M hM => ?_⟩, ?_⟩
  ·rw [h1] at hM
   have : L.map aStr = M.map aStr := by simpa using hM
   rw [aStr_inj this]
  ·show joinP [.rsl id 0 L.length 1, .sc (.string ⟨⟨sep⟩⟩)] h = _
   have hst : stretch 0 L.length (L.map aStr) = some (L.map aStr) := by
    rw [stretch_eq, Nat.zero_add, List.length_map, Nat.ble_eq_true_of_le (Nat.le_refl _), cond_true, List.drop_zero, List.take_of_length_le (by simp)]
   have hmap : (L.map fun b => (⟨⟨b⟩⟩ : ByteArray)).map (·.data.toList) = L := by
    rw [List.map_map]; exact (List.map_congr_left fun b _ => rfl).trans (List.map_id L)
   have hm : maxRoom = 140737488355328 := by decide
   unfold joinP
   simp only [h1, hst, mapO_strC, hmap, List.length_map]
   have h3 : (Lib.join L sep).length ≤ 4294967280 := h3
   rw [Nat.ble_eq_true_of_le (by omega), Nat.ble_eq_true_of_le (by omega)]
   rfl
 ·cases hs
end
end Go.Proofs.Rd
namespace Go.Proofs.Rd
open Go Go.Ef
noncomputable section
def lowB (c : UInt8) : UInt8 := if 65 ≤ c ∧ c ≤ 90 then c + 32 else c
def upB (c : UInt8) : UInt8 := if 97 ≤ c ∧ c ≤ 122 then c - 32 else c
def tabOf (f : UInt8 → UInt8) : List UInt8 := (List.range 256).map fun i => f (UInt8.ofNat i)
def locA : AV := .agg [aStr [112, 111, 115, 105, 120], .sl ((List.range 256).map fun (i : Nat) => [AV.sc (.int .i64 i)]) 0, aStr (tabOf lowB), aStr (tabOf upB), nilA, nilA]
def wEls : List (List AV) := lk ((List.range 256).map fun (i : Nat) => [AV.sc (.int .i64 i)])
def wLow : List UInt8 := lk (tabOf lowB)
def wUp : List UInt8 := lk (tabOf upB)
def locL : AV := .agg [aStr [112, 111, 115, 105, 120], .sl wEls 0, aStr wLow, aStr wUp, nilA, nilA]
theorem locL_eq : locL = locA := by unfold locL locA wEls wLow wUp; rw [lk_eq, lk_eq, lk_eq]
def eqL {α : Type} (f : α → α → Bool) : List α → List α → Bool
 | [], [] => true
 | a :: l, b :: m => f a b && eqL f l m
 | _, _ => false
def eqV : Value → Value → Bool
 | .int k m, .int k' n => decide (k = k') && decide (m = n)
 | .string a, .string b => sameL a.data.toList b.data.toList
 | .bool a, .bool b => decide (a = b)
 | .slice none 0 0, .slice none 0 0 => true
 | _, _ => false
def eqA : Nat → AV → AV → Bool
 | 0, _, _ => false
 | n + 1, a, b => match a, b with
  | .sc u, .sc v => eqV u v
  | .sl x t, .sl y t' => Nat.beq t t' && eqL (eqL (eqA n)) x y
  | .agg x, .agg y => eqL (eqA n) x y
  | .tup x, .tup y => eqL (eqA n) x y
  | _, _ => false
theorem eqL_spec {α : Type} {f : α → α → Bool} (hf : ∀ a b, f a b = true → a = b) : ∀ l m : List α, eqL f l m = true → l = m := by
 intro l
 induction l with
 | nil => intro m h; cases m with
  | nil => rfl
  | cons _ _ => cases h
 | cons a l ih => intro m h; cases m with
  | nil => cases h
  | cons b m =>
   simp only [eqL, Bool.and_eq_true] at h
   rw [hf a b h.1, ih m h.2]
theorem eqV_spec {u v : Value} (h : eqV u v = true) : u = v := by
 unfold eqV at h
 split at h
 ·simp only [Bool.and_eq_true, decide_eq_true_eq] at h
  rw [h.1, h.2]
 ·rename_i a b
  obtain ⟨⟨a⟩⟩ := a
  obtain ⟨⟨b⟩⟩ := b
  rw [sameL_eq] at h
  have := of_decide_eq_true h
  simp only at this
  rw [this]
 ·rw [of_decide_eq_true h]
 ·rfl
 ·cases h
theorem eqA_spec : ∀ n a b, eqA n a b = true → a = b := by
 intro n
 induction n with
 | zero => intro a b h; cases h
 | succ n ih =>
  intro a b h
  unfold eqA at h
  split at h
  ·rw [eqV_spec h]
  ·simp only [Bool.and_eq_true] at h
   rw [Nat.eq_of_beq_eq_true h.1, eqL_spec (eqL_spec ih) _ _ h.2]
  ·rw [eqL_spec ih _ _ h]
  ·rw [eqL_spec ih _ _ h]
  ·cases h
def evIs (m : Int) (g : FuncId) (args : List AV) (v : AV) : Bool :=
 match callP (cf m) (evCall (cf m) Tryz.prog 1000) g args heapF with
 | some (r, _) => eqA 6 r v
 | none => false
def C22 (args : List AV) (h : Heap) : Option CSpec :=
 match args with
 | [] => some (fspec True locL h)
 | _ => none
def putL (L : List (List UInt8)) (k : Nat) (t : List UInt8) : List (List UInt8) := (L ++ List.replicate (k - L.length) []).set (k - 1) t
def boxC (op k : Int) (t : List UInt8) : List LObj := [.cells [.sc (.int .i64 op), .sc (.int .i64 k), aStr t]]
def I8 (op k : Int) (t : List UInt8) (b : AV) (els : List (List AV)) (tok : Nat) (i : Int) (h : Heap) : St := stOf 164 [(5, .lp 0 0), (10, .v b), (12, .v (.sl els tok)), (14, sInt i)] (boxC op k t) h
def E8 (op k : Int) (t : List UInt8) (h : Heap) : St := stOf 164 [(6, .unk)] (boxC op k t) h
def q8 (op k : Int) (t : List UInt8) (h : Heap) (X : Prop) (e : Ex) (τ : St) : Prop :=
 match e with
 | .exit _ => e = .exit 0 ∧ τ = E8 op k t h ∧ X
 | _ => False
inductive Before : AV → List (List UInt8) → Prop where
 | nil : Before nilA []
 | sl (L : List (List UInt8)) (tok : Nat) : Before (.sl (L.map strEl) tok) L
structure Changed (b : AV) (els : List (List AV)) (k : Int) (t : List UInt8) : Prop where
 is : ∃ (L : List (List UInt8)) (j : Nat), Before b L ∧ k = j ∧ 1 ≤ j ∧ els = (putL L j t).map strEl ∧ L.length ≤ 1024 ∧ j ≤ 1024
def avAt (σ : St) (t : Nat) : AV :=
 match σ.at t with
 | .v a => a
 | _ => nilA
def tokAt (σ : St) (t : Nat) : Nat :=
 match σ.at t with
 | .v (.sl _ k) => k
 | _ => 0
def L8 (σ : St) : Option LSpec := some { pre := σ.tidy [5, 10, 12, 14] 1 = I8 (lcI σ 0 0) (lcI σ 0 1) (lcS σ 0 2) (avAt σ 10) (slEls σ 12) (tokAt σ 12) 0 σ.h ∧ Changed (avAt σ 10) (slEls σ 12) (lcI σ 0 1) (lcS σ 0 2), alts := [{ α := Unit, post := fun _ => True, ex := .exit 0, st := fun _ => E8 (lcI σ 0 0) (lcI σ 0 1) (lcS σ 0 2) σ.h }] }
def lz : Tab := { tab0 with lazy := fun f => Nat.beq f 8 || Nat.beq f 25 || Nat.beq f 49 || Nat.beq f 29, symN := fun f => Nat.beq f 25, symS := fun f d => Nat.beq f 49 && (match d with | some t => Nat.beq t 14 || Nat.beq t 25 | none => false) }
def T8a : Tab := ((((((((lz.addC 20 Rc.C20).addC 22 C22).addC 48 C48a).addC 30 C30).addC 31 C31).addC 73 C73).addL 49 4 L49).addL 8 17 L8)
def T8b : Tab := ((((((((lz.addC 20 Rc.C20).addC 22 C22).addC 48 C48b).addC 30 C30).addC 31 C31).addC 73 C73).addL 49 4 L49).addL 8 17 L8)
end
end Go.Proofs.Rd
