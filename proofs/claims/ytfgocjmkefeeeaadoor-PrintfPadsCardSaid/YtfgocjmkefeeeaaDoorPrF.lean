/- Printf: Sprintf at plain formats. -/
import Derived.Test.YtfgocjmkefeeeaaDoorPrE
import Derived.Test.YtfgocjmkefeeeaaDoorPrA
/- Printf: Sprintf at plain formats: tables. -/
namespace Go.Proofs.Pr
open Go Go.Ef
noncomputable section

def outF (s : List UInt8) : List UInt8 := if hasPct s then before s ++ [37] ++ before s else s
def okCall (s : List UInt8) (a : AV) : Prop := isArgs a ∧ s.length ≤ 100000 ∧ (outF s).length ≤ 16384 ∧ (hasPct s = false ∨ (a = nilA ∧ ∃ u, s = pct2 u ∧ hasPct u = false))
def L18a (σ : St) (s : List UInt8) (a : AV) : LSpec := { pre := σ.tidy [0, 1] 0 = IA s a ∧ okCall s a, alts := [{ α := Unit, post := fun _ => outF s = [], ex := .ret, st := fun _ => JB 0 a }, { α := List UInt8, post := fun x => x = outF s ∧ x.isEmpty = false, ex := .ret, st := fun x => JC 0 a (byteCells x) x.length }] }
def L18s (σ : St) : Option LSpec :=
  match σ.at 0, hArg σ.h with
  | .v (.sc (.string s)), .sl l 0 => some (L18a σ s.data.toList (.sl l 0))
  | .v (.sc (.string s)), .sc (.slice none 0 0) => some (L18a σ s.data.toList nilA)
  | _, _ => none
def isByteCells (els : Cells) : Prop := byteCells (els.map byteD) = els
def C27 (args : List AV) (h : Heap) : Option CSpec :=
  match args with
  | [.ptr 3 0] => match h.objs.get 3 with
    | some (.cells [_, .sc (.slice none 0 0)]) => some (nspec (IS [] h = sB (hArg h)) ([] : List UInt8) (fun x => aStr x) h)
    | some (.cells [_, .sl els 5]) => some (nspec (IS [] h = sC (hArg h) els (hN h) ∧ els.isEmpty = false ∧ hN h = els.length ∧ els.length ≤ 100000000 ∧ isByteCells els) (els.map byteD) (fun x => aStr x) { h with objs := h.objs.set 4 .dead })
    | _ => none
  | _ => none
def Y1 : Tab := ((Y0.addC 8 C8).addL 18 2 L18s).addC 27 C27
def C12 (args : List AV) (h : Heap) : Option CSpec :=
  match args with
  | [.sc (.string s), a] => some (nspec (okCall s.data.toList a) (outF s.data.toList) (fun x => .tup [aStr x, aK .i64 0]) h)
  | _ => none
end
end Go.Proofs.Pr

/- Printf: conditions of Sprintf, printed by a program from the evaluation. -/
namespace Go.Proofs.Pr
open Go Go.Ef
noncomputable section
set_option maxRecDepth 100000

theorem c12 (s : List UInt8) (l : Cells) (K : AV → Prop) (h :
 s.length.le (1000000 : Nat) ∧
 ∀ (x : Int),
 x = checkF (s.length + (1 : Nat)) s →
 iteP (x != (0 : Int))
 (K (AV.tup [AV.sc (Value.string (ByteArray.mk (Array.mk []))), AV.sc (Value.int IntKind.i64 x)]))
 (loopAt Tryd.prog (18 : Nat) (2 : Nat) = loopAt Tryd.prog (18 : Nat) (2 : Nat) ∧
 (IA s (AV.sl l (0 : Nat)) = IA s (AV.sl l (0 : Nat)) ∧
 ((∃ (l_1 : List (List AV)), AV.sl l (0 : Nat) = AV.sl l_1 (0 : Nat)) ∨
 AV.sl l (0 : Nat) = AV.sc (Value.slice none (0 : Nat) (0 : Nat))) ∧
 s.length ≤ (100000 : Nat) ∧
 (outF s).length ≤ (16384 : Nat) ∧
 (hasPct s = false ∨
 AV.sl l (0 : Nat) = AV.sc (Value.slice none (0 : Nat) (0 : Nat)) ∧
 ∃ (u : List UInt8), s = u ++ [(37 : UInt8), (37 : UInt8)] ++ u ∧ hasPct u = false)) ∧
 (∀ (_ : Unit),
 outF s = [] →
 sB (AV.sl l (0 : Nat)) = sB (AV.sl l (0 : Nat)) ∧
 ∀ (x : List UInt8),
 x = [] →
 K
 (AV.tup
 [AV.sc (Value.string (ByteArray.mk (Array.mk x))),
 AV.sc (Value.int IntKind.i64 (0 : Int))])) ∧
 ∀ (x : List UInt8),
 x = outF s ∧ x.isEmpty = false →
 iteP (decide ((16384 : Int) < (↑(List.length (byteCells x)) : Int)))
 (K
 (AV.tup
 [AV.sc (Value.string (ByteArray.mk (Array.mk []))), AV.sc (Value.int IntKind.i64 (3 : Int))]))
 ((sC (AV.sl l (0 : Nat)) (byteCells x) x.length = sC (AV.sl l (0 : Nat)) (byteCells x) x.length ∧
 List.isEmpty (byteCells x) = false ∧
 x.length = List.length (byteCells x) ∧
 List.length (byteCells x) ≤ (100000000 : Nat) ∧
 byteCells (List.map byteD (byteCells x)) = byteCells x) ∧
 ∀ (x_1 : List UInt8),
 x_1 = List.map byteD (byteCells x) →
 K
 (AV.tup
 [AV.sc (Value.string (ByteArray.mk (Array.mk x_1))),
 AV.sc (Value.int IntKind.i64 (0 : Int))])))) :
 (fun (s : List UInt8) (l : Cells) (K : AV → Prop) => wpCall Y1 Door.cfg Tryd.prog 40 12 [aStr s, .sl l 0] heapF fun r h' => wpBack h' r K) s l K :=
 Eq.mp (by kernel_rfl) h

theorem c12n (s : List UInt8) (K : AV → Prop) (h :
 s.length.le (1000000 : Nat) ∧
 ∀ (x : Int),
 x = checkF (s.length + (1 : Nat)) s →
 iteP (x != (0 : Int))
 (K (AV.tup [AV.sc (Value.string (ByteArray.mk (Array.mk []))), AV.sc (Value.int IntKind.i64 x)]))
 (loopAt Tryd.prog (18 : Nat) (2 : Nat) = loopAt Tryd.prog (18 : Nat) (2 : Nat) ∧
 (IA s (AV.sc (Value.slice none (0 : Nat) (0 : Nat))) = IA s (AV.sc (Value.slice none (0 : Nat) (0 : Nat))) ∧
 ((∃ (l : List (List AV)), AV.sc (Value.slice none (0 : Nat) (0 : Nat)) = AV.sl l (0 : Nat)) ∨
 AV.sc (Value.slice none (0 : Nat) (0 : Nat)) = AV.sc (Value.slice none (0 : Nat) (0 : Nat))) ∧
 s.length ≤ (100000 : Nat) ∧
 (outF s).length ≤ (16384 : Nat) ∧
 (hasPct s = false ∨
 AV.sc (Value.slice none (0 : Nat) (0 : Nat)) = AV.sc (Value.slice none (0 : Nat) (0 : Nat)) ∧
 ∃ (u : List UInt8), s = u ++ [(37 : UInt8), (37 : UInt8)] ++ u ∧ hasPct u = false)) ∧
 (∀ (_ : Unit),
 outF s = [] →
 sB (AV.sc (Value.slice none (0 : Nat) (0 : Nat))) =
 sB (AV.sc (Value.slice none (0 : Nat) (0 : Nat))) ∧
 ∀ (x : List UInt8),
 x = [] →
 K
 (AV.tup
 [AV.sc (Value.string (ByteArray.mk (Array.mk x))),
 AV.sc (Value.int IntKind.i64 (0 : Int))])) ∧
 ∀ (x : List UInt8),
 x = outF s ∧ x.isEmpty = false →
 iteP (decide ((16384 : Int) < (↑(List.length (byteCells x)) : Int)))
 (K
 (AV.tup
 [AV.sc (Value.string (ByteArray.mk (Array.mk []))), AV.sc (Value.int IntKind.i64 (3 : Int))]))
 ((sC (AV.sc (Value.slice none (0 : Nat) (0 : Nat))) (byteCells x) x.length =
 sC (AV.sc (Value.slice none (0 : Nat) (0 : Nat))) (byteCells x) x.length ∧
 List.isEmpty (byteCells x) = false ∧
 x.length = List.length (byteCells x) ∧
 List.length (byteCells x) ≤ (100000000 : Nat) ∧
 byteCells (List.map byteD (byteCells x)) = byteCells x) ∧
 ∀ (x_1 : List UInt8),
 x_1 = List.map byteD (byteCells x) →
 K
 (AV.tup
 [AV.sc (Value.string (ByteArray.mk (Array.mk x_1))),
 AV.sc (Value.int IntKind.i64 (0 : Int))])))) :
 (fun (s : List UInt8) (K : AV → Prop) => wpCall Y1 Door.cfg Tryd.prog 40 12 [aStr s, nilA] heapF fun r h' => wpBack h' r K) s K :=
 Eq.mp (by kernel_rfl) h

end
end Go.Proofs.Pr

/- Printf: Sprintf at plain formats. -/
namespace Go.Proofs.Pr
open Go Go.Ef
noncomputable section
set_option maxRecDepth 100000

theorem rX_cases {XA XB : Int → AV → Prop} {XC : Int → AV → Cells → Nat → Prop} {e : Ex} {τ : St} (h : rX XA XB XC e τ) :
    e = .ret ∧ ((∃ v a, τ = JA v a ∧ XA v a) ∨ (∃ v a, τ = JB v a ∧ XB v a) ∨ (∃ v a b n, τ = JC v a b n ∧ XC v a b n)) := by
  unfold rX at h
  split at h
  · split at h
    · exact ⟨rfl, .inl ⟨_, _, h⟩⟩
    · exact ⟨rfl, .inr (.inl ⟨_, _, h⟩)⟩
    · exact ⟨rfl, .inr (.inr ⟨_, _, _, _, h⟩)⟩
    · exact h.elim
  · exact h.elim
theorem rN_cases {NB : List UInt8 → AV → Prop} {NC : List UInt8 → AV → Cells → Nat → Prop} {τ : St} (h : rN NB NC τ) :
    (∃ s a, τ = IB s a ∧ NB s a) ∨ (∃ s a b n, τ = IC s a b n ∧ NC s a b n) := by
  unfold rN at h
  split at h
  · exact .inl ⟨_, _, h⟩
  · exact .inr ⟨_, _, _, _, h⟩
  · exact h.elim
theorem can18 (s : List UInt8) (h : Heap) : (IS s h).tidy [0, 1] 0 = IS s h := by kernel_rfl
theorem first18 : firstId 8 (loopAt Tryd.prog 18 2) = 2 := by kernel_rfl

theorem loopS1 (s : List UInt8) (a : AV) (ha : isArgs a) (hs : s.length ≤ 1000000) (hp : hasPct s = false) :
    Ev Door.cfg Tryd.prog 18 (.loop (loopAt Tryd.prog 18 2)) (IA s a) fun e τ => e = .ret ∧ ((s = [] ∧ τ = JB 0 a) ∨ (s.isEmpty = false ∧ τ = JC 0 a (byteCells s) s.length)) := by
  refine Ev.round okY0 (t := ⟨[0, 1], [4], 0⟩) first18 rfl (can18 s (hA a))
    (roundA s a ha hs hp (NB := fun _ _ => False) (NC := fun _ _ _ _ => False) (XA := fun _ _ => False) (XB := fun e b => e = 0 ∧ b = a ∧ s = []) (XC := fun e b c n => e = 0 ∧ b = a ∧ c = byteCells s ∧ n = s.length ∧ s.isEmpty = false) (fun h => ⟨rfl, rfl, h⟩) (fun h => ⟨rfl, rfl, rfl, cells_len s, by cases s <;> simp_all⟩))
    (fun τ h => ?_) (fun e τ h => ?_)
  · rcases rN_cases h with ⟨_, _, _, h⟩ | ⟨_, _, _, _, _, h⟩ <;> exact h.elim
  · obtain ⟨rfl, g⟩ := rX_cases h
    clear h
    rcases g with ⟨_, _, _, h⟩ | ⟨_, _, h1, rfl, rfl, h2⟩ | ⟨_, _, _, _, h1, rfl, rfl, rfl, rfl, h2⟩
    · exact h.elim
    · exact ⟨rfl, .inl ⟨h2, h1⟩⟩
    · exact ⟨rfl, .inr ⟨h2, h1⟩⟩
theorem loopS2 (s u : List UInt8) (hs : s.length ≤ 1000000) (hu : u.length ≤ 2000000) (hp : hasPct s = false) :
    Ev Door.cfg Tryd.prog 18 (.loop (loopAt Tryd.prog 18 2)) (IC s nilA (byteCells u) u.length) fun e τ => e = .ret ∧ τ = JC 0 nilA (byteCells (u ++ s)) (u ++ s).length := by
  refine Ev.round okY0 (t := ⟨[0, 1], [4], 0⟩) first18 rfl (can18 s (hC nilA (byteCells u) u.length))
    (roundC s u hu hs hp (NB := fun _ _ => False) (NC := fun _ _ _ _ => False) (XA := fun _ _ => False) (XB := fun _ _ => False) (XC := fun e b c n => e = 0 ∧ b = nilA ∧ c = byteCells (u ++ s) ∧ n = (u ++ s).length) ⟨rfl, rfl, rfl, rfl⟩)
    (fun τ h => ?_) (fun e τ h => ?_)
  · rcases rN_cases h with ⟨_, _, _, h⟩ | ⟨_, _, _, _, _, h⟩ <;> exact h.elim
  · obtain ⟨rfl, g⟩ := rX_cases h
    clear h
    rcases g with ⟨_, _, _, h⟩ | ⟨_, _, _, h⟩ | ⟨_, _, _, _, h1, rfl, rfl, rfl, rfl⟩
    · exact h.elim
    · exact h.elim
    · exact ⟨rfl, h1⟩
theorem loopS3 (s : List UInt8) (hs : s.length ≤ 400000) (hp : hasPct s = false) :
    Ev Door.cfg Tryd.prog 18 (.loop (loopAt Tryd.prog 18 2)) (IA (pct2 s) nilA) fun e τ => e = .ret ∧ τ = JC 0 nilA (byteCells (s ++ [37] ++ s)) (s ++ [37] ++ s).length := by
  refine Ev.round okY0 (t := ⟨[0, 1], [4], 0⟩) first18 rfl (can18 (pct2 s) (hA nilA))
    (roundP s hs hp (NB := fun _ _ => False) (NC := fun t b c n => t = s ∧ b = nilA ∧ c = byteCells (s ++ [37]) ∧ n = (s ++ [37]).length) (XA := fun _ _ => False) (XB := fun _ _ => False) (XC := fun _ _ _ _ => False) ⟨rfl, rfl, rfl, rfl⟩)
    (fun τ h => ?_) (fun e τ h => ?_)
  · rcases rN_cases h with ⟨_, _, _, h⟩ | ⟨_, _, _, _, rfl, rfl, rfl, rfl, rfl⟩
    · exact h.elim
    · exact loopS2 _ _ (by omega) (by rw [List.length_append]; simp; omega) hp
  · obtain ⟨rfl, g⟩ := rX_cases h
    clear h
    rcases g with ⟨_, _, _, h⟩ | ⟨_, _, _, h⟩ | ⟨_, _, _, _, _, h⟩ <;> exact h.elim

theorem outF_plain {s : List UInt8} (hp : hasPct s = false) : outF s = s := by unfold outF; rw [hp]; rfl
theorem outF_pct {s : List UInt8} (hp : hasPct s = false) : outF (pct2 s) = s ++ [37] ++ s := by
  obtain ⟨n1, _, n3⟩ := before_pct hp
  unfold outF; rw [n3, n1]; rfl
theorem check_plain {s : List UInt8} (hp : hasPct s = false) (n : Nat) : checkF n s = 0 := by
  cases n with
  | zero => rfl
  | succ n => unfold checkF; rw [hp]; rfl
theorem check_pct {s : List UInt8} (hp : hasPct s = false) (n : Nat) : checkF n (pct2 s) = 0 := by
  cases n with
  | zero => rfl
  | succ n =>
    obtain ⟨_, n2, n3⟩ := before_pct hp
    unfold checkF
    rw [n3, n2, read_pct]
    exact check_plain hp n

theorem loopS (s : List UInt8) (a : AV) (hc : okCall s a) :
    Ev Door.cfg Tryd.prog 18 (.loop (loopAt Tryd.prog 18 2)) (IA s a) fun e τ => e = .ret ∧ ((outF s = [] ∧ τ = JB 0 a) ∨ ((outF s).isEmpty = false ∧ τ = JC 0 a (byteCells (outF s)) (outF s).length)) := by
  obtain ⟨ha, hl, _, hp | ⟨rfl, u, rfl, hp⟩⟩ := hc
  · rw [outF_plain hp]
    exact loopS1 s a ha (by omega) hp
  · rw [outF_pct hp]
    have hl' : u.length ≤ 400000 := by simp [pct2] at hl; omega
    refine (loopS3 u hl' hp).mono fun e τ h => ⟨h.1, .inr ⟨by simp, h.2⟩⟩

theorem okL18s {T : Tab} (O : TabOk Tryd.prog Door.cfg T) : TabOk Tryd.prog Door.cfg (T.addL 18 2 L18s) := by
  refine addL_ok O fun σ s hs hp => ?_
  have main : ∀ (u : List UInt8) (a : AV), L18a σ u a = s → ∃ b ∈ s.alts, ∃ x, b.post x ∧ ∃ m, evCode Door.cfg Tryd.prog m 18 (.loop (loopAt Tryd.prog 18 2)) σ = some (b.ex, b.st x) := by
    intro u a he
    subst he
    obtain ⟨h1, h2⟩ := hp
    have := Ev.tidied (C := Door.cfg) (P := Tryd.prog) (b := loopAt Tryd.prog 18 2) (f := 18) (σ := σ) (t := ⟨[0, 1], [4], 0⟩) (τ := IA u a) (by kernel_rfl) (by rw [h1]; exact (can18 u (hA a)).symm) (loopS u a h2)
    obtain ⟨m, ex, τ, g1, rfl, g2 | g2⟩ := this
    · obtain ⟨g2, rfl⟩ := g2
      exact ⟨_, .head _, (), g2, m, g1⟩
    · obtain ⟨g2, rfl⟩ := g2
      exact ⟨_, .tail _ (.head _), outF u, ⟨rfl, g2⟩, m, g1⟩
  unfold L18s at hs
  split at hs
  · exact main _ _ (Option.some.inj hs)
  · exact main _ _ (Option.some.inj hs)
  · cases hs

theorem byteS_cell (b : UInt8) : byteS [aK .u8 b.toNat] = some b := by
  show (bif decide ((b.toNat : Int) = ((UInt8.ofNat ((b.toNat : Int)).toNat).toNat : Int)) then some (UInt8.ofNat ((b.toNat : Int)).toNat) else none) = some b
  have e : UInt8.ofNat ((b.toNat : Int)).toNat = b := by simp
  rw [e, decide_eq_true rfl]; rfl
theorem byteS_cells (u : List UInt8) : mapO byteS (byteCells u) = some u := by
  induction u with
  | nil => rfl
  | cons b u ih =>
    show consO (byteS [aK .u8 b.toNat]) (mapO byteS (byteCells u)) = _
    rw [byteS_cell, ih]; rfl
theorem byteD_cell (b : UInt8) : byteD [aK .u8 b.toNat] = b := by
  show (some (UInt8.ofNat ((b.toNat : Int)).toNat)).getD 0 = b
  simp
theorem byteD_cells (u : List UInt8) : (byteCells u).map byteD = u := by
  induction u with
  | nil => rfl
  | cons b u ih =>
    show byteD [aK .u8 b.toNat] :: (byteCells u).map byteD = _
    rw [byteD_cell, ih]
theorem ok27 {T : Tab} (O : TabOk Tryd.prog Door.cfg T) : TabOk Tryd.prog Door.cfg (T.addC 27 C27) := by
  refine addC_ok O fun args h s hs hp => ?_
  unfold C27 at hs
  split at hs
  · split at hs
    · refine nspec_ok (Option.some.inj hs) (fun hpre => ?_) hp
      have hh : h = hB (hArg h) := IS_heap (s := []) (s' := []) hpre
      refine EvP.prim (p := stringP 54 5) rfl (v := aStr []) (h' := h) ?_ ⟨rfl, rfl⟩
      rw [hh]; rfl
    · rename_i els _
      refine nspec_ok2 (Option.some.inj hs) (fun hpre => ?_) hp
      obtain ⟨p1, p2, p3, p4, p5⟩ := hpre
      have hh : h = hC (hArg h) els (hN h) := IS_heap (s := []) (s' := []) p1
      rw [p3] at hh
      generalize hArg h = a at hh
      subst hh
      replace p5 : byteCells (els.map byteD) = els := p5
      generalize els.map byteD = u at p5
      subst p5
      refine EvP.prim (p := stringP 54 5) rfl (v := aStr u) (h' := { hC a (byteCells u) (byteCells u).length with objs := (hC a (byteCells u) (byteCells u).length).objs.set 4 .dead }) ?_ ⟨rfl, rfl⟩
      show (bif (Nat.beq 1 1 && Nat.beq 5 5 && !(byteCells u).isEmpty && Nat.ble (byteCells u).length maxRoom) && Nat.beq (byteCells u).length (byteCells u).length then
               (match mapO byteS (byteCells u), (hC a (byteCells u) (byteCells u).length).put 4 .dead with
                | some bs, some h' => some (AV.sc (.string ⟨⟨bs⟩⟩), h')
                | _, _ => none) else none) = _
      rw [p2, show Nat.ble (byteCells u).length maxRoom = true from Nat.ble_eq_true_of_le (by unfold maxRoom; omega), Nat.beq_refl (List.length (byteCells u)), byteS_cells]
      rfl
    · cases hs
  · cases hs
theorem okY1 : TabOk Tryd.prog Door.cfg Y1 := ok27 (okL18s (copy_ok okY0 ok8 (g := 8) (t := C8) rfl))
theorem ok12 {T : Tab} (O : TabOk Tryd.prog Door.cfg T) : TabOk Tryd.prog Door.cfg (T.addC 12 C12) := by
  refine addC_ok O fun args h s hs hp => ?_
  unfold C12 at hs
  split at hs
  · rename_i s0 a
    obtain ⟨⟨u⟩⟩ := s0
    refine nspec_ok (Option.some.inj hs) (fun hpre => ?_) hp
    replace hpre : okCall u a := hpre
    have hc : checkF (u.length + 1) u = 0 := by
      obtain ⟨_, _, _, hp | ⟨_, v, rfl, hp⟩⟩ := hpre
      · exact check_plain hp _
      · exact check_pct hp _
    obtain ⟨g1, g2, g3, g4⟩ := hpre
    have fin : ∀ x : List UInt8, x = outF u ∧ x.isEmpty = false → decide ((16384 : Int) < ((List.length (byteCells x) : Nat) : Int)) = false ∧ List.isEmpty (byteCells x) = false ∧ x.length = List.length (byteCells x) ∧ List.length (byteCells x) ≤ 100000000 ∧ byteCells (List.map byteD (byteCells x)) = byteCells x := by
      rintro x ⟨rfl, hx⟩
      refine ⟨by rw [cells_len]; simp; omega, ?_, (cells_len _).symm, by rw [cells_len]; omega, by rw [byteD_cells]⟩
      cases h' : outF u with
      | nil => rw [h'] at hx; cases hx
      | cons c r => rfl
    rcases g1 with ⟨l, rfl⟩ | rfl
    · refine EvP.freshV okY1 (n := 40) (by kernel_rfl) (by kernel_rfl) (args' := [aStr u, .sl l 0]) rfl (c12 u l _ ?_)
      refine ⟨show u.length ≤ 1000000 by omega, fun x hx => ?_⟩
      rw [hc] at hx; subst hx
      show iteP ((0 : Int) != 0) _ _
      rw [show ((0 : Int) != 0) = false from rfl, iteP_f]
      refine ⟨rfl, ⟨rfl, .inl ⟨l, rfl⟩, g2, g3, g4⟩, fun _ ho => ⟨rfl, fun x hx => ?_⟩, fun x hx => ?_⟩
      · show _ = AV.tup [aStr (outF u), aK .i64 0]
        rw [hx, ho]; rfl
      · obtain ⟨f1, f2, f3, f4, f5⟩ := fin x hx
        rw [f1, iteP_f]
        refine ⟨⟨rfl, f2, f3, f4, f5⟩, fun y hy => ?_⟩
        rw [byteD_cells] at hy
        rw [hy, hx.1]; rfl
    · refine EvP.freshV okY1 (n := 40) (by kernel_rfl) (by kernel_rfl) (args' := [aStr u, nilA]) rfl (c12n u _ ?_)
      refine ⟨show u.length ≤ 1000000 by omega, fun x hx => ?_⟩
      rw [hc] at hx; subst hx
      show iteP ((0 : Int) != 0) _ _
      rw [show ((0 : Int) != 0) = false from rfl, iteP_f]
      refine ⟨rfl, ⟨rfl, .inr rfl, g2, g3, g4⟩, fun _ ho => ⟨rfl, fun x hx => ?_⟩, fun x hx => ?_⟩
      · show _ = AV.tup [aStr (outF u), aK .i64 0]
        rw [hx, ho]; rfl
      · obtain ⟨f1, f2, f3, f4, f5⟩ := fin x hx
        rw [f1, iteP_f]
        refine ⟨⟨rfl, f2, f3, f4, f5⟩, fun y hy => ?_⟩
        rw [byteD_cells] at hy
        rw [hy, hx.1]; rfl
  · cases hs
end
end Go.Proofs.Pr

