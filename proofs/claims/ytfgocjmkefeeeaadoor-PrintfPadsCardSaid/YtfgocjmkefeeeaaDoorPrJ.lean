/- Printf: Sprintf in general; the body of a string. -/
import Derived.Test.YtfgocjmkefeeeaaDoorPrI
/- Printf: Sprintf in general: tables. -/
namespace Go.Proofs.Pr
open Go Go.Ef
noncomputable section

structure RunOk (s : List UInt8) (l : Cells) : Prop where
  hs : s.length ≤ 10000
  hg : goodsB l = true
  ok : checkF (s.length + 1) s = 0 → runOk (s.length + 1) s l
def runS (s : List UInt8) (l : Cells) : Int × Cells × List UInt8 := runF (s.length + 1) s l []
def sprintfF (s : List UInt8) (l : Cells) : List UInt8 × Int :=
  if checkF (s.length + 1) s ≠ 0 then ([], checkF (s.length + 1) s) else if (runS s l).1 ≠ 0 then ([], (runS s l).1) else if (runS s l).2.2.length > 16384 then ([], 3) else ((runS s l).2.2, 0)
structure RunOk0 (s : List UInt8) (l : Cells) : Prop where
  hs : s.length ≤ 10000
  hg : goodsB l = true
  ok : runOk (s.length + 1) s l
def L18g (σ : St) : Option LSpec :=
  match σ.at 0, hArg σ.h with
  | .v (.sc (.string s)), .sl l 0 => some { pre := σ.tidy [0, 1] 0 = IA s.data.toList (.sl l 0) ∧ RunOk0 s.data.toList l, alts := [{ α := Int × Cells × List UInt8, post := fun x => x = runS s.data.toList l ∧ x.2.2 = [], ex := .ret, st := fun x => JB x.1 (.sl x.2.1 0) }, { α := Int × Cells × List UInt8, post := fun x => x = runS s.data.toList l ∧ x.2.2.isEmpty = false, ex := .ret, st := fun x => JC x.1 (.sl x.2.1 0) (byteCells x.2.2) x.2.2.length }] }
  | .v (.sc (.string s)), .sc (.slice none 0 0) => some { pre := σ.tidy [0, 1] 0 = IA s.data.toList nilA ∧ RunOk0 s.data.toList [], alts := [{ α := Int × Cells × List UInt8, post := fun x => x = runS s.data.toList [] ∧ x.2.2 = [], ex := .ret, st := fun x => JB x.1 nilA }, { α := Int × Cells × List UInt8, post := fun x => x = runS s.data.toList [] ∧ x.2.2.isEmpty = false, ex := .ret, st := fun x => JC x.1 nilA (byteCells x.2.2) x.2.2.length }] }
  | _, _ => none
def C12g (args : List AV) (h : Heap) : Option CSpec :=
  match args with
  | [.sc (.string s), .sl l _] => some (nspec (RunOk s.data.toList l) (sprintfF s.data.toList l) (fun x => .tup [aStr x.1, aK .i64 x.2]) h)
  | [.sc (.string s), .sc (.slice none 0 0)] => some (nspec (RunOk s.data.toList []) (sprintfF s.data.toList []) (fun x => .tup [aStr x.1, aK .i64 x.2]) h)
  | _ => none
def Y3 : Tab := ((Y2.addC 8 C8).addL 18 2 L18g).addC 27 C27
end
end Go.Proofs.Pr

/- Printf: conditions of Sprintf in general, printed by a program from the evaluation. -/
namespace Go.Proofs.Pr
open Go Go.Ef
noncomputable section
set_option maxRecDepth 100000

theorem g12 (s : List UInt8) (l : Cells) (K : AV → Prop) (h :
 s.length.le (1000000 : Nat) ∧
 ∀ (x : Int),
 x = checkF (s.length + (1 : Nat)) s →
 iteP (x != (0 : Int))
 (K (AV.tup [AV.sc (Value.string (ByteArray.mk (Array.mk []))), AV.sc (Value.int IntKind.i64 x)]))
 (loopAt Tryd.prog (18 : Nat) (2 : Nat) = loopAt Tryd.prog (18 : Nat) (2 : Nat) ∧
 (IA s (AV.sl l (0 : Nat)) = IA s (AV.sl l (0 : Nat)) ∧ RunOk0 s l) ∧
 (∀ (x : Int × Cells × List UInt8),
 x = runS s l ∧ x.snd.snd = [] →
 iteP (x.fst == (0 : Int))
 (iteP (x.fst != (0 : Int))
 (K
 (AV.tup
 [AV.sc (Value.string (ByteArray.mk (Array.mk []))), AV.sc (Value.int IntKind.i64 x.fst)]))
 (sB (AV.sl x.snd.fst (0 : Nat)) = sB (AV.sl x.snd.fst (0 : Nat)) ∧
 ∀ (x : List UInt8),
 x = [] →
 K
 (AV.tup
 [AV.sc (Value.string (ByteArray.mk (Array.mk x))),
 AV.sc (Value.int IntKind.i64 (0 : Int))])))
 (iteP (x.fst != (0 : Int))
 (K
 (AV.tup
 [AV.sc (Value.string (ByteArray.mk (Array.mk []))), AV.sc (Value.int IntKind.i64 x.fst)]))
 (sB (AV.sl x.snd.fst (0 : Nat)) = sB (AV.sl x.snd.fst (0 : Nat)) ∧
 ∀ (x : List UInt8),
 x = [] →
 K
 (AV.tup
 [AV.sc (Value.string (ByteArray.mk (Array.mk x))),
 AV.sc (Value.int IntKind.i64 (0 : Int))])))) ∧
 ∀ (x : Int × Cells × List UInt8),
 x = runS s l ∧ x.snd.snd.isEmpty = false →
 iteP (x.fst == (0 : Int))
 (iteP (decide ((16384 : Int) < (↑(List.length (byteCells x.snd.snd)) : Int)))
 (K
 (AV.tup
 [AV.sc (Value.string (ByteArray.mk (Array.mk []))), AV.sc (Value.int IntKind.i64 (3 : Int))]))
 (iteP (x.fst != (0 : Int))
 (K
 (AV.tup
 [AV.sc (Value.string (ByteArray.mk (Array.mk []))), AV.sc (Value.int IntKind.i64 x.fst)]))
 ((sC (AV.sl x.snd.fst (0 : Nat)) (byteCells x.snd.snd) x.snd.snd.length =
 sC (AV.sl x.snd.fst (0 : Nat)) (byteCells x.snd.snd) x.snd.snd.length ∧
 List.isEmpty (byteCells x.snd.snd) = false ∧
 x.snd.snd.length = List.length (byteCells x.snd.snd) ∧
 List.length (byteCells x.snd.snd) ≤ (100000000 : Nat) ∧
 byteCells (List.map byteD (byteCells x.snd.snd)) = byteCells x.snd.snd) ∧
 ∀ (x_1 : List UInt8),
 x_1 = List.map byteD (byteCells x.snd.snd) →
 K
 (AV.tup
 [AV.sc (Value.string (ByteArray.mk (Array.mk x_1))),
 AV.sc (Value.int IntKind.i64 (0 : Int))]))))
 (iteP (x.fst != (0 : Int))
 (K
 (AV.tup
 [AV.sc (Value.string (ByteArray.mk (Array.mk []))), AV.sc (Value.int IntKind.i64 x.fst)]))
 ((sC (AV.sl x.snd.fst (0 : Nat)) (byteCells x.snd.snd) x.snd.snd.length =
 sC (AV.sl x.snd.fst (0 : Nat)) (byteCells x.snd.snd) x.snd.snd.length ∧
 List.isEmpty (byteCells x.snd.snd) = false ∧
 x.snd.snd.length = List.length (byteCells x.snd.snd) ∧
 List.length (byteCells x.snd.snd) ≤ (100000000 : Nat) ∧
 byteCells (List.map byteD (byteCells x.snd.snd)) = byteCells x.snd.snd) ∧
 ∀ (x_1 : List UInt8),
 x_1 = List.map byteD (byteCells x.snd.snd) →
 K
 (AV.tup
 [AV.sc (Value.string (ByteArray.mk (Array.mk x_1))),
 AV.sc (Value.int IntKind.i64 (0 : Int))]))))) :
 (fun (s : List UInt8) (l : Cells) (K : AV → Prop) => wpCall Y3 Door.cfg Tryd.prog 40 12 [aStr s, .sl l 0] heapF fun r h' => wpBack h' r K) s l K :=
 Eq.mp (by kernel_rfl) h

theorem g12n (s : List UInt8) (K : AV → Prop) (h :
 s.length.le (1000000 : Nat) ∧
 ∀ (x : Int),
 x = checkF (s.length + (1 : Nat)) s →
 iteP (x != (0 : Int))
 (K (AV.tup [AV.sc (Value.string (ByteArray.mk (Array.mk []))), AV.sc (Value.int IntKind.i64 x)]))
 (loopAt Tryd.prog (18 : Nat) (2 : Nat) = loopAt Tryd.prog (18 : Nat) (2 : Nat) ∧
 (IA s (AV.sc (Value.slice none (0 : Nat) (0 : Nat))) = IA s (AV.sc (Value.slice none (0 : Nat) (0 : Nat))) ∧
 RunOk0 s []) ∧
 (∀ (x : Int × Cells × List UInt8),
 x = runS s [] ∧ x.snd.snd = [] →
 iteP (x.fst == (0 : Int))
 (iteP (x.fst != (0 : Int))
 (K
 (AV.tup
 [AV.sc (Value.string (ByteArray.mk (Array.mk []))), AV.sc (Value.int IntKind.i64 x.fst)]))
 (sB (AV.sc (Value.slice none (0 : Nat) (0 : Nat))) =
 sB (AV.sc (Value.slice none (0 : Nat) (0 : Nat))) ∧
 ∀ (x : List UInt8),
 x = [] →
 K
 (AV.tup
 [AV.sc (Value.string (ByteArray.mk (Array.mk x))),
 AV.sc (Value.int IntKind.i64 (0 : Int))])))
 (iteP (x.fst != (0 : Int))
 (K
 (AV.tup
 [AV.sc (Value.string (ByteArray.mk (Array.mk []))), AV.sc (Value.int IntKind.i64 x.fst)]))
 (sB (AV.sc (Value.slice none (0 : Nat) (0 : Nat))) =
 sB (AV.sc (Value.slice none (0 : Nat) (0 : Nat))) ∧
 ∀ (x : List UInt8),
 x = [] →
 K
 (AV.tup
 [AV.sc (Value.string (ByteArray.mk (Array.mk x))),
 AV.sc (Value.int IntKind.i64 (0 : Int))])))) ∧
 ∀ (x : Int × Cells × List UInt8),
 x = runS s [] ∧ x.snd.snd.isEmpty = false →
 iteP (x.fst == (0 : Int))
 (iteP (decide ((16384 : Int) < (↑(List.length (byteCells x.snd.snd)) : Int)))
 (K
 (AV.tup
 [AV.sc (Value.string (ByteArray.mk (Array.mk []))), AV.sc (Value.int IntKind.i64 (3 : Int))]))
 (iteP (x.fst != (0 : Int))
 (K
 (AV.tup
 [AV.sc (Value.string (ByteArray.mk (Array.mk []))), AV.sc (Value.int IntKind.i64 x.fst)]))
 ((sC (AV.sc (Value.slice none (0 : Nat) (0 : Nat))) (byteCells x.snd.snd) x.snd.snd.length =
 sC (AV.sc (Value.slice none (0 : Nat) (0 : Nat))) (byteCells x.snd.snd) x.snd.snd.length ∧
 List.isEmpty (byteCells x.snd.snd) = false ∧
 x.snd.snd.length = List.length (byteCells x.snd.snd) ∧
 List.length (byteCells x.snd.snd) ≤ (100000000 : Nat) ∧
 byteCells (List.map byteD (byteCells x.snd.snd)) = byteCells x.snd.snd) ∧
 ∀ (x_1 : List UInt8),
 x_1 = List.map byteD (byteCells x.snd.snd) →
 K
 (AV.tup
 [AV.sc (Value.string (ByteArray.mk (Array.mk x_1))),
 AV.sc (Value.int IntKind.i64 (0 : Int))]))))
 (iteP (x.fst != (0 : Int))
 (K
 (AV.tup
 [AV.sc (Value.string (ByteArray.mk (Array.mk []))), AV.sc (Value.int IntKind.i64 x.fst)]))
 ((sC (AV.sc (Value.slice none (0 : Nat) (0 : Nat))) (byteCells x.snd.snd) x.snd.snd.length =
 sC (AV.sc (Value.slice none (0 : Nat) (0 : Nat))) (byteCells x.snd.snd) x.snd.snd.length ∧
 List.isEmpty (byteCells x.snd.snd) = false ∧
 x.snd.snd.length = List.length (byteCells x.snd.snd) ∧
 List.length (byteCells x.snd.snd) ≤ (100000000 : Nat) ∧
 byteCells (List.map byteD (byteCells x.snd.snd)) = byteCells x.snd.snd) ∧
 ∀ (x_1 : List UInt8),
 x_1 = List.map byteD (byteCells x.snd.snd) →
 K
 (AV.tup
 [AV.sc (Value.string (ByteArray.mk (Array.mk x_1))),
 AV.sc (Value.int IntKind.i64 (0 : Int))]))))) :
 (fun (s : List UInt8) (K : AV → Prop) => wpCall Y3 Door.cfg Tryd.prog 40 12 [aStr s, nilA] heapF fun r h' => wpBack h' r K) s K :=
 Eq.mp (by kernel_rfl) h

end
end Go.Proofs.Pr

/- Printf: Sprintf in general. -/
namespace Go.Proofs.Pr
open Go Go.Ef
noncomputable section
set_option maxRecDepth 100000

theorem okL18g {T : Tab} (O : TabOk Tryd.prog Door.cfg T) (O2 : TabOk Tryd.prog Door.cfg Y2) : TabOk Tryd.prog Door.cfg (T.addL 18 2 L18g) := by
  refine addL_ok O fun σ s hs hp => ?_
  unfold L18g at hs
  split at hs
  · rename_i u l _ _
    cases Option.some.inj hs
    obtain ⟨h1, h2⟩ := hp
    have := Ev.tidied (C := Door.cfg) (P := Tryd.prog) (b := loopAt Tryd.prog 18 2) (f := 18) (σ := σ) (t := ⟨[0, 1], [4], 0⟩) (τ := IA u.data.toList (.sl l 0)) (by kernel_rfl) (by rw [h1]; exact (can18 u.data.toList (hA (.sl l 0))).symm) (run_start roundsS O2 u.data.toList l h2.hs h2.hg trivial h2.ok)
    obtain ⟨m, ex, τ, g1, rfl, g2 | g2⟩ := this
    · obtain ⟨g2, rfl⟩ := g2
      exact ⟨_, .head _, _, ⟨rfl, g2⟩, m, g1⟩
    · obtain ⟨g2, rfl⟩ := g2
      exact ⟨_, .tail _ (.head _), _, ⟨rfl, g2⟩, m, g1⟩
  · rename_i u _ _
    cases Option.some.inj hs
    obtain ⟨h1, h2⟩ := hp
    have := Ev.tidied (C := Door.cfg) (P := Tryd.prog) (b := loopAt Tryd.prog 18 2) (f := 18) (σ := σ) (t := ⟨[0, 1], [4], 0⟩) (τ := IA u.data.toList nilA) (by kernel_rfl) (by rw [h1]; exact (can18 u.data.toList (hA nilA)).symm) (run_start roundsN O2 u.data.toList [] h2.hs h2.hg rfl h2.ok)
    obtain ⟨m, ex, τ, g1, rfl, g2 | g2⟩ := this
    · obtain ⟨g2, rfl⟩ := g2
      exact ⟨_, .head _, _, ⟨rfl, g2⟩, m, g1⟩
    · obtain ⟨g2, rfl⟩ := g2
      exact ⟨_, .tail _ (.head _), _, ⟨rfl, g2⟩, m, g1⟩
  · cases hs
theorem okY3 (O2 : TabOk Tryd.prog Door.cfg Y2) : TabOk Tryd.prog Door.cfg Y3 := ok27 (okL18g (copy_ok O2 ok8 (g := 8) (t := C8) rfl) O2)

theorem run_bound : ∀ (n : Nat) (s : List UInt8) (l : Cells) (o : List UInt8), s.length < n → runOk n s l → s.length ≤ 10000 → (runF n s l o).2.2.length ≤ o.length + s.length * 2300 := by
  intro n
  induction n with
  | zero => intro s l o h; omega
  | succ n ih =>
    intro s l o h1 h2 h3
    have bl := before_len s
    have hr : runF (n + 1) s l o = if hasPct s then (if (resAt s l).2.1 = 0 then (if (resAt s l).1.kind = 37 then runF n (restAt s) (resAt s l).2.2 (o ++ before s ++ padF (resAt s l).1 [] [37]) else runF n (restAt s) ((resAt s l).2.2.drop 1) (o ++ before s ++ padF (resAt s l).1 (bodyAt (resAt s l)).1 (bodyAt (resAt s l)).2)) else ((resAt s l).2.1, (resAt s l).2.2, o ++ before s)) else (0, l, o ++ s) := rfl
    rw [hr]
    cases hp : hasPct s with
    | false =>
      show (o ++ s).length ≤ _
      rw [List.length_append]; omega
    | true =>
      rw [if_pos rfl]
      have rl := rest_len hp (h2 hp).1
      have hf := readF_le (h2 hp).1
      by_cases h0 : (resAt s l).2.1 = 0
      · rw [if_pos h0]
        obtain ⟨_, _, e3, _, _, _, _⟩ := resolve_k (dirAt s) l h0 hf.1 hf.2.2.1
        by_cases hk : (resAt s l).1.kind = 37
        · rw [if_pos hk]
          have pl := pad_le (resAt s l).1 [] [37] e3
          refine Nat.le_trans (ih _ _ _ (by omega) (((h2 hp).2 h0).1 hk) (by omega)) ?_
          rw [List.length_append, List.length_append]
          simp only [List.length_nil, List.length_cons] at pl
          omega
        · rw [if_neg hk]
          obtain ⟨b1, b2, b3, b4⟩ := ((h2 hp).2 h0).2 hk
          have pl := pad_le (resAt s l).1 (bodyAt (resAt s l)).1 (bodyAt (resAt s l)).2 e3
          refine Nat.le_trans (ih _ _ _ (by omega) b4 (by omega)) ?_
          rw [List.length_append, List.length_append]
          omega
      · rw [if_neg h0]
        show (o ++ before s).length ≤ _
        rw [List.length_append]; omega

theorem cells_empty (x : List UInt8) : List.isEmpty (byteCells x) = x.isEmpty := by cases x <;> rfl

theorem plain_goods {l : Cells} (h : goodsB l = true) : plainEls l = true := by
  refine List.all_eq_true.2 fun e he => ?_
  obtain ⟨k, n, s, rfl, _⟩ := goodC_inv (List.all_eq_true.1 h e he)
  rfl
theorem strip_goods {l : Cells} (h : goodsB l = true) (tok : Nat) : stripA 8 (.sl l tok) = some (.sl l 0) := by
  cases tok with
  | zero => rfl
  | succ t =>
    unfold stripA
    rw [plain_goods h]; rfl
theorem ok12g {T : Tab} (O : TabOk Tryd.prog Door.cfg T) (O2 : TabOk Tryd.prog Door.cfg Y2) : TabOk Tryd.prog Door.cfg (T.addC 12 C12g) := by
  refine addC_ok O fun args h s hs hp => ?_
  have after : ∀ (u : List UInt8) (l : Cells), RunOk u l → checkF (u.length + 1) u = 0 → ∀ (A B : Int × Cells × List UInt8 → Prop) (K : AV → Prop), (∀ x, A x) → (∀ x, B x) → K (.tup [aStr (sprintfF u l).1, aK .i64 (sprintfF u l).2]) →
      (∀ x : Int × Cells × List UInt8, x = runS u l ∧ x.2.2 = [] → iteP (x.1 == 0) (iteP (x.1 != 0) (K (.tup [aStr [], aK .i64 x.1])) (A x ∧ ∀ y : List UInt8, y = [] → K (.tup [aStr y, aK .i64 0]))) (iteP (x.1 != 0) (K (.tup [aStr [], aK .i64 x.1])) (A x ∧ ∀ y : List UInt8, y = [] → K (.tup [aStr y, aK .i64 0])))) ∧
      (∀ x : Int × Cells × List UInt8, x = runS u l ∧ x.2.2.isEmpty = false →
        iteP (x.1 == 0) (iteP (decide ((16384 : Int) < (List.length (byteCells x.2.2) : Int))) (K (.tup [aStr [], aK .i64 3])) (iteP (x.1 != 0) (K (.tup [aStr [], aK .i64 x.1])) ((B x ∧ List.isEmpty (byteCells x.2.2) = false ∧ x.2.2.length = List.length (byteCells x.2.2) ∧ List.length (byteCells x.2.2) ≤ 100000000 ∧ byteCells (List.map byteD (byteCells x.2.2)) = byteCells x.2.2) ∧ ∀ y : List UInt8, y = List.map byteD (byteCells x.2.2) → K (.tup [aStr y, aK .i64 0]))))
          (iteP (x.1 != 0) (K (.tup [aStr [], aK .i64 x.1])) ((B x ∧ List.isEmpty (byteCells x.2.2) = false ∧ x.2.2.length = List.length (byteCells x.2.2) ∧ List.length (byteCells x.2.2) ≤ 100000000 ∧ byteCells (List.map byteD (byteCells x.2.2)) = byteCells x.2.2) ∧ ∀ y : List UInt8, y = List.map byteD (byteCells x.2.2) → K (.tup [aStr y, aK .i64 0])))) := by
    intro u l H hc A B K ha hb hk
    have sp : sprintfF u l = if (runS u l).1 ≠ 0 then ([], (runS u l).1) else if (runS u l).2.2.length > 16384 then ([], 3) else ((runS u l).2.2, 0) := by
      unfold sprintfF; rw [if_neg (by simpa using hc)]
    have rb := run_bound (u.length + 1) u l [] (Nat.lt_succ_self _) (H.ok hc) H.hs
    have hu := H.hs
    replace rb : (runS u l).2.2.length ≤ 0 + u.length * 2300 := rb
    refine ⟨fun x hx => ?_, fun x hx => ?_⟩
    · obtain ⟨rfl, he⟩ := hx
      by_cases h0 : (runS u l).1 = 0
      · rw [if_neg (by simpa using h0), if_neg (by rw [he]; decide), he] at sp
        rw [show ((runS u l).1 == 0) = true by simpa using h0, iteP_t, show ((runS u l).1 != 0) = false by rw [h0]; rfl, iteP_f]
        refine ⟨ha _, fun y hy => ?_⟩
        subst hy
        rw [sp] at hk; exact hk
      · rw [if_pos h0] at sp
        rw [show ((runS u l).1 == 0) = false by simpa using h0, iteP_f, show ((runS u l).1 != 0) = true by simpa using h0, iteP_t]
        rw [sp] at hk; exact hk
    · obtain ⟨rfl, he⟩ := hx
      by_cases h0 : (runS u l).1 = 0
      · rw [if_neg (by simpa using h0)] at sp
        rw [show ((runS u l).1 == 0) = true by simpa using h0, iteP_t, cells_len]
        by_cases h1 : (16384 : Int) < ((runS u l).2.2.length : Int)
        · rw [if_pos (by omega)] at sp
          rw [decide_eq_true h1, iteP_t]
          rw [sp] at hk; exact hk
        · rw [if_neg (by omega)] at sp
          rw [decide_eq_false h1, iteP_f, show ((runS u l).1 != 0) = false by rw [h0]; rfl, iteP_f]
          refine ⟨⟨hb _, by rw [cells_empty]; exact he, rfl, by omega, by rw [byteD_cells]⟩, fun y hy => ?_⟩
          rw [byteD_cells] at hy
          subst hy
          rw [sp] at hk; exact hk
      · rw [if_pos h0] at sp
        rw [show ((runS u l).1 == 0) = false by simpa using h0, iteP_f, show ((runS u l).1 != 0) = true by simpa using h0, iteP_t]
        rw [sp] at hk; exact hk
  unfold C12g at hs
  split at hs
  · rename_i s0 l tok
    obtain ⟨⟨u⟩⟩ := s0
    refine nspec_ok (Option.some.inj hs) (fun hpre => ?_) hp
    replace hpre : RunOk u l := hpre
    refine EvP.freshV (okY3 O2) (n := 40) (by kernel_rfl) (by kernel_rfl) (args' := [aStr u, .sl l 0]) (by
      show consO (some (aStr u)) (consO (stripA 8 (.sl l tok)) (some [])) = _
      rw [strip_goods hpre.hg]; rfl) (g12 u l _ ?_)
    have hu := hpre.hs
    refine ⟨show u.length ≤ 1000000 by omega, fun x hx => ?_⟩
    subst hx
    by_cases hc : checkF (u.length + 1) u = 0
    · rw [show (checkF (u.length + 1) u != 0) = false by rw [hc]; rfl, iteP_f]
      exact ⟨rfl, ⟨rfl, ⟨hpre.hs, hpre.hg, hpre.ok hc⟩⟩, after u l hpre hc (fun x => sB (.sl x.2.1 0) = sB (.sl x.2.1 0)) (fun x => sC (.sl x.2.1 0) (byteCells x.2.2) x.2.2.length = sC (.sl x.2.1 0) (byteCells x.2.2) x.2.2.length) (fun y => y = .tup [aStr (sprintfF u l).1, aK .i64 (sprintfF u l).2]) (fun _ => rfl) (fun _ => rfl) rfl⟩
    · rw [show (checkF (u.length + 1) u != 0) = true by simpa using hc, iteP_t]
      show _ = AV.tup [aStr (sprintfF u l).1, aK .i64 (sprintfF u l).2]
      unfold sprintfF; rw [if_pos hc]; rfl
  · rename_i s0
    obtain ⟨⟨u⟩⟩ := s0
    refine nspec_ok (Option.some.inj hs) (fun hpre => ?_) hp
    replace hpre : RunOk u [] := hpre
    refine EvP.freshV (okY3 O2) (n := 40) (by kernel_rfl) (by kernel_rfl) (args' := [aStr u, nilA]) rfl (g12n u _ ?_)
    have hu := hpre.hs
    refine ⟨show u.length ≤ 1000000 by omega, fun x hx => ?_⟩
    subst hx
    by_cases hc : checkF (u.length + 1) u = 0
    · rw [show (checkF (u.length + 1) u != 0) = false by rw [hc]; rfl, iteP_f]
      exact ⟨rfl, ⟨rfl, ⟨hpre.hs, hpre.hg, hpre.ok hc⟩⟩, after u [] hpre hc (fun _ => sB nilA = sB nilA) (fun x => sC nilA (byteCells x.2.2) x.2.2.length = sC nilA (byteCells x.2.2) x.2.2.length) (fun y => y = .tup [aStr (sprintfF u []).1, aK .i64 (sprintfF u []).2]) (fun _ => rfl) (fun _ => rfl) rfl⟩
    · rw [show (checkF (u.length + 1) u != 0) = true by simpa using hc, iteP_t]
      show _ = AV.tup [aStr (sprintfF u []).1, aK .i64 (sprintfF u []).2]
      unfold sprintfF; rw [if_pos hc]; rfl
  · cases hs
end
end Go.Proofs.Pr

/- Printf: the text of a value, the body of a string: tables. -/
namespace Go.Proofs.Pr
open Go Go.Ef
noncomputable section

/- not asked for yet: numbers as text -/
def textOk (k : Int) : Bool := k != 1
def C53 (args : List AV) (h : Heap) : Option CSpec :=
  match args with
  | [.sc (.int .i64 d)] => some (nspec False (decF d) (fun x => aStr x) h)
  | _ => none
def C39 (args : List AV) (h : Heap) : Option CSpec :=
  match args with
  | [.agg [.sc (.int .i64 k), .sc (.int .i64 n), .sc (.string s)]] => some (nspec (textOk k = true) (textF k n s.data.toList) (fun x => aStr x) h)
  | _ => none
def M1 : Tab := Q1.addC 36 C36n
def M2 : Tab := M1.addC 39 C39
def C53n : Tab := M1.addC 53 C53
end
end Go.Proofs.Pr

/- Printf: conditions of the body of a string, printed by a program from the evaluation. -/
namespace Go.Proofs.Pr
open Go Go.Ef
noncomputable section
set_option maxRecDepth 100000

theorem s39 (k : Int) (n : Int) (s : List UInt8) (K : AV → Prop) (h :
 iteP (k == (1 : Int))
 (False ∧
 ∀ (x : List UInt8),
 x = decF (min (max n (-10000000000000 : Int)) (10000000000000 : Int)) →
 K (AV.sc (Value.string (ByteArray.mk (Array.mk x)))))
 (iteP (k == (2 : Int)) (K (AV.sc (Value.string (ByteArray.mk (Array.mk s)))))
 (iteP (k == (3 : Int)) (K (AV.sc (Value.string (ByteArray.mk (Array.mk s)))))
 (K (AV.sc (Value.string (ByteArray.mk (Array.mk [])))))))) :
 (fun (k n : Int) (s : List UInt8) (K : AV → Prop) => wpCall C53n Door.cfg Tryd.prog 40 39 [.agg [aK .i64 k, aK .i64 n, aStr s]] heapF fun r h' => wpBack h' r K) k n s K :=
 Eq.mp (by kernel_rfl) h

theorem s24 (a : Bool) (b : Bool) (c : Bool) (e : Bool) (w : Int) (p : Int) (k : Int) (n : Int) (s : List UInt8) (K : AV → Prop) (h :
 s.length.le (1000000 : Nat) ∧
 ∀ (x : Int),
 x = numberF k n s →
 textOk k = true ∧
 ∀ (x : List UInt8),
 x = textF k n s →
 iteP (p != (-1 : Int))
 (iteP
 (decide ((0 : Int) ≤ min p (↑x.length : Int)) && decide (min p (↑x.length : Int) ≤ (↑x.length : Int)))
 (K
 (AV.tup
 [AV.sc (Value.string (ByteArray.mk (Array.mk []))),
 AV.sc (Value.string (ByteArray.mk (Array.mk (List.take (min p (↑x.length : Int)).toNat x))))]))
 False)
 (K
 (AV.tup
 [AV.sc (Value.string (ByteArray.mk (Array.mk []))),
 AV.sc (Value.string (ByteArray.mk (Array.mk x)))]))) :
 (fun (a b c e : Bool) (w p k n : Int) (s : List UInt8) (K : AV → Prop) => wpCall M2 Door.cfg Tryd.prog 40 24 [.agg [aBool a, aBool b, aBool c, aBool e, aK .i64 w, aK .i64 p, aK .u8 115], .agg [aK .i64 k, aK .i64 n, aStr s]] heapF fun r h' => wpBack h' r K) a b c e w p k n s K :=
 Eq.mp (by kernel_rfl) h

end
end Go.Proofs.Pr

/- Printf: the body of a string. -/
namespace Go.Proofs.Pr
open Go Go.Ef
noncomputable section
set_option maxRecDepth 100000

theorem never_ok {T : Tab} (O : TabOk Tryd.prog Door.cfg T) (g : FuncId) : TabOk Tryd.prog Door.cfg (T.addC g C36n) := by
  refine addC_ok O fun args h s hs hp => ?_
  unfold C36n at hs
  cases hs
  exact hp.elim
theorem okM1 : TabOk Tryd.prog Door.cfg M1 := never_ok okQ1 36
theorem okC53n : TabOk Tryd.prog Door.cfg C53n := by
  refine addC_ok okM1 fun args h s hs hp => ?_
  unfold C53 at hs
  split at hs
  · exact nspec_ok (Option.some.inj hs) (fun hpre => hpre.elim) hp
  · cases hs
theorem ok39 {T : Tab} (O : TabOk Tryd.prog Door.cfg T) : TabOk Tryd.prog Door.cfg (T.addC 39 C39) := by
  refine addC_ok O fun args h s hs hp => ?_
  unfold C39 at hs
  split at hs
  · rename_i k n s0
    obtain ⟨⟨u⟩⟩ := s0
    refine nspec_ok (Option.some.inj hs) (fun hpre => ?_) hp
    have h1 : ¬ k = 1 := by unfold textOk at hpre; simpa using hpre
    refine EvP.freshV okC53n (n := 40) (by kernel_rfl) (by kernel_rfl) (args' := [.agg [aK .i64 k, aK .i64 n, aStr u]]) rfl (s39 k n u _ ?_)
    rw [show (k == 1) = false by simpa using h1, iteP_f]
    have ht : textF k n u = if k = 2 ∨ k = 3 then u else [] := by unfold textF; rw [if_neg h1]
    by_cases h2 : k = 2
    · rw [show (k == 2) = true by simpa using h2, iteP_t]
      show _ = aStr (textF k n u); rw [ht, if_pos (.inl h2)]; rfl
    · rw [show (k == 2) = false by simpa using h2, iteP_f]
      by_cases h3 : k = 3
      · rw [show (k == 3) = true by simpa using h3, iteP_t]
        show _ = aStr (textF k n u); rw [ht, if_pos (.inr h3)]; rfl
      · rw [show (k == 3) = false by simpa using h3, iteP_f]
        show _ = aStr (textF k n u); rw [ht, if_neg (by omega)]; rfl
  · cases hs
theorem ok24 {T : Tab} (O : TabOk Tryd.prog Door.cfg T) : TabOk Tryd.prog Door.cfg (T.addC 24 C24) := by
  refine addC_ok O fun args h s hs hp => ?_
  unfold C24 at hs
  split at hs
  · rename_i a b c e w p kd k n s0
    obtain ⟨⟨u⟩⟩ := s0
    refine nspec_ok (Option.some.inj hs) (fun hpre => ?_) hp
    obtain ⟨h1, h2⟩ := hpre
    replace h2 : u.length ≤ 1000000 := h2
    unfold bodyOk at h1
    simp only [Bool.and_eq_true, beq_iff_eq, bne_iff_ne, ne_eq, decide_eq_true_eq] at h1
    obtain ⟨⟨h3, h4⟩, h5⟩ := h1
    replace h5 : -1 ≤ p := h5
    subst h3
    refine EvP.freshV (ok39 okM1) (n := 40) (by kernel_rfl) (by kernel_rfl) (args' := [.agg [aBool a, aBool b, aBool c, aBool e, aK .i64 w, aK .i64 p, aK .u8 115], .agg [aK .i64 k, aK .i64 n, aStr u]]) rfl (s24 a b c e w p k n u _ ?_)
    refine ⟨h2, fun x _ => ⟨by unfold textOk; simpa using h4, fun x hx => ?_⟩⟩
    have hb : bodyF ⟨a, b, c, e, w, p, 115⟩ k n u = ([], if p = -1 then textF k n u else (textF k n u).take p.toNat) := rfl
    show iteP (p != -1) (iteP _ (_ = AV.tup [aStr (bodyF ⟨a, b, c, e, w, p, 115⟩ k n u).1, aStr (bodyF ⟨a, b, c, e, w, p, 115⟩ k n u).2]) False) (_ = AV.tup [aStr (bodyF ⟨a, b, c, e, w, p, 115⟩ k n u).1, aStr (bodyF ⟨a, b, c, e, w, p, 115⟩ k n u).2])
    rw [hb]
    subst hx
    by_cases hp1 : p = -1
    · rw [show (p != -1) = false by simpa using hp1, iteP_f, if_pos hp1]; rfl
    · rw [show (p != -1) = true by simpa using hp1, iteP_t, if_neg hp1, show (decide ((0 : Int) ≤ min p ((textF k n u).length : Int)) && decide (min p ((textF k n u).length : Int) ≤ ((textF k n u).length : Int))) = true by simp; omega, iteP_t]
      have : (textF k n u).take (min p ((textF k n u).length : Int)).toNat = (textF k n u).take p.toNat := by
        rcases Int.le_total p ((textF k n u).length : Int) with h | h
        · rw [Int.min_eq_left h]
        · rw [Int.min_eq_right h, Int.toNat_natCast, List.take_of_length_le (Nat.le_refl _), List.take_of_length_le (by omega)]
      rw [this]; rfl
  · cases hs
theorem okY2s : TabOk Tryd.prog Door.cfg Y2 := okY2 ok24
end
end Go.Proofs.Pr

