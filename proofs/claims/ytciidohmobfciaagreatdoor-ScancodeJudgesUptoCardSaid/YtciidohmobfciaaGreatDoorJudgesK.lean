/- A part of the proof: definitions and lemmas. -/
import Derived.Test.YtciidohmobfciaaGreatDoorJudgesA
import Derived.Test.YtciidohmobfciaaGreatDoorJudgesB
import Derived.Test.YtciidohmobfciaaGreatDoorJudgesC
import Derived.Test.YtciidohmobfciaaGreatDoorJudgesD
import Derived.Test.YtciidohmobfciaaGreatDoorJudgesE
import Derived.Test.YtciidohmobfciaaGreatDoorJudgesF
import Derived.Test.YtciidohmobfciaaGreatDoorJudgesG
import Derived.Test.YtciidohmobfciaaGreatDoorJudgesH
import Derived.Test.YtciidohmobfciaaGreatDoorJudgesI
import Derived.Test.YtciidohmobfciaaGreatDoorJudgesJ
namespace Go.Proofs.Sp.Sj
open Go Go.Ef Go.Proofs.Pt
noncomputable section
set_option maxRecDepth 100000
theorem r6 (M : Int) (si : Cells) (sf : Cells) (b : Int) (e : Int) (n : Int) (r : Int) (i : Int) (g : Heap) (Nx : Int → Heap → Prop) (X : Heap → Prop) (R : Heap → Prop) (h :
 iteP (decide (i < (↑(List.length sf) : Int)))
 (iteP (inRange i (List.length sf))
 (getI i.toNat sf =
 some
 [AV.sc (Value.string (ByteArray.mk (Array.mk (cellStr sf i (0 : Nat))))),
 AV.sc (Value.int IntKind.i64 (cellInt sf i (1 : Nat))), AV.sl (cellSl sf i (2 : Nat)) (0 : Nat),
 AV.sl (cellSl sf i (3 : Nat)) (0 : Nat)] ∧
 iteP
 (okIn
 (boxIn g (36 : Nat)
 [AV.sc (Value.string (ByteArray.mk (Array.mk []))), AV.sc (Value.int IntKind.i64 (0 : Int)),
 AV.sc (Value.slice none (0 : Nat) (0 : Nat)), AV.sc (Value.slice none (0 : Nat) (0 : Nat))])
 g.next (0 : Nat)
 [AV.sc (Value.string (ByteArray.mk (Array.mk (cellStr sf i (0 : Nat))))),
 AV.sc (Value.int IntKind.i64 (cellInt sf i (1 : Nat))), AV.sl (cellSl sf i (2 : Nat)) (0 : Nat),
 AV.sl (cellSl sf i (3 : Nat)) (0 : Nat)].length)
 (iteP
 (kdsIn
 (storeIn
 (boxIn g (36 : Nat)
 [AV.sc (Value.string (ByteArray.mk (Array.mk []))), AV.sc (Value.int IntKind.i64 (0 : Int)),
 AV.sc (Value.slice none (0 : Nat) (0 : Nat)), AV.sc (Value.slice none (0 : Nat) (0 : Nat))])
 g.next (0 : Nat)
 [AV.sc (Value.string (ByteArray.mk (Array.mk (cellStr sf i (0 : Nat))))),
 AV.sc (Value.int IntKind.i64 (cellInt sf i (1 : Nat))), AV.sl (cellSl sf i (2 : Nat)) (0 : Nat),
 AV.sl (cellSl sf i (3 : Nat)) (0 : Nat)])
 g.next (1 : Nat) [Kd.int IntKind.i64])
 ((Entry si sf r
 (intIn
 (storeIn
 (boxIn g (36 : Nat)
 [AV.sc (Value.string (ByteArray.mk (Array.mk []))), AV.sc (Value.int IntKind.i64 (0 : Int)),
 AV.sc (Value.slice none (0 : Nat) (0 : Nat)), AV.sc (Value.slice none (0 : Nat) (0 : Nat))])
 g.next (0 : Nat)
 [AV.sc (Value.string (ByteArray.mk (Array.mk (cellStr sf i (0 : Nat))))),
 AV.sc (Value.int IntKind.i64 (cellInt sf i (1 : Nat))), AV.sl (cellSl sf i (2 : Nat)) (0 : Nat),
 AV.sl (cellSl sf i (3 : Nat)) (0 : Nat)])
 g.next (1 : Nat)) ∧
 FunHere
 (storeIn
 (boxIn g (36 : Nat)
 [AV.sc (Value.string (ByteArray.mk (Array.mk []))), AV.sc (Value.int IntKind.i64 (0 : Int)),
 AV.sc (Value.slice none (0 : Nat) (0 : Nat)), AV.sc (Value.slice none (0 : Nat) (0 : Nat))])
 g.next (0 : Nat)
 [AV.sc (Value.string (ByteArray.mk (Array.mk (cellStr sf i (0 : Nat))))),
 AV.sc (Value.int IntKind.i64 (cellInt sf i (1 : Nat))), AV.sl (cellSl sf i (2 : Nat)) (0 : Nat),
 AV.sl (cellSl sf i (3 : Nat)) (0 : Nat)])
 g.next) ∧
 ∀ (x : Bool),
 RIff si sf
 (some
 (elsIn
 (storeIn
 (boxIn g (36 : Nat)
 [AV.sc (Value.string (ByteArray.mk (Array.mk []))), AV.sc (Value.int IntKind.i64 (0 : Int)),
 AV.sc (Value.slice none (0 : Nat) (0 : Nat)),
 AV.sc (Value.slice none (0 : Nat) (0 : Nat))])
 g.next (0 : Nat)
 [AV.sc (Value.string (ByteArray.mk (Array.mk (cellStr sf i (0 : Nat))))),
 AV.sc (Value.int IntKind.i64 (cellInt sf i (1 : Nat))),
 AV.sl (cellSl sf i (2 : Nat)) (0 : Nat), AV.sl (cellSl sf i (3 : Nat)) (0 : Nat)])
 g.next (2 : Nat),
 elsIn
 (storeIn
 (boxIn g (36 : Nat)
 [AV.sc (Value.string (ByteArray.mk (Array.mk []))), AV.sc (Value.int IntKind.i64 (0 : Int)),
 AV.sc (Value.slice none (0 : Nat) (0 : Nat)),
 AV.sc (Value.slice none (0 : Nat) (0 : Nat))])
 g.next (0 : Nat)
 [AV.sc (Value.string (ByteArray.mk (Array.mk (cellStr sf i (0 : Nat))))),
 AV.sc (Value.int IntKind.i64 (cellInt sf i (1 : Nat))),
 AV.sl (cellSl sf i (2 : Nat)) (0 : Nat), AV.sl (cellSl sf i (3 : Nat)) (0 : Nat)])
 g.next (3 : Nat)))
 (intIn
 (storeIn
 (boxIn g (36 : Nat)
 [AV.sc (Value.string (ByteArray.mk (Array.mk []))), AV.sc (Value.int IntKind.i64 (0 : Int)),
 AV.sc (Value.slice none (0 : Nat) (0 : Nat)), AV.sc (Value.slice none (0 : Nat) (0 : Nat))])
 g.next (0 : Nat)
 [AV.sc (Value.string (ByteArray.mk (Array.mk (cellStr sf i (0 : Nat))))),
 AV.sc (Value.int IntKind.i64 (cellInt sf i (1 : Nat))), AV.sl (cellSl sf i (2 : Nat)) (0 : Nat),
 AV.sl (cellSl sf i (3 : Nat)) (0 : Nat)])
 g.next (1 : Nat))
 x →
 iteP x
 (I6 si sf b e n r (IntKind.i64.wrap (i + (1 : Int)))
 (storeIn
 (boxIn g (36 : Nat)
 [AV.sc (Value.string (ByteArray.mk (Array.mk []))), AV.sc (Value.int IntKind.i64 (0 : Int)),
 AV.sc (Value.slice none (0 : Nat) (0 : Nat)),
 AV.sc (Value.slice none (0 : Nat) (0 : Nat))])
 g.next (0 : Nat)
 [AV.sc (Value.string (ByteArray.mk (Array.mk (cellStr sf i (0 : Nat))))),
 AV.sc (Value.int IntKind.i64 (cellInt sf i (1 : Nat))),
 AV.sl (cellSl sf i (2 : Nat)) (0 : Nat), AV.sl (cellSl sf i (3 : Nat)) (0 : Nat)]) =
 I6 si sf b e n r (IntKind.i64.wrap (i + (1 : Int)))
 (storeIn
 (boxIn g (36 : Nat)
 [AV.sc (Value.string (ByteArray.mk (Array.mk []))), AV.sc (Value.int IntKind.i64 (0 : Int)),
 AV.sc (Value.slice none (0 : Nat) (0 : Nat)),
 AV.sc (Value.slice none (0 : Nat) (0 : Nat))])
 g.next (0 : Nat)
 [AV.sc (Value.string (ByteArray.mk (Array.mk (cellStr sf i (0 : Nat))))),
 AV.sc (Value.int IntKind.i64 (cellInt sf i (1 : Nat))),
 AV.sl (cellSl sf i (2 : Nat)) (0 : Nat), AV.sl (cellSl sf i (3 : Nat)) (0 : Nat)]) ∧
 Nx (IntKind.i64.wrap (i + (1 : Int)))
 (storeIn
 (boxIn g (36 : Nat)
 [AV.sc (Value.string (ByteArray.mk (Array.mk []))), AV.sc (Value.int IntKind.i64 (0 : Int)),
 AV.sc (Value.slice none (0 : Nat) (0 : Nat)), AV.sc (Value.slice none (0 : Nat) (0 : Nat))])
 g.next (0 : Nat)
 [AV.sc (Value.string (ByteArray.mk (Array.mk (cellStr sf i (0 : Nat))))),
 AV.sc (Value.int IntKind.i64 (cellInt sf i (1 : Nat))),
 AV.sl (cellSl sf i (2 : Nat)) (0 : Nat), AV.sl (cellSl sf i (3 : Nat)) (0 : Nat)]))
 (E6 (Slot.v (AV.sc (Value.bool false))) si sf b e n r
 (storeIn
 (boxIn g (36 : Nat)
 [AV.sc (Value.string (ByteArray.mk (Array.mk []))), AV.sc (Value.int IntKind.i64 (0 : Int)),
 AV.sc (Value.slice none (0 : Nat) (0 : Nat)),
 AV.sc (Value.slice none (0 : Nat) (0 : Nat))])
 g.next (0 : Nat)
 [AV.sc (Value.string (ByteArray.mk (Array.mk (cellStr sf i (0 : Nat))))),
 AV.sc (Value.int IntKind.i64 (cellInt sf i (1 : Nat))),
 AV.sl (cellSl sf i (2 : Nat)) (0 : Nat), AV.sl (cellSl sf i (3 : Nat)) (0 : Nat)]) =
 E6 (Slot.v (AV.sc (Value.bool false))) si sf b e n r
 (storeIn
 (boxIn g (36 : Nat)
 [AV.sc (Value.string (ByteArray.mk (Array.mk []))), AV.sc (Value.int IntKind.i64 (0 : Int)),
 AV.sc (Value.slice none (0 : Nat) (0 : Nat)),
 AV.sc (Value.slice none (0 : Nat) (0 : Nat))])
 g.next (0 : Nat)
 [AV.sc (Value.string (ByteArray.mk (Array.mk (cellStr sf i (0 : Nat))))),
 AV.sc (Value.int IntKind.i64 (cellInt sf i (1 : Nat))),
 AV.sl (cellSl sf i (2 : Nat)) (0 : Nat), AV.sl (cellSl sf i (3 : Nat)) (0 : Nat)]) ∧
 R
 (storeIn
 (boxIn g (36 : Nat)
 [AV.sc (Value.string (ByteArray.mk (Array.mk []))), AV.sc (Value.int IntKind.i64 (0 : Int)),
 AV.sc (Value.slice none (0 : Nat) (0 : Nat)), AV.sc (Value.slice none (0 : Nat) (0 : Nat))])
 g.next (0 : Nat)
 [AV.sc (Value.string (ByteArray.mk (Array.mk (cellStr sf i (0 : Nat))))),
 AV.sc (Value.int IntKind.i64 (cellInt sf i (1 : Nat))),
 AV.sl (cellSl sf i (2 : Nat)) (0 : Nat), AV.sl (cellSl sf i (3 : Nat)) (0 : Nat)])))
 False)
 False)
 False)
 (Ex.exit (0 : Nat) = Ex.exit (0 : Nat) ∧ E6 Slot.unk si sf b e n r g = E6 Slot.unk si sf b e n r g ∧ X g)) :
 (fun (M : Int) (si sf : Cells) (b e n r i : Int) (g : Heap) (Nx : Int → Heap → Prop) (X R : Heap → Prop) => wpRound T6r (cfgJ M) Tryz.prog 100 6 5 (I6 si sf b e n r i g) (fun τ => τ = I6 si sf b e n r (slI τ 3) τ.h ∧ Nx (slI τ 3) τ.h) (q6 si sf b e n r X R)) M si sf b e n r i g Nx X R :=
 Eq.mp (by kernel_rfl) h
theorem v6 (M : Int) (si : Cells) (sf : Cells) (b : Int) (e : Int) (n : Int) (r : Int) (K : AV → Prop) (h :
 CodeIn si sf ∧
 ∀ (x : Bool),
 Iff' x (Shaped si sf b e n r) →
 iteP x
 (Entry si sf r b ∧
 ∀ (x : Bool),
 RIff si sf none b x →
 iteP x
 (Entry si sf r e ∧
 ∀ (x : Bool),
 RIff si sf none e x →
 iteP x
 (Entry si sf r n ∧
 ∀ (x : Bool),
 RIff si sf none n x →
 iteP x
 (loopAt Tryz.prog (6 : Nat) (5 : Nat) = loopAt Tryz.prog (6 : Nat) (5 : Nat) ∧
 (I6 si sf b e n r (0 : Int) (Heap.mk (1 : Nat) Tr.leaf (1 : Nat) Tr.leaf) =
 I6 si sf b e n r (0 : Int) (Heap.mk (1 : Nat) Tr.leaf (1 : Nat) Tr.leaf) ∧
 P6 si sf b e n r (0 : Int) (Heap.mk (1 : Nat) Tr.leaf (1 : Nat) Tr.leaf)) ∧
 (∀ (_ : Heap), Yes (WfOk si sf) → K (AV.sc (Value.bool true))) ∧
 ∀ (_ : Heap), Yes ¬WfOk si sf → K (AV.sc (Value.bool false)))
 (K (AV.sc (Value.bool false))))
 (K (AV.sc (Value.bool false))))
 (K (AV.sc (Value.bool false))))
 (K (AV.sc (Value.bool false)))) :
 (fun (M : Int) (si sf : Cells) (b e n r : Int) (K : AV → Prop) => wpCall T6 (cfgJ M) Tryz.prog 100 6 [codeA si sf b e n r] heapF fun r h' => wpBack h' r K) M si sf b e n r K :=
 Eq.mp (by kernel_rfl) h
theorem v3 (M : Int) (si : Cells) (sf : Cells) (b : Int) (e : Int) (n : Int) (r : Int) (K : AV → Prop) (h :
 CodeIn si sf ∧
 ∀ (x : Bool),
 Iff' x (Good si sf b e n r) →
 iteP x
 (CodeIn si sf ∧
 ∀ (x : Bool),
 Iff' x (Good si sf b e n r) →
 iteP x (True ∧ ∀ (_ : Unit), True → K (AV.sc (Value.bool true))) (K (AV.sc (Value.bool false))))
 (CodeIn si sf ∧
 ∀ (x : Bool),
 Iff' x (Good si sf b e n r) →
 iteP x (K (AV.sc (Value.bool false))) (True ∧ ∀ (_ : Unit), True → K (AV.sc (Value.bool true))))) :
 (fun (M : Int) (si sf : Cells) (b e n r : Int) (K : AV → Prop) => wpCall T3 (cfgJ M) Tryz.prog 80 3 [codeA si sf b e n r] heap0 fun r _ => K r) M si sf b e n r K :=
 Eq.mp (by kernel_rfl) h
end
end Go.Proofs.Sp.Sj
namespace Go.Proofs.Sp.Sj
open Go Go.Ef Go.RowKit Go.Proofs.Pt
noncomputable section
set_option maxRecDepth 100000
variable {M : Int}
theorem okz6 : OkJ M T6r := ⟨(j14 (toJ (ok13 ok0))).call, (j14 (toJ (ok13 ok0))).loop⟩
theorem Shaped.codes {si sf : Cells} {b e n r : Int} (h : Shaped si sf b e n r) (hc : CodeIn si sf) : Codes si sf r := by
 obtain ⟨h1, h2⟩ := wB_spec h.nl
 exact hc.codes (by omega) h.rl ⟨fun k hk => (h.fs.is k hk).2⟩ h.is
theorem over_all {cs vs : List AV} (h : cs.length = vs.length) : overC cs 0 vs = vs := by
 unfold overC
 rw [List.take_zero, List.nil_append, Nat.zero_add, List.drop_eq_nil_of_le (by omega), List.append_nil]
theorem loop6 {si sf : Cells} {b e n r : Int} (hc : CodeIn si sf) (hs : Shaped si sf b e n r) : ∀ (f i : Nat) (g : Heap), g.ro ≤ g.next → sf.length - i = f → i ≤ sf.length → (∀ k : Nat, k < i → ReachF si sf (fiOf sf k) (cellInt sf k 1)) →
  Ev (cfgJ M) Tryz.prog 6 (.loop (loopAt Tryz.prog 6 5)) (I6 si sf b e n r i g) fun ex τ => (ex = .exit 0 ∧ (∃ g', τ = E6 .unk si sf b e n r g') ∧ WfOk si sf) ∨ (ex = .ret ∧ (∃ g', τ = E6 (sBool false) si sf b e n r g') ∧ ¬WfOk si sf) := by
 intro f
 have hlen := hc.len
 have hcodes := hs.codes hc
 have ends : ∀ (X : Prop) ex τ, (X → WfOk si sf) → q6 si sf b e n r (fun _ => X) (fun _ => ¬WfOk si sf) ex τ → (ex = .exit 0 ∧ (∃ g', τ = E6 .unk si sf b e n r g') ∧ WfOk si sf) ∨ (ex = .ret ∧ (∃ g', τ = E6 (sBool false) si sf b e n r g') ∧ ¬WfOk si sf) := by
  intro X ex τ hX h
  unfold q6 at h
  split at h
  ·exact .inl ⟨h.1, ⟨_, h.2.1⟩, hX h.2.2⟩
  ·exact .inr ⟨rfl, ⟨_, h.1⟩, h.2⟩
  ·exact h.elim
 induction f with
 | zero =>
  intro i g _ hf hi ha
  exact Ev.round (t := ⟨[1, 3], [2], 1⟩) okz6 (by kernel_rfl) rfl (by kernel_rfl) (r6 M si sf b e n r i g (fun _ _ => False) (fun _ => WfOk si sf) (fun _ => ¬WfOk si sf) (ie (df (by omega)) ⟨rfl, rfl, ⟨fun k hk => ha k (by omega)⟩⟩)) (fun _ h => h.2.elim) (fun ex τ => ends _ ex τ fun h => h)
 | succ f ih =>
  intro i g hlow hf hi ha
  have hlt : i < sf.length := by omega
  obtain ⟨h1, h2⟩ := hc.fn hlt
  obtain ⟨fd, hr⟩ := funsok_row hcodes.fs (x := (i : Int)) (by omega) (by omega)
  have hcell : [aStr (cellStr sf i 0), iA (cellInt sf i 1), .sl (cellSl sf i 2) 0, .sl (cellSl sf i 3) 0] = cellF fd := by
   rw [hr.nm, hr.en, hr.ps, hr.bs]; rfl
  have lb := live_box hlow 36 [aStr [], iA 0, nilA, nilA]
  have hst : storeIn (boxIn g 36 [aStr [], iA 0, nilA, nilA]) g.next 0 (cellF fd) = putIn (boxIn g 36 [aStr [], iA 0, nilA, nilA]) g.next (.cells (cellF fd)) := by
   rw [store_eq lb, over_all (cs := [aStr [], iA 0, nilA, nilA]) (vs := cellF fd) rfl]
  have lp := live_put lb (.cells (cellF fd))
  rw [← hst] at lp
  have hrest := put_in_rest (o := .cells (cellF fd)) lb
  rw [← hst] at hrest
  have hnew := box_new g 36 [aStr [], iA 0, nilA, nilA]
  have hro : (storeIn (boxIn g 36 [aStr [], iA 0, nilA, nilA]) g.next 0 (cellF fd)).ro ≤ (storeIn (boxIn g 36 [aStr [], iA 0, nilA, nilA]) g.next 0 (cellF fd)).next := by
   rw [hrest.1, hrest.2, hnew.1, hnew.2]; omega
  have hok := ok_in (off := 0) (n := 4) lb (Nat.le_refl _)
  revert lp hro hok
  generalize hg2 : storeIn (boxIn g 36 [aStr [], iA 0, nilA, nilA]) g.next 0 (cellF fd) = g2
  intro lp hro hok
  have c1 : cellIn g2 g.next 1 = some (iA fd.entry) := by rw [lp.cell]; rfl
  have c2 : cellIn g2 g.next 2 = some (.sl (rowS fd.params) 0) := by rw [lp.cell]; rfl
  have c3 : cellIn g2 g.next 3 = some (.sl (rowO fd.arrays) 0) := by rw [lp.cell]; rfl
  have k1 : kdsIn g2 g.next 1 [Kd.int IntKind.i64] = true := by simp only [kdsIn, c1]; rfl
  have k2 : intIn g2 g.next 1 = fd.entry := by unfold intIn; rw [c1]; rfl
  have hfi : (some (elsIn g2 g.next 2, elsIn g2 g.next 3) : Fi) = fiOf sf i := by
   unfold fiOf
   rw [if_pos (by omega), (sl_in c2).2, (sl_in c3).2, hr.ps, hr.bs]
  have hen : cellInt sf i 1 = fd.entry := hr.en
  obtain ⟨e1, e2⟩ := wB_spec (hs.fs.is i hlt).1
  refine Ev.round (t := ⟨[1, 3], [2], 1⟩) okz6 (by kernel_rfl) rfl (by kernel_rfl) (r6 M si sf b e n r i g (fun j g' => j = ((i + 1 : Nat) : Int) ∧ g'.ro ≤ g'.next ∧ ReachF si sf (fiOf sf i) (cellInt sf i 1)) (fun _ => False) (fun _ => ¬WfOk si sf) ?_) (fun τ h => ?_) (fun ex τ => ends _ ex τ fun h => h.elim)
  ·rw [wrap_s (by omega)]
   refine it (dt (by omega)) (it h1 ⟨h2, ?_⟩)
   rw [show [AV.sc (Value.string (ByteArray.mk (Array.mk (cellStr sf i (0 : Nat))))), AV.sc (Value.int IntKind.i64 (cellInt sf i (1 : Nat))), AV.sl (cellSl sf i (2 : Nat)) (0 : Nat), AV.sl (cellSl sf i (3 : Nat)) (0 : Nat)] = cellF fd from hcell]
   rw [show storeIn (boxIn g (36 : Nat) [AV.sc (Value.string (ByteArray.mk (Array.mk []))), AV.sc (Value.int IntKind.i64 (0 : Int)), AV.sc (Value.slice none (0 : Nat) (0 : Nat)), AV.sc (Value.slice none (0 : Nat) (0 : Nat))]) g.next (0 : Nat) (cellF fd) = g2 from hg2]
   refine it hok (it k1 ⟨⟨?_, ⟨fd, lp.get, hr.ok, hr.eq⟩⟩, fun x hx => ?_⟩)
   ·rw [k2]
    exact ⟨hcodes, by omega, by omega⟩
   ·rw [hfi, k2, ← hen] at hx
    refine iti (fun hx1 => ?_) (fun hx0 => ?_)
    ·exact ⟨rfl, rfl, hro, hx.is.1 hx1⟩
    ·refine ⟨rfl, fun k => ?_⟩
     have := hx.is.2 (k.is i hlt)
     rw [hx0] at this
     cases this
  ·obtain ⟨h3, h4, h5, h6⟩ := h
   rw [h3, h4]
   exact ih (i + 1) τ.h h5 (by omega) hlt (all_succ ha h6)
theorem ok6L : OkJ M T6 := by
 refine addL_ok okz6 fun σ s hs hp => ?_
 cases hs
 obtain ⟨e, hP⟩ := hp
 have he := loop6 (M := M) hP.c hP.sh _ 0 σ.h hP.low rfl (by omega) (fun k hk => absurd hk (by omega))
 rw [hP.i0] at e
 have he2 : Ev (cfgJ M) Tryz.prog 6 (.loop (loopAt Tryz.prog 6 5)) σ _ := Ev.tidied (t := ⟨[1, 3], [2], 1⟩) (τ := I6 (lcE σ 0 0) (lcE σ 0 1) (lcI σ 0 2) (lcI σ 0 3) (lcI σ 0 4) (lcI σ 0 5) ((0 : Nat) : Int) σ.h) (by kernel_rfl) (by rw [e]; kernel_rfl) he
 obtain ⟨k, ex, τ, h6, hk⟩ := he2
 rcases hk with ⟨rfl, ⟨g', rfl⟩, h7⟩ | ⟨rfl, ⟨g', rfl⟩, h7⟩
 ·exact ⟨_, List.mem_cons_self .., g', ⟨h7⟩, k, h6⟩
 ·exact ⟨_, List.mem_cons_of_mem _ (List.mem_cons_self ..), g', ⟨h7⟩, k, h6⟩
theorem wp6 {si sf : Cells} {b e n r : Int} {K : AV → Prop} (hc : CodeIn si sf) (hK : ∀ q, Iff' q (Good si sf b e n r) → K (bA q)) : wpCall T6 (cfgJ M) Tryz.prog 100 6 [codeA si sf b e n r] heapF fun r h' => wpBack h' r K := by
 refine v6 M si sf b e n r K ⟨hc, fun x hx => ?_⟩
 have no : ¬Good si sf b e n r → K (AV.sc (Value.bool false)) := fun h => hK false ⟨fun h' => (by cases h'), fun h' => absurd h' h⟩
 refine iti (fun h => ?_) (fun h => no fun g => by have := hx.is.2 g.sh; rw [h] at this; cases this)
 have hs := hx.is.1 h
 have hcodes := hs.codes hc
 have ent : ∀ {x : Int}, wB x 0 ((si.length : Int) - 1) = true → Entry si sf r x := fun h => by
  obtain ⟨h1, h2⟩ := wB_spec h
  exact ⟨hcodes, h1, by omega⟩
 refine ⟨ent hs.bl, fun x1 hx1 => iti (fun h1 => ?_) (fun h1 => no fun g => by have := hx1.is.2 g.w1; rw [h1] at this; cases this)⟩
 refine ⟨ent hs.el, fun x2 hx2 => iti (fun h2 => ?_) (fun h2 => no fun g => by have := hx2.is.2 g.w2; rw [h2] at this; cases this)⟩
 refine ⟨ent hs.dl, fun x3 hx3 => iti (fun h3 => ?_) (fun h3 => no fun g => by have := hx3.is.2 g.w3; rw [h3] at this; cases this)⟩
 refine ⟨rfl, ⟨rfl, ⟨hc, hs, rfl, Nat.le_refl _⟩⟩, fun _ hw => hK true ⟨fun _ => ⟨hs, hx1.is.1 h1, hx2.is.1 h2, hx3.is.1 h3, hw.is.is⟩, fun _ => rfl⟩, fun _ hw => no fun g => hw.is ⟨g.wf⟩⟩
theorem ok6 {T : Tab} (O : OkJ M T) : OkJ M (T.addC 6 C6) := by
 refine addC_ok O fun args h s hs hp => ?_
 unfold C6 C5 at hs
 split at hs
 ·rename_i si sf b e n r
  cases hs
  obtain ⟨m, v, h', e', ⟨q, hq, rfl⟩, rfl⟩ := EvP.freshK (g := 6) (args := [codeA si sf b e n r]) (h := h) (args' := [codeA si sf b e n r]) (Q := fun v => ∃ q, Iff' q (Good si sf b e n r) ∧ v = bA q)
   (ok6L (M := M)) (n := 100) (by kernel_rfl) rfl rfl (wp6 hp fun q hq => ⟨q, hq, rfl⟩)
  exact ⟨_, List.mem_singleton.2 rfl, q, m, hq, e'⟩
 ·cases hs
theorem ok3T : OkJ M T3 := addC_from (ok6 (toJ (ok5 ok0))) (toJ (ok7 ok0))
theorem ev3 {si sf : Cells} {b e n r : Int} (H : CodeIn si sf) : ∃ m h, evCall (cfgJ M) Tryz.prog m 3 [codeA si sf b e n r] heap0 = some (bA true, h) := by
 have K : wpCall T3 (cfgJ M) Tryz.prog 80 3 [codeA si sf b e n r] heap0 fun r _ => r = bA true := by
  refine v3 M si sf b e n r _ ⟨H, fun x hx => ?_⟩
  refine iti (fun h1 => ⟨H, fun y hy => ?_⟩) (fun h1 => ⟨H, fun y hy => ?_⟩)
  ·have : y = true := hy.is.2 (hx.is.1 h1)
   exact it this ⟨trivial, fun _ _ => rfl⟩
  ·have : y = false := by
    cases hyt : y with
    | false => rfl
    | true =>
     have := hx.is.2 (hy.is.1 hyt)
     rw [h1] at this; cases this
   exact ie this ⟨trivial, fun _ _ => rfl⟩
 obtain ⟨m, v, h', e1, rfl⟩ := call_okW ok3T 80 3 [codeA si sf b e n r] heap0 (fun r _ => r = bA true) K
 exact ⟨m, h', e1⟩
theorem law3 {si sf : Cells} {b e n r : Int} (H : CodeIn si sf) {v : Value} {w : World} (hv : V (imm0 w) (codeA si sf b e n r) v) (hg : GlobOk (cfg M) w) : Calls Tryz.prog 3 #[v] w fun e w' => e = .returned (.bool true) ∧ Below w.heap.size w w' := by
 obtain ⟨m, h', e1⟩ := ev3 (M := M) (b := b) (e := e) (n := n) (r := r) H
 refine law_of_ev (fitJ M) m (hg.of_glob rfl rfl) (args := [codeA si sf b e n r]) ⟨rfl, fun i x y hx hy => ?_⟩ e1
 match i with
 | 0 => simp at hx hy; subst hx; subst hy; exact hv
 | i + 1 => simp at hx
end
end Go.Proofs.Sp.Sj
