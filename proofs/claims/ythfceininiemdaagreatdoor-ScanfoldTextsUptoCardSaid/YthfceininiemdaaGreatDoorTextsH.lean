/- A part of the proof: definitions and lemmas. -/
import Derived.Test.YthfceininiemdaaGreatDoorTextsA
import Derived.Test.YthfceininiemdaaGreatDoorTextsB
import Derived.Test.YthfceininiemdaaGreatDoorTextsC
import Derived.Test.YthfceininiemdaaGreatDoorTextsD
import Derived.Test.YthfceininiemdaaGreatDoorTextsE
import Derived.Test.YthfceininiemdaaGreatDoorTextsF
import Derived.Test.YthfceininiemdaaGreatDoorTextsG
namespace Go.Proofs.Sf.Tx
open Go Go.Ef
noncomputable section
set_option maxRecDepth 100000
theorem byteAt_app (p q : List UInt8) (c : UInt8) {n : Int} (h : n = p.length) : byteAt (p ++ c :: q) n = c.toNat := by
 subst h
 unfold byteAt
 rw [Int.toNat_natCast, List.getElem?_append_right (Nat.le_refl _), Nat.sub_self]
 rfl
theorem okB_ne {c : UInt8} (h : okB c = true) : (c.toNat : Int) ≠ 34 ∧ (c.toNat : Int) ≠ 92 ∧ (c.toNat : Int) ≠ 10 := by
 unfold okB at h
 simp only [Bool.and_eq_true, decide_eq_true_eq] at h
 obtain ⟨h1, h2, h3⟩ := h
 refine ⟨fun e => h1 (UInt8.toNat_inj.1 ?_), fun e => h2 (UInt8.toNat_inj.1 ?_), fun e => h3 (UInt8.toNat_inj.1 ?_)⟩
 ·show c.toNat = 34; omega
 ·show c.toNat = 92; omega
 ·show c.toNat = 10; omega
theorem ends_at (p a q : List UInt8) (ha : a.all okB = true) (hl : p.length + a.length + q.length ≤ 4294967000) : EndsAt (p ++ 34 :: (a ++ 34 :: q)) p.length (p.length + a.length + 1) := by
 have e : p ++ 34 :: (a ++ 34 :: q) = (p ++ 34 :: a) ++ 34 :: q := by simp
 refine ⟨by omega, by simp; omega, byteAt_app _ _ _ rfl, ?_, fun j h1 h2 => ?_⟩
 ·rw [e]; exact byteAt_app _ _ _ (by simp; omega)
 ·obtain ⟨i, rfl⟩ : ∃ i : Nat, j = ((p.length + 1 + i : Nat) : Int) := ⟨(j - p.length - 1).toNat, by omega⟩
  have hi : i < a.length := by omega
  have hb : byteAt (p ++ 34 :: (a ++ 34 :: q)) ((p.length + 1 + i : Nat) : Int) = (a[i].toNat : Int) := by
   unfold byteAt
   rw [Int.toNat_natCast, List.getElem?_append_right (by omega), show p.length + 1 + i - p.length = i + 1 by omega, List.getElem?_cons_succ, List.getElem?_append_left hi, List.getElem?_eq_getElem hi]
   rfl
  rw [hb]
  exact okB_ne (List.all_eq_true.1 ha a[i] (List.getElem_mem hi))
theorem cut_mid (p a q : List UInt8) {x y : Int} (hx : x = p.length + 1) (hy : y = p.length + a.length + 1) : cutL (p ++ 34 :: (a ++ 34 :: q)) x y = a := by
 subst hx hy
 unfold cutL
 rw [show ((p.length : Int) + a.length + 1).toNat = (p ++ 34 :: a).length by simp; omega, show p ++ 34 :: (a ++ 34 :: q) = (p ++ 34 :: a) ++ 34 :: q by simp, List.take_left', show ((p.length : Int) + 1).toNat = (p ++ [34]).length by simp, show p ++ 34 :: a = (p ++ [34]) ++ a by simp, List.drop_left']
 all_goals simp
abbrev TokV (row : Int × List UInt8 × Int) (k : Int) : AV := .tup [.agg (tokA row.1 row.2.1 row.2.2), iA k, iA 0, iA 0]
theorem okNo {T : Tab} (O : Ok T) (g : FuncId) : Ok (T.addC g CNo) := addC_ok O fun _ _ _ h p => by cases h; exact p.f.elim
theorem okX : Ok tabX := ⟨fun _ _ _ _ _ ht => (by cases ht), fun _ _ _ _ _ ht => (by cases ht)⟩
theorem okTQ : Ok TQ := okNo (okNo (okNo (okNo (ok185 (ok184 (ok138 (ok137 okX)))) 94) 139) 142) 140
theorem quote_law (p a q : List UInt8) (ha : a.all okB = true) (h100 : a.length ≤ 100) (hl : p.length + a.length + q.length ≤ 4294967000) (k n t : Int) (w : List UInt8) :
  wpCall TQ cfg Tryz.prog 80 97 [aStr (p ++ 34 :: (a ++ 34 :: q)), iA p.length, befA k n t w] heapF fun r h' => wpBack h' r fun v => v = TokV (2, a, p.length) (p.length + a.length + 2) := by
 obtain ⟨s, hs⟩ : ∃ s, s = p ++ 34 :: (a ++ 34 :: q) := ⟨_, rfl⟩
 have hE := ends_at p a q ha hl
 have hC := cut_mid p a q (x := p.length + 1) (y := p.length + a.length + 1) rfl rfl
 rw [← hs] at hE hC ⊢
 obtain ⟨l1, l2⟩ := hE.lo
 obtain ⟨l3, l4⟩ := hE.hi
 have hb := hE.a34
 have hr := inR (s := s) (i := (p.length : Int)) (by omega) (by omega)
 have hw : IntKind.i64.wrap ((p.length : Int) + 1) = (p.length : Int) + 1 := wrap_in (by omega) (by omega)
 have nb : NoBack a := ⟨by
  rw [List.all_eq_true] at ha ⊢
  intro c hc
  have := (okB_ne (ha c hc)).2.1
  simp only [decide_eq_true_eq]
  intro e
  subst e
  exact this rfl, h100⟩
 refine tQuote s p.length k n t w _ (it hr ⟨trivial, fun x hx => ie (by rw [hx, hb]; rfl) (ie (by rw [hb]; rfl) ⟨trivial, fun y hy => ie (by rw [hy, hb]; rfl) (it (by rw [hb]; rfl) ⟨⟨⟨_, hE⟩⟩, fun z hz => ?_⟩)⟩)⟩)
 have hz := ends_eq hz hE
 subst hz
 rw [hw, hC]
 have hw2 : IntKind.i64.wrap ((p.length : Int) + a.length + 1 + 1) = (p.length : Int) + a.length + 2 := by rw [wrap_in (by omega) (by omega)]; omega
 rw [hw2]
 refine ie (df (by omega)) (it hr (ie (by rw [hb]; rfl) (it ?_ ⟨nb, fun _ _ => rfl⟩)))
 simp only [Bool.and_eq_true, decide_eq_true_eq]
 exact ⟨by omega, by omega, by omega⟩
end
end Go.Proofs.Sf.Tx
namespace Go.Proofs.Sf.Tx
open Go Go.Ef
noncomputable section
set_option maxRecDepth 100000
theorem tWord0 (r : List UInt8) (k : Int) (n : Int) (t : Int) (w : List UInt8) (K : AV → Prop) (h :
 iteP
 (inRange (0 : Int)
 ((66 : UInt8) ::
 (69 : UInt8) ::
 (71 : UInt8) ::
 (73 : UInt8) ::
 (78 : UInt8) ::
 (32 : UInt8) ::
 (123 : UInt8) ::
 (32 : UInt8) ::
 (112 : UInt8) ::
 (114 : UInt8) ::
 (105 : UInt8) :: (110 : UInt8) :: (116 : UInt8) :: (32 : UInt8) :: (34 : UInt8) :: r).length)
 (iteP
 (decide
 ((0 : Int) <
 (↑((66 : UInt8) ::
 (69 : UInt8) ::
 (71 : UInt8) ::
 (73 : UInt8) ::
 (78 : UInt8) ::
 (32 : UInt8) ::
 (123 : UInt8) ::
 (32 : UInt8) ::
 (112 : UInt8) ::
 (114 : UInt8) ::
 (105 : UInt8) ::
 (110 : UInt8) :: (116 : UInt8) :: (32 : UInt8) :: (34 : UInt8) :: r).length :
 Int)))
 (iteP
 (inRange (0 : Int)
 ((66 : UInt8) ::
 (69 : UInt8) ::
 (71 : UInt8) ::
 (73 : UInt8) ::
 (78 : UInt8) ::
 (32 : UInt8) ::
 (123 : UInt8) ::
 (32 : UInt8) ::
 (112 : UInt8) ::
 (114 : UInt8) ::
 (105 : UInt8) ::
 (110 : UInt8) :: (116 : UInt8) :: (32 : UInt8) :: (34 : UInt8) :: r).length)
 (iteP
 (decide
 ((1 : Int) <
 (↑((66 : UInt8) ::
 (69 : UInt8) ::
 (71 : UInt8) ::
 (73 : UInt8) ::
 (78 : UInt8) ::
 (32 : UInt8) ::
 (123 : UInt8) ::
 (32 : UInt8) ::
 (112 : UInt8) ::
 (114 : UInt8) ::
 (105 : UInt8) ::
 (110 : UInt8) :: (116 : UInt8) :: (32 : UInt8) :: (34 : UInt8) :: r).length :
 Int)))
 (iteP
 (inRange (1 : Int)
 ((66 : UInt8) ::
 (69 : UInt8) ::
 (71 : UInt8) ::
 (73 : UInt8) ::
 (78 : UInt8) ::
 (32 : UInt8) ::
 (123 : UInt8) ::
 (32 : UInt8) ::
 (112 : UInt8) ::
 (114 : UInt8) ::
 (105 : UInt8) ::
 (110 : UInt8) :: (116 : UInt8) :: (32 : UInt8) :: (34 : UInt8) :: r).length)
 (iteP
 (decide
 ((2 : Int) <
 (↑((66 : UInt8) ::
 (69 : UInt8) ::
 (71 : UInt8) ::
 (73 : UInt8) ::
 (78 : UInt8) ::
 (32 : UInt8) ::
 (123 : UInt8) ::
 (32 : UInt8) ::
 (112 : UInt8) ::
 (114 : UInt8) ::
 (105 : UInt8) ::
 (110 : UInt8) ::
 (116 : UInt8) :: (32 : UInt8) :: (34 : UInt8) :: r).length :
 Int)))
 (iteP
 (inRange (2 : Int)
 ((66 : UInt8) ::
 (69 : UInt8) ::
 (71 : UInt8) ::
 (73 : UInt8) ::
 (78 : UInt8) ::
 (32 : UInt8) ::
 (123 : UInt8) ::
 (32 : UInt8) ::
 (112 : UInt8) ::
 (114 : UInt8) ::
 (105 : UInt8) ::
 (110 : UInt8) :: (116 : UInt8) :: (32 : UInt8) :: (34 : UInt8) :: r).length)
 (iteP
 (decide
 ((3 : Int) <
 (↑((66 : UInt8) ::
 (69 : UInt8) ::
 (71 : UInt8) ::
 (73 : UInt8) ::
 (78 : UInt8) ::
 (32 : UInt8) ::
 (123 : UInt8) ::
 (32 : UInt8) ::
 (112 : UInt8) ::
 (114 : UInt8) ::
 (105 : UInt8) ::
 (110 : UInt8) ::
 (116 : UInt8) :: (32 : UInt8) :: (34 : UInt8) :: r).length :
 Int)))
 (iteP
 (inRange (3 : Int)
 ((66 : UInt8) ::
 (69 : UInt8) ::
 (71 : UInt8) ::
 (73 : UInt8) ::
 (78 : UInt8) ::
 (32 : UInt8) ::
 (123 : UInt8) ::
 (32 : UInt8) ::
 (112 : UInt8) ::
 (114 : UInt8) ::
 (105 : UInt8) ::
 (110 : UInt8) :: (116 : UInt8) :: (32 : UInt8) :: (34 : UInt8) :: r).length)
 (iteP
 (decide
 ((4 : Int) <
 (↑((66 : UInt8) ::
 (69 : UInt8) ::
 (71 : UInt8) ::
 (73 : UInt8) ::
 (78 : UInt8) ::
 (32 : UInt8) ::
 (123 : UInt8) ::
 (32 : UInt8) ::
 (112 : UInt8) ::
 (114 : UInt8) ::
 (105 : UInt8) ::
 (110 : UInt8) ::
 (116 : UInt8) :: (32 : UInt8) :: (34 : UInt8) :: r).length :
 Int)))
 (iteP
 (inRange (4 : Int)
 ((66 : UInt8) ::
 (69 : UInt8) ::
 (71 : UInt8) ::
 (73 : UInt8) ::
 (78 : UInt8) ::
 (32 : UInt8) ::
 (123 : UInt8) ::
 (32 : UInt8) ::
 (112 : UInt8) ::
 (114 : UInt8) ::
 (105 : UInt8) ::
 (110 : UInt8) ::
 (116 : UInt8) :: (32 : UInt8) :: (34 : UInt8) :: r).length)
 (iteP
 (decide
 ((5 : Int) <
 (↑((66 : UInt8) ::
 (69 : UInt8) ::
 (71 : UInt8) ::
 (73 : UInt8) ::
 (78 : UInt8) ::
 (32 : UInt8) ::
 (123 : UInt8) ::
 (32 : UInt8) ::
 (112 : UInt8) ::
 (114 : UInt8) ::
 (105 : UInt8) ::
 (110 : UInt8) ::
 (116 : UInt8) :: (32 : UInt8) :: (34 : UInt8) :: r).length :
 Int)))
 (iteP
 (inRange (5 : Int)
 ((66 : UInt8) ::
 (69 : UInt8) ::
 (71 : UInt8) ::
 (73 : UInt8) ::
 (78 : UInt8) ::
 (32 : UInt8) ::
 (123 : UInt8) ::
 (32 : UInt8) ::
 (112 : UInt8) ::
 (114 : UInt8) ::
 (105 : UInt8) ::
 (110 : UInt8) ::
 (116 : UInt8) :: (32 : UInt8) :: (34 : UInt8) :: r).length)
 (iteP
 (inRange (5 : Int)
 ((66 : UInt8) ::
 (69 : UInt8) ::
 (71 : UInt8) ::
 (73 : UInt8) ::
 (78 : UInt8) ::
 (32 : UInt8) ::
 (123 : UInt8) ::
 (32 : UInt8) ::
 (112 : UInt8) ::
 (114 : UInt8) ::
 (105 : UInt8) ::
 (110 : UInt8) ::
 (116 : UInt8) :: (32 : UInt8) :: (34 : UInt8) :: r).length)
 (iteP
 (true &&
 (true &&
 decide
 ((5 : Int) ≤
 (↑((66 : UInt8) ::
 (69 : UInt8) ::
 (71 : UInt8) ::
 (73 : UInt8) ::
 (78 : UInt8) ::
 (32 : UInt8) ::
 (123 : UInt8) ::
 (32 : UInt8) ::
 (112 : UInt8) ::
 (114 : UInt8) ::
 (105 : UInt8) ::
 (110 : UInt8) ::
 (116 : UInt8) ::
 (32 : UInt8) :: (34 : UInt8) :: r).length :
 Int))))
 (True ∧
 ∀ (_ : Unit),
 True →
 K
 (AV.tup
 [AV.agg
 [AV.sc (Value.int IntKind.i64 (6 : Int)),
 AV.sc
 (Value.string
 (ByteArray.mk
 (Array.mk
 (cutL
 ((66 : UInt8) ::
 (69 : UInt8) ::
 (71 : UInt8) ::
 (73 : UInt8) ::
 (78 : UInt8) ::
 (32 : UInt8) ::
 (123 : UInt8) ::
 (32 : UInt8) ::
 (112 : UInt8) ::
 (114 : UInt8) ::
 (105 : UInt8) ::
 (110 : UInt8) ::
 (116 : UInt8) ::
 (32 : UInt8) :: (34 : UInt8) :: r)
 (0 : Int) (5 : Int))))),
 AV.sc (Value.int IntKind.i64 (0 : Int)),
 AV.sc (Value.int IntKind.i64 (0 : Int))],
 AV.sc (Value.int IntKind.i64 (5 : Int)),
 AV.sc (Value.int IntKind.i64 (0 : Int)),
 AV.sc (Value.int IntKind.i64 (0 : Int))]))
 False)
 False)
 False)
 (iteP
 (true &&
 (true &&
 decide
 ((5 : Int) ≤
 (↑((66 : UInt8) ::
 (69 : UInt8) ::
 (71 : UInt8) ::
 (73 : UInt8) ::
 (78 : UInt8) ::
 (32 : UInt8) ::
 (123 : UInt8) ::
 (32 : UInt8) ::
 (112 : UInt8) ::
 (114 : UInt8) ::
 (105 : UInt8) ::
 (110 : UInt8) ::
 (116 : UInt8) ::
 (32 : UInt8) :: (34 : UInt8) :: r).length :
 Int))))
 (True ∧
 ∀ (_ : Unit),
 True →
 K
 (AV.tup
 [AV.agg
 [AV.sc (Value.int IntKind.i64 (6 : Int)),
 AV.sc
 (Value.string
 (ByteArray.mk
 (Array.mk
 (cutL
 ((66 : UInt8) ::
 (69 : UInt8) ::
 (71 : UInt8) ::
 (73 : UInt8) ::
 (78 : UInt8) ::
 (32 : UInt8) ::
 (123 : UInt8) ::
 (32 : UInt8) ::
 (112 : UInt8) ::
 (114 : UInt8) ::
 (105 : UInt8) ::
 (110 : UInt8) ::
 (116 : UInt8) ::
 (32 : UInt8) :: (34 : UInt8) :: r)
 (0 : Int) (5 : Int))))),
 AV.sc (Value.int IntKind.i64 (0 : Int)),
 AV.sc (Value.int IntKind.i64 (0 : Int))],
 AV.sc (Value.int IntKind.i64 (5 : Int)), AV.sc (Value.int IntKind.i64 (0 : Int)),
 AV.sc (Value.int IntKind.i64 (0 : Int))]))
 False))
 False)
 (iteP
 (true &&
 (true &&
 decide
 ((4 : Int) ≤
 (↑((66 : UInt8) ::
 (69 : UInt8) ::
 (71 : UInt8) ::
 (73 : UInt8) ::
 (78 : UInt8) ::
 (32 : UInt8) ::
 (123 : UInt8) ::
 (32 : UInt8) ::
 (112 : UInt8) ::
 (114 : UInt8) ::
 (105 : UInt8) ::
 (110 : UInt8) ::
 (116 : UInt8) :: (32 : UInt8) :: (34 : UInt8) :: r).length :
 Int))))
 (True ∧
 ∀ (_ : Unit),
 True →
 iteP
 (decide
 ((4 : Int) <
 (↑((66 : UInt8) ::
 (69 : UInt8) ::
 (71 : UInt8) ::
 (73 : UInt8) ::
 (78 : UInt8) ::
 (32 : UInt8) ::
 (123 : UInt8) ::
 (32 : UInt8) ::
 (112 : UInt8) ::
 (114 : UInt8) ::
 (105 : UInt8) ::
 (110 : UInt8) ::
 (116 : UInt8) ::
 (32 : UInt8) :: (34 : UInt8) :: r).length :
 Int)))
 (iteP
 (inRange (4 : Int)
 ((66 : UInt8) ::
 (69 : UInt8) ::
 (71 : UInt8) ::
 (73 : UInt8) ::
 (78 : UInt8) ::
 (32 : UInt8) ::
 (123 : UInt8) ::
 (32 : UInt8) ::
 (112 : UInt8) ::
 (114 : UInt8) ::
 (105 : UInt8) ::
 (110 : UInt8) ::
 (116 : UInt8) :: (32 : UInt8) :: (34 : UInt8) :: r).length)
 (K
 (AV.tup
 [AV.agg
 [AV.sc (Value.int IntKind.i64 (4 : Int)),
 AV.sc
 (Value.string
 (ByteArray.mk
 (Array.mk
 (cutL
 ((66 : UInt8) ::
 (69 : UInt8) ::
 (71 : UInt8) ::
 (73 : UInt8) ::
 (78 : UInt8) ::
 (32 : UInt8) ::
 (123 : UInt8) ::
 (32 : UInt8) ::
 (112 : UInt8) ::
 (114 : UInt8) ::
 (105 : UInt8) ::
 (110 : UInt8) ::
 (116 : UInt8) ::
 (32 : UInt8) :: (34 : UInt8) :: r)
 (0 : Int) (4 : Int))))),
 AV.sc (Value.int IntKind.i64 (0 : Int)),
 AV.sc (Value.int IntKind.i64 (0 : Int))],
 AV.sc (Value.int IntKind.i64 (4 : Int)), AV.sc (Value.int IntKind.i64 (0 : Int)),
 AV.sc (Value.int IntKind.i64 (0 : Int))]))
 False)
 (K
 (AV.tup
 [AV.agg
 [AV.sc (Value.int IntKind.i64 (4 : Int)),
 AV.sc
 (Value.string
 (ByteArray.mk
 (Array.mk
 (cutL
 ((66 : UInt8) ::
 (69 : UInt8) ::
 (71 : UInt8) ::
 (73 : UInt8) ::
 (78 : UInt8) ::
 (32 : UInt8) ::
 (123 : UInt8) ::
 (32 : UInt8) ::
 (112 : UInt8) ::
 (114 : UInt8) ::
 (105 : UInt8) ::
 (110 : UInt8) ::
 (116 : UInt8) ::
 (32 : UInt8) :: (34 : UInt8) :: r)
 (0 : Int) (4 : Int))))),
 AV.sc (Value.int IntKind.i64 (0 : Int)),
 AV.sc (Value.int IntKind.i64 (0 : Int))],
 AV.sc (Value.int IntKind.i64 (4 : Int)), AV.sc (Value.int IntKind.i64 (0 : Int)),
 AV.sc (Value.int IntKind.i64 (0 : Int))])))
 False))
 False)
 (iteP
 (true &&
 (true &&
 decide
 ((3 : Int) ≤
 (↑((66 : UInt8) ::
 (69 : UInt8) ::
 (71 : UInt8) ::
 (73 : UInt8) ::
 (78 : UInt8) ::
 (32 : UInt8) ::
 (123 : UInt8) ::
 (32 : UInt8) ::
 (112 : UInt8) ::
 (114 : UInt8) ::
 (105 : UInt8) ::
 (110 : UInt8) ::
 (116 : UInt8) :: (32 : UInt8) :: (34 : UInt8) :: r).length :
 Int))))
 (True ∧
 ∀ (_ : Unit),
 True →
 iteP
 (decide
 ((3 : Int) <
 (↑((66 : UInt8) ::
 (69 : UInt8) ::
 (71 : UInt8) ::
 (73 : UInt8) ::
 (78 : UInt8) ::
 (32 : UInt8) ::
 (123 : UInt8) ::
 (32 : UInt8) ::
 (112 : UInt8) ::
 (114 : UInt8) ::
 (105 : UInt8) ::
 (110 : UInt8) ::
 (116 : UInt8) :: (32 : UInt8) :: (34 : UInt8) :: r).length :
 Int)))
 (iteP
 (inRange (3 : Int)
 ((66 : UInt8) ::
 (69 : UInt8) ::
 (71 : UInt8) ::
 (73 : UInt8) ::
 (78 : UInt8) ::
 (32 : UInt8) ::
 (123 : UInt8) ::
 (32 : UInt8) ::
 (112 : UInt8) ::
 (114 : UInt8) ::
 (105 : UInt8) ::
 (110 : UInt8) ::
 (116 : UInt8) :: (32 : UInt8) :: (34 : UInt8) :: r).length)
 (K
 (AV.tup
 [AV.agg
 [AV.sc (Value.int IntKind.i64 (4 : Int)),
 AV.sc
 (Value.string
 (ByteArray.mk
 (Array.mk
 (cutL
 ((66 : UInt8) ::
 (69 : UInt8) ::
 (71 : UInt8) ::
 (73 : UInt8) ::
 (78 : UInt8) ::
 (32 : UInt8) ::
 (123 : UInt8) ::
 (32 : UInt8) ::
 (112 : UInt8) ::
 (114 : UInt8) ::
 (105 : UInt8) ::
 (110 : UInt8) ::
 (116 : UInt8) ::
 (32 : UInt8) :: (34 : UInt8) :: r)
 (0 : Int) (3 : Int))))),
 AV.sc (Value.int IntKind.i64 (0 : Int)), AV.sc (Value.int IntKind.i64 (0 : Int))],
 AV.sc (Value.int IntKind.i64 (3 : Int)), AV.sc (Value.int IntKind.i64 (0 : Int)),
 AV.sc (Value.int IntKind.i64 (0 : Int))]))
 False)
 (K
 (AV.tup
 [AV.agg
 [AV.sc (Value.int IntKind.i64 (4 : Int)),
 AV.sc
 (Value.string
 (ByteArray.mk
 (Array.mk
 (cutL
 ((66 : UInt8) ::
 (69 : UInt8) ::
 (71 : UInt8) ::
 (73 : UInt8) ::
 (78 : UInt8) ::
 (32 : UInt8) ::
 (123 : UInt8) ::
 (32 : UInt8) ::
 (112 : UInt8) ::
 (114 : UInt8) ::
 (105 : UInt8) ::
 (110 : UInt8) ::
 (116 : UInt8) ::
 (32 : UInt8) :: (34 : UInt8) :: r)
 (0 : Int) (3 : Int))))),
 AV.sc (Value.int IntKind.i64 (0 : Int)), AV.sc (Value.int IntKind.i64 (0 : Int))],
 AV.sc (Value.int IntKind.i64 (3 : Int)), AV.sc (Value.int IntKind.i64 (0 : Int)),
 AV.sc (Value.int IntKind.i64 (0 : Int))])))
 False))
 False)
 (iteP
 (true &&
 (true &&
 decide
 ((2 : Int) ≤
 (↑((66 : UInt8) ::
 (69 : UInt8) ::
 (71 : UInt8) ::
 (73 : UInt8) ::
 (78 : UInt8) ::
 (32 : UInt8) ::
 (123 : UInt8) ::
 (32 : UInt8) ::
 (112 : UInt8) ::
 (114 : UInt8) ::
 (105 : UInt8) ::
 (110 : UInt8) ::
 (116 : UInt8) :: (32 : UInt8) :: (34 : UInt8) :: r).length :
 Int))))
 (True ∧
 ∀ (_ : Unit),
 True →
 iteP
 (decide
 ((2 : Int) <
 (↑((66 : UInt8) ::
 (69 : UInt8) ::
 (71 : UInt8) ::
 (73 : UInt8) ::
 (78 : UInt8) ::
 (32 : UInt8) ::
 (123 : UInt8) ::
 (32 : UInt8) ::
 (112 : UInt8) ::
 (114 : UInt8) ::
 (105 : UInt8) ::
 (110 : UInt8) ::
 (116 : UInt8) :: (32 : UInt8) :: (34 : UInt8) :: r).length :
 Int)))
 (iteP
 (inRange (2 : Int)
 ((66 : UInt8) ::
 (69 : UInt8) ::
 (71 : UInt8) ::
 (73 : UInt8) ::
 (78 : UInt8) ::
 (32 : UInt8) ::
 (123 : UInt8) ::
 (32 : UInt8) ::
 (112 : UInt8) ::
 (114 : UInt8) ::
 (105 : UInt8) ::
 (110 : UInt8) ::
 (116 : UInt8) :: (32 : UInt8) :: (34 : UInt8) :: r).length)
 (K
 (AV.tup
 [AV.agg
 [AV.sc (Value.int IntKind.i64 (4 : Int)),
 AV.sc
 (Value.string
 (ByteArray.mk
 (Array.mk
 (cutL
 ((66 : UInt8) ::
 (69 : UInt8) ::
 (71 : UInt8) ::
 (73 : UInt8) ::
 (78 : UInt8) ::
 (32 : UInt8) ::
 (123 : UInt8) ::
 (32 : UInt8) ::
 (112 : UInt8) ::
 (114 : UInt8) ::
 (105 : UInt8) ::
 (110 : UInt8) ::
 (116 : UInt8) :: (32 : UInt8) :: (34 : UInt8) :: r)
 (0 : Int) (2 : Int))))),
 AV.sc (Value.int IntKind.i64 (0 : Int)), AV.sc (Value.int IntKind.i64 (0 : Int))],
 AV.sc (Value.int IntKind.i64 (2 : Int)), AV.sc (Value.int IntKind.i64 (0 : Int)),
 AV.sc (Value.int IntKind.i64 (0 : Int))]))
 False)
 (K
 (AV.tup
 [AV.agg
 [AV.sc (Value.int IntKind.i64 (4 : Int)),
 AV.sc
 (Value.string
 (ByteArray.mk
 (Array.mk
 (cutL
 ((66 : UInt8) ::
 (69 : UInt8) ::
 (71 : UInt8) ::
 (73 : UInt8) ::
 (78 : UInt8) ::
 (32 : UInt8) ::
 (123 : UInt8) ::
 (32 : UInt8) ::
 (112 : UInt8) ::
 (114 : UInt8) ::
 (105 : UInt8) ::
 (110 : UInt8) ::
 (116 : UInt8) :: (32 : UInt8) :: (34 : UInt8) :: r)
 (0 : Int) (2 : Int))))),
 AV.sc (Value.int IntKind.i64 (0 : Int)), AV.sc (Value.int IntKind.i64 (0 : Int))],
 AV.sc (Value.int IntKind.i64 (2 : Int)), AV.sc (Value.int IntKind.i64 (0 : Int)),
 AV.sc (Value.int IntKind.i64 (0 : Int))])))
 False))
 False)
 (iteP
 (true &&
 (true &&
 decide
 ((1 : Int) ≤
 (↑((66 : UInt8) ::
 (69 : UInt8) ::
 (71 : UInt8) ::
 (73 : UInt8) ::
 (78 : UInt8) ::
 (32 : UInt8) ::
 (123 : UInt8) ::
 (32 : UInt8) ::
 (112 : UInt8) ::
 (114 : UInt8) ::
 (105 : UInt8) ::
 (110 : UInt8) ::
 (116 : UInt8) :: (32 : UInt8) :: (34 : UInt8) :: r).length :
 Int))))
 (True ∧
 ∀ (_ : Unit),
 True →
 iteP
 (decide
 ((1 : Int) <
 (↑((66 : UInt8) ::
 (69 : UInt8) ::
 (71 : UInt8) ::
 (73 : UInt8) ::
 (78 : UInt8) ::
 (32 : UInt8) ::
 (123 : UInt8) ::
 (32 : UInt8) ::
 (112 : UInt8) ::
 (114 : UInt8) ::
 (105 : UInt8) ::
 (110 : UInt8) ::
 (116 : UInt8) :: (32 : UInt8) :: (34 : UInt8) :: r).length :
 Int)))
 (iteP
 (inRange (1 : Int)
 ((66 : UInt8) ::
 (69 : UInt8) ::
 (71 : UInt8) ::
 (73 : UInt8) ::
 (78 : UInt8) ::
 (32 : UInt8) ::
 (123 : UInt8) ::
 (32 : UInt8) ::
 (112 : UInt8) ::
 (114 : UInt8) ::
 (105 : UInt8) ::
 (110 : UInt8) ::
 (116 : UInt8) :: (32 : UInt8) :: (34 : UInt8) :: r).length)
 (K
 (AV.tup
 [AV.agg
 [AV.sc (Value.int IntKind.i64 (4 : Int)),
 AV.sc
 (Value.string
 (ByteArray.mk
 (Array.mk
 (cutL
 ((66 : UInt8) ::
 (69 : UInt8) ::
 (71 : UInt8) ::
 (73 : UInt8) ::
 (78 : UInt8) ::
 (32 : UInt8) ::
 (123 : UInt8) ::
 (32 : UInt8) ::
 (112 : UInt8) ::
 (114 : UInt8) ::
 (105 : UInt8) ::
 (110 : UInt8) ::
 (116 : UInt8) :: (32 : UInt8) :: (34 : UInt8) :: r)
 (0 : Int) (1 : Int))))),
 AV.sc (Value.int IntKind.i64 (0 : Int)), AV.sc (Value.int IntKind.i64 (0 : Int))],
 AV.sc (Value.int IntKind.i64 (1 : Int)), AV.sc (Value.int IntKind.i64 (0 : Int)),
 AV.sc (Value.int IntKind.i64 (0 : Int))]))
 False)
 (K
 (AV.tup
 [AV.agg
 [AV.sc (Value.int IntKind.i64 (4 : Int)),
 AV.sc
 (Value.string
 (ByteArray.mk
 (Array.mk
 (cutL
 ((66 : UInt8) ::
 (69 : UInt8) ::
 (71 : UInt8) ::
 (73 : UInt8) ::
 (78 : UInt8) ::
 (32 : UInt8) ::
 (123 : UInt8) ::
 (32 : UInt8) ::
 (112 : UInt8) ::
 (114 : UInt8) ::
 (105 : UInt8) ::
 (110 : UInt8) ::
 (116 : UInt8) :: (32 : UInt8) :: (34 : UInt8) :: r)
 (0 : Int) (1 : Int))))),
 AV.sc (Value.int IntKind.i64 (0 : Int)), AV.sc (Value.int IntKind.i64 (0 : Int))],
 AV.sc (Value.int IntKind.i64 (1 : Int)), AV.sc (Value.int IntKind.i64 (0 : Int)),
 AV.sc (Value.int IntKind.i64 (0 : Int))])))
 False))
 False)
 (True ∧
 ∀ (_ : Unit),
 True →
 iteP
 (decide
 ((0 : Int) <
 (↑((66 : UInt8) ::
 (69 : UInt8) ::
 (71 : UInt8) ::
 (73 : UInt8) ::
 (78 : UInt8) ::
 (32 : UInt8) ::
 (123 : UInt8) ::
 (32 : UInt8) ::
 (112 : UInt8) ::
 (114 : UInt8) ::
 (105 : UInt8) ::
 (110 : UInt8) ::
 (116 : UInt8) :: (32 : UInt8) :: (34 : UInt8) :: r).length :
 Int)))
 (iteP
 (inRange (0 : Int)
 ((66 : UInt8) ::
 (69 : UInt8) ::
 (71 : UInt8) ::
 (73 : UInt8) ::
 (78 : UInt8) ::
 (32 : UInt8) ::
 (123 : UInt8) ::
 (32 : UInt8) ::
 (112 : UInt8) ::
 (114 : UInt8) ::
 (105 : UInt8) ::
 (110 : UInt8) :: (116 : UInt8) :: (32 : UInt8) :: (34 : UInt8) :: r).length)
 (K
 (AV.tup
 [AV.agg
 [AV.sc (Value.int IntKind.i64 (4 : Int)),
 AV.sc
 (Value.string
 (ByteArray.mk
 (Array.mk
 (cutL
 ((66 : UInt8) ::
 (69 : UInt8) ::
 (71 : UInt8) ::
 (73 : UInt8) ::
 (78 : UInt8) ::
 (32 : UInt8) ::
 (123 : UInt8) ::
 (32 : UInt8) ::
 (112 : UInt8) ::
 (114 : UInt8) ::
 (105 : UInt8) ::
 (110 : UInt8) ::
 (116 : UInt8) :: (32 : UInt8) :: (34 : UInt8) :: r)
 (0 : Int) (0 : Int))))),
 AV.sc (Value.int IntKind.i64 (0 : Int)), AV.sc (Value.int IntKind.i64 (0 : Int))],
 AV.sc (Value.int IntKind.i64 (0 : Int)), AV.sc (Value.int IntKind.i64 (0 : Int)),
 AV.sc (Value.int IntKind.i64 (0 : Int))]))
 False)
 (K
 (AV.tup
 [AV.agg
 [AV.sc (Value.int IntKind.i64 (4 : Int)),
 AV.sc
 (Value.string
 (ByteArray.mk
 (Array.mk
 (cutL
 ((66 : UInt8) ::
 (69 : UInt8) ::
 (71 : UInt8) ::
 (73 : UInt8) ::
 (78 : UInt8) ::
 (32 : UInt8) ::
 (123 : UInt8) ::
 (32 : UInt8) ::
 (112 : UInt8) ::
 (114 : UInt8) ::
 (105 : UInt8) ::
 (110 : UInt8) ::
 (116 : UInt8) :: (32 : UInt8) :: (34 : UInt8) :: r)
 (0 : Int) (0 : Int))))),
 AV.sc (Value.int IntKind.i64 (0 : Int)), AV.sc (Value.int IntKind.i64 (0 : Int))],
 AV.sc (Value.int IntKind.i64 (0 : Int)), AV.sc (Value.int IntKind.i64 (0 : Int)),
 AV.sc (Value.int IntKind.i64 (0 : Int))]))))
 False) :
 (fun (r : List UInt8) (k n t : Int) (w : List UInt8) (K : AV → Prop) => wpCall TW cfg Tryz.prog 80 97 [aStr (sP r), iA 0, befA k n t w] heapF fun r h' => wpBack h' r K) r k n t w K :=
 Eq.mp (by kernel_rfl) h
theorem tWord8 (r : List UInt8) (k : Int) (n : Int) (t : Int) (w : List UInt8) (K : AV → Prop) (h :
 iteP
 (inRange (8 : Int)
 ((66 : UInt8) ::
 (69 : UInt8) ::
 (71 : UInt8) ::
 (73 : UInt8) ::
 (78 : UInt8) ::
 (32 : UInt8) ::
 (123 : UInt8) ::
 (32 : UInt8) ::
 (112 : UInt8) ::
 (114 : UInt8) ::
 (105 : UInt8) :: (110 : UInt8) :: (116 : UInt8) :: (32 : UInt8) :: (34 : UInt8) :: r).length)
 (iteP
 (decide
 ((8 : Int) <
 (↑((66 : UInt8) ::
 (69 : UInt8) ::
 (71 : UInt8) ::
 (73 : UInt8) ::
 (78 : UInt8) ::
 (32 : UInt8) ::
 (123 : UInt8) ::
 (32 : UInt8) ::
 (112 : UInt8) ::
 (114 : UInt8) ::
 (105 : UInt8) ::
 (110 : UInt8) :: (116 : UInt8) :: (32 : UInt8) :: (34 : UInt8) :: r).length :
 Int)))
 (iteP
 (inRange (8 : Int)
 ((66 : UInt8) ::
 (69 : UInt8) ::
 (71 : UInt8) ::
 (73 : UInt8) ::
 (78 : UInt8) ::
 (32 : UInt8) ::
 (123 : UInt8) ::
 (32 : UInt8) ::
 (112 : UInt8) ::
 (114 : UInt8) ::
 (105 : UInt8) ::
 (110 : UInt8) :: (116 : UInt8) :: (32 : UInt8) :: (34 : UInt8) :: r).length)
 (iteP
 (decide
 ((9 : Int) <
 (↑((66 : UInt8) ::
 (69 : UInt8) ::
 (71 : UInt8) ::
 (73 : UInt8) ::
 (78 : UInt8) ::
 (32 : UInt8) ::
 (123 : UInt8) ::
 (32 : UInt8) ::
 (112 : UInt8) ::
 (114 : UInt8) ::
 (105 : UInt8) ::
 (110 : UInt8) :: (116 : UInt8) :: (32 : UInt8) :: (34 : UInt8) :: r).length :
 Int)))
 (iteP
 (inRange (9 : Int)
 ((66 : UInt8) ::
 (69 : UInt8) ::
 (71 : UInt8) ::
 (73 : UInt8) ::
 (78 : UInt8) ::
 (32 : UInt8) ::
 (123 : UInt8) ::
 (32 : UInt8) ::
 (112 : UInt8) ::
 (114 : UInt8) ::
 (105 : UInt8) ::
 (110 : UInt8) :: (116 : UInt8) :: (32 : UInt8) :: (34 : UInt8) :: r).length)
 (iteP
 (decide
 ((10 : Int) <
 (↑((66 : UInt8) ::
 (69 : UInt8) ::
 (71 : UInt8) ::
 (73 : UInt8) ::
 (78 : UInt8) ::
 (32 : UInt8) ::
 (123 : UInt8) ::
 (32 : UInt8) ::
 (112 : UInt8) ::
 (114 : UInt8) ::
 (105 : UInt8) ::
 (110 : UInt8) ::
 (116 : UInt8) :: (32 : UInt8) :: (34 : UInt8) :: r).length :
 Int)))
 (iteP
 (inRange (10 : Int)
 ((66 : UInt8) ::
 (69 : UInt8) ::
 (71 : UInt8) ::
 (73 : UInt8) ::
 (78 : UInt8) ::
 (32 : UInt8) ::
 (123 : UInt8) ::
 (32 : UInt8) ::
 (112 : UInt8) ::
 (114 : UInt8) ::
 (105 : UInt8) ::
 (110 : UInt8) :: (116 : UInt8) :: (32 : UInt8) :: (34 : UInt8) :: r).length)
 (iteP
 (decide
 ((11 : Int) <
 (↑((66 : UInt8) ::
 (69 : UInt8) ::
 (71 : UInt8) ::
 (73 : UInt8) ::
 (78 : UInt8) ::
 (32 : UInt8) ::
 (123 : UInt8) ::
 (32 : UInt8) ::
 (112 : UInt8) ::
 (114 : UInt8) ::
 (105 : UInt8) ::
 (110 : UInt8) ::
 (116 : UInt8) :: (32 : UInt8) :: (34 : UInt8) :: r).length :
 Int)))
 (iteP
 (inRange (11 : Int)
 ((66 : UInt8) ::
 (69 : UInt8) ::
 (71 : UInt8) ::
 (73 : UInt8) ::
 (78 : UInt8) ::
 (32 : UInt8) ::
 (123 : UInt8) ::
 (32 : UInt8) ::
 (112 : UInt8) ::
 (114 : UInt8) ::
 (105 : UInt8) ::
 (110 : UInt8) :: (116 : UInt8) :: (32 : UInt8) :: (34 : UInt8) :: r).length)
 (iteP
 (decide
 ((12 : Int) <
 (↑((66 : UInt8) ::
 (69 : UInt8) ::
 (71 : UInt8) ::
 (73 : UInt8) ::
 (78 : UInt8) ::
 (32 : UInt8) ::
 (123 : UInt8) ::
 (32 : UInt8) ::
 (112 : UInt8) ::
 (114 : UInt8) ::
 (105 : UInt8) ::
 (110 : UInt8) ::
 (116 : UInt8) :: (32 : UInt8) :: (34 : UInt8) :: r).length :
 Int)))
 (iteP
 (inRange (12 : Int)
 ((66 : UInt8) ::
 (69 : UInt8) ::
 (71 : UInt8) ::
 (73 : UInt8) ::
 (78 : UInt8) ::
 (32 : UInt8) ::
 (123 : UInt8) ::
 (32 : UInt8) ::
 (112 : UInt8) ::
 (114 : UInt8) ::
 (105 : UInt8) ::
 (110 : UInt8) ::
 (116 : UInt8) :: (32 : UInt8) :: (34 : UInt8) :: r).length)
 (iteP
 (decide
 ((13 : Int) <
 (↑((66 : UInt8) ::
 (69 : UInt8) ::
 (71 : UInt8) ::
 (73 : UInt8) ::
 (78 : UInt8) ::
 (32 : UInt8) ::
 (123 : UInt8) ::
 (32 : UInt8) ::
 (112 : UInt8) ::
 (114 : UInt8) ::
 (105 : UInt8) ::
 (110 : UInt8) ::
 (116 : UInt8) :: (32 : UInt8) :: (34 : UInt8) :: r).length :
 Int)))
 (iteP
 (inRange (13 : Int)
 ((66 : UInt8) ::
 (69 : UInt8) ::
 (71 : UInt8) ::
 (73 : UInt8) ::
 (78 : UInt8) ::
 (32 : UInt8) ::
 (123 : UInt8) ::
 (32 : UInt8) ::
 (112 : UInt8) ::
 (114 : UInt8) ::
 (105 : UInt8) ::
 (110 : UInt8) ::
 (116 : UInt8) :: (32 : UInt8) :: (34 : UInt8) :: r).length)
 (iteP
 (inRange (13 : Int)
 ((66 : UInt8) ::
 (69 : UInt8) ::
 (71 : UInt8) ::
 (73 : UInt8) ::
 (78 : UInt8) ::
 (32 : UInt8) ::
 (123 : UInt8) ::
 (32 : UInt8) ::
 (112 : UInt8) ::
 (114 : UInt8) ::
 (105 : UInt8) ::
 (110 : UInt8) ::
 (116 : UInt8) :: (32 : UInt8) :: (34 : UInt8) :: r).length)
 (iteP
 (true &&
 (true &&
 decide
 ((13 : Int) ≤
 (↑((66 : UInt8) ::
 (69 : UInt8) ::
 (71 : UInt8) ::
 (73 : UInt8) ::
 (78 : UInt8) ::
 (32 : UInt8) ::
 (123 : UInt8) ::
 (32 : UInt8) ::
 (112 : UInt8) ::
 (114 : UInt8) ::
 (105 : UInt8) ::
 (110 : UInt8) ::
 (116 : UInt8) ::
 (32 : UInt8) :: (34 : UInt8) :: r).length :
 Int))))
 (True ∧
 ∀ (_ : Unit),
 True →
 K
 (AV.tup
 [AV.agg
 [AV.sc (Value.int IntKind.i64 (6 : Int)),
 AV.sc
 (Value.string
 (ByteArray.mk
 (Array.mk
 (cutL
 ((66 : UInt8) ::
 (69 : UInt8) ::
 (71 : UInt8) ::
 (73 : UInt8) ::
 (78 : UInt8) ::
 (32 : UInt8) ::
 (123 : UInt8) ::
 (32 : UInt8) ::
 (112 : UInt8) ::
 (114 : UInt8) ::
 (105 : UInt8) ::
 (110 : UInt8) ::
 (116 : UInt8) ::
 (32 : UInt8) :: (34 : UInt8) :: r)
 (8 : Int) (13 : Int))))),
 AV.sc (Value.int IntKind.i64 (0 : Int)),
 AV.sc (Value.int IntKind.i64 (8 : Int))],
 AV.sc (Value.int IntKind.i64 (13 : Int)),
 AV.sc (Value.int IntKind.i64 (0 : Int)),
 AV.sc (Value.int IntKind.i64 (0 : Int))]))
 False)
 False)
 False)
 (iteP
 (true &&
 (true &&
 decide
 ((13 : Int) ≤
 (↑((66 : UInt8) ::
 (69 : UInt8) ::
 (71 : UInt8) ::
 (73 : UInt8) ::
 (78 : UInt8) ::
 (32 : UInt8) ::
 (123 : UInt8) ::
 (32 : UInt8) ::
 (112 : UInt8) ::
 (114 : UInt8) ::
 (105 : UInt8) ::
 (110 : UInt8) ::
 (116 : UInt8) ::
 (32 : UInt8) :: (34 : UInt8) :: r).length :
 Int))))
 (True ∧
 ∀ (_ : Unit),
 True →
 K
 (AV.tup
 [AV.agg
 [AV.sc (Value.int IntKind.i64 (6 : Int)),
 AV.sc
 (Value.string
 (ByteArray.mk
 (Array.mk
 (cutL
 ((66 : UInt8) ::
 (69 : UInt8) ::
 (71 : UInt8) ::
 (73 : UInt8) ::
 (78 : UInt8) ::
 (32 : UInt8) ::
 (123 : UInt8) ::
 (32 : UInt8) ::
 (112 : UInt8) ::
 (114 : UInt8) ::
 (105 : UInt8) ::
 (110 : UInt8) ::
 (116 : UInt8) ::
 (32 : UInt8) :: (34 : UInt8) :: r)
 (8 : Int) (13 : Int))))),
 AV.sc (Value.int IntKind.i64 (0 : Int)),
 AV.sc (Value.int IntKind.i64 (8 : Int))],
 AV.sc (Value.int IntKind.i64 (13 : Int)), AV.sc (Value.int IntKind.i64 (0 : Int)),
 AV.sc (Value.int IntKind.i64 (0 : Int))]))
 False))
 False)
 (iteP
 (true &&
 (true &&
 decide
 ((12 : Int) ≤
 (↑((66 : UInt8) ::
 (69 : UInt8) ::
 (71 : UInt8) ::
 (73 : UInt8) ::
 (78 : UInt8) ::
 (32 : UInt8) ::
 (123 : UInt8) ::
 (32 : UInt8) ::
 (112 : UInt8) ::
 (114 : UInt8) ::
 (105 : UInt8) ::
 (110 : UInt8) ::
 (116 : UInt8) :: (32 : UInt8) :: (34 : UInt8) :: r).length :
 Int))))
 (True ∧
 ∀ (_ : Unit),
 True →
 iteP
 (decide
 ((12 : Int) <
 (↑((66 : UInt8) ::
 (69 : UInt8) ::
 (71 : UInt8) ::
 (73 : UInt8) ::
 (78 : UInt8) ::
 (32 : UInt8) ::
 (123 : UInt8) ::
 (32 : UInt8) ::
 (112 : UInt8) ::
 (114 : UInt8) ::
 (105 : UInt8) ::
 (110 : UInt8) ::
 (116 : UInt8) ::
 (32 : UInt8) :: (34 : UInt8) :: r).length :
 Int)))
 (iteP
 (inRange (12 : Int)
 ((66 : UInt8) ::
 (69 : UInt8) ::
 (71 : UInt8) ::
 (73 : UInt8) ::
 (78 : UInt8) ::
 (32 : UInt8) ::
 (123 : UInt8) ::
 (32 : UInt8) ::
 (112 : UInt8) ::
 (114 : UInt8) ::
 (105 : UInt8) ::
 (110 : UInt8) ::
 (116 : UInt8) :: (32 : UInt8) :: (34 : UInt8) :: r).length)
 (K
 (AV.tup
 [AV.agg
 [AV.sc (Value.int IntKind.i64 (4 : Int)),
 AV.sc
 (Value.string
 (ByteArray.mk
 (Array.mk
 (cutL
 ((66 : UInt8) ::
 (69 : UInt8) ::
 (71 : UInt8) ::
 (73 : UInt8) ::
 (78 : UInt8) ::
 (32 : UInt8) ::
 (123 : UInt8) ::
 (32 : UInt8) ::
 (112 : UInt8) ::
 (114 : UInt8) ::
 (105 : UInt8) ::
 (110 : UInt8) ::
 (116 : UInt8) ::
 (32 : UInt8) :: (34 : UInt8) :: r)
 (8 : Int) (12 : Int))))),
 AV.sc (Value.int IntKind.i64 (0 : Int)),
 AV.sc (Value.int IntKind.i64 (8 : Int))],
 AV.sc (Value.int IntKind.i64 (12 : Int)), AV.sc (Value.int IntKind.i64 (0 : Int)),
 AV.sc (Value.int IntKind.i64 (0 : Int))]))
 False)
 (K
 (AV.tup
 [AV.agg
 [AV.sc (Value.int IntKind.i64 (4 : Int)),
 AV.sc
 (Value.string
 (ByteArray.mk
 (Array.mk
 (cutL
 ((66 : UInt8) ::
 (69 : UInt8) ::
 (71 : UInt8) ::
 (73 : UInt8) ::
 (78 : UInt8) ::
 (32 : UInt8) ::
 (123 : UInt8) ::
 (32 : UInt8) ::
 (112 : UInt8) ::
 (114 : UInt8) ::
 (105 : UInt8) ::
 (110 : UInt8) ::
 (116 : UInt8) ::
 (32 : UInt8) :: (34 : UInt8) :: r)
 (8 : Int) (12 : Int))))),
 AV.sc (Value.int IntKind.i64 (0 : Int)),
 AV.sc (Value.int IntKind.i64 (8 : Int))],
 AV.sc (Value.int IntKind.i64 (12 : Int)), AV.sc (Value.int IntKind.i64 (0 : Int)),
 AV.sc (Value.int IntKind.i64 (0 : Int))])))
 False))
 False)
 (iteP
 (true &&
 (true &&
 decide
 ((11 : Int) ≤
 (↑((66 : UInt8) ::
 (69 : UInt8) ::
 (71 : UInt8) ::
 (73 : UInt8) ::
 (78 : UInt8) ::
 (32 : UInt8) ::
 (123 : UInt8) ::
 (32 : UInt8) ::
 (112 : UInt8) ::
 (114 : UInt8) ::
 (105 : UInt8) ::
 (110 : UInt8) ::
 (116 : UInt8) :: (32 : UInt8) :: (34 : UInt8) :: r).length :
 Int))))
 (True ∧
 ∀ (_ : Unit),
 True →
 iteP
 (decide
 ((11 : Int) <
 (↑((66 : UInt8) ::
 (69 : UInt8) ::
 (71 : UInt8) ::
 (73 : UInt8) ::
 (78 : UInt8) ::
 (32 : UInt8) ::
 (123 : UInt8) ::
 (32 : UInt8) ::
 (112 : UInt8) ::
 (114 : UInt8) ::
 (105 : UInt8) ::
 (110 : UInt8) ::
 (116 : UInt8) :: (32 : UInt8) :: (34 : UInt8) :: r).length :
 Int)))
 (iteP
 (inRange (11 : Int)
 ((66 : UInt8) ::
 (69 : UInt8) ::
 (71 : UInt8) ::
 (73 : UInt8) ::
 (78 : UInt8) ::
 (32 : UInt8) ::
 (123 : UInt8) ::
 (32 : UInt8) ::
 (112 : UInt8) ::
 (114 : UInt8) ::
 (105 : UInt8) ::
 (110 : UInt8) ::
 (116 : UInt8) :: (32 : UInt8) :: (34 : UInt8) :: r).length)
 (K
 (AV.tup
 [AV.agg
 [AV.sc (Value.int IntKind.i64 (4 : Int)),
 AV.sc
 (Value.string
 (ByteArray.mk
 (Array.mk
 (cutL
 ((66 : UInt8) ::
 (69 : UInt8) ::
 (71 : UInt8) ::
 (73 : UInt8) ::
 (78 : UInt8) ::
 (32 : UInt8) ::
 (123 : UInt8) ::
 (32 : UInt8) ::
 (112 : UInt8) ::
 (114 : UInt8) ::
 (105 : UInt8) ::
 (110 : UInt8) ::
 (116 : UInt8) ::
 (32 : UInt8) :: (34 : UInt8) :: r)
 (8 : Int) (11 : Int))))),
 AV.sc (Value.int IntKind.i64 (0 : Int)), AV.sc (Value.int IntKind.i64 (8 : Int))],
 AV.sc (Value.int IntKind.i64 (11 : Int)), AV.sc (Value.int IntKind.i64 (0 : Int)),
 AV.sc (Value.int IntKind.i64 (0 : Int))]))
 False)
 (K
 (AV.tup
 [AV.agg
 [AV.sc (Value.int IntKind.i64 (4 : Int)),
 AV.sc
 (Value.string
 (ByteArray.mk
 (Array.mk
 (cutL
 ((66 : UInt8) ::
 (69 : UInt8) ::
 (71 : UInt8) ::
 (73 : UInt8) ::
 (78 : UInt8) ::
 (32 : UInt8) ::
 (123 : UInt8) ::
 (32 : UInt8) ::
 (112 : UInt8) ::
 (114 : UInt8) ::
 (105 : UInt8) ::
 (110 : UInt8) ::
 (116 : UInt8) ::
 (32 : UInt8) :: (34 : UInt8) :: r)
 (8 : Int) (11 : Int))))),
 AV.sc (Value.int IntKind.i64 (0 : Int)), AV.sc (Value.int IntKind.i64 (8 : Int))],
 AV.sc (Value.int IntKind.i64 (11 : Int)), AV.sc (Value.int IntKind.i64 (0 : Int)),
 AV.sc (Value.int IntKind.i64 (0 : Int))])))
 False))
 False)
 (iteP
 (true &&
 (true &&
 decide
 ((10 : Int) ≤
 (↑((66 : UInt8) ::
 (69 : UInt8) ::
 (71 : UInt8) ::
 (73 : UInt8) ::
 (78 : UInt8) ::
 (32 : UInt8) ::
 (123 : UInt8) ::
 (32 : UInt8) ::
 (112 : UInt8) ::
 (114 : UInt8) ::
 (105 : UInt8) ::
 (110 : UInt8) ::
 (116 : UInt8) :: (32 : UInt8) :: (34 : UInt8) :: r).length :
 Int))))
 (True ∧
 ∀ (_ : Unit),
 True →
 iteP
 (decide
 ((10 : Int) <
 (↑((66 : UInt8) ::
 (69 : UInt8) ::
 (71 : UInt8) ::
 (73 : UInt8) ::
 (78 : UInt8) ::
 (32 : UInt8) ::
 (123 : UInt8) ::
 (32 : UInt8) ::
 (112 : UInt8) ::
 (114 : UInt8) ::
 (105 : UInt8) ::
 (110 : UInt8) ::
 (116 : UInt8) :: (32 : UInt8) :: (34 : UInt8) :: r).length :
 Int)))
 (iteP
 (inRange (10 : Int)
 ((66 : UInt8) ::
 (69 : UInt8) ::
 (71 : UInt8) ::
 (73 : UInt8) ::
 (78 : UInt8) ::
 (32 : UInt8) ::
 (123 : UInt8) ::
 (32 : UInt8) ::
 (112 : UInt8) ::
 (114 : UInt8) ::
 (105 : UInt8) ::
 (110 : UInt8) ::
 (116 : UInt8) :: (32 : UInt8) :: (34 : UInt8) :: r).length)
 (K
 (AV.tup
 [AV.agg
 [AV.sc (Value.int IntKind.i64 (4 : Int)),
 AV.sc
 (Value.string
 (ByteArray.mk
 (Array.mk
 (cutL
 ((66 : UInt8) ::
 (69 : UInt8) ::
 (71 : UInt8) ::
 (73 : UInt8) ::
 (78 : UInt8) ::
 (32 : UInt8) ::
 (123 : UInt8) ::
 (32 : UInt8) ::
 (112 : UInt8) ::
 (114 : UInt8) ::
 (105 : UInt8) ::
 (110 : UInt8) ::
 (116 : UInt8) :: (32 : UInt8) :: (34 : UInt8) :: r)
 (8 : Int) (10 : Int))))),
 AV.sc (Value.int IntKind.i64 (0 : Int)), AV.sc (Value.int IntKind.i64 (8 : Int))],
 AV.sc (Value.int IntKind.i64 (10 : Int)), AV.sc (Value.int IntKind.i64 (0 : Int)),
 AV.sc (Value.int IntKind.i64 (0 : Int))]))
 False)
 (K
 (AV.tup
 [AV.agg
 [AV.sc (Value.int IntKind.i64 (4 : Int)),
 AV.sc
 (Value.string
 (ByteArray.mk
 (Array.mk
 (cutL
 ((66 : UInt8) ::
 (69 : UInt8) ::
 (71 : UInt8) ::
 (73 : UInt8) ::
 (78 : UInt8) ::
 (32 : UInt8) ::
 (123 : UInt8) ::
 (32 : UInt8) ::
 (112 : UInt8) ::
 (114 : UInt8) ::
 (105 : UInt8) ::
 (110 : UInt8) ::
 (116 : UInt8) :: (32 : UInt8) :: (34 : UInt8) :: r)
 (8 : Int) (10 : Int))))),
 AV.sc (Value.int IntKind.i64 (0 : Int)), AV.sc (Value.int IntKind.i64 (8 : Int))],
 AV.sc (Value.int IntKind.i64 (10 : Int)), AV.sc (Value.int IntKind.i64 (0 : Int)),
 AV.sc (Value.int IntKind.i64 (0 : Int))])))
 False))
 False)
 (iteP
 (true &&
 (true &&
 decide
 ((9 : Int) ≤
 (↑((66 : UInt8) ::
 (69 : UInt8) ::
 (71 : UInt8) ::
 (73 : UInt8) ::
 (78 : UInt8) ::
 (32 : UInt8) ::
 (123 : UInt8) ::
 (32 : UInt8) ::
 (112 : UInt8) ::
 (114 : UInt8) ::
 (105 : UInt8) ::
 (110 : UInt8) ::
 (116 : UInt8) :: (32 : UInt8) :: (34 : UInt8) :: r).length :
 Int))))
 (True ∧
 ∀ (_ : Unit),
 True →
 iteP
 (decide
 ((9 : Int) <
 (↑((66 : UInt8) ::
 (69 : UInt8) ::
 (71 : UInt8) ::
 (73 : UInt8) ::
 (78 : UInt8) ::
 (32 : UInt8) ::
 (123 : UInt8) ::
 (32 : UInt8) ::
 (112 : UInt8) ::
 (114 : UInt8) ::
 (105 : UInt8) ::
 (110 : UInt8) ::
 (116 : UInt8) :: (32 : UInt8) :: (34 : UInt8) :: r).length :
 Int)))
 (iteP
 (inRange (9 : Int)
 ((66 : UInt8) ::
 (69 : UInt8) ::
 (71 : UInt8) ::
 (73 : UInt8) ::
 (78 : UInt8) ::
 (32 : UInt8) ::
 (123 : UInt8) ::
 (32 : UInt8) ::
 (112 : UInt8) ::
 (114 : UInt8) ::
 (105 : UInt8) ::
 (110 : UInt8) ::
 (116 : UInt8) :: (32 : UInt8) :: (34 : UInt8) :: r).length)
 (K
 (AV.tup
 [AV.agg
 [AV.sc (Value.int IntKind.i64 (4 : Int)),
 AV.sc
 (Value.string
 (ByteArray.mk
 (Array.mk
 (cutL
 ((66 : UInt8) ::
 (69 : UInt8) ::
 (71 : UInt8) ::
 (73 : UInt8) ::
 (78 : UInt8) ::
 (32 : UInt8) ::
 (123 : UInt8) ::
 (32 : UInt8) ::
 (112 : UInt8) ::
 (114 : UInt8) ::
 (105 : UInt8) ::
 (110 : UInt8) ::
 (116 : UInt8) :: (32 : UInt8) :: (34 : UInt8) :: r)
 (8 : Int) (9 : Int))))),
 AV.sc (Value.int IntKind.i64 (0 : Int)), AV.sc (Value.int IntKind.i64 (8 : Int))],
 AV.sc (Value.int IntKind.i64 (9 : Int)), AV.sc (Value.int IntKind.i64 (0 : Int)),
 AV.sc (Value.int IntKind.i64 (0 : Int))]))
 False)
 (K
 (AV.tup
 [AV.agg
 [AV.sc (Value.int IntKind.i64 (4 : Int)),
 AV.sc
 (Value.string
 (ByteArray.mk
 (Array.mk
 (cutL
 ((66 : UInt8) ::
 (69 : UInt8) ::
 (71 : UInt8) ::
 (73 : UInt8) ::
 (78 : UInt8) ::
 (32 : UInt8) ::
 (123 : UInt8) ::
 (32 : UInt8) ::
 (112 : UInt8) ::
 (114 : UInt8) ::
 (105 : UInt8) ::
 (110 : UInt8) ::
 (116 : UInt8) :: (32 : UInt8) :: (34 : UInt8) :: r)
 (8 : Int) (9 : Int))))),
 AV.sc (Value.int IntKind.i64 (0 : Int)), AV.sc (Value.int IntKind.i64 (8 : Int))],
 AV.sc (Value.int IntKind.i64 (9 : Int)), AV.sc (Value.int IntKind.i64 (0 : Int)),
 AV.sc (Value.int IntKind.i64 (0 : Int))])))
 False))
 False)
 (iteP
 (true &&
 (true &&
 decide
 ((8 : Int) ≤
 (↑((66 : UInt8) ::
 (69 : UInt8) ::
 (71 : UInt8) ::
 (73 : UInt8) ::
 (78 : UInt8) ::
 (32 : UInt8) ::
 (123 : UInt8) ::
 (32 : UInt8) ::
 (112 : UInt8) ::
 (114 : UInt8) ::
 (105 : UInt8) ::
 (110 : UInt8) :: (116 : UInt8) :: (32 : UInt8) :: (34 : UInt8) :: r).length :
 Int))))
 (True ∧
 ∀ (_ : Unit),
 True →
 iteP
 (decide
 ((8 : Int) <
 (↑((66 : UInt8) ::
 (69 : UInt8) ::
 (71 : UInt8) ::
 (73 : UInt8) ::
 (78 : UInt8) ::
 (32 : UInt8) ::
 (123 : UInt8) ::
 (32 : UInt8) ::
 (112 : UInt8) ::
 (114 : UInt8) ::
 (105 : UInt8) ::
 (110 : UInt8) ::
 (116 : UInt8) :: (32 : UInt8) :: (34 : UInt8) :: r).length :
 Int)))
 (iteP
 (inRange (8 : Int)
 ((66 : UInt8) ::
 (69 : UInt8) ::
 (71 : UInt8) ::
 (73 : UInt8) ::
 (78 : UInt8) ::
 (32 : UInt8) ::
 (123 : UInt8) ::
 (32 : UInt8) ::
 (112 : UInt8) ::
 (114 : UInt8) ::
 (105 : UInt8) ::
 (110 : UInt8) :: (116 : UInt8) :: (32 : UInt8) :: (34 : UInt8) :: r).length)
 (K
 (AV.tup
 [AV.agg
 [AV.sc (Value.int IntKind.i64 (4 : Int)),
 AV.sc
 (Value.string
 (ByteArray.mk
 (Array.mk
 (cutL
 ((66 : UInt8) ::
 (69 : UInt8) ::
 (71 : UInt8) ::
 (73 : UInt8) ::
 (78 : UInt8) ::
 (32 : UInt8) ::
 (123 : UInt8) ::
 (32 : UInt8) ::
 (112 : UInt8) ::
 (114 : UInt8) ::
 (105 : UInt8) ::
 (110 : UInt8) ::
 (116 : UInt8) :: (32 : UInt8) :: (34 : UInt8) :: r)
 (8 : Int) (8 : Int))))),
 AV.sc (Value.int IntKind.i64 (0 : Int)), AV.sc (Value.int IntKind.i64 (8 : Int))],
 AV.sc (Value.int IntKind.i64 (8 : Int)), AV.sc (Value.int IntKind.i64 (0 : Int)),
 AV.sc (Value.int IntKind.i64 (0 : Int))]))
 False)
 (K
 (AV.tup
 [AV.agg
 [AV.sc (Value.int IntKind.i64 (4 : Int)),
 AV.sc
 (Value.string
 (ByteArray.mk
 (Array.mk
 (cutL
 ((66 : UInt8) ::
 (69 : UInt8) ::
 (71 : UInt8) ::
 (73 : UInt8) ::
 (78 : UInt8) ::
 (32 : UInt8) ::
 (123 : UInt8) ::
 (32 : UInt8) ::
 (112 : UInt8) ::
 (114 : UInt8) ::
 (105 : UInt8) ::
 (110 : UInt8) ::
 (116 : UInt8) :: (32 : UInt8) :: (34 : UInt8) :: r)
 (8 : Int) (8 : Int))))),
 AV.sc (Value.int IntKind.i64 (0 : Int)), AV.sc (Value.int IntKind.i64 (8 : Int))],
 AV.sc (Value.int IntKind.i64 (8 : Int)), AV.sc (Value.int IntKind.i64 (0 : Int)),
 AV.sc (Value.int IntKind.i64 (0 : Int))])))
 False))
 False) :
 (fun (r : List UInt8) (k n t : Int) (w : List UInt8) (K : AV → Prop) => wpCall TW cfg Tryz.prog 80 97 [aStr (sP r), iA 8, befA k n t w] heapF fun r h' => wpBack h' r K) r k n t w K :=
 Eq.mp (by kernel_rfl) h
end
end Go.Proofs.Sf.Tx
namespace Go.Proofs.Sf.Tx
open Go Go.Ef
noncomputable section
set_option maxRecDepth 100000
theorem sP_len (r : List UInt8) : ((sP r).length : Int) = r.length + 15 := by simp [sP]; omega
theorem okCE {T : Tab} (O : Ok T) {g : FuncId} : Ok (T.addC g (CE g)) := by
 refine addC_ok O fun args h s hs hp => ?_
 unfold CE at hs
 split at hs
 ·rename_i v h' e
  cases hs
  exact ⟨_, List.mem_singleton.2 rfl, (), 400, trivial, e⟩
 ·cases hs
theorem okTW : Ok TW := okCE (okNo (okNo (okNo (okNo okX 94) 141) 142) 140)
theorem okTM : Ok TM := okCE (okNo (okNo (okNo (okNo okX 94) 141) 139) 140)
theorem word0 (r : List UInt8) (hr : r.length ≤ 4294967000) (k n t : Int) (w : List UInt8) : wpCall TW cfg Tryz.prog 80 97 [aStr (sP r), iA 0, befA k n t w] heapF fun x h' => wpBack h' x fun v => v = TokV (6, [66, 69, 71, 73, 78], 0) 5 := by
 refine tWord0 r k n t w _ ?_
 repeat' first
  | exact rfl
  | refine it (by simp [inRange]; omega) ?_
  | refine it (by simp [inRange]) ?_
  | exact ⟨trivial, fun _ _ => rfl⟩
  | refine ⟨trivial, fun _ _ => ?_⟩
theorem word8 (r : List UInt8) (hr : r.length ≤ 4294967000) (k n t : Int) (w : List UInt8) : wpCall TW cfg Tryz.prog 80 97 [aStr (sP r), iA 8, befA k n t w] heapF fun x h' => wpBack h' x fun v => v = TokV (6, [112, 114, 105, 110, 116], 8) 13 := by
 refine tWord8 r k n t w _ ?_
 repeat' first
  | exact rfl
  | refine it (by simp [inRange]; omega) ?_
  | refine it (by simp [inRange]) ?_
  | refine ⟨trivial, fun _ _ => ?_⟩
theorem mark6 (r : List UInt8) (hr : r.length ≤ 4294967000) (k n t : Int) (w : List UInt8) : wpCall TM cfg Tryz.prog 80 97 [aStr (sP r), iA 6, befA k n t w] heapF fun x h' => wpBack h' x fun v => v = TokV (7, [123], 6) 7 := by
 refine tMark6 r k n t w _ ?_
 repeat' first
  | exact rfl
  | refine it (by simp [inRange]; omega) ?_
  | refine it (by simp [inRange]) ?_
  | refine ⟨trivial, fun _ _ => ?_⟩
end
end Go.Proofs.Sf.Tx
namespace Go.Proofs.Sf.Tx
open Go Go.Ef
noncomputable section
set_option maxRecDepth 100000
theorem among_ev : yes (callP cfg (evCall cfg Tryz.prog 400) 182 [aStr [125], aStr marks] heapF) = true := by kernel_rfl
theorem ok182 {T : Tab} (O : Ok T) : Ok (T.addC 182 C182) := by
 refine addC_ok O fun args h s hs hp => ?_
 unfold C182 at hs
 split at hs
 ·rename_i w l
  cases hs
  have e1 : w.data.toList = [125] := hp.w
  have e2 : l.data.toList = marks := hp.l
  have hw : (.sc (.string w) : AV) = aStr [125] := by show AV.sc (.string ⟨⟨w.data.toList⟩⟩) = _; rw [e1]; rfl
  have hl : (.sc (.string l) : AV) = aStr marks := by show AV.sc (.string ⟨⟨l.data.toList⟩⟩) = _; rw [e2]; rfl
  rw [hw, hl]
  obtain ⟨h', e⟩ := yes_spec among_ev
  have hf : cfg.fresh 182 = true := by kernel_rfl
  refine ⟨_, List.mem_singleton.2 rfl, (), 400, trivial, ?_⟩
  unfold callP at e ⊢
  rw [show cfg.prim 182 = none from rfl] at e ⊢
  simp only [] at e ⊢
  rw [hf] at e ⊢
  simp only [cond_true] at e ⊢
  rw [show mapO (stripA 8) [aStr [125], aStr marks] = some [aStr [125], aStr marks] from rfl] at e ⊢
  simp only [] at e ⊢
  split at e
  ·split at e
   ·cases e
    rfl
   ·cases e
  ·cases e
 ·cases hs
theorem okTB : Ok TB := okNo (okNo (okNo (okNo (ok182 (ok138 (ok137 okX))) 94) 139) 141) 140
theorem brace_law (p : List UInt8) (hl : p.length ≤ 4294967000) (k n t : Int) (w : List UInt8) :
  wpCall TB cfg Tryz.prog 80 97 [aStr (p ++ [125]), iA p.length, befA k n t w] heapF fun r h' => wpBack h' r fun v => v = TokV (7, [125], p.length) (p.length + 1) := by
 obtain ⟨s, hs⟩ : ∃ s, s = p ++ [125] := ⟨_, rfl⟩
 have hb : byteAt s p.length = 125 := by rw [hs]; exact byteAt_app p [] 125 rfl
 have hlen : (s.length : Int) = p.length + 1 := by rw [hs]; simp
 have hc : cutL s p.length ((p.length : Int) + 1) = [125] := by
  rw [hs]
  unfold cutL
  rw [show ((p.length : Int) + 1).toNat = (p ++ [125]).length by simp, List.take_length, Int.toNat_natCast, List.drop_left]
 rw [← hs]
 have hr := inR (s := s) (i := (p.length : Int)) (by omega) (by omega)
 have hw : IntKind.i64.wrap ((p.length : Int) + 1) = (p.length : Int) + 1 := wrap_in (by omega) (by omega)
 have hw2 : IntKind.i64.wrap ((p.length : Int) + 2) = (p.length : Int) + 2 := wrap_in (by omega) (by omega)
 refine tBrace s p.length k n t w _ ?_
 rw [hb, hw, hw2, hc]
 have hin : (decide ((0 : Int) ≤ p.length) && (decide ((p.length : Int) ≤ (p.length : Int) + 1) && decide ((p.length : Int) + 1 ≤ (s.length : Int)))) = true := by
  simp only [Bool.and_eq_true, decide_eq_true_eq]
  exact ⟨by omega, by omega, by omega⟩
 refine it hr ⟨trivial, fun x hx => ie (by rw [hx]; rfl) (ie rfl ⟨trivial, fun y hy => ie (by rw [hy]; rfl) (ie rfl (ie rfl (ie (df (by omega)) (it hin ⟨⟨rfl, rfl⟩, fun _ _ => it hin rfl⟩))))⟩)⟩
theorem ok97 {T : Tab} (O : Ok T) : Ok (T.addC 97 C97) := by
 refine addC_ok O fun args h s hs hp => ?_
 unfold C97 at hs
 split at hs
 ·rename_i s at_ k w n t
  cases hs
  obtain ⟨row, kk, hT⟩ := hp.is
  have key : ∃ T' : Tab, Ok T' ∧ wpCall T' cfg Tryz.prog 80 97 [aStr s.data.toList, iA at_, befA k n t w.data.toList] heapF fun r h' => wpBack h' r fun v => v = TokV row kk := by
   generalize s.data.toList = s at hT
   cases hT with
   | w0 r hr => exact ⟨TW, okTW, word0 r hr k n t _⟩
   | m6 r hr => exact ⟨TM, okTM, mark6 r hr k n t _⟩
   | w8 r hr => exact ⟨TW, okTW, word8 r hr k n t _⟩
   | str p a q n' k' h1 h2 h3 h4 h5 => subst h4 h5; exact ⟨TQ, okTQ, quote_law p a q h1 h2 h3 k n t _⟩
   | brace p n' h1 h2 => subst h2; exact ⟨TB, okTB, brace_law p h1 k n t _⟩
  obtain ⟨T', O', key⟩ := key
  obtain ⟨m, v, h', e, rfl, rfl⟩ := EvP.freshV (g := 97) (args := [.sc (.string s), .sc (.int .i64 at_), .agg [.sc (.int .i64 k), .sc (.string w), .sc (.int .i64 n), .sc (.int .i64 t)]]) (h := h) (v := TokV row kk) O' (n := 80) (by kernel_rfl) rfl (args' := [.sc (.string s), .sc (.int .i64 at_), .agg [.sc (.int .i64 k), .sc (.string w), .sc (.int .i64 n), .sc (.int .i64 t)]]) rfl key
  exact ⟨_, List.mem_singleton.2 rfl, (row.1, row.2.1, row.2.2, kk), m, hT, e⟩
 ·cases hs
end
end Go.Proofs.Sf.Tx
namespace Go.Proofs.Sf.Tx
open Go Go.Ef
noncomputable section
set_option maxRecDepth 100000
theorem z64 (s : List UInt8) (i : Int) (N : Int → List (List AV) → Nat → Prop) (M : Int → Prop) (h :
 iteP (decide (i < (↑s.length : Int)))
 (True ∧
 ∀ (_ : Unit),
 True →
 Skips s i ∧
 ∀ (x : Int),
 x = skipF s i →
 iteP (decide (i < x)) (Z64 s x = Z64 s x ∧ M x)
 (iteP (inRange i s.length)
 (iteP (byteAt s i == (10 : Int))
 (I64 s (IntKind.i64.wrap (i + (1 : Int)))
 [[AV.sc (Value.int IntKind.i64 (8 : Int)), AV.sc (Value.string (ByteArray.mk (Array.mk []))),
 AV.sc (Value.int IntKind.i64 (0 : Int)), AV.sc (Value.int IntKind.i64 i)]]
 [[AV.sc (Value.int IntKind.i64 (8 : Int)), AV.sc (Value.string (ByteArray.mk (Array.mk []))),
 AV.sc (Value.int IntKind.i64 (0 : Int)), AV.sc (Value.int IntKind.i64 i)]].length =
 I64 s (IntKind.i64.wrap (i + (1 : Int)))
 [[AV.sc (Value.int IntKind.i64 (8 : Int)), AV.sc (Value.string (ByteArray.mk (Array.mk []))),
 AV.sc (Value.int IntKind.i64 (0 : Int)), AV.sc (Value.int IntKind.i64 i)]]
 [[AV.sc (Value.int IntKind.i64 (8 : Int)), AV.sc (Value.string (ByteArray.mk (Array.mk []))),
 AV.sc (Value.int IntKind.i64 (0 : Int)), AV.sc (Value.int IntKind.i64 i)]].length ∧
 N (IntKind.i64.wrap (i + (1 : Int)))
 [[AV.sc (Value.int IntKind.i64 (8 : Int)), AV.sc (Value.string (ByteArray.mk (Array.mk []))),
 AV.sc (Value.int IntKind.i64 (0 : Int)), AV.sc (Value.int IntKind.i64 i)]]
 [[AV.sc (Value.int IntKind.i64 (8 : Int)), AV.sc (Value.string (ByteArray.mk (Array.mk []))),
 AV.sc (Value.int IntKind.i64 (0 : Int)), AV.sc (Value.int IntKind.i64 i)]].length)
 (True ∧
 ∀ (_ : Unit),
 True →
 TokAt s i ∧
 ∀ (x : Int × List UInt8 × Int × Int),
 TokIs s i (x.fst, x.snd.fst, x.snd.snd.fst) x.snd.snd.snd →
 I64 s x.snd.snd.snd
 [[AV.sc (Value.int IntKind.i64 x.fst),
 AV.sc (Value.string (ByteArray.mk (Array.mk x.snd.fst))),
 AV.sc (Value.int IntKind.i64 (0 : Int)),
 AV.sc (Value.int IntKind.i64 x.snd.snd.fst)]]
 [[AV.sc (Value.int IntKind.i64 x.fst),
 AV.sc (Value.string (ByteArray.mk (Array.mk x.snd.fst))),
 AV.sc (Value.int IntKind.i64 (0 : Int)),
 AV.sc (Value.int IntKind.i64 x.snd.snd.fst)]].length =
 I64 s x.snd.snd.snd
 [[AV.sc (Value.int IntKind.i64 x.fst),
 AV.sc (Value.string (ByteArray.mk (Array.mk x.snd.fst))),
 AV.sc (Value.int IntKind.i64 (0 : Int)),
 AV.sc (Value.int IntKind.i64 x.snd.snd.fst)]]
 [[AV.sc (Value.int IntKind.i64 x.fst),
 AV.sc (Value.string (ByteArray.mk (Array.mk x.snd.fst))),
 AV.sc (Value.int IntKind.i64 (0 : Int)),
 AV.sc (Value.int IntKind.i64 x.snd.snd.fst)]].length ∧
 N x.snd.snd.snd
 [[AV.sc (Value.int IntKind.i64 x.fst),
 AV.sc (Value.string (ByteArray.mk (Array.mk x.snd.fst))),
 AV.sc (Value.int IntKind.i64 (0 : Int)),
 AV.sc (Value.int IntKind.i64 x.snd.snd.fst)]]
 [[AV.sc (Value.int IntKind.i64 x.fst),
 AV.sc (Value.string (ByteArray.mk (Array.mk x.snd.fst))),
 AV.sc (Value.int IntKind.i64 (0 : Int)),
 AV.sc (Value.int IntKind.i64 x.snd.snd.fst)]].length))
 False))
 False) :
 (fun (s : List UInt8) (i : Int) (N : Int → List (List AV) → Nat → Prop) (M : Int → Prop) => wpRound TTk cfg Tryz.prog 60 64 6 (Z64 s i) (n64 s N M) (fun _ _ => False)) s i N M :=
 Eq.mp (by kernel_rfl) h
theorem r64 (s : List UInt8) (i : Int) (els : List (List AV)) (n : Nat) (N : Int → List (List AV) → Nat → Prop) (X : Prop) (h :
 iteP (decide (i < (↑s.length : Int)))
 (TokRow els ∧
 ∀ (_ : Int × List UInt8 × Int × Int),
 True →
 Skips s i ∧
 ∀ (x : Int),
 x = skipF s i →
 iteP (decide (i < x)) (I64 s x els n = I64 s x els n ∧ N x els n)
 (iteP (inRange i s.length)
 (iteP (byteAt s i == (10 : Int))
 (iteP
 (allLen (4 : Nat) els &&
 fits
 (els.length +
 [[AV.sc (Value.int IntKind.i64 (8 : Int)),
 AV.sc (Value.string (ByteArray.mk (Array.mk []))),
 AV.sc (Value.int IntKind.i64 (0 : Int)), AV.sc (Value.int IntKind.i64 i)]].length)
 (40 : Nat))
 (iteP (decide (els.length = n))
 (I64 s (IntKind.i64.wrap (i + (1 : Int)))
 (els ++
 [[AV.sc (Value.int IntKind.i64 (8 : Int)),
 AV.sc (Value.string (ByteArray.mk (Array.mk []))),
 AV.sc (Value.int IntKind.i64 (0 : Int)), AV.sc (Value.int IntKind.i64 i)]])
 (n +
 [[AV.sc (Value.int IntKind.i64 (8 : Int)),
 AV.sc (Value.string (ByteArray.mk (Array.mk []))),
 AV.sc (Value.int IntKind.i64 (0 : Int)),
 AV.sc (Value.int IntKind.i64 i)]].length) =
 I64 s (IntKind.i64.wrap (i + (1 : Int)))
 (els ++
 [[AV.sc (Value.int IntKind.i64 (8 : Int)),
 AV.sc (Value.string (ByteArray.mk (Array.mk []))),
 AV.sc (Value.int IntKind.i64 (0 : Int)), AV.sc (Value.int IntKind.i64 i)]])
 (n +
 [[AV.sc (Value.int IntKind.i64 (8 : Int)),
 AV.sc (Value.string (ByteArray.mk (Array.mk []))),
 AV.sc (Value.int IntKind.i64 (0 : Int)),
 AV.sc (Value.int IntKind.i64 i)]].length) ∧
 N (IntKind.i64.wrap (i + (1 : Int)))
 (els ++
 [[AV.sc (Value.int IntKind.i64 (8 : Int)),
 AV.sc (Value.string (ByteArray.mk (Array.mk []))),
 AV.sc (Value.int IntKind.i64 (0 : Int)), AV.sc (Value.int IntKind.i64 i)]])
 (n +
 [[AV.sc (Value.int IntKind.i64 (8 : Int)),
 AV.sc (Value.string (ByteArray.mk (Array.mk []))),
 AV.sc (Value.int IntKind.i64 (0 : Int)), AV.sc (Value.int IntKind.i64 i)]].length))
 False)
 False)
 (TokRow els ∧
 ∀ (_ : Int × List UInt8 × Int × Int),
 True →
 TokAt s i ∧
 ∀ (x : Int × List UInt8 × Int × Int),
 TokIs s i (x.fst, x.snd.fst, x.snd.snd.fst) x.snd.snd.snd →
 iteP
 (allLen (4 : Nat) els &&
 fits
 (els.length +
 [[AV.sc (Value.int IntKind.i64 x.fst),
 AV.sc (Value.string (ByteArray.mk (Array.mk x.snd.fst))),
 AV.sc (Value.int IntKind.i64 (0 : Int)),
 AV.sc (Value.int IntKind.i64 x.snd.snd.fst)]].length)
 (40 : Nat))
 (iteP (decide (els.length = n))
 (I64 s x.snd.snd.snd
 (els ++
 [[AV.sc (Value.int IntKind.i64 x.fst),
 AV.sc (Value.string (ByteArray.mk (Array.mk x.snd.fst))),
 AV.sc (Value.int IntKind.i64 (0 : Int)),
 AV.sc (Value.int IntKind.i64 x.snd.snd.fst)]])
 (n +
 [[AV.sc (Value.int IntKind.i64 x.fst),
 AV.sc (Value.string (ByteArray.mk (Array.mk x.snd.fst))),
 AV.sc (Value.int IntKind.i64 (0 : Int)),
 AV.sc (Value.int IntKind.i64 x.snd.snd.fst)]].length) =
 I64 s x.snd.snd.snd
 (els ++
 [[AV.sc (Value.int IntKind.i64 x.fst),
 AV.sc (Value.string (ByteArray.mk (Array.mk x.snd.fst))),
 AV.sc (Value.int IntKind.i64 (0 : Int)),
 AV.sc (Value.int IntKind.i64 x.snd.snd.fst)]])
 (n +
 [[AV.sc (Value.int IntKind.i64 x.fst),
 AV.sc (Value.string (ByteArray.mk (Array.mk x.snd.fst))),
 AV.sc (Value.int IntKind.i64 (0 : Int)),
 AV.sc (Value.int IntKind.i64 x.snd.snd.fst)]].length) ∧
 N x.snd.snd.snd
 (els ++
 [[AV.sc (Value.int IntKind.i64 x.fst),
 AV.sc (Value.string (ByteArray.mk (Array.mk x.snd.fst))),
 AV.sc (Value.int IntKind.i64 (0 : Int)),
 AV.sc (Value.int IntKind.i64 x.snd.snd.fst)]])
 (n +
 [[AV.sc (Value.int IntKind.i64 x.fst),
 AV.sc (Value.string (ByteArray.mk (Array.mk x.snd.fst))),
 AV.sc (Value.int IntKind.i64 (0 : Int)),
 AV.sc (Value.int IntKind.i64 x.snd.snd.fst)]].length))
 False)
 False))
 False))
 (Ex.exit (0 : Nat) = Ex.exit (0 : Nat) ∧ X64 s els n = X64 s els n ∧ X)) :
 (fun (s : List UInt8) (i : Int) (els : List (List AV)) (n : Nat) (N : Int → List (List AV) → Nat → Prop) (X : Prop) => wpRound TTk cfg Tryz.prog 60 64 6 (I64 s i els n) (fun τ => τ = I64 s (slI τ 6) (slEls τ 5) (ownN τ.h) ∧ N (slI τ 6) (slEls τ 5) (ownN τ.h)) (q64 s els n X)) s i els n N X :=
 Eq.mp (by kernel_rfl) h
theorem vTx (a : List UInt8) (b : List UInt8) (K : AV → Prop) (h :
 Sized a ∧
 ∀ (x : Bool),
 x = plainB a →
 iteP x
 (Sized b ∧
 ∀ (x : Bool),
 x = plainB b →
 iteP x
 (iteP
 (strFits
 [(66 : UInt8), (69 : UInt8), (71 : UInt8), (73 : UInt8), (78 : UInt8), (32 : UInt8), (123 : UInt8),
 (32 : UInt8), (112 : UInt8), (114 : UInt8), (105 : UInt8), (110 : UInt8), (116 : UInt8),
 (32 : UInt8), (34 : UInt8)]
 a)
 (iteP
 (strFits
 ([(66 : UInt8), (69 : UInt8), (71 : UInt8), (73 : UInt8), (78 : UInt8), (32 : UInt8),
 (123 : UInt8), (32 : UInt8), (112 : UInt8), (114 : UInt8), (105 : UInt8), (110 : UInt8),
 (116 : UInt8), (32 : UInt8), (34 : UInt8)] ++
 a)
 [(34 : UInt8), (32 : UInt8), (34 : UInt8)])
 (iteP
 (strFits
 ([(66 : UInt8), (69 : UInt8), (71 : UInt8), (73 : UInt8), (78 : UInt8), (32 : UInt8),
 (123 : UInt8), (32 : UInt8), (112 : UInt8), (114 : UInt8), (105 : UInt8), (110 : UInt8),
 (116 : UInt8), (32 : UInt8), (34 : UInt8)] ++
 a ++
 [(34 : UInt8), (32 : UInt8), (34 : UInt8)])
 b)
 (iteP
 (strFits
 ([(66 : UInt8), (69 : UInt8), (71 : UInt8), (73 : UInt8), (78 : UInt8), (32 : UInt8),
 (123 : UInt8), (32 : UInt8), (112 : UInt8), (114 : UInt8), (105 : UInt8),
 (110 : UInt8), (116 : UInt8), (32 : UInt8), (34 : UInt8)] ++
 a ++
 [(34 : UInt8), (32 : UInt8), (34 : UInt8)] ++
 b)
 [(34 : UInt8), (32 : UInt8), (125 : UInt8)])
 (iteP
 (decide
 ((8192 : Int) <
 (↑([(66 : UInt8), (69 : UInt8), (71 : UInt8), (73 : UInt8), (78 : UInt8), (32 : UInt8),
 (123 : UInt8), (32 : UInt8), (112 : UInt8), (114 : UInt8), (105 : UInt8),
 (110 : UInt8), (116 : UInt8), (32 : UInt8), (34 : UInt8)] ++
 a ++
 [(34 : UInt8), (32 : UInt8), (34 : UInt8)] ++
 b ++
 [(34 : UInt8), (32 : UInt8), (125 : UInt8)]).length :
 Int)))
 (True ∧ ∀ (_ : Unit), True → K (AV.sc (Value.bool true)))
 (Text
 ([(66 : UInt8), (69 : UInt8), (71 : UInt8), (73 : UInt8), (78 : UInt8), (32 : UInt8),
 (123 : UInt8), (32 : UInt8), (112 : UInt8), (114 : UInt8), (105 : UInt8),
 (110 : UInt8), (116 : UInt8), (32 : UInt8), (34 : UInt8)] ++
 a ++
 [(34 : UInt8), (32 : UInt8), (34 : UInt8)] ++
 b ++
 [(34 : UInt8), (32 : UInt8), (125 : UInt8)]) ∧
 ∀ (x : List UInt8 × List UInt8 × Int × Int × Int),
 IsText
 ([(66 : UInt8), (69 : UInt8), (71 : UInt8), (73 : UInt8), (78 : UInt8), (32 : UInt8),
 (123 : UInt8), (32 : UInt8), (112 : UInt8), (114 : UInt8), (105 : UInt8),
 (110 : UInt8), (116 : UInt8), (32 : UInt8), (34 : UInt8)] ++
 a ++
 [(34 : UInt8), (32 : UInt8), (34 : UInt8)] ++
 b ++
 [(34 : UInt8), (32 : UInt8), (125 : UInt8)])
 x.fst x.snd.fst x.snd.snd.fst x.snd.snd.snd.fst x.snd.snd.snd.snd →
 True ∧
 ∀ (_ : List UInt8 × List UInt8 × List UInt8 × List (List AV)),
 True →
 iteP (strFits x.fst x.snd.fst)
 (iteP (decide ((↑(x.fst ++ x.snd.fst).length : Int) ≤ (16384 : Int)))
 (iteP (strFits a b)
 (iteP (decide (x.fst ++ x.snd.fst = a ++ b))
 (True ∧ ∀ (_ : Unit), True → K (AV.sc (Value.bool true)))
 (K (AV.sc (Value.bool false))))
 False)
 (K (AV.sc (Value.bool false))))
 False))
 False)
 False)
 False)
 False)
 (True ∧ ∀ (_ : Unit), True → K (AV.sc (Value.bool true))))
 (True ∧ ∀ (_ : Unit), True → K (AV.sc (Value.bool true)))) :
 (fun (a b : List UInt8) (K : AV → Prop) => wpCall TTx cfg Tryz.prog 300 8 [aStr a, aStr b] heap0 fun r _ => K r) a b K :=
 Eq.mp (by kernel_rfl) h
end
end Go.Proofs.Sf.Tx
namespace Go.Proofs.Sf.Tx
open Go Go.Ef
noncomputable section
set_option maxRecDepth 100000
theorem v96n (K : AV → Prop) (h :
 K
 (AV.agg
 [AV.sc (Value.int IntKind.i64 (0 : Int)), AV.sc (Value.string (ByteArray.mk (Array.mk []))),
 AV.sc (Value.int IntKind.i64 (0 : Int)), AV.sc (Value.int IntKind.i64 (0 : Int))])) :
 (fun (K : AV → Prop) => wpCall tab0 cfg Tryz.prog 60 96 [nilA] heapF fun r h' => wpBack h' r K) K :=
 Eq.mp (by kernel_rfl) h
theorem v96 (els : List (List AV)) (K : AV → Prop) (h :
 iteP ((↑els.length : Int) == (0 : Int))
 (K
 (AV.agg
 [AV.sc (Value.int IntKind.i64 (0 : Int)), AV.sc (Value.string (ByteArray.mk (Array.mk []))),
 AV.sc (Value.int IntKind.i64 (0 : Int)), AV.sc (Value.int IntKind.i64 (0 : Int))]))
 (iteP (inRange (IntKind.i64.wrap ((↑els.length : Int) - (1 : Int))) els.length)
 (getI (IntKind.i64.wrap ((↑els.length : Int) - (1 : Int))).toNat els =
 some
 [AV.sc (Value.int IntKind.i64 (cellInt els (IntKind.i64.wrap ((↑els.length : Int) - (1 : Int))) (0 : Nat))),
 AV.sc
 (Value.string
 (ByteArray.mk (Array.mk (cellStr els (IntKind.i64.wrap ((↑els.length : Int) - (1 : Int))) (1 : Nat))))),
 AV.sc (Value.int IntKind.i64 (cellInt els (IntKind.i64.wrap ((↑els.length : Int) - (1 : Int))) (2 : Nat))),
 AV.sc
 (Value.int IntKind.i64 (cellInt els (IntKind.i64.wrap ((↑els.length : Int) - (1 : Int))) (3 : Nat)))] ∧
 K
 (AV.agg
 [AV.sc (Value.int IntKind.i64 (cellInt els (IntKind.i64.wrap ((↑els.length : Int) - (1 : Int))) (0 : Nat))),
 AV.sc
 (Value.string
 (ByteArray.mk (Array.mk (cellStr els (IntKind.i64.wrap ((↑els.length : Int) - (1 : Int))) (1 : Nat))))),
 AV.sc (Value.int IntKind.i64 (cellInt els (IntKind.i64.wrap ((↑els.length : Int) - (1 : Int))) (2 : Nat))),
 AV.sc
 (Value.int IntKind.i64 (cellInt els (IntKind.i64.wrap ((↑els.length : Int) - (1 : Int))) (3 : Nat)))]))
 False)) :
 (fun (els : List (List AV)) (K : AV → Prop) => wpCall tab0 cfg Tryz.prog 60 96 [.sl els 0] heapF fun r h' => wpBack h' r K) els K :=
 Eq.mp (by kernel_rfl) h
end
end Go.Proofs.Sf.Tx
namespace Go.Proofs.Sf.Tx
open Go Go.Ef
noncomputable section
set_option maxRecDepth 100000
theorem ok96 {T : Tab} (O : Ok T) : Ok (T.addC 96 C96) := by
 refine addC_ok O fun args h s hs hp => ?_
 unfold C96 at hs
 split at hs
 ·cases hs
  obtain ⟨m, v, h', e, rfl, rfl⟩ := EvP.freshV (g := 96) (args := [nilA]) (h := h) (v := befA 0 0 0 []) tab0_ok (n := 60) (by kernel_rfl) rfl (args' := [nilA]) rfl (v96n _ rfl)
  exact ⟨_, List.mem_singleton.2 rfl, (), m, trivial, e⟩
 ·rename_i els tok
  cases hs
  obtain ⟨l, k, t, n, a, hl, hle⟩ := hp.is
  have hp2 : plainEls els = true := hp.plain
  have hn : els.length = l.length + 1 := by rw [hl]; simp
  have hw : IntKind.i64.wrap ((els.length : Int) - 1) = (l.length : Int) := by rw [wrap_in (by omega) (by omega)]; omega
  have hc : ∀ j, cellAt els (l.length : Int) j = ([.sc (.int .i64 k), .sc (.string t), .sc (.int .i64 n), .sc (.int .i64 a)] : List AV)[j]? := by
   intro j
   unfold cellAt
   rw [Int.toNat_natCast, hl]
   simp [getI_eq]
  have key : wpCall tab0 cfg Tryz.prog 60 96 [.sl els 0] heapF fun r h' => wpBack h' r fun v => v = befA k n a t.data.toList := by
   refine v96 els _ (ie (by rw [beq_eq_false_iff_ne]; omega) (it (by rw [hw]; exact inR' (by omega) (by omega)) ?_))
   rw [hw]
   have e0 : cellInt els (l.length : Int) 0 = k := by unfold cellInt; rw [hc]; rfl
   have e1 : cellStr els (l.length : Int) 1 = t.data.toList := by unfold cellStr; rw [hc]; rfl
   have e2 : cellInt els (l.length : Int) 2 = n := by unfold cellInt; rw [hc]; rfl
   have e3 : cellInt els (l.length : Int) 3 = a := by unfold cellInt; rw [hc]; rfl
   rw [e0, e1, e2, e3]
   refine ⟨?_, rfl⟩
   rw [getI_eq, Int.toNat_natCast, hl]
   simp
  have ha : mapO (stripA 8) [AV.sl els tok] = some [.sl els 0] := by
   cases tok with
   | zero => rfl
   | succ t =>
    have e : stripA 8 (AV.sl els (t + 1)) = some (.sl els 0) := by
     show (bif plainEls els then some (AV.sl els 0) else _) = _
     rw [hp2]; rfl
    show consO (stripA 8 (AV.sl els (t + 1))) (some []) = _
    rw [e]; rfl
  obtain ⟨m, v, h', e, rfl, rfl⟩ := EvP.freshV (g := 96) (args := [.sl els tok]) (h := h) (v := befA k n a t.data.toList) tab0_ok (n := 60) (by kernel_rfl) rfl ha key
  exact ⟨_, List.mem_singleton.2 rfl, (k, t.data.toList, n, a), m, trivial, e⟩
 ·cases hs
theorem okTTk : Ok TTk := ok97 (ok96 (ok95 okX))
def rowsT (l : List (Int × List UInt8 × Int)) : List (List AV) := l.map fun q => tokA q.1 q.2.1 q.2.2
theorem rows_len (l : List (Int × List UInt8 × Int)) : (rowsT l).length = l.length := by simp [rowsT]
theorem rows_row (l : List (Int × List UInt8 × Int)) (h : l ≠ []) (hl : l.length ≤ 20) : TokRow (rowsT l) := by
 refine ⟨?_, ?_⟩
 ·obtain ⟨q, hq⟩ : ∃ q, l.getLast? = some q := by
   cases e : l.getLast? with
   | none => rw [List.getLast?_eq_none_iff] at e; exact absurd e h
   | some q => exact ⟨q, rfl⟩
  obtain ⟨pre, rfl⟩ := List.getLast?_eq_some_iff.1 hq
  exact ⟨rowsT pre, q.1, ⟨⟨q.2.1⟩⟩, 0, q.2.2, by simp [rowsT, tokA], by rw [rows_len]; simp at hl; omega⟩
 ·unfold plainEls rowsT
  rw [List.all_map, List.all_eq_true]
  intro q _
  rfl
theorem go_space (s : List UInt8) (i : Int) (l : List (Int × List UInt8 × Int)) (K : KR) (h : l ≠ []) (hl : l.length ≤ 20) (hs : Skips s i) (hb : byteAt s i = 32)
  (H : Ev cfg Tryz.prog 64 (.loop (loopAt Tryz.prog 64 6)) (I64 s (i + 1) (rowsT l) l.length) K) : Ev cfg Tryz.prog 64 (.loop (loopAt Tryz.prog 64 6)) (I64 s i (rowsT l) l.length) K := by
 refine Ev.round (O := okTTk) (n := 60) (t := ⟨[0, 5, 6], [0, 5], 0⟩) (by kernel_rfl) (by kernel_rfl) rfl
  (r64 s i (rowsT l) l.length (fun j els n => j = i + 1 ∧ els = rowsT l ∧ n = l.length) False (it (dt hs.hi) ⟨rows_row l h hl, fun _ _ => ⟨hs, fun x hx => ?_⟩⟩)) (fun τ g => ?_) (fun e τ hx => ?_)
 ·have hx : x = i + 1 := by rw [hx]; unfold skipF; rw [if_pos hb]
  exact it (dt (by omega)) ⟨rfl, hx, rfl, rfl⟩
 ·obtain ⟨g1, g2, g3, g4⟩ := g
  rw [g1, g2, g3, g4]
  exact H
 ·unfold q64 at hx
  split at hx
  ·exact hx.2.2.elim
  ·exact hx.elim
theorem tok_run {s : List UInt8} {i : Int} {r : Int × List UInt8 × Int} {k : Int} (h : TokIs s i r k) : ∃ m, callP cfg (evCall cfg Tryz.prog m) 97 [aStr s, iA i, befA 0 0 0 []] heapF = some (TokV r k, heapF) := by
 have key : ∃ T' : Tab, Ok T' ∧ wpCall T' cfg Tryz.prog 80 97 [aStr s, iA i, befA 0 0 0 []] heapF fun x h' => wpBack h' x fun v => v = TokV r k := by
  cases h with
  | w0 r hr => exact ⟨TW, okTW, word0 r hr 0 0 0 _⟩
  | m6 r hr => exact ⟨TM, okTM, mark6 r hr 0 0 0 _⟩
  | w8 r hr => exact ⟨TW, okTW, word8 r hr 0 0 0 _⟩
  | str p a q n' k' h1 h2 h3 h4 h5 => subst h4 h5; exact ⟨TQ, okTQ, quote_law p a q h1 h2 h3 0 0 0 _⟩
  | brace p n' h1 h2 => subst h2; exact ⟨TB, okTB, brace_law p h1 0 0 0 _⟩
 obtain ⟨T', O', key⟩ := key
 obtain ⟨m, v, h', e, rfl, rfl⟩ := EvP.freshV (g := 97) (args := [aStr s, iA i, befA 0 0 0 []]) (h := heapF) (v := TokV r k) O' (n := 80) (by kernel_rfl) rfl (args' := [aStr s, iA i, befA 0 0 0 []]) rfl key
 exact ⟨m, e⟩
theorem tok_det {s : List UInt8} {i : Int} {r r' : Int × List UInt8 × Int} {k k' : Int} (h : TokIs s i r k) (h' : TokIs s i r' k') : r' = r ∧ k' = k := by
 obtain ⟨m, e⟩ := tok_run h
 obtain ⟨m', e'⟩ := tok_run h'
 have g := callP_le (C := cfg) (call_mono (C := cfg) (P := Tryz.prog) (Nat.le_max_left m m')) _ _ _ _ e
 have g' := callP_le (C := cfg) (call_mono (C := cfg) (P := Tryz.prog) (Nat.le_max_right m m')) _ _ _ _ e'
 rw [g] at g'
 obtain ⟨a, b, c⟩ := r
 obtain ⟨a', b', c'⟩ := r'
 simp only [TokV, tokA, iA, Option.some.injEq, Prod.mk.injEq, AV.tup.injEq, AV.agg.injEq, AV.sc.injEq, Value.int.injEq, Value.string.injEq, ByteArray.mk.injEq, Array.mk.injEq, List.cons.injEq, true_and, and_true] at g'
 obtain ⟨⟨h1, h2, h3⟩, h4⟩ := g'
 exact ⟨by rw [h1, h2, h3], h4.symm⟩
theorem go_tok (s : List UInt8) (i : Int) (l : List (Int × List UInt8 × Int)) (K : KR) (h : l ≠ []) (hl : l.length ≤ 20) (hs : Skips s i) (hb : byteAt s i ≠ 32) (hn : byteAt s i ≠ 10) {r : Int × List UInt8 × Int} {k : Int} (ht : TokIs s i r k)
  (H : Ev cfg Tryz.prog 64 (.loop (loopAt Tryz.prog 64 6)) (I64 s k (rowsT (l ++ [r])) (l ++ [r]).length) K) : Ev cfg Tryz.prog 64 (.loop (loopAt Tryz.prog 64 6)) (I64 s i (rowsT l) l.length) K := by
 have hall : allLen 4 (rowsT l) = true := by
  unfold allLen rowsT
  rw [List.all_map, List.all_eq_true]
  intro q _
  rfl
 have hf : fits ((rowsT l).length + 1) 40 = true := by
  rw [rows_len]
  unfold fits
  rw [Bool.and_eq_true]
  exact ⟨Nat.ble_eq_true_of_le (by unfold maxRoom; simp; omega), Nat.ble_eq_true_of_le (by unfold maxRoom; simp; omega)⟩
 refine Ev.round (O := okTTk) (n := 60) (t := ⟨[0, 5, 6], [0, 5], 0⟩) (by kernel_rfl) (by kernel_rfl) rfl
  (r64 s i (rowsT l) l.length (fun j els n => j = k ∧ els = rowsT (l ++ [r]) ∧ n = (l ++ [r]).length) False (it (dt hs.hi) ⟨rows_row l h hl, fun _ _ => ⟨hs, fun x hx => ?_⟩⟩)) (fun τ g => ?_) (fun e τ hx => ?_)
 ·have hx : x = i := by rw [hx]; unfold skipF; rw [if_neg hb]
  refine ie (df (by omega)) (it (inR hs.lo hs.hi) (ie (by simpa using hn) ⟨rows_row l h hl, fun _ _ => ⟨⟨⟨r, k, ht⟩⟩, fun q hq => ?_⟩⟩))
  obtain ⟨e1, e2⟩ := tok_det ht hq
  refine it (by rw [hall]; exact hf) (it (dt (rows_len l)) ⟨rfl, e2, ?_, by simp⟩)
  unfold rowsT
  rw [List.map_append, ← e1]
  rfl
 ·obtain ⟨g1, g2, g3, g4⟩ := g
  rw [g1, g2, g3, g4]
  exact H
 ·unfold q64 at hx
  split at hx
  ·exact hx.2.2.elim
  ·exact hx.elim
end
end Go.Proofs.Sf.Tx
namespace Go.Proofs.Sf.Tx
open Go Go.Ef
noncomputable section
def toks6 (a b : List UInt8) (x y : Int) : List (List AV) := [tokA 6 [66, 69, 71, 73, 78] 0, tokA 7 [123] 6, tokA 6 [112, 114, 105, 110, 116] 8, tokA 2 a 14, tokA 2 b x, tokA 7 [125] y]
def L64 (σ : St) : Option LSpec := some { pre := σ.tidy [0, 5, 6] 0 = Z64 (slS σ 0) 0 ∧ Text (slS σ 0), alts := [{ α := List UInt8 × List UInt8 × Int × Int × Int, post := fun q => IsText (slS σ 0) q.1 q.2.1 q.2.2.1 q.2.2.2.1 q.2.2.2.2, ex := .exit 0, st := fun q => X64 (slS σ 0) (toks6 q.1 q.2.1 q.2.2.1 q.2.2.2.1) 6 }] }
def T64 : Tab := tabX.addL 64 6 L64
end
end Go.Proofs.Sf.Tx
namespace Go.Proofs.Sf.Tx
open Go Go.Ef
noncomputable section
set_option maxRecDepth 100000
abbrev GoT (s : List UInt8) (i : Int) (l : List (Int × List UInt8 × Int)) (K : KR) : Prop := Ev cfg Tryz.prog 64 (.loop (loopAt Tryz.prog 64 6)) (I64 s i (rowsT l) l.length) K
theorem go_end (s : List UInt8) (i : Int) (l : List (Int × List UInt8 × Int)) (h : i = s.length) : GoT s i l fun e τ => e = .exit 0 ∧ τ = X64 s (rowsT l) l.length := by
 refine Ev.round (O := okTTk) (n := 60) (t := ⟨[0, 5, 6], [0, 5], 0⟩) (by kernel_rfl) (by kernel_rfl) rfl (r64 s i (rowsT l) l.length (fun _ _ _ => False) True (ie (df (by omega)) ⟨rfl, rfl, trivial⟩)) (fun _ g => g.2.elim) (fun e τ hx => ?_)
 unfold q64 at hx
 split at hx
 ·exact ⟨hx.1, hx.2.1⟩
 ·exact hx.elim
theorem go_first (r : List UInt8) (hr : r.length ≤ 4294967000) (K : KR) (H : GoT (sP r) 5 [(6, [66, 69, 71, 73, 78], 0)] K) : Ev cfg Tryz.prog 64 (.loop (loopAt Tryz.prog 64 6)) (Z64 (sP r) 0) K := by
 have hlen := sP_len r
 have hb : byteAt (sP r) 0 = 66 := rfl
 have hs : Skips (sP r) 0 := ⟨by omega, by omega, by omega, by rw [hb]; omega⟩
 refine Ev.round (O := okTTk) (n := 60) (t := ⟨[0, 5, 6], [0, 5], 0⟩) (by kernel_rfl) (by kernel_rfl) rfl
  (z64 (sP r) 0 (fun j els n => j = 5 ∧ els = rowsT [(6, [66, 69, 71, 73, 78], 0)] ∧ n = 1) (fun _ => False) (it (dt hs.hi) ⟨trivial, fun _ _ => ⟨hs, fun x hx => ?_⟩⟩)) (fun τ g => ?_) (fun e τ hx => hx.elim)
 ·have hx : x = 0 := by rw [hx]; unfold skipF; rw [if_neg (by rw [hb]; omega)]
  refine ie (df (by omega)) (it (inR hs.lo hs.hi) (ie rfl ⟨trivial, fun _ _ => ⟨⟨⟨_, _, .w0 r hr⟩⟩, fun q hq => ?_⟩⟩))
  obtain ⟨e1, e2⟩ := tok_det (.w0 r hr) hq
  refine ⟨rfl, e2, ?_, rfl⟩
  rw [← e1]; rfl
 ·unfold n64 at g
  split at g
  ·obtain ⟨g1, g2, g3, g4⟩ := g
   rw [g1, g2, g3, g4]
   exact H
  ·exact g.2.elim
theorem sp_at (p q : List UInt8) (h : p.length + q.length ≤ 4294967000) : Skips (p ++ 32 :: q) p.length ∧ byteAt (p ++ 32 :: q) p.length = 32 := by
 have hb : byteAt (p ++ 32 :: q) p.length = 32 := byteAt_app p q 32 rfl
 exact ⟨⟨by omega, by simp; omega, by simp; omega, .inl hb⟩, hb⟩
theorem st_at (p q : List UInt8) (c : UInt8) (hc : c = 34 ∨ c = 66 ∨ c = 123 ∨ c = 112 ∨ c = 125) (h : p.length + q.length ≤ 4294967000) : Skips (p ++ c :: q) p.length ∧ byteAt (p ++ c :: q) p.length ≠ 32 ∧ byteAt (p ++ c :: q) p.length ≠ 10 := by
 have hb : byteAt (p ++ c :: q) p.length = c.toNat := byteAt_app p q c rfl
 rw [hb]
 rcases hc with rfl | rfl | rfl | rfl | rfl <;> exact ⟨⟨by omega, by simp; omega, by simp; omega, by rw [hb]; simp⟩, by decide, by decide⟩
theorem loop64 (a b : List UInt8) (ha : plainB a = true) (hb : plainB b = true) : Ev cfg Tryz.prog 64 (.loop (loopAt Tryz.prog 64 6)) (Z64 (mkS a b) 0) fun e τ => e = .exit 0 ∧ τ = X64 (mkS a b) (toks6 a b (17 + a.length) (20 + a.length + b.length)) 6 := by
 unfold plainB at ha hb
 simp only [Bool.and_eq_true, decide_eq_true_eq] at ha hb
 obtain ⟨ha, la⟩ := ha
 obtain ⟨hb, lb⟩ := hb
 obtain ⟨r, hr⟩ : ∃ r, r = a ++ (34 :: 32 :: 34 :: (b ++ [34, 32, 125])) := ⟨_, rfl⟩
 have hrl : r.length = a.length + b.length + 6 := by rw [hr]; simp; omega
 have hrb : r.length ≤ 4294967000 := by omega
 obtain ⟨s, hs⟩ : ∃ s, s = sP r := ⟨_, rfl⟩
 have hm : mkS a b = s := by rw [hs, hr]; rfl
 rw [hm]
 have d5 : s = [66, 69, 71, 73, 78] ++ 32 :: (123 :: 32 :: 112 :: 114 :: 105 :: 110 :: 116 :: 32 :: 34 :: r) := hs
 have d6 : s = [66, 69, 71, 73, 78, 32] ++ 123 :: (32 :: 112 :: 114 :: 105 :: 110 :: 116 :: 32 :: 34 :: r) := hs
 have d7 : s = [66, 69, 71, 73, 78, 32, 123] ++ 32 :: (112 :: 114 :: 105 :: 110 :: 116 :: 32 :: 34 :: r) := hs
 have d8 : s = [66, 69, 71, 73, 78, 32, 123, 32] ++ 112 :: (114 :: 105 :: 110 :: 116 :: 32 :: 34 :: r) := hs
 have d13 : s = [66, 69, 71, 73, 78, 32, 123, 32, 112, 114, 105, 110, 116] ++ 32 :: (34 :: r) := hs
 obtain ⟨p1, hp1⟩ : ∃ p : List UInt8, p = [66, 69, 71, 73, 78, 32, 123, 32, 112, 114, 105, 110, 116, 32] := ⟨_, rfl⟩
 have l1 : p1.length = 14 := by rw [hp1]; rfl
 have d14 : s = p1 ++ 34 :: (a ++ 34 :: (32 :: 34 :: (b ++ [34, 32, 125]))) := by rw [hs, hr, hp1]; rfl
 obtain ⟨p2, hp2⟩ : ∃ p : List UInt8, p = p1 ++ 34 :: (a ++ [34]) := ⟨_, rfl⟩
 have l2 : p2.length = 16 + a.length := by rw [hp2]; simp; omega
 have d16 : s = p2 ++ 32 :: (34 :: (b ++ [34, 32, 125])) := by rw [d14, hp2]; simp
 obtain ⟨p3, hp3⟩ : ∃ p : List UInt8, p = p2 ++ [32] := ⟨_, rfl⟩
 have l3 : p3.length = 17 + a.length := by rw [hp3]; simp; omega
 have d17 : s = p3 ++ 34 :: (b ++ 34 :: [32, 125]) := by rw [d16, hp3]; simp
 obtain ⟨p4, hp4⟩ : ∃ p : List UInt8, p = p3 ++ 34 :: (b ++ [34]) := ⟨_, rfl⟩
 have l4 : p4.length = 19 + a.length + b.length := by rw [hp4]; simp; omega
 have d19 : s = p4 ++ 32 :: [125] := by rw [d17, hp4]; simp
 obtain ⟨p5, hp5⟩ : ∃ p : List UInt8, p = p4 ++ [32] := ⟨_, rfl⟩
 have l5 : p5.length = 20 + a.length + b.length := by rw [hp5]; simp; omega
 have d20 : s = p5 ++ [125] := by rw [d19, hp5]; simp
 have sl : (s.length : Int) = 21 + a.length + b.length := by rw [d20]; simp; omega
 have s5 := sp_at [66, 69, 71, 73, 78] (123 :: 32 :: 112 :: 114 :: 105 :: 110 :: 116 :: 32 :: 34 :: r) (by simp; omega)
 rw [← d5] at s5
 have s6 := st_at [66, 69, 71, 73, 78, 32] (32 :: 112 :: 114 :: 105 :: 110 :: 116 :: 32 :: 34 :: r) 123 (by simp) (by simp; omega)
 rw [← d6] at s6
 have s7 := sp_at [66, 69, 71, 73, 78, 32, 123] (112 :: 114 :: 105 :: 110 :: 116 :: 32 :: 34 :: r) (by simp; omega)
 rw [← d7] at s7
 have s8 := st_at [66, 69, 71, 73, 78, 32, 123, 32] (114 :: 105 :: 110 :: 116 :: 32 :: 34 :: r) 112 (by simp) (by simp; omega)
 rw [← d8] at s8
 have s13 := sp_at [66, 69, 71, 73, 78, 32, 123, 32, 112, 114, 105, 110, 116] (34 :: r) (by simp; omega)
 rw [← d13] at s13
 have s14 := st_at p1 (a ++ 34 :: (32 :: 34 :: (b ++ [34, 32, 125]))) 34 (by simp) (by simp; omega)
 rw [← d14] at s14
 have s16 := sp_at p2 (34 :: (b ++ [34, 32, 125])) (by simp; omega)
 rw [← d16] at s16
 have s17 := st_at p3 (b ++ 34 :: [32, 125]) 34 (by simp) (by simp; omega)
 rw [← d17] at s17
 have s19 := sp_at p4 [125] (by simp; omega)
 rw [← d19] at s19
 have s20 := st_at p5 [] 125 (by simp) (by simp; omega)
 rw [← d20] at s20
 have t6 : TokIs s 6 (7, [123], 6) 7 := by rw [hs]; exact .m6 r hrb
 have t8 : TokIs s 8 (6, [112, 114, 105, 110, 116], 8) 13 := by rw [hs]; exact .w8 r hrb
 have t14 : TokIs s 14 (2, a, 14) (16 + a.length) := by rw [d14]; exact .str p1 a _ 14 _ ha la (by simp; omega) (by omega) (by omega)
 have t17 : TokIs s (17 + a.length) (2, b, 17 + a.length) (19 + a.length + b.length) := by rw [d17]; exact .str p3 b _ _ _ hb lb (by simp; omega) (by omega) (by omega)
 have t20 : TokIs s (20 + a.length + b.length) (7, [125], 20 + a.length + b.length) (20 + a.length + b.length + 1) := by rw [d20]; exact .brace p5 _ (by omega) (by omega)
 have cast16 : (p2.length : Int) = 16 + a.length := by omega
 have cast17 : (p3.length : Int) = 17 + a.length := by omega
 have cast19 : (p4.length : Int) = 19 + a.length + b.length := by omega
 have cast20 : (p5.length : Int) = 20 + a.length + b.length := by omega
 have cast14 : (p1.length : Int) = 14 := by omega
 rw [cast14] at s14
 rw [cast16] at s16
 rw [cast17] at s17
 rw [cast19] at s19
 rw [cast20] at s20
 rw [hs]
 refine go_first r hrb _ ?_
 rw [← hs]
 refine go_space s 5 _ _ (by simp) (by simp) s5.1 s5.2 ?_
 refine go_tok s 6 _ _ (by simp) (by simp) s6.1 s6.2.1 s6.2.2 t6 ?_
 refine go_space s 7 _ _ (by simp) (by simp) s7.1 s7.2 ?_
 refine go_tok s 8 _ _ (by simp) (by simp) s8.1 s8.2.1 s8.2.2 t8 ?_
 refine go_space s 13 _ _ (by simp) (by simp) s13.1 s13.2 ?_
 refine go_tok s 14 _ _ (by simp) (by simp) s14.1 s14.2.1 s14.2.2 t14 ?_
 refine go_space s (16 + a.length) _ _ (by simp) (by simp) s16.1 s16.2 ?_
 rw [show (16 : Int) + a.length + 1 = 17 + a.length by omega]
 refine go_tok s (17 + a.length) _ _ (by simp) (by simp) s17.1 s17.2.1 s17.2.2 t17 ?_
 refine go_space s (19 + a.length + b.length) _ _ (by simp) (by simp) s19.1 s19.2 ?_
 rw [show (19 : Int) + a.length + b.length + 1 = 20 + a.length + b.length by omega]
 refine go_tok s (20 + a.length + b.length) _ _ (by simp) (by simp) s20.1 s20.2.1 s20.2.2 t20 ?_
 exact go_end s _ _ (by omega)
end
end Go.Proofs.Sf.Tx
namespace Go.Proofs.Sf.Tx
open Go Go.Ef
noncomputable section
set_option maxRecDepth 100000
theorem v64 (s : List UInt8) (K : AV → Prop) (h :
 iteP (decide ((8192 : Int) < (↑s.length : Int)))
 (K
 (AV.tup
 [AV.sc (Value.slice none (0 : Nat) (0 : Nat)), AV.sc (Value.int IntKind.i64 (3 : Int)),
 AV.sc (Value.int IntKind.i64 (8192 : Int))]))
 (loopAt Tryz.prog (64 : Nat) (6 : Nat) = loopAt Tryz.prog (64 : Nat) (6 : Nat) ∧
 (Z64 s (0 : Int) = Z64 s (0 : Int) ∧ Text s) ∧
 ∀ (x : List UInt8 × List UInt8 × Int × Int × Int),
 IsText s x.fst x.snd.fst x.snd.snd.fst x.snd.snd.snd.fst x.snd.snd.snd.snd →
 K
 (AV.tup
 [AV.sl
 [[AV.sc (Value.int IntKind.i64 (6 : Int)),
 AV.sc
 (Value.string
 (ByteArray.mk
 (Array.mk [(66 : UInt8), (69 : UInt8), (71 : UInt8), (73 : UInt8), (78 : UInt8)]))),
 AV.sc (Value.int IntKind.i64 (0 : Int)), AV.sc (Value.int IntKind.i64 (0 : Int))],
 [AV.sc (Value.int IntKind.i64 (7 : Int)),
 AV.sc (Value.string (ByteArray.mk (Array.mk [(123 : UInt8)]))),
 AV.sc (Value.int IntKind.i64 (0 : Int)), AV.sc (Value.int IntKind.i64 (6 : Int))],
 [AV.sc (Value.int IntKind.i64 (6 : Int)),
 AV.sc
 (Value.string
 (ByteArray.mk
 (Array.mk [(112 : UInt8), (114 : UInt8), (105 : UInt8), (110 : UInt8), (116 : UInt8)]))),
 AV.sc (Value.int IntKind.i64 (0 : Int)), AV.sc (Value.int IntKind.i64 (8 : Int))],
 [AV.sc (Value.int IntKind.i64 (2 : Int)), AV.sc (Value.string (ByteArray.mk (Array.mk x.fst))),
 AV.sc (Value.int IntKind.i64 (0 : Int)), AV.sc (Value.int IntKind.i64 (14 : Int))],
 [AV.sc (Value.int IntKind.i64 (2 : Int)), AV.sc (Value.string (ByteArray.mk (Array.mk x.snd.fst))),
 AV.sc (Value.int IntKind.i64 (0 : Int)), AV.sc (Value.int IntKind.i64 x.snd.snd.fst)],
 [AV.sc (Value.int IntKind.i64 (7 : Int)),
 AV.sc (Value.string (ByteArray.mk (Array.mk [(125 : UInt8)]))),
 AV.sc (Value.int IntKind.i64 (0 : Int)), AV.sc (Value.int IntKind.i64 x.snd.snd.snd.fst)],
 [AV.sc (Value.int IntKind.i64 (0 : Int)), AV.sc (Value.string (ByteArray.mk (Array.mk []))),
 AV.sc (Value.int IntKind.i64 (0 : Int)), AV.sc (Value.int IntKind.i64 (↑s.length : Int))]]
 (0 : Nat),
 AV.sc (Value.int IntKind.i64 (0 : Int)), AV.sc (Value.int IntKind.i64 (0 : Int))]))) :
 (fun (s : List UInt8) (K : AV → Prop) => wpCall T64 cfg Tryz.prog 60 64 [aStr s] heapF fun r h' => wpBack h' r K) s K :=
 Eq.mp (by kernel_rfl) h
end
end Go.Proofs.Sf.Tx
namespace Go.Proofs.Sf.Tx
open Go Go.Ef Go.RowKit
noncomputable section
set_option maxRecDepth 100000
theorem mkS_len (a b : List UInt8) : ((mkS a b).length : Int) = 21 + a.length + b.length := by
 show ((sP _).length : Int) = _
 rw [sP_len]; simp; omega
theorem okL64 {T : Tab} (O : Ok T) : Ok (T.addL 64 6 L64) := by
 refine addL_ok O fun σ s hs hp => ?_
 refine lspec_ok (Option.some.inj hs) (fun ⟨h1, h2⟩ => ?_) hp
 obtain ⟨a, b, e, ha, hb⟩ := h2.is
 obtain ⟨m, x, τ, g1, g2, g3⟩ := Ev.tidied (σ := σ) (τ := Z64 (mkS a b) 0) (t := ⟨[0, 5, 6], [0, 5], 0⟩) (by kernel_rfl) (by rw [e] at h1; exact h1) (loop64 a b ha hb)
 refine ⟨m, x, τ, g1, (a, b, 17 + a.length, 20 + a.length + b.length, 21 + a.length + b.length), ⟨e, ha, hb, rfl, rfl, rfl⟩, g2, ?_⟩
 rw [g3, e]
theorem ok64 {T : Tab} (O : Ok T) : Ok (T.addC 64 C64) := by
 refine addC_ok O fun args h s hs hp => ?_
 unfold C64 at hs
 split at hs
 ·rename_i s
  cases hs
  have key : wpCall T64 cfg Tryz.prog 60 64 [aStr s.data.toList] heapF fun r h' => wpBack h' r fun v => ∃ q : List UInt8 × List UInt8 × Int × Int × Int, IsText s.data.toList q.1 q.2.1 q.2.2.1 q.2.2.2.1 q.2.2.2.2 ∧ v = .tup [.sl (toks q.1 q.2.1 q.2.2.1 q.2.2.2.1 q.2.2.2.2) 0, iA 0, iA 0] := by
   obtain ⟨a, b, e, ha, hb⟩ := hp.is
   have hl := mkS_len a b
   unfold plainB at ha hb
   simp only [Bool.and_eq_true, decide_eq_true_eq] at ha hb
   refine v64 s.data.toList _ (ie (df (by rw [e]; omega)) ⟨rfl, ⟨rfl, hp⟩, fun q hq => ⟨q, hq, ?_⟩⟩)
   have hz : (s.data.toList.length : Int) = q.2.2.2.2 := by rw [hq.ez, hq.is, mkS_len]
   rw [hz]
   rfl
  obtain ⟨m, v, h', e, ⟨q, hq, rfl⟩, rfl⟩ := EvP.freshK (g := 64) (args := [.sc (.string s)]) (h := h) (okL64 okX) (n := 60) (by kernel_rfl) rfl (args' := [.sc (.string s)]) rfl key
  exact ⟨_, List.mem_singleton.2 rfl, q, m, hq, e⟩
 ·cases hs
theorem mkS_inj {a b a' b' : List UInt8} (ha : plainB a = true) (hb : plainB b = true) (ha' : plainB a' = true) (hb' : plainB b' = true) (e : mkS a b = mkS a' b') : a = a' ∧ b = b' := by
 have hl := mkS_len a b
 have hl' := mkS_len a' b'
 unfold plainB at ha hb ha' hb'
 simp only [Bool.and_eq_true, decide_eq_true_eq] at ha hb ha' hb'
 have d (a b : List UInt8) : mkS a b = [66, 69, 71, 73, 78, 32, 123, 32, 112, 114, 105, 110, 116, 32] ++ 34 :: (a ++ 34 :: (32 :: 34 :: (b ++ [34, 32, 125]))) := rfl
 have h1 := ends_at [66, 69, 71, 73, 78, 32, 123, 32, 112, 114, 105, 110, 116, 32] a (32 :: 34 :: (b ++ [34, 32, 125])) ha.1 (by simp; omega)
 have h2 := ends_at [66, 69, 71, 73, 78, 32, 123, 32, 112, 114, 105, 110, 116, 32] a' (32 :: 34 :: (b' ++ [34, 32, 125])) ha'.1 (by simp; omega)
 rw [← d] at h1 h2
 rw [← e] at h2
 have hk := ends_eq h1 h2
 have hla : a.length = a'.length := by omega
 rw [d, d] at e
 have e1 := List.append_cancel_left e
 have e2 := List.cons_inj_right _ |>.1 e1
 obtain ⟨e3, e4⟩ := List.append_inj e2 hla
 refine ⟨e3, ?_⟩
 simp only [List.cons.injEq, true_and] at e4
 exact List.append_cancel_right e4
theorem tabY_ok : Ok tabY := ⟨fun _ _ _ _ _ ht => (by cases ht), fun _ _ _ _ _ ht => (by cases ht)⟩
theorem okTTx : Ok TTx := ok21 (ok10 (ok64 (ok27 tabY_ok)))
theorem ev8 (a b : List UInt8) (la : a.length ≤ 4294967280) (lb : b.length ≤ 4294967280) : ∃ n h, evCall cfg Tryz.prog n 8 [aStr a, aStr b] heap0 = some (bA true, h) := by
 have H : wpCall TTx cfg Tryz.prog 300 8 [aStr a, aStr b] heap0 fun r _ => r = bA true := by
  refine vTx a b _ ⟨⟨la⟩, fun x hx => iti (fun h => ?_) (fun _ => ⟨trivial, fun _ _ => rfl⟩)⟩
  refine ⟨⟨lb⟩, fun y hy => iti (fun h' => ?_) (fun _ => ⟨trivial, fun _ _ => rfl⟩)⟩
  have ha : plainB a = true := by rw [← hx]; exact h
  have hb : plainB b = true := by rw [← hy]; exact h'
  have ha' := ha
  have hb' := hb
  unfold plainB at ha' hb'
  simp only [Bool.and_eq_true, decide_eq_true_eq] at ha' hb'
  have es : [(66 : UInt8), 69, 71, 73, 78, 32, 123, 32, 112, 114, 105, 110, 116, 32, 34] ++ a ++ [34, 32, 34] ++ b ++ [34, 32, 125] = mkS a b := by simp [mkS, sP]
  have hl := mkS_len a b
  refine it (by rw [strFits_iff]; simp; omega) (it (by rw [strFits_iff]; simp; omega) (it (by rw [strFits_iff]; simp; omega) (it (by rw [strFits_iff]; simp; omega) ?_)))
  rw [es]
  refine ie (df (by omega)) ⟨⟨a, b, rfl, ha, hb⟩, fun q hq => ⟨trivial, fun _ _ => ?_⟩⟩
  obtain ⟨e1, e2⟩ := mkS_inj ha hb hq.pa hq.pb hq.is
  rw [← e1, ← e2]
  exact it (by rw [strFits_iff]; omega) (it (dt (by rw [List.length_append]; omega)) (it (by rw [strFits_iff]; omega) (it (dt rfl) ⟨trivial, fun _ _ => rfl⟩)))
 obtain ⟨n, r, h', h1, rfl⟩ := call_okW okTTx 300 8 [aStr a, aStr b] heap0 (fun r _ => r = bA true) H
 exact ⟨n, h', h1⟩
theorem law8 (a b : ByteArray) (ha : a.size ≤ 1048576) (hb : b.size ≤ 1048576) (w : World) (hg : GlobOk cfg w) : Calls Tryz.prog 8 #[.string a, .string b] w fun e w' => e = .returned (.bool true) ∧ Below w.heap.size w w' := by
 obtain ⟨⟨a⟩⟩ := a
 obtain ⟨⟨b⟩⟩ := b
 obtain ⟨n, h', e⟩ := ev8 a b (Nat.le_trans (show a.length ≤ 1048576 from ha) (by decide)) (Nat.le_trans (show b.length ≤ 1048576 from hb) (by decide))
 refine law_of_ev fit n hg (args := [aStr a, aStr b]) ⟨rfl, fun i x y hx hy => ?_⟩ e
 match i with
 | 0 => simp at hx hy; subst hx; subst hy; exact .sc rfl
 | 1 => simp at hx hy; subst hx; subst hy; exact .sc rfl
 | i + 2 => simp at hx
theorem glob_ok {W : World} (h : laidMet Tryz.prog YthfceininiemdaaGreatDoor.Rows.scanfoldTextsUptoRow.laid W) : GlobOk cfg W := by
 have h0 : laidMet Tryz.prog (("math/bits.deBruijn32tab", YthfceininiemdaaGreatDoor.Rows.laid_math_bits_deBruijn32tab) :: ("math/bits.deBruijn64tab", YthfceininiemdaaGreatDoor.Rows.laid_math_bits_deBruijn64tab) :: ("internal/strconv.uint64pow10", YthfceininiemdaaGreatDoor.Rows.laid_internal_strconv_uint64pow10) :: ("unicode/utf8.acceptRanges", YthfceininiemdaaGreatDoor.Rows.laid_unicode_utf8_acceptRanges) ::
  ("texttools/decimal.units", YthfceininiemdaaGreatDoor.Rows.laid_texttools_decimal_units) :: ("texttools/builtin.functions", YthfceininiemdaaGreatDoor.Rows.laid_texttools_builtin_functions) :: ("unicode.CaseRanges", YthfceininiemdaaGreatDoor.Rows.laid_unicode_CaseRanges) :: ("unicode/utf8.first", YthfceininiemdaaGreatDoor.Rows.laid_unicode_utf8_first) :: []) W := h
 intro g cs hg
 replace hg : globs g = some cs := hg
 unfold globs at hg
 split at hg
 ·cases hg; exact row_glob (t := 266) (by kernel_rfl) (by kernel_rfl) (by kernel_rfl) h0.tail.tail.tail.tail.tail
 ·cases hg; exact row_glob (t := 392) (by kernel_rfl) (by kernel_rfl) (by kernel_rfl) h0.tail.tail.tail.tail
 ·cases hg; exact row_glob (t := 442) (by kernel_rfl) (by kernel_rfl) (by kernel_rfl) h0.tail.tail
 ·cases hg; exact row_glob (t := 471) (by kernel_rfl) (by kernel_rfl) (by kernel_rfl) h0
 ·cases hg; exact row_glob (t := 472) (by kernel_rfl) (by kernel_rfl) (by kernel_rfl) h0.tail
 ·cases hg; exact row_glob (t := 474) (by kernel_rfl) (by kernel_rfl) (by kernel_rfl) h0.tail.tail.tail.tail.tail.tail.tail
 ·cases hg; exact row_glob (t := 477) (by kernel_rfl) (by kernel_rfl) (by kernel_rfl) h0.tail.tail.tail
 ·cases hg
end
end Go.Proofs.Sf.Tx
