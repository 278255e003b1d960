/- A part of the proof: definitions and lemmas. -/
import Derived.Test.YtfgocjmkefeeeaaDoorJoinsD
namespace Go.Proofs.Pr
open Go Go.Ef
noncomputable section
set_option maxRecDepth 100000
def dirAt (s : List UInt8) : Dir := (readF (after s)).1
def restAt (s : List UInt8) : List UInt8 := (readF (after s)).2.1
def resAt (s : List UInt8) (l : Cells) : Dir × Int × Cells := resolveF (dirAt s) l
def bodyAt (r : Dir × Int × Cells) : List UInt8 × List UInt8 := bodyF r.1 (headK r.2.2) (headN r.2.2) (headS r.2.2)
structure Step (s : List UInt8) (l : Cells) (o : List UInt8) (P : List UInt8 → Cells → List UInt8 → Prop) (X : Int → Cells → List UInt8 → Prop) : Prop where
 hs : s.length ≤ 1000000
 ho : o.length ≤ 50000000
 hg : goodsB l = true
 fin : hasPct s = false → X 0 l (o ++ s)
 ok : hasPct s = true → (readF (after s)).2.2 = 0
 bad : hasPct s = true → (resAt s l).2.1 ≠ 0 → X (resAt s l).2.1 (resAt s l).2.2 (o ++ before s)
 rng : hasPct s = true → (resAt s l).2.1 = 0 → -1000 ≤ (resAt s l).1.width ∧ (resAt s l).1.width ≤ 1000 ∧ 0 ≤ (resAt s l).1.kind ∧ (resAt s l).1.kind ≤ 255
 pct : hasPct s = true → (resAt s l).2.1 = 0 → (resAt s l).1.kind = 37 → P (restAt s) (resAt s l).2.2 (o ++ before s ++ padF (resAt s l).1 [] [37])
 arg : hasPct s = true → (resAt s l).2.1 = 0 → (resAt s l).1.kind ≠ 37 → 1 ≤ (resAt s l).2.2.length ∧ goodsB (resAt s l).2.2 = true ∧ bodyOk (resAt s l).1 (headK (resAt s l).2.2) = true ∧ (bodyAt (resAt s l)).1.length ≤ 1000000 ∧ (bodyAt (resAt s l)).2.length ≤ 1000000 ∧
  P (restAt s) ((resAt s l).2.2.drop 1) (o ++ before s ++ padF (resAt s l).1 (bodyAt (resAt s l)).1 (bodyAt (resAt s l)).2)
def midK (d : Dir) (l : Cells) (XK : Int → AV → Prop) (NK : AV → Prop) (WK : AV → List UInt8 → Prop) : Prop :=
 ∀ x : Dir × Int × Cells, x = resolveF d l → iteP (x.2.1 != 0) (iteP (x.2.1 != 0) (XK x.2.1 (.sl x.2.2 0)) (NK (.sl x.2.2 0)))
  (iteP (x.1.kind != 37)
   (iteP (inRange 0 (List.length x.2.2))
    (getI 0 x.2.2 = some [AV.sc (.int .i64 (cellInt x.2.2 0 0)), AV.sc (.int .i64 (cellInt x.2.2 0 1)), AV.sc (.string ⟨⟨cellStr x.2.2 0 2⟩⟩)] ∧
     (bodyOk x.1 (cellInt x.2.2 0 0) = true ∧ (cellStr x.2.2 0 2).length ≤ 1000000) ∧
     ∀ y : List UInt8 × List UInt8, y = bodyF x.1 (cellInt x.2.2 0 0) (cellInt x.2.2 0 1) (cellStr x.2.2 0 2) →
      iteP (headLen 3 x.2.2) (iteP (true && decide ((1 : Int) ≤ (List.length x.2.2 : Int)))
       ((-1000 ≤ x.1.width ∧ x.1.width ≤ 1000 ∧ 0 ≤ x.1.kind ∧ x.1.kind ≤ 255 ∧ y.1.length ≤ 1000000 ∧ y.2.length ≤ 1000000) ∧
        ∀ z : List UInt8, z = padF x.1 y.1 y.2 → WK (.sl (List.drop 1 x.2.2) 0) z) False) False) False)
   ((-1000 ≤ x.1.width ∧ x.1.width ≤ 1000 ∧ 0 ≤ x.1.kind ∧ x.1.kind ≤ 255 ∧ 0 ≤ 1000000 ∧ 1 ≤ 1000000) ∧ ∀ z : List UInt8, z = padF x.1 [] [37] → WK (.sl x.2.2 0) z))
def midN (d : Dir) (XK : Int → AV → Prop) (NK : AV → Prop) (WK : AV → List UInt8 → Prop) : Prop :=
 ∀ x : Dir × Int × Cells, x = resolveF d [] → iteP (x.2.1 != 0) (iteP (x.2.1 != 0) (XK x.2.1 nilA) (NK nilA))
  (iteP (x.1.kind != 37) False
   ((-1000 ≤ x.1.width ∧ x.1.width ≤ 1000 ∧ 0 ≤ x.1.kind ∧ x.1.kind ≤ 255 ∧ 0 ≤ 1000000 ∧ 1 ≤ 1000000) ∧ ∀ z : List UInt8, z = padF x.1 [] [37] → WK nilA z))
theorem mid_ok {s : List UInt8} {l : Cells} {o : List UInt8} {P : List UInt8 → Cells → List UInt8 → Prop} {X : Int → Cells → List UInt8 → Prop} (H : Step s l o P X) (hp : hasPct s = true) {XK : Int → AV → Prop} {NK : AV → Prop} {WK : AV → List UInt8 → Prop}
  (hx : ∀ e l', X e l' (o ++ before s) → XK e (.sl l' 0)) (hw : ∀ l' z, z.length ≤ 10000000 → P (restAt s) l' (o ++ before s ++ z) → WK (.sl l' 0) z) : midK (dirAt s) l XK NK WK := by
 intro x hxe
 replace hxe : x = resAt s l := hxe
 subst hxe
 have pad_len : ∀ (d : Dir) (u v : List UInt8), d.width ≤ 1000 → u.length ≤ 1000000 → v.length ≤ 1000000 → (padF d u v).length ≤ 10000000 := by
  intro d u v h1 h2 h3
  unfold padF
  split
  ·simp; omega
  ·split <;> simp <;> omega
 by_cases h0 : (resAt s l).2.1 = 0
 ·rw [show ((resAt s l).2.1 != 0) = false by rw [h0]; rfl, iteP_f]
  obtain ⟨r1, r2, r3, r4⟩ := H.rng hp h0
  by_cases hk : (resAt s l).1.kind = 37
  ·rw [show ((resAt s l).1.kind != 37) = false by rw [hk]; rfl, iteP_f]
   refine ⟨⟨r1, r2, r3, r4, by omega, by omega⟩, fun z hz => ?_⟩
   subst hz
   exact hw _ _ (pad_len _ _ _ r2 (by simp) (by simp)) (H.pct hp h0 hk)
  ·rw [show ((resAt s l).1.kind != 37) = true by simpa using hk, iteP_t]
   obtain ⟨a1, a2, a3, a4, a5, a6⟩ := H.arg hp h0 hk
   obtain ⟨g1, g2, g3, g4, g5⟩ := head_ok a2 a1
   rw [g1, iteP_t]
   refine ⟨g2, ⟨a3, g5⟩, fun y hy => ?_⟩
   replace hy : y = bodyAt (resAt s l) := hy
   subst hy
   rw [g3, iteP_t, g4, Bool.and_self, iteP_t]
   refine ⟨⟨r1, r2, r3, r4, a4, a5⟩, fun z hz => ?_⟩
   subst hz
   exact hw _ _ (pad_len _ _ _ r2 a4 a5) a6
 ·rw [show ((resAt s l).2.1 != 0) = true by simpa using h0, iteP_t, iteP_t]
  exact hx _ _ (H.bad hp h0)
theorem midN_ok {s : List UInt8} {o : List UInt8} {P : List UInt8 → Cells → List UInt8 → Prop} {X : Int → Cells → List UInt8 → Prop} (H : Step s [] o P X) (hp : hasPct s = true) {XK : Int → AV → Prop} {NK : AV → Prop} {WK : AV → List UInt8 → Prop}
  (hx : ∀ e, X e [] (o ++ before s) → XK e nilA) (hw : ∀ z, z.length ≤ 10000000 → P (restAt s) [] (o ++ before s ++ z) → WK nilA z) : midN (dirAt s) XK NK WK := by
 intro x hxe
 replace hxe : x = resAt s [] := hxe
 subst hxe
 have hl : (resAt s []).2.2 = [] := by unfold resAt; rw [res_nil]
 have pad_len : ∀ (d : Dir) (u v : List UInt8), d.width ≤ 1000 → u.length ≤ 1000000 → v.length ≤ 1000000 → (padF d u v).length ≤ 10000000 := by
  intro d u v h1 h2 h3
  unfold padF
  split
  ·simp; omega
  ·split <;> simp <;> omega
 by_cases h0 : (resAt s []).2.1 = 0
 ·rw [show ((resAt s []).2.1 != 0) = false by rw [h0]; rfl, iteP_f]
  obtain ⟨r1, r2, r3, r4⟩ := H.rng hp h0
  by_cases hk : (resAt s []).1.kind = 37
  ·rw [show ((resAt s []).1.kind != 37) = false by rw [hk]; rfl, iteP_f]
   refine ⟨⟨r1, r2, r3, r4, by omega, by omega⟩, fun z hz => ?_⟩
   subst hz
   have := H.pct hp h0 hk
   rw [hl] at this
   exact hw _ (pad_len _ _ _ r2 (by simp) (by simp)) this
  ·have := (H.arg hp h0 hk).1
   rw [hl] at this
   simp at this
 ·rw [show ((resAt s []).2.1 != 0) = true by simpa using h0, iteP_t, iteP_t]
  have := H.bad hp h0
  rw [hl] at this
  exact hx _ this
abbrev cellsOf' (x : List UInt8) : Cells := x.map fun (b : UInt8) => [AV.sc (Value.int IntKind.u8 (b.toNat : Int))]
theorem wrB {x : List UInt8} (hx : x.length ≤ 100000000) {KB KC : Prop} (h0 : x = [] → KB) (h1 : x.isEmpty = false → KC) :
  iteP ((cellsOf' x).all fun (e : List AV) => e.all AV.one) (iteP (cellsOf' x).isEmpty KB (iteP (fits (cellsOf' x).length 1) KC False)) False := by
 rw [one_cells, iteP_t, fits_cells x hx]
 cases x with
 | nil => exact h0 rfl
 | cons c r => exact h1 rfl
theorem wrC {x u : List UInt8} {b : Cells} {n : Nat} (hb : b = byteCells u) (hn : n = u.length) (hx : x.length + u.length ≤ 100000000) {KB KC : Prop} (h0 : x = [] → KB) (h1 : x.isEmpty = false → KC) :
  iteP ((cellsOf' x).all fun (e : List AV) => e.all AV.one) (iteP (cellsOf' x).isEmpty KB (iteP (allLen 1 b && fits (List.length b + (cellsOf' x).length) 1) (iteP (decide (List.length b = n)) KC False) False)) False := by
 subst hb
 subst hn
 have f1 : fits (List.length (byteCells u) + (cellsOf' x).length) 1 = true := by
  have := fits_cells (u ++ x) (by rw [List.length_append]; omega)
  rw [List.map_append, List.length_append] at this
  exact this
 rw [one_cells, iteP_t, show allLen 1 (byteCells u) = true from allLen_cells u, f1, Bool.and_self, iteP_t, decide_eq_true (cells_len u), iteP_t]
 cases x with
 | nil => exact h0 rfl
 | cons c r => exact h1 rfl
def NBp (mk : Cells → AV) (P : List UInt8 → Cells → List UInt8 → Prop) (s : List UInt8) (a : AV) : Prop := ∃ l, a = mk l ∧ P s l []
def NCp (mk : Cells → AV) (P : List UInt8 → Cells → List UInt8 → Prop) (s : List UInt8) (a : AV) (b : Cells) (n : Nat) : Prop := ∃ l o, a = mk l ∧ o.isEmpty = false ∧ b = byteCells o ∧ n = o.length ∧ P s l o
def XBp (mk : Cells → AV) (X : Int → Cells → List UInt8 → Prop) (v : Int) (a : AV) : Prop := ∃ l, a = mk l ∧ X v l []
def XCp (mk : Cells → AV) (X : Int → Cells → List UInt8 → Prop) (v : Int) (a : AV) (b : Cells) (n : Nat) : Prop := ∃ l o, a = mk l ∧ o.isEmpty = false ∧ b = byteCells o ∧ n = o.length ∧ X v l o
theorem before_len (s : List UInt8) : (before s).length ≤ s.length := (List.takeWhile_sublist _).length_le
theorem after_len (s : List UInt8) : (after s).length ≤ s.length := by
 unfold after
 rw [List.length_drop]
 have := (List.dropWhile_sublist (l := s) (· != 37)).length_le
 omega
def mkS (l : Cells) : AV := .sl l 0
def mkNil (_ : Cells) : AV := nilA
theorem not_empty_append {u x : List UInt8} (h : u.isEmpty = false) : (u ++ x).isEmpty = false := by cases u <;> simp_all
def WBp (mk : Cells → AV) (P : List UInt8 → Cells → List UInt8 → Prop) (rest : List UInt8) (a : AV) (z : List UInt8) : Prop :=
 iteP ((cellsOf' z).all fun (e : List AV) => e.all AV.one) (iteP (cellsOf' z).isEmpty (NBp mk P rest a) (iteP (fits (cellsOf' z).length 1) (NCp mk P rest a (cellsOf' z) (cellsOf' z).length) False)) False
def WCp (mk : Cells → AV) (P : List UInt8 → Cells → List UInt8 → Prop) (rest : List UInt8) (b : Cells) (n : Nat) (a : AV) (z : List UInt8) : Prop :=
 iteP ((cellsOf' z).all fun (e : List AV) => e.all AV.one) (iteP (cellsOf' z).isEmpty (NCp mk P rest a b n) (iteP (allLen 1 b && fits (List.length b + (cellsOf' z).length) 1) (iteP (decide (List.length b = n)) (NCp mk P rest a (b ++ cellsOf' z) (n + (cellsOf' z).length)) False) False)) False
theorem WB_ok {mk : Cells → AV} {P : List UInt8 → Cells → List UInt8 → Prop} {rest z : List UInt8} {l' : Cells} (hz : z.length ≤ 10000000) (hw : P rest l' z) : WBp mk P rest (mk l') z :=
 wrB (by omega) (fun h' => ⟨l', rfl, by rw [h'] at hw; exact hw⟩) (fun h' => ⟨l', z, rfl, h', rfl, cells_len z, hw⟩)
theorem WC_ok {mk : Cells → AV} {P : List UInt8 → Cells → List UInt8 → Prop} {rest u z : List UInt8} {b : Cells} {n : Nat} {l' : Cells} (hb : b = byteCells u) (hn : n = u.length) (hu : u.isEmpty = false) (hul : u.length ≤ 60000000) (hz : z.length ≤ 10000000) (hw : P rest l' (u ++ z)) : WCp mk P rest b n (mk l') z := by
 refine wrC hb hn (by omega) (fun h' => ⟨l', u, rfl, hu, hb, hn, by rw [h'] at hw; simpa using hw⟩) (fun h' => ⟨l', u ++ z, rfl, not_empty_append hu, ?_, ?_, hw⟩)
 ·rw [hb]; exact cells_append _ _
 ·rw [hn, List.length_append]; rw [show (cellsOf' z).length = z.length from List.length_map ..]
theorem restB {s : List UInt8} {l : Cells} {P : List UInt8 → Cells → List UInt8 → Prop} {X : Int → Cells → List UInt8 → Prop} (H : Step s l [] P X) (hp : hasPct s = true) (h : before s = []) :
  midK (dirAt s) l (fun e a => XBp mkS X e a) (fun a => NBp mkS P (restAt s) a) (WBp mkS P (restAt s)) := by
 refine mid_ok H hp (fun e l' hx => ⟨l', rfl, ?_⟩) (fun l' z hz hw => WB_ok hz ?_)
 ·rw [h] at hx; exact hx
 ·rw [h] at hw; exact hw
theorem restC {s : List UInt8} {l : Cells} {o : List UInt8} {b : Cells} {n : Nat} {P : List UInt8 → Cells → List UInt8 → Prop} {X : Int → Cells → List UInt8 → Prop} (H : Step s l o P X) (hp : hasPct s = true) (hb : b = byteCells (o ++ before s)) (hn : n = (o ++ before s).length) (h : (o ++ before s).isEmpty = false) :
  midK (dirAt s) l (fun e a => XCp mkS X e a b n) (fun a => NCp mkS P (restAt s) a b n) (WCp mkS P (restAt s) b n) := by
 have bl := before_len s
 have hs := H.hs
 have ho := H.ho
 exact mid_ok H hp (fun e l' hx => ⟨l', o ++ before s, rfl, h, hb, hn, hx⟩) (fun l' z hz hw => WC_ok hb hn h (by rw [List.length_append]; omega) hz hw)
theorem restBn {s : List UInt8} {P : List UInt8 → Cells → List UInt8 → Prop} {X : Int → Cells → List UInt8 → Prop} (H : Step s [] [] P X) (hp : hasPct s = true) (h : before s = []) :
  midN (dirAt s) (fun e a => XBp mkNil X e a) (fun a => NBp mkNil P (restAt s) a) (WBp mkNil P (restAt s)) := by
 refine midN_ok H hp (fun e hx => ⟨[], rfl, ?_⟩) (fun z hz hw => WB_ok (mk := mkNil) (l' := []) hz ?_)
 ·rw [h] at hx; exact hx
 ·rw [h] at hw; exact hw
theorem restCn {s : List UInt8} {o : List UInt8} {b : Cells} {n : Nat} {P : List UInt8 → Cells → List UInt8 → Prop} {X : Int → Cells → List UInt8 → Prop} (H : Step s [] o P X) (hp : hasPct s = true) (hb : b = byteCells (o ++ before s)) (hn : n = (o ++ before s).length) (h : (o ++ before s).isEmpty = false) :
  midN (dirAt s) (fun e a => XCp mkNil X e a b n) (fun a => NCp mkNil P (restAt s) a b n) (WCp mkNil P (restAt s) b n) := by
 have bl := before_len s
 have hs := H.hs
 have ho := H.ho
 exact midN_ok H hp (fun e hx => ⟨[], o ++ before s, rfl, h, hb, hn, hx⟩) (fun z hz hw => WC_ok (mk := mkNil) (l' := []) hb hn h (by rw [List.length_append]; omega) hz hw)
theorem goA {s : List UInt8} {l : Cells} {P : List UInt8 → Cells → List UInt8 → Prop} {X : Int → Cells → List UInt8 → Prop} (H : Step s l [] P X) :
  wpRound Y2 Door.cfg Tryd.prog 40 18 2 (IA s (.sl l 0)) (qN (NBp mkS P) (NCp mkS P)) (qX (fun _ _ => False) (XBp mkS X) (XCp mkS X)) := by
 have bl := before_len s
 have hs := H.hs
 refine gA s l _ _ _ _ _ ⟨⟨H.hs, rfl⟩, fun x hx => ?_⟩
 subst hx
 cases hp : hasPct s with
 | false =>
  rw [show (before s, after s, false).2.2 = false from rfl, iteP_f]
  obtain ⟨n1, _⟩ := noPct hp
  have hf := H.fin hp
  refine wrB (x := before s) (by omega) (fun h => ⟨l, rfl, ?_⟩) (fun h => ⟨l, before s, rfl, h, rfl, cells_len _, by rw [n1]; exact hf⟩)
  rw [← n1, h] at hf
  exact hf
 | true =>
  rw [show (before s, after s, true).2.2 = true from rfl, iteP_t]
  refine ⟨show (after s).length ≤ 1000000 from Nat.le_trans (after_len s) H.hs, fun x1 h1 => ?_⟩
  subst h1
  rw [show ((readF (before s, after s, true).2.1).2.2 != 0) = false by rw [show (readF (before s, after s, true).2.1).2.2 = 0 from H.ok hp]; rfl, iteP_f]
  refine wrB (x := before s) (by omega) (fun h => ⟨⟨rfl, H.hg⟩, ?_⟩) (fun h => ⟨⟨rfl, H.hg⟩, ?_⟩)
  ·exact restB H hp h
  ·exact restC (o := []) (b := byteCells (before s)) (n := (byteCells (before s)).length) H hp rfl (cells_len _) h
theorem goB {s : List UInt8} {l : Cells} {P : List UInt8 → Cells → List UInt8 → Prop} {X : Int → Cells → List UInt8 → Prop} (H : Step s l [] P X) :
  wpRound Y2 Door.cfg Tryd.prog 40 18 2 (IB s (.sl l 0)) (qN (NBp mkS P) (NCp mkS P)) (qX (fun _ _ => False) (XBp mkS X) (XCp mkS X)) := by
 have bl := before_len s
 have hs := H.hs
 refine gB s l _ _ _ _ _ ⟨⟨H.hs, rfl⟩, fun x hx => ?_⟩
 subst hx
 cases hp : hasPct s with
 | false =>
  rw [show (before s, after s, false).2.2 = false from rfl, iteP_f]
  obtain ⟨n1, _⟩ := noPct hp
  have hf := H.fin hp
  refine wrB (x := before s) (by omega) (fun h => ⟨l, rfl, ?_⟩) (fun h => ⟨l, before s, rfl, h, rfl, cells_len _, by rw [n1]; exact hf⟩)
  rw [← n1, h] at hf
  exact hf
 | true =>
  rw [show (before s, after s, true).2.2 = true from rfl, iteP_t]
  refine ⟨show (after s).length ≤ 1000000 from Nat.le_trans (after_len s) H.hs, fun x1 h1 => ?_⟩
  subst h1
  rw [show ((readF (before s, after s, true).2.1).2.2 != 0) = false by rw [show (readF (before s, after s, true).2.1).2.2 = 0 from H.ok hp]; rfl, iteP_f]
  refine wrB (x := before s) (by omega) (fun h => ⟨⟨rfl, H.hg⟩, ?_⟩) (fun h => ⟨⟨rfl, H.hg⟩, ?_⟩)
  ·exact restB H hp h
  ·exact restC (o := []) (b := byteCells (before s)) (n := (byteCells (before s)).length) H hp rfl (cells_len _) h
theorem goC {s : List UInt8} {l : Cells} {o : List UInt8} {P : List UInt8 → Cells → List UInt8 → Prop} {X : Int → Cells → List UInt8 → Prop} (H : Step s l o P X) (hne : o.isEmpty = false) :
  wpRound Y2 Door.cfg Tryd.prog 40 18 2 (IC s (.sl l 0) (byteCells o) o.length) (qN (NBp mkS P) (NCp mkS P)) (qX (fun _ _ => False) (XBp mkS X) (XCp mkS X)) := by
 have bl := before_len s
 have hs := H.hs
 have ho := H.ho
 refine gC s l (byteCells o) o.length _ _ _ _ _ ⟨⟨H.hs, rfl⟩, fun x hx => ?_⟩
 subst hx
 cases hp : hasPct s with
 | false =>
  rw [show (before s, after s, false).2.2 = false from rfl, iteP_f]
  obtain ⟨n1, _⟩ := noPct hp
  have hf := H.fin hp
  refine wrC (x := before s) (u := o) rfl rfl (by omega) (fun h => ⟨l, o, rfl, hne, rfl, rfl, ?_⟩) (fun h => ⟨l, o ++ before s, rfl, not_empty_append hne, cells_append _ _, by rw [List.length_append, List.length_map], by rw [n1]; exact hf⟩)
  rw [← n1, h, List.append_nil] at hf
  exact hf
 | true =>
  rw [show (before s, after s, true).2.2 = true from rfl, iteP_t]
  refine ⟨show (after s).length ≤ 1000000 from Nat.le_trans (after_len s) H.hs, fun x1 h1 => ?_⟩
  subst h1
  rw [show ((readF (before s, after s, true).2.1).2.2 != 0) = false by rw [show (readF (before s, after s, true).2.1).2.2 = 0 from H.ok hp]; rfl, iteP_f]
  refine wrC (x := before s) (u := o) rfl rfl (by omega) (fun h => ⟨⟨rfl, H.hg⟩, ?_⟩) (fun h => ⟨⟨rfl, H.hg⟩, ?_⟩)
  ·exact restC (b := byteCells o) (n := o.length) H hp (by rw [h, List.append_nil]) (by rw [h, List.append_nil]) (by rw [h, List.append_nil]; exact hne)
  ·exact restC (b := byteCells o ++ cellsOf' (before s)) (n := o.length + (cellsOf' (before s)).length) H hp (cells_append _ _) (by rw [List.length_append, List.length_map]) (not_empty_append hne)
theorem goAn {s : List UInt8} {P : List UInt8 → Cells → List UInt8 → Prop} {X : Int → Cells → List UInt8 → Prop} (H : Step s [] [] P X) :
  wpRound Y2 Door.cfg Tryd.prog 40 18 2 (IA s nilA) (qN (NBp mkNil P) (NCp mkNil P)) (qX (fun _ _ => False) (XBp mkNil X) (XCp mkNil X)) := by
 have bl := before_len s
 have hs := H.hs
 refine gAn s _ _ _ _ _ ⟨⟨H.hs, rfl⟩, fun x hx => ?_⟩
 subst hx
 cases hp : hasPct s with
 | false =>
  rw [show (before s, after s, false).2.2 = false from rfl, iteP_f]
  obtain ⟨n1, _⟩ := noPct hp
  have hf := H.fin hp
  refine wrB (x := before s) (by omega) (fun h => ⟨[], rfl, ?_⟩) (fun h => ⟨[], before s, rfl, h, rfl, cells_len _, by rw [n1]; exact hf⟩)
  rw [← n1, h] at hf
  exact hf
 | true =>
  rw [show (before s, after s, true).2.2 = true from rfl, iteP_t]
  refine ⟨show (after s).length ≤ 1000000 from Nat.le_trans (after_len s) H.hs, fun x1 h1 => ?_⟩
  subst h1
  rw [show ((readF (before s, after s, true).2.1).2.2 != 0) = false by rw [show (readF (before s, after s, true).2.1).2.2 = 0 from H.ok hp]; rfl, iteP_f]
  refine wrB (x := before s) (by omega) (fun h => ⟨rfl, ?_⟩) (fun h => ⟨rfl, ?_⟩)
  ·exact restBn H hp h
  ·exact restCn (o := []) (b := byteCells (before s)) (n := (byteCells (before s)).length) H hp rfl (cells_len _) h
theorem goBn {s : List UInt8} {P : List UInt8 → Cells → List UInt8 → Prop} {X : Int → Cells → List UInt8 → Prop} (H : Step s [] [] P X) :
  wpRound Y2 Door.cfg Tryd.prog 40 18 2 (IB s nilA) (qN (NBp mkNil P) (NCp mkNil P)) (qX (fun _ _ => False) (XBp mkNil X) (XCp mkNil X)) := by
 have bl := before_len s
 have hs := H.hs
 refine gBn s _ _ _ _ _ ⟨⟨H.hs, rfl⟩, fun x hx => ?_⟩
 subst hx
 cases hp : hasPct s with
 | false =>
  rw [show (before s, after s, false).2.2 = false from rfl, iteP_f]
  obtain ⟨n1, _⟩ := noPct hp
  have hf := H.fin hp
  refine wrB (x := before s) (by omega) (fun h => ⟨[], rfl, ?_⟩) (fun h => ⟨[], before s, rfl, h, rfl, cells_len _, by rw [n1]; exact hf⟩)
  rw [← n1, h] at hf
  exact hf
 | true =>
  rw [show (before s, after s, true).2.2 = true from rfl, iteP_t]
  refine ⟨show (after s).length ≤ 1000000 from Nat.le_trans (after_len s) H.hs, fun x1 h1 => ?_⟩
  subst h1
  rw [show ((readF (before s, after s, true).2.1).2.2 != 0) = false by rw [show (readF (before s, after s, true).2.1).2.2 = 0 from H.ok hp]; rfl, iteP_f]
  refine wrB (x := before s) (by omega) (fun h => ⟨rfl, ?_⟩) (fun h => ⟨rfl, ?_⟩)
  ·exact restBn H hp h
  ·exact restCn (o := []) (b := byteCells (before s)) (n := (byteCells (before s)).length) H hp rfl (cells_len _) h
theorem goCn {s : List UInt8} {o : List UInt8} {P : List UInt8 → Cells → List UInt8 → Prop} {X : Int → Cells → List UInt8 → Prop} (H : Step s [] o P X) (hne : o.isEmpty = false) :
  wpRound Y2 Door.cfg Tryd.prog 40 18 2 (IC s nilA (byteCells o) o.length) (qN (NBp mkNil P) (NCp mkNil P)) (qX (fun _ _ => False) (XBp mkNil X) (XCp mkNil X)) := by
 have bl := before_len s
 have hs := H.hs
 have ho := H.ho
 refine gCn s (byteCells o) o.length _ _ _ _ _ ⟨⟨H.hs, rfl⟩, fun x hx => ?_⟩
 subst hx
 cases hp : hasPct s with
 | false =>
  rw [show (before s, after s, false).2.2 = false from rfl, iteP_f]
  obtain ⟨n1, _⟩ := noPct hp
  have hf := H.fin hp
  refine wrC (x := before s) (u := o) rfl rfl (by omega) (fun h => ⟨[], o, rfl, hne, rfl, rfl, ?_⟩) (fun h => ⟨[], o ++ before s, rfl, not_empty_append hne, cells_append _ _, by rw [List.length_append, List.length_map], by rw [n1]; exact hf⟩)
  rw [← n1, h, List.append_nil] at hf
  exact hf
 | true =>
  rw [show (before s, after s, true).2.2 = true from rfl, iteP_t]
  refine ⟨show (after s).length ≤ 1000000 from Nat.le_trans (after_len s) H.hs, fun x1 h1 => ?_⟩
  subst h1
  rw [show ((readF (before s, after s, true).2.1).2.2 != 0) = false by rw [show (readF (before s, after s, true).2.1).2.2 = 0 from H.ok hp]; rfl, iteP_f]
  refine wrC (x := before s) (u := o) rfl rfl (by omega) (fun h => ⟨rfl, ?_⟩) (fun h => ⟨rfl, ?_⟩)
  ·exact restCn (b := byteCells o) (n := o.length) H hp (by rw [h, List.append_nil]) (by rw [h, List.append_nil]) (by rw [h, List.append_nil]; exact hne)
  ·exact restCn (b := byteCells o ++ cellsOf' (before s)) (n := o.length + (cellsOf' (before s)).length) H hp (cells_append _ _) (by rw [List.length_append, List.length_map]) (not_empty_append hne)
end
end Go.Proofs.Pr
namespace Go.Proofs.Pr
open Go Go.Ef
noncomputable section
set_option maxRecDepth 100000
def runF : Nat → List UInt8 → Cells → List UInt8 → Int × Cells × List UInt8
 | 0, _, l, o => (0, l, o)
 | n + 1, s, l, o => if hasPct s then (if (resAt s l).2.1 = 0 then (if (resAt s l).1.kind = 37 then runF n (restAt s) (resAt s l).2.2 (o ++ before s ++ padF (resAt s l).1 [] [37]) else runF n (restAt s) ((resAt s l).2.2.drop 1) (o ++ before s ++ padF (resAt s l).1 (bodyAt (resAt s l)).1 (bodyAt (resAt s l)).2)) else ((resAt s l).2.1, (resAt s l).2.2, o ++ before s)) else (0, l, o ++ s)
def runOk : Nat → List UInt8 → Cells → Prop
 | 0, _, _ => True
 | n + 1, s, l => hasPct s = true → (readF (after s)).2.2 = 0 ∧ ((resAt s l).2.1 = 0 → ((resAt s l).1.kind = 37 → runOk n (restAt s) (resAt s l).2.2) ∧
   ((resAt s l).1.kind ≠ 37 → bodyOk (resAt s l).1 (headK (resAt s l).2.2) = true ∧ (bodyAt (resAt s l)).1.length ≤ 1000 ∧ (bodyAt (resAt s l)).2.length ≤ 1000 ∧ runOk n (restAt s) ((resAt s l).2.2.drop 1)))
theorem numL_le : ∀ (s : List UInt8) (n : Int), -1 ≤ n → n ≤ 256 → -1 ≤ (numL s n).1 ∧ (numL s n).1 ≤ 256 := by
 intro s
 induction s with
 | nil => intro n h1 h2; exact ⟨h1, h2⟩
 | cons c r ih =>
  intro n h1 h2
  unfold numL
  split
  ·exact ih _ (by omega) (by omega)
  ·exact ⟨h1, h2⟩
theorem numF_le (s : List UInt8) : -2 ≤ (numF s).1 ∧ (numF s).1 ≤ 256 := by
 cases s with
 | nil => exact ⟨by decide, by decide⟩
 | cons c r =>
  have he : numF (c :: r) = if c = 42 then (-2, r) else numL (c :: r) (-1) := rfl
  rw [he]
  split
  ·exact ⟨by show (-2 : Int) ≤ -2; decide, by show (-2 : Int) ≤ 256; decide⟩
  ·have := numL_le (c :: r) (-1) (by omega) (by omega)
   omega
theorem precF_le (s : List UInt8) : -2 ≤ (precF s).1 ∧ (precF s).1 ≤ 256 := by
 cases s with
 | nil => exact ⟨by decide, by decide⟩
 | cons c r =>
  have he : precF (c :: r) = if c = 46 then ((if (numF r).1 = -1 then 0 else (numF r).1), (numF r).2) else (-1, c :: r) := rfl
  rw [he]
  split
  ·have := numF_le r
   show -2 ≤ (if (numF r).1 = -1 then 0 else (numF r).1) ∧ (if (numF r).1 = -1 then 0 else (numF r).1) ≤ 256
   split <;> omega
  ·exact ⟨by show (-2 : Int) ≤ -1; decide, by show (-1 : Int) ≤ 256; decide⟩
theorem readF_le {s : List UInt8} (h : (readF s).2.2 = 0) : -2 ≤ (readF s).1.width ∧ (readF s).1.width ≤ 255 ∧ -2 ≤ (readF s).1.prec ∧ (readF s).1.prec ≤ 255 ∧ 0 ≤ (readF s).1.kind ∧ (readF s).1.kind ≤ 255 := by
 have h1 := numF_le (flagsF s { Dir.none with prec := -1 }).2
 have h2 := precF_le (numF (flagsF s { Dir.none with prec := -1 }).2).2
 unfold readF at h ⊢
 generalize (flagsF s { Dir.none with prec := -1 }).1 = d at h ⊢
 generalize (numF (flagsF s { Dir.none with prec := -1 }).2).1 = w at *
 generalize (precF (numF (flagsF s { Dir.none with prec := -1 }).2).2).1 = p at *
 generalize (precF (numF (flagsF s { Dir.none with prec := -1 }).2).2).2 = t at *
 cases t with
 | nil => cases h
 | cons c r =>
  have he : endF d w p (c :: r) = if kinds.contains c then (if w > 255 ∨ p > 255 then (Dir.none, [], 2) else ({ d with width := w, prec := p, kind := c.toNat }, r, 0)) else (Dir.none, [], 1) := rfl
  rw [he] at h ⊢
  split at h
  ·rename_i hc
   rw [if_pos hc]
   split at h
   ·cases h
   ·rename_i hw
    rw [if_neg hw]
    have := c.toNat_lt
    refine ⟨h1.1, by show w ≤ 255; omega, h2.1, by show p ≤ 255; omega, by show (0 : Int) ≤ c.toNat; omega, by show (c.toNat : Int) ≤ 255; omega⟩
  ·cases h
theorem resW_k (d : Dir) (l : Cells) : (resW d l).1.kind = d.kind ∧ (resW d l).1.prec = d.prec ∧ (resW d l).2 = l.drop (if d.width = -2 then 1 else 0) ∧ (d.width ≠ -2 → (resW d l).1.width = d.width) ∧ (d.width = -2 → 0 ≤ (resW d l).1.width) := by
 by_cases h : d.width = -2
 ·by_cases h2 : takeF l < 0
  ·rw [resW_neg h h2, if_pos h]
   exact ⟨rfl, rfl, rfl, fun h' => absurd h h', fun _ => by show 0 ≤ -takeF l; omega⟩
  ·rw [resW_pos h h2, if_pos h]
   exact ⟨rfl, rfl, rfl, fun h' => absurd h h', fun _ => by show 0 ≤ takeF l; omega⟩
 ·rw [resW_no h, if_neg h]
  exact ⟨rfl, rfl, rfl, fun _ => rfl, fun h' => absurd h' h⟩
theorem resP_k (x : Dir × Cells) : (resP x).1.kind = x.1.kind ∧ (resP x).1.width = x.1.width ∧ (resP x).2 = x.2.drop (if x.1.prec = -2 then 1 else 0) ∧ (-2 ≤ x.1.prec → -1 ≤ (resP x).1.prec) := by
 by_cases h : x.1.prec = -2
 ·rw [resP_yes h, if_pos h]
  exact ⟨rfl, rfl, rfl, fun _ => by show -1 ≤ max (takeF x.2) (-1); omega⟩
 ·rw [resP_no h, if_neg h]
  exact ⟨rfl, rfl, rfl, fun _ => by omega⟩
theorem resE_k (x : Dir × Cells) : (resE x).1 = x.1 ∧ (resE x).2.2 = x.2 ∧ ((resE x).2.1 = 0 → x.1.width ≤ 255 ∧ x.1.prec ≤ 255) := by
 by_cases h : x.1.width > 255 ∨ x.1.prec > 255
 ·rw [resE_yes h]
  exact ⟨rfl, rfl, fun h' => by cases h'⟩
 ·rw [resE_no h]
  exact ⟨rfl, rfl, fun _ => by omega⟩
theorem resolve_k (d : Dir) (l : Cells) (h : (resolveF d l).2.1 = 0) (hw : -2 ≤ d.width) (hpr : -2 ≤ d.prec) :
  (resolveF d l).1.kind = d.kind ∧ -1 ≤ (resolveF d l).1.width ∧ (resolveF d l).1.width ≤ 255 ∧ -1 ≤ (resolveF d l).1.prec ∧ (resolveF d l).1.prec ≤ 255 ∧ (∃ k, (resolveF d l).2.2 = l.drop k) ∧ (d.kind ≠ 37 → 1 ≤ (resolveF d l).2.2.length) := by
 by_cases hn : l.length < needF d
 ·rw [res_lt hn] at h; cases h
 ·rw [res_ge hn] at h ⊢
  obtain ⟨e1, e2, e3⟩ := resE_k (resP (resW d l))
  obtain ⟨p1, p2, p3, p4⟩ := resP_k (resW d l)
  obtain ⟨w1, w2, w3, w4, w5⟩ := resW_k d l
  obtain ⟨e4, e5⟩ := e3 h
  rw [e1, e2]
  have hl : (resP (resW d l)).2 = l.drop ((if d.width = -2 then 1 else 0) + (if d.prec = -2 then 1 else 0)) := by
   rw [p3, w3, w2, List.drop_drop]
  have hlen : (resP (resW d l)).2.length = l.length - ((if d.width = -2 then 1 else 0) + (if d.prec = -2 then 1 else 0)) := by rw [hl, List.length_drop]
  refine ⟨by rw [p1, w1], ?_, e4, p4 (by rw [w2]; exact hpr), e5, ⟨_, hl⟩, fun hk => ?_⟩
  ·rw [p2]
   by_cases hd : d.width = -2
   ·have := w5 hd; omega
   ·have := w4 hd; omega
  ·unfold needF at hn
   rw [if_neg hk] at hn
   omega
def endSt (mk : Cells → AV) (R : Int × Cells × List UInt8) (τ : St) : Prop := (R.2.2 = [] ∧ τ = JB R.1 (mk R.2.1)) ∨ (R.2.2.isEmpty = false ∧ τ = JC R.1 (mk R.2.1) (byteCells R.2.2) R.2.2.length)
abbrev RoundW (mk : Cells → AV) (st : St) (P : List UInt8 → Cells → List UInt8 → Prop) (X : Int → Cells → List UInt8 → Prop) : Prop := wpRound Y2 Door.cfg Tryd.prog 40 18 2 st (qN (NBp mk P) (NCp mk P)) (qX (fun _ _ => False) (XBp mk X) (XCp mk X))
structure Rounds (mk : Cells → AV) (ok : Cells → Prop) : Prop where
 A : ∀ s l P X, ok l → Step s l [] P X → RoundW mk (IA s (mk l)) P X
 B : ∀ s l P X, ok l → Step s l [] P X → RoundW mk (IB s (mk l)) P X
 C : ∀ s l o P X, ok l → Step s l o P X → o.isEmpty = false → RoundW mk (IC s (mk l) (byteCells o) o.length) P X
 res : ∀ d l, ok l → ok (resolveF d l).2.2
 drop : ∀ l k, ok l → ok (l.drop k)
theorem roundsS : Rounds mkS (fun _ => True) := ⟨fun _ _ _ _ _ H => goA H, fun _ _ _ _ _ H => goB H, fun _ _ _ _ _ _ H h => goC H h, fun _ _ _ => trivial, fun _ _ _ => trivial⟩
theorem roundsN : Rounds mkNil (fun l => l = []) := ⟨fun s l P X hl H => by subst hl; exact goAn H, fun s l P X hl H => by subst hl; exact goBn H, fun s l o P X hl H h => by subst hl; exact goCn H h, fun d l hl => by subst hl; rw [res_nil], fun l k hl => by subst hl; simp⟩
theorem qN_cases {mk : Cells → AV} {P : List UInt8 → Cells → List UInt8 → Prop} {τ : St} (h : qN (NBp mk P) (NCp mk P) τ) : ∃ s l o, P s l o ∧ ((o = [] ∧ τ = IB s (mk l)) ∨ (o.isEmpty = false ∧ τ = IC s (mk l) (byteCells o) o.length)) := by
 obtain ⟨s, h0, rfl, h1⟩ := wasI_ok h
 clear h
 split at h1
 ·obtain ⟨a, rfl, l, rfl, hP⟩ := rdB_ok h1
  exact ⟨s, l, [], hP, .inl ⟨rfl, rfl⟩⟩
 ·obtain ⟨a, b, n, rfl, l, o, rfl, ho, rfl, rfl, hP⟩ := rdC_ok h1
  exact ⟨s, l, o, hP, .inr ⟨ho, rfl⟩⟩
 ·exact h1.elim
theorem qX_cases {mk : Cells → AV} {X : Int → Cells → List UInt8 → Prop} {e : Ex} {τ : St} (h : qX (fun _ _ => False) (XBp mk X) (XCp mk X) e τ) : e = .ret ∧ ∃ v l o, X v l o ∧ ((o = [] ∧ τ = JB v (mk l)) ∨ (o.isEmpty = false ∧ τ = JC v (mk l) (byteCells o) o.length)) := by
 unfold qX at h
 split at h
 ·refine ⟨rfl, ?_⟩
  obtain ⟨v, h0, rfl, h1⟩ := wasJ_ok h
  clear h
  split at h1
  ·obtain ⟨a, _, h2⟩ := rdA_ok h1
   exact h2.elim
  ·obtain ⟨a, rfl, l, rfl, hP⟩ := rdB_ok h1
   exact ⟨v, l, [], hP, .inl ⟨rfl, rfl⟩⟩
  ·obtain ⟨a, b, n, rfl, l, o, rfl, ho, rfl, rfl, hP⟩ := rdC_ok h1
   exact ⟨v, l, o, hP, .inr ⟨ho, rfl⟩⟩
  ·exact h1.elim
 ·exact h.elim
theorem rest_len {s : List UInt8} (hp : hasPct s = true) (h : (readF (after s)).2.2 = 0) : (restAt s).length + (before s).length + 2 ≤ s.length := by
 have h1 := readF_len (after s) h
 have h2 : (before s).length + 1 + (after s).length = s.length := by
  obtain ⟨r, e⟩ : ∃ r, s.dropWhile (· != 37) = 37 :: r := by
   have hm : (37 : UInt8) ∈ s := by simpa [hasPct] using hp
   cases hr : s.dropWhile (· != 37) with
   | nil =>
    have hall : ∀ x ∈ s, (x != 37) = true := by
     intro x hx
     have := List.takeWhile_append_dropWhile (p := (· != 37)) (l := s)
     rw [hr, List.append_nil] at this
     rw [← this] at hx
     exact List.all_eq_true.1 List.all_takeWhile x hx
    have := hall 37 hm
    simp at this
   | cons c r =>
    have hc : ¬ ((c != 37) = true) := by
     have := List.head?_dropWhile_not (p := (· != 37)) (l := s)
     rw [hr] at this
     simpa using this
    have : c = 37 := by simpa using hc
    exact ⟨r, by rw [this]⟩
  have h3 := List.takeWhile_append_dropWhile (p := (· != 37)) (l := s)
  have h4 := congrArg List.length h3
  rw [List.length_append, e, List.length_cons] at h4
  unfold before after
  rw [e]
  simp only [List.drop_succ_cons, List.drop_zero]
  omega
 show (readF (after s)).2.1.length + _ + 2 ≤ _
 omega
theorem pad_le (d : Dir) (u v : List UInt8) (h1 : d.width ≤ 255) : (padF d u v).length ≤ 255 + u.length + v.length := by
 unfold padF
 split
 ·simp; omega
 ·split <;> simp <;> omega
def Pn (ok : Cells → Prop) (R : Int × Cells × List UInt8) (n : Nat) (s : List UInt8) (l : Cells) (o : List UInt8) : Prop :=
 runF n s l o = R ∧ s.length < n ∧ runOk n s l ∧ goodsB l = true ∧ ok l ∧ s.length ≤ 10000 ∧ o.length + s.length * 2300 ≤ 30000000
def Xn (R : Int × Cells × List UInt8) (v : Int) (l : Cells) (o : List UInt8) : Prop := R = (v, l, o)
theorem step_run {mk : Cells → AV} {ok : Cells → Prop} (Q : Rounds mk ok) {R : Int × Cells × List UInt8} {n : Nat} {s : List UInt8} {l : Cells} {o : List UInt8} (H : Pn ok R (n + 1) s l o) : Step s l o (Pn ok R n) (Xn R) := by
 obtain ⟨h1, h2, h3, h4, h5, h6, h7⟩ := H
 have hr : runF (n + 1) s l o = if hasPct s then (if (resAt s l).2.1 = 0 then (if (resAt s l).1.kind = 37 then runF n (restAt s) (resAt s l).2.2 (o ++ before s ++ padF (resAt s l).1 [] [37]) else runF n (restAt s) ((resAt s l).2.2.drop 1) (o ++ before s ++ padF (resAt s l).1 (bodyAt (resAt s l)).1 (bodyAt (resAt s l)).2)) else ((resAt s l).2.1, (resAt s l).2.2, o ++ before s)) else (0, l, o ++ s) := rfl
 rw [hr] at h1
 have bl := before_len s
 have k : hasPct s = true → (resAt s l).2.1 = 0 → (resAt s l).1.kind = (dirAt s).kind ∧ -1 ≤ (resAt s l).1.width ∧ (resAt s l).1.width ≤ 255 ∧ (∃ k, (resAt s l).2.2 = l.drop k) ∧ ((resAt s l).1.kind ≠ 37 → 1 ≤ (resAt s l).2.2.length) ∧ 0 ≤ (resAt s l).1.kind ∧ (resAt s l).1.kind ≤ 255 := by
  intro hp h0
  have hf := readF_le (h3 hp).1
  obtain ⟨e1, e2, e3, _, _, e4, e5⟩ := resolve_k (dirAt s) l h0 hf.1 hf.2.2.1
  refine ⟨e1, e2, e3, e4, fun hk => e5 (by rw [← e1]; exact hk), ?_, ?_⟩
  ·rw [show (resAt s l).1.kind = (dirAt s).kind from e1]; exact hf.2.2.2.2.1
  ·rw [show (resAt s l).1.kind = (dirAt s).kind from e1]; exact hf.2.2.2.2.2
 refine ⟨by omega, by omega, h4, fun hp => ?_, fun hp => (h3 hp).1, fun hp h0 => ?_, fun hp h0 => ?_, fun hp h0 hk => ?_, fun hp h0 hk => ?_⟩
 ·rw [hp] at h1
  exact h1.symm
 ·rw [hp, if_pos rfl, if_neg h0] at h1
  exact h1.symm
 ·obtain ⟨_, a, b, _, _, c, d⟩ := k hp h0
  exact ⟨by omega, by omega, c, d⟩
 ·rw [hp, if_pos rfl, if_pos h0, if_pos hk] at h1
  obtain ⟨_, a, b, ⟨j, hj⟩, _, c, d⟩ := k hp h0
  have rl := rest_len hp (h3 hp).1
  have pl := pad_le (resAt s l).1 [] [37] b
  refine ⟨h1, by omega, ((h3 hp).2 h0).1 hk, by rw [hj]; exact goods_drop h4 j, Q.res _ _ h5, by omega, ?_⟩
  rw [List.length_append, List.length_append]
  simp only [List.length_nil, List.length_cons] at pl
  omega
 ·rw [hp, if_pos rfl, if_pos h0, if_neg hk] at h1
  obtain ⟨_, a, b, ⟨j, hj⟩, e5, c, d⟩ := k hp h0
  obtain ⟨b1, b2, b3, b4⟩ := ((h3 hp).2 h0).2 hk
  have rl := rest_len hp (h3 hp).1
  have pl := pad_le (resAt s l).1 (bodyAt (resAt s l)).1 (bodyAt (resAt s l)).2 b
  refine ⟨e5 hk, by rw [hj]; exact goods_drop h4 j, b1, by omega, by omega, h1, by omega, b4, by rw [hj]; exact goods_drop (goods_drop h4 j) 1, Q.drop _ _ (Q.res _ _ h5), by omega, ?_⟩
  rw [List.length_append, List.length_append]
  omega
theorem okY2 (O : ∀ {T : Tab}, TabOk Tryd.prog Door.cfg T → TabOk Tryd.prog Door.cfg (T.addC 24 C24)) : TabOk Tryd.prog Door.cfg Y2 := O (copy_ok (copy_ok okZ2 ok32 (g := 32) (t := C32) rfl) ok23 (g := 23) (t := C23) rfl)
theorem run_loop {mk : Cells → AV} {ok : Cells → Prop} (Q : Rounds mk ok) (O : TabOk Tryd.prog Door.cfg Y2) (R : Int × Cells × List UInt8) : ∀ (n : Nat) (s : List UInt8) (l : Cells) (o : List UInt8), Pn ok R n s l o →
  ((o = [] → Ev Door.cfg Tryd.prog 18 (.loop (loopAt Tryd.prog 18 2)) (IB s (mk l)) fun e τ => e = .ret ∧ endSt mk R τ) ∧
   (o = [] → Ev Door.cfg Tryd.prog 18 (.loop (loopAt Tryd.prog 18 2)) (IA s (mk l)) fun e τ => e = .ret ∧ endSt mk R τ) ∧
   (o.isEmpty = false → Ev Door.cfg Tryd.prog 18 (.loop (loopAt Tryd.prog 18 2)) (IC s (mk l) (byteCells o) o.length) fun e τ => e = .ret ∧ endSt mk R τ)) := by
 intro n
 induction n with
 | zero => intro s l o H; exact absurd H.2.1 (Nat.not_lt_zero _)
 | succ n ih =>
  intro s l o H
  have S := step_run Q H
  have hN : ∀ τ, qN (NBp mk (Pn ok R n)) (NCp mk (Pn ok R n)) τ → Ev Door.cfg Tryd.prog 18 (.loop (loopAt Tryd.prog 18 2)) τ fun e τ => e = .ret ∧ endSt mk R τ := by
   intro τ hτ
   obtain ⟨s', l', o', hP, h⟩ := qN_cases hτ
   rcases h with ⟨rfl, rfl⟩ | ⟨ho, rfl⟩
   ·exact (ih s' l' [] hP).1 rfl
   ·exact (ih s' l' o' hP).2.2 ho
  have hX : ∀ e τ, qX (fun _ _ => False) (XBp mk (Xn R)) (XCp mk (Xn R)) e τ → e = .ret ∧ endSt mk R τ := by
   intro e τ hτ
   obtain ⟨rfl, v, l', o', hR, h⟩ := qX_cases hτ
   refine ⟨rfl, ?_⟩
   replace hR : R = (v, l', o') := hR
   subst hR
   exact h
  refine ⟨fun ho => ?_, fun ho => ?_, fun ho => ?_⟩
  ·subst ho
   exact Ev.round O (t := ⟨[0, 1], [4], 0⟩) first18 rfl (can18 s (hB (mk l))) (Q.B s l _ _ H.2.2.2.2.1 S) hN hX
  ·subst ho
   exact Ev.round O (t := ⟨[0, 1], [4], 0⟩) first18 rfl (can18 s (hA (mk l))) (Q.A s l _ _ H.2.2.2.2.1 S) hN hX
  ·exact Ev.round O (t := ⟨[0, 1], [4], 0⟩) first18 rfl (can18 s (hC (mk l) (byteCells o) o.length)) (Q.C s l o _ _ H.2.2.2.2.1 S ho) hN hX
theorem run_start {mk : Cells → AV} {ok : Cells → Prop} (Q : Rounds mk ok) (O : TabOk Tryd.prog Door.cfg Y2) (s : List UInt8) (l : Cells) (hs : s.length ≤ 10000) (hg : goodsB l = true) (hk : ok l) (hr : runOk (s.length + 1) s l) :
  Ev Door.cfg Tryd.prog 18 (.loop (loopAt Tryd.prog 18 2)) (IA s (mk l)) fun e τ => e = .ret ∧ endSt mk (runF (s.length + 1) s l []) τ :=
 (run_loop Q O _ (s.length + 1) s l [] ⟨rfl, Nat.lt_succ_self _, hr, hg, hk, hs, by simp; omega⟩).2.1 rfl
end
end Go.Proofs.Pr
namespace Go.Proofs.Pr
open Go Go.Ef
noncomputable section
theorem flags_app (u : List UInt8) : ∀ (t : List UInt8) (d : Dir), (flagsF t d).2 ≠ [] → flagsF (t ++ u) d = ((flagsF t d).1, (flagsF t d).2 ++ u) := by
 intro t
 induction t with
 | nil => intro d h; exact absurd rfl h
 | cons c r ih =>
  intro d h
  have he : flagsF (c :: r) d = if isFlag c then flagsF r (setFlag d c) else (d, c :: r) := rfl
  have he2 : flagsF (c :: r ++ u) d = if isFlag c then flagsF (r ++ u) (setFlag d c) else (d, c :: r ++ u) := rfl
  rw [he] at h ⊢
  rw [he2]
  cases hc : isFlag c with
  | true =>
   rw [hc] at h
   exact ih _ h
  | false => rfl
theorem numL_app (u : List UInt8) : ∀ (t : List UInt8) (n : Int), (numL t n).2 ≠ [] → numL (t ++ u) n = ((numL t n).1, (numL t n).2 ++ u) := by
 intro t
 induction t with
 | nil => intro n h; exact absurd rfl h
 | cons c r ih =>
  intro n h
  have he : numL (c :: r) n = if 48 ≤ (c.toNat : Int) ∧ (c.toNat : Int) ≤ 57 then numL r (min (10 * max n 0 + (c.toNat - 48)) 256) else (n, c :: r) := rfl
  have he2 : numL (c :: r ++ u) n = if 48 ≤ (c.toNat : Int) ∧ (c.toNat : Int) ≤ 57 then numL (r ++ u) (min (10 * max n 0 + (c.toNat - 48)) 256) else (n, c :: r ++ u) := rfl
  rw [he] at h ⊢
  rw [he2]
  by_cases hc : 48 ≤ (c.toNat : Int) ∧ (c.toNat : Int) ≤ 57
  ·rw [if_pos hc] at h
   rw [if_pos hc, if_pos hc]
   exact ih _ h
  ·rw [if_neg hc, if_neg hc]
theorem numF_app (u t : List UInt8) (h : (numF t).2 ≠ []) : numF (t ++ u) = ((numF t).1, (numF t).2 ++ u) := by
 cases t with
 | nil => exact absurd rfl h
 | cons c r =>
  have he : numF (c :: r) = if c = 42 then (-2, r) else numL (c :: r) (-1) := rfl
  have he2 : numF (c :: r ++ u) = if c = 42 then (-2, r ++ u) else numL (c :: r ++ u) (-1) := rfl
  rw [he] at h ⊢
  rw [he2]
  by_cases hc : c = 42
  ·rw [if_pos hc, if_pos hc]
  ·rw [if_neg hc] at h
   rw [if_neg hc, if_neg hc]
   exact numL_app u _ _ h
theorem precF_app (u t : List UInt8) (h : (precF t).2 ≠ []) : precF (t ++ u) = ((precF t).1, (precF t).2 ++ u) := by
 cases t with
 | nil => exact absurd rfl h
 | cons c r =>
  have he : precF (c :: r) = if c = 46 then ((if (numF r).1 = -1 then 0 else (numF r).1), (numF r).2) else (-1, c :: r) := rfl
  have he2 : precF (c :: r ++ u) = if c = 46 then ((if (numF (r ++ u)).1 = -1 then 0 else (numF (r ++ u)).1), (numF (r ++ u)).2) else (-1, c :: r ++ u) := rfl
  rw [he] at h ⊢
  rw [he2]
  by_cases hc : c = 46
  ·rw [if_pos hc] at h
   rw [if_pos hc, if_pos hc, numF_app u r h]
  ·rw [if_neg hc, if_neg hc]
theorem endF_app (d : Dir) (w p : Int) (u t : List UInt8) (h : (endF d w p t).2.2 = 0) : endF d w p (t ++ u) = ((endF d w p t).1, (endF d w p t).2.1 ++ u, 0) := by
 cases t with
 | nil => cases h
 | cons c r =>
  have he : endF d w p (c :: r) = if kinds.contains c then (if w > 255 ∨ p > 255 then (Dir.none, [], 2) else ({ d with width := w, prec := p, kind := c.toNat }, r, 0)) else (Dir.none, [], 1) := rfl
  have he2 : endF d w p (c :: r ++ u) = if kinds.contains c then (if w > 255 ∨ p > 255 then (Dir.none, [], 2) else ({ d with width := w, prec := p, kind := c.toNat }, r ++ u, 0)) else (Dir.none, [], 1) := rfl
  rw [he] at h ⊢
  rw [he2]
  by_cases hc : kinds.contains c = true
  ·rw [if_pos hc] at h
   rw [if_pos hc, if_pos hc]
   by_cases hw : w > 255 ∨ p > 255
   ·rw [if_pos hw] at h; cases h
   ·rw [if_neg hw, if_neg hw]
  ·rw [if_neg hc] at h; cases h
theorem endF_ne {d : Dir} {w p : Int} {t : List UInt8} (h : (endF d w p t).2.2 = 0) : t ≠ [] := by
 rintro rfl; cases h
theorem read_app (u t : List UInt8) (h : (readF t).2.2 = 0) : readF (t ++ u) = ((readF t).1, (readF t).2.1 ++ u, 0) := by
 have hE := endF_ne (t := (precF (numF (flagsF t { Dir.none with prec := -1 }).2).2).2) h
 have hP : (numF (flagsF t { Dir.none with prec := -1 }).2).2 ≠ [] := by
  intro e; rw [e] at hE; exact hE rfl
 have hF : (flagsF t { Dir.none with prec := -1 }).2 ≠ [] := by
  intro e; rw [e] at hP; exact hP rfl
 unfold readF at h ⊢
 rw [flags_app u t _ hF]
 show endF (flagsF t { Dir.none with prec := -1 }).1 (numF ((flagsF t { Dir.none with prec := -1 }).2 ++ u)).1 (precF (numF ((flagsF t { Dir.none with prec := -1 }).2 ++ u)).2).1 (precF (numF ((flagsF t { Dir.none with prec := -1 }).2 ++ u)).2).2 = _
 rw [numF_app u _ hP]
 show endF _ _ (precF ((numF (flagsF t { Dir.none with prec := -1 }).2).2 ++ u)).1 (precF ((numF (flagsF t { Dir.none with prec := -1 }).2).2 ++ u)).2 = _
 rw [precF_app u _ hE]
 exact endF_app _ _ _ u _ h
theorem pct_app (f g : List UInt8) : hasPct (f ++ g) = (hasPct f || hasPct g) := by
 unfold hasPct
 simp
theorem pct_split {f : List UInt8} (h : hasPct f = true) : f = before f ++ 37 :: after f ∧ ∀ x ∈ before f, (x != 37) = true := by
 refine ⟨?_, fun x hx => List.all_eq_true.1 List.all_takeWhile x hx⟩
 have h3 := List.takeWhile_append_dropWhile (p := (· != 37)) (l := f)
 cases hr : f.dropWhile (· != 37) with
 | nil =>
  rw [hr, List.append_nil] at h3
  have hm : (37 : UInt8) ∈ f := by simpa [hasPct] using h
  rw [← h3] at hm
  have := List.all_eq_true.1 (List.all_takeWhile (l := f)) 37 hm
  simp at this
 | cons c r =>
  have hc : ¬ ((c != 37) = true) := by
   have := List.head?_dropWhile_not (p := (· != 37)) (l := f)
   rw [hr] at this
   simpa using this
  have hc' : c = 37 := by simpa using hc
  unfold before after
  rw [hr]
  rw [hr, hc'] at h3
  simpa using h3.symm
theorem split_app {f g : List UInt8} (h : hasPct f = true) : before (f ++ g) = before f ∧ after (f ++ g) = after f ++ g := by
 obtain ⟨h1, h2⟩ := pct_split h
 have e : f ++ g = before f ++ (37 :: (after f ++ g)) := by
  conv => lhs; rw [h1]
  simp
 refine ⟨?_, ?_⟩
 ·rw [e]
  show (before f ++ 37 :: (after f ++ g)).takeWhile (· != 37) = _
  rw [List.takeWhile_append_of_pos h2]; simp
 ·rw [e]
  show ((before f ++ 37 :: (after f ++ g)).dropWhile (· != 37)).drop 1 = _
  rw [List.dropWhile_append_of_pos h2]; simp
theorem split_app2 {f g : List UInt8} (h : hasPct f = false) : before (f ++ g) = f ++ before g ∧ after (f ++ g) = after g := by
 have h2 : ∀ x ∈ f, (x != 37) = true := by
  intro x hx
  simp only [bne_iff_ne, ne_eq]
  rintro rfl
  have : hasPct f = true := by simpa [hasPct] using hx
  rw [this] at h; cases h
 refine ⟨?_, ?_⟩
 ·show (f ++ g).takeWhile (· != 37) = _
  rw [List.takeWhile_append_of_pos h2]; rfl
 ·show ((f ++ g).dropWhile (· != 37)).drop 1 = _
  rw [List.dropWhile_append_of_pos h2]; rfl
end
end Go.Proofs.Pr
namespace Go.Proofs.Pr
open Go Go.Ef
noncomputable section
def okS (s : List UInt8) : Prop := checkF (s.length + 1) s = 0
theorem check_succ (n : Nat) (s : List UInt8) : checkF (n + 1) s = if hasPct s then (if (readF (after s)).2.2 = 0 then checkF n (readF (after s)).2.1 else (readF (after s)).2.2) else 0 := rfl
theorem okS_step {s : List UInt8} (h : okS s) (hp : hasPct s = true) : (readF (after s)).2.2 = 0 ∧ okS (restAt s) ∧ (restAt s).length < s.length := by
 unfold okS at h
 rw [check_succ, hp, if_pos rfl] at h
 by_cases h0 : (readF (after s)).2.2 = 0
 ·rw [if_pos h0] at h
  have l := rest_len hp h0
  refine ⟨h0, ?_, by omega⟩
  unfold okS
  rw [← h]
  exact checkF_more _ _ (by omega) _ (by show (restAt s).length < s.length; omega)
 ·rw [if_neg h0] at h; exact absurd h h0
theorem run_eq (n : Nat) (s : List UInt8) (l : Cells) (o : List UInt8) : runF (n + 1) s l o = if hasPct s then (if (resAt s l).2.1 = 0 then (if (resAt s l).1.kind = 37 then runF n (restAt s) (resAt s l).2.2 (o ++ before s ++ padF (resAt s l).1 [] [37]) else runF n (restAt s) ((resAt s l).2.2.drop 1) (o ++ before s ++ padF (resAt s l).1 (bodyAt (resAt s l)).1 (bodyAt (resAt s l)).2)) else ((resAt s l).2.1, (resAt s l).2.2, o ++ before s)) else (0, l, o ++ s) := rfl
theorem run_more : ∀ (n : Nat) (s : List UInt8), s.length < n → okS s → ∀ (m : Nat), s.length < m → ∀ l o, runF n s l o = runF m s l o := by
 intro n
 induction n with
 | zero => intro s h; omega
 | succ n ih =>
  intro s h hs m hm l o
  cases m with
  | zero => omega
  | succ m =>
   rw [run_eq, run_eq]
   cases hp : hasPct s with
   | false => rfl
   | true =>
    obtain ⟨_, h2, h3⟩ := okS_step hs hp
    rw [if_pos rfl, if_pos rfl, ih (restAt s) (by omega) h2 m (by omega), ih (restAt s) (by omega) h2 m (by omega)]
def R (s : List UInt8) (l : Cells) (o : List UInt8) : Int × Cells × List UInt8 := runF (s.length + 1) s l o
theorem R_eq {s : List UInt8} (h : okS s) (l : Cells) (o : List UInt8) : R s l o = if hasPct s then (if (resAt s l).2.1 = 0 then (if (resAt s l).1.kind = 37 then R (restAt s) (resAt s l).2.2 (o ++ before s ++ padF (resAt s l).1 [] [37]) else R (restAt s) ((resAt s l).2.2.drop 1) (o ++ before s ++ padF (resAt s l).1 (bodyAt (resAt s l)).1 (bodyAt (resAt s l)).2)) else ((resAt s l).2.1, (resAt s l).2.2, o ++ before s)) else (0, l, o ++ s) := by
 unfold R
 rw [run_eq]
 cases hp : hasPct s with
 | false => rfl
 | true =>
  obtain ⟨_, h2, h3⟩ := okS_step h hp
  rw [if_pos rfl, if_pos rfl, run_more s.length (restAt s) h3 h2 ((restAt s).length + 1) (by omega), run_more s.length (restAt s) h3 h2 ((restAt s).length + 1) (by omega)]
theorem rest_app {f g : List UInt8} (h : okS f) (hp : hasPct f = true) : hasPct (f ++ g) = true ∧ before (f ++ g) = before f ∧ dirAt (f ++ g) = dirAt f ∧ restAt (f ++ g) = restAt f ++ g ∧ (readF (after (f ++ g))).2.2 = 0 := by
 obtain ⟨h0, _, _⟩ := okS_step h hp
 obtain ⟨s1, s2⟩ := split_app (g := g) hp
 have hr := read_app g (after f) h0
 refine ⟨by rw [pct_app, hp]; rfl, s1, ?_, ?_, ?_⟩
 ·unfold dirAt; rw [s2, hr]
 ·unfold restAt; rw [s2, hr]
 ·rw [s2, hr]
theorem ok_app {g : List UInt8} (hg : okS g) : ∀ (n : Nat) (f : List UInt8), f.length < n → okS f → okS (f ++ g) := by
 intro n
 induction n with
 | zero => intro f h; omega
 | succ n ih =>
  intro f hl hf
  cases hp : hasPct f with
  | false =>
   obtain ⟨s1, s2⟩ := split_app2 (g := g) hp
   unfold okS
   rw [check_succ, pct_app, hp, s2]
   have := hg
   unfold okS at this
   rw [check_succ] at this
   cases hq : hasPct g with
   | false => rfl
   | true =>
    obtain ⟨h0, h1, h2⟩ := okS_step hg hq
    rw [show (false || true) = true from rfl, if_pos rfl, if_pos h0]
    show checkF _ (restAt g) = 0
    rw [← h1]
    exact checkF_more _ _ (by rw [List.length_append]; omega) _ (by omega)
  | true =>
   obtain ⟨h0, h1, h2⟩ := okS_step hf hp
   obtain ⟨r1, _, _, r4, r5⟩ := rest_app (g := g) hf hp
   unfold okS
   rw [check_succ, r1, if_pos rfl, if_pos r5]
   show checkF _ (restAt (f ++ g)) = 0
   rw [r4]
   have := ih (restAt f) (by omega) h1
   rw [← this]
   exact checkF_more _ _ (by rw [List.length_append, List.length_append]; omega) _ (by omega)
theorem R_out : ∀ (n : Nat) (s : List UInt8), s.length < n → okS s → ∀ l o, R s l o = ((R s l []).1, (R s l []).2.1, o ++ (R s l []).2.2) := by
 intro n
 induction n with
 | zero => intro s h; omega
 | succ n ih =>
  intro s h hs l o
  rw [R_eq hs, R_eq hs l []]
  cases hp : hasPct s with
  | false => rfl
  | true =>
   obtain ⟨_, h2, h3⟩ := okS_step hs hp
   rw [if_pos rfl, if_pos rfl]
   by_cases h0 : (resAt s l).2.1 = 0
   ·rw [if_pos h0, if_pos h0]
    by_cases hk : (resAt s l).1.kind = 37
    ·rw [if_pos hk, if_pos hk, ih _ (by omega) h2 _ (o ++ _ ++ _), ih _ (by omega) h2 _ ([] ++ _ ++ _)]
     simp [List.append_assoc]
    ·rw [if_neg hk, if_neg hk, ih _ (by omega) h2 _ (o ++ _ ++ _), ih _ (by omega) h2 _ ([] ++ _ ++ _)]
     simp [List.append_assoc]
   ·rw [if_neg h0, if_neg h0]
    simp
theorem R_app {g : List UInt8} (hg : okS g) : ∀ (n : Nat) (f : List UInt8), f.length < n → okS f → ∀ l o, R (f ++ g) l o = if (R f l o).1 = 0 then R g (R f l o).2.1 (R f l o).2.2 else R f l o := by
 intro n
 induction n with
 | zero => intro f h; omega
 | succ n ih =>
  intro f hl hf l o
  have hfg := ok_app hg (f.length + 1) f (Nat.lt_succ_self _) hf
  cases hp : hasPct f with
  | false =>
   obtain ⟨s1, s2⟩ := split_app2 (g := g) hp
   have e1 : R f l o = (0, l, o ++ f) := by rw [R_eq hf, hp]; rfl
   rw [e1, if_pos rfl]
   show R (f ++ g) l o = R g l (o ++ f)
   rw [R_eq hfg, R_eq hg, pct_app, hp]
   have e2 : resAt (f ++ g) l = resAt g l := by unfold resAt dirAt; rw [s2]
   have e3 : restAt (f ++ g) = restAt g := by unfold restAt; rw [s2]
   rw [e2, e3, s1]
   simp only [Bool.false_or, List.append_assoc]
  | true =>
   obtain ⟨h0, h1, h2⟩ := okS_step hf hp
   obtain ⟨r1, r2, r3, r4, r5⟩ := rest_app (g := g) hf hp
   have e2 : resAt (f ++ g) l = resAt f l := by unfold resAt; rw [r3]
   rw [R_eq hfg, R_eq hf, r1, hp, e2, r2, r4, if_pos rfl, if_pos rfl]
   by_cases h0 : (resAt f l).2.1 = 0
   ·rw [if_pos h0, if_pos h0]
    by_cases hk : (resAt f l).1.kind = 37
    ·rw [if_pos hk, if_pos hk]
     exact ih (restAt f) (by omega) h1 _ _
    ·rw [if_neg hk, if_neg hk]
     exact ih (restAt f) (by omega) h1 _ _
   ·rw [if_neg h0, if_neg h0, if_neg (by simpa using h0)]
end
end Go.Proofs.Pr
namespace Go.Proofs.Pr
open Go Go.Ef
noncomputable section
theorem take_app {l : Cells} (h : 1 ≤ l.length) (t : Cells) : takeF (l ++ t) = takeF l ∧ headK (l ++ t) = headK l ∧ headN (l ++ t) = headN l ∧ headS (l ++ t) = headS l ∧ (l ++ t).drop 1 = l.drop 1 ++ t := by
 cases l with
 | nil => cases h
 | cons e r => exact ⟨rfl, rfl, rfl, rfl, rfl⟩
theorem resW_app {d : Dir} {l : Cells} (h : d.width = -2 → 1 ≤ l.length) (t : Cells) : resW d (l ++ t) = ((resW d l).1, (resW d l).2 ++ t) := by
 by_cases hw : d.width = -2
 ·obtain ⟨a1, _, _, _, a5⟩ := take_app (h hw) t
  by_cases h2 : takeF l < 0
  ·rw [resW_neg hw h2, resW_neg hw (by rw [a1]; exact h2), a1, a5]
  ·rw [resW_pos hw h2, resW_pos hw (by rw [a1]; exact h2), a1, a5]
 ·rw [resW_no hw, resW_no hw]
theorem resP_app {d : Dir} {l : Cells} (h : d.prec = -2 → 1 ≤ l.length) (t : Cells) : resP (d, l ++ t) = ((resP (d, l)).1, (resP (d, l)).2 ++ t) := by
 by_cases hw : d.prec = -2
 ·obtain ⟨a1, _, _, _, a5⟩ := take_app (h hw) t
  rw [resP_yes (x := (d, l)) hw, resP_yes (x := (d, l ++ t)) hw]
  show ((_, _) : Dir × Cells) = (_, _)
  rw [show takeF (d, l ++ t).2 = takeF l from a1]
  show ((_, (l ++ t).drop 1) : Dir × Cells) = (_, _)
  rw [a5]
 ·rw [resP_no (x := (d, l)) hw, resP_no (x := (d, l ++ t)) hw]
theorem resE_app (d : Dir) (l t : Cells) : resE (d, l ++ t) = ((resE (d, l)).1, (resE (d, l)).2.1, (resE (d, l)).2.2 ++ t) := by
 by_cases hw : d.width > 255 ∨ d.prec > 255
 ·rw [resE_yes (x := (d, l)) hw, resE_yes (x := (d, l ++ t)) hw]
 ·rw [resE_no (x := (d, l)) hw, resE_no (x := (d, l ++ t)) hw]
def astN (d : Dir) : Nat := (if d.width = -2 then 1 else 0) + (if d.prec = -2 then 1 else 0)
theorem res_len {d : Dir} {l : Cells} (h : ¬ l.length < needF d) : (resolveF d l).2.2.length + astN d = l.length := by
 rw [res_ge h]
 obtain ⟨_, e2, _⟩ := resE_k (resP (resW d l))
 obtain ⟨_, _, p3, _⟩ := resP_k (resW d l)
 obtain ⟨_, w2, w3, _, _⟩ := resW_k d l
 rw [e2, p3, w2, w3, List.drop_drop, List.length_drop]
 unfold needF at h
 unfold astN
 omega
theorem res_app {d : Dir} {l : Cells} (h : ¬ l.length < needF d) (t : Cells) : resolveF d (l ++ t) = ((resolveF d l).1, (resolveF d l).2.1, (resolveF d l).2.2 ++ t) := by
 have h' : ¬ (l ++ t).length < needF d := by rw [List.length_append]; omega
 obtain ⟨_, w2, w3, _, _⟩ := resW_k d l
 unfold needF at h
 have e1 : resW d (l ++ t) = ((resW d l).1, (resW d l).2 ++ t) := resW_app (fun hw => by rw [if_pos hw] at h; omega) t
 have e2 : resP ((resW d l).1, (resW d l).2 ++ t) = ((resP (resW d l)).1, (resP (resW d l)).2 ++ t) := resP_app (fun hp => by
  rw [w2] at hp
  rw [if_pos hp] at h
  rw [w3, List.length_drop]
  omega) t
 rw [res_ge h', res_ge (by unfold needF; exact h), e1, e2]
 exact resE_app _ _ t
theorem R_more : ∀ (n : Nat) (s : List UInt8), s.length < n → okS s → ∀ (l t : Cells) o, (R s l o).1 = 18 ∨ R s (l ++ t) o = ((R s l o).1, (R s l o).2.1 ++ t, (R s l o).2.2) := by
 intro n
 induction n with
 | zero => intro s h; omega
 | succ n ih =>
  intro s h hs l t o
  rw [R_eq hs l o, R_eq hs (l ++ t) o]
  cases hp : hasPct s with
  | false => exact .inr rfl
  | true =>
   obtain ⟨_, h2, h3⟩ := okS_step hs hp
   rw [if_pos rfl, if_pos rfl]
   by_cases hn : l.length < needF (dirAt s)
   ·left
    have : resAt s l = (dirAt s, 18, l) := res_lt hn
    rw [this, if_neg (show ¬ (18 : Int) = 0 by decide)]
   ·have e : resAt s (l ++ t) = ((resAt s l).1, (resAt s l).2.1, (resAt s l).2.2 ++ t) := res_app hn t
    have len : (resAt s l).2.2.length + astN (dirAt s) = l.length := res_len hn
    rw [e]
    by_cases h0 : (resAt s l).2.1 = 0
    ·rw [if_pos h0, if_pos h0]
     by_cases hk : (resAt s l).1.kind = 37
     ·rw [if_pos hk, if_pos hk]
      exact ih _ (by omega) h2 _ _ _
     ·rw [if_neg hk, if_neg hk]
      have hk' : (dirAt s).kind ≠ 37 := by
       intro hk'
       apply hk
       show (resolveF (dirAt s) l).1.kind = 37
       rw [res_ge hn]
       rw [(resE_k _).1, (resP_k _).1, (resW_k _ _).1]
       exact hk'
      have h1 : 1 ≤ (resAt s l).2.2.length := by
       unfold needF at hn
       rw [if_neg hk'] at hn
       unfold astN at len
       omega
      obtain ⟨_, a2, a3, a4, a5⟩ := take_app h1 t
      have eb : bodyAt ((resAt s l).1, (resAt s l).2.1, (resAt s l).2.2 ++ t) = bodyAt (resAt s l) := by
       show bodyF _ _ _ _ = bodyF _ _ _ _
       rw [show headK _ = _ from a2, show headN _ = _ from a3, show headS _ = _ from a4]
      rw [eb]
      show _ ∨ R (restAt s) (((resAt s l).2.2 ++ t).drop 1) _ = _
      rw [a5]
      exact ih _ (by omega) h2 _ _ _
    ·rw [if_neg h0, if_neg h0]
     exact .inr rfl
theorem R_nil : ∀ (n : Nat) (s : List UInt8), s.length < n → okS s → ∀ o, (R s [] o).2.1 = [] := by
 intro n
 induction n with
 | zero => intro s h; omega
 | succ n ih =>
  intro s h hs o
  rw [R_eq hs]
  cases hp : hasPct s with
  | false => rfl
  | true =>
   obtain ⟨_, h2, h3⟩ := okS_step hs hp
   rw [if_pos rfl]
   have e : (resAt s []).2.2 = [] := by unfold resAt; rw [res_nil]
   by_cases h0 : (resAt s []).2.1 = 0
   ·rw [if_pos h0, e]
    by_cases hk : (resAt s []).1.kind = 37
    ·rw [if_pos hk]; exact ih _ (by omega) h2 _
    ·rw [if_neg hk]; exact ih _ (by omega) h2 _
   ·rw [if_neg h0]; exact e
theorem kind_res {s : List UInt8} {l : Cells} (hn : ¬ l.length < needF (dirAt s)) : (resAt s l).1.kind = (dirAt s).kind := by
 show (resolveF (dirAt s) l).1.kind = _
 rw [res_ge hn, (resE_k _).1, (resP_k _).1, (resW_k _ _).1]
theorem R_last : ∀ (n : Nat) (s : List UInt8), s.length < n → okS s → ∀ (l : Cells) (a : List AV) o, (R s (l ++ [a]) o).1 = 0 → (R s (l ++ [a]) o).2.1 ≠ [] → (R s l o).1 = 0 := by
 intro n
 induction n with
 | zero => intro s h; omega
 | succ n ih =>
  intro s h hs l a o g1 g2
  rw [R_eq hs l o]
  rw [R_eq hs (l ++ [a]) o] at g1 g2
  cases hp : hasPct s with
  | false => rfl
  | true =>
   obtain ⟨_, h2, h3⟩ := okS_step hs hp
   rw [hp, if_pos rfl] at g1 g2
   rw [if_pos rfl]
   by_cases hn : l.length < needF (dirAt s)
   ·exfalso
    by_cases hn2 : (l ++ [a]).length < needF (dirAt s)
    ·have : resAt s (l ++ [a]) = (dirAt s, 18, l ++ [a]) := res_lt hn2
     rw [this, if_neg (show ¬ (18 : Int) = 0 by decide)] at g1
     cases g1
    ·have len : (resAt s (l ++ [a])).2.2.length + astN (dirAt s) = (l ++ [a]).length := res_len hn2
     have hkd := kind_res hn2
     rw [List.length_append, List.length_singleton] at len
     by_cases h0 : (resAt s (l ++ [a])).2.1 = 0
     ·rw [if_pos h0] at g1 g2
      by_cases hk : (resAt s (l ++ [a])).1.kind = 37
      ·rw [if_pos hk] at g1 g2
       have : (resAt s (l ++ [a])).2.2 = [] := by
        apply List.eq_nil_of_length_eq_zero
        rw [hkd] at hk
        unfold needF at hn
        rw [if_pos hk] at hn
        unfold astN at len
        omega
       rw [this] at g2
       exact g2 (R_nil _ _ (Nat.lt_succ_self _) h2 _)
      ·rw [if_neg hk] at g1 g2
       have : (resAt s (l ++ [a])).2.2.drop 1 = [] := by
        apply List.eq_nil_of_length_eq_zero
        rw [hkd] at hk
        unfold needF at hn
        rw [if_neg hk] at hn
        unfold astN at len
        rw [List.length_drop]
        omega
       rw [this] at g2
       exact g2 (R_nil _ _ (Nat.lt_succ_self _) h2 _)
     ·rw [if_neg h0] at g1
      exact h0 g1
   ·have e : resAt s (l ++ [a]) = ((resAt s l).1, (resAt s l).2.1, (resAt s l).2.2 ++ [a]) := res_app hn [a]
    have len : (resAt s l).2.2.length + astN (dirAt s) = l.length := res_len hn
    rw [e] at g1 g2
    by_cases h0 : (resAt s l).2.1 = 0
    ·rw [if_pos h0]
     rw [if_pos h0] at g1 g2
     by_cases hk : (resAt s l).1.kind = 37
     ·rw [if_pos hk]
      rw [if_pos hk] at g1 g2
      exact ih _ (by omega) h2 _ _ _ g1 g2
     ·rw [if_neg hk]
      rw [if_neg hk] at g1 g2
      have h1 : 1 ≤ (resAt s l).2.2.length := by
       rw [kind_res hn] at hk
       unfold needF at hn
       rw [if_neg hk] at hn
       unfold astN at len
       omega
      obtain ⟨_, a2, a3, a4, a5⟩ := take_app h1 [a]
      have eb : bodyAt ((resAt s l).1, (resAt s l).2.1, (resAt s l).2.2 ++ [a]) = bodyAt (resAt s l) := by
       show bodyF _ _ _ _ = bodyF _ _ _ _
       rw [show headK _ = _ from a2, show headN _ = _ from a3, show headS _ = _ from a4]
      rw [eb, show (((resAt s l).1, (resAt s l).2.1, (resAt s l).2.2 ++ [a]) : Dir × Int × Cells).2.2.drop 1 = (resAt s l).2.2.drop 1 ++ [a] from a5] at g1 g2
      exact ih _ (by omega) h2 _ _ _ g1 g2
    ·rw [if_neg h0] at g1
     exact absurd g1 h0
theorem joins_run {f g : List UInt8} (hf : okS f) (hg : okS g) {l : Cells} {k : Nat} (hk : k ≤ l.length) (first : ∀ j, j < k → (R f (l.take j) []).1 = 18) (hx : (R f (l.take k) []).1 ≠ 18) :
  ((R f (l.take k) []).1 ≠ 0 → (R (f ++ g) l []).1 = (R f (l.take k) []).1) ∧ ((R f (l.take k) []).1 = 0 → R (f ++ g) l [] = R g (l.drop k) (R f (l.take k) []).2.2) := by
 have e := R_app hg _ f (Nat.lt_succ_self _) hf l []
 have d := (R_more _ f (Nat.lt_succ_self _) hf (l.take k) (l.drop k) []).resolve_left hx
 rw [List.take_append_drop] at d
 refine ⟨fun h => ?_, fun h => ?_⟩
 ·rw [e, d, if_neg h]
 ·have hm : (R f (l.take k) []).2.1 = [] := by
   cases k with
   | zero => rw [List.take_zero]; exact R_nil _ _ (Nat.lt_succ_self _) hf _
   | succ j =>
    by_cases hne : (R f (l.take (j + 1)) []).2.1 = []
    ·exact hne
    ·exfalso
     have hj : l[j]? = some l[j] := List.getElem?_eq_getElem (by omega)
     have ht : l.take (j + 1) = l.take j ++ [l[j]] := by rw [List.take_add_one, hj]; rfl
     rw [ht] at hne h
     have := R_last _ f (Nat.lt_succ_self _) hf (l.take j) l[j] [] h hne
     rw [first j (by omega)] at this
     cases this
  rw [e, d, if_pos h, hm, List.nil_append]
theorem joins_none {f g : List UInt8} (hf : okS f) (hg : okS g) {l : Cells} (h : (R f l []).1 = 18) : (R (f ++ g) l []).1 = 18 := by
 rw [R_app hg _ f (Nat.lt_succ_self _) hf l [], if_neg (by rw [h]; decide)]; exact h
end
end Go.Proofs.Pr
namespace Go.Proofs.Pr
open Go Go.Ef
noncomputable section
set_option maxRecDepth 100000
theorem v34 (s : List UInt8) (a : Int) (l : Int) (n : Int) (k : Int) (N : Int → Int → Prop) (X : Ex → Int → Int → Prop) (h :
 iteP (decide (k < (↑s.length : Int))) (iteP (inRange k s.length) (iteP (decide (48 ≤ byteAt s k)) (iteP (inRange k s.length) (iteP (decide (byteAt s k ≤ 57)) (iteP (decide (a < k)) (iteP (inRange k s.length) (I34 s a l (min (IntKind.i64.wrap (IntKind.i64.wrap (10 * max n 0) + IntKind.i64.wrap (IntKind.u8.wrap (byteAt s k - 48)))) 256) (IntKind.i64.wrap (k + 1)) = I34 s a l (min (IntKind.i64.wrap
 (IntKind.i64.wrap (10 * max n 0) + IntKind.i64.wrap (IntKind.u8.wrap (byteAt s k - 48)))) 256) (IntKind.i64.wrap (k + 1)) ∧ N (min (IntKind.i64.wrap (IntKind.i64.wrap (10 * max n 0) + IntKind.i64.wrap (IntKind.u8.wrap (byteAt s k - 48)))) 256) (IntKind.i64.wrap (k + 1))) False) (iteP (inRange k s.length) (iteP (decide (l ≤ byteAt s k)) (iteP (inRange k s.length) (I34 s a l (min (IntKind.i64.wrap
 (IntKind.i64.wrap (10 * max n 0) + IntKind.i64.wrap (IntKind.u8.wrap (byteAt s k - 48)))) 256) (IntKind.i64.wrap (k + 1)) = I34 s a l (min (IntKind.i64.wrap (IntKind.i64.wrap (10 * max n 0) + IntKind.i64.wrap (IntKind.u8.wrap (byteAt s k - 48)))) 256) (IntKind.i64.wrap (k + 1)) ∧ N (min (IntKind.i64.wrap (IntKind.i64.wrap (10 * max n 0) + IntKind.i64.wrap (IntKind.u8.wrap (byteAt s k - 48)))) 256)
 (IntKind.i64.wrap (k + 1))) False) (J34 n k = J34 n k ∧ X (Ex.exit 0) n k)) False)) (J34 n k = J34 n k ∧ X (Ex.exit 0) n k)) False) (J34 n k = J34 n k ∧ X (Ex.exit 0) n k)) False) (J34 n k = J34 n k ∧ X (Ex.exit 0) n k)) :
 (fun (s : List UInt8) (a l n k : Int) (N : Int → Int → Prop) (X : Ex → Int → Int → Prop) => wpRound tab0 Door.cfg Tryd.prog 40 34 5 (I34 s a l n k) (fun τ => τ = I34 s a l (slI τ 8) (slI τ 9) ∧ N (slI τ 8) (slI τ 9)) (fun e τ => τ = J34 (slI τ 8) (slI τ 9) ∧ X e (slI τ 8) (slI τ 9))) s a l n k N X :=
 Eq.mp (by kernel_rfl) h
theorem v33 (s : List UInt8) (c : Int) (k : Int) (N : Int → Prop) (X1 : Bool → Prop) (X2 : Ex → Prop) (h :
 iteP (decide (k < (↑s.length : Int))) (iteP (inRange k s.length) (iteP (byteAt s k == c) (J33 true = J33 true ∧ X1 true) (I33 s c (IntKind.i64.wrap (k + 1)) = I33 s c (IntKind.i64.wrap (k + 1)) ∧ N (IntKind.i64.wrap (k + 1)))) False) (stOf 17 [(4, Slot.unk)] [] { next := 1, objs := Tr.leaf, ro := 1, ty := Tr.leaf } = stOf 17 [(4, Slot.unk)] []
 { next := 1, objs := Tr.leaf, ro := 1, ty := Tr.leaf } ∧ X2 (Ex.exit 0))) :
 (fun (s : List UInt8) (c k : Int) (N : Int → Prop) (X1 : Bool → Prop) (X2 : Ex → Prop) => wpRound tab0 Door.cfg Tryd.prog 40 33 3 (I33 s c k) (fun τ => τ = I33 s c (slI τ 5) ∧ N (slI τ 5)) (fun e τ => match e with | .ret => τ = J33 (slB τ 4) ∧ X1 (slB τ 4) | e => τ = stOf 17 [(4, .unk)] [] heapF ∧ X2 e)) s c k N X1 X2 :=
 Eq.mp (by kernel_rfl) h
theorem c34 (s : List UInt8) (a : Int) (l : Int) (K : AV → Prop) (h :
 iteP (decide (a < (↑s.length : Int))) (iteP (inRange a s.length) (iteP (byteAt s a == 42) (K (AV.tup [AV.sc (Value.int IntKind.i64 (-2)), AV.sc (Value.int IntKind.i64 (IntKind.i64.wrap (a + 1)))])) (loopAt Tryd.prog 34 5 = loopAt Tryd.prog 34 5 ∧ (I34 s a l (-1) a = I34 s a l (-1) a ∧ (-1 : Int) = -1 ∧ a = a ∧ 0 ≤ a ∧ a ≤ (↑s.length : Int) ∧ s.length ≤ 1000000) ∧ ∀ (x : Int × Int), 0 ≤ x.snd ∧
 x.snd ≤ (↑s.length : Int) ∧ numA l (List.drop a.toNat s) (-1) = (x.fst, List.drop x.snd.toNat s) → K (AV.tup [AV.sc (Value.int IntKind.i64 x.fst), AV.sc (Value.int IntKind.i64 x.snd)]))) False) (loopAt Tryd.prog 34 5 = loopAt Tryd.prog 34 5 ∧ (I34 s a l (-1) a = I34 s a l (-1) a ∧ (-1 : Int) = -1 ∧ a = a ∧ 0 ≤ a ∧ a ≤ (↑s.length : Int) ∧ s.length ≤ 1000000) ∧ ∀ (x : Int × Int), 0 ≤ x.snd ∧
 x.snd ≤ (↑s.length : Int) ∧ numA l (List.drop a.toNat s) (-1) = (x.fst, List.drop x.snd.toNat s) → K (AV.tup [AV.sc (Value.int IntKind.i64 x.fst), AV.sc (Value.int IntKind.i64 x.snd)]))) :
 (fun (s : List UInt8) (a l : Int) (K : AV → Prop) => wpCall R1 Door.cfg Tryd.prog 40 34 [aStr s, aK .i64 a, aK .u8 l] heapF fun r h' => wpBack h' r K) s a l K :=
 Eq.mp (by kernel_rfl) h
theorem c33 (s : List UInt8) (c : Int) (K : AV → Prop) (h :
 loopAt Tryd.prog 33 3 = loopAt Tryd.prog 33 3 ∧ (I33 s c 0 = I33 s c 0 ∧ (0 : Int) = 0 ∧ s.length ≤ 1000000) ∧ (∀ (_ : Unit), (s.any fun (c_1 : UInt8) => decide ((↑c_1.toNat : Int) = c)) = true → K (AV.sc (Value.bool true))) ∧ ∀ (_ : Unit), (s.any fun (c_1 : UInt8) => decide ((↑c_1.toNat : Int) = c)) = false → K (AV.sc (Value.bool false))) :
 (fun (s : List UInt8) (c : Int) (K : AV → Prop) => wpCall R1 Door.cfg Tryd.prog 40 33 [aStr s, aK .u8 c] heapF fun r h' => wpBack h' r K) s c K :=
 Eq.mp (by kernel_rfl) h
theorem v20 (s : List UInt8) (a : Int) (d : Dir) (N : Int → Dir → Prop) (X : Ex → Int → Dir → Prop) (h :
    iteP (decide (a < (↑s.length : Int)))
  (iteP (inRange a s.length)
    (Nat.le (4 : Nat) (1000000 : Nat) ∧
      ∀ (x : Bool),
        (x =
            [(45 : UInt8), (48 : UInt8), (43 : UInt8), (32 : UInt8)].any fun (b : UInt8) =>
              decide ((↑b.toNat : Int) = byteAt s a)) →
          iteP x
            (iteP (inRange a s.length)
              (iteP (byteAt s a == (45 : Int))
                (I20 s (IntKind.i64.wrap (a + (1 : Int)))
                      { minus := true, zero := d.zero, plus := d.plus, space := d.space, width := d.width,
                        prec := d.prec, kind := d.kind } =
                    I20 s (IntKind.i64.wrap (a + (1 : Int)))
                      { minus := true, zero := d.zero, plus := d.plus, space := d.space, width := d.width,
                        prec := d.prec, kind := d.kind } ∧
                  N (IntKind.i64.wrap (a + (1 : Int)))
                    { minus := true, zero := d.zero, plus := d.plus, space := d.space, width := d.width, prec := d.prec,
                      kind := d.kind })
                (iteP (byteAt s a == (48 : Int))
                  (I20 s (IntKind.i64.wrap (a + (1 : Int)))
                        { minus := d.minus, zero := true, plus := d.plus, space := d.space, width := d.width,
                          prec := d.prec, kind := d.kind } =
                      I20 s (IntKind.i64.wrap (a + (1 : Int)))
                        { minus := d.minus, zero := true, plus := d.plus, space := d.space, width := d.width,
                          prec := d.prec, kind := d.kind } ∧
                    N (IntKind.i64.wrap (a + (1 : Int)))
                      { minus := d.minus, zero := true, plus := d.plus, space := d.space, width := d.width,
                        prec := d.prec, kind := d.kind })
                  (iteP (byteAt s a == (43 : Int))
                    (I20 s (IntKind.i64.wrap (a + (1 : Int)))
                          { minus := d.minus, zero := d.zero, plus := true, space := d.space, width := d.width,
                            prec := d.prec, kind := d.kind } =
                        I20 s (IntKind.i64.wrap (a + (1 : Int)))
                          { minus := d.minus, zero := d.zero, plus := true, space := d.space, width := d.width,
                            prec := d.prec, kind := d.kind } ∧
                      N (IntKind.i64.wrap (a + (1 : Int)))
                        { minus := d.minus, zero := d.zero, plus := true, space := d.space, width := d.width,
                          prec := d.prec, kind := d.kind })
                    (I20 s (IntKind.i64.wrap (a + (1 : Int)))
                          { minus := d.minus, zero := d.zero, plus := d.plus, space := true, width := d.width,
                            prec := d.prec, kind := d.kind } =
                        I20 s (IntKind.i64.wrap (a + (1 : Int)))
                          { minus := d.minus, zero := d.zero, plus := d.plus, space := true, width := d.width,
                            prec := d.prec, kind := d.kind } ∧
                      N (IntKind.i64.wrap (a + (1 : Int)))
                        { minus := d.minus, zero := d.zero, plus := d.plus, space := true, width := d.width,
                          prec := d.prec, kind := d.kind }))))
              False)
            (I20 s a
                  { minus := d.minus, zero := d.zero, plus := d.plus, space := d.space, width := d.width,
                    prec := d.prec, kind := d.kind } =
                I20 s a
                  { minus := d.minus, zero := d.zero, plus := d.plus, space := d.space, width := d.width,
                    prec := d.prec, kind := d.kind } ∧
              X (Ex.exit (0 : Nat)) a
                { minus := d.minus, zero := d.zero, plus := d.plus, space := d.space, width := d.width, prec := d.prec,
                  kind := d.kind }))
    False)
  (I20 s a
        { minus := d.minus, zero := d.zero, plus := d.plus, space := d.space, width := d.width, prec := d.prec,
          kind := d.kind } =
      I20 s a
        { minus := d.minus, zero := d.zero, plus := d.plus, space := d.space, width := d.width, prec := d.prec,
          kind := d.kind } ∧
    X (Ex.exit (0 : Nat)) a
      { minus := d.minus, zero := d.zero, plus := d.plus, space := d.space, width := d.width, prec := d.prec,
        kind := d.kind })) :
    (fun (s : List UInt8) (a : Int) (d : Dir) (N : Int → Dir → Prop) (X : Ex → Int → Dir → Prop) => wpRound R2 Door.cfg Tryd.prog 40 20 3 (I20 s a d) (fun τ => τ = I20 s (slI τ 1) (rdDir τ 1) ∧ N (slI τ 1) (rdDir τ 1)) (fun e τ => τ = I20 s (slI τ 1) (rdDir τ 1) ∧ X e (slI τ 1) (rdDir τ 1))) s a d N X :=
  Eq.mp (by kernel_rfl) h
theorem c20 (s : List UInt8) (a : Int) (K : AV → Prop) (h :
    loopAt Tryd.prog (20 : Nat) (3 : Nat) = loopAt Tryd.prog (20 : Nat) (3 : Nat) ∧
  (I20 s a
          { minus := false, zero := false, plus := false, space := false, width := (0 : Int), prec := (-1 : Int),
            kind := (0 : Int) } =
        I20 s a
          { minus := false, zero := false, plus := false, space := false, width := (0 : Int), prec := (-1 : Int),
            kind := (0 : Int) } ∧
      (0 : Int) ≤ a ∧ a ≤ (↑s.length : Int) ∧ s.length ≤ (1000000 : Nat)) ∧
    ∀ (x : Int × Dir),
      (0 : Int) ≤ x.fst ∧
          x.fst ≤ (↑s.length : Int) ∧
            flagsF (List.drop a.toNat s)
                { minus := false, zero := false, plus := false, space := false, width := (0 : Int), prec := (-1 : Int),
                  kind := (0 : Int) } =
              (x.snd, List.drop x.fst.toNat s) →
        (s.length ≤ (1000000 : Nat) ∧ (0 : Int) ≤ x.fst ∧ x.fst ≤ (↑s.length : Int)) ∧
          ∀ (x_1 : Int × Int),
            (0 : Int) ≤ x_1.snd ∧
                x_1.snd ≤ (↑s.length : Int) ∧
                  numR (49 : Int) (List.drop x.fst.toNat s) = (x_1.fst, List.drop x_1.snd.toNat s) →
              iteP (decide (x_1.snd < (↑s.length : Int)))
                (iteP (inRange x_1.snd s.length)
                  (iteP (byteAt s x_1.snd == (46 : Int))
                    ((s.length ≤ (1000000 : Nat) ∧
                        (0 : Int) ≤ IntKind.i64.wrap (x_1.snd + (1 : Int)) ∧
                          IntKind.i64.wrap (x_1.snd + (1 : Int)) ≤ (↑s.length : Int)) ∧
                      ∀ (x_2 : Int × Int),
                        (0 : Int) ≤ x_2.snd ∧
                            x_2.snd ≤ (↑s.length : Int) ∧
                              numR (48 : Int) (List.drop (IntKind.i64.wrap (x_1.snd + (1 : Int))).toNat s) =
                                (x_2.fst, List.drop x_2.snd.toNat s) →
                          iteP (x_2.fst == (-1 : Int))
                            (iteP (decide ((↑s.length : Int) ≤ x_2.snd))
                              (K
                                (AV.tup
                                  [AV.agg
                                      [AV.sc (Value.bool false), AV.sc (Value.bool false), AV.sc (Value.bool false),
                                        AV.sc (Value.bool false), AV.sc (Value.int IntKind.i64 (0 : Int)),
                                        AV.sc (Value.int IntKind.i64 (0 : Int)),
                                        AV.sc (Value.int IntKind.u8 (0 : Int))],
                                    AV.sc (Value.int IntKind.i64 (0 : Int)), AV.sc (Value.int IntKind.i64 (1 : Int))]))
                              (iteP (inRange x_2.snd s.length)
                                (Nat.le (10 : Nat) (1000000 : Nat) ∧
                                  ∀ (x_3 : Bool),
                                    (x_3 =
                                        [(100 : UInt8), (105 : UInt8), (111 : UInt8), (120 : UInt8), (88 : UInt8),
                                              (117 : UInt8), (99 : UInt8), (115 : UInt8), (102 : UInt8),
                                              (37 : UInt8)].any
                                          fun (b : UInt8) => decide ((↑b.toNat : Int) = byteAt s x_2.snd)) →
                                      iteP x_3
                                        (iteP (decide ((255 : Int) < x_1.fst))
                                          (K
                                            (AV.tup
                                              [AV.agg
                                                  [AV.sc (Value.bool false), AV.sc (Value.bool false),
                                                    AV.sc (Value.bool false), AV.sc (Value.bool false),
                                                    AV.sc (Value.int IntKind.i64 (0 : Int)),
                                                    AV.sc (Value.int IntKind.i64 (0 : Int)),
                                                    AV.sc (Value.int IntKind.u8 (0 : Int))],
                                                AV.sc (Value.int IntKind.i64 (0 : Int)),
                                                AV.sc (Value.int IntKind.i64 (2 : Int))]))
                                          (iteP (inRange x_2.snd s.length)
                                            (K
                                              (AV.tup
                                                [AV.agg
                                                    [AV.sc (Value.bool x.snd.minus), AV.sc (Value.bool x.snd.zero),
                                                      AV.sc (Value.bool x.snd.plus), AV.sc (Value.bool x.snd.space),
                                                      AV.sc (Value.int IntKind.i64 x_1.fst),
                                                      AV.sc (Value.int IntKind.i64 (0 : Int)),
                                                      AV.sc (Value.int IntKind.u8 (byteAt s x_2.snd))],
                                                  AV.sc
                                                    (Value.int IntKind.i64 (IntKind.i64.wrap (x_2.snd + (1 : Int)))),
                                                  AV.sc (Value.int IntKind.i64 (0 : Int))]))
                                            False))
                                        (K
                                          (AV.tup
                                            [AV.agg
                                                [AV.sc (Value.bool false), AV.sc (Value.bool false),
                                                  AV.sc (Value.bool false), AV.sc (Value.bool false),
                                                  AV.sc (Value.int IntKind.i64 (0 : Int)),
                                                  AV.sc (Value.int IntKind.i64 (0 : Int)),
                                                  AV.sc (Value.int IntKind.u8 (0 : Int))],
                                              AV.sc (Value.int IntKind.i64 (0 : Int)),
                                              AV.sc (Value.int IntKind.i64 (1 : Int))])))
                                False))
                            (iteP (decide ((↑s.length : Int) ≤ x_2.snd))
                              (K
                                (AV.tup
                                  [AV.agg
                                      [AV.sc (Value.bool false), AV.sc (Value.bool false), AV.sc (Value.bool false),
                                        AV.sc (Value.bool false), AV.sc (Value.int IntKind.i64 (0 : Int)),
                                        AV.sc (Value.int IntKind.i64 (0 : Int)),
                                        AV.sc (Value.int IntKind.u8 (0 : Int))],
                                    AV.sc (Value.int IntKind.i64 (0 : Int)), AV.sc (Value.int IntKind.i64 (1 : Int))]))
                              (iteP (inRange x_2.snd s.length)
                                (Nat.le (10 : Nat) (1000000 : Nat) ∧
                                  ∀ (x_3 : Bool),
                                    (x_3 =
                                        [(100 : UInt8), (105 : UInt8), (111 : UInt8), (120 : UInt8), (88 : UInt8),
                                              (117 : UInt8), (99 : UInt8), (115 : UInt8), (102 : UInt8),
                                              (37 : UInt8)].any
                                          fun (b : UInt8) => decide ((↑b.toNat : Int) = byteAt s x_2.snd)) →
                                      iteP x_3
                                        (iteP (decide ((255 : Int) < x_1.fst))
                                          (K
                                            (AV.tup
                                              [AV.agg
                                                  [AV.sc (Value.bool false), AV.sc (Value.bool false),
                                                    AV.sc (Value.bool false), AV.sc (Value.bool false),
                                                    AV.sc (Value.int IntKind.i64 (0 : Int)),
                                                    AV.sc (Value.int IntKind.i64 (0 : Int)),
                                                    AV.sc (Value.int IntKind.u8 (0 : Int))],
                                                AV.sc (Value.int IntKind.i64 (0 : Int)),
                                                AV.sc (Value.int IntKind.i64 (2 : Int))]))
                                          (iteP (decide ((255 : Int) < x_2.fst))
                                            (K
                                              (AV.tup
                                                [AV.agg
                                                    [AV.sc (Value.bool false), AV.sc (Value.bool false),
                                                      AV.sc (Value.bool false), AV.sc (Value.bool false),
                                                      AV.sc (Value.int IntKind.i64 (0 : Int)),
                                                      AV.sc (Value.int IntKind.i64 (0 : Int)),
                                                      AV.sc (Value.int IntKind.u8 (0 : Int))],
                                                  AV.sc (Value.int IntKind.i64 (0 : Int)),
                                                  AV.sc (Value.int IntKind.i64 (2 : Int))]))
                                            (iteP (inRange x_2.snd s.length)
                                              (K
                                                (AV.tup
                                                  [AV.agg
                                                      [AV.sc (Value.bool x.snd.minus), AV.sc (Value.bool x.snd.zero),
                                                        AV.sc (Value.bool x.snd.plus), AV.sc (Value.bool x.snd.space),
                                                        AV.sc (Value.int IntKind.i64 x_1.fst),
                                                        AV.sc (Value.int IntKind.i64 x_2.fst),
                                                        AV.sc (Value.int IntKind.u8 (byteAt s x_2.snd))],
                                                    AV.sc
                                                      (Value.int IntKind.i64 (IntKind.i64.wrap (x_2.snd + (1 : Int)))),
                                                    AV.sc (Value.int IntKind.i64 (0 : Int))]))
                                              False)))
                                        (K
                                          (AV.tup
                                            [AV.agg
                                                [AV.sc (Value.bool false), AV.sc (Value.bool false),
                                                  AV.sc (Value.bool false), AV.sc (Value.bool false),
                                                  AV.sc (Value.int IntKind.i64 (0 : Int)),
                                                  AV.sc (Value.int IntKind.i64 (0 : Int)),
                                                  AV.sc (Value.int IntKind.u8 (0 : Int))],
                                              AV.sc (Value.int IntKind.i64 (0 : Int)),
                                              AV.sc (Value.int IntKind.i64 (1 : Int))])))
                                False)))
                    (iteP (decide ((↑s.length : Int) ≤ x_1.snd))
                      (K
                        (AV.tup
                          [AV.agg
                              [AV.sc (Value.bool false), AV.sc (Value.bool false), AV.sc (Value.bool false),
                                AV.sc (Value.bool false), AV.sc (Value.int IntKind.i64 (0 : Int)),
                                AV.sc (Value.int IntKind.i64 (0 : Int)), AV.sc (Value.int IntKind.u8 (0 : Int))],
                            AV.sc (Value.int IntKind.i64 (0 : Int)), AV.sc (Value.int IntKind.i64 (1 : Int))]))
                      (iteP (inRange x_1.snd s.length)
                        (Nat.le (10 : Nat) (1000000 : Nat) ∧
                          ∀ (x_2 : Bool),
                            (x_2 =
                                [(100 : UInt8), (105 : UInt8), (111 : UInt8), (120 : UInt8), (88 : UInt8),
                                      (117 : UInt8), (99 : UInt8), (115 : UInt8), (102 : UInt8), (37 : UInt8)].any
                                  fun (b : UInt8) => decide ((↑b.toNat : Int) = byteAt s x_1.snd)) →
                              iteP x_2
                                (iteP (decide ((255 : Int) < x_1.fst))
                                  (K
                                    (AV.tup
                                      [AV.agg
                                          [AV.sc (Value.bool false), AV.sc (Value.bool false), AV.sc (Value.bool false),
                                            AV.sc (Value.bool false), AV.sc (Value.int IntKind.i64 (0 : Int)),
                                            AV.sc (Value.int IntKind.i64 (0 : Int)),
                                            AV.sc (Value.int IntKind.u8 (0 : Int))],
                                        AV.sc (Value.int IntKind.i64 (0 : Int)),
                                        AV.sc (Value.int IntKind.i64 (2 : Int))]))
                                  (iteP (decide ((255 : Int) < x.snd.prec))
                                    (K
                                      (AV.tup
                                        [AV.agg
                                            [AV.sc (Value.bool false), AV.sc (Value.bool false),
                                              AV.sc (Value.bool false), AV.sc (Value.bool false),
                                              AV.sc (Value.int IntKind.i64 (0 : Int)),
                                              AV.sc (Value.int IntKind.i64 (0 : Int)),
                                              AV.sc (Value.int IntKind.u8 (0 : Int))],
                                          AV.sc (Value.int IntKind.i64 (0 : Int)),
                                          AV.sc (Value.int IntKind.i64 (2 : Int))]))
                                    (iteP (inRange x_1.snd s.length)
                                      (K
                                        (AV.tup
                                          [AV.agg
                                              [AV.sc (Value.bool x.snd.minus), AV.sc (Value.bool x.snd.zero),
                                                AV.sc (Value.bool x.snd.plus), AV.sc (Value.bool x.snd.space),
                                                AV.sc (Value.int IntKind.i64 x_1.fst),
                                                AV.sc (Value.int IntKind.i64 x.snd.prec),
                                                AV.sc (Value.int IntKind.u8 (byteAt s x_1.snd))],
                                            AV.sc (Value.int IntKind.i64 (IntKind.i64.wrap (x_1.snd + (1 : Int)))),
                                            AV.sc (Value.int IntKind.i64 (0 : Int))]))
                                      False)))
                                (K
                                  (AV.tup
                                    [AV.agg
                                        [AV.sc (Value.bool false), AV.sc (Value.bool false), AV.sc (Value.bool false),
                                          AV.sc (Value.bool false), AV.sc (Value.int IntKind.i64 (0 : Int)),
                                          AV.sc (Value.int IntKind.i64 (0 : Int)),
                                          AV.sc (Value.int IntKind.u8 (0 : Int))],
                                      AV.sc (Value.int IntKind.i64 (0 : Int)),
                                      AV.sc (Value.int IntKind.i64 (1 : Int))])))
                        False)))
                  False)
                (iteP (decide ((↑s.length : Int) ≤ x_1.snd))
                  (K
                    (AV.tup
                      [AV.agg
                          [AV.sc (Value.bool false), AV.sc (Value.bool false), AV.sc (Value.bool false),
                            AV.sc (Value.bool false), AV.sc (Value.int IntKind.i64 (0 : Int)),
                            AV.sc (Value.int IntKind.i64 (0 : Int)), AV.sc (Value.int IntKind.u8 (0 : Int))],
                        AV.sc (Value.int IntKind.i64 (0 : Int)), AV.sc (Value.int IntKind.i64 (1 : Int))]))
                  (iteP (inRange x_1.snd s.length)
                    (Nat.le (10 : Nat) (1000000 : Nat) ∧
                      ∀ (x_2 : Bool),
                        (x_2 =
                            [(100 : UInt8), (105 : UInt8), (111 : UInt8), (120 : UInt8), (88 : UInt8), (117 : UInt8),
                                  (99 : UInt8), (115 : UInt8), (102 : UInt8), (37 : UInt8)].any
                              fun (b : UInt8) => decide ((↑b.toNat : Int) = byteAt s x_1.snd)) →
                          iteP x_2
                            (iteP (decide ((255 : Int) < x_1.fst))
                              (K
                                (AV.tup
                                  [AV.agg
                                      [AV.sc (Value.bool false), AV.sc (Value.bool false), AV.sc (Value.bool false),
                                        AV.sc (Value.bool false), AV.sc (Value.int IntKind.i64 (0 : Int)),
                                        AV.sc (Value.int IntKind.i64 (0 : Int)),
                                        AV.sc (Value.int IntKind.u8 (0 : Int))],
                                    AV.sc (Value.int IntKind.i64 (0 : Int)), AV.sc (Value.int IntKind.i64 (2 : Int))]))
                              (iteP (decide ((255 : Int) < x.snd.prec))
                                (K
                                  (AV.tup
                                    [AV.agg
                                        [AV.sc (Value.bool false), AV.sc (Value.bool false), AV.sc (Value.bool false),
                                          AV.sc (Value.bool false), AV.sc (Value.int IntKind.i64 (0 : Int)),
                                          AV.sc (Value.int IntKind.i64 (0 : Int)),
                                          AV.sc (Value.int IntKind.u8 (0 : Int))],
                                      AV.sc (Value.int IntKind.i64 (0 : Int)),
                                      AV.sc (Value.int IntKind.i64 (2 : Int))]))
                                (iteP (inRange x_1.snd s.length)
                                  (K
                                    (AV.tup
                                      [AV.agg
                                          [AV.sc (Value.bool x.snd.minus), AV.sc (Value.bool x.snd.zero),
                                            AV.sc (Value.bool x.snd.plus), AV.sc (Value.bool x.snd.space),
                                            AV.sc (Value.int IntKind.i64 x_1.fst),
                                            AV.sc (Value.int IntKind.i64 x.snd.prec),
                                            AV.sc (Value.int IntKind.u8 (byteAt s x_1.snd))],
                                        AV.sc (Value.int IntKind.i64 (IntKind.i64.wrap (x_1.snd + (1 : Int)))),
                                        AV.sc (Value.int IntKind.i64 (0 : Int))]))
                                  False)))
                            (K
                              (AV.tup
                                [AV.agg
                                    [AV.sc (Value.bool false), AV.sc (Value.bool false), AV.sc (Value.bool false),
                                      AV.sc (Value.bool false), AV.sc (Value.int IntKind.i64 (0 : Int)),
                                      AV.sc (Value.int IntKind.i64 (0 : Int)), AV.sc (Value.int IntKind.u8 (0 : Int))],
                                  AV.sc (Value.int IntKind.i64 (0 : Int)), AV.sc (Value.int IntKind.i64 (1 : Int))])))
                    False))) :
    (fun (s : List UInt8) (a : Int) (K : AV → Prop) => wpCall R3 Door.cfg Tryd.prog 40 20 [aStr s, aK .i64 a] heapF fun r h' => wpBack h' r K) s a K :=
  Eq.mp (by kernel_rfl) h
theorem v9 (s : List UInt8) (k : Int) (N : Int → Prop) (X1 : Int → Prop) (X2 : Ex → Prop) (h :
 iteP (decide (k < (↑s.length : Int))) (iteP (inRange k s.length) (iteP (byteAt s k != 37) (I9 s (IntKind.i64.wrap (k + 1)) = I9 s (IntKind.i64.wrap (k + 1)) ∧ N (IntKind.i64.wrap (k + 1))) ((s.length ≤ 1000000 ∧ 0 ≤ IntKind.i64.wrap (k + 1) ∧ IntKind.i64.wrap (k + 1) ≤ (↑s.length : Int)) ∧ ∀ (x : Dir × Int × Int), x.snd.snd = 0 ∧ 0 ≤ x.snd.fst ∧ x.snd.fst ≤ (↑s.length : Int) ∧
 readR (List.drop (IntKind.i64.wrap (k + 1)).toNat s) = (x.fst, List.drop x.snd.fst.toNat s, 0) ∨ x.snd.snd ≠ 0 ∧ (readR (List.drop (IntKind.i64.wrap (k + 1)).toNat s)).snd.snd = x.snd.snd → iteP (x.snd.snd != 0) (J9 x.snd.snd = J9 x.snd.snd ∧ X1 x.snd.snd) (I9 s x.snd.fst = I9 s x.snd.fst ∧ N x.snd.fst))) False) (E9 = E9 ∧ X2 (Ex.exit 0))) :
 (fun (s : List UInt8) (k : Int) (N : Int → Prop) (X1 : Int → Prop) (X2 : Ex → Prop) => wpRound R4 Door.cfg Tryd.prog 40 9 3 (I9 s k) (fun τ => τ = I9 s (slI τ 3) ∧ N (slI τ 3)) (fun e τ => match e with | .ret => τ = J9 (slI τ 2) ∧ X1 (slI τ 2) | e => τ = E9 ∧ X2 e)) s k N X1 X2 :=
 Eq.mp (by kernel_rfl) h
theorem c9 (s : List UInt8) (K : AV → Prop) (h :
 loopAt Tryd.prog 9 3 = loopAt Tryd.prog 9 3 ∧ (I9 s 0 = I9 s 0 ∧ (0 : Int) = 0 ∧ s.length ≤ 1000000) ∧ (∀ (_ : Unit), checkR (s.length + 1) s = 0 → K (AV.sc (Value.int IntKind.i64 0))) ∧ ∀ (x : Int), x = checkR (s.length + 1) s → K (AV.sc (Value.int IntKind.i64 x))) :
 (fun (s : List UInt8) (K : AV → Prop) => wpCall R5 Door.cfg Tryd.prog 40 9 [aStr s] heapF fun r h' => wpBack h' r K) s K :=
 Eq.mp (by kernel_rfl) h
theorem c3 (s : List UInt8) (K : AV → Heap → Prop) (h :
 iteP (decide (60 < (↑s.length : Int))) (True ∧ ∀ (x : Bool), x = true → iteP x (K (AV.sc (Value.bool true)) { next := 1, objs := Tr.leaf, ro := 0, ty := Tr.leaf }) (K (AV.sc (Value.bool false)) { next := 1, objs := Tr.leaf, ro := 0, ty := Tr.leaf })) (s.length.le 1000000 ∧ ∀ (x : Int), x = checkF (s.length + 1) s → s.length.le 1000000 ∧ ∀ (x_1 : Int), x_1 = checkR (s.length + 1) s → iteP (x == x_1)
 (True ∧ ∀ (x : Bool), x = true → iteP x (K (AV.sc (Value.bool true)) { next := 1, objs := Tr.leaf, ro := 0, ty := Tr.leaf }) (K (AV.sc (Value.bool false)) { next := 1, objs := Tr.leaf, ro := 0, ty := Tr.leaf })) (K (AV.sc (Value.bool false)) { next := 1, objs := Tr.leaf, ro := 0, ty := Tr.leaf }))) :
 (fun (s : List UInt8) (K : AV → Heap → Prop) => wpCall R6 Door.cfg Tryd.prog 40 3 [aStr s] heap0 K) s K :=
 Eq.mp (by kernel_rfl) h
end
end Go.Proofs.Pr
namespace Go.Proofs.Pr
open Go Go.Ef
noncomputable section
set_option maxRecDepth 100000
theorem loop34 (s : List UInt8) (hs : s.length ≤ 1000000) (a l : Int) (h1 : 0 ≤ a) (h4 : a ≤ s.length) :
  Ev Door.cfg Tryd.prog 34 (.loop (loopAt Tryd.prog 34 5)) (I34 s a l (-1) a) fun e τ => τ = J34 (slI τ 8) (slI τ 9) ∧ e = .exit 0 ∧ 0 ≤ slI τ 9 ∧ slI τ 9 ≤ s.length ∧ numA l (s.drop a.toNat) (-1) = (slI τ 8, s.drop (slI τ 9).toNat) := by
 refine loop_rd tab0_ok (n := 40) (fun x : Int × Int => I34 s a l x.1 x.2) (fun τ => (slI τ 8, slI τ 9)) (fun x => a ≤ x.2 ∧ -1 ≤ x.1 ∧ x.1 ≤ 256 ∧ x.2 ≤ s.length ∧ numA l (s.drop a.toNat) (-1) = if x.2 = a then numA l (s.drop x.2.toNat) x.1 else numL (s.drop x.2.toNat) x.1) (fun x => s.length - x.2.toNat) (by kernel_rfl)
  (fun x t ht => ?_) (fun x hx => ?_) (-1, a) ⟨Int.le_refl _, by simp, by simp, h4, by simp⟩
 ·replace ht : Door.tidy 34 5 = some t := ht
  cases ht
  show (I34 s a l x.1 x.2).tidy [0, 1, 2, 8, 9] 0 = I34 s a l x.1 x.2
  kernel_rfl
 ·obtain ⟨m, j⟩ := x
  obtain ⟨q1, q2, q3, q4, q5⟩ := hx
  simp only at q1 q2 q3 q4 q5
  have q0 : 0 ≤ j := by omega
  have hb := byteAt_le s j
  refine v34 s a l m j (fun m' j' => (a ≤ j' ∧ -1 ≤ m' ∧ m' ≤ 256 ∧ j' ≤ s.length ∧ numA l (s.drop a.toNat) (-1) = if j' = a then numA l (s.drop j'.toNat) m' else numL (s.drop j'.toNat) m') ∧ s.length - j'.toNat < s.length - j.toNat) (fun e m' j' => e = .exit 0 ∧ 0 ≤ j' ∧ j' ≤ s.length ∧ numA l (s.drop a.toNat) (-1) = (m', s.drop j'.toNat)) ?_
  rw [q5]
  simp only [iteP_F]
  simp only [iteP_iff, decide_eq_true_eq, decide_eq_false_iff_not, inRange_iff, true_and]
  rcases hr : s.drop j.toNat with _ | ⟨c, r⟩
  ·have := drop_end hr
   refine ⟨fun h => by omega, fun _ => ⟨q0, q4, ?_⟩⟩
   split <;> rfl
  ·obtain ⟨e1, e2, e3⟩ := byteAt_drop hr
   rw [e1] at hb ⊢
   have hj : IntKind.i64.wrap (j + 1) = j + 1 := wrap_in (by omega) (by omega)
   have hja : ¬ (j + 1 = a) := by omega
   rw [hj, toNat_succ q0, e3, if_neg hja]
   have hnum : numL (c :: r) m = if 48 ≤ (c.toNat : Int) ∧ (c.toNat : Int) ≤ 57 then numL r (min (10 * max m 0 + (c.toNat - 48)) 256) else (m, c :: r) := rfl
   have hnuA : numA l (c :: r) m = if (c.toNat : Int) < l then (m, c :: r) else numL (c :: r) m := rfl
   have hall : (if j = a then numA l (c :: r) m else numL (c :: r) m) = if 48 ≤ (c.toNat : Int) ∧ (c.toNat : Int) ≤ 57 ∧ (a < j ∨ l ≤ (c.toNat : Int)) then numL r (min (10 * max m 0 + (c.toNat - 48)) 256) else (m, c :: r) := by
    rw [hnuA, hnum]
    by_cases t1 : j = a
    ·rw [if_pos t1]
     by_cases t2 : (c.toNat : Int) < l
     ·rw [if_pos t2, if_neg (by omega)]
     ·rw [if_neg t2]
      by_cases t3 : 48 ≤ (c.toNat : Int) ∧ (c.toNat : Int) ≤ 57
      ·rw [if_pos t3, if_pos (by omega)]
      ·rw [if_neg t3, if_neg (by omega)]
    ·rw [if_neg t1]
     by_cases t3 : 48 ≤ (c.toNat : Int) ∧ (c.toNat : Int) ≤ 57
     ·rw [if_pos t3, if_pos (by omega)]
     ·rw [if_neg t3, if_neg (by omega)]
   rw [hall]
   repeat' (first | apply And.intro | intro _)
   all_goals (try simp (disch := omega) only [wrap_in, wrap8_in])
   all_goals try omega
   ·have hc : 48 ≤ (c.toNat : Int) ∧ (c.toNat : Int) ≤ 57 ∧ (a < j ∨ l ≤ (c.toNat : Int)) := by omega
    rw [if_pos hc]
   ·have hc : 48 ≤ (c.toNat : Int) ∧ (c.toNat : Int) ≤ 57 ∧ (a < j ∨ l ≤ (c.toNat : Int)) := by omega
    rw [if_pos hc]
   all_goals
    have hc : ¬ (48 ≤ (c.toNat : Int) ∧ (c.toNat : Int) ≤ 57 ∧ (a < j ∨ l ≤ (c.toNat : Int))) := by omega
    rw [if_neg hc]
end
end Go.Proofs.Pr
namespace Go.Proofs.Pr
open Go Go.Ef
noncomputable section
set_option maxRecDepth 100000
theorem okL34 : TabOk Tryd.prog Door.cfg ((T4.addC 8 C8).addL 34 5 L34) := by
 refine addL_ok ok8 fun σ s hs hp => ?_
 refine lspec_ok (Option.some.inj hs) (fun hpre => ?_) hp
 obtain ⟨e, h1, h2, h3, h4, h5⟩ := hpre
 refine Ev.tidied (t := ⟨[0, 1, 2, 8, 9], [8, 9], 0⟩) (τ := I34 (slS σ 0) (slI σ 1) (slI σ 2) (-1) (slI σ 1)) (by kernel_rfl) (by rw [e, h1, h2]; kernel_rfl) ?_
 refine (loop34 (slS σ 0) h5 (slI σ 1) (slI σ 2) h3 h4).mono fun ex τ h => ?_
 exact ⟨(slI τ 8, slI τ 9), ⟨h.2.2.1, h.2.2.2.1, h.2.2.2.2⟩, h.2.1, h.1⟩
theorem loop33 (s : List UInt8) (hs : s.length ≤ 1000000) (c : Int) :
  Ev Door.cfg Tryd.prog 33 (.loop (loopAt Tryd.prog 33 3)) (I33 s c 0) fun e τ => (s.any (fun b => decide ((b.toNat : Int) = c)) = true ∧ e = .ret ∧ τ = J33 true) ∨ (s.any (fun b => decide ((b.toNat : Int) = c)) = false ∧ e = .exit 0 ∧ τ = stOf 17 [(4, .unk)] [] heapF) := by
 have main := loop_rd (C := Door.cfg) (P := Tryd.prog) tab0_ok (f := 33) (i := 3) (n := 40) (fun x : Int => I33 s c x) (fun τ => slI τ 5) (fun x => 0 ≤ x ∧ x ≤ s.length ∧ s.any (fun b => decide ((b.toNat : Int) = c)) = (s.drop x.toNat).any (fun b => decide ((b.toNat : Int) = c))) (fun x => s.length - x.toNat)
  (K := fun e τ => match e with
   | .ret => τ = J33 (slB τ 4) ∧ (slB τ 4 = true ∧ s.any (fun b => decide ((b.toNat : Int) = c)) = true)
   | e => τ = stOf 17 [(4, .unk)] [] heapF ∧ (e = .exit 0 ∧ s.any (fun b => decide ((b.toNat : Int) = c)) = false)) (by kernel_rfl)
  (fun x t ht => ?_) (fun x hx => ?_) 0 ⟨Int.le_refl _, by omega, rfl⟩
 ·refine main.mono fun e τ h => ?_
  cases e with
  | ret => exact .inl ⟨h.2.2, rfl, by rw [h.1, h.2.1]⟩
  | normal => cases h.2.1
  | exit j => exact .inr ⟨h.2.2, h.2.1, h.1⟩
 ·replace ht : Door.tidy 33 3 = some t := ht
  cases ht
  show (I33 s c x).tidy [0, 1, 5] 0 = I33 s c x
  kernel_rfl
 ·obtain ⟨q1, q2, q3⟩ := hx
  refine v33 s c x (fun y => (0 ≤ y ∧ y ≤ s.length ∧ s.any (fun b => decide ((b.toNat : Int) = c)) = (s.drop y.toNat).any (fun b => decide ((b.toNat : Int) = c))) ∧ s.length - y.toNat < s.length - x.toNat) (fun b => b = true ∧ s.any (fun b => decide ((b.toNat : Int) = c)) = true) (fun e => e = .exit 0 ∧ s.any (fun b => decide ((b.toNat : Int) = c)) = false) ?_
  rw [q3]
  rcases hr : s.drop x.toNat with _ | ⟨b, r⟩
  ·have := drop_end hr
   rw [show decide (x < (s.length : Int)) = false by simp; omega, iteP_f]
   exact ⟨rfl, rfl, rfl⟩
  ·obtain ⟨e1, e2, e3⟩ := byteAt_drop hr
   have hj : IntKind.i64.wrap (x + 1) = x + 1 := wrap_in (by omega) (by omega)
   rw [show decide (x < (s.length : Int)) = true by simp; omega, iteP_t, show inRange x s.length = true by rw [inRange_iff]; omega, iteP_t, e1, hj, toNat_succ q1, e3, List.any_cons]
   by_cases hb : (b.toNat : Int) = c
   ·rw [show ((b.toNat : Int) == c) = true by simpa using hb, iteP_t, decide_eq_true hb]
    exact ⟨rfl, rfl, rfl⟩
   ·rw [show ((b.toNat : Int) == c) = false by simpa using hb, iteP_f, decide_eq_false hb, Bool.false_or]
    exact ⟨rfl, ⟨by omega, by omega, rfl⟩, by omega⟩
theorem okR1 : TabOk Tryd.prog Door.cfg R1 := by
 refine addL_ok okL34 fun σ s hs hp => ?_
 cases Option.some.inj hs
 obtain ⟨e, h1, h5⟩ := hp
 have := Ev.tidied (C := Door.cfg) (P := Tryd.prog) (b := loopAt Tryd.prog 33 3) (f := 33) (σ := σ) (t := ⟨[0, 1, 5], [4], 0⟩) (τ := I33 (slS σ 0) (slI σ 1) 0) (by kernel_rfl) (by rw [e, h1]; kernel_rfl) (loop33 (slS σ 0) h5 (slI σ 1))
 obtain ⟨m, ex, τ, h2, h3⟩ := this
 rcases h3 with ⟨q1, rfl, rfl⟩ | ⟨q1, rfl, rfl⟩
 ·exact ⟨_, .head _, (), q1, m, h2⟩
 ·exact ⟨_, .tail _ (.head _), (), q1, m, h2⟩
theorem okC34 : TabOk Tryd.prog Door.cfg (R1.addC 34 C34) := by
 refine addC_ok okR1 fun args h s hs hp => ?_
 unfold C34 at hs
 split at hs
 ·rename_i s0 a l
  obtain ⟨⟨u⟩⟩ := s0
  refine aspec_ok (Option.some.inj hs) (fun hpre => ?_) hp
  obtain ⟨p1, p2, p3⟩ := hpre
  replace p1 : u.length ≤ 1000000 := p1
  replace p3 : a ≤ (u.length : Int) := p3
  refine EvP.freshK okR1 (n := 40) (by kernel_rfl) (by kernel_rfl) (args' := [aStr u, aK .i64 a, aK .u8 l]) rfl (c34 u a l _ ?_)
  have hnot : (∀ c r, u.drop a.toNat = c :: r → c ≠ 42) → ∀ x : Int × Int, (0 ≤ x.2 ∧ x.2 ≤ (u.length : Int) ∧ numA l (u.drop a.toNat) (-1) = (x.1, u.drop x.2.toNat)) →
    ∃ y : Int × Int, (0 ≤ y.2 ∧ y.2 ≤ (u.length : Int) ∧ numR l (u.drop a.toNat) = (y.1, u.drop y.2.toNat)) ∧ AV.tup [AV.sc (Value.int IntKind.i64 x.1), AV.sc (Value.int IntKind.i64 x.2)] = .tup [aK .i64 y.1, aK .i64 y.2] := by
   intro hne x hx
   refine ⟨x, ⟨hx.1, hx.2.1, ?_⟩, rfl⟩
   rw [← hx.2.2]
   cases hr : u.drop a.toNat with
   | nil => rfl
   | cons c r =>
    have h42 := hne c r hr
    show (if c = 42 then (-2, r) else if (c.toNat : Int) < l then (-1, c :: r) else numL (c :: r) (-1)) = (if (c.toNat : Int) < l then (-1, c :: r) else numL (c :: r) (-1))
    rw [if_neg h42]
  rcases hr : u.drop a.toNat with _ | ⟨c, r⟩
  ·have := drop_end hr
   rw [show decide (a < (u.length : Int)) = false by simp; omega, iteP_f]
   refine ⟨rfl, ⟨rfl, rfl, rfl, p2, p3, p1⟩, fun x hx => ?_⟩
   rw [← hr] at hx ⊢
   exact hnot (fun c r h => by rw [hr] at h; cases h) x hx
  ·obtain ⟨e1, e2, e3⟩ := byteAt_drop hr
   rw [show decide (a < (u.length : Int)) = true by simp; omega, iteP_t, show inRange a u.length = true by rw [inRange_iff]; omega, iteP_t, e1]
   by_cases hc : c = 42
   ·subst hc
    rw [show (((42 : UInt8).toNat : Int) == 42) = true from rfl, iteP_t]
    have hj : IntKind.i64.wrap (a + 1) = a + 1 := wrap_in (by omega) (by omega)
    refine ⟨(-2, a + 1), ⟨by show 0 ≤ a + 1; omega, by show a + 1 ≤ (u.length : Int); omega, ?_⟩, by rw [hj]; rfl⟩
    show (-2, r) = (-2, u.drop (a + 1).toNat)
    rw [toNat_succ p2, e3]
   ·have : ((c.toNat : Int) == 42) = false := by
     rw [show ((c.toNat : Int) == 42) = (c == 42) from beq_byte c 42 (by decide)]
     simpa using hc
    rw [this, iteP_f]
    refine ⟨rfl, ⟨rfl, rfl, rfl, p2, p3, p1⟩, fun x hx => ?_⟩
    rw [← hr] at hx ⊢
    exact hnot (fun c' r' h => by rw [hr] at h; cases h; exact hc) x hx
 ·cases hs
theorem okR2 : TabOk Tryd.prog Door.cfg R2 := by
 refine addC_ok okC34 fun args h s hs hp => ?_
 unfold C33 at hs
 split at hs
 ·rename_i s0 c
  obtain ⟨⟨u⟩⟩ := s0
  refine nspec_ok (Option.some.inj hs) (fun hpre => ?_) hp
  replace hpre : u.length ≤ 1000000 := hpre
  refine EvP.freshV okR1 (n := 40) (by kernel_rfl) (by kernel_rfl) (args' := [aStr u, aK .u8 c]) rfl (c33 u c _ ?_)
  refine ⟨rfl, ⟨rfl, rfl, hpre⟩, fun _ hx => ?_, fun _ hx => ?_⟩
  ·show _ = aBool (u.any fun b => decide ((b.toNat : Int) = c)); rw [hx]; rfl
  ·show _ = aBool (u.any fun b => decide ((b.toNat : Int) = c)); rw [hx]; rfl
 ·cases hs
end
end Go.Proofs.Pr
namespace Go.Proofs.Pr
open Go Go.Ef
noncomputable section
set_option maxRecDepth 100000
theorem any_byte (l : List UInt8) (c : UInt8) : (l.any fun b => decide ((b.toNat : Int) = (c.toNat : Int))) = l.contains c := by
 rw [Bool.eq_iff_iff, List.any_eq_true, List.contains_iff_mem]
 constructor
 ·rintro ⟨b, hb, h⟩
  have : b = c := by rw [u8_eq]; simpa using h
  subst this; exact hb
 ·intro h; exact ⟨c, h, by simp⟩
theorem flag_any (c : UInt8) : (([45, 48, 43, 32] : List UInt8).any fun b => decide ((b.toNat : Int) = (c.toNat : Int))) = isFlag c := by
 rw [any_byte]
 unfold isFlag
 simp only [List.contains_cons, List.contains_nil, Bool.or_false, Bool.or_assoc]
theorem loop20 (s : List UInt8) (hs : s.length ≤ 1000000) (a : Int) (d : Dir) (h1 : 0 ≤ a) (h4 : a ≤ s.length) :
  Ev Door.cfg Tryd.prog 20 (.loop (loopAt Tryd.prog 20 3)) (I20 s a d) fun e τ => τ = I20 s (slI τ 1) (rdDir τ 1) ∧ e = .exit 0 ∧ 0 ≤ slI τ 1 ∧ slI τ 1 ≤ s.length ∧ flagsF (s.drop a.toNat) d = (rdDir τ 1, s.drop (slI τ 1).toNat) := by
 refine loop_rd okR2 (n := 40) (fun x : Int × Dir => I20 s x.1 x.2) (fun τ => (slI τ 1, rdDir τ 1)) (fun x => 0 ≤ x.1 ∧ x.1 ≤ s.length ∧ flagsF (s.drop a.toNat) d = flagsF (s.drop x.1.toNat) x.2) (fun x => s.length - x.1.toNat) (by kernel_rfl)
  (fun x t ht => ?_) (fun x hx => ?_) (a, d) ⟨h1, h4, rfl⟩
 ·replace ht : Door.tidy 20 3 = some t := ht
  cases ht
  show (I20 s x.1 x.2).tidy [0, 1, 4, 7] 2 = I20 s x.1 x.2
  kernel_rfl
 ·obtain ⟨j, f⟩ := x
  obtain ⟨q1, q4, q5⟩ := hx
  simp only at q1 q4 q5
  refine v20 s j f (fun j' f' => (0 ≤ j' ∧ j' ≤ s.length ∧ flagsF (s.drop a.toNat) d = flagsF (s.drop j'.toNat) f') ∧ s.length - j'.toNat < s.length - j.toNat) (fun e j' f' => e = .exit 0 ∧ 0 ≤ j' ∧ j' ≤ s.length ∧ flagsF (s.drop a.toNat) d = (f', s.drop j'.toNat)) ?_
  rw [q5]
  rcases hr : s.drop j.toNat with _ | ⟨c, r⟩
  ·have := drop_end hr
   rw [show decide (j < (s.length : Int)) = false by simp; omega, iteP_f]
   exact ⟨rfl, rfl, q1, q4, rfl⟩
  ·obtain ⟨e1, e2, e3⟩ := byteAt_drop hr
   have hj : IntKind.i64.wrap (j + 1) = j + 1 := wrap_in (by omega) (by omega)
   have hin : inRange j s.length = true := by rw [inRange_iff]; omega
   rw [show decide (j < (s.length : Int)) = true by simp; omega, iteP_t, hin, iteP_t, e1, hj, toNat_succ q1, e3, flag_any]
   refine ⟨(by decide : 4 ≤ 1000000), fun x hx => ?_⟩
   subst hx
   rw [show ((c.toNat : Int) == 45) = (c == 45) from beq_byte c 45 (by decide), show ((c.toNat : Int) == 48) = (c == 48) from beq_byte c 48 (by decide), show ((c.toNat : Int) == 43) = (c == 43) from beq_byte c 43 (by decide)]
   have hfl : flagsF (c :: r) f = if isFlag c then flagsF r (setFlag f c) else (f, c :: r) := rfl
   rw [hfl]
   have b1 : 0 ≤ j + 1 ∧ j + 1 ≤ (s.length : Int) := by omega
   have b2 : s.length - (j.toNat + 1) < s.length - j.toNat := by omega
   unfold setFlag
   cases hf : isFlag c with
   | false => exact ⟨rfl, rfl, q1, q4, rfl⟩
   | true =>
    rw [iteP_t, iteP_t, if_pos rfl]
    by_cases h45 : c = 45
    ·subst h45; exact ⟨rfl, ⟨b1.1, b1.2, rfl⟩, b2⟩
    ·by_cases h48 : c = 48
     ·subst h48; exact ⟨rfl, ⟨b1.1, b1.2, rfl⟩, b2⟩
     ·by_cases h43 : c = 43
      ·subst h43; exact ⟨rfl, ⟨b1.1, b1.2, rfl⟩, b2⟩
      ·have e1 : (c == 45) = false := by simpa using h45
       have e2 : (c == 48) = false := by simpa using h48
       have e3 : (c == 43) = false := by simpa using h43
       rw [e1, iteP_f, e2, iteP_f, e3, iteP_f, if_neg h45, if_neg h48, if_neg h43]
       exact ⟨rfl, ⟨b1.1, b1.2, rfl⟩, b2⟩
theorem okR3 : TabOk Tryd.prog Door.cfg R3 := by
 refine addL_ok okR2 fun σ s hs hp => ?_
 refine lspec_ok (Option.some.inj hs) (fun hpre => ?_) hp
 obtain ⟨e, h1, h4, h5⟩ := hpre
 refine Ev.tidied (t := ⟨[0, 1, 4, 7], [0, 1, 4, 7], 2⟩) (τ := I20 (slS σ 0) (slI σ 1) (rdDir σ 1)) (by kernel_rfl) (by rw [e]; kernel_rfl) ?_
 refine (loop20 (slS σ 0) h5 (slI σ 1) (rdDir σ 1) h1 h4).mono fun ex τ h => ?_
 exact ⟨(slI τ 1, rdDir τ 1), ⟨h.2.2.1, h.2.2.2.1, h.2.2.2.2⟩, h.2.1, h.1⟩
def err20 (e : Int) : AV := .tup [.agg [.sc (.bool false), .sc (.bool false), .sc (.bool false), .sc (.bool false), .sc (.int .i64 0), .sc (.int .i64 0), .sc (.int .u8 0)], .sc (.int .i64 0), .sc (.int .i64 e)]
def tail20 (d : Dir) (w p : Int) (s : List UInt8) (j : Int) (K : AV → Prop) : Prop :=
 iteP (decide ((s.length : Int) ≤ j)) (K (err20 1)) (iteP (inRange j s.length) (Nat.le 10 1000000 ∧ ∀ x : Bool, x = (([100, 105, 111, 120, 88, 117, 99, 115, 102, 37] : List UInt8).any fun b => decide ((b.toNat : Int) = byteAt s j)) →
  iteP x (iteP (decide (255 < w)) (K (err20 2)) (iteP (decide (255 < p)) (K (err20 2)) (iteP (inRange j s.length)
   (K (.tup [.agg [.sc (.bool d.minus), .sc (.bool d.zero), .sc (.bool d.plus), .sc (.bool d.space), .sc (.int .i64 w), .sc (.int .i64 p), .sc (.int .u8 (byteAt s j))], .sc (.int .i64 (IntKind.i64.wrap (j + 1))), .sc (.int .i64 0)])) False))) (K (err20 1))) False)
theorem tail20_ok (d : Dir) (w p : Int) (s rd : List UInt8) (j : Int) (hs : s.length ≤ 1000000) (h1 : 0 ≤ j) (h2 : j ≤ s.length) (hrd : readR rd = endF d w p (s.drop j.toNat)) :
  tail20 d w p s j fun y => ∃ x : Dir × Int × Int, ((x.2.2 = 0 ∧ 0 ≤ x.2.1 ∧ x.2.1 ≤ (s.length : Int) ∧ readR rd = (x.1, s.drop x.2.1.toNat, 0)) ∨ (x.2.2 ≠ 0 ∧ (readR rd).2.2 = x.2.2)) ∧ y = .tup [.agg x.1.cells, aK .i64 x.2.1, aK .i64 x.2.2] := by
 unfold tail20
 rw [hrd]
 rcases hr : s.drop j.toNat with _ | ⟨c, r⟩
 ·have := drop_end hr
  rw [show decide ((s.length : Int) ≤ j) = true by simp; omega, iteP_t]
  exact ⟨(Dir.none, 0, 1), .inr ⟨by simp, rfl⟩, rfl⟩
 ·obtain ⟨e1, e2, e3⟩ := byteAt_drop hr
  have hj : IntKind.i64.wrap (j + 1) = j + 1 := wrap_in (by omega) (by omega)
  have hin : inRange j s.length = true := by rw [inRange_iff]; omega
  rw [show decide ((s.length : Int) ≤ j) = false by simp; omega, iteP_f, hin, iteP_t, e1, hj]
  refine ⟨(by decide : 10 ≤ 1000000), fun x hx => ?_⟩
  have hk : (([100, 105, 111, 120, 88, 117, 99, 115, 102, 37] : List UInt8).any fun b => decide ((b.toNat : Int) = (c.toNat : Int))) = kinds.contains c := any_byte _ c
  rw [hk] at hx
  have he : endF d w p (c :: r) = if kinds.contains c then (if w > 255 ∨ p > 255 then (Dir.none, [], 2) else ({ d with width := w, prec := p, kind := c.toNat }, r, 0)) else (Dir.none, [], 1) := rfl
  rw [he, ← hx]
  cases x with
  | false => exact ⟨(Dir.none, 0, 1), .inr ⟨by simp, rfl⟩, rfl⟩
  | true =>
   rw [iteP_t]
   by_cases h1 : 255 < w
   ·rw [decide_eq_true h1, iteP_t, if_pos rfl, if_pos (.inl h1)]
    exact ⟨(Dir.none, 0, 2), .inr ⟨by simp, rfl⟩, rfl⟩
   ·by_cases h2 : 255 < p
    ·rw [decide_eq_false h1, iteP_f, decide_eq_true h2, iteP_t, if_pos rfl, if_pos (.inr h2)]
     exact ⟨(Dir.none, 0, 2), .inr ⟨by simp, rfl⟩, rfl⟩
    ·rw [decide_eq_false h1, iteP_f, decide_eq_false h2, iteP_f, if_pos rfl, if_neg (by omega), iteP_t]
     refine ⟨({ d with width := w, prec := p, kind := c.toNat }, j + 1, 0), .inl ⟨rfl, ?_, ?_, ?_⟩, rfl⟩
     ·show 0 ≤ j + 1; omega
     ·show j + 1 ≤ (s.length : Int); omega
     ·show ({ d with width := w, prec := p, kind := (c.toNat : Int) }, r, (0 : Int)) = ({ d with width := w, prec := p, kind := (c.toNat : Int) }, s.drop (j + 1).toNat, 0)
      rw [toNat_succ (by omega), e3]
theorem okR4 : TabOk Tryd.prog Door.cfg R4 := by
 refine addC_ok okR3 fun args h s hs hp => ?_
 unfold C20 at hs
 split at hs
 ·rename_i s0 a
  obtain ⟨⟨u⟩⟩ := s0
  refine aspec_ok (Option.some.inj hs) (fun hpre => ?_) hp
  obtain ⟨p1, p2, p3⟩ := hpre
  replace p1 : u.length ≤ 1000000 := p1
  replace p3 : a ≤ (u.length : Int) := p3
  refine EvP.freshK okR3 (n := 40) (by kernel_rfl) (by kernel_rfl) (args' := [aStr u, aK .i64 a]) rfl (c20 u a _ ?_)
  refine ⟨rfl, ⟨rfl, p2, p3, p1⟩, fun x hx => ⟨⟨p1, hx.1, hx.2.1⟩, fun x1 hx1 => ?_⟩⟩
  obtain ⟨a1, a2, a3⟩ := hx
  obtain ⟨b1, b2, b3⟩ := hx1
  have hd : flagsF (u.drop a.toNat) { Dir.none with prec := -1 } = (x.2, u.drop x.1.toNat) := a3
  have hpr : x.2.prec = -1 := by have := flagsF_prec (u.drop a.toNat) { Dir.none with prec := -1 }; rw [hd] at this; exact this
  have hread : readR (u.drop a.toNat) = endF x.2 x1.1 (precR (u.drop x1.2.toNat)).1 (precR (u.drop x1.2.toNat)).2 := by
   unfold readR
   rw [hd]
   show endF x.2 (numR 49 (u.drop x.1.toNat)).1 (precR (numR 49 (u.drop x.1.toNat)).2).1 (precR (numR 49 (u.drop x.1.toNat)).2).2 = _
   rw [b3]
  rcases hr : u.drop x1.2.toNat with _ | ⟨c, r⟩
  ·have := drop_end hr
   rw [show decide (x1.2 < (u.length : Int)) = false by simp; omega, iteP_f]
   have hp : precR (u.drop x1.2.toNat) = (-1, u.drop x1.2.toNat) := by rw [hr]; rfl
   rw [hp] at hread
   have := tail20_ok x.2 x1.1 x.2.prec u (u.drop a.toNat) x1.2 p1 b1 b2 (by rw [hpr]; exact hread)
   exact this
  ·obtain ⟨e1, e2, e3⟩ := byteAt_drop hr
   have hj : IntKind.i64.wrap (x1.2 + 1) = x1.2 + 1 := wrap_in (by omega) (by omega)
   have hin : inRange x1.2 u.length = true := by rw [inRange_iff]; omega
   rw [show decide (x1.2 < (u.length : Int)) = true by simp; omega, iteP_t, hin, iteP_t]
   by_cases hc : c = 46
   ·subst hc
    rw [show (byteAt u x1.2 == 46) = true by rw [e1]; rfl, iteP_t, hj]
    refine ⟨⟨p1, by omega, by omega⟩, fun x2 hx2 => ?_⟩
    obtain ⟨d1, d2, d3⟩ := hx2
    rw [toNat_succ b1, e3] at d3
    have hp : precR (u.drop x1.2.toNat) = ((if x2.1 = -1 then 0 else x2.1), u.drop x2.2.toNat) := by
     rw [hr]
     show ((if (numR 48 r).1 = -1 then 0 else (numR 48 r).1), (numR 48 r).2) = _
     rw [d3]
    rw [hp] at hread
    by_cases h1 : x2.1 = -1
    ·rw [show (x2.1 == -1) = true from by rw [h1]; rfl, iteP_t]
     rw [if_pos h1] at hread
     have := tail20_ok x.2 x1.1 0 u (u.drop a.toNat) x2.2 p1 d1 d2 hread
     unfold tail20 at this
     rw [show decide ((255 : Int) < 0) = false from rfl] at this
     exact this
    ·rw [show (x2.1 == -1) = false from by simpa using h1, iteP_f]
     rw [if_neg h1] at hread
     exact tail20_ok x.2 x1.1 x2.1 u (u.drop a.toNat) x2.2 p1 d1 d2 hread
   ·have : (byteAt u x1.2 == 46) = false := by
     rw [e1, show ((c.toNat : Int) == 46) = (c == 46) from beq_byte c 46 (by decide)]
     simpa using hc
    rw [this, iteP_f]
    have hp : precR (u.drop x1.2.toNat) = (-1, u.drop x1.2.toNat) := by rw [hr]; show (if c = 46 then _ else _) = _; rw [if_neg hc]
    rw [hp] at hread
    rw [← hin]
    have := tail20_ok x.2 x1.1 x.2.prec u (u.drop a.toNat) x1.2 p1 b1 b2 (by rw [hpr]; exact hread)
    exact this
 ·cases hs
end
end Go.Proofs.Pr
namespace Go.Proofs.Pr
open Go Go.Ef
noncomputable section
set_option maxRecDepth 100000
theorem numL_other (c : UInt8) (r : List UInt8) (n : Int) (h : ¬ (48 ≤ (c.toNat : Int) ∧ (c.toNat : Int) ≤ 57)) : numL (c :: r) n = (n, c :: r) := by
 show (if 48 ≤ (c.toNat : Int) ∧ (c.toNat : Int) ≤ 57 then _ else _) = _
 rw [if_neg h]
theorem numR48 (s : List UInt8) : numR 48 s = numF s := by
 cases s with
 | nil => rfl
 | cons c r =>
  show (if c = 42 then (-2, r) else if (c.toNat : Int) < 48 then (-1, c :: r) else numL (c :: r) (-1)) = if c = 42 then (-2, r) else numL (c :: r) (-1)
  by_cases h : c = 42
  ·rw [if_pos h, if_pos h]
  ·rw [if_neg h, if_neg h]
   by_cases h2 : (c.toNat : Int) < 48
   ·rw [if_pos h2, numL_other _ _ _ (by omega)]
   ·rw [if_neg h2]
theorem flagsF_stop : ∀ (s : List UInt8) (d : Dir), (flagsF s d).2 = [] ∨ ∃ c r, (flagsF s d).2 = c :: r ∧ isFlag c = false := by
 intro s
 induction s with
 | nil => intro d; exact .inl rfl
 | cons c r ih =>
  intro d
  have : flagsF (c :: r) d = if isFlag c then flagsF r (setFlag d c) else (d, c :: r) := rfl
  rw [this]
  cases hf : isFlag c with
  | true => exact ih _
  | false => exact .inr ⟨c, r, rfl, hf⟩
theorem numR49 (s : List UInt8) (d : Dir) : numR 49 (flagsF s d).2 = numF (flagsF s d).2 := by
 rcases flagsF_stop s d with h | ⟨c, r, h, hf⟩
 ·rw [h]; rfl
 ·rw [h]
  show (if c = 42 then (-2, r) else if (c.toNat : Int) < 49 then (-1, c :: r) else numL (c :: r) (-1)) = if c = 42 then (-2, r) else numL (c :: r) (-1)
  by_cases h1 : c = 42
  ·rw [if_pos h1, if_pos h1]
  ·rw [if_neg h1, if_neg h1]
   by_cases h2 : (c.toNat : Int) < 49
   ·have h48 : c ≠ 48 := by rintro rfl; cases hf
    have h3 : (c.toNat : Int) ≠ 48 := by
     intro e
     apply h48
     rw [u8_eq]; exact e
    rw [if_pos h2, numL_other _ _ _ (by omega)]
   ·rw [if_neg h2]
theorem precRF (s : List UInt8) : precR s = precF s := by
 cases s with
 | nil => rfl
 | cons c r =>
  show (if c = 46 then ((if (numR 48 r).1 = -1 then 0 else (numR 48 r).1), (numR 48 r).2) else (-1, c :: r)) = (if c = 46 then ((if (numF r).1 = -1 then 0 else (numF r).1), (numF r).2) else (-1, c :: r))
  rw [numR48]
theorem readRF (s : List UInt8) : readR s = readF s := by
 unfold readR readF
 rw [numR49, precRF]
theorem checkR_more : ∀ n s, s.length < n → ∀ m, s.length < m → checkR n s = checkR m s := by
 intro n
 induction n with
 | zero => intro s h; omega
 | succ n ih =>
  intro s h m hm
  cases m with
  | zero => omega
  | succ m =>
   cases s with
   | nil => rfl
   | cons c r =>
    show (if c = 37 then (if (readR r).2.2 = 0 then checkR n (readR r).2.1 else (readR r).2.2) else checkR n r) = (if c = 37 then (if (readR r).2.2 = 0 then checkR m (readR r).2.1 else (readR r).2.2) else checkR m r)
    simp only [List.length_cons] at h hm
    by_cases hc : c = 37
    ·rw [if_pos hc, if_pos hc]
     by_cases h0 : (readR r).2.2 = 0
     ·rw [if_pos h0, if_pos h0]
      have : (readR r).2.1.length < r.length := by rw [readRF] at h0 ⊢; exact readF_len r h0
      exact ih _ (by omega) m (by omega)
     ·rw [if_neg h0, if_neg h0]
    ·rw [if_neg hc, if_neg hc]
     exact ih _ (by omega) m (by omega)
theorem loop9 (s : List UInt8) (hs : s.length ≤ 1000000) :
  Ev Door.cfg Tryd.prog 9 (.loop (loopAt Tryd.prog 9 3)) (I9 s 0) fun e τ => (checkR (s.length + 1) s = 0 ∧ e = .exit 0 ∧ τ = E9) ∨ (e = .ret ∧ τ = J9 (checkR (s.length + 1) s)) := by
 have main := loop_rd (C := Door.cfg) (P := Tryd.prog) okR4 (f := 9) (i := 3) (n := 40) (fun x : Int => I9 s x) (fun τ => slI τ 3) (fun x => 0 ≤ x ∧ x ≤ s.length ∧ checkR (s.length + 1) s = checkR ((s.drop x.toNat).length + 1) (s.drop x.toNat)) (fun x => s.length - x.toNat)
  (K := fun e τ => match e with
   | .ret => τ = J9 (slI τ 2) ∧ slI τ 2 = checkR (s.length + 1) s
   | e => τ = E9 ∧ (e = .exit 0 ∧ checkR (s.length + 1) s = 0)) (by kernel_rfl)
  (fun x t ht => ?_) (fun x hx => ?_) 0 ⟨Int.le_refl _, by omega, rfl⟩
 ·refine main.mono fun e τ h => ?_
  cases e with
  | ret => exact .inr ⟨rfl, by rw [← h.2]; exact h.1⟩
  | normal => cases h.2.1
  | exit j => exact .inl ⟨h.2.2, h.2.1, h.1⟩
 ·replace ht : Door.tidy 9 3 = some t := ht
  cases ht
  show (I9 s x).tidy [0, 3] 0 = I9 s x
  kernel_rfl
 ·obtain ⟨q1, q2, q3⟩ := hx
  refine v9 s x (fun y => (0 ≤ y ∧ y ≤ s.length ∧ checkR (s.length + 1) s = checkR ((s.drop y.toNat).length + 1) (s.drop y.toNat)) ∧ s.length - y.toNat < s.length - x.toNat) (fun e => e = checkR (s.length + 1) s) (fun e => e = .exit 0 ∧ checkR (s.length + 1) s = 0) ?_
  rw [q3]
  rcases hr : s.drop x.toNat with _ | ⟨c, r⟩
  ·have := drop_end hr
   rw [show decide (x < (s.length : Int)) = false by simp; omega, iteP_f]
   exact ⟨rfl, rfl, rfl⟩
  ·obtain ⟨e1, e2, e3⟩ := byteAt_drop hr
   have hj : IntKind.i64.wrap (x + 1) = x + 1 := wrap_in (by omega) (by omega)
   have hlen : (s.drop x.toNat).length = s.length - x.toNat := List.length_drop
   rw [hr] at hlen
   simp only [List.length_cons] at hlen
   rw [show decide (x < (s.length : Int)) = true by simp; omega, iteP_t, show inRange x s.length = true by rw [inRange_iff]; omega, iteP_t, e1, hj, toNat_succ q1, e3]
   have hck : checkR ((c :: r).length + 1) (c :: r) = (if c = 37 then (if (readR r).2.2 = 0 then checkR (c :: r).length (readR r).2.1 else (readR r).2.2) else checkR (c :: r).length r) := rfl
   rw [hck]
   by_cases hc : c = 37
   ·have hb : ((c.toNat : Int) != 37) = false := by subst hc; rfl
    rw [hb, iteP_f, if_pos hc]
    refine ⟨⟨hs, by omega, by omega⟩, fun y hy => ?_⟩
    rcases hy with ⟨y1, y2, y3, y4⟩ | ⟨y1, y2⟩
    ·rw [y1, show ((0 : Int) != 0) = false from rfl, iteP_f]
     have h0 : (readR r).2.2 = 0 := by rw [y4]
     have h5 : (readR r).2.1 = s.drop y.2.1.toNat := by rw [y4]
     have h6 : (readR r).2.1.length < r.length := by have := h0; rw [readRF] at this ⊢; exact readF_len r this
     have h7 : (s.drop y.2.1.toNat).length = s.length - y.2.1.toNat := List.length_drop
     rw [if_pos h0, h5]
     rw [h5] at h6
     refine ⟨rfl, ⟨y2, y3, ?_⟩, by omega⟩
     exact checkR_more _ _ (by simp only [List.length_cons]; omega) _ (by omega)
    ·rw [show (y.2.2 != 0) = true by simpa using y1, iteP_t, y2, if_neg y1]
     exact ⟨rfl, rfl⟩
   ·have hb : ((c.toNat : Int) != 37) = true := by
     rw [bne, show ((c.toNat : Int) == 37) = (c == 37) from beq_byte c 37 (by decide)]
     simpa using hc
    rw [hb, iteP_t, if_neg hc]
    refine ⟨rfl, ⟨by omega, by omega, ?_⟩, by omega⟩
    rfl
theorem okR5 : TabOk Tryd.prog Door.cfg R5 := by
 refine addL_ok okR4 fun σ s hs hp => ?_
 cases Option.some.inj hs
 obtain ⟨e, h1, h5⟩ := hp
 have := Ev.tidied (C := Door.cfg) (P := Tryd.prog) (b := loopAt Tryd.prog 9 3) (f := 9) (σ := σ) (t := ⟨[0, 3], [2], 0⟩) (τ := I9 (slS σ 0) 0) (by kernel_rfl) (by rw [e, h1]; kernel_rfl) (loop9 (slS σ 0) h5)
 obtain ⟨m, ex, τ, h2, h3⟩ := this
 rcases h3 with ⟨q1, rfl, rfl⟩ | ⟨rfl, rfl⟩
 ·exact ⟨_, .head _, (), q1, m, h2⟩
 ·exact ⟨_, .tail _ (.head _), _, rfl, m, h2⟩
theorem okC9 : TabOk Tryd.prog Door.cfg (R5.addC 9 C9) := by
 refine addC_ok okR5 fun args h s hs hp => ?_
 unfold C9 at hs
 split at hs
 ·rename_i s0
  obtain ⟨⟨u⟩⟩ := s0
  refine nspec_ok (Option.some.inj hs) (fun hpre => ?_) hp
  replace hpre : u.length ≤ 1000000 := hpre
  refine EvP.freshV okR5 (n := 40) (by kernel_rfl) (by kernel_rfl) (args' := [aStr u]) rfl (c9 u _ ?_)
  refine ⟨rfl, ⟨rfl, rfl, hpre⟩, fun _ hx => ?_, fun x hx => ?_⟩
  ·show _ = aK .i64 (checkR (u.length + 1) u); rw [hx]; rfl
  ·show _ = aK .i64 (checkR (u.length + 1) u); rw [hx]; rfl
 ·cases hs
theorem awake_evF : Door.yes (evCall Door.cfg Tryd.prog 1000 10 [] heapF) = true := by decide +kernel
theorem okR6 : TabOk Tryd.prog Door.cfg R6 := by
 refine addC_ok okC9 fun args h s hs hp => ?_
 unfold C10 at hs
 split at hs
 ·refine nspec_ok (Option.some.inj hs) (fun _ => ?_) hp
  obtain ⟨h', he⟩ := Door.yes_spec awake_evF
  exact EvP.fresh (by kernel_rfl) (by kernel_rfl) (args' := []) rfl ⟨1000, _, h', he, rfl, rfl⟩
 ·cases hs
end
end Go.Proofs.Pr
namespace Go.Proofs.Pr
open Go Go.Ef
noncomputable section
def shortArg (e : List AV) : Bool :=
 match e with
 | [_, _, .sc (.string s)] => decide (s.data.toList.length ≤ 60)
 | _ => false
def fewL (l : Cells) : Bool := decide (l.length ≤ 10) && l.all shortArg
def fewA : AV → Bool
 | .sl l _ => fewL l
 | _ => true
def goodA (a : AV) : Prop := (∃ l, a = .sl l 0 ∧ ∀ e ∈ l, goodArg e) ∨ a = nilA
def I14 (s : List UInt8) (l : Cells) (k : Int) : St := stOf 26 [(0, sStr s), (1, .v (.sl l 0)), (5, sInt k)] [] heapF
def E14 (s : List UInt8) : St := stOf 26 [(0, sStr s), (4, .unk)] [] heapF
def J14 (s : List UInt8) : St := stOf 26 [(0, sStr s), (4, sBool false)] [] heapF
def I5 (s : List UInt8) (a : AV) (k : Int) : St := stOf 62 [(0, sStr s), (1, .v a), (5, sInt k)] [] heap0
def E5 (s : List UInt8) (a : AV) : St := stOf 62 [(0, sStr s), (1, .v a), (4, .unk)] [] heap0
def J5 (s : List UInt8) (a : AV) (b : Bool) : St := stOf 62 [(0, sStr s), (1, .v a), (4, sBool b)] [] heap0
def L14 (σ : St) : Option LSpec :=
 match σ.at 0, σ.at 1, σ.at 5 with
 | .v (.sc (.string s)), .v (.sl l 0), .v (.sc (.int .i64 k)) => some { pre := σ.tidy [0, 1, 5] 0 = I14 s.data.toList l k ∧ k = 0 ∧ (∀ e ∈ l, goodArg e), alts := [{ α := Unit, post := fun _ => fewL l = true, ex := .exit 0, st := fun _ => E14 s.data.toList }, { α := Unit, post := fun _ => fewL l = false, ex := .ret, st := fun _ => J14 s.data.toList }] }
 | _, _, _ => none
def C14 (args : List AV) (h : Heap) : Option CSpec :=
 match args with
 | [.sc (.string s), a] => some (nspec (goodA a) (fewA a && decide (s.data.toList.length ≤ 60)) (fun x => aBool x) h)
 | _ => none
def L5 (σ : St) : Option LSpec :=
 match σ.at 0, σ.at 1, σ.at 5 with
 | .v (.sc (.string s)), .v a, .v (.sc (.int .i64 k)) => some { pre := σ.tidy [0, 1, 5] 0 = I5 s.data.toList a k ∧ k = 0 ∧ s.data.toList.length ≤ 1000000 ∧ isArgs a, alts := [{ α := Unit, post := fun _ => hasPct s.data.toList = false, ex := .exit 0, st := fun _ => E5 s.data.toList a }, { α := Unit, post := fun _ => hasPct s.data.toList = true, ex := .ret, st := fun _ => J5 s.data.toList a true }] }
 | _, _, _ => none
def X1 : Tab := tab0.addL 14 3 L14
def X2 : Tab := (tab0.addC 14 C14).addC 10 C10
def X3 : Tab := (X2.addC 12 C12).addL 5 5 L5
end
end Go.Proofs.Pr
namespace Go.Proofs.Pr
open Go Go.Ef
noncomputable section
structure RunOk (s : List UInt8) (l : Cells) : Prop where
 hs : s.length ≤ 10000
 hg : goodsB l = true
 ok : checkF (s.length + 1) s = 0 → runOk (s.length + 1) s l
def runS (s : List UInt8) (l : Cells) : Int × Cells × List UInt8 := runF (s.length + 1) s l []
def sprintfF (s : List UInt8) (l : Cells) : List UInt8 × Int :=
 if checkF (s.length + 1) s ≠ 0 then ([], checkF (s.length + 1) s) else if (runS s l).1 ≠ 0 then ([], (runS s l).1) else if (runS s l).2.2.length > 16384 then ([], 3) else ((runS s l).2.2, 0)
structure RunOk0 (s : List UInt8) (l : Cells) : Prop where
 hs : s.length ≤ 10000
 hg : goodsB l = true
 ok : runOk (s.length + 1) s l
def L18g (σ : St) : Option LSpec :=
 match σ.at 0, hArg σ.h with
 | .v (.sc (.string s)), .sl l 0 => some { pre := σ.tidy [0, 1] 0 = IA s.data.toList (.sl l 0) ∧ RunOk0 s.data.toList l, alts := [{ α := Int × Cells × List UInt8, post := fun x => x = runS s.data.toList l ∧ x.2.2 = [], ex := .ret, st := fun x => JB x.1 (.sl x.2.1 0) }, { α := Int × Cells × List UInt8, post := fun x => x = runS s.data.toList l ∧ x.2.2.isEmpty = false, ex := .ret, st := fun x => JC x.1 (.sl x.2.1 0) (byteCells x.2.2) x.2.2.length }] }
 | .v (.sc (.string s)), .sc (.slice none 0 0) => some { pre := σ.tidy [0, 1] 0 = IA s.data.toList nilA ∧ RunOk0 s.data.toList [], alts := [{ α := Int × Cells × List UInt8, post := fun x => x = runS s.data.toList [] ∧ x.2.2 = [], ex := .ret, st := fun x => JB x.1 nilA }, { α := Int × Cells × List UInt8, post := fun x => x = runS s.data.toList [] ∧ x.2.2.isEmpty = false, ex := .ret, st := fun x => JC x.1 nilA (byteCells x.2.2) x.2.2.length }] }
 | _, _ => none
def C12g (args : List AV) (h : Heap) : Option CSpec :=
 match args with
 | [.sc (.string s), .sl l _] => some (nspec (RunOk s.data.toList l) (sprintfF s.data.toList l) (fun x => .tup [aStr x.1, aK .i64 x.2]) h)
 | [.sc (.string s), .sc (.slice none 0 0)] => some (nspec (RunOk s.data.toList []) (sprintfF s.data.toList []) (fun x => .tup [aStr x.1, aK .i64 x.2]) h)
 | _ => none
def Y3 : Tab := ((Y2.addC 8 C8).addL 18 2 L18g).addC 27 C27
end
end Go.Proofs.Pr
namespace Go.Proofs.Pr
open Go Go.Ef
noncomputable section
set_option maxRecDepth 100000
theorem g12 (s : List UInt8) (l : Cells) (K : AV → Prop) (h :
 s.length.le 1000000 ∧ ∀ (x : Int), x = checkF (s.length + 1) s → iteP (x != 0) (K (AV.tup [AV.sc (Value.string (ByteArray.mk (Array.mk []))), AV.sc (Value.int IntKind.i64 x)])) (loopAt Tryd.prog 18 2 = loopAt Tryd.prog 18 2 ∧ (IA s (AV.sl l 0) = IA s (AV.sl l 0) ∧ RunOk0 s l) ∧ (∀ (x : Int × Cells × List UInt8), x = runS s l ∧ x.snd.snd = [] → iteP (x.fst == 0) (iteP (x.fst != 0) (K (AV.tup
 [AV.sc (Value.string (ByteArray.mk (Array.mk []))), AV.sc (Value.int IntKind.i64 x.fst)])) (sB (AV.sl x.snd.fst 0) = sB (AV.sl x.snd.fst 0) ∧ ∀ (x : List UInt8), x = [] → K (AV.tup [AV.sc (Value.string (ByteArray.mk (Array.mk x))), AV.sc (Value.int IntKind.i64 0)]))) (iteP (x.fst != 0) (K (AV.tup [AV.sc (Value.string (ByteArray.mk (Array.mk []))), AV.sc (Value.int IntKind.i64 x.fst)]))
 (sB (AV.sl x.snd.fst 0) = sB (AV.sl x.snd.fst 0) ∧ ∀ (x : List UInt8), x = [] → K (AV.tup [AV.sc (Value.string (ByteArray.mk (Array.mk x))), AV.sc (Value.int IntKind.i64 0)])))) ∧ ∀ (x : Int × Cells × List UInt8), x = runS s l ∧ x.snd.snd.isEmpty = false → iteP (x.fst == 0) (iteP (decide (16384 < (↑(List.length (byteCells x.snd.snd)) : Int))) (K (AV.tup
 [AV.sc (Value.string (ByteArray.mk (Array.mk []))), AV.sc (Value.int IntKind.i64 3)])) (iteP (x.fst != 0) (K (AV.tup [AV.sc (Value.string (ByteArray.mk (Array.mk []))), AV.sc (Value.int IntKind.i64 x.fst)])) ((sC (AV.sl x.snd.fst 0) (byteCells x.snd.snd) x.snd.snd.length = sC (AV.sl x.snd.fst 0) (byteCells x.snd.snd) x.snd.snd.length ∧ List.isEmpty (byteCells x.snd.snd) = false ∧
 x.snd.snd.length = List.length (byteCells x.snd.snd) ∧ List.length (byteCells x.snd.snd) ≤ 100000000 ∧ byteCells (List.map byteD (byteCells x.snd.snd)) = byteCells x.snd.snd) ∧ ∀ (x_1 : List UInt8), x_1 = List.map byteD (byteCells x.snd.snd) → K (AV.tup [AV.sc (Value.string (ByteArray.mk (Array.mk x_1))), AV.sc (Value.int IntKind.i64 0)])))) (iteP (x.fst != 0) (K (AV.tup
 [AV.sc (Value.string (ByteArray.mk (Array.mk []))), AV.sc (Value.int IntKind.i64 x.fst)])) ((sC (AV.sl x.snd.fst 0) (byteCells x.snd.snd) x.snd.snd.length = sC (AV.sl x.snd.fst 0) (byteCells x.snd.snd) x.snd.snd.length ∧ List.isEmpty (byteCells x.snd.snd) = false ∧ x.snd.snd.length = List.length (byteCells x.snd.snd) ∧ List.length (byteCells x.snd.snd) ≤ 100000000 ∧
 byteCells (List.map byteD (byteCells x.snd.snd)) = byteCells x.snd.snd) ∧ ∀ (x_1 : List UInt8), x_1 = List.map byteD (byteCells x.snd.snd) → K (AV.tup [AV.sc (Value.string (ByteArray.mk (Array.mk x_1))), AV.sc (Value.int IntKind.i64 0)]))))) :
 (fun (s : List UInt8) (l : Cells) (K : AV → Prop) => wpCall Y3 Door.cfg Tryd.prog 40 12 [aStr s, .sl l 0] heapF fun r h' => wpBack h' r K) s l K :=
 Eq.mp (by kernel_rfl) h
theorem g12n (s : List UInt8) (K : AV → Prop) (h :
 s.length.le 1000000 ∧ ∀ (x : Int), x = checkF (s.length + 1) s → iteP (x != 0) (K (AV.tup [AV.sc (Value.string (ByteArray.mk (Array.mk []))), AV.sc (Value.int IntKind.i64 x)])) (loopAt Tryd.prog 18 2 = loopAt Tryd.prog 18 2 ∧ (IA s (AV.sc (Value.slice none 0 0)) = IA s (AV.sc (Value.slice none 0 0)) ∧ RunOk0 s []) ∧ (∀ (x : Int × Cells × List UInt8), x = runS s [] ∧ x.snd.snd = [] →
 iteP (x.fst == 0) (iteP (x.fst != 0) (K (AV.tup [AV.sc (Value.string (ByteArray.mk (Array.mk []))), AV.sc (Value.int IntKind.i64 x.fst)])) (sB (AV.sc (Value.slice none 0 0)) = sB (AV.sc (Value.slice none 0 0)) ∧ ∀ (x : List UInt8), x = [] → K (AV.tup [AV.sc (Value.string (ByteArray.mk (Array.mk x))), AV.sc (Value.int IntKind.i64 0)]))) (iteP (x.fst != 0) (K (AV.tup
 [AV.sc (Value.string (ByteArray.mk (Array.mk []))), AV.sc (Value.int IntKind.i64 x.fst)])) (sB (AV.sc (Value.slice none 0 0)) = sB (AV.sc (Value.slice none 0 0)) ∧ ∀ (x : List UInt8), x = [] → K (AV.tup [AV.sc (Value.string (ByteArray.mk (Array.mk x))), AV.sc (Value.int IntKind.i64 0)])))) ∧ ∀ (x : Int × Cells × List UInt8), x = runS s [] ∧ x.snd.snd.isEmpty = false → iteP (x.fst == 0)
 (iteP (decide (16384 < (↑(List.length (byteCells x.snd.snd)) : Int))) (K (AV.tup [AV.sc (Value.string (ByteArray.mk (Array.mk []))), AV.sc (Value.int IntKind.i64 3)])) (iteP (x.fst != 0) (K (AV.tup [AV.sc (Value.string (ByteArray.mk (Array.mk []))), AV.sc (Value.int IntKind.i64 x.fst)])) ((sC (AV.sc (Value.slice none 0 0)) (byteCells x.snd.snd) x.snd.snd.length =
 sC (AV.sc (Value.slice none 0 0)) (byteCells x.snd.snd) x.snd.snd.length ∧ List.isEmpty (byteCells x.snd.snd) = false ∧ x.snd.snd.length = List.length (byteCells x.snd.snd) ∧ List.length (byteCells x.snd.snd) ≤ 100000000 ∧ byteCells (List.map byteD (byteCells x.snd.snd)) = byteCells x.snd.snd) ∧ ∀ (x_1 : List UInt8), x_1 = List.map byteD (byteCells x.snd.snd) → K (AV.tup
 [AV.sc (Value.string (ByteArray.mk (Array.mk x_1))), AV.sc (Value.int IntKind.i64 0)])))) (iteP (x.fst != 0) (K (AV.tup [AV.sc (Value.string (ByteArray.mk (Array.mk []))), AV.sc (Value.int IntKind.i64 x.fst)])) ((sC (AV.sc (Value.slice none 0 0)) (byteCells x.snd.snd) x.snd.snd.length = sC (AV.sc (Value.slice none 0 0)) (byteCells x.snd.snd) x.snd.snd.length ∧
 List.isEmpty (byteCells x.snd.snd) = false ∧ x.snd.snd.length = List.length (byteCells x.snd.snd) ∧ List.length (byteCells x.snd.snd) ≤ 100000000 ∧ byteCells (List.map byteD (byteCells x.snd.snd)) = byteCells x.snd.snd) ∧ ∀ (x_1 : List UInt8), x_1 = List.map byteD (byteCells x.snd.snd) → K (AV.tup [AV.sc (Value.string (ByteArray.mk (Array.mk x_1))), AV.sc (Value.int IntKind.i64 0)]))))) :
 (fun (s : List UInt8) (K : AV → Prop) => wpCall Y3 Door.cfg Tryd.prog 40 12 [aStr s, nilA] heapF fun r h' => wpBack h' r K) s K :=
 Eq.mp (by kernel_rfl) h
end
end Go.Proofs.Pr
namespace Go.Proofs.Pr
open Go Go.Ef
noncomputable section
set_option maxRecDepth 100000
theorem okL18g {T : Tab} (O : TabOk Tryd.prog Door.cfg T) (O2 : TabOk Tryd.prog Door.cfg Y2) : TabOk Tryd.prog Door.cfg (T.addL 18 2 L18g) := by
 refine addL_ok O fun σ s hs hp => ?_
 unfold L18g at hs
 split at hs
 ·rename_i u l _ _
  cases Option.some.inj hs
  obtain ⟨h1, h2⟩ := hp
  have := Ev.tidied (C := Door.cfg) (P := Tryd.prog) (b := loopAt Tryd.prog 18 2) (f := 18) (σ := σ) (t := ⟨[0, 1], [4], 0⟩) (τ := IA u.data.toList (.sl l 0)) (by kernel_rfl) (by rw [h1]; exact (can18 u.data.toList (hA (.sl l 0))).symm) (run_start roundsS O2 u.data.toList l h2.hs h2.hg trivial h2.ok)
  obtain ⟨m, ex, τ, g1, rfl, g2 | g2⟩ := this
  ·obtain ⟨g2, rfl⟩ := g2
   exact ⟨_, .head _, _, ⟨rfl, g2⟩, m, g1⟩
  ·obtain ⟨g2, rfl⟩ := g2
   exact ⟨_, .tail _ (.head _), _, ⟨rfl, g2⟩, m, g1⟩
 ·rename_i u _ _
  cases Option.some.inj hs
  obtain ⟨h1, h2⟩ := hp
  have := Ev.tidied (C := Door.cfg) (P := Tryd.prog) (b := loopAt Tryd.prog 18 2) (f := 18) (σ := σ) (t := ⟨[0, 1], [4], 0⟩) (τ := IA u.data.toList nilA) (by kernel_rfl) (by rw [h1]; exact (can18 u.data.toList (hA nilA)).symm) (run_start roundsN O2 u.data.toList [] h2.hs h2.hg rfl h2.ok)
  obtain ⟨m, ex, τ, g1, rfl, g2 | g2⟩ := this
  ·obtain ⟨g2, rfl⟩ := g2
   exact ⟨_, .head _, _, ⟨rfl, g2⟩, m, g1⟩
  ·obtain ⟨g2, rfl⟩ := g2
   exact ⟨_, .tail _ (.head _), _, ⟨rfl, g2⟩, m, g1⟩
 ·cases hs
theorem okY3 (O2 : TabOk Tryd.prog Door.cfg Y2) : TabOk Tryd.prog Door.cfg Y3 := ok27 (okL18g (copy_ok O2 ok8 (g := 8) (t := C8) rfl) O2)
theorem run_bound : ∀ (n : Nat) (s : List UInt8) (l : Cells) (o : List UInt8), s.length < n → runOk n s l → s.length ≤ 10000 → (runF n s l o).2.2.length ≤ o.length + s.length * 2300 := by
 intro n
 induction n with
 | zero => intro s l o h; omega
 | succ n ih =>
  intro s l o h1 h2 h3
  have bl := before_len s
  have hr : runF (n + 1) s l o = if hasPct s then (if (resAt s l).2.1 = 0 then (if (resAt s l).1.kind = 37 then runF n (restAt s) (resAt s l).2.2 (o ++ before s ++ padF (resAt s l).1 [] [37]) else runF n (restAt s) ((resAt s l).2.2.drop 1) (o ++ before s ++ padF (resAt s l).1 (bodyAt (resAt s l)).1 (bodyAt (resAt s l)).2)) else ((resAt s l).2.1, (resAt s l).2.2, o ++ before s)) else (0, l, o ++ s) := rfl
  rw [hr]
  cases hp : hasPct s with
  | false =>
   show (o ++ s).length ≤ _
   rw [List.length_append]; omega
  | true =>
   rw [if_pos rfl]
   have rl := rest_len hp (h2 hp).1
   have hf := readF_le (h2 hp).1
   by_cases h0 : (resAt s l).2.1 = 0
   ·rw [if_pos h0]
    obtain ⟨_, _, e3, _, _, _, _⟩ := resolve_k (dirAt s) l h0 hf.1 hf.2.2.1
    by_cases hk : (resAt s l).1.kind = 37
    ·rw [if_pos hk]
     have pl := pad_le (resAt s l).1 [] [37] e3
     refine Nat.le_trans (ih _ _ _ (by omega) (((h2 hp).2 h0).1 hk) (by omega)) ?_
     rw [List.length_append, List.length_append]
     simp only [List.length_nil, List.length_cons] at pl
     omega
    ·rw [if_neg hk]
     obtain ⟨b1, b2, b3, b4⟩ := ((h2 hp).2 h0).2 hk
     have pl := pad_le (resAt s l).1 (bodyAt (resAt s l)).1 (bodyAt (resAt s l)).2 e3
     refine Nat.le_trans (ih _ _ _ (by omega) b4 (by omega)) ?_
     rw [List.length_append, List.length_append]
     omega
   ·rw [if_neg h0]
    show (o ++ before s).length ≤ _
    rw [List.length_append]; omega
theorem cells_empty (x : List UInt8) : List.isEmpty (byteCells x) = x.isEmpty := by cases x <;> rfl
theorem plain_goods {l : Cells} (h : goodsB l = true) : plainEls l = true := by
 refine List.all_eq_true.2 fun e he => ?_
 obtain ⟨k, n, s, rfl, _⟩ := goodC_inv (List.all_eq_true.1 h e he)
 rfl
theorem strip_goods {l : Cells} (h : goodsB l = true) (tok : Nat) : stripA 8 (.sl l tok) = some (.sl l 0) := by
 cases tok with
 | zero => rfl
 | succ t =>
  unfold stripA
  rw [plain_goods h]; rfl
theorem ok12g {T : Tab} (O : TabOk Tryd.prog Door.cfg T) (O2 : TabOk Tryd.prog Door.cfg Y2) : TabOk Tryd.prog Door.cfg (T.addC 12 C12g) := by
 refine addC_ok O fun args h s hs hp => ?_
 have after : ∀ (u : List UInt8) (l : Cells), RunOk u l → checkF (u.length + 1) u = 0 → ∀ (A B : Int × Cells × List UInt8 → Prop) (K : AV → Prop), (∀ x, A x) → (∀ x, B x) → K (.tup [aStr (sprintfF u l).1, aK .i64 (sprintfF u l).2]) →
   (∀ x : Int × Cells × List UInt8, x = runS u l ∧ x.2.2 = [] → iteP (x.1 == 0) (iteP (x.1 != 0) (K (.tup [aStr [], aK .i64 x.1])) (A x ∧ ∀ y : List UInt8, y = [] → K (.tup [aStr y, aK .i64 0]))) (iteP (x.1 != 0) (K (.tup [aStr [], aK .i64 x.1])) (A x ∧ ∀ y : List UInt8, y = [] → K (.tup [aStr y, aK .i64 0])))) ∧
   (∀ x : Int × Cells × List UInt8, x = runS u l ∧ x.2.2.isEmpty = false →
    iteP (x.1 == 0) (iteP (decide ((16384 : Int) < (List.length (byteCells x.2.2) : Int))) (K (.tup [aStr [], aK .i64 3])) (iteP (x.1 != 0) (K (.tup [aStr [], aK .i64 x.1])) ((B x ∧ List.isEmpty (byteCells x.2.2) = false ∧ x.2.2.length = List.length (byteCells x.2.2) ∧ List.length (byteCells x.2.2) ≤ 100000000 ∧ byteCells (List.map byteD (byteCells x.2.2)) = byteCells x.2.2) ∧ ∀ y : List UInt8, y = List.map byteD (byteCells x.2.2) → K (.tup [aStr y, aK .i64 0]))))
     (iteP (x.1 != 0) (K (.tup [aStr [], aK .i64 x.1])) ((B x ∧ List.isEmpty (byteCells x.2.2) = false ∧ x.2.2.length = List.length (byteCells x.2.2) ∧ List.length (byteCells x.2.2) ≤ 100000000 ∧ byteCells (List.map byteD (byteCells x.2.2)) = byteCells x.2.2) ∧ ∀ y : List UInt8, y = List.map byteD (byteCells x.2.2) → K (.tup [aStr y, aK .i64 0])))) := by
  intro u l H hc A B K ha hb hk
  have sp : sprintfF u l = if (runS u l).1 ≠ 0 then ([], (runS u l).1) else if (runS u l).2.2.length > 16384 then ([], 3) else ((runS u l).2.2, 0) := by
   unfold sprintfF; rw [if_neg (by simpa using hc)]
  have rb := run_bound (u.length + 1) u l [] (Nat.lt_succ_self _) (H.ok hc) H.hs
  have hu := H.hs
  replace rb : (runS u l).2.2.length ≤ 0 + u.length * 2300 := rb
  refine ⟨fun x hx => ?_, fun x hx => ?_⟩
  ·obtain ⟨rfl, he⟩ := hx
   by_cases h0 : (runS u l).1 = 0
   ·rw [if_neg (by simpa using h0), if_neg (by rw [he]; decide), he] at sp
    rw [show ((runS u l).1 == 0) = true by simpa using h0, iteP_t, show ((runS u l).1 != 0) = false by rw [h0]; rfl, iteP_f]
    refine ⟨ha _, fun y hy => ?_⟩
    subst hy
    rw [sp] at hk; exact hk
   ·rw [if_pos h0] at sp
    rw [show ((runS u l).1 == 0) = false by simpa using h0, iteP_f, show ((runS u l).1 != 0) = true by simpa using h0, iteP_t]
    rw [sp] at hk; exact hk
  ·obtain ⟨rfl, he⟩ := hx
   by_cases h0 : (runS u l).1 = 0
   ·rw [if_neg (by simpa using h0)] at sp
    rw [show ((runS u l).1 == 0) = true by simpa using h0, iteP_t, cells_len]
    by_cases h1 : (16384 : Int) < ((runS u l).2.2.length : Int)
    ·rw [if_pos (by omega)] at sp
     rw [decide_eq_true h1, iteP_t]
     rw [sp] at hk; exact hk
    ·rw [if_neg (by omega)] at sp
     rw [decide_eq_false h1, iteP_f, show ((runS u l).1 != 0) = false by rw [h0]; rfl, iteP_f]
     refine ⟨⟨hb _, by rw [cells_empty]; exact he, rfl, by omega, by rw [byteD_cells]⟩, fun y hy => ?_⟩
     rw [byteD_cells] at hy
     subst hy
     rw [sp] at hk; exact hk
   ·rw [if_pos h0] at sp
    rw [show ((runS u l).1 == 0) = false by simpa using h0, iteP_f, show ((runS u l).1 != 0) = true by simpa using h0, iteP_t]
    rw [sp] at hk; exact hk
 unfold C12g at hs
 split at hs
 ·rename_i s0 l tok
  obtain ⟨⟨u⟩⟩ := s0
  refine nspec_ok (Option.some.inj hs) (fun hpre => ?_) hp
  replace hpre : RunOk u l := hpre
  refine EvP.freshV (okY3 O2) (n := 40) (by kernel_rfl) (by kernel_rfl) (args' := [aStr u, .sl l 0]) (by
   show consO (some (aStr u)) (consO (stripA 8 (.sl l tok)) (some [])) = _
   rw [strip_goods hpre.hg]; rfl) (g12 u l _ ?_)
  have hu := hpre.hs
  refine ⟨show u.length ≤ 1000000 by omega, fun x hx => ?_⟩
  subst hx
  by_cases hc : checkF (u.length + 1) u = 0
  ·rw [show (checkF (u.length + 1) u != 0) = false by rw [hc]; rfl, iteP_f]
   exact ⟨rfl, ⟨rfl, ⟨hpre.hs, hpre.hg, hpre.ok hc⟩⟩, after u l hpre hc (fun x => sB (.sl x.2.1 0) = sB (.sl x.2.1 0)) (fun x => sC (.sl x.2.1 0) (byteCells x.2.2) x.2.2.length = sC (.sl x.2.1 0) (byteCells x.2.2) x.2.2.length) (fun y => y = .tup [aStr (sprintfF u l).1, aK .i64 (sprintfF u l).2]) (fun _ => rfl) (fun _ => rfl) rfl⟩
  ·rw [show (checkF (u.length + 1) u != 0) = true by simpa using hc, iteP_t]
   show _ = AV.tup [aStr (sprintfF u l).1, aK .i64 (sprintfF u l).2]
   unfold sprintfF; rw [if_pos hc]; rfl
 ·rename_i s0
  obtain ⟨⟨u⟩⟩ := s0
  refine nspec_ok (Option.some.inj hs) (fun hpre => ?_) hp
  replace hpre : RunOk u [] := hpre
  refine EvP.freshV (okY3 O2) (n := 40) (by kernel_rfl) (by kernel_rfl) (args' := [aStr u, nilA]) rfl (g12n u _ ?_)
  have hu := hpre.hs
  refine ⟨show u.length ≤ 1000000 by omega, fun x hx => ?_⟩
  subst hx
  by_cases hc : checkF (u.length + 1) u = 0
  ·rw [show (checkF (u.length + 1) u != 0) = false by rw [hc]; rfl, iteP_f]
   exact ⟨rfl, ⟨rfl, ⟨hpre.hs, hpre.hg, hpre.ok hc⟩⟩, after u [] hpre hc (fun _ => sB nilA = sB nilA) (fun x => sC nilA (byteCells x.2.2) x.2.2.length = sC nilA (byteCells x.2.2) x.2.2.length) (fun y => y = .tup [aStr (sprintfF u []).1, aK .i64 (sprintfF u []).2]) (fun _ => rfl) (fun _ => rfl) rfl⟩
  ·rw [show (checkF (u.length + 1) u != 0) = true by simpa using hc, iteP_t]
   show _ = AV.tup [aStr (sprintfF u []).1, aK .i64 (sprintfF u []).2]
   unfold sprintfF; rw [if_pos hc]; rfl
 ·cases hs
end
end Go.Proofs.Pr
namespace Go.Proofs.Pr
open Go Go.Ef
noncomputable section
def lenTab : List UInt8 := [0, 1, 2, 2, 3, 3, 3, 3, 4, 4, 4, 4, 4, 4, 4, 4, 5, 5, 5, 5, 5, 5, 5, 5, 5, 5, 5, 5, 5, 5, 5, 5, 6, 6, 6, 6, 6, 6, 6, 6, 6, 6, 6, 6, 6, 6, 6, 6, 6, 6, 6, 6, 6, 6, 6, 6, 6, 6, 6, 6, 6, 6, 6, 6, 7, 7, 7, 7, 7, 7, 7, 7, 7, 7, 7, 7, 7, 7, 7, 7, 7, 7, 7, 7, 7, 7, 7, 7, 7, 7, 7, 7, 7, 7, 7, 7, 7, 7, 7, 7, 7, 7, 7, 7, 7, 7, 7, 7, 7, 7, 7, 7, 7, 7, 7, 7, 7, 7, 7, 7, 7, 7, 7, 7, 7, 7, 7, 7, 8, 8, 8, 8, 8, 8, 8, 8, 8, 8, 8, 8, 8, 8, 8, 8, 8, 8, 8, 8, 8, 8, 8, 8, 8, 8, 8, 8, 8, 8, 8, 8, 8, 8, 8, 8, 8, 8, 8, 8, 8, 8, 8, 8, 8, 8, 8, 8, 8, 8, 8, 8, 8, 8, 8, 8, 8, 8, 8, 8, 8, 8, 8, 8, 8, 8, 8, 8, 8, 8, 8, 8, 8, 8, 8, 8, 8, 8, 8, 8, 8, 8, 8, 8, 8, 8, 8, 8, 8, 8, 8, 8, 8, 8, 8, 8, 8, 8, 8, 8, 8, 8, 8, 8, 8, 8, 8, 8, 8, 8, 8, 8, 8, 8, 8, 8, 8, 8, 8, 8, 8, 8, 8, 8, 8, 8, 8, 8]
def twoTab : List UInt8 := [48, 48, 48, 49, 48, 50, 48, 51, 48, 52, 48, 53, 48, 54, 48, 55, 48, 56, 48, 57, 49, 48, 49, 49, 49, 50, 49, 51, 49, 52, 49, 53, 49, 54, 49, 55, 49, 56, 49, 57, 50, 48, 50, 49, 50, 50, 50, 51, 50, 52, 50, 53, 50, 54, 50, 55, 50, 56, 50, 57, 51, 48, 51, 49, 51, 50, 51, 51, 51, 52, 51, 53, 51, 54, 51, 55, 51, 56, 51, 57, 52, 48, 52, 49, 52, 50, 52, 51, 52, 52, 52, 53, 52, 54, 52, 55, 52, 56, 52, 57, 53, 48, 53, 49, 53, 50, 53, 51, 53, 52, 53, 53, 53, 54, 53, 55, 53, 56, 53, 57, 54, 48, 54, 49, 54, 50, 54, 51, 54, 52, 54, 53, 54, 54, 54, 55, 54, 56, 54, 57, 55, 48, 55, 49, 55, 50, 55, 51, 55, 52, 55, 53, 55, 54, 55, 55, 55, 56, 55, 57, 56, 48, 56, 49, 56, 50, 56, 51, 56, 52, 56, 53, 56, 54, 56, 55, 56, 56, 56, 57, 57, 48, 57, 49, 57, 50, 57, 51, 57, 52, 57, 53, 57, 54, 57, 55, 57, 56, 57, 57]
def digTab : List UInt8 := [48, 49, 50, 51, 52, 53, 54, 55, 56, 57, 97, 98, 99, 100, 101, 102, 103, 104, 105, 106, 107, 108, 109, 110, 111, 112, 113, 114, 115, 116, 117, 118, 119, 120, 121, 122]
structure LenP (u x : Int) : Prop where
 h : (x = 1 ∧ 1 ≤ u ∧ u < 2) ∨ (x = 2 ∧ 2 ≤ u ∧ u < 4) ∨ (x = 3 ∧ 4 ≤ u ∧ u < 8) ∨ (x = 4 ∧ 8 ≤ u ∧ u < 16) ∨ (x = 5 ∧ 16 ≤ u ∧ u < 32) ∨ (x = 6 ∧ 32 ≤ u ∧ u < 64) ∨ (x = 7 ∧ 64 ≤ u ∧ u < 128) ∨ (x = 8 ∧ 128 ≤ u ∧ u < 256) ∨ (x = 9 ∧ 256 ≤ u ∧ u < 512) ∨ (x = 10 ∧ 512 ≤ u ∧ u < 1024) ∨ (x = 11 ∧ 1024 ≤ u ∧ u < 2048) ∨ (x = 12 ∧ 2048 ≤ u ∧ u < 4096) ∨ (x = 13 ∧ 4096 ≤ u ∧ u < 8192) ∨ (x = 14 ∧ 8192 ≤ u ∧ u < 16384) ∨ (x = 15 ∧ 16384 ≤ u ∧ u < 32768) ∨ (x = 16 ∧ 32768 ≤ u ∧ u < 65536) ∨ (x = 17 ∧ 65536 ≤ u ∧ u < 131072) ∨ (x = 18 ∧ 131072 ≤ u ∧ u < 262144) ∨ (x = 19 ∧ 262144 ≤ u ∧ u < 524288) ∨ (x = 20 ∧ 524288 ≤ u ∧ u < 1048576) ∨ (x = 21 ∧ 1048576 ≤ u ∧ u < 2097152) ∨ (x = 22 ∧ 2097152 ≤ u ∧ u < 4194304) ∨ (x = 23 ∧ 4194304 ≤ u ∧ u < 8388608) ∨ (x = 24 ∧ 8388608 ≤ u ∧ u < 16777216) ∨ (x = 25 ∧ 16777216 ≤ u ∧ u < 33554432) ∨ (x = 26 ∧ 33554432 ≤ u ∧ u < 67108864) ∨ (x = 27 ∧ 67108864 ≤ u ∧ u < 134217728) ∨ (x = 28 ∧ 134217728 ≤ u ∧ u < 268435456) ∨ (x = 29 ∧ 268435456 ≤ u ∧ u < 536870912) ∨ (x = 30 ∧ 536870912 ≤ u ∧ u < 1073741824) ∨ (x = 31 ∧ 1073741824 ≤ u ∧ u < 2147483648) ∨ (x = 32 ∧ 2147483648 ≤ u ∧ u < 4294967296) ∨ (x = 33 ∧ 4294967296 ≤ u ∧ u < 8589934592) ∨ (x = 34 ∧ 8589934592 ≤ u ∧ u < 17179869184)
structure DigP (u x : Int) : Prop where
 h : (x = 1 ∧ 1 ≤ u ∧ u < 10) ∨ (x = 2 ∧ 10 ≤ u ∧ u < 100) ∨ (x = 3 ∧ 100 ≤ u ∧ u < 1000) ∨ (x = 4 ∧ 1000 ≤ u ∧ u < 10000) ∨ (x = 5 ∧ 10000 ≤ u ∧ u < 100000) ∨ (x = 6 ∧ 100000 ≤ u ∧ u < 1000000) ∨ (x = 7 ∧ 1000000 ≤ u ∧ u < 10000000) ∨ (x = 8 ∧ 10000000 ≤ u ∧ u < 100000000) ∨ (x = 9 ∧ 100000000 ≤ u ∧ u < 1000000000) ∨ (x = 10 ∧ 1000000000 ≤ u ∧ u < 10000000000) ∨ (x = 11 ∧ 10000000000 ≤ u ∧ u < 100000000000)
def C96 (args : List AV) (h : Heap) : Option CSpec :=
 match args with
 | [.sc (.int .u64 u)] => some { pre := 1 ≤ u ∧ u < 17179869184, alts := [{ α := Int, post := fun x => LenP u x, val := fun x => aK .i64 x, heap := fun _ => h }] }
 | _ => none
def C83k (k : Nat) (args : List AV) (h : Heap) : Option CSpec :=
 match args with
 | [.sc (.int .u64 u)] => some (fspec (10 ^ (k - 1) ≤ u ∧ u < 10 ^ k) (aK .i64 k) h)
 | _ => none
def D0 : Tab := tab0.addC 96 C96
def Dk (k : Nat) : Tab := (((((((((((((((((((((((((tab0.addC 83 (C83k k)).name 67 21).name 67 25).name 84 23).name 84 25).name 84 27).name 84 29).name 84 32).name 84 35).name 84 38).name 84 41).name 84 49).name 84 62).name 84 75).name 84 88).name 84 97).name 84 101).name 84 103).name 84 106).name 84 109).name 84 117).name 84 130).name 84 142).name 84 144).name 84 151).name 84 165
end
end Go.Proofs.Pr
