/- A part of the proof: definitions and lemmas. -/
import Derived.Test.YtfgocjmkefeeeaaGreatDoorFormatsD
namespace Go.Proofs.Pr
open Go Go.Ef
noncomputable section
set_option maxRecDepth 100000
def dirAt (s : List UInt8) : Dir := (readF (after s)).1
def restAt (s : List UInt8) : List UInt8 := (readF (after s)).2.1
def resAt (s : List UInt8) (l : Cells) : Dir × Int × Cells := resolveF (dirAt s) l
def bodyAt (r : Dir × Int × Cells) : List UInt8 × List UInt8 := bodyF r.1 (headK r.2.2) (headN r.2.2) (headS r.2.2)
structure Step (s : List UInt8) (l : Cells) (o : List UInt8) (P : List UInt8 → Cells → List UInt8 → Prop) (X : Int → Cells → List UInt8 → Prop) : Prop where
 hs : s.length ≤ 1000000
 ho : o.length ≤ 50000000
 hg : goodsB l = true
 fin : hasPct s = false → X 0 l (o ++ s)
 ok : hasPct s = true → (readF (after s)).2.2 = 0
 bad : hasPct s = true → (resAt s l).2.1 ≠ 0 → X (resAt s l).2.1 (resAt s l).2.2 (o ++ before s)
 rng : hasPct s = true → (resAt s l).2.1 = 0 → -1000 ≤ (resAt s l).1.width ∧ (resAt s l).1.width ≤ 1000 ∧ 0 ≤ (resAt s l).1.kind ∧ (resAt s l).1.kind ≤ 255
 pct : hasPct s = true → (resAt s l).2.1 = 0 → (resAt s l).1.kind = 37 → P (restAt s) (resAt s l).2.2 (o ++ before s ++ padF (resAt s l).1 [] [37])
 arg : hasPct s = true → (resAt s l).2.1 = 0 → (resAt s l).1.kind ≠ 37 → 1 ≤ (resAt s l).2.2.length ∧ goodsB (resAt s l).2.2 = true ∧ bodyOk (resAt s l).1 (headK (resAt s l).2.2) = true ∧ (bodyAt (resAt s l)).1.length ≤ 1000000 ∧ (bodyAt (resAt s l)).2.length ≤ 1000000 ∧
  P (restAt s) ((resAt s l).2.2.drop 1) (o ++ before s ++ padF (resAt s l).1 (bodyAt (resAt s l)).1 (bodyAt (resAt s l)).2)
def midK (d : Dir) (l : Cells) (XK : Int → AV → Prop) (NK : AV → Prop) (WK : AV → List UInt8 → Prop) : Prop :=
 ∀ x : Dir × Int × Cells, x = resolveF d l → iteP (x.2.1 != 0) (iteP (x.2.1 != 0) (XK x.2.1 (.sl x.2.2 0)) (NK (.sl x.2.2 0)))
  (iteP (x.1.kind != 37)
   (iteP (inRange 0 (List.length x.2.2))
    (getI 0 x.2.2 = some [AV.sc (.int .i64 (cellInt x.2.2 0 0)), AV.sc (.int .i64 (cellInt x.2.2 0 1)), AV.sc (.string ⟨⟨cellStr x.2.2 0 2⟩⟩)] ∧
     (bodyOk x.1 (cellInt x.2.2 0 0) = true ∧ (cellStr x.2.2 0 2).length ≤ 1000000) ∧
     ∀ y : List UInt8 × List UInt8, y = bodyF x.1 (cellInt x.2.2 0 0) (cellInt x.2.2 0 1) (cellStr x.2.2 0 2) →
      iteP (headLen 3 x.2.2) (iteP (true && decide ((1 : Int) ≤ (List.length x.2.2 : Int)))
       ((-1000 ≤ x.1.width ∧ x.1.width ≤ 1000 ∧ 0 ≤ x.1.kind ∧ x.1.kind ≤ 255 ∧ y.1.length ≤ 1000000 ∧ y.2.length ≤ 1000000) ∧
        ∀ z : List UInt8, z = padF x.1 y.1 y.2 → WK (.sl (List.drop 1 x.2.2) 0) z) False) False) False)
   ((-1000 ≤ x.1.width ∧ x.1.width ≤ 1000 ∧ 0 ≤ x.1.kind ∧ x.1.kind ≤ 255 ∧ 0 ≤ 1000000 ∧ 1 ≤ 1000000) ∧ ∀ z : List UInt8, z = padF x.1 [] [37] → WK (.sl x.2.2 0) z))
def midN (d : Dir) (XK : Int → AV → Prop) (NK : AV → Prop) (WK : AV → List UInt8 → Prop) : Prop :=
 ∀ x : Dir × Int × Cells, x = resolveF d [] → iteP (x.2.1 != 0) (iteP (x.2.1 != 0) (XK x.2.1 nilA) (NK nilA))
  (iteP (x.1.kind != 37) False
   ((-1000 ≤ x.1.width ∧ x.1.width ≤ 1000 ∧ 0 ≤ x.1.kind ∧ x.1.kind ≤ 255 ∧ 0 ≤ 1000000 ∧ 1 ≤ 1000000) ∧ ∀ z : List UInt8, z = padF x.1 [] [37] → WK nilA z))
theorem mid_ok {s : List UInt8} {l : Cells} {o : List UInt8} {P : List UInt8 → Cells → List UInt8 → Prop} {X : Int → Cells → List UInt8 → Prop} (H : Step s l o P X) (hp : hasPct s = true) {XK : Int → AV → Prop} {NK : AV → Prop} {WK : AV → List UInt8 → Prop}
  (hx : ∀ e l', X e l' (o ++ before s) → XK e (.sl l' 0)) (hw : ∀ l' z, z.length ≤ 10000000 → P (restAt s) l' (o ++ before s ++ z) → WK (.sl l' 0) z) : midK (dirAt s) l XK NK WK := by
 intro x hxe
 replace hxe : x = resAt s l := hxe
 subst hxe
 have pad_len : ∀ (d : Dir) (u v : List UInt8), d.width ≤ 1000 → u.length ≤ 1000000 → v.length ≤ 1000000 → (padF d u v).length ≤ 10000000 := by
  intro d u v h1 h2 h3
  unfold padF
  split
  ·simp; omega
  ·split <;> simp <;> omega
 by_cases h0 : (resAt s l).2.1 = 0
 ·rw [show ((resAt s l).2.1 != 0) = false by rw [h0]; rfl, iteP_f]
  obtain ⟨r1, r2, r3, r4⟩ := H.rng hp h0
  by_cases hk : (resAt s l).1.kind = 37
  ·rw [show ((resAt s l).1.kind != 37) = false by rw [hk]; rfl, iteP_f]
   refine ⟨⟨r1, r2, r3, r4, by omega, by omega⟩, fun z hz => ?_⟩
   subst hz
   exact hw _ _ (pad_len _ _ _ r2 (by simp) (by simp)) (H.pct hp h0 hk)
  ·rw [show ((resAt s l).1.kind != 37) = true by simpa using hk, iteP_t]
   obtain ⟨a1, a2, a3, a4, a5, a6⟩ := H.arg hp h0 hk
   obtain ⟨g1, g2, g3, g4, g5⟩ := head_ok a2 a1
   rw [g1, iteP_t]
   refine ⟨g2, ⟨a3, g5⟩, fun y hy => ?_⟩
   replace hy : y = bodyAt (resAt s l) := hy
   subst hy
   rw [g3, iteP_t, g4, Bool.and_self, iteP_t]
   refine ⟨⟨r1, r2, r3, r4, a4, a5⟩, fun z hz => ?_⟩
   subst hz
   exact hw _ _ (pad_len _ _ _ r2 a4 a5) a6
 ·rw [show ((resAt s l).2.1 != 0) = true by simpa using h0, iteP_t, iteP_t]
  exact hx _ _ (H.bad hp h0)
theorem midN_ok {s : List UInt8} {o : List UInt8} {P : List UInt8 → Cells → List UInt8 → Prop} {X : Int → Cells → List UInt8 → Prop} (H : Step s [] o P X) (hp : hasPct s = true) {XK : Int → AV → Prop} {NK : AV → Prop} {WK : AV → List UInt8 → Prop}
  (hx : ∀ e, X e [] (o ++ before s) → XK e nilA) (hw : ∀ z, z.length ≤ 10000000 → P (restAt s) [] (o ++ before s ++ z) → WK nilA z) : midN (dirAt s) XK NK WK := by
 intro x hxe
 replace hxe : x = resAt s [] := hxe
 subst hxe
 have hl : (resAt s []).2.2 = [] := by unfold resAt; rw [res_nil]
 have pad_len : ∀ (d : Dir) (u v : List UInt8), d.width ≤ 1000 → u.length ≤ 1000000 → v.length ≤ 1000000 → (padF d u v).length ≤ 10000000 := by
  intro d u v h1 h2 h3
  unfold padF
  split
  ·simp; omega
  ·split <;> simp <;> omega
 by_cases h0 : (resAt s []).2.1 = 0
 ·rw [show ((resAt s []).2.1 != 0) = false by rw [h0]; rfl, iteP_f]
  obtain ⟨r1, r2, r3, r4⟩ := H.rng hp h0
  by_cases hk : (resAt s []).1.kind = 37
  ·rw [show ((resAt s []).1.kind != 37) = false by rw [hk]; rfl, iteP_f]
   refine ⟨⟨r1, r2, r3, r4, by omega, by omega⟩, fun z hz => ?_⟩
   subst hz
   have := H.pct hp h0 hk
   rw [hl] at this
   exact hw _ (pad_len _ _ _ r2 (by simp) (by simp)) this
  ·have := (H.arg hp h0 hk).1
   rw [hl] at this
   simp at this
 ·rw [show ((resAt s []).2.1 != 0) = true by simpa using h0, iteP_t, iteP_t]
  have := H.bad hp h0
  rw [hl] at this
  exact hx _ this
abbrev cellsOf' (x : List UInt8) : Cells := x.map fun (b : UInt8) => [AV.sc (Value.int IntKind.u8 (b.toNat : Int))]
theorem wrB {x : List UInt8} (hx : x.length ≤ 100000000) {KB KC : Prop} (h0 : x = [] → KB) (h1 : x.isEmpty = false → KC) :
  iteP ((cellsOf' x).all fun (e : List AV) => e.all AV.one) (iteP (cellsOf' x).isEmpty KB (iteP (fits (cellsOf' x).length 1) KC False)) False := by
 rw [one_cells, iteP_t, fits_cells x hx]
 cases x with
 | nil => exact h0 rfl
 | cons c r => exact h1 rfl
theorem wrC {x u : List UInt8} {b : Cells} {n : Nat} (hb : b = byteCells u) (hn : n = u.length) (hx : x.length + u.length ≤ 100000000) {KB KC : Prop} (h0 : x = [] → KB) (h1 : x.isEmpty = false → KC) :
  iteP ((cellsOf' x).all fun (e : List AV) => e.all AV.one) (iteP (cellsOf' x).isEmpty KB (iteP (allLen 1 b && fits (List.length b + (cellsOf' x).length) 1) (iteP (decide (List.length b = n)) KC False) False)) False := by
 subst hb
 subst hn
 have f1 : fits (List.length (byteCells u) + (cellsOf' x).length) 1 = true := by
  have := fits_cells (u ++ x) (by rw [List.length_append]; omega)
  rw [List.map_append, List.length_append] at this
  exact this
 rw [one_cells, iteP_t, show allLen 1 (byteCells u) = true from allLen_cells u, f1, Bool.and_self, iteP_t, decide_eq_true (cells_len u), iteP_t]
 cases x with
 | nil => exact h0 rfl
 | cons c r => exact h1 rfl
def NBp (mk : Cells → AV) (P : List UInt8 → Cells → List UInt8 → Prop) (s : List UInt8) (a : AV) : Prop := ∃ l, a = mk l ∧ P s l []
def NCp (mk : Cells → AV) (P : List UInt8 → Cells → List UInt8 → Prop) (s : List UInt8) (a : AV) (b : Cells) (n : Nat) : Prop := ∃ l o, a = mk l ∧ o.isEmpty = false ∧ b = byteCells o ∧ n = o.length ∧ P s l o
def XBp (mk : Cells → AV) (X : Int → Cells → List UInt8 → Prop) (v : Int) (a : AV) : Prop := ∃ l, a = mk l ∧ X v l []
def XCp (mk : Cells → AV) (X : Int → Cells → List UInt8 → Prop) (v : Int) (a : AV) (b : Cells) (n : Nat) : Prop := ∃ l o, a = mk l ∧ o.isEmpty = false ∧ b = byteCells o ∧ n = o.length ∧ X v l o
theorem before_len (s : List UInt8) : (before s).length ≤ s.length := (List.takeWhile_sublist _).length_le
theorem after_len (s : List UInt8) : (after s).length ≤ s.length := by
 unfold after
 rw [List.length_drop]
 have := (List.dropWhile_sublist (l := s) (· != 37)).length_le
 omega
def mkS (l : Cells) : AV := .sl l 0
def mkNil (_ : Cells) : AV := nilA
theorem not_empty_append {u x : List UInt8} (h : u.isEmpty = false) : (u ++ x).isEmpty = false := by cases u <;> simp_all
def WBp (mk : Cells → AV) (P : List UInt8 → Cells → List UInt8 → Prop) (rest : List UInt8) (a : AV) (z : List UInt8) : Prop :=
 iteP ((cellsOf' z).all fun (e : List AV) => e.all AV.one) (iteP (cellsOf' z).isEmpty (NBp mk P rest a) (iteP (fits (cellsOf' z).length 1) (NCp mk P rest a (cellsOf' z) (cellsOf' z).length) False)) False
def WCp (mk : Cells → AV) (P : List UInt8 → Cells → List UInt8 → Prop) (rest : List UInt8) (b : Cells) (n : Nat) (a : AV) (z : List UInt8) : Prop :=
 iteP ((cellsOf' z).all fun (e : List AV) => e.all AV.one) (iteP (cellsOf' z).isEmpty (NCp mk P rest a b n) (iteP (allLen 1 b && fits (List.length b + (cellsOf' z).length) 1) (iteP (decide (List.length b = n)) (NCp mk P rest a (b ++ cellsOf' z) (n + (cellsOf' z).length)) False) False)) False
theorem WB_ok {mk : Cells → AV} {P : List UInt8 → Cells → List UInt8 → Prop} {rest z : List UInt8} {l' : Cells} (hz : z.length ≤ 10000000) (hw : P rest l' z) : WBp mk P rest (mk l') z :=
 wrB (by omega) (fun h' => ⟨l', rfl, by rw [h'] at hw; exact hw⟩) (fun h' => ⟨l', z, rfl, h', rfl, cells_len z, hw⟩)
theorem WC_ok {mk : Cells → AV} {P : List UInt8 → Cells → List UInt8 → Prop} {rest u z : List UInt8} {b : Cells} {n : Nat} {l' : Cells} (hb : b = byteCells u) (hn : n = u.length) (hu : u.isEmpty = false) (hul : u.length ≤ 60000000) (hz : z.length ≤ 10000000) (hw : P rest l' (u ++ z)) : WCp mk P rest b n (mk l') z := by
 refine wrC hb hn (by omega) (fun h' => ⟨l', u, rfl, hu, hb, hn, by rw [h'] at hw; simpa using hw⟩) (fun h' => ⟨l', u ++ z, rfl, not_empty_append hu, ?_, ?_, hw⟩)
 ·rw [hb]; exact cells_append _ _
 ·rw [hn, List.length_append]; rw [show (cellsOf' z).length = z.length from List.length_map ..]
theorem restB {s : List UInt8} {l : Cells} {P : List UInt8 → Cells → List UInt8 → Prop} {X : Int → Cells → List UInt8 → Prop} (H : Step s l [] P X) (hp : hasPct s = true) (h : before s = []) :
  midK (dirAt s) l (fun e a => XBp mkS X e a) (fun a => NBp mkS P (restAt s) a) (WBp mkS P (restAt s)) := by
 refine mid_ok H hp (fun e l' hx => ⟨l', rfl, ?_⟩) (fun l' z hz hw => WB_ok hz ?_)
 ·rw [h] at hx; exact hx
 ·rw [h] at hw; exact hw
theorem restC {s : List UInt8} {l : Cells} {o : List UInt8} {b : Cells} {n : Nat} {P : List UInt8 → Cells → List UInt8 → Prop} {X : Int → Cells → List UInt8 → Prop} (H : Step s l o P X) (hp : hasPct s = true) (hb : b = byteCells (o ++ before s)) (hn : n = (o ++ before s).length) (h : (o ++ before s).isEmpty = false) :
  midK (dirAt s) l (fun e a => XCp mkS X e a b n) (fun a => NCp mkS P (restAt s) a b n) (WCp mkS P (restAt s) b n) := by
 have bl := before_len s
 have hs := H.hs
 have ho := H.ho
 exact mid_ok H hp (fun e l' hx => ⟨l', o ++ before s, rfl, h, hb, hn, hx⟩) (fun l' z hz hw => WC_ok hb hn h (by rw [List.length_append]; omega) hz hw)
theorem restBn {s : List UInt8} {P : List UInt8 → Cells → List UInt8 → Prop} {X : Int → Cells → List UInt8 → Prop} (H : Step s [] [] P X) (hp : hasPct s = true) (h : before s = []) :
  midN (dirAt s) (fun e a => XBp mkNil X e a) (fun a => NBp mkNil P (restAt s) a) (WBp mkNil P (restAt s)) := by
 refine midN_ok H hp (fun e hx => ⟨[], rfl, ?_⟩) (fun z hz hw => WB_ok (mk := mkNil) (l' := []) hz ?_)
 ·rw [h] at hx; exact hx
 ·rw [h] at hw; exact hw
theorem restCn {s : List UInt8} {o : List UInt8} {b : Cells} {n : Nat} {P : List UInt8 → Cells → List UInt8 → Prop} {X : Int → Cells → List UInt8 → Prop} (H : Step s [] o P X) (hp : hasPct s = true) (hb : b = byteCells (o ++ before s)) (hn : n = (o ++ before s).length) (h : (o ++ before s).isEmpty = false) :
  midN (dirAt s) (fun e a => XCp mkNil X e a b n) (fun a => NCp mkNil P (restAt s) a b n) (WCp mkNil P (restAt s) b n) := by
 have bl := before_len s
 have hs := H.hs
 have ho := H.ho
 exact midN_ok H hp (fun e hx => ⟨[], o ++ before s, rfl, h, hb, hn, hx⟩) (fun z hz hw => WC_ok (mk := mkNil) (l' := []) hb hn h (by rw [List.length_append]; omega) hz hw)
theorem goA {s : List UInt8} {l : Cells} {P : List UInt8 → Cells → List UInt8 → Prop} {X : Int → Cells → List UInt8 → Prop} (H : Step s l [] P X) :
  wpRound Y2 Door.cfg Tryz.prog 40 10 2 (IA s (.sl l 0)) (qN (NBp mkS P) (NCp mkS P)) (qX (fun _ _ => False) (XBp mkS X) (XCp mkS X)) := by
 have bl := before_len s
 have hs := H.hs
 refine gA s l _ _ _ _ _ ⟨⟨H.hs, rfl⟩, fun x hx => ?_⟩
 subst hx
 cases hp : hasPct s with
 | false =>
  rw [show (before s, after s, false).2.2 = false from rfl, iteP_f]
  obtain ⟨n1, _⟩ := noPct hp
  have hf := H.fin hp
  refine wrB (x := before s) (by omega) (fun h => ⟨l, rfl, ?_⟩) (fun h => ⟨l, before s, rfl, h, rfl, cells_len _, by rw [n1]; exact hf⟩)
  rw [← n1, h] at hf
  exact hf
 | true =>
  rw [show (before s, after s, true).2.2 = true from rfl, iteP_t]
  refine ⟨show (after s).length ≤ 1000000 from Nat.le_trans (after_len s) H.hs, fun x1 h1 => ?_⟩
  subst h1
  rw [show ((readF (before s, after s, true).2.1).2.2 != 0) = false by rw [show (readF (before s, after s, true).2.1).2.2 = 0 from H.ok hp]; rfl, iteP_f]
  refine wrB (x := before s) (by omega) (fun h => ⟨⟨rfl, H.hg⟩, ?_⟩) (fun h => ⟨⟨rfl, H.hg⟩, ?_⟩)
  ·exact restB H hp h
  ·exact restC (o := []) (b := byteCells (before s)) (n := (byteCells (before s)).length) H hp rfl (cells_len _) h
theorem goB {s : List UInt8} {l : Cells} {P : List UInt8 → Cells → List UInt8 → Prop} {X : Int → Cells → List UInt8 → Prop} (H : Step s l [] P X) :
  wpRound Y2 Door.cfg Tryz.prog 40 10 2 (IB s (.sl l 0)) (qN (NBp mkS P) (NCp mkS P)) (qX (fun _ _ => False) (XBp mkS X) (XCp mkS X)) := by
 have bl := before_len s
 have hs := H.hs
 refine gB s l _ _ _ _ _ ⟨⟨H.hs, rfl⟩, fun x hx => ?_⟩
 subst hx
 cases hp : hasPct s with
 | false =>
  rw [show (before s, after s, false).2.2 = false from rfl, iteP_f]
  obtain ⟨n1, _⟩ := noPct hp
  have hf := H.fin hp
  refine wrB (x := before s) (by omega) (fun h => ⟨l, rfl, ?_⟩) (fun h => ⟨l, before s, rfl, h, rfl, cells_len _, by rw [n1]; exact hf⟩)
  rw [← n1, h] at hf
  exact hf
 | true =>
  rw [show (before s, after s, true).2.2 = true from rfl, iteP_t]
  refine ⟨show (after s).length ≤ 1000000 from Nat.le_trans (after_len s) H.hs, fun x1 h1 => ?_⟩
  subst h1
  rw [show ((readF (before s, after s, true).2.1).2.2 != 0) = false by rw [show (readF (before s, after s, true).2.1).2.2 = 0 from H.ok hp]; rfl, iteP_f]
  refine wrB (x := before s) (by omega) (fun h => ⟨⟨rfl, H.hg⟩, ?_⟩) (fun h => ⟨⟨rfl, H.hg⟩, ?_⟩)
  ·exact restB H hp h
  ·exact restC (o := []) (b := byteCells (before s)) (n := (byteCells (before s)).length) H hp rfl (cells_len _) h
theorem goC {s : List UInt8} {l : Cells} {o : List UInt8} {P : List UInt8 → Cells → List UInt8 → Prop} {X : Int → Cells → List UInt8 → Prop} (H : Step s l o P X) (hne : o.isEmpty = false) :
  wpRound Y2 Door.cfg Tryz.prog 40 10 2 (IC s (.sl l 0) (byteCells o) o.length) (qN (NBp mkS P) (NCp mkS P)) (qX (fun _ _ => False) (XBp mkS X) (XCp mkS X)) := by
 have bl := before_len s
 have hs := H.hs
 have ho := H.ho
 refine gC s l (byteCells o) o.length _ _ _ _ _ ⟨⟨H.hs, rfl⟩, fun x hx => ?_⟩
 subst hx
 cases hp : hasPct s with
 | false =>
  rw [show (before s, after s, false).2.2 = false from rfl, iteP_f]
  obtain ⟨n1, _⟩ := noPct hp
  have hf := H.fin hp
  refine wrC (x := before s) (u := o) rfl rfl (by omega) (fun h => ⟨l, o, rfl, hne, rfl, rfl, ?_⟩) (fun h => ⟨l, o ++ before s, rfl, not_empty_append hne, cells_append _ _, by rw [List.length_append, List.length_map], by rw [n1]; exact hf⟩)
  rw [← n1, h, List.append_nil] at hf
  exact hf
 | true =>
  rw [show (before s, after s, true).2.2 = true from rfl, iteP_t]
  refine ⟨show (after s).length ≤ 1000000 from Nat.le_trans (after_len s) H.hs, fun x1 h1 => ?_⟩
  subst h1
  rw [show ((readF (before s, after s, true).2.1).2.2 != 0) = false by rw [show (readF (before s, after s, true).2.1).2.2 = 0 from H.ok hp]; rfl, iteP_f]
  refine wrC (x := before s) (u := o) rfl rfl (by omega) (fun h => ⟨⟨rfl, H.hg⟩, ?_⟩) (fun h => ⟨⟨rfl, H.hg⟩, ?_⟩)
  ·exact restC (b := byteCells o) (n := o.length) H hp (by rw [h, List.append_nil]) (by rw [h, List.append_nil]) (by rw [h, List.append_nil]; exact hne)
  ·exact restC (b := byteCells o ++ cellsOf' (before s)) (n := o.length + (cellsOf' (before s)).length) H hp (cells_append _ _) (by rw [List.length_append, List.length_map]) (not_empty_append hne)
theorem goAn {s : List UInt8} {P : List UInt8 → Cells → List UInt8 → Prop} {X : Int → Cells → List UInt8 → Prop} (H : Step s [] [] P X) :
  wpRound Y2 Door.cfg Tryz.prog 40 10 2 (IA s nilA) (qN (NBp mkNil P) (NCp mkNil P)) (qX (fun _ _ => False) (XBp mkNil X) (XCp mkNil X)) := by
 have bl := before_len s
 have hs := H.hs
 refine gAn s _ _ _ _ _ ⟨⟨H.hs, rfl⟩, fun x hx => ?_⟩
 subst hx
 cases hp : hasPct s with
 | false =>
  rw [show (before s, after s, false).2.2 = false from rfl, iteP_f]
  obtain ⟨n1, _⟩ := noPct hp
  have hf := H.fin hp
  refine wrB (x := before s) (by omega) (fun h => ⟨[], rfl, ?_⟩) (fun h => ⟨[], before s, rfl, h, rfl, cells_len _, by rw [n1]; exact hf⟩)
  rw [← n1, h] at hf
  exact hf
 | true =>
  rw [show (before s, after s, true).2.2 = true from rfl, iteP_t]
  refine ⟨show (after s).length ≤ 1000000 from Nat.le_trans (after_len s) H.hs, fun x1 h1 => ?_⟩
  subst h1
  rw [show ((readF (before s, after s, true).2.1).2.2 != 0) = false by rw [show (readF (before s, after s, true).2.1).2.2 = 0 from H.ok hp]; rfl, iteP_f]
  refine wrB (x := before s) (by omega) (fun h => ⟨rfl, ?_⟩) (fun h => ⟨rfl, ?_⟩)
  ·exact restBn H hp h
  ·exact restCn (o := []) (b := byteCells (before s)) (n := (byteCells (before s)).length) H hp rfl (cells_len _) h
theorem goBn {s : List UInt8} {P : List UInt8 → Cells → List UInt8 → Prop} {X : Int → Cells → List UInt8 → Prop} (H : Step s [] [] P X) :
  wpRound Y2 Door.cfg Tryz.prog 40 10 2 (IB s nilA) (qN (NBp mkNil P) (NCp mkNil P)) (qX (fun _ _ => False) (XBp mkNil X) (XCp mkNil X)) := by
 have bl := before_len s
 have hs := H.hs
 refine gBn s _ _ _ _ _ ⟨⟨H.hs, rfl⟩, fun x hx => ?_⟩
 subst hx
 cases hp : hasPct s with
 | false =>
  rw [show (before s, after s, false).2.2 = false from rfl, iteP_f]
  obtain ⟨n1, _⟩ := noPct hp
  have hf := H.fin hp
  refine wrB (x := before s) (by omega) (fun h => ⟨[], rfl, ?_⟩) (fun h => ⟨[], before s, rfl, h, rfl, cells_len _, by rw [n1]; exact hf⟩)
  rw [← n1, h] at hf
  exact hf
 | true =>
  rw [show (before s, after s, true).2.2 = true from rfl, iteP_t]
  refine ⟨show (after s).length ≤ 1000000 from Nat.le_trans (after_len s) H.hs, fun x1 h1 => ?_⟩
  subst h1
  rw [show ((readF (before s, after s, true).2.1).2.2 != 0) = false by rw [show (readF (before s, after s, true).2.1).2.2 = 0 from H.ok hp]; rfl, iteP_f]
  refine wrB (x := before s) (by omega) (fun h => ⟨rfl, ?_⟩) (fun h => ⟨rfl, ?_⟩)
  ·exact restBn H hp h
  ·exact restCn (o := []) (b := byteCells (before s)) (n := (byteCells (before s)).length) H hp rfl (cells_len _) h
theorem goCn {s : List UInt8} {o : List UInt8} {P : List UInt8 → Cells → List UInt8 → Prop} {X : Int → Cells → List UInt8 → Prop} (H : Step s [] o P X) (hne : o.isEmpty = false) :
  wpRound Y2 Door.cfg Tryz.prog 40 10 2 (IC s nilA (byteCells o) o.length) (qN (NBp mkNil P) (NCp mkNil P)) (qX (fun _ _ => False) (XBp mkNil X) (XCp mkNil X)) := by
 have bl := before_len s
 have hs := H.hs
 have ho := H.ho
 refine gCn s (byteCells o) o.length _ _ _ _ _ ⟨⟨H.hs, rfl⟩, fun x hx => ?_⟩
 subst hx
 cases hp : hasPct s with
 | false =>
  rw [show (before s, after s, false).2.2 = false from rfl, iteP_f]
  obtain ⟨n1, _⟩ := noPct hp
  have hf := H.fin hp
  refine wrC (x := before s) (u := o) rfl rfl (by omega) (fun h => ⟨[], o, rfl, hne, rfl, rfl, ?_⟩) (fun h => ⟨[], o ++ before s, rfl, not_empty_append hne, cells_append _ _, by rw [List.length_append, List.length_map], by rw [n1]; exact hf⟩)
  rw [← n1, h, List.append_nil] at hf
  exact hf
 | true =>
  rw [show (before s, after s, true).2.2 = true from rfl, iteP_t]
  refine ⟨show (after s).length ≤ 1000000 from Nat.le_trans (after_len s) H.hs, fun x1 h1 => ?_⟩
  subst h1
  rw [show ((readF (before s, after s, true).2.1).2.2 != 0) = false by rw [show (readF (before s, after s, true).2.1).2.2 = 0 from H.ok hp]; rfl, iteP_f]
  refine wrC (x := before s) (u := o) rfl rfl (by omega) (fun h => ⟨rfl, ?_⟩) (fun h => ⟨rfl, ?_⟩)
  ·exact restCn (b := byteCells o) (n := o.length) H hp (by rw [h, List.append_nil]) (by rw [h, List.append_nil]) (by rw [h, List.append_nil]; exact hne)
  ·exact restCn (b := byteCells o ++ cellsOf' (before s)) (n := o.length + (cellsOf' (before s)).length) H hp (cells_append _ _) (by rw [List.length_append, List.length_map]) (not_empty_append hne)
end
end Go.Proofs.Pr
namespace Go.Proofs.Pr
open Go Go.Ef
noncomputable section
set_option maxRecDepth 100000
def runF : Nat → List UInt8 → Cells → List UInt8 → Int × Cells × List UInt8
 | 0, _, l, o => (0, l, o)
 | n + 1, s, l, o => if hasPct s then (if (resAt s l).2.1 = 0 then (if (resAt s l).1.kind = 37 then runF n (restAt s) (resAt s l).2.2 (o ++ before s ++ padF (resAt s l).1 [] [37]) else runF n (restAt s) ((resAt s l).2.2.drop 1) (o ++ before s ++ padF (resAt s l).1 (bodyAt (resAt s l)).1 (bodyAt (resAt s l)).2)) else ((resAt s l).2.1, (resAt s l).2.2, o ++ before s)) else (0, l, o ++ s)
def runOk : Nat → List UInt8 → Cells → Prop
 | 0, _, _ => True
 | n + 1, s, l => hasPct s = true → (readF (after s)).2.2 = 0 ∧ ((resAt s l).2.1 = 0 → ((resAt s l).1.kind = 37 → runOk n (restAt s) (resAt s l).2.2) ∧
   ((resAt s l).1.kind ≠ 37 → bodyOk (resAt s l).1 (headK (resAt s l).2.2) = true ∧ (bodyAt (resAt s l)).1.length ≤ 1000 ∧ (bodyAt (resAt s l)).2.length ≤ 1000 ∧ runOk n (restAt s) ((resAt s l).2.2.drop 1)))
theorem numL_le : ∀ (s : List UInt8) (n : Int), -1 ≤ n → n ≤ 256 → -1 ≤ (numL s n).1 ∧ (numL s n).1 ≤ 256 := by
 intro s
 induction s with
 | nil => intro n h1 h2; exact ⟨h1, h2⟩
 | cons c r ih =>
  intro n h1 h2
  unfold numL
  split
  ·exact ih _ (by omega) (by omega)
  ·exact ⟨h1, h2⟩
theorem numF_le (s : List UInt8) : -2 ≤ (numF s).1 ∧ (numF s).1 ≤ 256 := by
 cases s with
 | nil => exact ⟨by decide, by decide⟩
 | cons c r =>
  have he : numF (c :: r) = if c = 42 then (-2, r) else numL (c :: r) (-1) := rfl
  rw [he]
  split
  ·exact ⟨by show (-2 : Int) ≤ -2; decide, by show (-2 : Int) ≤ 256; decide⟩
  ·have := numL_le (c :: r) (-1) (by omega) (by omega)
   omega
theorem precF_le (s : List UInt8) : -2 ≤ (precF s).1 ∧ (precF s).1 ≤ 256 := by
 cases s with
 | nil => exact ⟨by decide, by decide⟩
 | cons c r =>
  have he : precF (c :: r) = if c = 46 then ((if (numF r).1 = -1 then 0 else (numF r).1), (numF r).2) else (-1, c :: r) := rfl
  rw [he]
  split
  ·have := numF_le r
   show -2 ≤ (if (numF r).1 = -1 then 0 else (numF r).1) ∧ (if (numF r).1 = -1 then 0 else (numF r).1) ≤ 256
   split <;> omega
  ·exact ⟨by show (-2 : Int) ≤ -1; decide, by show (-1 : Int) ≤ 256; decide⟩
theorem readF_le {s : List UInt8} (h : (readF s).2.2 = 0) : -2 ≤ (readF s).1.width ∧ (readF s).1.width ≤ 255 ∧ -2 ≤ (readF s).1.prec ∧ (readF s).1.prec ≤ 255 ∧ 0 ≤ (readF s).1.kind ∧ (readF s).1.kind ≤ 255 := by
 have h1 := numF_le (flagsF s { Dir.none with prec := -1 }).2
 have h2 := precF_le (numF (flagsF s { Dir.none with prec := -1 }).2).2
 unfold readF at h ⊢
 generalize (flagsF s { Dir.none with prec := -1 }).1 = d at h ⊢
 generalize (numF (flagsF s { Dir.none with prec := -1 }).2).1 = w at *
 generalize (precF (numF (flagsF s { Dir.none with prec := -1 }).2).2).1 = p at *
 generalize (precF (numF (flagsF s { Dir.none with prec := -1 }).2).2).2 = t at *
 cases t with
 | nil => cases h
 | cons c r =>
  have he : endF d w p (c :: r) = if kinds.contains c then (if w > 255 ∨ p > 255 then (Dir.none, [], 2) else ({ d with width := w, prec := p, kind := c.toNat }, r, 0)) else (Dir.none, [], 1) := rfl
  rw [he] at h ⊢
  split at h
  ·rename_i hc
   rw [if_pos hc]
   split at h
   ·cases h
   ·rename_i hw
    rw [if_neg hw]
    have := c.toNat_lt
    refine ⟨h1.1, by show w ≤ 255; omega, h2.1, by show p ≤ 255; omega, by show (0 : Int) ≤ c.toNat; omega, by show (c.toNat : Int) ≤ 255; omega⟩
  ·cases h
theorem resW_k (d : Dir) (l : Cells) : (resW d l).1.kind = d.kind ∧ (resW d l).1.prec = d.prec ∧ (resW d l).2 = l.drop (if d.width = -2 then 1 else 0) ∧ (d.width ≠ -2 → (resW d l).1.width = d.width) ∧ (d.width = -2 → 0 ≤ (resW d l).1.width) := by
 by_cases h : d.width = -2
 ·by_cases h2 : takeF l < 0
  ·rw [resW_neg h h2, if_pos h]
   exact ⟨rfl, rfl, rfl, fun h' => absurd h h', fun _ => by show 0 ≤ -takeF l; omega⟩
  ·rw [resW_pos h h2, if_pos h]
   exact ⟨rfl, rfl, rfl, fun h' => absurd h h', fun _ => by show 0 ≤ takeF l; omega⟩
 ·rw [resW_no h, if_neg h]
  exact ⟨rfl, rfl, rfl, fun _ => rfl, fun h' => absurd h' h⟩
theorem resP_k (x : Dir × Cells) : (resP x).1.kind = x.1.kind ∧ (resP x).1.width = x.1.width ∧ (resP x).2 = x.2.drop (if x.1.prec = -2 then 1 else 0) ∧ (-2 ≤ x.1.prec → -1 ≤ (resP x).1.prec) := by
 by_cases h : x.1.prec = -2
 ·rw [resP_yes h, if_pos h]
  exact ⟨rfl, rfl, rfl, fun _ => by show -1 ≤ max (takeF x.2) (-1); omega⟩
 ·rw [resP_no h, if_neg h]
  exact ⟨rfl, rfl, rfl, fun _ => by omega⟩
theorem resE_k (x : Dir × Cells) : (resE x).1 = x.1 ∧ (resE x).2.2 = x.2 ∧ ((resE x).2.1 = 0 → x.1.width ≤ 255 ∧ x.1.prec ≤ 255) := by
 by_cases h : x.1.width > 255 ∨ x.1.prec > 255
 ·rw [resE_yes h]
  exact ⟨rfl, rfl, fun h' => by cases h'⟩
 ·rw [resE_no h]
  exact ⟨rfl, rfl, fun _ => by omega⟩
theorem resolve_k (d : Dir) (l : Cells) (h : (resolveF d l).2.1 = 0) (hw : -2 ≤ d.width) (hpr : -2 ≤ d.prec) :
  (resolveF d l).1.kind = d.kind ∧ -1 ≤ (resolveF d l).1.width ∧ (resolveF d l).1.width ≤ 255 ∧ -1 ≤ (resolveF d l).1.prec ∧ (resolveF d l).1.prec ≤ 255 ∧ (∃ k, (resolveF d l).2.2 = l.drop k) ∧ (d.kind ≠ 37 → 1 ≤ (resolveF d l).2.2.length) := by
 by_cases hn : l.length < needF d
 ·rw [res_lt hn] at h; cases h
 ·rw [res_ge hn] at h ⊢
  obtain ⟨e1, e2, e3⟩ := resE_k (resP (resW d l))
  obtain ⟨p1, p2, p3, p4⟩ := resP_k (resW d l)
  obtain ⟨w1, w2, w3, w4, w5⟩ := resW_k d l
  obtain ⟨e4, e5⟩ := e3 h
  rw [e1, e2]
  have hl : (resP (resW d l)).2 = l.drop ((if d.width = -2 then 1 else 0) + (if d.prec = -2 then 1 else 0)) := by
   rw [p3, w3, w2, List.drop_drop]
  have hlen : (resP (resW d l)).2.length = l.length - ((if d.width = -2 then 1 else 0) + (if d.prec = -2 then 1 else 0)) := by rw [hl, List.length_drop]
  refine ⟨by rw [p1, w1], ?_, e4, p4 (by rw [w2]; exact hpr), e5, ⟨_, hl⟩, fun hk => ?_⟩
  ·rw [p2]
   by_cases hd : d.width = -2
   ·have := w5 hd; omega
   ·have := w4 hd; omega
  ·unfold needF at hn
   rw [if_neg hk] at hn
   omega
def endSt (mk : Cells → AV) (R : Int × Cells × List UInt8) (τ : St) : Prop := (R.2.2 = [] ∧ τ = JB R.1 (mk R.2.1)) ∨ (R.2.2.isEmpty = false ∧ τ = JC R.1 (mk R.2.1) (byteCells R.2.2) R.2.2.length)
abbrev RoundW (mk : Cells → AV) (st : St) (P : List UInt8 → Cells → List UInt8 → Prop) (X : Int → Cells → List UInt8 → Prop) : Prop := wpRound Y2 Door.cfg Tryz.prog 40 10 2 st (qN (NBp mk P) (NCp mk P)) (qX (fun _ _ => False) (XBp mk X) (XCp mk X))
structure Rounds (mk : Cells → AV) (ok : Cells → Prop) : Prop where
 A : ∀ s l P X, ok l → Step s l [] P X → RoundW mk (IA s (mk l)) P X
 B : ∀ s l P X, ok l → Step s l [] P X → RoundW mk (IB s (mk l)) P X
 C : ∀ s l o P X, ok l → Step s l o P X → o.isEmpty = false → RoundW mk (IC s (mk l) (byteCells o) o.length) P X
 res : ∀ d l, ok l → ok (resolveF d l).2.2
 drop : ∀ l k, ok l → ok (l.drop k)
theorem roundsS : Rounds mkS (fun _ => True) := ⟨fun _ _ _ _ _ H => goA H, fun _ _ _ _ _ H => goB H, fun _ _ _ _ _ _ H h => goC H h, fun _ _ _ => trivial, fun _ _ _ => trivial⟩
theorem roundsN : Rounds mkNil (fun l => l = []) := ⟨fun s l P X hl H => by subst hl; exact goAn H, fun s l P X hl H => by subst hl; exact goBn H, fun s l o P X hl H h => by subst hl; exact goCn H h, fun d l hl => by subst hl; rw [res_nil], fun l k hl => by subst hl; simp⟩
theorem qN_cases {mk : Cells → AV} {P : List UInt8 → Cells → List UInt8 → Prop} {τ : St} (h : qN (NBp mk P) (NCp mk P) τ) : ∃ s l o, P s l o ∧ ((o = [] ∧ τ = IB s (mk l)) ∨ (o.isEmpty = false ∧ τ = IC s (mk l) (byteCells o) o.length)) := by
 obtain ⟨s, h0, rfl, h1⟩ := wasI_ok h
 clear h
 split at h1
 ·obtain ⟨a, rfl, l, rfl, hP⟩ := rdB_ok h1
  exact ⟨s, l, [], hP, .inl ⟨rfl, rfl⟩⟩
 ·obtain ⟨a, b, n, rfl, l, o, rfl, ho, rfl, rfl, hP⟩ := rdC_ok h1
  exact ⟨s, l, o, hP, .inr ⟨ho, rfl⟩⟩
 ·exact h1.elim
theorem qX_cases {mk : Cells → AV} {X : Int → Cells → List UInt8 → Prop} {e : Ex} {τ : St} (h : qX (fun _ _ => False) (XBp mk X) (XCp mk X) e τ) : e = .ret ∧ ∃ v l o, X v l o ∧ ((o = [] ∧ τ = JB v (mk l)) ∨ (o.isEmpty = false ∧ τ = JC v (mk l) (byteCells o) o.length)) := by
 unfold qX at h
 split at h
 ·refine ⟨rfl, ?_⟩
  obtain ⟨v, h0, rfl, h1⟩ := wasJ_ok h
  clear h
  split at h1
  ·obtain ⟨a, _, h2⟩ := rdA_ok h1
   exact h2.elim
  ·obtain ⟨a, rfl, l, rfl, hP⟩ := rdB_ok h1
   exact ⟨v, l, [], hP, .inl ⟨rfl, rfl⟩⟩
  ·obtain ⟨a, b, n, rfl, l, o, rfl, ho, rfl, rfl, hP⟩ := rdC_ok h1
   exact ⟨v, l, o, hP, .inr ⟨ho, rfl⟩⟩
  ·exact h1.elim
 ·exact h.elim
theorem rest_len {s : List UInt8} (hp : hasPct s = true) (h : (readF (after s)).2.2 = 0) : (restAt s).length + (before s).length + 2 ≤ s.length := by
 have h1 := readF_len (after s) h
 have h2 : (before s).length + 1 + (after s).length = s.length := by
  obtain ⟨r, e⟩ : ∃ r, s.dropWhile (· != 37) = 37 :: r := by
   have hm : (37 : UInt8) ∈ s := by simpa [hasPct] using hp
   cases hr : s.dropWhile (· != 37) with
   | nil =>
    have hall : ∀ x ∈ s, (x != 37) = true := by
     intro x hx
     have := List.takeWhile_append_dropWhile (p := (· != 37)) (l := s)
     rw [hr, List.append_nil] at this
     rw [← this] at hx
     exact List.all_eq_true.1 List.all_takeWhile x hx
    have := hall 37 hm
    simp at this
   | cons c r =>
    have hc : ¬ ((c != 37) = true) := by
     have := List.head?_dropWhile_not (p := (· != 37)) (l := s)
     rw [hr] at this
     simpa using this
    have : c = 37 := by simpa using hc
    exact ⟨r, by rw [this]⟩
  have h3 := List.takeWhile_append_dropWhile (p := (· != 37)) (l := s)
  have h4 := congrArg List.length h3
  rw [List.length_append, e, List.length_cons] at h4
  unfold before after
  rw [e]
  simp only [List.drop_succ_cons, List.drop_zero]
  omega
 show (readF (after s)).2.1.length + _ + 2 ≤ _
 omega
theorem pad_le (d : Dir) (u v : List UInt8) (h1 : d.width ≤ 255) : (padF d u v).length ≤ 255 + u.length + v.length := by
 unfold padF
 split
 ·simp; omega
 ·split <;> simp <;> omega
def Pn (ok : Cells → Prop) (R : Int × Cells × List UInt8) (n : Nat) (s : List UInt8) (l : Cells) (o : List UInt8) : Prop :=
 runF n s l o = R ∧ s.length < n ∧ runOk n s l ∧ goodsB l = true ∧ ok l ∧ s.length ≤ 10000 ∧ o.length + s.length * 2300 ≤ 30000000
def Xn (R : Int × Cells × List UInt8) (v : Int) (l : Cells) (o : List UInt8) : Prop := R = (v, l, o)
theorem step_run {mk : Cells → AV} {ok : Cells → Prop} (Q : Rounds mk ok) {R : Int × Cells × List UInt8} {n : Nat} {s : List UInt8} {l : Cells} {o : List UInt8} (H : Pn ok R (n + 1) s l o) : Step s l o (Pn ok R n) (Xn R) := by
 obtain ⟨h1, h2, h3, h4, h5, h6, h7⟩ := H
 have hr : runF (n + 1) s l o = if hasPct s then (if (resAt s l).2.1 = 0 then (if (resAt s l).1.kind = 37 then runF n (restAt s) (resAt s l).2.2 (o ++ before s ++ padF (resAt s l).1 [] [37]) else runF n (restAt s) ((resAt s l).2.2.drop 1) (o ++ before s ++ padF (resAt s l).1 (bodyAt (resAt s l)).1 (bodyAt (resAt s l)).2)) else ((resAt s l).2.1, (resAt s l).2.2, o ++ before s)) else (0, l, o ++ s) := rfl
 rw [hr] at h1
 have bl := before_len s
 have k : hasPct s = true → (resAt s l).2.1 = 0 → (resAt s l).1.kind = (dirAt s).kind ∧ -1 ≤ (resAt s l).1.width ∧ (resAt s l).1.width ≤ 255 ∧ (∃ k, (resAt s l).2.2 = l.drop k) ∧ ((resAt s l).1.kind ≠ 37 → 1 ≤ (resAt s l).2.2.length) ∧ 0 ≤ (resAt s l).1.kind ∧ (resAt s l).1.kind ≤ 255 := by
  intro hp h0
  have hf := readF_le (h3 hp).1
  obtain ⟨e1, e2, e3, _, _, e4, e5⟩ := resolve_k (dirAt s) l h0 hf.1 hf.2.2.1
  refine ⟨e1, e2, e3, e4, fun hk => e5 (by rw [← e1]; exact hk), ?_, ?_⟩
  ·rw [show (resAt s l).1.kind = (dirAt s).kind from e1]; exact hf.2.2.2.2.1
  ·rw [show (resAt s l).1.kind = (dirAt s).kind from e1]; exact hf.2.2.2.2.2
 refine ⟨by omega, by omega, h4, fun hp => ?_, fun hp => (h3 hp).1, fun hp h0 => ?_, fun hp h0 => ?_, fun hp h0 hk => ?_, fun hp h0 hk => ?_⟩
 ·rw [hp] at h1
  exact h1.symm
 ·rw [hp, if_pos rfl, if_neg h0] at h1
  exact h1.symm
 ·obtain ⟨_, a, b, _, _, c, d⟩ := k hp h0
  exact ⟨by omega, by omega, c, d⟩
 ·rw [hp, if_pos rfl, if_pos h0, if_pos hk] at h1
  obtain ⟨_, a, b, ⟨j, hj⟩, _, c, d⟩ := k hp h0
  have rl := rest_len hp (h3 hp).1
  have pl := pad_le (resAt s l).1 [] [37] b
  refine ⟨h1, by omega, ((h3 hp).2 h0).1 hk, by rw [hj]; exact goods_drop h4 j, Q.res _ _ h5, by omega, ?_⟩
  rw [List.length_append, List.length_append]
  simp only [List.length_nil, List.length_cons] at pl
  omega
 ·rw [hp, if_pos rfl, if_pos h0, if_neg hk] at h1
  obtain ⟨_, a, b, ⟨j, hj⟩, e5, c, d⟩ := k hp h0
  obtain ⟨b1, b2, b3, b4⟩ := ((h3 hp).2 h0).2 hk
  have rl := rest_len hp (h3 hp).1
  have pl := pad_le (resAt s l).1 (bodyAt (resAt s l)).1 (bodyAt (resAt s l)).2 b
  refine ⟨e5 hk, by rw [hj]; exact goods_drop h4 j, b1, by omega, by omega, h1, by omega, b4, by rw [hj]; exact goods_drop (goods_drop h4 j) 1, Q.drop _ _ (Q.res _ _ h5), by omega, ?_⟩
  rw [List.length_append, List.length_append]
  omega
theorem okY2 (O : ∀ {T : Tab}, TabOk Tryz.prog Door.cfg T → TabOk Tryz.prog Door.cfg (T.addC 14 C24)) : TabOk Tryz.prog Door.cfg Y2 := O (copy_ok (copy_ok okZ2 ok32 (g := 25) (t := C32) rfl) ok23 (g := 13) (t := C23) rfl)
theorem run_loop {mk : Cells → AV} {ok : Cells → Prop} (Q : Rounds mk ok) (O : TabOk Tryz.prog Door.cfg Y2) (R : Int × Cells × List UInt8) : ∀ (n : Nat) (s : List UInt8) (l : Cells) (o : List UInt8), Pn ok R n s l o →
  ((o = [] → Ev Door.cfg Tryz.prog 10 (.loop (loopAt Tryz.prog 10 2)) (IB s (mk l)) fun e τ => e = .ret ∧ endSt mk R τ) ∧
   (o = [] → Ev Door.cfg Tryz.prog 10 (.loop (loopAt Tryz.prog 10 2)) (IA s (mk l)) fun e τ => e = .ret ∧ endSt mk R τ) ∧
   (o.isEmpty = false → Ev Door.cfg Tryz.prog 10 (.loop (loopAt Tryz.prog 10 2)) (IC s (mk l) (byteCells o) o.length) fun e τ => e = .ret ∧ endSt mk R τ)) := by
 intro n
 induction n with
 | zero => intro s l o H; exact absurd H.2.1 (Nat.not_lt_zero _)
 | succ n ih =>
  intro s l o H
  have S := step_run Q H
  have hN : ∀ τ, qN (NBp mk (Pn ok R n)) (NCp mk (Pn ok R n)) τ → Ev Door.cfg Tryz.prog 10 (.loop (loopAt Tryz.prog 10 2)) τ fun e τ => e = .ret ∧ endSt mk R τ := by
   intro τ hτ
   obtain ⟨s', l', o', hP, h⟩ := qN_cases hτ
   rcases h with ⟨rfl, rfl⟩ | ⟨ho, rfl⟩
   ·exact (ih s' l' [] hP).1 rfl
   ·exact (ih s' l' o' hP).2.2 ho
  have hX : ∀ e τ, qX (fun _ _ => False) (XBp mk (Xn R)) (XCp mk (Xn R)) e τ → e = .ret ∧ endSt mk R τ := by
   intro e τ hτ
   obtain ⟨rfl, v, l', o', hR, h⟩ := qX_cases hτ
   refine ⟨rfl, ?_⟩
   replace hR : R = (v, l', o') := hR
   subst hR
   exact h
  refine ⟨fun ho => ?_, fun ho => ?_, fun ho => ?_⟩
  ·subst ho
   exact Ev.round O (t := ⟨[0, 1], [4], 0⟩) first18 rfl (can18 s (hB (mk l))) (Q.B s l _ _ H.2.2.2.2.1 S) hN hX
  ·subst ho
   exact Ev.round O (t := ⟨[0, 1], [4], 0⟩) first18 rfl (can18 s (hA (mk l))) (Q.A s l _ _ H.2.2.2.2.1 S) hN hX
  ·exact Ev.round O (t := ⟨[0, 1], [4], 0⟩) first18 rfl (can18 s (hC (mk l) (byteCells o) o.length)) (Q.C s l o _ _ H.2.2.2.2.1 S ho) hN hX
theorem run_start {mk : Cells → AV} {ok : Cells → Prop} (Q : Rounds mk ok) (O : TabOk Tryz.prog Door.cfg Y2) (s : List UInt8) (l : Cells) (hs : s.length ≤ 10000) (hg : goodsB l = true) (hk : ok l) (hr : runOk (s.length + 1) s l) :
  Ev Door.cfg Tryz.prog 10 (.loop (loopAt Tryz.prog 10 2)) (IA s (mk l)) fun e τ => e = .ret ∧ endSt mk (runF (s.length + 1) s l []) τ :=
 (run_loop Q O _ (s.length + 1) s l [] ⟨rfl, Nat.lt_succ_self _, hr, hg, hk, hs, by simp; omega⟩).2.1 rfl
end
end Go.Proofs.Pr
namespace Go.Proofs.Pr
open Go Go.Ef
noncomputable section
structure RunOk (s : List UInt8) (l : Cells) : Prop where
 hs : s.length ≤ 10000
 hg : goodsB l = true
 ok : checkF (s.length + 1) s = 0 → runOk (s.length + 1) s l
def runS (s : List UInt8) (l : Cells) : Int × Cells × List UInt8 := runF (s.length + 1) s l []
def sprintfF (s : List UInt8) (l : Cells) : List UInt8 × Int :=
 if checkF (s.length + 1) s ≠ 0 then ([], checkF (s.length + 1) s) else if (runS s l).1 ≠ 0 then ([], (runS s l).1) else if (runS s l).2.2.length > 16384 then ([], 3) else ((runS s l).2.2, 0)
structure RunOk0 (s : List UInt8) (l : Cells) : Prop where
 hs : s.length ≤ 10000
 hg : goodsB l = true
 ok : runOk (s.length + 1) s l
def L18g (σ : St) : Option LSpec :=
 match σ.at 0, hArg σ.h with
 | .v (.sc (.string s)), .sl l 0 => some { pre := σ.tidy [0, 1] 0 = IA s.data.toList (.sl l 0) ∧ RunOk0 s.data.toList l, alts := [{ α := Int × Cells × List UInt8, post := fun x => x = runS s.data.toList l ∧ x.2.2 = [], ex := .ret, st := fun x => JB x.1 (.sl x.2.1 0) }, { α := Int × Cells × List UInt8, post := fun x => x = runS s.data.toList l ∧ x.2.2.isEmpty = false, ex := .ret, st := fun x => JC x.1 (.sl x.2.1 0) (byteCells x.2.2) x.2.2.length }] }
 | .v (.sc (.string s)), .sc (.slice none 0 0) => some { pre := σ.tidy [0, 1] 0 = IA s.data.toList nilA ∧ RunOk0 s.data.toList [], alts := [{ α := Int × Cells × List UInt8, post := fun x => x = runS s.data.toList [] ∧ x.2.2 = [], ex := .ret, st := fun x => JB x.1 nilA }, { α := Int × Cells × List UInt8, post := fun x => x = runS s.data.toList [] ∧ x.2.2.isEmpty = false, ex := .ret, st := fun x => JC x.1 nilA (byteCells x.2.2) x.2.2.length }] }
 | _, _ => none
def C12g (args : List AV) (h : Heap) : Option CSpec :=
 match args with
 | [.sc (.string s), .sl l _] => some (nspec (RunOk s.data.toList l) (sprintfF s.data.toList l) (fun x => .tup [aStr x.1, aK .i64 x.2]) h)
 | [.sc (.string s), .sc (.slice none 0 0)] => some (nspec (RunOk s.data.toList []) (sprintfF s.data.toList []) (fun x => .tup [aStr x.1, aK .i64 x.2]) h)
 | _ => none
def Y3 : Tab := ((Y2.addC 9 C8).addL 10 2 L18g).addC 17 C27
end
end Go.Proofs.Pr
namespace Go.Proofs.Pr
open Go Go.Ef
noncomputable section
set_option maxRecDepth 100000
theorem g12 (s : List UInt8) (l : Cells) (K : AV → Prop) (h :
 s.length.le 1000000 ∧ ∀ (x : Int), x = checkF (s.length + 1) s → iteP (x != 0) (K (AV.tup [AV.sc (Value.string (ByteArray.mk (Array.mk []))), AV.sc (Value.int IntKind.i64 x)])) (loopAt Tryz.prog 10 2 = loopAt Tryz.prog 10 2 ∧ (IA s (AV.sl l 0) = IA s (AV.sl l 0) ∧ RunOk0 s l) ∧ (∀ (x : Int × Cells × List UInt8), x = runS s l ∧ x.snd.snd = [] → iteP (x.fst == 0) (iteP (x.fst != 0) (K (AV.tup
 [AV.sc (Value.string (ByteArray.mk (Array.mk []))), AV.sc (Value.int IntKind.i64 x.fst)])) (sB (AV.sl x.snd.fst 0) = sB (AV.sl x.snd.fst 0) ∧ ∀ (x : List UInt8), x = [] → K (AV.tup [AV.sc (Value.string (ByteArray.mk (Array.mk x))), AV.sc (Value.int IntKind.i64 0)]))) (iteP (x.fst != 0) (K (AV.tup [AV.sc (Value.string (ByteArray.mk (Array.mk []))), AV.sc (Value.int IntKind.i64 x.fst)]))
 (sB (AV.sl x.snd.fst 0) = sB (AV.sl x.snd.fst 0) ∧ ∀ (x : List UInt8), x = [] → K (AV.tup [AV.sc (Value.string (ByteArray.mk (Array.mk x))), AV.sc (Value.int IntKind.i64 0)])))) ∧ ∀ (x : Int × Cells × List UInt8), x = runS s l ∧ x.snd.snd.isEmpty = false → iteP (x.fst == 0) (iteP (decide (16384 < (↑(List.length (byteCells x.snd.snd)) : Int))) (K (AV.tup
 [AV.sc (Value.string (ByteArray.mk (Array.mk []))), AV.sc (Value.int IntKind.i64 3)])) (iteP (x.fst != 0) (K (AV.tup [AV.sc (Value.string (ByteArray.mk (Array.mk []))), AV.sc (Value.int IntKind.i64 x.fst)])) ((sC (AV.sl x.snd.fst 0) (byteCells x.snd.snd) x.snd.snd.length = sC (AV.sl x.snd.fst 0) (byteCells x.snd.snd) x.snd.snd.length ∧ List.isEmpty (byteCells x.snd.snd) = false ∧
 x.snd.snd.length = List.length (byteCells x.snd.snd) ∧ List.length (byteCells x.snd.snd) ≤ 100000000 ∧ byteCells (List.map byteD (byteCells x.snd.snd)) = byteCells x.snd.snd) ∧ ∀ (x_1 : List UInt8), x_1 = List.map byteD (byteCells x.snd.snd) → K (AV.tup [AV.sc (Value.string (ByteArray.mk (Array.mk x_1))), AV.sc (Value.int IntKind.i64 0)])))) (iteP (x.fst != 0) (K (AV.tup
 [AV.sc (Value.string (ByteArray.mk (Array.mk []))), AV.sc (Value.int IntKind.i64 x.fst)])) ((sC (AV.sl x.snd.fst 0) (byteCells x.snd.snd) x.snd.snd.length = sC (AV.sl x.snd.fst 0) (byteCells x.snd.snd) x.snd.snd.length ∧ List.isEmpty (byteCells x.snd.snd) = false ∧ x.snd.snd.length = List.length (byteCells x.snd.snd) ∧ List.length (byteCells x.snd.snd) ≤ 100000000 ∧
 byteCells (List.map byteD (byteCells x.snd.snd)) = byteCells x.snd.snd) ∧ ∀ (x_1 : List UInt8), x_1 = List.map byteD (byteCells x.snd.snd) → K (AV.tup [AV.sc (Value.string (ByteArray.mk (Array.mk x_1))), AV.sc (Value.int IntKind.i64 0)]))))) :
 (fun (s : List UInt8) (l : Cells) (K : AV → Prop) => wpCall Y3 Door.cfg Tryz.prog 40 6 [aStr s, .sl l 0] heapF fun r h' => wpBack h' r K) s l K :=
 Eq.mp (by kernel_rfl) h
theorem g12n (s : List UInt8) (K : AV → Prop) (h :
 s.length.le 1000000 ∧ ∀ (x : Int), x = checkF (s.length + 1) s → iteP (x != 0) (K (AV.tup [AV.sc (Value.string (ByteArray.mk (Array.mk []))), AV.sc (Value.int IntKind.i64 x)])) (loopAt Tryz.prog 10 2 = loopAt Tryz.prog 10 2 ∧ (IA s (AV.sc (Value.slice none 0 0)) = IA s (AV.sc (Value.slice none 0 0)) ∧ RunOk0 s []) ∧ (∀ (x : Int × Cells × List UInt8), x = runS s [] ∧ x.snd.snd = [] →
 iteP (x.fst == 0) (iteP (x.fst != 0) (K (AV.tup [AV.sc (Value.string (ByteArray.mk (Array.mk []))), AV.sc (Value.int IntKind.i64 x.fst)])) (sB (AV.sc (Value.slice none 0 0)) = sB (AV.sc (Value.slice none 0 0)) ∧ ∀ (x : List UInt8), x = [] → K (AV.tup [AV.sc (Value.string (ByteArray.mk (Array.mk x))), AV.sc (Value.int IntKind.i64 0)]))) (iteP (x.fst != 0) (K (AV.tup
 [AV.sc (Value.string (ByteArray.mk (Array.mk []))), AV.sc (Value.int IntKind.i64 x.fst)])) (sB (AV.sc (Value.slice none 0 0)) = sB (AV.sc (Value.slice none 0 0)) ∧ ∀ (x : List UInt8), x = [] → K (AV.tup [AV.sc (Value.string (ByteArray.mk (Array.mk x))), AV.sc (Value.int IntKind.i64 0)])))) ∧ ∀ (x : Int × Cells × List UInt8), x = runS s [] ∧ x.snd.snd.isEmpty = false → iteP (x.fst == 0)
 (iteP (decide (16384 < (↑(List.length (byteCells x.snd.snd)) : Int))) (K (AV.tup [AV.sc (Value.string (ByteArray.mk (Array.mk []))), AV.sc (Value.int IntKind.i64 3)])) (iteP (x.fst != 0) (K (AV.tup [AV.sc (Value.string (ByteArray.mk (Array.mk []))), AV.sc (Value.int IntKind.i64 x.fst)])) ((sC (AV.sc (Value.slice none 0 0)) (byteCells x.snd.snd) x.snd.snd.length =
 sC (AV.sc (Value.slice none 0 0)) (byteCells x.snd.snd) x.snd.snd.length ∧ List.isEmpty (byteCells x.snd.snd) = false ∧ x.snd.snd.length = List.length (byteCells x.snd.snd) ∧ List.length (byteCells x.snd.snd) ≤ 100000000 ∧ byteCells (List.map byteD (byteCells x.snd.snd)) = byteCells x.snd.snd) ∧ ∀ (x_1 : List UInt8), x_1 = List.map byteD (byteCells x.snd.snd) → K (AV.tup
 [AV.sc (Value.string (ByteArray.mk (Array.mk x_1))), AV.sc (Value.int IntKind.i64 0)])))) (iteP (x.fst != 0) (K (AV.tup [AV.sc (Value.string (ByteArray.mk (Array.mk []))), AV.sc (Value.int IntKind.i64 x.fst)])) ((sC (AV.sc (Value.slice none 0 0)) (byteCells x.snd.snd) x.snd.snd.length = sC (AV.sc (Value.slice none 0 0)) (byteCells x.snd.snd) x.snd.snd.length ∧
 List.isEmpty (byteCells x.snd.snd) = false ∧ x.snd.snd.length = List.length (byteCells x.snd.snd) ∧ List.length (byteCells x.snd.snd) ≤ 100000000 ∧ byteCells (List.map byteD (byteCells x.snd.snd)) = byteCells x.snd.snd) ∧ ∀ (x_1 : List UInt8), x_1 = List.map byteD (byteCells x.snd.snd) → K (AV.tup [AV.sc (Value.string (ByteArray.mk (Array.mk x_1))), AV.sc (Value.int IntKind.i64 0)]))))) :
 (fun (s : List UInt8) (K : AV → Prop) => wpCall Y3 Door.cfg Tryz.prog 40 6 [aStr s, nilA] heapF fun r h' => wpBack h' r K) s K :=
 Eq.mp (by kernel_rfl) h
end
end Go.Proofs.Pr
namespace Go.Proofs.Pr
open Go Go.Ef
noncomputable section
set_option maxRecDepth 100000
theorem okL18g {T : Tab} (O : TabOk Tryz.prog Door.cfg T) (O2 : TabOk Tryz.prog Door.cfg Y2) : TabOk Tryz.prog Door.cfg (T.addL 10 2 L18g) := by
 refine addL_ok O fun σ s hs hp => ?_
 unfold L18g at hs
 split at hs
 ·rename_i u l _ _
  cases Option.some.inj hs
  obtain ⟨h1, h2⟩ := hp
  have := Ev.tidied (C := Door.cfg) (P := Tryz.prog) (b := loopAt Tryz.prog 10 2) (f := 10) (σ := σ) (t := ⟨[0, 1], [4], 0⟩) (τ := IA u.data.toList (.sl l 0)) (by kernel_rfl) (by rw [h1]; exact (can18 u.data.toList (hA (.sl l 0))).symm) (run_start roundsS O2 u.data.toList l h2.hs h2.hg trivial h2.ok)
  obtain ⟨m, ex, τ, g1, rfl, g2 | g2⟩ := this
  ·obtain ⟨g2, rfl⟩ := g2
   exact ⟨_, .head _, _, ⟨rfl, g2⟩, m, g1⟩
  ·obtain ⟨g2, rfl⟩ := g2
   exact ⟨_, .tail _ (.head _), _, ⟨rfl, g2⟩, m, g1⟩
 ·rename_i u _ _
  cases Option.some.inj hs
  obtain ⟨h1, h2⟩ := hp
  have := Ev.tidied (C := Door.cfg) (P := Tryz.prog) (b := loopAt Tryz.prog 10 2) (f := 10) (σ := σ) (t := ⟨[0, 1], [4], 0⟩) (τ := IA u.data.toList nilA) (by kernel_rfl) (by rw [h1]; exact (can18 u.data.toList (hA nilA)).symm) (run_start roundsN O2 u.data.toList [] h2.hs h2.hg rfl h2.ok)
  obtain ⟨m, ex, τ, g1, rfl, g2 | g2⟩ := this
  ·obtain ⟨g2, rfl⟩ := g2
   exact ⟨_, .head _, _, ⟨rfl, g2⟩, m, g1⟩
  ·obtain ⟨g2, rfl⟩ := g2
   exact ⟨_, .tail _ (.head _), _, ⟨rfl, g2⟩, m, g1⟩
 ·cases hs
theorem okY3 (O2 : TabOk Tryz.prog Door.cfg Y2) : TabOk Tryz.prog Door.cfg Y3 := ok27 (okL18g (copy_ok O2 ok8 (g := 9) (t := C8) rfl) O2)
theorem run_bound : ∀ (n : Nat) (s : List UInt8) (l : Cells) (o : List UInt8), s.length < n → runOk n s l → s.length ≤ 10000 → (runF n s l o).2.2.length ≤ o.length + s.length * 2300 := by
 intro n
 induction n with
 | zero => intro s l o h; omega
 | succ n ih =>
  intro s l o h1 h2 h3
  have bl := before_len s
  have hr : runF (n + 1) s l o = if hasPct s then (if (resAt s l).2.1 = 0 then (if (resAt s l).1.kind = 37 then runF n (restAt s) (resAt s l).2.2 (o ++ before s ++ padF (resAt s l).1 [] [37]) else runF n (restAt s) ((resAt s l).2.2.drop 1) (o ++ before s ++ padF (resAt s l).1 (bodyAt (resAt s l)).1 (bodyAt (resAt s l)).2)) else ((resAt s l).2.1, (resAt s l).2.2, o ++ before s)) else (0, l, o ++ s) := rfl
  rw [hr]
  cases hp : hasPct s with
  | false =>
   show (o ++ s).length ≤ _
   rw [List.length_append]; omega
  | true =>
   rw [if_pos rfl]
   have rl := rest_len hp (h2 hp).1
   have hf := readF_le (h2 hp).1
   by_cases h0 : (resAt s l).2.1 = 0
   ·rw [if_pos h0]
    obtain ⟨_, _, e3, _, _, _, _⟩ := resolve_k (dirAt s) l h0 hf.1 hf.2.2.1
    by_cases hk : (resAt s l).1.kind = 37
    ·rw [if_pos hk]
     have pl := pad_le (resAt s l).1 [] [37] e3
     refine Nat.le_trans (ih _ _ _ (by omega) (((h2 hp).2 h0).1 hk) (by omega)) ?_
     rw [List.length_append, List.length_append]
     simp only [List.length_nil, List.length_cons] at pl
     omega
    ·rw [if_neg hk]
     obtain ⟨b1, b2, b3, b4⟩ := ((h2 hp).2 h0).2 hk
     have pl := pad_le (resAt s l).1 (bodyAt (resAt s l)).1 (bodyAt (resAt s l)).2 e3
     refine Nat.le_trans (ih _ _ _ (by omega) b4 (by omega)) ?_
     rw [List.length_append, List.length_append]
     omega
   ·rw [if_neg h0]
    show (o ++ before s).length ≤ _
    rw [List.length_append]; omega
theorem cells_empty (x : List UInt8) : List.isEmpty (byteCells x) = x.isEmpty := by cases x <;> rfl
theorem plain_goods {l : Cells} (h : goodsB l = true) : plainEls l = true := by
 refine List.all_eq_true.2 fun e he => ?_
 obtain ⟨k, n, s, rfl, _⟩ := goodC_inv (List.all_eq_true.1 h e he)
 rfl
theorem strip_goods {l : Cells} (h : goodsB l = true) (tok : Nat) : stripA 8 (.sl l tok) = some (.sl l 0) := by
 cases tok with
 | zero => rfl
 | succ t =>
  unfold stripA
  rw [plain_goods h]; rfl
theorem ok12g {T : Tab} (O : TabOk Tryz.prog Door.cfg T) (O2 : TabOk Tryz.prog Door.cfg Y2) : TabOk Tryz.prog Door.cfg (T.addC 6 C12g) := by
 refine addC_ok O fun args h s hs hp => ?_
 have after : ∀ (u : List UInt8) (l : Cells), RunOk u l → checkF (u.length + 1) u = 0 → ∀ (A B : Int × Cells × List UInt8 → Prop) (K : AV → Prop), (∀ x, A x) → (∀ x, B x) → K (.tup [aStr (sprintfF u l).1, aK .i64 (sprintfF u l).2]) →
   (∀ x : Int × Cells × List UInt8, x = runS u l ∧ x.2.2 = [] → iteP (x.1 == 0) (iteP (x.1 != 0) (K (.tup [aStr [], aK .i64 x.1])) (A x ∧ ∀ y : List UInt8, y = [] → K (.tup [aStr y, aK .i64 0]))) (iteP (x.1 != 0) (K (.tup [aStr [], aK .i64 x.1])) (A x ∧ ∀ y : List UInt8, y = [] → K (.tup [aStr y, aK .i64 0])))) ∧
   (∀ x : Int × Cells × List UInt8, x = runS u l ∧ x.2.2.isEmpty = false →
    iteP (x.1 == 0) (iteP (decide ((16384 : Int) < (List.length (byteCells x.2.2) : Int))) (K (.tup [aStr [], aK .i64 3])) (iteP (x.1 != 0) (K (.tup [aStr [], aK .i64 x.1])) ((B x ∧ List.isEmpty (byteCells x.2.2) = false ∧ x.2.2.length = List.length (byteCells x.2.2) ∧ List.length (byteCells x.2.2) ≤ 100000000 ∧ byteCells (List.map byteD (byteCells x.2.2)) = byteCells x.2.2) ∧ ∀ y : List UInt8, y = List.map byteD (byteCells x.2.2) → K (.tup [aStr y, aK .i64 0]))))
     (iteP (x.1 != 0) (K (.tup [aStr [], aK .i64 x.1])) ((B x ∧ List.isEmpty (byteCells x.2.2) = false ∧ x.2.2.length = List.length (byteCells x.2.2) ∧ List.length (byteCells x.2.2) ≤ 100000000 ∧ byteCells (List.map byteD (byteCells x.2.2)) = byteCells x.2.2) ∧ ∀ y : List UInt8, y = List.map byteD (byteCells x.2.2) → K (.tup [aStr y, aK .i64 0])))) := by
  intro u l H hc A B K ha hb hk
  have sp : sprintfF u l = if (runS u l).1 ≠ 0 then ([], (runS u l).1) else if (runS u l).2.2.length > 16384 then ([], 3) else ((runS u l).2.2, 0) := by
   unfold sprintfF; rw [if_neg (by simpa using hc)]
  have rb := run_bound (u.length + 1) u l [] (Nat.lt_succ_self _) (H.ok hc) H.hs
  have hu := H.hs
  replace rb : (runS u l).2.2.length ≤ 0 + u.length * 2300 := rb
  refine ⟨fun x hx => ?_, fun x hx => ?_⟩
  ·obtain ⟨rfl, he⟩ := hx
   by_cases h0 : (runS u l).1 = 0
   ·rw [if_neg (by simpa using h0), if_neg (by rw [he]; decide), he] at sp
    rw [show ((runS u l).1 == 0) = true by simpa using h0, iteP_t, show ((runS u l).1 != 0) = false by rw [h0]; rfl, iteP_f]
    refine ⟨ha _, fun y hy => ?_⟩
    subst hy
    rw [sp] at hk; exact hk
   ·rw [if_pos h0] at sp
    rw [show ((runS u l).1 == 0) = false by simpa using h0, iteP_f, show ((runS u l).1 != 0) = true by simpa using h0, iteP_t]
    rw [sp] at hk; exact hk
  ·obtain ⟨rfl, he⟩ := hx
   by_cases h0 : (runS u l).1 = 0
   ·rw [if_neg (by simpa using h0)] at sp
    rw [show ((runS u l).1 == 0) = true by simpa using h0, iteP_t, cells_len]
    by_cases h1 : (16384 : Int) < ((runS u l).2.2.length : Int)
    ·rw [if_pos (by omega)] at sp
     rw [decide_eq_true h1, iteP_t]
     rw [sp] at hk; exact hk
    ·rw [if_neg (by omega)] at sp
     rw [decide_eq_false h1, iteP_f, show ((runS u l).1 != 0) = false by rw [h0]; rfl, iteP_f]
     refine ⟨⟨hb _, by rw [cells_empty]; exact he, rfl, by omega, by rw [byteD_cells]⟩, fun y hy => ?_⟩
     rw [byteD_cells] at hy
     subst hy
     rw [sp] at hk; exact hk
   ·rw [if_pos h0] at sp
    rw [show ((runS u l).1 == 0) = false by simpa using h0, iteP_f, show ((runS u l).1 != 0) = true by simpa using h0, iteP_t]
    rw [sp] at hk; exact hk
 unfold C12g at hs
 split at hs
 ·rename_i s0 l tok
  obtain ⟨⟨u⟩⟩ := s0
  refine nspec_ok (Option.some.inj hs) (fun hpre => ?_) hp
  replace hpre : RunOk u l := hpre
  refine EvP.freshV (okY3 O2) (n := 40) (by kernel_rfl) (by kernel_rfl) (args' := [aStr u, .sl l 0]) (by
   show consO (some (aStr u)) (consO (stripA 8 (.sl l tok)) (some [])) = _
   rw [strip_goods hpre.hg]; rfl) (g12 u l _ ?_)
  have hu := hpre.hs
  refine ⟨show u.length ≤ 1000000 by omega, fun x hx => ?_⟩
  subst hx
  by_cases hc : checkF (u.length + 1) u = 0
  ·rw [show (checkF (u.length + 1) u != 0) = false by rw [hc]; rfl, iteP_f]
   exact ⟨rfl, ⟨rfl, ⟨hpre.hs, hpre.hg, hpre.ok hc⟩⟩, after u l hpre hc (fun x => sB (.sl x.2.1 0) = sB (.sl x.2.1 0)) (fun x => sC (.sl x.2.1 0) (byteCells x.2.2) x.2.2.length = sC (.sl x.2.1 0) (byteCells x.2.2) x.2.2.length) (fun y => y = .tup [aStr (sprintfF u l).1, aK .i64 (sprintfF u l).2]) (fun _ => rfl) (fun _ => rfl) rfl⟩
  ·rw [show (checkF (u.length + 1) u != 0) = true by simpa using hc, iteP_t]
   show _ = AV.tup [aStr (sprintfF u l).1, aK .i64 (sprintfF u l).2]
   unfold sprintfF; rw [if_pos hc]; rfl
 ·rename_i s0
  obtain ⟨⟨u⟩⟩ := s0
  refine nspec_ok (Option.some.inj hs) (fun hpre => ?_) hp
  replace hpre : RunOk u [] := hpre
  refine EvP.freshV (okY3 O2) (n := 40) (by kernel_rfl) (by kernel_rfl) (args' := [aStr u, nilA]) rfl (g12n u _ ?_)
  have hu := hpre.hs
  refine ⟨show u.length ≤ 1000000 by omega, fun x hx => ?_⟩
  subst hx
  by_cases hc : checkF (u.length + 1) u = 0
  ·rw [show (checkF (u.length + 1) u != 0) = false by rw [hc]; rfl, iteP_f]
   exact ⟨rfl, ⟨rfl, ⟨hpre.hs, hpre.hg, hpre.ok hc⟩⟩, after u [] hpre hc (fun _ => sB nilA = sB nilA) (fun x => sC nilA (byteCells x.2.2) x.2.2.length = sC nilA (byteCells x.2.2) x.2.2.length) (fun y => y = .tup [aStr (sprintfF u []).1, aK .i64 (sprintfF u []).2]) (fun _ => rfl) (fun _ => rfl) rfl⟩
  ·rw [show (checkF (u.length + 1) u != 0) = true by simpa using hc, iteP_t]
   show _ = AV.tup [aStr (sprintfF u []).1, aK .i64 (sprintfF u []).2]
   unfold sprintfF; rw [if_pos hc]; rfl
 ·cases hs
end
end Go.Proofs.Pr
namespace Go.Proofs.Pr
open Go Go.Ef
noncomputable section
def lenTab : List UInt8 := [0, 1, 2, 2, 3, 3, 3, 3, 4, 4, 4, 4, 4, 4, 4, 4, 5, 5, 5, 5, 5, 5, 5, 5, 5, 5, 5, 5, 5, 5, 5, 5, 6, 6, 6, 6, 6, 6, 6, 6, 6, 6, 6, 6, 6, 6, 6, 6, 6, 6, 6, 6, 6, 6, 6, 6, 6, 6, 6, 6, 6, 6, 6, 6, 7, 7, 7, 7, 7, 7, 7, 7, 7, 7, 7, 7, 7, 7, 7, 7, 7, 7, 7, 7, 7, 7, 7, 7, 7, 7, 7, 7, 7, 7, 7, 7, 7, 7, 7, 7, 7, 7, 7, 7, 7, 7, 7, 7, 7, 7, 7, 7, 7, 7, 7, 7, 7, 7, 7, 7, 7, 7, 7, 7, 7, 7, 7, 7, 8, 8, 8, 8, 8, 8, 8, 8, 8, 8, 8, 8, 8, 8, 8, 8, 8, 8, 8, 8, 8, 8, 8, 8, 8, 8, 8, 8, 8, 8, 8, 8, 8, 8, 8, 8, 8, 8, 8, 8, 8, 8, 8, 8, 8, 8, 8, 8, 8, 8, 8, 8, 8, 8, 8, 8, 8, 8, 8, 8, 8, 8, 8, 8, 8, 8, 8, 8, 8, 8, 8, 8, 8, 8, 8, 8, 8, 8, 8, 8, 8, 8, 8, 8, 8, 8, 8, 8, 8, 8, 8, 8, 8, 8, 8, 8, 8, 8, 8, 8, 8, 8, 8, 8, 8, 8, 8, 8, 8, 8, 8, 8, 8, 8, 8, 8, 8, 8, 8, 8, 8, 8, 8, 8, 8, 8, 8, 8]
def twoTab : List UInt8 := [48, 48, 48, 49, 48, 50, 48, 51, 48, 52, 48, 53, 48, 54, 48, 55, 48, 56, 48, 57, 49, 48, 49, 49, 49, 50, 49, 51, 49, 52, 49, 53, 49, 54, 49, 55, 49, 56, 49, 57, 50, 48, 50, 49, 50, 50, 50, 51, 50, 52, 50, 53, 50, 54, 50, 55, 50, 56, 50, 57, 51, 48, 51, 49, 51, 50, 51, 51, 51, 52, 51, 53, 51, 54, 51, 55, 51, 56, 51, 57, 52, 48, 52, 49, 52, 50, 52, 51, 52, 52, 52, 53, 52, 54, 52, 55, 52, 56, 52, 57, 53, 48, 53, 49, 53, 50, 53, 51, 53, 52, 53, 53, 53, 54, 53, 55, 53, 56, 53, 57, 54, 48, 54, 49, 54, 50, 54, 51, 54, 52, 54, 53, 54, 54, 54, 55, 54, 56, 54, 57, 55, 48, 55, 49, 55, 50, 55, 51, 55, 52, 55, 53, 55, 54, 55, 55, 55, 56, 55, 57, 56, 48, 56, 49, 56, 50, 56, 51, 56, 52, 56, 53, 56, 54, 56, 55, 56, 56, 56, 57, 57, 48, 57, 49, 57, 50, 57, 51, 57, 52, 57, 53, 57, 54, 57, 55, 57, 56, 57, 57]
def digTab : List UInt8 := [48, 49, 50, 51, 52, 53, 54, 55, 56, 57, 97, 98, 99, 100, 101, 102, 103, 104, 105, 106, 107, 108, 109, 110, 111, 112, 113, 114, 115, 116, 117, 118, 119, 120, 121, 122]
structure LenP (u x : Int) : Prop where
 h : (x = 1 ∧ 1 ≤ u ∧ u < 2) ∨ (x = 2 ∧ 2 ≤ u ∧ u < 4) ∨ (x = 3 ∧ 4 ≤ u ∧ u < 8) ∨ (x = 4 ∧ 8 ≤ u ∧ u < 16) ∨ (x = 5 ∧ 16 ≤ u ∧ u < 32) ∨ (x = 6 ∧ 32 ≤ u ∧ u < 64) ∨ (x = 7 ∧ 64 ≤ u ∧ u < 128) ∨ (x = 8 ∧ 128 ≤ u ∧ u < 256) ∨ (x = 9 ∧ 256 ≤ u ∧ u < 512) ∨ (x = 10 ∧ 512 ≤ u ∧ u < 1024) ∨ (x = 11 ∧ 1024 ≤ u ∧ u < 2048) ∨ (x = 12 ∧ 2048 ≤ u ∧ u < 4096) ∨ (x = 13 ∧ 4096 ≤ u ∧ u < 8192) ∨ (x = 14 ∧ 8192 ≤ u ∧ u < 16384) ∨ (x = 15 ∧ 16384 ≤ u ∧ u < 32768) ∨ (x = 16 ∧ 32768 ≤ u ∧ u < 65536) ∨ (x = 17 ∧ 65536 ≤ u ∧ u < 131072) ∨ (x = 18 ∧ 131072 ≤ u ∧ u < 262144) ∨ (x = 19 ∧ 262144 ≤ u ∧ u < 524288) ∨ (x = 20 ∧ 524288 ≤ u ∧ u < 1048576) ∨ (x = 21 ∧ 1048576 ≤ u ∧ u < 2097152) ∨ (x = 22 ∧ 2097152 ≤ u ∧ u < 4194304) ∨ (x = 23 ∧ 4194304 ≤ u ∧ u < 8388608) ∨ (x = 24 ∧ 8388608 ≤ u ∧ u < 16777216) ∨ (x = 25 ∧ 16777216 ≤ u ∧ u < 33554432) ∨ (x = 26 ∧ 33554432 ≤ u ∧ u < 67108864) ∨ (x = 27 ∧ 67108864 ≤ u ∧ u < 134217728) ∨ (x = 28 ∧ 134217728 ≤ u ∧ u < 268435456) ∨ (x = 29 ∧ 268435456 ≤ u ∧ u < 536870912) ∨ (x = 30 ∧ 536870912 ≤ u ∧ u < 1073741824) ∨ (x = 31 ∧ 1073741824 ≤ u ∧ u < 2147483648) ∨ (x = 32 ∧ 2147483648 ≤ u ∧ u < 4294967296) ∨ (x = 33 ∧ 4294967296 ≤ u ∧ u < 8589934592) ∨ (x = 34 ∧ 8589934592 ≤ u ∧ u < 17179869184)
structure DigP (u x : Int) : Prop where
 h : (x = 1 ∧ 1 ≤ u ∧ u < 10) ∨ (x = 2 ∧ 10 ≤ u ∧ u < 100) ∨ (x = 3 ∧ 100 ≤ u ∧ u < 1000) ∨ (x = 4 ∧ 1000 ≤ u ∧ u < 10000) ∨ (x = 5 ∧ 10000 ≤ u ∧ u < 100000) ∨ (x = 6 ∧ 100000 ≤ u ∧ u < 1000000) ∨ (x = 7 ∧ 1000000 ≤ u ∧ u < 10000000) ∨ (x = 8 ∧ 10000000 ≤ u ∧ u < 100000000) ∨ (x = 9 ∧ 100000000 ≤ u ∧ u < 1000000000) ∨ (x = 10 ∧ 1000000000 ≤ u ∧ u < 10000000000) ∨ (x = 11 ∧ 10000000000 ≤ u ∧ u < 100000000000)
def C96 (args : List AV) (h : Heap) : Option CSpec :=
 match args with
 | [.sc (.int .u64 u)] => some { pre := 1 ≤ u ∧ u < 17179869184, alts := [{ α := Int, post := fun x => LenP u x, val := fun x => aK .i64 x, heap := fun _ => h }] }
 | _ => none
def C83k (k : Nat) (args : List AV) (h : Heap) : Option CSpec :=
 match args with
 | [.sc (.int .u64 u)] => some (fspec (10 ^ (k - 1) ≤ u ∧ u < 10 ^ k) (aK .i64 k) h)
 | _ => none
def D0 : Tab := tab0.addC 108 C96
def Dk (k : Nat) : Tab := (((((((((((((((((((((((((tab0.addC 95 (C83k k)).name 74 21).name 74 25).name 96 23).name 96 25).name 96 27).name 96 29).name 96 32).name 96 35).name 96 38).name 96 41).name 96 49).name 96 62).name 96 75).name 96 88).name 96 97).name 96 101).name 96 103).name 96 106).name 96 109).name 96 117).name 96 130).name 96 142).name 96 144).name 96 151).name 96 165
end
end Go.Proofs.Pr
namespace Go.Proofs.Pr
open Go Go.Ef
noncomputable section
set_option maxRecDepth 100000
theorem d67_3 (n : Int) (K : AV → Prop) (h : iteP (decide (0 ≤ n)) (iteP (decide (n < 100)) (iteP (decide (n < 10)) (iteP (decide (0 ≤ n)
 && (decide (n ≤ IntKind.i64.wrap (n + 1)) && decide (IntKind.i64.wrap (n + 1) ≤ 36))) (K (AV.sc (Value.string (ByteArray.mk (Array.mk (cutL digTab n (IntKind.i64.wrap (n + 1)))))))) False) (iteP (decide (0 ≤ IntKind.i64.wrap (n * 2)) && (decide (IntKind.i64.wrap (n * 2) ≤ IntKind.i64.wrap (IntKind.i64.wrap (n * 2) + 2)) && decide (IntKind.i64.wrap (IntKind.i64.wrap (n * 2) + 2) ≤ 200))) (K (AV.sc
 (Value.string (ByteArray.mk (Array.mk (cutL twoTab (IntKind.i64.wrap (n * 2)) (IntKind.i64.wrap (IntKind.i64.wrap (n * 2) + 2)))))))) False)) (∀ (m : Int), m = IntKind.u64.wrap n → iteP (decide (n < 0)) (∀ (m_1 : Int), m_1 = IntKind.u64.wrap (0 - m) → (100 ≤ m_1 ∧ m_1 < 1000) ∧ ∀ (_ :
 Unit), True → ∀ (m : Int), m = IntKind.u32.wrap m_1 → ∀ (m_2 : Int), m_2 = IntKind.u32.wrap (m.tmod 100 * 2) → ∀ (m_3 : Int), m_3 = IntKind.u32.wrap (m.tdiv 100) → ∀ (m : Int), m = m_2 → iteP (inRange (IntKind.u32.wrap (m + 1)) 200) (iteP (inRange m_2 200) (∀ (m_4 : Int), m_4 =
 IntKind.u8.wrap (IntKind.u32.wrap (48 + m_3)) → iteP (decide (n < 0)) (K (AV.sc (Value.string (ByteArray.mk (Array.mk [(45 : UInt8), UInt8.ofNat m_4.toNat, UInt8.ofNat (byteAt twoTab m_2).toNat, UInt8.ofNat (byteAt twoTab (IntKind.u32.wrap (m + 1))).toNat]))))) (K (AV.sc (Value.string (ByteArray.mk (Array.mk
 [UInt8.ofNat m_4.toNat, UInt8.ofNat (byteAt twoTab m_2).toNat, UInt8.ofNat (byteAt twoTab (IntKind.u32.wrap (m + 1))).toNat])))))) False) False) ((100 ≤ m ∧ m < 1000) ∧ ∀ (_ : Unit), True → ∀ (m_1 : Int), m_1 = IntKind.u32.wrap m → ∀ (m : Int), m = IntKind.u32.wrap (m_1.tmod 100 * 2) → ∀ (m_2 : Int),
 m_2 = IntKind.u32.wrap (m_1.tdiv 100) → ∀ (m_3 : Int), m_3 = m → iteP (inRange (IntKind.u32.wrap (m_3 + 1)) 200) (iteP (inRange m 200) (∀ (m_4 : Int), m_4 = IntKind.u8.wrap (IntKind.u32.wrap (48 + m_2)) → iteP (decide (n < 0)) (K (AV.sc (Value.string (ByteArray.mk (Array.mk [(45 : UInt8),
 UInt8.ofNat m_4.toNat, UInt8.ofNat (byteAt twoTab m).toNat, UInt8.ofNat (byteAt twoTab (IntKind.u32.wrap (m_3 + 1))).toNat]))))) (K (AV.sc (Value.string (ByteArray.mk (Array.mk [UInt8.ofNat m_4.toNat, UInt8.ofNat (byteAt twoTab m).toNat, UInt8.ofNat (byteAt twoTab (IntKind.u32.wrap (m_3 + 1))).toNat])))))) False)
 False))) (∀ (m : Int), m = IntKind.u64.wrap n → iteP (decide (n < 0)) (∀ (m_1 : Int), m_1 = IntKind.u64.wrap (0 - m) → (100 ≤ m_1 ∧ m_1 < (1000 : Int)) ∧ ∀ (_ : Unit), True → ∀ (m : Int), m = IntKind.u32.wrap m_1 → ∀ (m_2 : Int), m_2 = IntKind.u32.wrap (m.tmod 100 * 2) → ∀ (m_3 : Int), m_3 =
 IntKind.u32.wrap (m.tdiv 100) → ∀ (m : Int), m = m_2 → iteP (inRange (IntKind.u32.wrap (m + 1)) 200) (iteP (inRange m_2 200) (∀ (m_4 : Int), m_4 = IntKind.u8.wrap (IntKind.u32.wrap (48 + m_3)) → iteP (decide (n < 0)) (K (AV.sc (Value.string (ByteArray.mk (Array.mk [(45 : UInt8),
 UInt8.ofNat m_4.toNat, UInt8.ofNat (byteAt twoTab m_2).toNat, UInt8.ofNat (byteAt twoTab (IntKind.u32.wrap (m + 1))).toNat]))))) (K (AV.sc (Value.string (ByteArray.mk (Array.mk [UInt8.ofNat m_4.toNat, UInt8.ofNat (byteAt twoTab m_2).toNat, UInt8.ofNat (byteAt twoTab (IntKind.u32.wrap (m + 1))).toNat])))))) False)
 False) ((100 ≤ m ∧ m < 1000) ∧ ∀ (_ : Unit), True → ∀ (m_1 : Int), m_1 = IntKind.u32.wrap m → ∀ (m : Int), m = IntKind.u32.wrap (m_1.tmod 100 * (2 : Int)) → ∀ (m_2 : Int), m_2 = IntKind.u32.wrap (m_1.tdiv 100) → ∀ (m_3 : Int), m_3 = m → iteP (inRange (IntKind.u32.wrap (m_3 + 1)) 200) (iteP
 (inRange m 200) (∀ (m_4 : Int), m_4 = IntKind.u8.wrap (IntKind.u32.wrap (48 + m_2)) → iteP (decide (n < 0)) (K (AV.sc (Value.string (ByteArray.mk (Array.mk [(45 : UInt8), UInt8.ofNat m_4.toNat, UInt8.ofNat (byteAt twoTab m).toNat, UInt8.ofNat (byteAt twoTab (IntKind.u32.wrap (m_3 + 1))).toNat]))))) (K (AV.sc
 (Value.string (ByteArray.mk (Array.mk [UInt8.ofNat m_4.toNat, UInt8.ofNat (byteAt twoTab m).toNat, UInt8.ofNat (byteAt twoTab (IntKind.u32.wrap (m_3 + (1 : Int)))).toNat])))))) False) False))) : (fun (n : Int) (K : AV → Prop) => wpCall (Dk 3) Door.cfg Tryz.prog 60 74 [aK .i64 n, aK .i64 10] heapF fun r h' => wpBack h' r K) n K :=
 Eq.mp (by kernel_rfl) h
theorem d67_4 (n : Int) (K : AV → Prop) (h : iteP (decide (0 ≤ n)) (iteP (decide (n < 100)) (iteP (decide (n < 10)) (iteP (decide (0 ≤ n)
 && (decide (n ≤ IntKind.i64.wrap (n + 1)) && decide (IntKind.i64.wrap (n + 1) ≤ 36))) (K (AV.sc (Value.string (ByteArray.mk (Array.mk (cutL digTab n (IntKind.i64.wrap (n + 1)))))))) False) (iteP (decide (0 ≤ IntKind.i64.wrap (n * 2)) && (decide (IntKind.i64.wrap (n * 2) ≤ IntKind.i64.wrap (IntKind.i64.wrap (n * 2) + 2)) && decide (IntKind.i64.wrap (IntKind.i64.wrap (n * 2) + 2) ≤ 200))) (K (AV.sc
 (Value.string (ByteArray.mk (Array.mk (cutL twoTab (IntKind.i64.wrap (n * 2)) (IntKind.i64.wrap (IntKind.i64.wrap (n * 2) + 2)))))))) False)) (∀ (m : Int), m = IntKind.u64.wrap n → iteP (decide (n < 0)) (∀ (m_1 : Int), m_1 = IntKind.u64.wrap (0 - m) → (1000 ≤ m_1 ∧ m_1 < 10000) ∧ ∀ (_ :
 Unit), True → ∀ (m : Int), m = IntKind.u32.wrap m_1 → ∀ (m_2 : Int), m_2 = m.tmod 10000 → ∀ (m_3 : Int), m_3 = IntKind.u32.wrap (m.tdiv 10000) → ∀ (m : Int), m = IntKind.u32.wrap (IntKind.u32.wrap (m_2.tdiv 100) * 2) → ∀ (m_4 : Int), m_4 = IntKind.u32.wrap (m_2.tmod 100 * 2) → ∀ (m_5 :
 Int), m_5 = IntKind.u32.wrap (m_4 + 1) → iteP (inRange m_5 200) (iteP (inRange m_4 200) (∀ (m_6 : Int), m_6 = IntKind.u32.wrap (m + 1) → iteP (inRange m_6 200) (iteP (inRange m 200) (iteP (decide (n < 0)) (K (AV.sc (Value.string (ByteArray.mk (Array.mk [(45 : UInt8), UInt8.ofNat
 (byteAt twoTab m).toNat, UInt8.ofNat (byteAt twoTab m_6).toNat, UInt8.ofNat (byteAt twoTab m_4).toNat, UInt8.ofNat (byteAt twoTab m_5).toNat]))))) (K (AV.sc (Value.string (ByteArray.mk (Array.mk [UInt8.ofNat (byteAt twoTab m).toNat, UInt8.ofNat (byteAt twoTab m_6).toNat, UInt8.ofNat (byteAt twoTab m_4).toNat, UInt8.ofNat (byteAt twoTab
 m_5).toNat])))))) False) False) False) False) ((1000 ≤ m ∧ m < 10000) ∧ ∀ (_ : Unit), True → ∀ (m_1 : Int), m_1 = IntKind.u32.wrap m → ∀ (m : Int), m = m_1.tmod 10000 → ∀ (m_2 : Int), m_2 = IntKind.u32.wrap (m_1.tdiv 10000) → ∀ (m_3 : Int), m_3 = IntKind.u32.wrap (IntKind.u32.wrap (m.tdiv 100) * (2
 : Int)) → ∀ (m_4 : Int), m_4 = IntKind.u32.wrap (m.tmod 100 * 2) → ∀ (m : Int), m = IntKind.u32.wrap (m_4 + 1) → iteP (inRange m 200) (iteP (inRange m_4 200) (∀ (m_5 : Int), m_5 = IntKind.u32.wrap (m_3 + 1) → iteP (inRange m_5 200) (iteP (inRange m_3 200) (iteP (decide (n < (0 :
 Int))) (K (AV.sc (Value.string (ByteArray.mk (Array.mk [(45 : UInt8), UInt8.ofNat (byteAt twoTab m_3).toNat, UInt8.ofNat (byteAt twoTab m_5).toNat, UInt8.ofNat (byteAt twoTab m_4).toNat, UInt8.ofNat (byteAt twoTab m).toNat]))))) (K (AV.sc (Value.string (ByteArray.mk (Array.mk [UInt8.ofNat (byteAt twoTab m_3).toNat, UInt8.ofNat (byteAt
 twoTab m_5).toNat, UInt8.ofNat (byteAt twoTab m_4).toNat, UInt8.ofNat (byteAt twoTab m).toNat])))))) False) False) False) False))) (∀ (m : Int), m = IntKind.u64.wrap n → iteP (decide (n < 0)) (∀ (m_1 : Int), m_1 = IntKind.u64.wrap (0 - m) → (1000 ≤ m_1 ∧ m_1 < 10000) ∧ ∀ (_ : Unit), True → ∀ (m : Int), m =
 IntKind.u32.wrap m_1 → ∀ (m_2 : Int), m_2 = m.tmod 10000 → ∀ (m_3 : Int), m_3 = IntKind.u32.wrap (m.tdiv 10000) → ∀ (m : Int), m = IntKind.u32.wrap (IntKind.u32.wrap (m_2.tdiv 100) * 2) → ∀ (m_4 : Int), m_4 = IntKind.u32.wrap (m_2.tmod 100 * 2) → ∀ (m_5 : Int), m_5 = IntKind.u32.wrap
 (m_4 + 1) → iteP (inRange m_5 200) (iteP (inRange m_4 200) (∀ (m_6 : Int), m_6 = IntKind.u32.wrap (m + 1) → iteP (inRange m_6 200) (iteP (inRange m 200) (iteP (decide (n < 0)) (K (AV.sc (Value.string (ByteArray.mk (Array.mk [(45 : UInt8), UInt8.ofNat (byteAt twoTab m).toNat,
 UInt8.ofNat (byteAt twoTab m_6).toNat, UInt8.ofNat (byteAt twoTab m_4).toNat, UInt8.ofNat (byteAt twoTab m_5).toNat]))))) (K (AV.sc (Value.string (ByteArray.mk (Array.mk [UInt8.ofNat (byteAt twoTab m).toNat, UInt8.ofNat (byteAt twoTab m_6).toNat, UInt8.ofNat (byteAt twoTab m_4).toNat, UInt8.ofNat (byteAt twoTab m_5).toNat])))))) False)
 False) False) False) ((1000 ≤ m ∧ m < 10000) ∧ ∀ (_ : Unit), True → ∀ (m_1 : Int), m_1 = IntKind.u32.wrap m → ∀ (m : Int), m = m_1.tmod 10000 → ∀ (m_2 : Int), m_2 = IntKind.u32.wrap (m_1.tdiv 10000) → ∀ (m_3 : Int), m_3 = IntKind.u32.wrap (IntKind.u32.wrap (m.tdiv 100) * 2) → ∀ (m_4 : Int),
 m_4 = IntKind.u32.wrap (m.tmod 100 * 2) → ∀ (m : Int), m = IntKind.u32.wrap (m_4 + 1) → iteP (inRange m 200) (iteP (inRange m_4 (200 : Nat)) (∀ (m_5 : Int), m_5 = IntKind.u32.wrap (m_3 + 1) → iteP (inRange m_5 200) (iteP (inRange m_3 200) (iteP (decide (n < 0)) (K (AV.sc
 (Value.string (ByteArray.mk (Array.mk [(45 : UInt8), UInt8.ofNat (byteAt twoTab m_3).toNat, UInt8.ofNat (byteAt twoTab m_5).toNat, UInt8.ofNat (byteAt twoTab m_4).toNat, UInt8.ofNat (byteAt twoTab m).toNat]))))) (K (AV.sc (Value.string (ByteArray.mk (Array.mk [UInt8.ofNat (byteAt twoTab m_3).toNat, UInt8.ofNat (byteAt twoTab m_5).toNat,
 UInt8.ofNat (byteAt twoTab m_4).toNat, UInt8.ofNat (byteAt twoTab m).toNat])))))) False) False) False) False))) : (fun (n : Int) (K : AV → Prop) => wpCall (Dk 4) Door.cfg Tryz.prog 60 74 [aK .i64 n, aK .i64 10] heapF fun r h' => wpBack h' r K) n K :=
 Eq.mp (by kernel_rfl) h
theorem d67_5 (n : Int) (K : AV → Prop) (h : iteP (decide (0 ≤ n)) (iteP (decide (n < 100)) (iteP (decide (n < 10)) (iteP (decide (0 ≤ n)
 && (decide (n ≤ IntKind.i64.wrap (n + 1)) && decide (IntKind.i64.wrap (n + 1) ≤ 36))) (K (AV.sc (Value.string (ByteArray.mk (Array.mk (cutL digTab n (IntKind.i64.wrap (n + 1)))))))) False) (iteP (decide (0 ≤ IntKind.i64.wrap (n * 2)) && (decide (IntKind.i64.wrap (n * 2) ≤ IntKind.i64.wrap (IntKind.i64.wrap (n * 2) + 2)) && decide (IntKind.i64.wrap (IntKind.i64.wrap (n * 2) + 2) ≤ 200))) (K (AV.sc
 (Value.string (ByteArray.mk (Array.mk (cutL twoTab (IntKind.i64.wrap (n * 2)) (IntKind.i64.wrap (IntKind.i64.wrap (n * 2) + 2)))))))) False)) (∀ (m : Int), m = IntKind.u64.wrap n → iteP (decide (n < 0)) (∀ (m_1 : Int), m_1 = IntKind.u64.wrap (0 - m) → (10000 ≤ m_1 ∧ m_1 < 100000) ∧ ∀ (_
 : Unit), True → ∀ (m : Int), m = IntKind.u32.wrap m_1 → ∀ (m_2 : Int), m_2 = m.tmod 10000 → ∀ (m_3 : Int), m_3 = IntKind.u32.wrap (m.tdiv 10000) → ∀ (m : Int), m = IntKind.u32.wrap (IntKind.u32.wrap (m_2.tdiv 100) * 2) → ∀ (m_4 : Int), m_4 = IntKind.u32.wrap (m_2.tmod 100 * 2) → ∀ (m_5 :
 Int), m_5 = IntKind.u32.wrap (m_4 + 1) → iteP (inRange m_5 200) (iteP (inRange m_4 200) (∀ (m_6 : Int), m_6 = IntKind.u32.wrap (m + 1) → iteP (inRange m_6 200) (iteP (inRange m 200) (∀ (m_7 : Int), m_7 = IntKind.u8.wrap (IntKind.u32.wrap (48 + m_3)) → iteP (decide (n < 0)) (K
 (AV.sc (Value.string (ByteArray.mk (Array.mk [(45 : UInt8), UInt8.ofNat m_7.toNat, UInt8.ofNat (byteAt twoTab m).toNat, UInt8.ofNat (byteAt twoTab m_6).toNat, UInt8.ofNat (byteAt twoTab m_4).toNat, UInt8.ofNat (byteAt twoTab m_5).toNat]))))) (K (AV.sc (Value.string (ByteArray.mk (Array.mk [UInt8.ofNat m_7.toNat, UInt8.ofNat (byteAt twoTab
 m).toNat, UInt8.ofNat (byteAt twoTab m_6).toNat, UInt8.ofNat (byteAt twoTab m_4).toNat, UInt8.ofNat (byteAt twoTab m_5).toNat])))))) False) False) False) False) (((10000 : Int) ≤ m ∧ m < 100000) ∧ ∀ (_ : Unit), True → ∀ (m_1 : Int), m_1 = IntKind.u32.wrap m → ∀ (m : Int), m = m_1.tmod 10000 → ∀ (m_2 : Int), m_2 =
 IntKind.u32.wrap (m_1.tdiv 10000) → ∀ (m_3 : Int), m_3 = IntKind.u32.wrap (IntKind.u32.wrap (m.tdiv 100) * 2) → ∀ (m_4 : Int), m_4 = IntKind.u32.wrap (m.tmod 100 * 2) → ∀ (m : Int), m = IntKind.u32.wrap (m_4 + 1) → iteP (inRange m 200) (iteP (inRange m_4 200) (∀ (m_5 : Int), m_5 = IntKind.u32.wrap (m_3 + 1) → iteP (inRange m_5 200) (iteP (inRange m_3 200) (∀ (m_6 : Int), m_6 = IntKind.u8.wrap
 (IntKind.u32.wrap (48 + m_2)) → iteP (decide (n < 0)) (K (AV.sc (Value.string (ByteArray.mk (Array.mk [(45 : UInt8), UInt8.ofNat m_6.toNat, UInt8.ofNat (byteAt twoTab m_3).toNat, UInt8.ofNat (byteAt twoTab m_5).toNat, UInt8.ofNat (byteAt twoTab m_4).toNat, UInt8.ofNat (byteAt twoTab m).toNat]))))) (K (AV.sc (Value.string
 (ByteArray.mk (Array.mk [UInt8.ofNat m_6.toNat, UInt8.ofNat (byteAt twoTab m_3).toNat, UInt8.ofNat (byteAt twoTab m_5).toNat, UInt8.ofNat (byteAt twoTab m_4).toNat, UInt8.ofNat (byteAt twoTab m).toNat])))))) False) False) False) False))) (∀ (m : Int), m = IntKind.u64.wrap n → iteP (decide (n < 0)) (∀ (m_1 : Int), m_1 =
 IntKind.u64.wrap (0 - m) → (10000 ≤ m_1 ∧ m_1 < 100000) ∧ ∀ (_ : Unit), True → ∀ (m : Int), m = IntKind.u32.wrap m_1 → ∀ (m_2 : Int), m_2 = m.tmod 10000 → ∀ (m_3 : Int), m_3 = IntKind.u32.wrap (m.tdiv 10000) → ∀ (m : Int), m = IntKind.u32.wrap (IntKind.u32.wrap (m_2.tdiv 100) * 2) → ∀
 (m_4 : Int), m_4 = IntKind.u32.wrap (m_2.tmod 100 * 2) → ∀ (m_5 : Int), m_5 = IntKind.u32.wrap (m_4 + 1) → iteP (inRange m_5 200) (iteP (inRange m_4 200) (∀ (m_6 : Int), m_6 = IntKind.u32.wrap (m + 1) → iteP (inRange m_6 200) (iteP (inRange m 200) (∀ (m_7 : Int), m_7 =
 IntKind.u8.wrap (IntKind.u32.wrap (48 + m_3)) → iteP (decide (n < 0)) (K (AV.sc (Value.string (ByteArray.mk (Array.mk [(45 : UInt8), UInt8.ofNat m_7.toNat, UInt8.ofNat (byteAt twoTab m).toNat, UInt8.ofNat (byteAt twoTab m_6).toNat, UInt8.ofNat (byteAt twoTab m_4).toNat, UInt8.ofNat (byteAt twoTab m_5).toNat]))))) (K (AV.sc
 (Value.string (ByteArray.mk (Array.mk [UInt8.ofNat m_7.toNat, UInt8.ofNat (byteAt twoTab m).toNat, UInt8.ofNat (byteAt twoTab m_6).toNat, UInt8.ofNat (byteAt twoTab m_4).toNat, UInt8.ofNat (byteAt twoTab m_5).toNat])))))) False) False) False) False) ((10000 ≤ m ∧ m < 100000) ∧ ∀ (_ : Unit), True → ∀ (m_1 : Int), m_1 =
 IntKind.u32.wrap m → ∀ (m : Int), m = m_1.tmod 10000 → ∀ (m_2 : Int), m_2 = IntKind.u32.wrap (m_1.tdiv 10000) → ∀ (m_3 : Int), m_3 = IntKind.u32.wrap (IntKind.u32.wrap (m.tdiv 100) * 2) → ∀ (m_4 : Int), m_4 = IntKind.u32.wrap (m.tmod 100 * 2) → ∀ (m : Int), m = IntKind.u32.wrap (m_4 + (1
 : Int)) → iteP (inRange m 200) (iteP (inRange m_4 200) (∀ (m_5 : Int), m_5 = IntKind.u32.wrap (m_3 + 1) → iteP (inRange m_5 200) (iteP (inRange m_3 200) (∀ (m_6 : Int), m_6 = IntKind.u8.wrap (IntKind.u32.wrap (48 + m_2)) → iteP (decide (n < 0)) (K (AV.sc (Value.string (ByteArray.mk
 (Array.mk [(45 : UInt8), UInt8.ofNat m_6.toNat, UInt8.ofNat (byteAt twoTab m_3).toNat, UInt8.ofNat (byteAt twoTab m_5).toNat, UInt8.ofNat (byteAt twoTab m_4).toNat, UInt8.ofNat (byteAt twoTab m).toNat]))))) (K (AV.sc (Value.string (ByteArray.mk (Array.mk [UInt8.ofNat m_6.toNat, UInt8.ofNat (byteAt twoTab m_3).toNat, UInt8.ofNat
 (byteAt twoTab m_5).toNat, UInt8.ofNat (byteAt twoTab m_4).toNat, UInt8.ofNat (byteAt twoTab m).toNat])))))) False) False) False) False))) : (fun (n : Int) (K : AV → Prop) => wpCall (Dk 5) Door.cfg Tryz.prog 60 74 [aK .i64 n, aK .i64 10] heapF fun r h' => wpBack h' r K) n K :=
 Eq.mp (by kernel_rfl) h
theorem d67_6 (n : Int) (K : AV → Prop) (h : iteP (decide (0 ≤ n)) (iteP (decide (n < 100)) (iteP (decide (n < 10)) (iteP (decide (0 ≤ n)
 && (decide (n ≤ IntKind.i64.wrap (n + 1)) && decide (IntKind.i64.wrap (n + 1) ≤ 36))) (K (AV.sc (Value.string (ByteArray.mk (Array.mk (cutL digTab n (IntKind.i64.wrap (n + 1)))))))) False) (iteP (decide (0 ≤ IntKind.i64.wrap (n * 2)) && (decide (IntKind.i64.wrap (n * 2) ≤ IntKind.i64.wrap (IntKind.i64.wrap (n * 2) + 2)) && decide (IntKind.i64.wrap (IntKind.i64.wrap (n * 2) + 2) ≤ 200))) (K (AV.sc
 (Value.string (ByteArray.mk (Array.mk (cutL twoTab (IntKind.i64.wrap (n * 2)) (IntKind.i64.wrap (IntKind.i64.wrap (n * 2) + 2)))))))) False)) (∀ (m : Int), m = IntKind.u64.wrap n → iteP (decide (n < 0)) (∀ (m_1 : Int), m_1 = IntKind.u64.wrap (0 - m) → (100000 ≤ m_1 ∧ m_1 < 1000000) ∧ ∀
 (_ : Unit), True → ∀ (m : Int), m = IntKind.u32.wrap m_1 → ∀ (m_2 : Int), m_2 = m.tmod 10000 → ∀ (m_3 : Int), m_3 = IntKind.u32.wrap (m.tdiv 10000) → ∀ (m : Int), m = IntKind.u32.wrap (IntKind.u32.wrap (m_2.tdiv 100) * 2) → ∀ (m_4 : Int), m_4 = IntKind.u32.wrap (m_2.tmod 100 * 2) → ∀ (m_5 :
 Int), m_5 = IntKind.u32.wrap (m_4 + 1) → iteP (inRange m_5 200) (iteP (inRange m_4 200) (∀ (m_6 : Int), m_6 = IntKind.u32.wrap (m + 1) → iteP (inRange m_6 200) (iteP (inRange m 200) (∀ (m_7 : Int), m_7 = IntKind.u32.wrap (m_3.tmod 100 * 2) → ∀ (m_8 : Int), m_8 = IntKind.u32.wrap (m_3.tdiv 100) → ∀ (m_9 : Int), m_9 = m_7 → iteP (inRange (IntKind.u32.wrap (m_9 + 1)) 200) (iteP (inRange m_7 200) (iteP
 (decide (n < 0)) (K (AV.sc (Value.string (ByteArray.mk (Array.mk [(45 : UInt8), UInt8.ofNat (byteAt twoTab m_7).toNat, UInt8.ofNat (byteAt twoTab (IntKind.u32.wrap (m_9 + 1))).toNat, UInt8.ofNat (byteAt twoTab m).toNat, UInt8.ofNat (byteAt twoTab m_6).toNat, UInt8.ofNat (byteAt twoTab m_4).toNat, UInt8.ofNat (byteAt twoTab
 m_5).toNat]))))) (K (AV.sc (Value.string (ByteArray.mk (Array.mk [UInt8.ofNat (byteAt twoTab m_7).toNat, UInt8.ofNat (byteAt twoTab (IntKind.u32.wrap (m_9 + (1 : Int)))).toNat, UInt8.ofNat (byteAt twoTab m).toNat, UInt8.ofNat (byteAt twoTab m_6).toNat, UInt8.ofNat (byteAt twoTab m_4).toNat, UInt8.ofNat (byteAt twoTab
 m_5).toNat])))))) False) False) False) False) False) False) ((100000 ≤ m ∧ m < 1000000) ∧ ∀ (_ : Unit), True → ∀ (m_1 : Int), m_1 = IntKind.u32.wrap m → ∀ (m : Int), m = m_1.tmod 10000 → ∀ (m_2 : Int), m_2 = IntKind.u32.wrap (m_1.tdiv 10000) → ∀ (m_3 : Int), m_3 = IntKind.u32.wrap (IntKind.u32.wrap (m.tdiv
 100) * 2) → ∀ (m_4 : Int), m_4 = IntKind.u32.wrap (m.tmod 100 * 2) → ∀ (m : Int), m = IntKind.u32.wrap (m_4 + 1) → iteP (inRange m 200) (iteP (inRange m_4 200) (∀ (m_5 : Int), m_5 = IntKind.u32.wrap (m_3 + 1) → iteP (inRange m_5 200) (iteP (inRange m_3 200) (∀
 (m_6 : Int), m_6 = IntKind.u32.wrap (m_2.tmod 100 * 2) → ∀ (m_7 : Int), m_7 = IntKind.u32.wrap (m_2.tdiv 100) → ∀ (m_8 : Int), m_8 = m_6 → iteP (inRange (IntKind.u32.wrap (m_8 + 1)) 200) (iteP (inRange m_6 200) (iteP (decide (n < 0)) (K (AV.sc (Value.string (ByteArray.mk (Array.mk
 [(45 : UInt8), UInt8.ofNat (byteAt twoTab m_6).toNat, UInt8.ofNat (byteAt twoTab (IntKind.u32.wrap (m_8 + 1))).toNat, UInt8.ofNat (byteAt twoTab m_3).toNat, UInt8.ofNat (byteAt twoTab m_5).toNat, UInt8.ofNat (byteAt twoTab m_4).toNat, UInt8.ofNat (byteAt twoTab m).toNat]))))) (K (AV.sc (Value.string (ByteArray.mk (Array.mk
 [UInt8.ofNat (byteAt twoTab m_6).toNat, UInt8.ofNat (byteAt twoTab (IntKind.u32.wrap (m_8 + 1))).toNat, UInt8.ofNat (byteAt twoTab m_3).toNat, UInt8.ofNat (byteAt twoTab m_5).toNat, UInt8.ofNat (byteAt twoTab m_4).toNat, UInt8.ofNat (byteAt twoTab m).toNat])))))) False) False) False) False) False) False))) (∀ (m : Int), m =
 IntKind.u64.wrap n → iteP (decide (n < 0)) (∀ (m_1 : Int), m_1 = IntKind.u64.wrap (0 - m) → (100000 ≤ m_1 ∧ m_1 < 1000000) ∧ ∀ (_ : Unit), True → ∀ (m : Int), m = IntKind.u32.wrap m_1 → ∀ (m_2 : Int), m_2 = m.tmod 10000 → ∀ (m_3 : Int), m_3 = IntKind.u32.wrap (m.tdiv 10000) → ∀ (m : Int), m =
 IntKind.u32.wrap (IntKind.u32.wrap (m_2.tdiv 100) * 2) → ∀ (m_4 : Int), m_4 = IntKind.u32.wrap (m_2.tmod 100 * 2) → ∀ (m_5 : Int), m_5 = IntKind.u32.wrap (m_4 + 1) → iteP (inRange m_5 200) (iteP (inRange m_4 200) (∀ (m_6 : Int), m_6 = IntKind.u32.wrap (m + 1) → iteP (inRange
 m_6 200) (iteP (inRange m 200) (∀ (m_7 : Int), m_7 = IntKind.u32.wrap (m_3.tmod 100 * 2) → ∀ (m_8 : Int), m_8 = IntKind.u32.wrap (m_3.tdiv 100) → ∀ (m_9 : Int), m_9 = m_7 → iteP (inRange (IntKind.u32.wrap (m_9 + 1)) 200) (iteP (inRange m_7 200) (iteP (decide (n < 0)) (K
 (AV.sc (Value.string (ByteArray.mk (Array.mk [(45 : UInt8), UInt8.ofNat (byteAt twoTab m_7).toNat, UInt8.ofNat (byteAt twoTab (IntKind.u32.wrap (m_9 + 1))).toNat, UInt8.ofNat (byteAt twoTab m).toNat, UInt8.ofNat (byteAt twoTab m_6).toNat, UInt8.ofNat (byteAt twoTab m_4).toNat, UInt8.ofNat (byteAt twoTab m_5).toNat]))))) (K (AV.sc
 (Value.string (ByteArray.mk (Array.mk [UInt8.ofNat (byteAt twoTab m_7).toNat, UInt8.ofNat (byteAt twoTab (IntKind.u32.wrap (m_9 + 1))).toNat, UInt8.ofNat (byteAt twoTab m).toNat, UInt8.ofNat (byteAt twoTab m_6).toNat, UInt8.ofNat (byteAt twoTab m_4).toNat, UInt8.ofNat (byteAt twoTab m_5).toNat])))))) False) False) False) False)
 False) False) ((100000 ≤ m ∧ m < 1000000) ∧ ∀ (_ : Unit), True → ∀ (m_1 : Int), m_1 = IntKind.u32.wrap m → ∀ (m : Int), m = m_1.tmod 10000 → ∀ (m_2 : Int), m_2 = IntKind.u32.wrap (m_1.tdiv 10000) → ∀ (m_3 : Int), m_3 = IntKind.u32.wrap (IntKind.u32.wrap (m.tdiv 100) * 2) → ∀ (m_4 : Int), m_4 =
 IntKind.u32.wrap (m.tmod 100 * 2) → ∀ (m : Int), m = IntKind.u32.wrap (m_4 + 1) → iteP (inRange m 200) (iteP (inRange m_4 200) (∀ (m_5 : Int), m_5 = IntKind.u32.wrap (m_3 + 1) → iteP (inRange m_5 200) (iteP (inRange m_3 200) (∀ (m_6 : Int), m_6 = IntKind.u32.wrap (m_2.tmod
 100 * 2) → ∀ (m_7 : Int), m_7 = IntKind.u32.wrap (m_2.tdiv 100) → ∀ (m_8 : Int), m_8 = m_6 → iteP (inRange (IntKind.u32.wrap (m_8 + 1)) 200) (iteP (inRange m_6 200) (iteP (decide (n < 0)) (K (AV.sc (Value.string (ByteArray.mk (Array.mk [(45 : UInt8), UInt8.ofNat (byteAt twoTab
 m_6).toNat, UInt8.ofNat (byteAt twoTab (IntKind.u32.wrap (m_8 + 1))).toNat, UInt8.ofNat (byteAt twoTab m_3).toNat, UInt8.ofNat (byteAt twoTab m_5).toNat, UInt8.ofNat (byteAt twoTab m_4).toNat, UInt8.ofNat (byteAt twoTab m).toNat]))))) (K (AV.sc (Value.string (ByteArray.mk (Array.mk [UInt8.ofNat (byteAt twoTab m_6).toNat,
 UInt8.ofNat (byteAt twoTab (IntKind.u32.wrap (m_8 + 1))).toNat, UInt8.ofNat (byteAt twoTab m_3).toNat, UInt8.ofNat (byteAt twoTab m_5).toNat, UInt8.ofNat (byteAt twoTab m_4).toNat, UInt8.ofNat (byteAt twoTab m).toNat])))))) False) False) False) False) False) False))) : (fun (n : Int) (K : AV → Prop) => wpCall (Dk 6) Door.cfg
 Tryz.prog 60 74 [aK .i64 n, aK .i64 10] heapF fun r h' => wpBack h' r K) n K :=
 Eq.mp (by kernel_rfl) h
theorem d67_7 (n : Int) (K : AV → Prop) (h : iteP (decide (0 ≤ n)) (iteP (decide (n < 100)) (iteP (decide (n < 10)) (iteP (decide (0 ≤ n)
 && (decide (n ≤ IntKind.i64.wrap (n + 1)) && decide (IntKind.i64.wrap (n + 1) ≤ 36))) (K (AV.sc (Value.string (ByteArray.mk (Array.mk (cutL digTab n (IntKind.i64.wrap (n + 1)))))))) False) (iteP (decide (0 ≤ IntKind.i64.wrap (n * 2)) && (decide (IntKind.i64.wrap (n * 2) ≤ IntKind.i64.wrap (IntKind.i64.wrap (n * 2) + 2)) && decide (IntKind.i64.wrap (IntKind.i64.wrap (n * 2) + 2) ≤ 200))) (K (AV.sc
 (Value.string (ByteArray.mk (Array.mk (cutL twoTab (IntKind.i64.wrap (n * 2)) (IntKind.i64.wrap (IntKind.i64.wrap (n * 2) + 2)))))))) False)) (∀ (m : Int), m = IntKind.u64.wrap n → iteP (decide (n < 0)) (∀ (m_1 : Int), m_1 = IntKind.u64.wrap (0 - m) → (1000000 ≤ m_1 ∧ m_1 < 10000000) ∧
 ∀ (_ : Unit), True → ∀ (m : Int), m = IntKind.u32.wrap m_1 → ∀ (m_2 : Int), m_2 = m.tmod 10000 → ∀ (m_3 : Int), m_3 = IntKind.u32.wrap (m.tdiv 10000) → ∀ (m : Int), m = IntKind.u32.wrap (IntKind.u32.wrap (m_2.tdiv 100) * 2) → ∀ (m_4 : Int), m_4 = IntKind.u32.wrap (m_2.tmod 100 * 2) → ∀ (m_5 :
 Int), m_5 = IntKind.u32.wrap (m_4 + 1) → iteP (inRange m_5 200) (iteP (inRange m_4 200) (∀ (m_6 : Int), m_6 = IntKind.u32.wrap (m + 1) → iteP (inRange m_6 200) (iteP (inRange m 200) (∀ (m_7 : Int), m_7 = IntKind.u32.wrap (m_3.tmod 100 * 2) → ∀ (m_8 : Int), m_8 = IntKind.u32.wrap (m_3.tdiv 100) → ∀ (m_9 : Int), m_9 = m_7 → iteP (inRange (IntKind.u32.wrap (m_9 + 1)) 200) (iteP (inRange m_7 200) (∀
 (m_10 : Int), m_10 = IntKind.u8.wrap (IntKind.u32.wrap (48 + m_8)) → iteP (decide (n < 0)) (K (AV.sc (Value.string (ByteArray.mk (Array.mk [(45 : UInt8), UInt8.ofNat m_10.toNat, UInt8.ofNat (byteAt twoTab m_7).toNat, UInt8.ofNat (byteAt twoTab (IntKind.u32.wrap (m_9 + 1))).toNat, UInt8.ofNat (byteAt twoTab m).toNat,
 UInt8.ofNat (byteAt twoTab m_6).toNat, UInt8.ofNat (byteAt twoTab m_4).toNat, UInt8.ofNat (byteAt twoTab m_5).toNat]))))) (K (AV.sc (Value.string (ByteArray.mk (Array.mk [UInt8.ofNat m_10.toNat, UInt8.ofNat (byteAt twoTab m_7).toNat, UInt8.ofNat (byteAt twoTab (IntKind.u32.wrap (m_9 + 1))).toNat, UInt8.ofNat (byteAt twoTab
 m).toNat, UInt8.ofNat (byteAt twoTab m_6).toNat, UInt8.ofNat (byteAt twoTab m_4).toNat, UInt8.ofNat (byteAt twoTab m_5).toNat])))))) False) False) False) False) False) False) ((1000000 ≤ m ∧ m < 10000000) ∧ ∀ (_ : Unit), True → ∀ (m_1 : Int), m_1 = IntKind.u32.wrap m → ∀ (m : Int), m = m_1.tmod 10000 → ∀ (m_2 :
 Int), m_2 = IntKind.u32.wrap (m_1.tdiv 10000) → ∀ (m_3 : Int), m_3 = IntKind.u32.wrap (IntKind.u32.wrap (m.tdiv 100) * 2) → ∀ (m_4 : Int), m_4 = IntKind.u32.wrap (m.tmod 100 * 2) → ∀ (m : Int), m = IntKind.u32.wrap (m_4 + 1) → iteP (inRange m 200) (iteP (inRange m_4 200) (∀
 (m_5 : Int), m_5 = IntKind.u32.wrap (m_3 + 1) → iteP (inRange m_5 200) (iteP (inRange m_3 200) (∀ (m_6 : Int), m_6 = IntKind.u32.wrap (m_2.tmod 100 * 2) → ∀ (m_7 : Int), m_7 = IntKind.u32.wrap (m_2.tdiv 100) → ∀ (m_8 : Int), m_8 = m_6 → iteP (inRange (IntKind.u32.wrap (m_8 + 1))
 200) (iteP (inRange m_6 200) (∀ (m_9 : Int), m_9 = IntKind.u8.wrap (IntKind.u32.wrap (48 + m_7)) → iteP (decide (n < 0)) (K (AV.sc (Value.string (ByteArray.mk (Array.mk [(45 : UInt8), UInt8.ofNat m_9.toNat, UInt8.ofNat (byteAt twoTab m_6).toNat, UInt8.ofNat (byteAt twoTab (IntKind.u32.wrap (m_8 + (1 :
 Int)))).toNat, UInt8.ofNat (byteAt twoTab m_3).toNat, UInt8.ofNat (byteAt twoTab m_5).toNat, UInt8.ofNat (byteAt twoTab m_4).toNat, UInt8.ofNat (byteAt twoTab m).toNat]))))) (K (AV.sc (Value.string (ByteArray.mk (Array.mk [UInt8.ofNat m_9.toNat, UInt8.ofNat (byteAt twoTab m_6).toNat, UInt8.ofNat (byteAt twoTab (IntKind.u32.wrap
 (m_8 + 1))).toNat, UInt8.ofNat (byteAt twoTab m_3).toNat, UInt8.ofNat (byteAt twoTab m_5).toNat, UInt8.ofNat (byteAt twoTab m_4).toNat, UInt8.ofNat (byteAt twoTab m).toNat])))))) False) False) False) False) False) False))) (∀ (m : Int), m = IntKind.u64.wrap n → iteP (decide (n < 0)) (∀ (m_1 : Int), m_1 = IntKind.u64.wrap ((0
 : Int) - m) → (1000000 ≤ m_1 ∧ m_1 < 10000000) ∧ ∀ (_ : Unit), True → ∀ (m : Int), m = IntKind.u32.wrap m_1 → ∀ (m_2 : Int), m_2 = m.tmod 10000 → ∀ (m_3 : Int), m_3 = IntKind.u32.wrap (m.tdiv 10000) → ∀ (m : Int), m = IntKind.u32.wrap (IntKind.u32.wrap (m_2.tdiv 100) * 2) → ∀ (m_4 : Int), m_4 =
 IntKind.u32.wrap (m_2.tmod 100 * 2) → ∀ (m_5 : Int), m_5 = IntKind.u32.wrap (m_4 + 1) → iteP (inRange m_5 200) (iteP (inRange m_4 (200 : Nat)) (∀ (m_6 : Int), m_6 = IntKind.u32.wrap (m + 1) → iteP (inRange m_6 200) (iteP (inRange m 200) (∀ (m_7 : Int), m_7 = IntKind.u32.wrap
 (m_3.tmod 100 * 2) → ∀ (m_8 : Int), m_8 = IntKind.u32.wrap (m_3.tdiv 100) → ∀ (m_9 : Int), m_9 = m_7 → iteP (inRange (IntKind.u32.wrap (m_9 + (1 : Int))) 200) (iteP (inRange m_7 200) (∀ (m_10 : Int), m_10 = IntKind.u8.wrap (IntKind.u32.wrap (48 + m_8)) → iteP (decide (n < 0)) (K (AV.sc
 (Value.string (ByteArray.mk (Array.mk [(45 : UInt8), UInt8.ofNat m_10.toNat, UInt8.ofNat (byteAt twoTab m_7).toNat, UInt8.ofNat (byteAt twoTab (IntKind.u32.wrap (m_9 + (1 : Int)))).toNat, UInt8.ofNat (byteAt twoTab m).toNat, UInt8.ofNat (byteAt twoTab m_6).toNat, UInt8.ofNat (byteAt twoTab m_4).toNat, UInt8.ofNat (byteAt twoTab
 m_5).toNat]))))) (K (AV.sc (Value.string (ByteArray.mk (Array.mk [UInt8.ofNat m_10.toNat, UInt8.ofNat (byteAt twoTab m_7).toNat, UInt8.ofNat (byteAt twoTab (IntKind.u32.wrap (m_9 + 1))).toNat, UInt8.ofNat (byteAt twoTab m).toNat, UInt8.ofNat (byteAt twoTab m_6).toNat, UInt8.ofNat (byteAt twoTab m_4).toNat, UInt8.ofNat
 (byteAt twoTab m_5).toNat])))))) False) False) False) False) False) False) ((1000000 ≤ m ∧ m < 10000000) ∧ ∀ (_ : Unit), True → ∀ (m_1 : Int), m_1 = IntKind.u32.wrap m → ∀ (m : Int), m = m_1.tmod 10000 → ∀ (m_2 : Int), m_2 = IntKind.u32.wrap (m_1.tdiv 10000) → ∀ (m_3 : Int), m_3 = IntKind.u32.wrap
 (IntKind.u32.wrap (m.tdiv 100) * 2) → ∀ (m_4 : Int), m_4 = IntKind.u32.wrap (m.tmod 100 * 2) → ∀ (m : Int), m = IntKind.u32.wrap (m_4 + (1 : Int)) → iteP (inRange m 200) (iteP (inRange m_4 200) (∀ (m_5 : Int), m_5 = IntKind.u32.wrap (m_3 + 1) → iteP (inRange m_5 200) (iteP
 (inRange m_3 200) (∀ (m_6 : Int), m_6 = IntKind.u32.wrap (m_2.tmod 100 * 2) → ∀ (m_7 : Int), m_7 = IntKind.u32.wrap (m_2.tdiv 100) → ∀ (m_8 : Int), m_8 = m_6 → iteP (inRange (IntKind.u32.wrap (m_8 + 1)) 200) (iteP (inRange m_6 200) (∀ (m_9 : Int), m_9 = IntKind.u8.wrap (IntKind.u32.wrap
 (48 + m_7)) → iteP (decide (n < 0)) (K (AV.sc (Value.string (ByteArray.mk (Array.mk [(45 : UInt8), UInt8.ofNat m_9.toNat, UInt8.ofNat (byteAt twoTab m_6).toNat, UInt8.ofNat (byteAt twoTab (IntKind.u32.wrap (m_8 + 1))).toNat, UInt8.ofNat (byteAt twoTab m_3).toNat, UInt8.ofNat (byteAt twoTab m_5).toNat,
 UInt8.ofNat (byteAt twoTab m_4).toNat, UInt8.ofNat (byteAt twoTab m).toNat]))))) (K (AV.sc (Value.string (ByteArray.mk (Array.mk [UInt8.ofNat m_9.toNat, UInt8.ofNat (byteAt twoTab m_6).toNat, UInt8.ofNat (byteAt twoTab (IntKind.u32.wrap (m_8 + 1))).toNat, UInt8.ofNat (byteAt twoTab m_3).toNat, UInt8.ofNat (byteAt twoTab
 m_5).toNat, UInt8.ofNat (byteAt twoTab m_4).toNat, UInt8.ofNat (byteAt twoTab m).toNat])))))) False) False) False) False) False) False))) : (fun (n : Int) (K : AV → Prop) => wpCall (Dk 7) Door.cfg Tryz.prog 60 74 [aK .i64 n, aK .i64 10] heapF fun r h' => wpBack h' r K) n K :=
 Eq.mp (by kernel_rfl) h
theorem d67_8 (n : Int) (K : AV → Prop) (h : iteP (decide (0 ≤ n)) (iteP (decide (n < 100)) (iteP (decide (n < 10)) (iteP (decide (0 ≤ n)
 && (decide (n ≤ IntKind.i64.wrap (n + 1)) && decide (IntKind.i64.wrap (n + 1) ≤ 36))) (K (AV.sc (Value.string (ByteArray.mk (Array.mk (cutL digTab n (IntKind.i64.wrap (n + 1)))))))) False) (iteP (decide (0 ≤ IntKind.i64.wrap (n * 2)) && (decide (IntKind.i64.wrap (n * 2) ≤ IntKind.i64.wrap (IntKind.i64.wrap (n * 2) + 2)) && decide (IntKind.i64.wrap (IntKind.i64.wrap (n * 2) + 2) ≤ 200))) (K (AV.sc
 (Value.string (ByteArray.mk (Array.mk (cutL twoTab (IntKind.i64.wrap (n * 2)) (IntKind.i64.wrap (IntKind.i64.wrap (n * 2) + 2)))))))) False)) (∀ (m : Int), m = IntKind.u64.wrap n → iteP (decide (n < 0)) (∀ (m_1 : Int), m_1 = IntKind.u64.wrap (0 - m) → (10000000 ≤ m_1 ∧ m_1 < 100000000)
 ∧ ∀ (_ : Unit), True → ∀ (m : Int), m = IntKind.u32.wrap (m_1.tmod 100000000) → ∀ (m_2 : Int), m_2 = IntKind.u64.wrap (m_1.tdiv 100000000) → ∀ (m_3 : Int), m_3 = IntKind.u32.wrap (m.tdiv 10000) → ∀ (m_4 : Int), m_4 = m.tmod 10000 → ∀ (m : Int), m = IntKind.u32.wrap (IntKind.u32.wrap (m_4.tdiv 100) * (2
 : Int)) → ∀ (m_5 : Int), m_5 = IntKind.u32.wrap (m_4.tmod 100 * 2) → ∀ (m_6 : Int), m_6 = IntKind.u32.wrap (IntKind.u32.wrap (m_3.tdiv 100) * (2 : Int)) → ∀ (m_7 : Int), m_7 = IntKind.u32.wrap (m_3.tmod 100 * 2) → ∀ (m_8 : Int), m_8 = IntKind.u32.wrap (m_5 + 1) → iteP (inRange m_8 200)
 (iteP (inRange m_5 200) (∀ (m_9 : Int), m_9 = IntKind.u32.wrap (m + 1) → iteP (inRange m_9 200) (iteP (inRange m 200) (∀ (m_10 : Int), m_10 = IntKind.u32.wrap (m_7 + 1) → iteP (inRange m_10 200) (iteP (inRange m_7 200) (∀ (m_11 : Int), m_11 = IntKind.u32.wrap (m_6 + 1) → iteP
 (inRange m_11 200) (iteP (inRange m_6 200) (∀ (m_12 : Int), m_12 = IntKind.u32.wrap m_2 → iteP (decide (n < 0)) (K (AV.sc (Value.string (ByteArray.mk (Array.mk [(45 : UInt8), UInt8.ofNat (byteAt twoTab m_6).toNat, UInt8.ofNat (byteAt twoTab m_11).toNat, UInt8.ofNat (byteAt twoTab m_7).toNat, UInt8.ofNat
 (byteAt twoTab m_10).toNat, UInt8.ofNat (byteAt twoTab m).toNat, UInt8.ofNat (byteAt twoTab m_9).toNat, UInt8.ofNat (byteAt twoTab m_5).toNat, UInt8.ofNat (byteAt twoTab m_8).toNat]))))) (K (AV.sc (Value.string (ByteArray.mk (Array.mk [UInt8.ofNat (byteAt twoTab m_6).toNat, UInt8.ofNat (byteAt twoTab m_11).toNat, UInt8.ofNat (byteAt twoTab
 m_7).toNat, UInt8.ofNat (byteAt twoTab m_10).toNat, UInt8.ofNat (byteAt twoTab m).toNat, UInt8.ofNat (byteAt twoTab m_9).toNat, UInt8.ofNat (byteAt twoTab m_5).toNat, UInt8.ofNat (byteAt twoTab m_8).toNat])))))) False) False) False) False) False) False) False) False) ((10000000 ≤ m ∧ m < 100000000) ∧ ∀ (_ : Unit), True →
 ∀ (m_1 : Int), m_1 = IntKind.u32.wrap (m.tmod 100000000) → ∀ (m_2 : Int), m_2 = IntKind.u64.wrap (m.tdiv 100000000) → ∀ (m : Int), m = IntKind.u32.wrap (m_1.tdiv 10000) → ∀ (m_3 : Int), m_3 = m_1.tmod 10000 → ∀ (m_4 : Int), m_4 = IntKind.u32.wrap (IntKind.u32.wrap (m_3.tdiv 100) * 2) → ∀
 (m_5 : Int), m_5 = IntKind.u32.wrap (m_3.tmod 100 * 2) → ∀ (m_6 : Int), m_6 = IntKind.u32.wrap (IntKind.u32.wrap (m.tdiv 100) * 2) → ∀ (m_7 : Int), m_7 = IntKind.u32.wrap (m.tmod 100 * 2) → ∀ (m : Int), m = IntKind.u32.wrap (m_5 + 1) → iteP (inRange m 200) (iteP (inRange m_5 200) (∀ (m_8 : Int), m_8 = IntKind.u32.wrap (m_4 + 1) → iteP (inRange m_8 200) (iteP (inRange m_4 200) (∀ (m_9 : Int), m_9 =
 IntKind.u32.wrap (m_7 + 1) → iteP (inRange m_9 200) (iteP (inRange m_7 200) (∀ (m_10 : Int), m_10 = IntKind.u32.wrap (m_6 + 1) → iteP (inRange m_10 200) (iteP (inRange m_6 200) (∀ (m_11 : Int), m_11 = IntKind.u32.wrap m_2 → iteP (decide (n < 0)) (K (AV.sc (Value.string
 (ByteArray.mk (Array.mk [(45 : UInt8), UInt8.ofNat (byteAt twoTab m_6).toNat, UInt8.ofNat (byteAt twoTab m_10).toNat, UInt8.ofNat (byteAt twoTab m_7).toNat, UInt8.ofNat (byteAt twoTab m_9).toNat, UInt8.ofNat (byteAt twoTab m_4).toNat, UInt8.ofNat (byteAt twoTab m_8).toNat, UInt8.ofNat (byteAt twoTab m_5).toNat, UInt8.ofNat (byteAt twoTab
 m).toNat]))))) (K (AV.sc (Value.string (ByteArray.mk (Array.mk [UInt8.ofNat (byteAt twoTab m_6).toNat, UInt8.ofNat (byteAt twoTab m_10).toNat, UInt8.ofNat (byteAt twoTab m_7).toNat, UInt8.ofNat (byteAt twoTab m_9).toNat, UInt8.ofNat (byteAt twoTab m_4).toNat, UInt8.ofNat (byteAt twoTab m_8).toNat, UInt8.ofNat (byteAt twoTab m_5).toNat,
 UInt8.ofNat (byteAt twoTab m).toNat])))))) False) False) False) False) False) False) False) False))) (∀ (m : Int), m = IntKind.u64.wrap n → iteP (decide (n < 0)) (∀ (m_1 : Int), m_1 = IntKind.u64.wrap (0 - m) → (10000000 ≤ m_1 ∧ m_1 < 100000000) ∧ ∀ (_ : Unit), True → ∀ (m : Int), m = IntKind.u32.wrap
 (m_1.tmod 100000000) → ∀ (m_2 : Int), m_2 = IntKind.u64.wrap (m_1.tdiv 100000000) → ∀ (m_3 : Int), m_3 = IntKind.u32.wrap (m.tdiv 10000) → ∀ (m_4 : Int), m_4 = m.tmod 10000 → ∀ (m : Int), m = IntKind.u32.wrap (IntKind.u32.wrap (m_4.tdiv 100) * 2) → ∀ (m_5 : Int), m_5 = IntKind.u32.wrap
 (m_4.tmod 100 * 2) → ∀ (m_6 : Int), m_6 = IntKind.u32.wrap (IntKind.u32.wrap (m_3.tdiv 100) * 2) → ∀ (m_7 : Int), m_7 = IntKind.u32.wrap (m_3.tmod 100 * 2) → ∀ (m_8 : Int), m_8 = IntKind.u32.wrap (m_5 + 1) → iteP (inRange m_8 200) (iteP (inRange m_5 200) (∀ (m_9 : Int), m_9 = IntKind.u32.wrap (m + 1) → iteP (inRange m_9 200) (iteP (inRange m 200) (∀ (m_10 : Int), m_10 = IntKind.u32.wrap (m_7 + 1) →
 iteP (inRange m_10 200) (iteP (inRange m_7 200) (∀ (m_11 : Int), m_11 = IntKind.u32.wrap (m_6 + 1) → iteP (inRange m_11 200) (iteP (inRange m_6 200) (∀ (m_12 : Int), m_12 = IntKind.u32.wrap m_2 → iteP (decide (n < 0)) (K (AV.sc (Value.string (ByteArray.mk (Array.mk [(45 : UInt8), UInt8.ofNat
 (byteAt twoTab m_6).toNat, UInt8.ofNat (byteAt twoTab m_11).toNat, UInt8.ofNat (byteAt twoTab m_7).toNat, UInt8.ofNat (byteAt twoTab m_10).toNat, UInt8.ofNat (byteAt twoTab m).toNat, UInt8.ofNat (byteAt twoTab m_9).toNat, UInt8.ofNat (byteAt twoTab m_5).toNat, UInt8.ofNat (byteAt twoTab m_8).toNat]))))) (K (AV.sc (Value.string
 (ByteArray.mk (Array.mk [UInt8.ofNat (byteAt twoTab m_6).toNat, UInt8.ofNat (byteAt twoTab m_11).toNat, UInt8.ofNat (byteAt twoTab m_7).toNat, UInt8.ofNat (byteAt twoTab m_10).toNat, UInt8.ofNat (byteAt twoTab m).toNat, UInt8.ofNat (byteAt twoTab m_9).toNat, UInt8.ofNat (byteAt twoTab m_5).toNat, UInt8.ofNat (byteAt twoTab
 m_8).toNat])))))) False) False) False) False) False) False) False) False) ((10000000 ≤ m ∧ m < 100000000) ∧ ∀ (_ : Unit), True → ∀ (m_1 : Int), m_1 = IntKind.u32.wrap (m.tmod 100000000) → ∀ (m_2 : Int), m_2 = IntKind.u64.wrap (m.tdiv 100000000) → ∀ (m : Int), m = IntKind.u32.wrap (m_1.tdiv 10000)
 → ∀ (m_3 : Int), m_3 = m_1.tmod 10000 → ∀ (m_4 : Int), m_4 = IntKind.u32.wrap (IntKind.u32.wrap (m_3.tdiv 100) * 2) → ∀ (m_5 : Int), m_5 = IntKind.u32.wrap (m_3.tmod 100 * 2) → ∀ (m_6 : Int), m_6 = IntKind.u32.wrap (IntKind.u32.wrap (m.tdiv 100) * 2) → ∀ (m_7 : Int), m_7 =
 IntKind.u32.wrap (m.tmod 100 * 2) → ∀ (m : Int), m = IntKind.u32.wrap (m_5 + 1) → iteP (inRange m 200) (iteP (inRange m_5 200) (∀ (m_8 : Int), m_8 = IntKind.u32.wrap (m_4 + 1) → iteP (inRange m_8 200) (iteP (inRange m_4 200) (∀ (m_9 : Int), m_9 = IntKind.u32.wrap (m_7 + (1 :
 Int)) → iteP (inRange m_9 200) (iteP (inRange m_7 200) (∀ (m_10 : Int), m_10 = IntKind.u32.wrap (m_6 + 1) → iteP (inRange m_10 200) (iteP (inRange m_6 200) (∀ (m_11 : Int), m_11 = IntKind.u32.wrap m_2 → iteP (decide (n < 0)) (K (AV.sc (Value.string (ByteArray.mk (Array.mk [(45 : UInt8),
 UInt8.ofNat (byteAt twoTab m_6).toNat, UInt8.ofNat (byteAt twoTab m_10).toNat, UInt8.ofNat (byteAt twoTab m_7).toNat, UInt8.ofNat (byteAt twoTab m_9).toNat, UInt8.ofNat (byteAt twoTab m_4).toNat, UInt8.ofNat (byteAt twoTab m_8).toNat, UInt8.ofNat (byteAt twoTab m_5).toNat, UInt8.ofNat (byteAt twoTab m).toNat]))))) (K (AV.sc (Value.string
 (ByteArray.mk (Array.mk [UInt8.ofNat (byteAt twoTab m_6).toNat, UInt8.ofNat (byteAt twoTab m_10).toNat, UInt8.ofNat (byteAt twoTab m_7).toNat, UInt8.ofNat (byteAt twoTab m_9).toNat, UInt8.ofNat (byteAt twoTab m_4).toNat, UInt8.ofNat (byteAt twoTab m_8).toNat, UInt8.ofNat (byteAt twoTab m_5).toNat, UInt8.ofNat (byteAt twoTab m).toNat]))))))
 False) False) False) False) False) False) False) False))) : (fun (n : Int) (K : AV → Prop) => wpCall (Dk 8) Door.cfg Tryz.prog 60 74 [aK .i64 n, aK .i64 10] heapF fun r h' => wpBack h' r K) n K :=
 Eq.mp (by kernel_rfl) h
theorem d67_9 (n : Int) (K : AV → Prop) (h : iteP (decide (0 ≤ n)) (iteP (decide (n < 100)) (iteP (decide (n < 10)) (iteP (decide (0 ≤ n)
 && (decide (n ≤ IntKind.i64.wrap (n + 1)) && decide (IntKind.i64.wrap (n + 1) ≤ 36))) (K (AV.sc (Value.string (ByteArray.mk (Array.mk (cutL digTab n (IntKind.i64.wrap (n + 1)))))))) False) (iteP (decide (0 ≤ IntKind.i64.wrap (n * 2)) && (decide (IntKind.i64.wrap (n * 2) ≤ IntKind.i64.wrap (IntKind.i64.wrap (n * 2) + 2)) && decide (IntKind.i64.wrap (IntKind.i64.wrap (n * 2) + 2) ≤ 200))) (K (AV.sc
 (Value.string (ByteArray.mk (Array.mk (cutL twoTab (IntKind.i64.wrap (n * 2)) (IntKind.i64.wrap (IntKind.i64.wrap (n * 2) + 2)))))))) False)) (∀ (m : Int), m = IntKind.u64.wrap n → iteP (decide (n < 0)) (∀ (m_1 : Int), m_1 = IntKind.u64.wrap (0 - m) → (100000000 ≤ m_1 ∧ m_1 < (1000000000 :
 Int)) ∧ ∀ (_ : Unit), True → ∀ (m : Int), m = IntKind.u32.wrap (m_1.tmod 100000000) → ∀ (m_2 : Int), m_2 = IntKind.u64.wrap (m_1.tdiv 100000000) → ∀ (m_3 : Int), m_3 = IntKind.u32.wrap (m.tdiv 10000) → ∀ (m_4 : Int), m_4 = m.tmod 10000 → ∀ (m : Int), m = IntKind.u32.wrap (IntKind.u32.wrap (m_4.tdiv (100 :
 Int)) * 2) → ∀ (m_5 : Int), m_5 = IntKind.u32.wrap (m_4.tmod 100 * 2) → ∀ (m_6 : Int), m_6 = IntKind.u32.wrap (IntKind.u32.wrap (m_3.tdiv (100 : Int)) * 2) → ∀ (m_7 : Int), m_7 = IntKind.u32.wrap (m_3.tmod 100 * 2) → ∀ (m_8 : Int), m_8 = IntKind.u32.wrap (m_5 + 1) → iteP (inRange m_8
 200) (iteP (inRange m_5 200) (∀ (m_9 : Int), m_9 = IntKind.u32.wrap (m + 1) → iteP (inRange m_9 200) (iteP (inRange m 200) (∀ (m_10 : Int), m_10 = IntKind.u32.wrap (m_7 + 1) → iteP (inRange m_10 200) (iteP (inRange m_7 200) (∀ (m_11 : Int), m_11 = IntKind.u32.wrap (m_6 + (1 :
 Int)) → iteP (inRange m_11 200) (iteP (inRange m_6 200) (∀ (m_12 : Int), m_12 = IntKind.u32.wrap m_2 → ∀ (m_13 : Int), m_13 = IntKind.u8.wrap (IntKind.u32.wrap (48 + m_12)) → iteP (decide (n < 0)) (K (AV.sc (Value.string (ByteArray.mk (Array.mk [(45 : UInt8), UInt8.ofNat m_13.toNat, UInt8.ofNat
 (byteAt twoTab m_6).toNat, UInt8.ofNat (byteAt twoTab m_11).toNat, UInt8.ofNat (byteAt twoTab m_7).toNat, UInt8.ofNat (byteAt twoTab m_10).toNat, UInt8.ofNat (byteAt twoTab m).toNat, UInt8.ofNat (byteAt twoTab m_9).toNat, UInt8.ofNat (byteAt twoTab m_5).toNat, UInt8.ofNat (byteAt twoTab m_8).toNat]))))) (K (AV.sc (Value.string
 (ByteArray.mk (Array.mk [UInt8.ofNat m_13.toNat, UInt8.ofNat (byteAt twoTab m_6).toNat, UInt8.ofNat (byteAt twoTab m_11).toNat, UInt8.ofNat (byteAt twoTab m_7).toNat, UInt8.ofNat (byteAt twoTab m_10).toNat, UInt8.ofNat (byteAt twoTab m).toNat, UInt8.ofNat (byteAt twoTab m_9).toNat, UInt8.ofNat (byteAt twoTab m_5).toNat, UInt8.ofNat
 (byteAt twoTab m_8).toNat])))))) False) False) False) False) False) False) False) False) ((100000000 ≤ m ∧ m < 1000000000) ∧ ∀ (_ : Unit), True → ∀ (m_1 : Int), m_1 = IntKind.u32.wrap (m.tmod 100000000) → ∀ (m_2 : Int), m_2 = IntKind.u64.wrap (m.tdiv 100000000) → ∀ (m : Int), m = IntKind.u32.wrap (m_1.tdiv
 10000) → ∀ (m_3 : Int), m_3 = m_1.tmod 10000 → ∀ (m_4 : Int), m_4 = IntKind.u32.wrap (IntKind.u32.wrap (m_3.tdiv 100) * 2) → ∀ (m_5 : Int), m_5 = IntKind.u32.wrap (m_3.tmod 100 * 2) → ∀ (m_6 : Int), m_6 = IntKind.u32.wrap (IntKind.u32.wrap (m.tdiv 100) * 2) → ∀ (m_7 : Int), m_7
 = IntKind.u32.wrap (m.tmod 100 * 2) → ∀ (m : Int), m = IntKind.u32.wrap (m_5 + 1) → iteP (inRange m 200) (iteP (inRange m_5 200) (∀ (m_8 : Int), m_8 = IntKind.u32.wrap (m_4 + 1) → iteP (inRange m_8 200) (iteP (inRange m_4 200) (∀ (m_9 : Int), m_9 = IntKind.u32.wrap (m_7 + (1 :
 Int)) → iteP (inRange m_9 200) (iteP (inRange m_7 200) (∀ (m_10 : Int), m_10 = IntKind.u32.wrap (m_6 + 1) → iteP (inRange m_10 200) (iteP (inRange m_6 200) (∀ (m_11 : Int), m_11 = IntKind.u32.wrap m_2 → ∀ (m_12 : Int), m_12 = IntKind.u8.wrap (IntKind.u32.wrap (48 + m_11)) → iteP (decide (n <
 0)) (K (AV.sc (Value.string (ByteArray.mk (Array.mk [(45 : UInt8), UInt8.ofNat m_12.toNat, UInt8.ofNat (byteAt twoTab m_6).toNat, UInt8.ofNat (byteAt twoTab m_10).toNat, UInt8.ofNat (byteAt twoTab m_7).toNat, UInt8.ofNat (byteAt twoTab m_9).toNat, UInt8.ofNat (byteAt twoTab m_4).toNat, UInt8.ofNat (byteAt twoTab m_8).toNat,
 UInt8.ofNat (byteAt twoTab m_5).toNat, UInt8.ofNat (byteAt twoTab m).toNat]))))) (K (AV.sc (Value.string (ByteArray.mk (Array.mk [UInt8.ofNat m_12.toNat, UInt8.ofNat (byteAt twoTab m_6).toNat, UInt8.ofNat (byteAt twoTab m_10).toNat, UInt8.ofNat (byteAt twoTab m_7).toNat, UInt8.ofNat (byteAt twoTab m_9).toNat, UInt8.ofNat (byteAt twoTab
 m_4).toNat, UInt8.ofNat (byteAt twoTab m_8).toNat, UInt8.ofNat (byteAt twoTab m_5).toNat, UInt8.ofNat (byteAt twoTab m).toNat])))))) False) False) False) False) False) False) False) False))) (∀ (m : Int), m = IntKind.u64.wrap n → iteP (decide (n < 0)) (∀ (m_1 : Int), m_1 = IntKind.u64.wrap (0 - m) → (100000000 ≤
 m_1 ∧ m_1 < 1000000000) ∧ ∀ (_ : Unit), True → ∀ (m : Int), m = IntKind.u32.wrap (m_1.tmod 100000000) → ∀ (m_2 : Int), m_2 = IntKind.u64.wrap (m_1.tdiv 100000000) → ∀ (m_3 : Int), m_3 = IntKind.u32.wrap (m.tdiv 10000) → ∀ (m_4 : Int), m_4 = m.tmod 10000 → ∀ (m : Int), m = IntKind.u32.wrap
 (IntKind.u32.wrap (m_4.tdiv 100) * 2) → ∀ (m_5 : Int), m_5 = IntKind.u32.wrap (m_4.tmod 100 * 2) → ∀ (m_6 : Int), m_6 = IntKind.u32.wrap (IntKind.u32.wrap (m_3.tdiv 100) * 2) → ∀ (m_7 : Int), m_7 = IntKind.u32.wrap (m_3.tmod 100 * 2) → ∀ (m_8 : Int), m_8 = IntKind.u32.wrap
 (m_5 + 1) → iteP (inRange m_8 200) (iteP (inRange m_5 200) (∀ (m_9 : Int), m_9 = IntKind.u32.wrap (m + 1) → iteP (inRange m_9 200) (iteP (inRange m 200) (∀ (m_10 : Int), m_10 = IntKind.u32.wrap (m_7 + 1) → iteP (inRange m_10 200) (iteP (inRange m_7 200) (∀ (m_11 : Int),
 m_11 = IntKind.u32.wrap (m_6 + 1) → iteP (inRange m_11 200) (iteP (inRange m_6 200) (∀ (m_12 : Int), m_12 = IntKind.u32.wrap m_2 → ∀ (m_13 : Int), m_13 = IntKind.u8.wrap (IntKind.u32.wrap (48 + m_12)) → iteP (decide (n < 0)) (K (AV.sc (Value.string (ByteArray.mk (Array.mk [(45 : UInt8), UInt8.ofNat
 m_13.toNat, UInt8.ofNat (byteAt twoTab m_6).toNat, UInt8.ofNat (byteAt twoTab m_11).toNat, UInt8.ofNat (byteAt twoTab m_7).toNat, UInt8.ofNat (byteAt twoTab m_10).toNat, UInt8.ofNat (byteAt twoTab m).toNat, UInt8.ofNat (byteAt twoTab m_9).toNat, UInt8.ofNat (byteAt twoTab m_5).toNat, UInt8.ofNat (byteAt twoTab m_8).toNat]))))) (K (AV.sc
 (Value.string (ByteArray.mk (Array.mk [UInt8.ofNat m_13.toNat, UInt8.ofNat (byteAt twoTab m_6).toNat, UInt8.ofNat (byteAt twoTab m_11).toNat, UInt8.ofNat (byteAt twoTab m_7).toNat, UInt8.ofNat (byteAt twoTab m_10).toNat, UInt8.ofNat (byteAt twoTab m).toNat, UInt8.ofNat (byteAt twoTab m_9).toNat, UInt8.ofNat (byteAt twoTab m_5).toNat,
 UInt8.ofNat (byteAt twoTab m_8).toNat])))))) False) False) False) False) False) False) False) False) ((100000000 ≤ m ∧ m < 1000000000) ∧ ∀ (_ : Unit), True → ∀ (m_1 : Int), m_1 = IntKind.u32.wrap (m.tmod 100000000) → ∀ (m_2 : Int), m_2 = IntKind.u64.wrap (m.tdiv 100000000) → ∀ (m : Int), m = IntKind.u32.wrap
 (m_1.tdiv 10000) → ∀ (m_3 : Int), m_3 = m_1.tmod 10000 → ∀ (m_4 : Int), m_4 = IntKind.u32.wrap (IntKind.u32.wrap (m_3.tdiv 100) * 2) → ∀ (m_5 : Int), m_5 = IntKind.u32.wrap (m_3.tmod 100 * 2) → ∀ (m_6 : Int), m_6 = IntKind.u32.wrap (IntKind.u32.wrap (m.tdiv 100) * 2) → ∀ (m_7
 : Int), m_7 = IntKind.u32.wrap (m.tmod 100 * 2) → ∀ (m : Int), m = IntKind.u32.wrap (m_5 + 1) → iteP (inRange m 200) (iteP (inRange m_5 200) (∀ (m_8 : Int), m_8 = IntKind.u32.wrap (m_4 + 1) → iteP (inRange m_8 200) (iteP (inRange m_4 200) (∀ (m_9 : Int), m_9 = IntKind.u32.wrap (m_7 + 1) → iteP (inRange m_9 200) (iteP (inRange m_7 200) (∀ (m_10 : Int), m_10 = IntKind.u32.wrap (m_6 + 1) → iteP
 (inRange m_10 200) (iteP (inRange m_6 200) (∀ (m_11 : Int), m_11 = IntKind.u32.wrap m_2 → ∀ (m_12 : Int), m_12 = IntKind.u8.wrap (IntKind.u32.wrap ((48 : Int) + m_11)) → iteP (decide (n < 0)) (K (AV.sc (Value.string (ByteArray.mk (Array.mk [(45 : UInt8), UInt8.ofNat m_12.toNat, UInt8.ofNat (byteAt twoTab m_6).toNat,
 UInt8.ofNat (byteAt twoTab m_10).toNat, UInt8.ofNat (byteAt twoTab m_7).toNat, UInt8.ofNat (byteAt twoTab m_9).toNat, UInt8.ofNat (byteAt twoTab m_4).toNat, UInt8.ofNat (byteAt twoTab m_8).toNat, UInt8.ofNat (byteAt twoTab m_5).toNat, UInt8.ofNat (byteAt twoTab m).toNat]))))) (K (AV.sc (Value.string (ByteArray.mk (Array.mk [UInt8.ofNat
 m_12.toNat, UInt8.ofNat (byteAt twoTab m_6).toNat, UInt8.ofNat (byteAt twoTab m_10).toNat, UInt8.ofNat (byteAt twoTab m_7).toNat, UInt8.ofNat (byteAt twoTab m_9).toNat, UInt8.ofNat (byteAt twoTab m_4).toNat, UInt8.ofNat (byteAt twoTab m_8).toNat, UInt8.ofNat (byteAt twoTab m_5).toNat, UInt8.ofNat (byteAt twoTab m).toNat])))))) False)
 False) False) False) False) False) False) False))) : (fun (n : Int) (K : AV → Prop) => wpCall (Dk 9) Door.cfg Tryz.prog 60 74 [aK .i64 n, aK .i64 10] heapF fun r h' => wpBack h' r K) n K :=
 Eq.mp (by kernel_rfl) h
theorem d67_10 (n : Int) (K : AV → Prop) (h : iteP (decide (0 ≤ n)) (iteP (decide (n < 100)) (iteP (decide (n < 10)) (iteP (decide (0 ≤ n)
 && (decide (n ≤ IntKind.i64.wrap (n + 1)) && decide (IntKind.i64.wrap (n + 1) ≤ 36))) (K (AV.sc (Value.string (ByteArray.mk (Array.mk (cutL digTab n (IntKind.i64.wrap (n + 1)))))))) False) (iteP (decide (0 ≤ IntKind.i64.wrap (n * 2)) && (decide (IntKind.i64.wrap (n * 2) ≤ IntKind.i64.wrap (IntKind.i64.wrap (n * 2) + 2)) && decide (IntKind.i64.wrap (IntKind.i64.wrap (n * 2) + 2) ≤ 200))) (K (AV.sc
 (Value.string (ByteArray.mk (Array.mk (cutL twoTab (IntKind.i64.wrap (n * 2)) (IntKind.i64.wrap (IntKind.i64.wrap (n * 2) + 2)))))))) False)) (∀ (m : Int), m = IntKind.u64.wrap n → iteP (decide (n < 0)) (∀ (m_1 : Int), m_1 = IntKind.u64.wrap (0 - m) → (1000000000 ≤ m_1 ∧ m_1 < (10000000000 :
 Int)) ∧ ∀ (_ : Unit), True → ∀ (m : Int), m = IntKind.u32.wrap (m_1.tmod 100000000) → ∀ (m_2 : Int), m_2 = IntKind.u64.wrap (m_1.tdiv 100000000) → ∀ (m_3 : Int), m_3 = IntKind.u32.wrap (m.tdiv 10000) → ∀ (m_4 : Int), m_4 = m.tmod 10000 → ∀ (m : Int), m = IntKind.u32.wrap (IntKind.u32.wrap (m_4.tdiv (100 :
 Int)) * 2) → ∀ (m_5 : Int), m_5 = IntKind.u32.wrap (m_4.tmod 100 * 2) → ∀ (m_6 : Int), m_6 = IntKind.u32.wrap (IntKind.u32.wrap (m_3.tdiv (100 : Int)) * 2) → ∀ (m_7 : Int), m_7 = IntKind.u32.wrap (m_3.tmod 100 * 2) → ∀ (m_8 : Int), m_8 = IntKind.u32.wrap (m_5 + 1) → iteP (inRange m_8
 200) (iteP (inRange m_5 200) (∀ (m_9 : Int), m_9 = IntKind.u32.wrap (m + 1) → iteP (inRange m_9 200) (iteP (inRange m 200) (∀ (m_10 : Int), m_10 = IntKind.u32.wrap (m_7 + 1) → iteP (inRange m_10 200) (iteP (inRange m_7 200) (∀ (m_11 : Int), m_11 = IntKind.u32.wrap (m_6 + (1 :
 Int)) → iteP (inRange m_11 200) (iteP (inRange m_6 200) (∀ (m_12 : Int), m_12 = IntKind.u32.wrap m_2 → ∀ (m_13 : Int), m_13 = IntKind.u32.wrap (m_12.tmod 100 * 2) → ∀ (m_14 : Int), m_14 = IntKind.u32.wrap (m_12.tdiv 100) → ∀ (m_15 : Int), m_15 = m_13 → iteP (inRange (IntKind.u32.wrap (m_15 + (1 :
 Int))) 200) (iteP (inRange m_13 200) (iteP (decide (n < 0)) (K (AV.sc (Value.string (ByteArray.mk (Array.mk [(45 : UInt8), UInt8.ofNat (byteAt twoTab m_13).toNat, UInt8.ofNat (byteAt twoTab (IntKind.u32.wrap (m_15 + 1))).toNat, UInt8.ofNat (byteAt twoTab m_6).toNat, UInt8.ofNat (byteAt twoTab m_11).toNat,
 UInt8.ofNat (byteAt twoTab m_7).toNat, UInt8.ofNat (byteAt twoTab m_10).toNat, UInt8.ofNat (byteAt twoTab m).toNat, UInt8.ofNat (byteAt twoTab m_9).toNat, UInt8.ofNat (byteAt twoTab m_5).toNat, UInt8.ofNat (byteAt twoTab m_8).toNat]))))) (K (AV.sc (Value.string (ByteArray.mk (Array.mk [UInt8.ofNat (byteAt twoTab m_13).toNat, UInt8.ofNat
 (byteAt twoTab (IntKind.u32.wrap (m_15 + 1))).toNat, UInt8.ofNat (byteAt twoTab m_6).toNat, UInt8.ofNat (byteAt twoTab m_11).toNat, UInt8.ofNat (byteAt twoTab m_7).toNat, UInt8.ofNat (byteAt twoTab m_10).toNat, UInt8.ofNat (byteAt twoTab m).toNat, UInt8.ofNat (byteAt twoTab m_9).toNat, UInt8.ofNat (byteAt twoTab m_5).toNat,
 UInt8.ofNat (byteAt twoTab m_8).toNat])))))) False) False) False) False) False) False) False) False) False) False) ((1000000000 ≤ m ∧ m < 10000000000) ∧ ∀ (_ : Unit), True → ∀ (m_1 : Int), m_1 = IntKind.u32.wrap (m.tmod 100000000) → ∀ (m_2 : Int), m_2 = IntKind.u64.wrap (m.tdiv 100000000) → ∀ (m : Int), m =
 IntKind.u32.wrap (m_1.tdiv 10000) → ∀ (m_3 : Int), m_3 = m_1.tmod 10000 → ∀ (m_4 : Int), m_4 = IntKind.u32.wrap (IntKind.u32.wrap (m_3.tdiv 100) * 2) → ∀ (m_5 : Int), m_5 = IntKind.u32.wrap (m_3.tmod 100 * 2) → ∀ (m_6 : Int), m_6 = IntKind.u32.wrap (IntKind.u32.wrap (m.tdiv 100) * (2 :
 Int)) → ∀ (m_7 : Int), m_7 = IntKind.u32.wrap (m.tmod 100 * 2) → ∀ (m : Int), m = IntKind.u32.wrap (m_5 + 1) → iteP (inRange m 200) (iteP (inRange m_5 200) (∀ (m_8 : Int), m_8 = IntKind.u32.wrap (m_4 + 1) → iteP (inRange m_8 200) (iteP (inRange m_4 200) (∀ (m_9 : Int), m_9 =
 IntKind.u32.wrap (m_7 + 1) → iteP (inRange m_9 200) (iteP (inRange m_7 200) (∀ (m_10 : Int), m_10 = IntKind.u32.wrap (m_6 + 1) → iteP (inRange m_10 200) (iteP (inRange m_6 200) (∀ (m_11 : Int), m_11 = IntKind.u32.wrap m_2 → ∀ (m_12 : Int), m_12 = IntKind.u32.wrap (m_11.tmod 100 *
 2) → ∀ (m_13 : Int), m_13 = IntKind.u32.wrap (m_11.tdiv 100) → ∀ (m_14 : Int), m_14 = m_12 → iteP (inRange (IntKind.u32.wrap (m_14 + 1)) (200 : Nat)) (iteP (inRange m_12 200) (iteP (decide (n < 0)) (K (AV.sc (Value.string (ByteArray.mk (Array.mk [(45 : UInt8), UInt8.ofNat (byteAt twoTab
 m_12).toNat, UInt8.ofNat (byteAt twoTab (IntKind.u32.wrap (m_14 + 1))).toNat, UInt8.ofNat (byteAt twoTab m_6).toNat, UInt8.ofNat (byteAt twoTab m_10).toNat, UInt8.ofNat (byteAt twoTab m_7).toNat, UInt8.ofNat (byteAt twoTab m_9).toNat, UInt8.ofNat (byteAt twoTab m_4).toNat, UInt8.ofNat (byteAt twoTab m_8).toNat, UInt8.ofNat
 (byteAt twoTab m_5).toNat, UInt8.ofNat (byteAt twoTab m).toNat]))))) (K (AV.sc (Value.string (ByteArray.mk (Array.mk [UInt8.ofNat (byteAt twoTab m_12).toNat, UInt8.ofNat (byteAt twoTab (IntKind.u32.wrap (m_14 + 1))).toNat, UInt8.ofNat (byteAt twoTab m_6).toNat, UInt8.ofNat (byteAt twoTab m_10).toNat, UInt8.ofNat (byteAt twoTab
 m_7).toNat, UInt8.ofNat (byteAt twoTab m_9).toNat, UInt8.ofNat (byteAt twoTab m_4).toNat, UInt8.ofNat (byteAt twoTab m_8).toNat, UInt8.ofNat (byteAt twoTab m_5).toNat, UInt8.ofNat (byteAt twoTab m).toNat])))))) False) False) False) False) False) False) False) False) False) False))) (∀ (m : Int), m = IntKind.u64.wrap n → iteP (decide (n <
 0)) (∀ (m_1 : Int), m_1 = IntKind.u64.wrap (0 - m) → (1000000000 ≤ m_1 ∧ m_1 < 10000000000) ∧ ∀ (_ : Unit), True → ∀ (m : Int), m = IntKind.u32.wrap (m_1.tmod 100000000) → ∀ (m_2 : Int), m_2 = IntKind.u64.wrap (m_1.tdiv 100000000) → ∀ (m_3 : Int), m_3 = IntKind.u32.wrap (m.tdiv (10000 :
 Int)) → ∀ (m_4 : Int), m_4 = m.tmod 10000 → ∀ (m : Int), m = IntKind.u32.wrap (IntKind.u32.wrap (m_4.tdiv 100) * 2) → ∀ (m_5 : Int), m_5 = IntKind.u32.wrap (m_4.tmod 100 * 2) → ∀ (m_6 : Int), m_6 = IntKind.u32.wrap (IntKind.u32.wrap (m_3.tdiv 100) * 2) → ∀ (m_7 : Int), m_7 =
 IntKind.u32.wrap (m_3.tmod 100 * 2) → ∀ (m_8 : Int), m_8 = IntKind.u32.wrap (m_5 + 1) → iteP (inRange m_8 200) (iteP (inRange m_5 (200 : Nat)) (∀ (m_9 : Int), m_9 = IntKind.u32.wrap (m + 1) → iteP (inRange m_9 200) (iteP (inRange m 200) (∀ (m_10 : Int), m_10 = IntKind.u32.wrap (m_7 +
 1) → iteP (inRange m_10 200) (iteP (inRange m_7 200) (∀ (m_11 : Int), m_11 = IntKind.u32.wrap (m_6 + 1) → iteP (inRange m_11 200) (iteP (inRange m_6 200) (∀ (m_12 : Int), m_12 = IntKind.u32.wrap m_2 → ∀ (m_13 : Int), m_13 = IntKind.u32.wrap (m_12.tmod 100 * 2) → ∀ (m_14 :
 Int), m_14 = IntKind.u32.wrap (m_12.tdiv 100) → ∀ (m_15 : Int), m_15 = m_13 → iteP (inRange (IntKind.u32.wrap (m_15 + 1)) 200) (iteP (inRange m_13 200) (iteP (decide (n < 0)) (K (AV.sc (Value.string (ByteArray.mk (Array.mk [(45 : UInt8), UInt8.ofNat (byteAt twoTab m_13).toNat, UInt8.ofNat (byteAt
 twoTab (IntKind.u32.wrap (m_15 + 1))).toNat, UInt8.ofNat (byteAt twoTab m_6).toNat, UInt8.ofNat (byteAt twoTab m_11).toNat, UInt8.ofNat (byteAt twoTab m_7).toNat, UInt8.ofNat (byteAt twoTab m_10).toNat, UInt8.ofNat (byteAt twoTab m).toNat, UInt8.ofNat (byteAt twoTab m_9).toNat, UInt8.ofNat (byteAt twoTab m_5).toNat, UInt8.ofNat
 (byteAt twoTab m_8).toNat]))))) (K (AV.sc (Value.string (ByteArray.mk (Array.mk [UInt8.ofNat (byteAt twoTab m_13).toNat, UInt8.ofNat (byteAt twoTab (IntKind.u32.wrap (m_15 + 1))).toNat, UInt8.ofNat (byteAt twoTab m_6).toNat, UInt8.ofNat (byteAt twoTab m_11).toNat, UInt8.ofNat (byteAt twoTab m_7).toNat, UInt8.ofNat (byteAt twoTab
 m_10).toNat, UInt8.ofNat (byteAt twoTab m).toNat, UInt8.ofNat (byteAt twoTab m_9).toNat, UInt8.ofNat (byteAt twoTab m_5).toNat, UInt8.ofNat (byteAt twoTab m_8).toNat])))))) False) False) False) False) False) False) False) False) False) False) ((1000000000 ≤ m ∧ m < 10000000000) ∧ ∀ (_ : Unit), True → ∀ (m_1 :
 Int), m_1 = IntKind.u32.wrap (m.tmod 100000000) → ∀ (m_2 : Int), m_2 = IntKind.u64.wrap (m.tdiv 100000000) → ∀ (m : Int), m = IntKind.u32.wrap (m_1.tdiv 10000) → ∀ (m_3 : Int), m_3 = m_1.tmod 10000 → ∀ (m_4 : Int), m_4 = IntKind.u32.wrap (IntKind.u32.wrap (m_3.tdiv 100) * 2) → ∀ (m_5 : Int),
 m_5 = IntKind.u32.wrap (m_3.tmod 100 * 2) → ∀ (m_6 : Int), m_6 = IntKind.u32.wrap (IntKind.u32.wrap (m.tdiv 100) * 2) → ∀ (m_7 : Int), m_7 = IntKind.u32.wrap (m.tmod 100 * 2) → ∀ (m : Int), m = IntKind.u32.wrap (m_5 + 1) → iteP (inRange m 200) (iteP (inRange m_5 200) (∀
 (m_8 : Int), m_8 = IntKind.u32.wrap (m_4 + 1) → iteP (inRange m_8 200) (iteP (inRange m_4 200) (∀ (m_9 : Int), m_9 = IntKind.u32.wrap (m_7 + (1 : Int)) → iteP (inRange m_9 200) (iteP (inRange m_7 200) (∀ (m_10 : Int), m_10 = IntKind.u32.wrap (m_6 + 1) → iteP (inRange m_10 200) (iteP
 (inRange m_6 200) (∀ (m_11 : Int), m_11 = IntKind.u32.wrap m_2 → ∀ (m_12 : Int), m_12 = IntKind.u32.wrap (m_11.tmod 100 * 2) → ∀ (m_13 : Int), m_13 = IntKind.u32.wrap (m_11.tdiv 100) → ∀ (m_14 : Int), m_14 = m_12 → iteP (inRange (IntKind.u32.wrap (m_14 + 1)) 200) (iteP (inRange m_12 (200 :
 Nat)) (iteP (decide (n < 0)) (K (AV.sc (Value.string (ByteArray.mk (Array.mk [(45 : UInt8), UInt8.ofNat (byteAt twoTab m_12).toNat, UInt8.ofNat (byteAt twoTab (IntKind.u32.wrap (m_14 + 1))).toNat, UInt8.ofNat (byteAt twoTab m_6).toNat, UInt8.ofNat (byteAt twoTab m_10).toNat, UInt8.ofNat (byteAt twoTab m_7).toNat,
 UInt8.ofNat (byteAt twoTab m_9).toNat, UInt8.ofNat (byteAt twoTab m_4).toNat, UInt8.ofNat (byteAt twoTab m_8).toNat, UInt8.ofNat (byteAt twoTab m_5).toNat, UInt8.ofNat (byteAt twoTab m).toNat]))))) (K (AV.sc (Value.string (ByteArray.mk (Array.mk [UInt8.ofNat (byteAt twoTab m_12).toNat, UInt8.ofNat (byteAt twoTab (IntKind.u32.wrap (m_14 +
 1))).toNat, UInt8.ofNat (byteAt twoTab m_6).toNat, UInt8.ofNat (byteAt twoTab m_10).toNat, UInt8.ofNat (byteAt twoTab m_7).toNat, UInt8.ofNat (byteAt twoTab m_9).toNat, UInt8.ofNat (byteAt twoTab m_4).toNat, UInt8.ofNat (byteAt twoTab m_8).toNat, UInt8.ofNat (byteAt twoTab m_5).toNat, UInt8.ofNat (byteAt twoTab m).toNat]))))))
 False) False) False) False) False) False) False) False) False) False))) : (fun (n : Int) (K : AV → Prop) => wpCall (Dk 10) Door.cfg Tryz.prog 60 74 [aK .i64 n, aK .i64 10] heapF fun r h' => wpBack h' r K) n K :=
 Eq.mp (by kernel_rfl) h
end
end Go.Proofs.Pr
namespace Go.Proofs.Pr
open Go Go.Ef
noncomputable section
set_option maxRecDepth 100000
theorem d96 (u : Int) (K : AV → Prop) (h : iteP (decide (4294967296 ≤ u)) (iteP (decide (65536 ≤ u.fdiv 4294967296)) (iteP (decide (256 ≤
 (u.fdiv 4294967296).fdiv 65536)) (iteP (inRange (IntKind.u8.wrap (((u.fdiv 4294967296).fdiv 65536).fdiv 256)) 256) (K (AV.sc (Value.int IntKind.i64 (IntKind.i64.wrap (56 + IntKind.i64.wrap (byteAt lenTab (IntKind.u8.wrap (((u.fdiv 4294967296).fdiv 65536).fdiv (256
 : Int))))))))) False) (iteP (inRange (IntKind.u8.wrap ((u.fdiv 4294967296).fdiv 65536)) 256) (K (AV.sc (Value.int IntKind.i64 (IntKind.i64.wrap (48 + IntKind.i64.wrap (byteAt lenTab (IntKind.u8.wrap ((u.fdiv 4294967296).fdiv 65536)))))))) False)) (iteP (decide (256 ≤ u.fdiv
 4294967296)) (iteP (inRange (IntKind.u8.wrap ((u.fdiv 4294967296).fdiv 256)) 256) (K (AV.sc (Value.int IntKind.i64 (IntKind.i64.wrap ((40 : Int) + IntKind.i64.wrap (byteAt lenTab (IntKind.u8.wrap ((u.fdiv 4294967296).fdiv 256)))))))) False) (iteP (inRange (IntKind.u8.wrap (u.fdiv (4294967296 :
 Int))) 256) (K (AV.sc (Value.int IntKind.i64 (IntKind.i64.wrap (32 + IntKind.i64.wrap (byteAt lenTab (IntKind.u8.wrap (u.fdiv 4294967296)))))))) False))) (iteP (decide (65536 ≤ u)) (iteP (decide (256 ≤ u.fdiv 65536)) (iteP (inRange (IntKind.u8.wrap ((u.fdiv 65536).fdiv 256))
 256) (K (AV.sc (Value.int IntKind.i64 (IntKind.i64.wrap (24 + IntKind.i64.wrap (byteAt lenTab (IntKind.u8.wrap ((u.fdiv 65536).fdiv (256 : Int))))))))) False) (iteP (inRange (IntKind.u8.wrap (u.fdiv 65536)) 256) (K (AV.sc (Value.int IntKind.i64 (IntKind.i64.wrap (16 + IntKind.i64.wrap
 (byteAt lenTab (IntKind.u8.wrap (u.fdiv 65536)))))))) False)) (iteP (decide (256 ≤ u)) (iteP (inRange (IntKind.u8.wrap (u.fdiv 256)) 256) (K (AV.sc (Value.int IntKind.i64 (IntKind.i64.wrap (8 + IntKind.i64.wrap (byteAt lenTab (IntKind.u8.wrap (u.fdiv 256)))))))) False) (iteP (inRange
 (IntKind.u8.wrap u) 256) (K (AV.sc (Value.int IntKind.i64 (IntKind.i64.wrap (0 + IntKind.i64.wrap (byteAt lenTab (IntKind.u8.wrap u))))))) False)))) : (fun (u : Int) (K : AV → Prop) => wpCall tab0 Door.cfg Tryz.prog 60 108 [aK .u64 u] heapF fun r h' => wpBack h' r K) u K :=
 Eq.mp (by kernel_rfl) h
theorem d83 (u : Int) (K : AV → Prop) (h : (1 ≤ u ∧ u < 17179869184) ∧ ∀ (x : Int), LenP u x → iteP (decide ((IntKind.i64.wrap (x * 78913)).fdiv
 (262144 : Int) = 19)) (iteP (decide (10000000000000000000 ≤ u)) (K (AV.sc (Value.int IntKind.i64 (IntKind.i64.wrap ((IntKind.i64.wrap (x * (78913 : Int))).fdiv 262144 + 1))))) (K (AV.sc (Value.int IntKind.i64 (IntKind.i64.wrap ((IntKind.i64.wrap (x * 78913)).fdiv 262144 + (0 :
 Int))))))) (iteP (decide ((IntKind.i64.wrap (x * 78913)).fdiv (262144 : Int) = 18)) (iteP (decide (1000000000000000000 ≤ u)) (K (AV.sc (Value.int IntKind.i64 (IntKind.i64.wrap ((IntKind.i64.wrap (x * 78913)).fdiv 262144 + 1))))) (K (AV.sc (Value.int IntKind.i64 (IntKind.i64.wrap
 ((IntKind.i64.wrap (x * 78913)).fdiv 262144 + 0)))))) (iteP (decide ((IntKind.i64.wrap (x * 78913)).fdiv (262144 : Int) = 17)) (iteP (decide (100000000000000000 ≤ u)) (K (AV.sc (Value.int IntKind.i64 (IntKind.i64.wrap ((IntKind.i64.wrap (x * 78913)).fdiv 262144 + (1 :
 Int)))))) (K (AV.sc (Value.int IntKind.i64 (IntKind.i64.wrap ((IntKind.i64.wrap (x * 78913)).fdiv 262144 + 0)))))) (iteP (decide ((IntKind.i64.wrap (x * 78913)).fdiv (262144 : Int) = 16)) (iteP (decide (10000000000000000 ≤ u)) (K (AV.sc (Value.int IntKind.i64 (IntKind.i64.wrap
 ((IntKind.i64.wrap (x * 78913)).fdiv 262144 + 1))))) (K (AV.sc (Value.int IntKind.i64 (IntKind.i64.wrap ((IntKind.i64.wrap (x * (78913 : Int))).fdiv 262144 + 0)))))) (iteP (decide ((IntKind.i64.wrap (x * 78913)).fdiv (262144 : Int) = 15)) (iteP (decide ((1000000000000000 :
 Int) ≤ u)) (K (AV.sc (Value.int IntKind.i64 (IntKind.i64.wrap ((IntKind.i64.wrap (x * 78913)).fdiv 262144 + 1))))) (K (AV.sc (Value.int IntKind.i64 (IntKind.i64.wrap ((IntKind.i64.wrap (x * 78913)).fdiv 262144 + 0)))))) (iteP (decide ((IntKind.i64.wrap (x * 78913)).fdiv 262144 =
 14)) (iteP (decide (100000000000000 ≤ u)) (K (AV.sc (Value.int IntKind.i64 (IntKind.i64.wrap ((IntKind.i64.wrap (x * 78913)).fdiv 262144 + 1))))) (K (AV.sc (Value.int IntKind.i64 (IntKind.i64.wrap ((IntKind.i64.wrap (x * 78913)).fdiv 262144 + 0)))))) (iteP (decide
 ((IntKind.i64.wrap (x * 78913)).fdiv (262144 : Int) = 13)) (iteP (decide (10000000000000 ≤ u)) (K (AV.sc (Value.int IntKind.i64 (IntKind.i64.wrap ((IntKind.i64.wrap (x * 78913)).fdiv 262144 + 1))))) (K (AV.sc (Value.int IntKind.i64 (IntKind.i64.wrap ((IntKind.i64.wrap (x * (78913 :
 Int))).fdiv 262144 + 0)))))) (iteP (decide ((IntKind.i64.wrap (x * 78913)).fdiv (262144 : Int) = 12)) (iteP (decide (1000000000000 ≤ u)) (K (AV.sc (Value.int IntKind.i64 (IntKind.i64.wrap ((IntKind.i64.wrap (x * 78913)).fdiv 262144 + 1))))) (K (AV.sc (Value.int IntKind.i64
 (IntKind.i64.wrap ((IntKind.i64.wrap (x * 78913)).fdiv 262144 + 0)))))) (iteP (decide ((IntKind.i64.wrap (x * 78913)).fdiv 262144 = 11)) (iteP (decide (100000000000 ≤ u)) (K (AV.sc (Value.int IntKind.i64 (IntKind.i64.wrap ((IntKind.i64.wrap (x * 78913)).fdiv 262144 + (1 : Int)))))) (K (AV.sc (Value.int IntKind.i64 (IntKind.i64.wrap ((IntKind.i64.wrap (x * 78913)).fdiv 262144 + 0)))))) (iteP (decide
 ((IntKind.i64.wrap (x * 78913)).fdiv (262144 : Int) = 10)) (iteP (decide (10000000000 ≤ u)) (K (AV.sc (Value.int IntKind.i64 (IntKind.i64.wrap ((IntKind.i64.wrap (x * 78913)).fdiv 262144 + 1))))) (K (AV.sc (Value.int IntKind.i64 (IntKind.i64.wrap ((IntKind.i64.wrap (x * (78913 :
 Int))).fdiv 262144 + 0)))))) (iteP (decide ((IntKind.i64.wrap (x * 78913)).fdiv (262144 : Int) = 9)) (iteP (decide (1000000000 ≤ u)) (K (AV.sc (Value.int IntKind.i64 (IntKind.i64.wrap ((IntKind.i64.wrap (x * 78913)).fdiv 262144 + 1))))) (K (AV.sc (Value.int IntKind.i64 (IntKind.i64.wrap ((IntKind.i64.wrap (x * 78913)).fdiv 262144 + 0)))))) (iteP (decide ((IntKind.i64.wrap (x * 78913)).fdiv 262144 =
 8)) (iteP (decide (100000000 ≤ u)) (K (AV.sc (Value.int IntKind.i64 (IntKind.i64.wrap ((IntKind.i64.wrap (x * 78913)).fdiv 262144 + (1 : Int)))))) (K (AV.sc (Value.int IntKind.i64 (IntKind.i64.wrap ((IntKind.i64.wrap (x * 78913)).fdiv 262144 + 0)))))) (iteP (decide ((IntKind.i64.wrap
 (x * 78913)).fdiv (262144 : Int) = 7)) (iteP (decide (10000000 ≤ u)) (K (AV.sc (Value.int IntKind.i64 (IntKind.i64.wrap ((IntKind.i64.wrap (x * 78913)).fdiv 262144 + 1))))) (K (AV.sc (Value.int IntKind.i64 (IntKind.i64.wrap ((IntKind.i64.wrap (x * 78913)).fdiv 262144 + (0 :
 Int))))))) (iteP (decide ((IntKind.i64.wrap (x * 78913)).fdiv (262144 : Int) = 6)) (iteP (decide (1000000 ≤ u)) (K (AV.sc (Value.int IntKind.i64 (IntKind.i64.wrap ((IntKind.i64.wrap (x * 78913)).fdiv 262144 + 1))))) (K (AV.sc (Value.int IntKind.i64 (IntKind.i64.wrap ((IntKind.i64.wrap (x *
 78913)).fdiv 262144 + 0)))))) (iteP (decide ((IntKind.i64.wrap (x * 78913)).fdiv (262144 : Int) = 5)) (iteP (decide (100000 ≤ u)) (K (AV.sc (Value.int IntKind.i64 (IntKind.i64.wrap ((IntKind.i64.wrap (x * 78913)).fdiv 262144 + 1))))) (K (AV.sc (Value.int IntKind.i64 (IntKind.i64.wrap ((IntKind.i64.wrap (x * 78913)).fdiv 262144 + 0)))))) (iteP (decide ((IntKind.i64.wrap (x * 78913)).fdiv 262144 =
 4)) (iteP (decide (10000 ≤ u)) (K (AV.sc (Value.int IntKind.i64 (IntKind.i64.wrap ((IntKind.i64.wrap (x * 78913)).fdiv 262144 + (1 : Int)))))) (K (AV.sc (Value.int IntKind.i64 (IntKind.i64.wrap ((IntKind.i64.wrap (x * 78913)).fdiv 262144 + 0)))))) (iteP (decide ((IntKind.i64.wrap
 (x * 78913)).fdiv (262144 : Int) = 3)) (iteP (decide (1000 ≤ u)) (K (AV.sc (Value.int IntKind.i64 (IntKind.i64.wrap ((IntKind.i64.wrap (x * (78913 : Int))).fdiv 262144 + 1))))) (K (AV.sc (Value.int IntKind.i64 (IntKind.i64.wrap ((IntKind.i64.wrap (x * 78913)).fdiv 262144 + (0 :
 Int))))))) (iteP (decide ((IntKind.i64.wrap (x * 78913)).fdiv (262144 : Int) = 2)) (iteP (decide (100 ≤ u)) (K (AV.sc (Value.int IntKind.i64 (IntKind.i64.wrap ((IntKind.i64.wrap (x * 78913)).fdiv 262144 + 1))))) (K (AV.sc (Value.int IntKind.i64 (IntKind.i64.wrap ((IntKind.i64.wrap (x *
 78913)).fdiv 262144 + 0)))))) (iteP (decide ((IntKind.i64.wrap (x * 78913)).fdiv (262144 : Int) = 1)) (iteP (decide (10 ≤ u)) (K (AV.sc (Value.int IntKind.i64 (IntKind.i64.wrap ((IntKind.i64.wrap (x * 78913)).fdiv 262144 + 1))))) (K (AV.sc (Value.int IntKind.i64 (IntKind.i64.wrap ((IntKind.i64.wrap (x * 78913)).fdiv 262144 + 0)))))) (iteP (decide ((IntKind.i64.wrap (x * 78913)).fdiv 262144 =
 0)) (iteP (decide (1 ≤ u)) (K (AV.sc (Value.int IntKind.i64 (IntKind.i64.wrap ((IntKind.i64.wrap (x * 78913)).fdiv 262144 + 1))))) (K (AV.sc (Value.int IntKind.i64 (IntKind.i64.wrap ((IntKind.i64.wrap (x * 78913)).fdiv 262144 + 0)))))) False)))))))))))))))))))) : (fun (u : Int) (K : AV → Prop) => wpCall D0 Door.cfg Tryz.prog 60 95 [aK .u64 u] heapF fun r h' => wpBack h' r K) u K :=
 Eq.mp (by kernel_rfl) h
end
end Go.Proofs.Pr
namespace Go.Proofs.Pr
open Go Go.Ef
noncomputable section
set_option maxRecDepth 100000
theorem td {a c : Int} (h : 0 ≤ a) : a.tdiv c = a / c := Int.tdiv_eq_ediv_of_nonneg h
theorem tm {a c : Int} (h : 0 ≤ a) : a.tmod c = a % c := Int.tmod_eq_emod_of_nonneg h
theorem w32_in {x : Int} (h1 : 0 ≤ x) (h2 : x ≤ 4294967295) : IntKind.u32.wrap x = x := by
 have e : IntKind.u32.bits = 32 := rfl
 have g : IntKind.u32.signed = false := rfl
 have e1 : (2 : Int) ^ 32 = 4294967296 := by decide
 simp only [IntKind.wrap, e, g, e1, Bool.false_and, Bool.false_eq_true, if_false]
 omega
theorem w64_in {x : Int} (h1 : 0 ≤ x) (h2 : x ≤ 18446744073709551615) : IntKind.u64.wrap x = x := by rw [wrapU64]; omega
def twoOk (x : Nat) : Bool := decide (byteAt twoTab ((x : Int) * 2) = 48 + ((x / 10 : Nat) : Int)) && decide (byteAt twoTab ((x : Int) * 2 + 1) = 48 + ((x % 10 : Nat) : Int))
theorem two_all : (List.range 100).all twoOk = true := by decide +kernel
theorem two_ok {x : Int} (h1 : 0 ≤ x) (h2 : x < 100) : byteAt twoTab (x * 2) = 48 + x / 10 ∧ byteAt twoTab (x * 2 + 1) = 48 + x % 10 := by
 obtain ⟨k, rfl⟩ := Int.eq_ofNat_of_zero_le h1
 have := List.all_eq_true.1 two_all k (by simp; omega)
 unfold twoOk at this
 simp only [Bool.and_eq_true, decide_eq_true_eq] at this
 refine ⟨this.1.trans (by omega), this.2.trans (by omega)⟩
theorem dg_of {z : Int} {d : Nat} (h : z = 48 + (d : Int)) (hd : d < 10) : UInt8.ofNat z.toNat = digitC d := by
 subst h
 unfold digitC
 rw [if_pos hd, show (48 + (d : Int)).toNat = 48 + d by omega]
theorem dig_step {f n : Nat} {acc : List UInt8} (h : ¬ n < 10) : digitsL 10 (f + 1) n acc = digitsL 10 f (n / 10) (digitC (n % 10) :: acc) := if_neg h
theorem dig_last {f n : Nat} {acc : List UInt8} (h : n < 10) : digitsL 10 (f + 1) n acc = digitC n :: acc := if_pos h
theorem dec_3 (n : Int) (h1 : 100 ≤ n) (h2 : n ≤ 999) (K : AV → Prop) (hk : K (aStr (fmtN 10 n.toNat))) : wpCall (Dk 3) Door.cfg Tryz.prog 60 74 [aK .i64 n, aK .i64 10] heapF fun r h' => wpBack h' r K := by
 refine d67_3 n K ?_
 have hneg : decide (n < (0 : Int)) = false := decide_eq_false (by omega)
 rw [decide_eq_true (show (0 : Int) ≤ n by omega), iteP_t, decide_eq_false (show ¬ n < (100 : Int) by omega), iteP_f]
 intro a1 h1
 have e1 : a1 = n := by simp (disch := omega) only [h1, w64_in]
 rw [hneg, iteP_f]
 refine ⟨by rw [e1]; omega, ?_⟩
 intro _ _
 intro a2 h2
 have e2 : a2 = n := by simp (disch := omega) only [h2, e1, w32_in]
 intro a3 h3
 have e3 : a3 = ((n % 100) * 2) := by simp (disch := omega) only [h3, e2, tm, w32_in]
 intro a4 h4
 have e4 : a4 = (n / 100) := by simp (disch := omega) only [h4, e2, td, w32_in]
 intro a5 h5
 have e5 : a5 = ((n % 100) * 2) := by simp (disch := omega) only [h5, e3]
 have e6 : (IntKind.u32.wrap (a5 + (1 : Int))) = (((n % 100) * 2) + 1) := by simp (disch := omega) only [e5, w32_in]
 rw [show inRange (IntKind.u32.wrap (a5 + (1 : Int))) 200 = true by rw [inRange_iff, e6]; omega, iteP_t]
 rw [show inRange a3 200 = true by rw [inRange_iff, e3]; omega, iteP_t]
 intro a7 h7
 have e7 : a7 = (48 + (n / 100)) := by simp (disch := omega) only [h7, e4, w32_in, wrap8_in]
 rw [iteP_f]
 have d0 : UInt8.ofNat a7.toNat = digitC (n.toNat / 100) := dg_of (by rw [e7]; omega) (by omega)
 have d1 : UInt8.ofNat (byteAt twoTab a3).toNat = digitC (n.toNat / 10 % 10) := dg_of (by rw [e3, (two_ok (x := (n % 100)) (by omega) (by omega)).1]; omega) (by omega)
 have d2 : UInt8.ofNat (byteAt twoTab (IntKind.u32.wrap (a5 + (1 : Int)))).toNat = digitC (n.toNat % 10) := dg_of (by rw [e6, (two_ok (x := (n % 100)) (by omega) (by omega)).2]; omega) (by omega)
 have f : fmtN 10 n.toNat = [digitC (n.toNat / 100), digitC (n.toNat / 10 % 10), digitC (n.toNat % 10)] := by
  unfold fmtN
  rw [dig_step (by omega), dig_step (by omega), dig_last (by omega)]
  simp only [Nat.div_div_eq_div_mul]
 rw [f] at hk
 rw [d0, d1, d2]
 exact hk
theorem dec_4 (n : Int) (h1 : 1000 ≤ n) (h2 : n ≤ 9999) (K : AV → Prop) (hk : K (aStr (fmtN 10 n.toNat))) : wpCall (Dk 4) Door.cfg Tryz.prog 60 74 [aK .i64 n, aK .i64 10] heapF fun r h' => wpBack h' r K := by
 refine d67_4 n K ?_
 have hneg : decide (n < (0 : Int)) = false := decide_eq_false (by omega)
 rw [decide_eq_true (show (0 : Int) ≤ n by omega), iteP_t, decide_eq_false (show ¬ n < (100 : Int) by omega), iteP_f]
 intro a1 h1
 have e1 : a1 = n := by simp (disch := omega) only [h1, w64_in]
 rw [hneg, iteP_f]
 refine ⟨by rw [e1]; omega, ?_⟩
 intro _ _
 intro a2 h2
 have e2 : a2 = n := by simp (disch := omega) only [h2, e1, w32_in]
 intro a3 h3
 have e3 : a3 = (n % 10000) := by simp (disch := omega) only [h3, e2, tm]
 intro a4 h4
 have e4 : a4 = (n / 10000) := by simp (disch := omega) only [h4, e2, td, w32_in]
 intro a5 h5
 have e5 : a5 = (((n % 10000) / 100) * 2) := by simp (disch := omega) only [h5, e3, td, w32_in]
 intro a6 h6
 have e6 : a6 = (((n % 10000) % 100) * 2) := by simp (disch := omega) only [h6, e3, tm, w32_in]
 intro a7 h7
 have e7 : a7 = ((((n % 10000) % 100) * 2) + 1) := by simp (disch := omega) only [h7, e6, w32_in]
 rw [show inRange a7 200 = true by rw [inRange_iff, e7]; omega, iteP_t]
 rw [show inRange a6 200 = true by rw [inRange_iff, e6]; omega, iteP_t]
 intro a8 h8
 have e8 : a8 = ((((n % 10000) / 100) * 2) + 1) := by simp (disch := omega) only [h8, e5, w32_in]
 rw [show inRange a8 200 = true by rw [inRange_iff, e8]; omega, iteP_t]
 rw [show inRange a5 200 = true by rw [inRange_iff, e5]; omega, iteP_t]
 rw [iteP_f]
 have d0 : UInt8.ofNat (byteAt twoTab a5).toNat = digitC (n.toNat / 1000) := dg_of (by rw [e5, (two_ok (x := ((n % 10000) / 100)) (by omega) (by omega)).1]; omega) (by omega)
 have d1 : UInt8.ofNat (byteAt twoTab a8).toNat = digitC (n.toNat / 100 % 10) := dg_of (by rw [e8, (two_ok (x := ((n % 10000) / 100)) (by omega) (by omega)).2]; omega) (by omega)
 have d2 : UInt8.ofNat (byteAt twoTab a6).toNat = digitC (n.toNat / 10 % 10) := dg_of (by rw [e6, (two_ok (x := ((n % 10000) % 100)) (by omega) (by omega)).1]; omega) (by omega)
 have d3 : UInt8.ofNat (byteAt twoTab a7).toNat = digitC (n.toNat % 10) := dg_of (by rw [e7, (two_ok (x := ((n % 10000) % 100)) (by omega) (by omega)).2]; omega) (by omega)
 have f : fmtN 10 n.toNat = [digitC (n.toNat / 1000), digitC (n.toNat / 100 % 10), digitC (n.toNat / 10 % 10), digitC (n.toNat % 10)] := by
  unfold fmtN
  rw [dig_step (by omega), dig_step (by omega), dig_step (by omega), dig_last (by omega)]
  simp only [Nat.div_div_eq_div_mul]
 rw [f] at hk
 rw [d0, d1, d2, d3]
 exact hk
theorem dec_5 (n : Int) (h1 : 10000 ≤ n) (h2 : n ≤ 99999) (K : AV → Prop) (hk : K (aStr (fmtN 10 n.toNat))) : wpCall (Dk 5) Door.cfg Tryz.prog 60 74 [aK .i64 n, aK .i64 10] heapF fun r h' => wpBack h' r K := by
 refine d67_5 n K ?_
 have hneg : decide (n < (0 : Int)) = false := decide_eq_false (by omega)
 rw [decide_eq_true (show (0 : Int) ≤ n by omega), iteP_t, decide_eq_false (show ¬ n < (100 : Int) by omega), iteP_f]
 intro a1 h1
 have e1 : a1 = n := by simp (disch := omega) only [h1, w64_in]
 rw [hneg, iteP_f]
 refine ⟨by rw [e1]; omega, ?_⟩
 intro _ _
 intro a2 h2
 have e2 : a2 = n := by simp (disch := omega) only [h2, e1, w32_in]
 intro a3 h3
 have e3 : a3 = (n % 10000) := by simp (disch := omega) only [h3, e2, tm]
 intro a4 h4
 have e4 : a4 = (n / 10000) := by simp (disch := omega) only [h4, e2, td, w32_in]
 intro a5 h5
 have e5 : a5 = (((n % 10000) / 100) * 2) := by simp (disch := omega) only [h5, e3, td, w32_in]
 intro a6 h6
 have e6 : a6 = (((n % 10000) % 100) * 2) := by simp (disch := omega) only [h6, e3, tm, w32_in]
 intro a7 h7
 have e7 : a7 = ((((n % 10000) % 100) * 2) + 1) := by simp (disch := omega) only [h7, e6, w32_in]
 rw [show inRange a7 200 = true by rw [inRange_iff, e7]; omega, iteP_t]
 rw [show inRange a6 200 = true by rw [inRange_iff, e6]; omega, iteP_t]
 intro a8 h8
 have e8 : a8 = ((((n % 10000) / 100) * 2) + 1) := by simp (disch := omega) only [h8, e5, w32_in]
 rw [show inRange a8 200 = true by rw [inRange_iff, e8]; omega, iteP_t]
 rw [show inRange a5 200 = true by rw [inRange_iff, e5]; omega, iteP_t]
 intro a9 h9
 have e9 : a9 = (48 + (n / 10000)) := by simp (disch := omega) only [h9, e4, w32_in, wrap8_in]
 rw [iteP_f]
 have d0 : UInt8.ofNat a9.toNat = digitC (n.toNat / 10000) := dg_of (by rw [e9]; omega) (by omega)
 have d1 : UInt8.ofNat (byteAt twoTab a5).toNat = digitC (n.toNat / 1000 % 10) := dg_of (by rw [e5, (two_ok (x := ((n % 10000) / 100)) (by omega) (by omega)).1]; omega) (by omega)
 have d2 : UInt8.ofNat (byteAt twoTab a8).toNat = digitC (n.toNat / 100 % 10) := dg_of (by rw [e8, (two_ok (x := ((n % 10000) / 100)) (by omega) (by omega)).2]; omega) (by omega)
 have d3 : UInt8.ofNat (byteAt twoTab a6).toNat = digitC (n.toNat / 10 % 10) := dg_of (by rw [e6, (two_ok (x := ((n % 10000) % 100)) (by omega) (by omega)).1]; omega) (by omega)
 have d4 : UInt8.ofNat (byteAt twoTab a7).toNat = digitC (n.toNat % 10) := dg_of (by rw [e7, (two_ok (x := ((n % 10000) % 100)) (by omega) (by omega)).2]; omega) (by omega)
 have f : fmtN 10 n.toNat = [digitC (n.toNat / 10000), digitC (n.toNat / 1000 % 10), digitC (n.toNat / 100 % 10), digitC (n.toNat / 10 % 10), digitC (n.toNat % 10)] := by
  unfold fmtN
  rw [dig_step (by omega), dig_step (by omega), dig_step (by omega), dig_step (by omega), dig_last (by omega)]
  simp only [Nat.div_div_eq_div_mul]
 rw [f] at hk
 rw [d0, d1, d2, d3, d4]
 exact hk
theorem dec_6 (n : Int) (h1 : 100000 ≤ n) (h2 : n ≤ 999999) (K : AV → Prop) (hk : K (aStr (fmtN 10 n.toNat))) : wpCall (Dk 6) Door.cfg Tryz.prog 60 74 [aK .i64 n, aK .i64 10] heapF fun r h' => wpBack h' r K := by
 refine d67_6 n K ?_
 have hneg : decide (n < (0 : Int)) = false := decide_eq_false (by omega)
 rw [decide_eq_true (show (0 : Int) ≤ n by omega), iteP_t, decide_eq_false (show ¬ n < (100 : Int) by omega), iteP_f]
 intro a1 h1
 have e1 : a1 = n := by simp (disch := omega) only [h1, w64_in]
 rw [hneg, iteP_f]
 refine ⟨by rw [e1]; omega, ?_⟩
 intro _ _
 intro a2 h2
 have e2 : a2 = n := by simp (disch := omega) only [h2, e1, w32_in]
 intro a3 h3
 have e3 : a3 = (n % 10000) := by simp (disch := omega) only [h3, e2, tm]
 intro a4 h4
 have e4 : a4 = (n / 10000) := by simp (disch := omega) only [h4, e2, td, w32_in]
 intro a5 h5
 have e5 : a5 = (((n % 10000) / 100) * 2) := by simp (disch := omega) only [h5, e3, td, w32_in]
 intro a6 h6
 have e6 : a6 = (((n % 10000) % 100) * 2) := by simp (disch := omega) only [h6, e3, tm, w32_in]
 intro a7 h7
 have e7 : a7 = ((((n % 10000) % 100) * 2) + 1) := by simp (disch := omega) only [h7, e6, w32_in]
 rw [show inRange a7 200 = true by rw [inRange_iff, e7]; omega, iteP_t]
 rw [show inRange a6 200 = true by rw [inRange_iff, e6]; omega, iteP_t]
 intro a8 h8
 have e8 : a8 = ((((n % 10000) / 100) * 2) + 1) := by simp (disch := omega) only [h8, e5, w32_in]
 rw [show inRange a8 200 = true by rw [inRange_iff, e8]; omega, iteP_t]
 rw [show inRange a5 200 = true by rw [inRange_iff, e5]; omega, iteP_t]
 intro a9 h9
 have e9 : a9 = (((n / 10000) % 100) * 2) := by simp (disch := omega) only [h9, e4, tm, w32_in]
 intro a10 h10
 have e10 : a10 = ((n / 10000) / 100) := by simp (disch := omega) only [h10, e4, td, w32_in]
 intro a11 h11
 have e11 : a11 = (((n / 10000) % 100) * 2) := by simp (disch := omega) only [h11, e9]
 have e12 : (IntKind.u32.wrap (a11 + (1 : Int))) = ((((n / 10000) % 100) * 2) + 1) := by simp (disch := omega) only [e11, w32_in]
 rw [show inRange (IntKind.u32.wrap (a11 + (1 : Int))) 200 = true by rw [inRange_iff, e12]; omega, iteP_t]
 rw [show inRange a9 200 = true by rw [inRange_iff, e9]; omega, iteP_t]
 rw [iteP_f]
 have d0 : UInt8.ofNat (byteAt twoTab a9).toNat = digitC (n.toNat / 100000) := dg_of (by rw [e9, (two_ok (x := ((n / 10000) % 100)) (by omega) (by omega)).1]; omega) (by omega)
 have d1 : UInt8.ofNat (byteAt twoTab (IntKind.u32.wrap (a11 + (1 : Int)))).toNat = digitC (n.toNat / 10000 % 10) := dg_of (by rw [e12, (two_ok (x := ((n / 10000) % 100)) (by omega) (by omega)).2]; omega) (by omega)
 have d2 : UInt8.ofNat (byteAt twoTab a5).toNat = digitC (n.toNat / 1000 % 10) := dg_of (by rw [e5, (two_ok (x := ((n % 10000) / 100)) (by omega) (by omega)).1]; omega) (by omega)
 have d3 : UInt8.ofNat (byteAt twoTab a8).toNat = digitC (n.toNat / 100 % 10) := dg_of (by rw [e8, (two_ok (x := ((n % 10000) / 100)) (by omega) (by omega)).2]; omega) (by omega)
 have d4 : UInt8.ofNat (byteAt twoTab a6).toNat = digitC (n.toNat / 10 % 10) := dg_of (by rw [e6, (two_ok (x := ((n % 10000) % 100)) (by omega) (by omega)).1]; omega) (by omega)
 have d5 : UInt8.ofNat (byteAt twoTab a7).toNat = digitC (n.toNat % 10) := dg_of (by rw [e7, (two_ok (x := ((n % 10000) % 100)) (by omega) (by omega)).2]; omega) (by omega)
 have f : fmtN 10 n.toNat = [digitC (n.toNat / 100000), digitC (n.toNat / 10000 % 10), digitC (n.toNat / 1000 % 10), digitC (n.toNat / 100 % 10), digitC (n.toNat / 10 % 10), digitC (n.toNat % 10)] := by
  unfold fmtN
  rw [dig_step (by omega), dig_step (by omega), dig_step (by omega), dig_step (by omega), dig_step (by omega), dig_last (by omega)]
  simp only [Nat.div_div_eq_div_mul]
 rw [f] at hk
 rw [d0, d1, d2, d3, d4, d5]
 exact hk
theorem dec_7 (n : Int) (h1 : 1000000 ≤ n) (h2 : n ≤ 9999999) (K : AV → Prop) (hk : K (aStr (fmtN 10 n.toNat))) : wpCall (Dk 7) Door.cfg Tryz.prog 60 74 [aK .i64 n, aK .i64 10] heapF fun r h' => wpBack h' r K := by
 refine d67_7 n K ?_
 have hneg : decide (n < (0 : Int)) = false := decide_eq_false (by omega)
 rw [decide_eq_true (show (0 : Int) ≤ n by omega), iteP_t, decide_eq_false (show ¬ n < (100 : Int) by omega), iteP_f]
 intro a1 h1
 have e1 : a1 = n := by simp (disch := omega) only [h1, w64_in]
 rw [hneg, iteP_f]
 refine ⟨by rw [e1]; omega, ?_⟩
 intro _ _
 intro a2 h2
 have e2 : a2 = n := by simp (disch := omega) only [h2, e1, w32_in]
 intro a3 h3
 have e3 : a3 = (n % 10000) := by simp (disch := omega) only [h3, e2, tm]
 intro a4 h4
 have e4 : a4 = (n / 10000) := by simp (disch := omega) only [h4, e2, td, w32_in]
 intro a5 h5
 have e5 : a5 = (((n % 10000) / 100) * 2) := by simp (disch := omega) only [h5, e3, td, w32_in]
 intro a6 h6
 have e6 : a6 = (((n % 10000) % 100) * 2) := by simp (disch := omega) only [h6, e3, tm, w32_in]
 intro a7 h7
 have e7 : a7 = ((((n % 10000) % 100) * 2) + 1) := by simp (disch := omega) only [h7, e6, w32_in]
 rw [show inRange a7 200 = true by rw [inRange_iff, e7]; omega, iteP_t]
 rw [show inRange a6 200 = true by rw [inRange_iff, e6]; omega, iteP_t]
 intro a8 h8
 have e8 : a8 = ((((n % 10000) / 100) * 2) + 1) := by simp (disch := omega) only [h8, e5, w32_in]
 rw [show inRange a8 200 = true by rw [inRange_iff, e8]; omega, iteP_t]
 rw [show inRange a5 200 = true by rw [inRange_iff, e5]; omega, iteP_t]
 intro a9 h9
 have e9 : a9 = (((n / 10000) % 100) * 2) := by simp (disch := omega) only [h9, e4, tm, w32_in]
 intro a10 h10
 have e10 : a10 = ((n / 10000) / 100) := by simp (disch := omega) only [h10, e4, td, w32_in]
 intro a11 h11
 have e11 : a11 = (((n / 10000) % 100) * 2) := by simp (disch := omega) only [h11, e9]
 have e12 : (IntKind.u32.wrap (a11 + (1 : Int))) = ((((n / 10000) % 100) * 2) + 1) := by simp (disch := omega) only [e11, w32_in]
 rw [show inRange (IntKind.u32.wrap (a11 + (1 : Int))) 200 = true by rw [inRange_iff, e12]; omega, iteP_t]
 rw [show inRange a9 200 = true by rw [inRange_iff, e9]; omega, iteP_t]
 intro a13 h13
 have e13 : a13 = (48 + ((n / 10000) / 100)) := by simp (disch := omega) only [h13, e10, w32_in, wrap8_in]
 rw [iteP_f]
 have d0 : UInt8.ofNat a13.toNat = digitC (n.toNat / 1000000) := dg_of (by rw [e13]; omega) (by omega)
 have d1 : UInt8.ofNat (byteAt twoTab a9).toNat = digitC (n.toNat / 100000 % 10) := dg_of (by rw [e9, (two_ok (x := ((n / 10000) % 100)) (by omega) (by omega)).1]; omega) (by omega)
 have d2 : UInt8.ofNat (byteAt twoTab (IntKind.u32.wrap (a11 + (1 : Int)))).toNat = digitC (n.toNat / 10000 % 10) := dg_of (by rw [e12, (two_ok (x := ((n / 10000) % 100)) (by omega) (by omega)).2]; omega) (by omega)
 have d3 : UInt8.ofNat (byteAt twoTab a5).toNat = digitC (n.toNat / 1000 % 10) := dg_of (by rw [e5, (two_ok (x := ((n % 10000) / 100)) (by omega) (by omega)).1]; omega) (by omega)
 have d4 : UInt8.ofNat (byteAt twoTab a8).toNat = digitC (n.toNat / 100 % 10) := dg_of (by rw [e8, (two_ok (x := ((n % 10000) / 100)) (by omega) (by omega)).2]; omega) (by omega)
 have d5 : UInt8.ofNat (byteAt twoTab a6).toNat = digitC (n.toNat / 10 % 10) := dg_of (by rw [e6, (two_ok (x := ((n % 10000) % 100)) (by omega) (by omega)).1]; omega) (by omega)
 have d6 : UInt8.ofNat (byteAt twoTab a7).toNat = digitC (n.toNat % 10) := dg_of (by rw [e7, (two_ok (x := ((n % 10000) % 100)) (by omega) (by omega)).2]; omega) (by omega)
 have f : fmtN 10 n.toNat = [digitC (n.toNat / 1000000), digitC (n.toNat / 100000 % 10), digitC (n.toNat / 10000 % 10), digitC (n.toNat / 1000 % 10), digitC (n.toNat / 100 % 10), digitC (n.toNat / 10 % 10), digitC (n.toNat % 10)] := by
  unfold fmtN
  rw [dig_step (by omega), dig_step (by omega), dig_step (by omega), dig_step (by omega), dig_step (by omega), dig_step (by omega), dig_last (by omega)]
  simp only [Nat.div_div_eq_div_mul]
 rw [f] at hk
 rw [d0, d1, d2, d3, d4, d5, d6]
 exact hk
theorem dec_8 (n : Int) (h1 : 10000000 ≤ n) (h2 : n ≤ 99999999) (K : AV → Prop) (hk : K (aStr (fmtN 10 n.toNat))) : wpCall (Dk 8) Door.cfg Tryz.prog 60 74 [aK .i64 n, aK .i64 10] heapF fun r h' => wpBack h' r K := by
 refine d67_8 n K ?_
 have hneg : decide (n < (0 : Int)) = false := decide_eq_false (by omega)
 rw [decide_eq_true (show (0 : Int) ≤ n by omega), iteP_t, decide_eq_false (show ¬ n < (100 : Int) by omega), iteP_f]
 intro a1 h1
 have e1 : a1 = n := by simp (disch := omega) only [h1, w64_in]
 rw [hneg, iteP_f]
 refine ⟨by rw [e1]; omega, ?_⟩
 intro _ _
 intro a2 h2
 have e2 : a2 = (n % 100000000) := by simp (disch := omega) only [h2, e1, tm, w32_in]
 intro a3 h3
 have e3 : a3 = (n / 100000000) := by simp (disch := omega) only [h3, e1, td, w64_in]
 intro a4 h4
 have e4 : a4 = ((n % 100000000) / 10000) := by simp (disch := omega) only [h4, e2, td, w32_in]
 intro a5 h5
 have e5 : a5 = ((n % 100000000) % 10000) := by simp (disch := omega) only [h5, e2, tm]
 intro a6 h6
 have e6 : a6 = ((((n % 100000000) % 10000) / 100) * 2) := by simp (disch := omega) only [h6, e5, td, w32_in]
 intro a7 h7
 have e7 : a7 = ((((n % 100000000) % 10000) % 100) * 2) := by simp (disch := omega) only [h7, e5, tm, w32_in]
 intro a8 h8
 have e8 : a8 = ((((n % 100000000) / 10000) / 100) * 2) := by simp (disch := omega) only [h8, e4, td, w32_in]
 intro a9 h9
 have e9 : a9 = ((((n % 100000000) / 10000) % 100) * 2) := by simp (disch := omega) only [h9, e4, tm, w32_in]
 intro a10 h10
 have e10 : a10 = (((((n % 100000000) % 10000) % 100) * 2) + 1) := by simp (disch := omega) only [h10, e7, w32_in]
 rw [show inRange a10 200 = true by rw [inRange_iff, e10]; omega, iteP_t]
 rw [show inRange a7 200 = true by rw [inRange_iff, e7]; omega, iteP_t]
 intro a11 h11
 have e11 : a11 = (((((n % 100000000) % 10000) / 100) * 2) + 1) := by simp (disch := omega) only [h11, e6, w32_in]
 rw [show inRange a11 200 = true by rw [inRange_iff, e11]; omega, iteP_t]
 rw [show inRange a6 200 = true by rw [inRange_iff, e6]; omega, iteP_t]
 intro a12 h12
 have e12 : a12 = (((((n % 100000000) / 10000) % 100) * 2) + 1) := by simp (disch := omega) only [h12, e9, w32_in]
 rw [show inRange a12 200 = true by rw [inRange_iff, e12]; omega, iteP_t]
 rw [show inRange a9 200 = true by rw [inRange_iff, e9]; omega, iteP_t]
 intro a13 h13
 have e13 : a13 = (((((n % 100000000) / 10000) / 100) * 2) + 1) := by simp (disch := omega) only [h13, e8, w32_in]
 rw [show inRange a13 200 = true by rw [inRange_iff, e13]; omega, iteP_t]
 rw [show inRange a8 200 = true by rw [inRange_iff, e8]; omega, iteP_t]
 intro a14 h14
 have e14 : a14 = (n / 100000000) := by simp (disch := omega) only [h14, e3, w32_in]
 rw [iteP_f]
 have d0 : UInt8.ofNat (byteAt twoTab a8).toNat = digitC (n.toNat / 10000000) := dg_of (by rw [e8, (two_ok (x := (((n % 100000000) / 10000) / 100)) (by omega) (by omega)).1]; omega) (by omega)
 have d1 : UInt8.ofNat (byteAt twoTab a13).toNat = digitC (n.toNat / 1000000 % 10) := dg_of (by rw [e13, (two_ok (x := (((n % 100000000) / 10000) / 100)) (by omega) (by omega)).2]; omega) (by omega)
 have d2 : UInt8.ofNat (byteAt twoTab a9).toNat = digitC (n.toNat / 100000 % 10) := dg_of (by rw [e9, (two_ok (x := (((n % 100000000) / 10000) % 100)) (by omega) (by omega)).1]; omega) (by omega)
 have d3 : UInt8.ofNat (byteAt twoTab a12).toNat = digitC (n.toNat / 10000 % 10) := dg_of (by rw [e12, (two_ok (x := (((n % 100000000) / 10000) % 100)) (by omega) (by omega)).2]; omega) (by omega)
 have d4 : UInt8.ofNat (byteAt twoTab a6).toNat = digitC (n.toNat / 1000 % 10) := dg_of (by rw [e6, (two_ok (x := (((n % 100000000) % 10000) / 100)) (by omega) (by omega)).1]; omega) (by omega)
 have d5 : UInt8.ofNat (byteAt twoTab a11).toNat = digitC (n.toNat / 100 % 10) := dg_of (by rw [e11, (two_ok (x := (((n % 100000000) % 10000) / 100)) (by omega) (by omega)).2]; omega) (by omega)
 have d6 : UInt8.ofNat (byteAt twoTab a7).toNat = digitC (n.toNat / 10 % 10) := dg_of (by rw [e7, (two_ok (x := (((n % 100000000) % 10000) % 100)) (by omega) (by omega)).1]; omega) (by omega)
 have d7 : UInt8.ofNat (byteAt twoTab a10).toNat = digitC (n.toNat % 10) := dg_of (by rw [e10, (two_ok (x := (((n % 100000000) % 10000) % 100)) (by omega) (by omega)).2]; omega) (by omega)
 have f : fmtN 10 n.toNat = [digitC (n.toNat / 10000000), digitC (n.toNat / 1000000 % 10), digitC (n.toNat / 100000 % 10), digitC (n.toNat / 10000 % 10), digitC (n.toNat / 1000 % 10), digitC (n.toNat / 100 % 10), digitC (n.toNat / 10 % 10), digitC (n.toNat % 10)] := by
  unfold fmtN
  rw [dig_step (by omega), dig_step (by omega), dig_step (by omega), dig_step (by omega), dig_step (by omega), dig_step (by omega), dig_step (by omega), dig_last (by omega)]
  simp only [Nat.div_div_eq_div_mul]
 rw [f] at hk
 rw [d0, d1, d2, d3, d4, d5, d6, d7]
 exact hk
theorem dec_9 (n : Int) (h1 : 100000000 ≤ n) (h2 : n ≤ 999999999) (K : AV → Prop) (hk : K (aStr (fmtN 10 n.toNat))) : wpCall (Dk 9) Door.cfg Tryz.prog 60 74 [aK .i64 n, aK .i64 10] heapF fun r h' => wpBack h' r K := by
 refine d67_9 n K ?_
 have hneg : decide (n < (0 : Int)) = false := decide_eq_false (by omega)
 rw [decide_eq_true (show (0 : Int) ≤ n by omega), iteP_t, decide_eq_false (show ¬ n < (100 : Int) by omega), iteP_f]
 intro a1 h1
 have e1 : a1 = n := by simp (disch := omega) only [h1, w64_in]
 rw [hneg, iteP_f]
 refine ⟨by rw [e1]; omega, ?_⟩
 intro _ _
 intro a2 h2
 have e2 : a2 = (n % 100000000) := by simp (disch := omega) only [h2, e1, tm, w32_in]
 intro a3 h3
 have e3 : a3 = (n / 100000000) := by simp (disch := omega) only [h3, e1, td, w64_in]
 intro a4 h4
 have e4 : a4 = ((n % 100000000) / 10000) := by simp (disch := omega) only [h4, e2, td, w32_in]
 intro a5 h5
 have e5 : a5 = ((n % 100000000) % 10000) := by simp (disch := omega) only [h5, e2, tm]
 intro a6 h6
 have e6 : a6 = ((((n % 100000000) % 10000) / 100) * 2) := by simp (disch := omega) only [h6, e5, td, w32_in]
 intro a7 h7
 have e7 : a7 = ((((n % 100000000) % 10000) % 100) * 2) := by simp (disch := omega) only [h7, e5, tm, w32_in]
 intro a8 h8
 have e8 : a8 = ((((n % 100000000) / 10000) / 100) * 2) := by simp (disch := omega) only [h8, e4, td, w32_in]
 intro a9 h9
 have e9 : a9 = ((((n % 100000000) / 10000) % 100) * 2) := by simp (disch := omega) only [h9, e4, tm, w32_in]
 intro a10 h10
 have e10 : a10 = (((((n % 100000000) % 10000) % 100) * 2) + 1) := by simp (disch := omega) only [h10, e7, w32_in]
 rw [show inRange a10 200 = true by rw [inRange_iff, e10]; omega, iteP_t]
 rw [show inRange a7 200 = true by rw [inRange_iff, e7]; omega, iteP_t]
 intro a11 h11
 have e11 : a11 = (((((n % 100000000) % 10000) / 100) * 2) + 1) := by simp (disch := omega) only [h11, e6, w32_in]
 rw [show inRange a11 200 = true by rw [inRange_iff, e11]; omega, iteP_t]
 rw [show inRange a6 200 = true by rw [inRange_iff, e6]; omega, iteP_t]
 intro a12 h12
 have e12 : a12 = (((((n % 100000000) / 10000) % 100) * 2) + 1) := by simp (disch := omega) only [h12, e9, w32_in]
 rw [show inRange a12 200 = true by rw [inRange_iff, e12]; omega, iteP_t]
 rw [show inRange a9 200 = true by rw [inRange_iff, e9]; omega, iteP_t]
 intro a13 h13
 have e13 : a13 = (((((n % 100000000) / 10000) / 100) * 2) + 1) := by simp (disch := omega) only [h13, e8, w32_in]
 rw [show inRange a13 200 = true by rw [inRange_iff, e13]; omega, iteP_t]
 rw [show inRange a8 200 = true by rw [inRange_iff, e8]; omega, iteP_t]
 intro a14 h14
 have e14 : a14 = (n / 100000000) := by simp (disch := omega) only [h14, e3, w32_in]
 intro a15 h15
 have e15 : a15 = (48 + (n / 100000000)) := by simp (disch := omega) only [h15, e14, w32_in, wrap8_in]
 rw [iteP_f]
 have d0 : UInt8.ofNat a15.toNat = digitC (n.toNat / 100000000) := dg_of (by rw [e15]; omega) (by omega)
 have d1 : UInt8.ofNat (byteAt twoTab a8).toNat = digitC (n.toNat / 10000000 % 10) := dg_of (by rw [e8, (two_ok (x := (((n % 100000000) / 10000) / 100)) (by omega) (by omega)).1]; omega) (by omega)
 have d2 : UInt8.ofNat (byteAt twoTab a13).toNat = digitC (n.toNat / 1000000 % 10) := dg_of (by rw [e13, (two_ok (x := (((n % 100000000) / 10000) / 100)) (by omega) (by omega)).2]; omega) (by omega)
 have d3 : UInt8.ofNat (byteAt twoTab a9).toNat = digitC (n.toNat / 100000 % 10) := dg_of (by rw [e9, (two_ok (x := (((n % 100000000) / 10000) % 100)) (by omega) (by omega)).1]; omega) (by omega)
 have d4 : UInt8.ofNat (byteAt twoTab a12).toNat = digitC (n.toNat / 10000 % 10) := dg_of (by rw [e12, (two_ok (x := (((n % 100000000) / 10000) % 100)) (by omega) (by omega)).2]; omega) (by omega)
 have d5 : UInt8.ofNat (byteAt twoTab a6).toNat = digitC (n.toNat / 1000 % 10) := dg_of (by rw [e6, (two_ok (x := (((n % 100000000) % 10000) / 100)) (by omega) (by omega)).1]; omega) (by omega)
 have d6 : UInt8.ofNat (byteAt twoTab a11).toNat = digitC (n.toNat / 100 % 10) := dg_of (by rw [e11, (two_ok (x := (((n % 100000000) % 10000) / 100)) (by omega) (by omega)).2]; omega) (by omega)
 have d7 : UInt8.ofNat (byteAt twoTab a7).toNat = digitC (n.toNat / 10 % 10) := dg_of (by rw [e7, (two_ok (x := (((n % 100000000) % 10000) % 100)) (by omega) (by omega)).1]; omega) (by omega)
 have d8 : UInt8.ofNat (byteAt twoTab a10).toNat = digitC (n.toNat % 10) := dg_of (by rw [e10, (two_ok (x := (((n % 100000000) % 10000) % 100)) (by omega) (by omega)).2]; omega) (by omega)
 have f : fmtN 10 n.toNat = [digitC (n.toNat / 100000000), digitC (n.toNat / 10000000 % 10), digitC (n.toNat / 1000000 % 10), digitC (n.toNat / 100000 % 10), digitC (n.toNat / 10000 % 10), digitC (n.toNat / 1000 % 10), digitC (n.toNat / 100 % 10), digitC (n.toNat / 10 % 10), digitC (n.toNat % 10)] := by
  unfold fmtN
  rw [dig_step (by omega), dig_step (by omega), dig_step (by omega), dig_step (by omega), dig_step (by omega), dig_step (by omega), dig_step (by omega), dig_step (by omega), dig_last (by omega)]
  simp only [Nat.div_div_eq_div_mul]
 rw [f] at hk
 rw [d0, d1, d2, d3, d4, d5, d6, d7, d8]
 exact hk
theorem dec_10 (n : Int) (h1 : 1000000000 ≤ n) (h2 : n ≤ 4294967295) (K : AV → Prop) (hk : K (aStr (fmtN 10 n.toNat))) : wpCall (Dk 10) Door.cfg Tryz.prog 60 74 [aK .i64 n, aK .i64 10] heapF fun r h' => wpBack h' r K := by
 refine d67_10 n K ?_
 have hneg : decide (n < (0 : Int)) = false := decide_eq_false (by omega)
 rw [decide_eq_true (show (0 : Int) ≤ n by omega), iteP_t, decide_eq_false (show ¬ n < (100 : Int) by omega), iteP_f]
 intro a1 h1
 have e1 : a1 = n := by simp (disch := omega) only [h1, w64_in]
 rw [hneg, iteP_f]
 refine ⟨by rw [e1]; omega, ?_⟩
 intro _ _
 intro a2 h2
 have e2 : a2 = (n % 100000000) := by simp (disch := omega) only [h2, e1, tm, w32_in]
 intro a3 h3
 have e3 : a3 = (n / 100000000) := by simp (disch := omega) only [h3, e1, td, w64_in]
 intro a4 h4
 have e4 : a4 = ((n % 100000000) / 10000) := by simp (disch := omega) only [h4, e2, td, w32_in]
 intro a5 h5
 have e5 : a5 = ((n % 100000000) % 10000) := by simp (disch := omega) only [h5, e2, tm]
 intro a6 h6
 have e6 : a6 = ((((n % 100000000) % 10000) / 100) * 2) := by simp (disch := omega) only [h6, e5, td, w32_in]
 intro a7 h7
 have e7 : a7 = ((((n % 100000000) % 10000) % 100) * 2) := by simp (disch := omega) only [h7, e5, tm, w32_in]
 intro a8 h8
 have e8 : a8 = ((((n % 100000000) / 10000) / 100) * 2) := by simp (disch := omega) only [h8, e4, td, w32_in]
 intro a9 h9
 have e9 : a9 = ((((n % 100000000) / 10000) % 100) * 2) := by simp (disch := omega) only [h9, e4, tm, w32_in]
 intro a10 h10
 have e10 : a10 = (((((n % 100000000) % 10000) % 100) * 2) + 1) := by simp (disch := omega) only [h10, e7, w32_in]
 rw [show inRange a10 200 = true by rw [inRange_iff, e10]; omega, iteP_t]
 rw [show inRange a7 200 = true by rw [inRange_iff, e7]; omega, iteP_t]
 intro a11 h11
 have e11 : a11 = (((((n % 100000000) % 10000) / 100) * 2) + 1) := by simp (disch := omega) only [h11, e6, w32_in]
 rw [show inRange a11 200 = true by rw [inRange_iff, e11]; omega, iteP_t]
 rw [show inRange a6 200 = true by rw [inRange_iff, e6]; omega, iteP_t]
 intro a12 h12
 have e12 : a12 = (((((n % 100000000) / 10000) % 100) * 2) + 1) := by simp (disch := omega) only [h12, e9, w32_in]
 rw [show inRange a12 200 = true by rw [inRange_iff, e12]; omega, iteP_t]
 rw [show inRange a9 200 = true by rw [inRange_iff, e9]; omega, iteP_t]
 intro a13 h13
 have e13 : a13 = (((((n % 100000000) / 10000) / 100) * 2) + 1) := by simp (disch := omega) only [h13, e8, w32_in]
 rw [show inRange a13 200 = true by rw [inRange_iff, e13]; omega, iteP_t]
 rw [show inRange a8 200 = true by rw [inRange_iff, e8]; omega, iteP_t]
 intro a14 h14
 have e14 : a14 = (n / 100000000) := by simp (disch := omega) only [h14, e3, w32_in]
 intro a15 h15
 have e15 : a15 = (((n / 100000000) % 100) * 2) := by simp (disch := omega) only [h15, e14, tm, w32_in]
 intro a16 h16
 have e16 : a16 = ((n / 100000000) / 100) := by simp (disch := omega) only [h16, e14, td, w32_in]
 intro a17 h17
 have e17 : a17 = (((n / 100000000) % 100) * 2) := by simp (disch := omega) only [h17, e15]
 have e18 : (IntKind.u32.wrap (a17 + (1 : Int))) = ((((n / 100000000) % 100) * 2) + 1) := by simp (disch := omega) only [e17, w32_in]
 rw [show inRange (IntKind.u32.wrap (a17 + (1 : Int))) 200 = true by rw [inRange_iff, e18]; omega, iteP_t]
 rw [show inRange a15 200 = true by rw [inRange_iff, e15]; omega, iteP_t]
 rw [iteP_f]
 have d0 : UInt8.ofNat (byteAt twoTab a15).toNat = digitC (n.toNat / 1000000000) := dg_of (by rw [e15, (two_ok (x := ((n / 100000000) % 100)) (by omega) (by omega)).1]; omega) (by omega)
 have d1 : UInt8.ofNat (byteAt twoTab (IntKind.u32.wrap (a17 + (1 : Int)))).toNat = digitC (n.toNat / 100000000 % 10) := dg_of (by rw [e18, (two_ok (x := ((n / 100000000) % 100)) (by omega) (by omega)).2]; omega) (by omega)
 have d2 : UInt8.ofNat (byteAt twoTab a8).toNat = digitC (n.toNat / 10000000 % 10) := dg_of (by rw [e8, (two_ok (x := (((n % 100000000) / 10000) / 100)) (by omega) (by omega)).1]; omega) (by omega)
 have d3 : UInt8.ofNat (byteAt twoTab a13).toNat = digitC (n.toNat / 1000000 % 10) := dg_of (by rw [e13, (two_ok (x := (((n % 100000000) / 10000) / 100)) (by omega) (by omega)).2]; omega) (by omega)
 have d4 : UInt8.ofNat (byteAt twoTab a9).toNat = digitC (n.toNat / 100000 % 10) := dg_of (by rw [e9, (two_ok (x := (((n % 100000000) / 10000) % 100)) (by omega) (by omega)).1]; omega) (by omega)
 have d5 : UInt8.ofNat (byteAt twoTab a12).toNat = digitC (n.toNat / 10000 % 10) := dg_of (by rw [e12, (two_ok (x := (((n % 100000000) / 10000) % 100)) (by omega) (by omega)).2]; omega) (by omega)
 have d6 : UInt8.ofNat (byteAt twoTab a6).toNat = digitC (n.toNat / 1000 % 10) := dg_of (by rw [e6, (two_ok (x := (((n % 100000000) % 10000) / 100)) (by omega) (by omega)).1]; omega) (by omega)
 have d7 : UInt8.ofNat (byteAt twoTab a11).toNat = digitC (n.toNat / 100 % 10) := dg_of (by rw [e11, (two_ok (x := (((n % 100000000) % 10000) / 100)) (by omega) (by omega)).2]; omega) (by omega)
 have d8 : UInt8.ofNat (byteAt twoTab a7).toNat = digitC (n.toNat / 10 % 10) := dg_of (by rw [e7, (two_ok (x := (((n % 100000000) % 10000) % 100)) (by omega) (by omega)).1]; omega) (by omega)
 have d9 : UInt8.ofNat (byteAt twoTab a10).toNat = digitC (n.toNat % 10) := dg_of (by rw [e10, (two_ok (x := (((n % 100000000) % 10000) % 100)) (by omega) (by omega)).2]; omega) (by omega)
 have f : fmtN 10 n.toNat = [digitC (n.toNat / 1000000000), digitC (n.toNat / 100000000 % 10), digitC (n.toNat / 10000000 % 10), digitC (n.toNat / 1000000 % 10), digitC (n.toNat / 100000 % 10), digitC (n.toNat / 10000 % 10), digitC (n.toNat / 1000 % 10), digitC (n.toNat / 100 % 10), digitC (n.toNat / 10 % 10), digitC (n.toNat % 10)] := by
  unfold fmtN
  rw [dig_step (by omega), dig_step (by omega), dig_step (by omega), dig_step (by omega), dig_step (by omega), dig_step (by omega), dig_step (by omega), dig_step (by omega), dig_step (by omega), dig_last (by omega)]
  simp only [Nat.div_div_eq_div_mul]
 rw [f] at hk
 rw [d0, d1, d2, d3, d4, d5, d6, d7, d8, d9]
 exact hk
end
end Go.Proofs.Pr
namespace Go.Proofs.Pr
open Go Go.Ef
noncomputable section
set_option maxRecDepth 100000
def lenOk (y : Int) : Bool := (decide (byteAt lenTab y = 1) && decide (1 ≤ y) && decide (y < 2)) || (decide (byteAt lenTab y = 2) && decide (2 ≤ y) && decide (y < 4)) || (decide (byteAt lenTab y = 3) && decide (4 ≤ y) && decide (y < 8)) || (decide (byteAt lenTab y = 4) && decide (8 ≤ y) && decide (y < 16)) || (decide (byteAt lenTab y = 5) && decide (16 ≤ y) && decide (y < 32)) || (decide (byteAt lenTab y = 6) && decide (32 ≤ y) && decide (y < 64)) || (decide (byteAt lenTab y = 7) && decide (64 ≤ y) && decide (y < 128)) || (decide (byteAt lenTab y = 8) && decide (128 ≤ y) && decide (y < 256))
theorem len_all : (List.range 255).all (fun k => lenOk ((k : Int) + 1)) = true := by decide +kernel
theorem len_cases {y : Int} (h1 : 1 ≤ y) (h2 : y ≤ 255) : (byteAt lenTab y = 1 ∧ 1 ≤ y ∧ y < 2) ∨ (byteAt lenTab y = 2 ∧ 2 ≤ y ∧ y < 4) ∨ (byteAt lenTab y = 3 ∧ 4 ≤ y ∧ y < 8) ∨ (byteAt lenTab y = 4 ∧ 8 ≤ y ∧ y < 16) ∨ (byteAt lenTab y = 5 ∧ 16 ≤ y ∧ y < 32) ∨ (byteAt lenTab y = 6 ∧ 32 ≤ y ∧ y < 64) ∨ (byteAt lenTab y = 7 ∧ 64 ≤ y ∧ y < 128) ∨ (byteAt lenTab y = 8 ∧ 128 ≤ y ∧ y < 256) := by
 obtain ⟨k, hk⟩ := Int.eq_ofNat_of_zero_le (show 0 ≤ y - 1 by omega)
 obtain rfl : y = (k : Int) + 1 := by omega
 have := List.all_eq_true.1 len_all k (by simp; omega)
 unfold lenOk at this
 simp only [Bool.or_eq_true, Bool.and_eq_true, decide_eq_true_eq, and_assoc, or_assoc] at this
 exact this
theorem len_0 {u y : Int} (hy : y = u / 1) (h1 : 1 ≤ y) (h2 : y ≤ 255) : LenP u (0 + byteAt lenTab y) := by
 rcases len_cases h1 (by omega) with h | h | h | h | h | h | h | h <;> obtain ⟨e, a, b⟩ := h <;> rw [e]
 ·exact ⟨(.inl ⟨by omega, by omega, by omega⟩)⟩
 ·exact ⟨(.inr (.inl ⟨by omega, by omega, by omega⟩))⟩
 ·exact ⟨(.inr (.inr (.inl ⟨by omega, by omega, by omega⟩)))⟩
 ·exact ⟨(.inr (.inr (.inr (.inl ⟨by omega, by omega, by omega⟩))))⟩
 ·exact ⟨(.inr (.inr (.inr (.inr (.inl ⟨by omega, by omega, by omega⟩)))))⟩
 ·exact ⟨(.inr (.inr (.inr (.inr (.inr (.inl ⟨by omega, by omega, by omega⟩))))))⟩
 ·exact ⟨(.inr (.inr (.inr (.inr (.inr (.inr (.inl ⟨by omega, by omega, by omega⟩)))))))⟩
 ·exact ⟨(.inr (.inr (.inr (.inr (.inr (.inr (.inr (.inl ⟨by omega, by omega, by omega⟩))))))))⟩
theorem len_8 {u y : Int} (hy : y = u / 256) (h1 : 1 ≤ y) (h2 : y ≤ 255) : LenP u (8 + byteAt lenTab y) := by
 rcases len_cases h1 (by omega) with h | h | h | h | h | h | h | h <;> obtain ⟨e, a, b⟩ := h <;> rw [e]
 ·exact ⟨(.inr (.inr (.inr (.inr (.inr (.inr (.inr (.inr (.inl ⟨by omega, by omega, by omega⟩)))))))))⟩
 ·exact ⟨(.inr (.inr (.inr (.inr (.inr (.inr (.inr (.inr (.inr (.inl ⟨by omega, by omega, by omega⟩))))))))))⟩
 ·exact ⟨(.inr (.inr (.inr (.inr (.inr (.inr (.inr (.inr (.inr (.inr (.inl ⟨by omega, by omega, by omega⟩)))))))))))⟩
 ·exact ⟨(.inr (.inr (.inr (.inr (.inr (.inr (.inr (.inr (.inr (.inr (.inr (.inl ⟨by omega, by omega, by omega⟩))))))))))))⟩
 ·exact ⟨(.inr (.inr (.inr (.inr (.inr (.inr (.inr (.inr (.inr (.inr (.inr (.inr (.inl ⟨by omega, by omega, by omega⟩)))))))))))))⟩
 ·exact ⟨(.inr (.inr (.inr (.inr (.inr (.inr (.inr (.inr (.inr (.inr (.inr (.inr (.inr (.inl ⟨by omega, by omega, by omega⟩))))))))))))))⟩
 ·exact ⟨(.inr (.inr (.inr (.inr (.inr (.inr (.inr (.inr (.inr (.inr (.inr (.inr (.inr (.inr (.inl ⟨by omega, by omega, by omega⟩)))))))))))))))⟩
 ·exact ⟨(.inr (.inr (.inr (.inr (.inr (.inr (.inr (.inr (.inr (.inr (.inr (.inr (.inr (.inr (.inr (.inl ⟨by omega, by omega, by omega⟩))))))))))))))))⟩
theorem len_16 {u y : Int} (hy : y = u / 65536) (h1 : 1 ≤ y) (h2 : y ≤ 255) : LenP u (16 + byteAt lenTab y) := by
 rcases len_cases h1 (by omega) with h | h | h | h | h | h | h | h <;> obtain ⟨e, a, b⟩ := h <;> rw [e]
 ·exact ⟨(.inr (.inr (.inr (.inr (.inr (.inr (.inr (.inr (.inr (.inr (.inr (.inr (.inr (.inr (.inr (.inr (.inl ⟨by omega, by omega, by omega⟩)))))))))))))))))⟩
 ·exact ⟨(.inr (.inr (.inr (.inr (.inr (.inr (.inr (.inr (.inr (.inr (.inr (.inr (.inr (.inr (.inr (.inr (.inr (.inl ⟨by omega, by omega, by omega⟩))))))))))))))))))⟩
 ·exact ⟨(.inr (.inr (.inr (.inr (.inr (.inr (.inr (.inr (.inr (.inr (.inr (.inr (.inr (.inr (.inr (.inr (.inr (.inr (.inl ⟨by omega, by omega, by omega⟩)))))))))))))))))))⟩
 ·exact ⟨(.inr (.inr (.inr (.inr (.inr (.inr (.inr (.inr (.inr (.inr (.inr (.inr (.inr (.inr (.inr (.inr (.inr (.inr (.inr (.inl ⟨by omega, by omega, by omega⟩))))))))))))))))))))⟩
 ·exact ⟨(.inr (.inr (.inr (.inr (.inr (.inr (.inr (.inr (.inr (.inr (.inr (.inr (.inr (.inr (.inr (.inr (.inr (.inr (.inr (.inr (.inl ⟨by omega, by omega, by omega⟩)))))))))))))))))))))⟩
 ·exact ⟨(.inr (.inr (.inr (.inr (.inr (.inr (.inr (.inr (.inr (.inr (.inr (.inr (.inr (.inr (.inr (.inr (.inr (.inr (.inr (.inr (.inr (.inl ⟨by omega, by omega, by omega⟩))))))))))))))))))))))⟩
 ·exact ⟨(.inr (.inr (.inr (.inr (.inr (.inr (.inr (.inr (.inr (.inr (.inr (.inr (.inr (.inr (.inr (.inr (.inr (.inr (.inr (.inr (.inr (.inr (.inl ⟨by omega, by omega, by omega⟩)))))))))))))))))))))))⟩
 ·exact ⟨(.inr (.inr (.inr (.inr (.inr (.inr (.inr (.inr (.inr (.inr (.inr (.inr (.inr (.inr (.inr (.inr (.inr (.inr (.inr (.inr (.inr (.inr (.inr (.inl ⟨by omega, by omega, by omega⟩))))))))))))))))))))))))⟩
theorem len_24 {u y : Int} (hy : y = u / 16777216) (h1 : 1 ≤ y) (h2 : y ≤ 255) : LenP u (24 + byteAt lenTab y) := by
 rcases len_cases h1 (by omega) with h | h | h | h | h | h | h | h <;> obtain ⟨e, a, b⟩ := h <;> rw [e]
 ·exact ⟨(.inr (.inr (.inr (.inr (.inr (.inr (.inr (.inr (.inr (.inr (.inr (.inr (.inr (.inr (.inr (.inr (.inr (.inr (.inr (.inr (.inr (.inr (.inr (.inr (.inl ⟨by omega, by omega, by omega⟩)))))))))))))))))))))))))⟩
 ·exact ⟨(.inr (.inr (.inr (.inr (.inr (.inr (.inr (.inr (.inr (.inr (.inr (.inr (.inr (.inr (.inr (.inr (.inr (.inr (.inr (.inr (.inr (.inr (.inr (.inr (.inr (.inl ⟨by omega, by omega, by omega⟩))))))))))))))))))))))))))⟩
 ·exact ⟨(.inr (.inr (.inr (.inr (.inr (.inr (.inr (.inr (.inr (.inr (.inr (.inr (.inr (.inr (.inr (.inr (.inr (.inr (.inr (.inr (.inr (.inr (.inr (.inr (.inr (.inr (.inl ⟨by omega, by omega, by omega⟩)))))))))))))))))))))))))))⟩
 ·exact ⟨(.inr (.inr (.inr (.inr (.inr (.inr (.inr (.inr (.inr (.inr (.inr (.inr (.inr (.inr (.inr (.inr (.inr (.inr (.inr (.inr (.inr (.inr (.inr (.inr (.inr (.inr (.inr (.inl ⟨by omega, by omega, by omega⟩))))))))))))))))))))))))))))⟩
 ·exact ⟨(.inr (.inr (.inr (.inr (.inr (.inr (.inr (.inr (.inr (.inr (.inr (.inr (.inr (.inr (.inr (.inr (.inr (.inr (.inr (.inr (.inr (.inr (.inr (.inr (.inr (.inr (.inr (.inr (.inl ⟨by omega, by omega, by omega⟩)))))))))))))))))))))))))))))⟩
 ·exact ⟨(.inr (.inr (.inr (.inr (.inr (.inr (.inr (.inr (.inr (.inr (.inr (.inr (.inr (.inr (.inr (.inr (.inr (.inr (.inr (.inr (.inr (.inr (.inr (.inr (.inr (.inr (.inr (.inr (.inr (.inl ⟨by omega, by omega, by omega⟩))))))))))))))))))))))))))))))⟩
 ·exact ⟨(.inr (.inr (.inr (.inr (.inr (.inr (.inr (.inr (.inr (.inr (.inr (.inr (.inr (.inr (.inr (.inr (.inr (.inr (.inr (.inr (.inr (.inr (.inr (.inr (.inr (.inr (.inr (.inr (.inr (.inr (.inl ⟨by omega, by omega, by omega⟩)))))))))))))))))))))))))))))))⟩
 ·exact ⟨(.inr (.inr (.inr (.inr (.inr (.inr (.inr (.inr (.inr (.inr (.inr (.inr (.inr (.inr (.inr (.inr (.inr (.inr (.inr (.inr (.inr (.inr (.inr (.inr (.inr (.inr (.inr (.inr (.inr (.inr (.inr (.inl ⟨by omega, by omega, by omega⟩))))))))))))))))))))))))))))))))⟩
theorem len_32 {u y : Int} (hy : y = u / 4294967296) (h1 : 1 ≤ y) (h2 : y ≤ 3) : LenP u (32 + byteAt lenTab y) := by
 rcases len_cases h1 (by omega) with h | h | h | h | h | h | h | h <;> obtain ⟨e, a, b⟩ := h <;> rw [e]
 ·exact ⟨(.inr (.inr (.inr (.inr (.inr (.inr (.inr (.inr (.inr (.inr (.inr (.inr (.inr (.inr (.inr (.inr (.inr (.inr (.inr (.inr (.inr (.inr (.inr (.inr (.inr (.inr (.inr (.inr (.inr (.inr (.inr (.inr (.inl ⟨by omega, by omega, by omega⟩)))))))))))))))))))))))))))))))))⟩
 ·exact ⟨(.inr (.inr (.inr (.inr (.inr (.inr (.inr (.inr (.inr (.inr (.inr (.inr (.inr (.inr (.inr (.inr (.inr (.inr (.inr (.inr (.inr (.inr (.inr (.inr (.inr (.inr (.inr (.inr (.inr (.inr (.inr (.inr (.inr ⟨by omega, by omega, by omega⟩)))))))))))))))))))))))))))))))))⟩
 ·omega
 ·omega
 ·omega
 ·omega
 ·omega
 ·omega
theorem ok96 {T : Tab} (O : TabOk Tryz.prog Door.cfg T) : TabOk Tryz.prog Door.cfg (T.addC 108 C96) := by
 refine addC_ok O fun args h s hs hp => ?_
 unfold C96 at hs
 split at hs
 ·rename_i u
  refine aspec_ok (Option.some.inj hs) (fun hpre => ?_) hp
  obtain ⟨p1, p2⟩ := hpre
  refine EvP_mono (EvP.freshK tab0_ok (n := 60) (Q := fun r => ∃ x, LenP u x ∧ r = aK .i64 x) (by kernel_rfl) (by kernel_rfl) (args' := [aK .u64 u]) rfl (d96 u _ ?_)) fun v h' hv => hv
  have bb : ∀ y : Int, 0 ≤ byteAt lenTab y ∧ byteAt lenTab y ≤ 255 := fun y => byteAt_le _ _
  have fd : ∀ (a b : Int), 0 ≤ b → a.fdiv b = a / b := fun a b hb => Int.fdiv_eq_ediv_of_nonneg a hb
  by_cases c1 : (4294967296 : Int) ≤ u
  ·rw [decide_eq_true c1, iteP_t]
   have e : u.fdiv 4294967296 = u / 4294967296 := fd _ _ (by omega)
   rw [e, decide_eq_false (by omega), iteP_f, decide_eq_false (by omega), iteP_f, wrap8_in (by omega) (by omega), show inRange (u / 4294967296) 256 = true by rw [inRange_iff]; omega, iteP_t]
   have := bb (u / 4294967296)
   rw [show IntKind.i64.wrap (byteAt lenTab (u / 4294967296)) = byteAt lenTab (u / 4294967296) from wrap_in (by omega) (by omega), wrap_in (by omega) (by omega)]
   exact ⟨_, len_32 rfl (by omega) (by omega), rfl⟩
  ·rw [decide_eq_false c1, iteP_f]
   by_cases c2 : (65536 : Int) ≤ u
   ·rw [decide_eq_true c2, iteP_t]
    have e : u.fdiv 65536 = u / 65536 := fd _ _ (by omega)
    rw [e]
    by_cases c3 : (256 : Int) ≤ u / 65536
    ·rw [decide_eq_true c3, iteP_t]
     have e2 : (u / 65536).fdiv 256 = u / 16777216 := by rw [fd _ _ (by omega)]; omega
     rw [e2, wrap8_in (by omega) (by omega), show inRange (u / 16777216) 256 = true by rw [inRange_iff]; omega, iteP_t]
     have := bb (u / 16777216)
     rw [show IntKind.i64.wrap (byteAt lenTab (u / 16777216)) = byteAt lenTab (u / 16777216) from wrap_in (by omega) (by omega), wrap_in (by omega) (by omega)]
     exact ⟨_, len_24 rfl (by omega) (by omega), rfl⟩
    ·rw [decide_eq_false c3, iteP_f, wrap8_in (by omega) (by omega), show inRange (u / 65536) 256 = true by rw [inRange_iff]; omega, iteP_t]
     have := bb (u / 65536)
     rw [show IntKind.i64.wrap (byteAt lenTab (u / 65536)) = byteAt lenTab (u / 65536) from wrap_in (by omega) (by omega), wrap_in (by omega) (by omega)]
     exact ⟨_, len_16 rfl (by omega) (by omega), rfl⟩
   ·rw [decide_eq_false c2, iteP_f]
    by_cases c3 : (256 : Int) ≤ u
    ·rw [decide_eq_true c3, iteP_t]
     have e2 : u.fdiv 256 = u / 256 := fd _ _ (by omega)
     rw [e2, wrap8_in (by omega) (by omega), show inRange (u / 256) 256 = true by rw [inRange_iff]; omega, iteP_t]
     have := bb (u / 256)
     rw [show IntKind.i64.wrap (byteAt lenTab (u / 256)) = byteAt lenTab (u / 256) from wrap_in (by omega) (by omega), wrap_in (by omega) (by omega)]
     exact ⟨_, len_8 rfl (by omega) (by omega), rfl⟩
    ·rw [decide_eq_false c3, iteP_f, wrap8_in (by omega) (by omega), show inRange u 256 = true by rw [inRange_iff]; omega, iteP_t]
     have := bb u
     rw [show IntKind.i64.wrap (byteAt lenTab u) = byteAt lenTab u from wrap_in (by omega) (by omega), wrap_in (by omega) (by omega)]
     exact ⟨_, len_0 (by omega) (by omega) (by omega), rfl⟩
 ·cases hs
theorem dig_ok (u : Int) (p1 : 1 ≤ u) (p2 : u < 17179869184) : wpCall D0 Door.cfg Tryz.prog 60 95 [aK .u64 u] heapF fun r h' => wpBack h' r fun r => ∃ x, DigP u x ∧ r = aK .i64 x := by
 refine d83 u (fun r => ∃ x, DigP u x ∧ r = aK .i64 x) ⟨⟨p1, p2⟩, fun x hx => ?_⟩
 rcases hx.h with h | h | h | h | h | h | h | h | h | h | h | h | h | h | h | h | h | h | h | h | h | h | h | h | h | h | h | h | h | h | h | h | h | h <;> obtain ⟨rfl, a, b⟩ := h
 ·rw [show (IntKind.i64.wrap ((1 : Int) * 78913)).fdiv 262144 = 0 from rfl]
  show iteP (decide ((1 : Int) ≤ u)) (∃ x, DigP u x ∧ aK .i64 (1 : Int) = aK .i64 x) (∃ x, DigP u x ∧ aK .i64 (0 : Int) = aK .i64 x)
  by_cases c : (1 : Int) ≤ u
  ·rw [decide_eq_true c, iteP_t]
   exact ⟨_, ⟨(.inl ⟨rfl, by omega, by omega⟩)⟩, rfl⟩
  ·omega
 ·rw [show (IntKind.i64.wrap ((2 : Int) * 78913)).fdiv 262144 = 0 from rfl]
  show iteP (decide ((1 : Int) ≤ u)) (∃ x, DigP u x ∧ aK .i64 (1 : Int) = aK .i64 x) (∃ x, DigP u x ∧ aK .i64 (0 : Int) = aK .i64 x)
  by_cases c : (1 : Int) ≤ u
  ·rw [decide_eq_true c, iteP_t]
   exact ⟨_, ⟨(.inl ⟨rfl, by omega, by omega⟩)⟩, rfl⟩
  ·omega
 ·rw [show (IntKind.i64.wrap ((3 : Int) * 78913)).fdiv 262144 = 0 from rfl]
  show iteP (decide ((1 : Int) ≤ u)) (∃ x, DigP u x ∧ aK .i64 (1 : Int) = aK .i64 x) (∃ x, DigP u x ∧ aK .i64 (0 : Int) = aK .i64 x)
  by_cases c : (1 : Int) ≤ u
  ·rw [decide_eq_true c, iteP_t]
   exact ⟨_, ⟨(.inl ⟨rfl, by omega, by omega⟩)⟩, rfl⟩
  ·omega
 ·rw [show (IntKind.i64.wrap ((4 : Int) * 78913)).fdiv 262144 = 1 from rfl]
  show iteP (decide ((10 : Int) ≤ u)) (∃ x, DigP u x ∧ aK .i64 (2 : Int) = aK .i64 x) (∃ x, DigP u x ∧ aK .i64 (1 : Int) = aK .i64 x)
  by_cases c : (10 : Int) ≤ u
  ·rw [decide_eq_true c, iteP_t]
   exact ⟨_, ⟨(.inr (.inl ⟨rfl, by omega, by omega⟩))⟩, rfl⟩
  ·rw [decide_eq_false c, iteP_f]
   exact ⟨_, ⟨(.inl ⟨rfl, by omega, by omega⟩)⟩, rfl⟩
 ·rw [show (IntKind.i64.wrap ((5 : Int) * 78913)).fdiv 262144 = 1 from rfl]
  show iteP (decide ((10 : Int) ≤ u)) (∃ x, DigP u x ∧ aK .i64 (2 : Int) = aK .i64 x) (∃ x, DigP u x ∧ aK .i64 (1 : Int) = aK .i64 x)
  by_cases c : (10 : Int) ≤ u
  ·rw [decide_eq_true c, iteP_t]
   exact ⟨_, ⟨(.inr (.inl ⟨rfl, by omega, by omega⟩))⟩, rfl⟩
  ·rw [decide_eq_false c, iteP_f]
   exact ⟨_, ⟨(.inl ⟨rfl, by omega, by omega⟩)⟩, rfl⟩
 ·rw [show (IntKind.i64.wrap ((6 : Int) * 78913)).fdiv 262144 = 1 from rfl]
  show iteP (decide ((10 : Int) ≤ u)) (∃ x, DigP u x ∧ aK .i64 (2 : Int) = aK .i64 x) (∃ x, DigP u x ∧ aK .i64 (1 : Int) = aK .i64 x)
  by_cases c : (10 : Int) ≤ u
  ·rw [decide_eq_true c, iteP_t]
   exact ⟨_, ⟨(.inr (.inl ⟨rfl, by omega, by omega⟩))⟩, rfl⟩
  ·rw [decide_eq_false c, iteP_f]
   exact ⟨_, ⟨(.inl ⟨rfl, by omega, by omega⟩)⟩, rfl⟩
 ·rw [show (IntKind.i64.wrap ((7 : Int) * 78913)).fdiv 262144 = 2 from rfl]
  show iteP (decide ((100 : Int) ≤ u)) (∃ x, DigP u x ∧ aK .i64 (3 : Int) = aK .i64 x) (∃ x, DigP u x ∧ aK .i64 (2 : Int) = aK .i64 x)
  by_cases c : (100 : Int) ≤ u
  ·rw [decide_eq_true c, iteP_t]
   exact ⟨_, ⟨(.inr (.inr (.inl ⟨rfl, by omega, by omega⟩)))⟩, rfl⟩
  ·rw [decide_eq_false c, iteP_f]
   exact ⟨_, ⟨(.inr (.inl ⟨rfl, by omega, by omega⟩))⟩, rfl⟩
 ·rw [show (IntKind.i64.wrap ((8 : Int) * 78913)).fdiv 262144 = 2 from rfl]
  show iteP (decide ((100 : Int) ≤ u)) (∃ x, DigP u x ∧ aK .i64 (3 : Int) = aK .i64 x) (∃ x, DigP u x ∧ aK .i64 (2 : Int) = aK .i64 x)
  by_cases c : (100 : Int) ≤ u
  ·rw [decide_eq_true c, iteP_t]
   exact ⟨_, ⟨(.inr (.inr (.inl ⟨rfl, by omega, by omega⟩)))⟩, rfl⟩
  ·rw [decide_eq_false c, iteP_f]
   exact ⟨_, ⟨(.inr (.inl ⟨rfl, by omega, by omega⟩))⟩, rfl⟩
 ·rw [show (IntKind.i64.wrap ((9 : Int) * 78913)).fdiv 262144 = 2 from rfl]
  show iteP (decide ((100 : Int) ≤ u)) (∃ x, DigP u x ∧ aK .i64 (3 : Int) = aK .i64 x) (∃ x, DigP u x ∧ aK .i64 (2 : Int) = aK .i64 x)
  by_cases c : (100 : Int) ≤ u
  ·rw [decide_eq_true c, iteP_t]
   exact ⟨_, ⟨(.inr (.inr (.inl ⟨rfl, by omega, by omega⟩)))⟩, rfl⟩
  ·rw [decide_eq_false c, iteP_f]
   exact ⟨_, ⟨(.inr (.inl ⟨rfl, by omega, by omega⟩))⟩, rfl⟩
 ·rw [show (IntKind.i64.wrap ((10 : Int) * 78913)).fdiv 262144 = 3 from rfl]
  show iteP (decide ((1000 : Int) ≤ u)) (∃ x, DigP u x ∧ aK .i64 (4 : Int) = aK .i64 x) (∃ x, DigP u x ∧ aK .i64 (3 : Int) = aK .i64 x)
  by_cases c : (1000 : Int) ≤ u
  ·rw [decide_eq_true c, iteP_t]
   exact ⟨_, ⟨(.inr (.inr (.inr (.inl ⟨rfl, by omega, by omega⟩))))⟩, rfl⟩
  ·rw [decide_eq_false c, iteP_f]
   exact ⟨_, ⟨(.inr (.inr (.inl ⟨rfl, by omega, by omega⟩)))⟩, rfl⟩
 ·rw [show (IntKind.i64.wrap ((11 : Int) * 78913)).fdiv 262144 = 3 from rfl]
  show iteP (decide ((1000 : Int) ≤ u)) (∃ x, DigP u x ∧ aK .i64 (4 : Int) = aK .i64 x) (∃ x, DigP u x ∧ aK .i64 (3 : Int) = aK .i64 x)
  by_cases c : (1000 : Int) ≤ u
  ·rw [decide_eq_true c, iteP_t]
   exact ⟨_, ⟨(.inr (.inr (.inr (.inl ⟨rfl, by omega, by omega⟩))))⟩, rfl⟩
  ·rw [decide_eq_false c, iteP_f]
   exact ⟨_, ⟨(.inr (.inr (.inl ⟨rfl, by omega, by omega⟩)))⟩, rfl⟩
 ·rw [show (IntKind.i64.wrap ((12 : Int) * 78913)).fdiv 262144 = 3 from rfl]
  show iteP (decide ((1000 : Int) ≤ u)) (∃ x, DigP u x ∧ aK .i64 (4 : Int) = aK .i64 x) (∃ x, DigP u x ∧ aK .i64 (3 : Int) = aK .i64 x)
  by_cases c : (1000 : Int) ≤ u
  ·rw [decide_eq_true c, iteP_t]
   exact ⟨_, ⟨(.inr (.inr (.inr (.inl ⟨rfl, by omega, by omega⟩))))⟩, rfl⟩
  ·rw [decide_eq_false c, iteP_f]
   exact ⟨_, ⟨(.inr (.inr (.inl ⟨rfl, by omega, by omega⟩)))⟩, rfl⟩
 ·rw [show (IntKind.i64.wrap ((13 : Int) * 78913)).fdiv 262144 = 3 from rfl]
  show iteP (decide ((1000 : Int) ≤ u)) (∃ x, DigP u x ∧ aK .i64 (4 : Int) = aK .i64 x) (∃ x, DigP u x ∧ aK .i64 (3 : Int) = aK .i64 x)
  by_cases c : (1000 : Int) ≤ u
  ·rw [decide_eq_true c, iteP_t]
   exact ⟨_, ⟨(.inr (.inr (.inr (.inl ⟨rfl, by omega, by omega⟩))))⟩, rfl⟩
  ·rw [decide_eq_false c, iteP_f]
   exact ⟨_, ⟨(.inr (.inr (.inl ⟨rfl, by omega, by omega⟩)))⟩, rfl⟩
 ·rw [show (IntKind.i64.wrap ((14 : Int) * 78913)).fdiv 262144 = 4 from rfl]
  show iteP (decide ((10000 : Int) ≤ u)) (∃ x, DigP u x ∧ aK .i64 (5 : Int) = aK .i64 x) (∃ x, DigP u x ∧ aK .i64 (4 : Int) = aK .i64 x)
  by_cases c : (10000 : Int) ≤ u
  ·rw [decide_eq_true c, iteP_t]
   exact ⟨_, ⟨(.inr (.inr (.inr (.inr (.inl ⟨rfl, by omega, by omega⟩)))))⟩, rfl⟩
  ·rw [decide_eq_false c, iteP_f]
   exact ⟨_, ⟨(.inr (.inr (.inr (.inl ⟨rfl, by omega, by omega⟩))))⟩, rfl⟩
 ·rw [show (IntKind.i64.wrap ((15 : Int) * 78913)).fdiv 262144 = 4 from rfl]
  show iteP (decide ((10000 : Int) ≤ u)) (∃ x, DigP u x ∧ aK .i64 (5 : Int) = aK .i64 x) (∃ x, DigP u x ∧ aK .i64 (4 : Int) = aK .i64 x)
  by_cases c : (10000 : Int) ≤ u
  ·rw [decide_eq_true c, iteP_t]
   exact ⟨_, ⟨(.inr (.inr (.inr (.inr (.inl ⟨rfl, by omega, by omega⟩)))))⟩, rfl⟩
  ·rw [decide_eq_false c, iteP_f]
   exact ⟨_, ⟨(.inr (.inr (.inr (.inl ⟨rfl, by omega, by omega⟩))))⟩, rfl⟩
 ·rw [show (IntKind.i64.wrap ((16 : Int) * 78913)).fdiv 262144 = 4 from rfl]
  show iteP (decide ((10000 : Int) ≤ u)) (∃ x, DigP u x ∧ aK .i64 (5 : Int) = aK .i64 x) (∃ x, DigP u x ∧ aK .i64 (4 : Int) = aK .i64 x)
  by_cases c : (10000 : Int) ≤ u
  ·rw [decide_eq_true c, iteP_t]
   exact ⟨_, ⟨(.inr (.inr (.inr (.inr (.inl ⟨rfl, by omega, by omega⟩)))))⟩, rfl⟩
  ·rw [decide_eq_false c, iteP_f]
   exact ⟨_, ⟨(.inr (.inr (.inr (.inl ⟨rfl, by omega, by omega⟩))))⟩, rfl⟩
 ·rw [show (IntKind.i64.wrap ((17 : Int) * 78913)).fdiv 262144 = 5 from rfl]
  show iteP (decide ((100000 : Int) ≤ u)) (∃ x, DigP u x ∧ aK .i64 (6 : Int) = aK .i64 x) (∃ x, DigP u x ∧ aK .i64 (5 : Int) = aK .i64 x)
  by_cases c : (100000 : Int) ≤ u
  ·rw [decide_eq_true c, iteP_t]
   exact ⟨_, ⟨(.inr (.inr (.inr (.inr (.inr (.inl ⟨rfl, by omega, by omega⟩))))))⟩, rfl⟩
  ·rw [decide_eq_false c, iteP_f]
   exact ⟨_, ⟨(.inr (.inr (.inr (.inr (.inl ⟨rfl, by omega, by omega⟩)))))⟩, rfl⟩
 ·rw [show (IntKind.i64.wrap ((18 : Int) * 78913)).fdiv 262144 = 5 from rfl]
  show iteP (decide ((100000 : Int) ≤ u)) (∃ x, DigP u x ∧ aK .i64 (6 : Int) = aK .i64 x) (∃ x, DigP u x ∧ aK .i64 (5 : Int) = aK .i64 x)
  by_cases c : (100000 : Int) ≤ u
  ·rw [decide_eq_true c, iteP_t]
   exact ⟨_, ⟨(.inr (.inr (.inr (.inr (.inr (.inl ⟨rfl, by omega, by omega⟩))))))⟩, rfl⟩
  ·rw [decide_eq_false c, iteP_f]
   exact ⟨_, ⟨(.inr (.inr (.inr (.inr (.inl ⟨rfl, by omega, by omega⟩)))))⟩, rfl⟩
 ·rw [show (IntKind.i64.wrap ((19 : Int) * 78913)).fdiv 262144 = 5 from rfl]
  show iteP (decide ((100000 : Int) ≤ u)) (∃ x, DigP u x ∧ aK .i64 (6 : Int) = aK .i64 x) (∃ x, DigP u x ∧ aK .i64 (5 : Int) = aK .i64 x)
  by_cases c : (100000 : Int) ≤ u
  ·rw [decide_eq_true c, iteP_t]
   exact ⟨_, ⟨(.inr (.inr (.inr (.inr (.inr (.inl ⟨rfl, by omega, by omega⟩))))))⟩, rfl⟩
  ·rw [decide_eq_false c, iteP_f]
   exact ⟨_, ⟨(.inr (.inr (.inr (.inr (.inl ⟨rfl, by omega, by omega⟩)))))⟩, rfl⟩
 ·rw [show (IntKind.i64.wrap ((20 : Int) * 78913)).fdiv 262144 = 6 from rfl]
  show iteP (decide ((1000000 : Int) ≤ u)) (∃ x, DigP u x ∧ aK .i64 (7 : Int) = aK .i64 x) (∃ x, DigP u x ∧ aK .i64 (6 : Int) = aK .i64 x)
  by_cases c : (1000000 : Int) ≤ u
  ·rw [decide_eq_true c, iteP_t]
   exact ⟨_, ⟨(.inr (.inr (.inr (.inr (.inr (.inr (.inl ⟨rfl, by omega, by omega⟩)))))))⟩, rfl⟩
  ·rw [decide_eq_false c, iteP_f]
   exact ⟨_, ⟨(.inr (.inr (.inr (.inr (.inr (.inl ⟨rfl, by omega, by omega⟩))))))⟩, rfl⟩
 ·rw [show (IntKind.i64.wrap ((21 : Int) * 78913)).fdiv 262144 = 6 from rfl]
  show iteP (decide ((1000000 : Int) ≤ u)) (∃ x, DigP u x ∧ aK .i64 (7 : Int) = aK .i64 x) (∃ x, DigP u x ∧ aK .i64 (6 : Int) = aK .i64 x)
  by_cases c : (1000000 : Int) ≤ u
  ·rw [decide_eq_true c, iteP_t]
   exact ⟨_, ⟨(.inr (.inr (.inr (.inr (.inr (.inr (.inl ⟨rfl, by omega, by omega⟩)))))))⟩, rfl⟩
  ·rw [decide_eq_false c, iteP_f]
   exact ⟨_, ⟨(.inr (.inr (.inr (.inr (.inr (.inl ⟨rfl, by omega, by omega⟩))))))⟩, rfl⟩
 ·rw [show (IntKind.i64.wrap ((22 : Int) * 78913)).fdiv 262144 = 6 from rfl]
  show iteP (decide ((1000000 : Int) ≤ u)) (∃ x, DigP u x ∧ aK .i64 (7 : Int) = aK .i64 x) (∃ x, DigP u x ∧ aK .i64 (6 : Int) = aK .i64 x)
  by_cases c : (1000000 : Int) ≤ u
  ·rw [decide_eq_true c, iteP_t]
   exact ⟨_, ⟨(.inr (.inr (.inr (.inr (.inr (.inr (.inl ⟨rfl, by omega, by omega⟩)))))))⟩, rfl⟩
  ·rw [decide_eq_false c, iteP_f]
   exact ⟨_, ⟨(.inr (.inr (.inr (.inr (.inr (.inl ⟨rfl, by omega, by omega⟩))))))⟩, rfl⟩
 ·rw [show (IntKind.i64.wrap ((23 : Int) * 78913)).fdiv 262144 = 6 from rfl]
  show iteP (decide ((1000000 : Int) ≤ u)) (∃ x, DigP u x ∧ aK .i64 (7 : Int) = aK .i64 x) (∃ x, DigP u x ∧ aK .i64 (6 : Int) = aK .i64 x)
  by_cases c : (1000000 : Int) ≤ u
  ·rw [decide_eq_true c, iteP_t]
   exact ⟨_, ⟨(.inr (.inr (.inr (.inr (.inr (.inr (.inl ⟨rfl, by omega, by omega⟩)))))))⟩, rfl⟩
  ·rw [decide_eq_false c, iteP_f]
   exact ⟨_, ⟨(.inr (.inr (.inr (.inr (.inr (.inl ⟨rfl, by omega, by omega⟩))))))⟩, rfl⟩
 ·rw [show (IntKind.i64.wrap ((24 : Int) * 78913)).fdiv 262144 = 7 from rfl]
  show iteP (decide ((10000000 : Int) ≤ u)) (∃ x, DigP u x ∧ aK .i64 (8 : Int) = aK .i64 x) (∃ x, DigP u x ∧ aK .i64 (7 : Int) = aK .i64 x)
  by_cases c : (10000000 : Int) ≤ u
  ·rw [decide_eq_true c, iteP_t]
   exact ⟨_, ⟨(.inr (.inr (.inr (.inr (.inr (.inr (.inr (.inl ⟨rfl, by omega, by omega⟩))))))))⟩, rfl⟩
  ·rw [decide_eq_false c, iteP_f]
   exact ⟨_, ⟨(.inr (.inr (.inr (.inr (.inr (.inr (.inl ⟨rfl, by omega, by omega⟩)))))))⟩, rfl⟩
 ·rw [show (IntKind.i64.wrap ((25 : Int) * 78913)).fdiv 262144 = 7 from rfl]
  show iteP (decide ((10000000 : Int) ≤ u)) (∃ x, DigP u x ∧ aK .i64 (8 : Int) = aK .i64 x) (∃ x, DigP u x ∧ aK .i64 (7 : Int) = aK .i64 x)
  by_cases c : (10000000 : Int) ≤ u
  ·rw [decide_eq_true c, iteP_t]
   exact ⟨_, ⟨(.inr (.inr (.inr (.inr (.inr (.inr (.inr (.inl ⟨rfl, by omega, by omega⟩))))))))⟩, rfl⟩
  ·rw [decide_eq_false c, iteP_f]
   exact ⟨_, ⟨(.inr (.inr (.inr (.inr (.inr (.inr (.inl ⟨rfl, by omega, by omega⟩)))))))⟩, rfl⟩
 ·rw [show (IntKind.i64.wrap ((26 : Int) * 78913)).fdiv 262144 = 7 from rfl]
  show iteP (decide ((10000000 : Int) ≤ u)) (∃ x, DigP u x ∧ aK .i64 (8 : Int) = aK .i64 x) (∃ x, DigP u x ∧ aK .i64 (7 : Int) = aK .i64 x)
  by_cases c : (10000000 : Int) ≤ u
  ·rw [decide_eq_true c, iteP_t]
   exact ⟨_, ⟨(.inr (.inr (.inr (.inr (.inr (.inr (.inr (.inl ⟨rfl, by omega, by omega⟩))))))))⟩, rfl⟩
  ·rw [decide_eq_false c, iteP_f]
   exact ⟨_, ⟨(.inr (.inr (.inr (.inr (.inr (.inr (.inl ⟨rfl, by omega, by omega⟩)))))))⟩, rfl⟩
 ·rw [show (IntKind.i64.wrap ((27 : Int) * 78913)).fdiv 262144 = 8 from rfl]
  show iteP (decide ((100000000 : Int) ≤ u)) (∃ x, DigP u x ∧ aK .i64 (9 : Int) = aK .i64 x) (∃ x, DigP u x ∧ aK .i64 (8 : Int) = aK .i64 x)
  by_cases c : (100000000 : Int) ≤ u
  ·rw [decide_eq_true c, iteP_t]
   exact ⟨_, ⟨(.inr (.inr (.inr (.inr (.inr (.inr (.inr (.inr (.inl ⟨rfl, by omega, by omega⟩)))))))))⟩, rfl⟩
  ·rw [decide_eq_false c, iteP_f]
   exact ⟨_, ⟨(.inr (.inr (.inr (.inr (.inr (.inr (.inr (.inl ⟨rfl, by omega, by omega⟩))))))))⟩, rfl⟩
 ·rw [show (IntKind.i64.wrap ((28 : Int) * 78913)).fdiv 262144 = 8 from rfl]
  show iteP (decide ((100000000 : Int) ≤ u)) (∃ x, DigP u x ∧ aK .i64 (9 : Int) = aK .i64 x) (∃ x, DigP u x ∧ aK .i64 (8 : Int) = aK .i64 x)
  by_cases c : (100000000 : Int) ≤ u
  ·rw [decide_eq_true c, iteP_t]
   exact ⟨_, ⟨(.inr (.inr (.inr (.inr (.inr (.inr (.inr (.inr (.inl ⟨rfl, by omega, by omega⟩)))))))))⟩, rfl⟩
  ·rw [decide_eq_false c, iteP_f]
   exact ⟨_, ⟨(.inr (.inr (.inr (.inr (.inr (.inr (.inr (.inl ⟨rfl, by omega, by omega⟩))))))))⟩, rfl⟩
 ·rw [show (IntKind.i64.wrap ((29 : Int) * 78913)).fdiv 262144 = 8 from rfl]
  show iteP (decide ((100000000 : Int) ≤ u)) (∃ x, DigP u x ∧ aK .i64 (9 : Int) = aK .i64 x) (∃ x, DigP u x ∧ aK .i64 (8 : Int) = aK .i64 x)
  by_cases c : (100000000 : Int) ≤ u
  ·rw [decide_eq_true c, iteP_t]
   exact ⟨_, ⟨(.inr (.inr (.inr (.inr (.inr (.inr (.inr (.inr (.inl ⟨rfl, by omega, by omega⟩)))))))))⟩, rfl⟩
  ·rw [decide_eq_false c, iteP_f]
   exact ⟨_, ⟨(.inr (.inr (.inr (.inr (.inr (.inr (.inr (.inl ⟨rfl, by omega, by omega⟩))))))))⟩, rfl⟩
 ·rw [show (IntKind.i64.wrap ((30 : Int) * 78913)).fdiv 262144 = 9 from rfl]
  show iteP (decide ((1000000000 : Int) ≤ u)) (∃ x, DigP u x ∧ aK .i64 (10 : Int) = aK .i64 x) (∃ x, DigP u x ∧ aK .i64 (9 : Int) = aK .i64 x)
  by_cases c : (1000000000 : Int) ≤ u
  ·rw [decide_eq_true c, iteP_t]
   exact ⟨_, ⟨(.inr (.inr (.inr (.inr (.inr (.inr (.inr (.inr (.inr (.inl ⟨rfl, by omega, by omega⟩))))))))))⟩, rfl⟩
  ·rw [decide_eq_false c, iteP_f]
   exact ⟨_, ⟨(.inr (.inr (.inr (.inr (.inr (.inr (.inr (.inr (.inl ⟨rfl, by omega, by omega⟩)))))))))⟩, rfl⟩
 ·rw [show (IntKind.i64.wrap ((31 : Int) * 78913)).fdiv 262144 = 9 from rfl]
  show iteP (decide ((1000000000 : Int) ≤ u)) (∃ x, DigP u x ∧ aK .i64 (10 : Int) = aK .i64 x) (∃ x, DigP u x ∧ aK .i64 (9 : Int) = aK .i64 x)
  by_cases c : (1000000000 : Int) ≤ u
  ·rw [decide_eq_true c, iteP_t]
   exact ⟨_, ⟨(.inr (.inr (.inr (.inr (.inr (.inr (.inr (.inr (.inr (.inl ⟨rfl, by omega, by omega⟩))))))))))⟩, rfl⟩
  ·rw [decide_eq_false c, iteP_f]
   exact ⟨_, ⟨(.inr (.inr (.inr (.inr (.inr (.inr (.inr (.inr (.inl ⟨rfl, by omega, by omega⟩)))))))))⟩, rfl⟩
 ·rw [show (IntKind.i64.wrap ((32 : Int) * 78913)).fdiv 262144 = 9 from rfl]
  show iteP (decide ((1000000000 : Int) ≤ u)) (∃ x, DigP u x ∧ aK .i64 (10 : Int) = aK .i64 x) (∃ x, DigP u x ∧ aK .i64 (9 : Int) = aK .i64 x)
  by_cases c : (1000000000 : Int) ≤ u
  ·rw [decide_eq_true c, iteP_t]
   exact ⟨_, ⟨(.inr (.inr (.inr (.inr (.inr (.inr (.inr (.inr (.inr (.inl ⟨rfl, by omega, by omega⟩))))))))))⟩, rfl⟩
  ·rw [decide_eq_false c, iteP_f]
   exact ⟨_, ⟨(.inr (.inr (.inr (.inr (.inr (.inr (.inr (.inr (.inl ⟨rfl, by omega, by omega⟩)))))))))⟩, rfl⟩
 ·rw [show (IntKind.i64.wrap ((33 : Int) * 78913)).fdiv 262144 = 9 from rfl]
  show iteP (decide ((1000000000 : Int) ≤ u)) (∃ x, DigP u x ∧ aK .i64 (10 : Int) = aK .i64 x) (∃ x, DigP u x ∧ aK .i64 (9 : Int) = aK .i64 x)
  by_cases c : (1000000000 : Int) ≤ u
  ·rw [decide_eq_true c, iteP_t]
   exact ⟨_, ⟨(.inr (.inr (.inr (.inr (.inr (.inr (.inr (.inr (.inr (.inl ⟨rfl, by omega, by omega⟩))))))))))⟩, rfl⟩
  ·rw [decide_eq_false c, iteP_f]
   exact ⟨_, ⟨(.inr (.inr (.inr (.inr (.inr (.inr (.inr (.inr (.inl ⟨rfl, by omega, by omega⟩)))))))))⟩, rfl⟩
 ·rw [show (IntKind.i64.wrap ((34 : Int) * 78913)).fdiv 262144 = 10 from rfl]
  show iteP (decide ((10000000000 : Int) ≤ u)) (∃ x, DigP u x ∧ aK .i64 (11 : Int) = aK .i64 x) (∃ x, DigP u x ∧ aK .i64 (10 : Int) = aK .i64 x)
  by_cases c : (10000000000 : Int) ≤ u
  ·rw [decide_eq_true c, iteP_t]
   exact ⟨_, ⟨(.inr (.inr (.inr (.inr (.inr (.inr (.inr (.inr (.inr (.inr ⟨rfl, by omega, by omega⟩))))))))))⟩, rfl⟩
  ·rw [decide_eq_false c, iteP_f]
   exact ⟨_, ⟨(.inr (.inr (.inr (.inr (.inr (.inr (.inr (.inr (.inr (.inl ⟨rfl, by omega, by omega⟩))))))))))⟩, rfl⟩
end
end Go.Proofs.Pr
namespace Go.Proofs.Pr
open Go Go.Ef
noncomputable section
set_option maxRecDepth 100000
def C67d (args : List AV) (h : Heap) : Option CSpec :=
 match args with
 | [.sc (.int .i64 n), .sc (.int .i64 10)] => some (nspec (0 ≤ n ∧ n ≤ 4294967295) (fmtN 10 n.toNat) (fun x => aStr x) h)
 | _ => some { pre := False, alts := [] }
theorem okD0 : TabOk Tryz.prog Door.cfg D0 := ok96 tab0_ok
theorem okDk (k : Nat) (hu : ∀ u x : Int, 10 ^ (k - 1) ≤ u → u < 10 ^ k → DigP u x → x = k) (hb : ∀ u : Int, (10 : Int) ^ (k - 1) ≤ u → u < 10 ^ k → 1 ≤ u ∧ u < 17179869184) : TabOk Tryz.prog Door.cfg (Dk k) := by
 repeat' refine name_ok ?_ _ _
 refine addC_ok tab0_ok fun args h s hs hp => ?_
 unfold C83k at hs
 split at hs
 ·rename_i u
  cases Option.some.inj hs
  obtain ⟨p1, p2⟩ := hp
  obtain ⟨b1, b2⟩ := hb u p1 p2
  obtain ⟨m, v, h', g1, ⟨x, hx, rfl⟩, rfl⟩ := EvP.freshK okD0 (n := 60) (g := 95) (args := [aK .u64 u]) (h := h) (Q := fun r => ∃ x, DigP u x ∧ r = aK .i64 x) (by kernel_rfl) (by kernel_rfl) (args' := [aK .u64 u]) rfl (dig_ok u b1 b2)
  have := hu u x p1 p2 hx
  subst this
  exact ⟨_, .head _, (), m, trivial, g1⟩
 ·cases hs
def smallOk (n : Nat) : Bool := (if n < 10 then cutL digTab (n : Int) ((n : Int) + 1) else cutL twoTab ((n : Int) * 2) ((n : Int) * 2 + 2)) == fmtN 10 n
theorem small_all : (List.range 100).all smallOk = true := by decide +kernel
theorem dec_small (n : Int) (h1 : 0 ≤ n) (h2 : n < 100) (K : AV → Prop) (hk : K (aStr (fmtN 10 n.toNat))) : wpCall (Dk 3) Door.cfg Tryz.prog 60 74 [aK .i64 n, aK .i64 10] heapF fun r h' => wpBack h' r K := by
 obtain ⟨k, rfl⟩ := Int.eq_ofNat_of_zero_le h1
 have hs := List.all_eq_true.1 small_all k (by simp; omega)
 unfold smallOk at hs
 replace hs := eq_of_beq hs
 rw [Int.toNat_natCast, ← hs] at hk
 refine d67_3 k K ?_
 rw [decide_eq_true h1, iteP_t, decide_eq_true h2, iteP_t]
 by_cases h3 : k < 10
 ·rw [if_pos h3] at hk
  rw [decide_eq_true (show (k : Int) < 10 by omega), iteP_t, wrap_in (by omega) (by omega), show (true && (decide ((k : Int) ≤ (k : Int) + 1) && decide ((k : Int) + 1 ≤ 36))) = true by simp; omega, iteP_t]
  exact hk
 ·rw [if_neg h3] at hk
  rw [decide_eq_false (show ¬ (k : Int) < 10 by omega), iteP_f, show IntKind.i64.wrap ((k : Int) * 2) = (k : Int) * 2 from wrap_in (by omega) (by omega), wrap_in (by omega) (by omega), show (decide (0 ≤ (k : Int) * 2) && (decide ((k : Int) * 2 ≤ (k : Int) * 2 + 2) && decide ((k : Int) * 2 + 2 ≤ 200))) = true by simp; omega, iteP_t]
  exact hk
theorem okD3 : TabOk Tryz.prog Door.cfg (Dk 3) := okDk 3 (fun u x h1 h2 h => by
  replace h1 : 100 ≤ u := h1
  replace h2 : u < 1000 := h2
  rcases h.h with h | h | h | h | h | h | h | h | h | h | h <;> obtain ⟨rfl, _, _⟩ := h <;> omega) (fun u h1 h2 => by
  replace h1 : 100 ≤ u := h1
  replace h2 : u < 1000 := h2
  omega)
theorem okD4 : TabOk Tryz.prog Door.cfg (Dk 4) := okDk 4 (fun u x h1 h2 h => by
  replace h1 : 1000 ≤ u := h1
  replace h2 : u < 10000 := h2
  rcases h.h with h | h | h | h | h | h | h | h | h | h | h <;> obtain ⟨rfl, _, _⟩ := h <;> omega) (fun u h1 h2 => by
  replace h1 : 1000 ≤ u := h1
  replace h2 : u < 10000 := h2
  omega)
theorem okD5 : TabOk Tryz.prog Door.cfg (Dk 5) := okDk 5 (fun u x h1 h2 h => by
  replace h1 : 10000 ≤ u := h1
  replace h2 : u < 100000 := h2
  rcases h.h with h | h | h | h | h | h | h | h | h | h | h <;> obtain ⟨rfl, _, _⟩ := h <;> omega) (fun u h1 h2 => by
  replace h1 : 10000 ≤ u := h1
  replace h2 : u < 100000 := h2
  omega)
theorem okD6 : TabOk Tryz.prog Door.cfg (Dk 6) := okDk 6 (fun u x h1 h2 h => by
  replace h1 : 100000 ≤ u := h1
  replace h2 : u < 1000000 := h2
  rcases h.h with h | h | h | h | h | h | h | h | h | h | h <;> obtain ⟨rfl, _, _⟩ := h <;> omega) (fun u h1 h2 => by
  replace h1 : 100000 ≤ u := h1
  replace h2 : u < 1000000 := h2
  omega)
theorem okD7 : TabOk Tryz.prog Door.cfg (Dk 7) := okDk 7 (fun u x h1 h2 h => by
  replace h1 : 1000000 ≤ u := h1
  replace h2 : u < 10000000 := h2
  rcases h.h with h | h | h | h | h | h | h | h | h | h | h <;> obtain ⟨rfl, _, _⟩ := h <;> omega) (fun u h1 h2 => by
  replace h1 : 1000000 ≤ u := h1
  replace h2 : u < 10000000 := h2
  omega)
theorem okD8 : TabOk Tryz.prog Door.cfg (Dk 8) := okDk 8 (fun u x h1 h2 h => by
  replace h1 : 10000000 ≤ u := h1
  replace h2 : u < 100000000 := h2
  rcases h.h with h | h | h | h | h | h | h | h | h | h | h <;> obtain ⟨rfl, _, _⟩ := h <;> omega) (fun u h1 h2 => by
  replace h1 : 10000000 ≤ u := h1
  replace h2 : u < 100000000 := h2
  omega)
theorem okD9 : TabOk Tryz.prog Door.cfg (Dk 9) := okDk 9 (fun u x h1 h2 h => by
  replace h1 : 100000000 ≤ u := h1
  replace h2 : u < 1000000000 := h2
  rcases h.h with h | h | h | h | h | h | h | h | h | h | h <;> obtain ⟨rfl, _, _⟩ := h <;> omega) (fun u h1 h2 => by
  replace h1 : 100000000 ≤ u := h1
  replace h2 : u < 1000000000 := h2
  omega)
theorem okD10 : TabOk Tryz.prog Door.cfg (Dk 10) := okDk 10 (fun u x h1 h2 h => by
  replace h1 : 1000000000 ≤ u := h1
  replace h2 : u < 10000000000 := h2
  rcases h.h with h | h | h | h | h | h | h | h | h | h | h <;> obtain ⟨rfl, _, _⟩ := h <;> omega) (fun u h1 h2 => by
  replace h1 : 1000000000 ≤ u := h1
  replace h2 : u < 10000000000 := h2
  omega)
theorem dec_all (n : Int) (h1 : 0 ≤ n) (h2 : n ≤ 4294967295) (h : Heap) : EvP Door.cfg Tryz.prog 74 [aK .i64 n, aK .i64 10] h fun v h' => v = aStr (fmtN 10 n.toNat) ∧ h' = h := by
 by_cases c2 : n < 100
 ·exact EvP.freshV okD3 (n := 60) (by kernel_rfl) (by kernel_rfl) (args' := [aK .i64 n, aK .i64 10]) rfl (dec_small n h1 c2 _ rfl)
 by_cases c3 : n < 1000
 ·exact EvP.freshV okD3 (n := 60) (by kernel_rfl) (by kernel_rfl) (args' := [aK .i64 n, aK .i64 10]) rfl (dec_3 n (by omega) (by omega) _ rfl)
 by_cases c4 : n < 10000
 ·exact EvP.freshV okD4 (n := 60) (by kernel_rfl) (by kernel_rfl) (args' := [aK .i64 n, aK .i64 10]) rfl (dec_4 n (by omega) (by omega) _ rfl)
 by_cases c5 : n < 100000
 ·exact EvP.freshV okD5 (n := 60) (by kernel_rfl) (by kernel_rfl) (args' := [aK .i64 n, aK .i64 10]) rfl (dec_5 n (by omega) (by omega) _ rfl)
 by_cases c6 : n < 1000000
 ·exact EvP.freshV okD6 (n := 60) (by kernel_rfl) (by kernel_rfl) (args' := [aK .i64 n, aK .i64 10]) rfl (dec_6 n (by omega) (by omega) _ rfl)
 by_cases c7 : n < 10000000
 ·exact EvP.freshV okD7 (n := 60) (by kernel_rfl) (by kernel_rfl) (args' := [aK .i64 n, aK .i64 10]) rfl (dec_7 n (by omega) (by omega) _ rfl)
 by_cases c8 : n < 100000000
 ·exact EvP.freshV okD8 (n := 60) (by kernel_rfl) (by kernel_rfl) (args' := [aK .i64 n, aK .i64 10]) rfl (dec_8 n (by omega) (by omega) _ rfl)
 by_cases c9 : n < 1000000000
 ·exact EvP.freshV okD9 (n := 60) (by kernel_rfl) (by kernel_rfl) (args' := [aK .i64 n, aK .i64 10]) rfl (dec_9 n (by omega) (by omega) _ rfl)
 exact EvP.freshV okD10 (n := 60) (by kernel_rfl) (by kernel_rfl) (args' := [aK .i64 n, aK .i64 10]) rfl (dec_10 n (by omega) (by omega) _ rfl)
theorem ok67d {T : Tab} (O : TabOk Tryz.prog Door.cfg T) : TabOk Tryz.prog Door.cfg (T.addC 74 C67d) := by
 refine addC_ok O fun args h s hs hp => ?_
 unfold C67d at hs
 split at hs
 ·exact nspec_ok (Option.some.inj hs) (fun hpre => dec_all _ hpre.1 hpre.2 h) hp
 ·cases Option.some.inj hs
  exact hp.elim
end
end Go.Proofs.Pr
namespace Go.Proofs.Pr
open Go Go.Ef
noncomputable section
def C66 (args : List AV) (h : Heap) : Option CSpec :=
 match args with
 | [.sc (.int .i64 n)] => some (nspec (0 ≤ n ∧ n ≤ 4294967295) (fmtN 10 n.toNat) (fun x => aStr x) h)
 | _ => none
def I53 (s t : List UInt8) : St := stOf 42 [(4, sStr s), (6, sStr t)] [] heapF
def L53 (σ : St) : Option LSpec :=
 match σ.at 4, σ.at 6 with
 | .v (.sc (.string s)), .v (.sc (.string t)) => some (lspec (σ.tidy [4, 6] 0 = I53 s.data.toList t.data.toList ∧ (stripZ t.data.toList).isEmpty = false ∧ t.data.toList.length ≤ 1000) (List UInt8) (fun x => x = stripZ t.data.toList) (.exit 0) (fun x => I53 s.data.toList x))
 | _, _ => none
def C53g (args : List AV) (h : Heap) : Option CSpec :=
 match args with
 | [.sc (.int .i64 d)] => some (nspec True (decF (nearF d)) (fun x => aStr x) h)
 | _ => none
def C54 (args : List AV) (h : Heap) : Option CSpec :=
 match args with
 | [.sc (.int .i64 d), .sc (.int .i64 p)] => some (nspec True (roundF d p) (fun x => aK .i64 x) h)
 | _ => none
def E1 : Tab := tab0.addC 74 C67d
def E2 : Tab := E1.addC 73 C66
def E3 : Tab := (((E2.addL 53 11 L53).name 53 8).name 53 12).name 53 26
end
end Go.Proofs.Pr
