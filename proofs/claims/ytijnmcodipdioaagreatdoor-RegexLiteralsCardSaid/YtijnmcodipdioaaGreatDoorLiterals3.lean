/- A part of the proof: definitions and lemmas. -/
import Derived.Test.YtijnmcodipdioaaGreatDoorLiteralsA
import Derived.Test.YtijnmcodipdioaaGreatDoorLiteralsB
import Derived.Test.YtijnmcodipdioaaGreatDoorLiteralsC
import Derived.Test.YtijnmcodipdioaaGreatDoorLiteralsD
import Derived.Test.YtijnmcodipdioaaGreatDoorLiteralsE
import Derived.Test.YtijnmcodipdioaaGreatDoorLiteralsF
import Derived.Test.YtijnmcodipdioaaGreatDoorLiteralsG
import Derived.Test.YtijnmcodipdioaaGreatDoorLiteralsH
import Derived.Test.YtijnmcodipdioaaGreatDoorLiteralsI
import Derived.Test.YtijnmcodipdioaaGreatDoorLiteralsJ
import Derived.Test.YtijnmcodipdioaaGreatDoorLiteralsK
import Derived.Test.YtijnmcodipdioaaGreatDoorLiteralsL
import Derived.Test.YtijnmcodipdioaaGreatDoorLiteralsM
import Derived.Test.YtijnmcodipdioaaGreatDoorLiteralsN
import Derived.Test.YtijnmcodipdioaaGreatDoorLiteralsO
import Derived.Test.YtijnmcodipdioaaGreatDoorLiteralsP
import Derived.Test.YtijnmcodipdioaaGreatDoorLiteralsQ
import Derived.Test.YtijnmcodipdioaaGreatDoorLiteralsR
import Derived.Test.YtijnmcodipdioaaGreatDoorLiteralsS
import Derived.Test.YtijnmcodipdioaaGreatDoorLiteralsT
import Derived.Test.YtijnmcodipdioaaGreatDoorLiteralsU
import Derived.Test.YtijnmcodipdioaaGreatDoorLiteralsV
import Derived.Test.YtijnmcodipdioaaGreatDoorLiteralsW
import Derived.Test.YtijnmcodipdioaaGreatDoorLiteralsX
import Derived.Test.YtijnmcodipdioaaGreatDoorLiteralsY
import Derived.Test.YtijnmcodipdioaaGreatDoorLiteralsZ
import Derived.Test.YtijnmcodipdioaaGreatDoorLiterals0
import Derived.Test.YtijnmcodipdioaaGreatDoorLiterals1
import Derived.Test.YtijnmcodipdioaaGreatDoorLiterals2
namespace Go.Proofs.Rl
open Go Go.Ef
noncomputable section
set_option maxRecDepth 100000
theorem progR_get {l : List UInt8} {j : Nat} (h : j < l.length) : getI j (progR l) = some (rowI l[j]) := by
 rw [getI_eq]; unfold progR
 rw [List.getElem?_append_left (by rw [List.length_map]; exact h), List.getElem?_map, List.getElem?_eq_getElem h]; rfl
theorem progR_end (l : List UInt8) : getI l.length (progR l) = some rowM := by
 rw [getI_eq]; unfold progR
 rw [List.getElem?_append_right (by rw [List.length_map]; exact Nat.le_refl _), List.length_map, Nat.sub_self]; rfl
theorem progR_len (l : List UInt8) : (progR l).length = l.length + 1 := by
 unfold progR; rw [List.length_append, List.length_map]; rfl
theorem cell_of {els : Rows} {j q : Nat} {c : List AV} {k : IntKind} {v : Int} (h : getI j els = some c) (e : getI q c = some (.sc (.int k v))) : cellInt els j q = v := by
 unfold cellInt cellAt
 rw [Int.toNat_natCast, h]; simp only []; rw [e]
theorem progR_row {l : List UInt8} {j : Nat} (h : j < l.length) : RowAt (progR l) j 1 ∧ cellInt (progR l) j 1 = wd l[j] 0 ∧ cellInt (progR l) j 2 = wd l[j] 1 ∧ cellInt (progR l) j 3 = wd l[j] 2 ∧ cellInt (progR l) j 4 = wd l[j] 3 := by
 have g := progR_get h
 have e0 : cellInt (progR l) j 0 = 1 := cell_of (k := .i64) g rfl
 have e1 : cellInt (progR l) j 1 = wd l[j] 0 := cell_of (k := .u64) g rfl
 have e2 : cellInt (progR l) j 2 = wd l[j] 1 := cell_of (k := .u64) g rfl
 have e3 : cellInt (progR l) j 3 = wd l[j] 2 := cell_of (k := .u64) g rfl
 have e4 : cellInt (progR l) j 4 = wd l[j] 3 := cell_of (k := .u64) g rfl
 have e5 : cellInt (progR l) j 5 = 0 := cell_of (k := .i64) g rfl
 have e6 : cellInt (progR l) j 6 = 0 := cell_of (k := .i64) g rfl
 refine ⟨⟨?_, e0, by rw [progR_len]; omega⟩, e1, e2, e3, e4⟩
 rw [g, e0, e1, e2, e3, e4, e5, e6]; rfl
theorem progR_last (l : List UInt8) : RowAt (progR l) l.length 6 := by
 have g := progR_end l
 have e0 : cellInt (progR l) l.length 0 = 6 := cell_of (k := .i64) g rfl
 have e1 : cellInt (progR l) l.length 1 = 0 := cell_of (k := .u64) g rfl
 have e2 : cellInt (progR l) l.length 2 = 0 := cell_of (k := .u64) g rfl
 have e3 : cellInt (progR l) l.length 3 = 0 := cell_of (k := .u64) g rfl
 have e4 : cellInt (progR l) l.length 4 = 0 := cell_of (k := .u64) g rfl
 have e5 : cellInt (progR l) l.length 5 = 0 := cell_of (k := .i64) g rfl
 have e6 : cellInt (progR l) l.length 6 = 0 := cell_of (k := .i64) g rfl
 refine ⟨?_, e0, by rw [progR_len]; omega⟩
 rw [g, e0, e1, e2, e3, e4, e5, e6]; rfl
theorem progR_any {l : List UInt8} {j : Nat} (h : j ≤ l.length) : ∃ op, RowAt (progR l) j op ∧ (op = 1 ∨ op = 6) := by
 by_cases e : j < l.length
 ·exact ⟨1, (progR_row e).1, .inl rfl⟩
 ·obtain rfl : j = l.length := by omega
  exact ⟨6, progR_last l, .inr rfl⟩
theorem rowsT_len (l : List (Nat × Nat)) : (rowsT l).length = l.length := by unfold rowsT; rw [List.length_map]
theorem rowsT_app (a b : List (Nat × Nat)) : rowsT (a ++ b) = rowsT a ++ rowsT b := by unfold rowsT; rw [List.map_append]
theorem rowsT_two (l : List (Nat × Nat)) : allLen 2 (rowsT l) = true := by
 unfold rowsT allLen; rw [List.all_map]; exact List.all_eq_true.2 fun _ _ => rfl
theorem rowsT_get {a b : List (Nat × Nat)} {j f : Nat} : getI a.length (rowsT (a ++ (j, f) :: b)) = some [iA j, iA f] := by
 rw [getI_eq, rowsT_app, List.getElem?_append_right (by rw [rowsT_len]; exact Nat.le_refl _), rowsT_len, Nat.sub_self]; rfl
variable {h g : Heap} {w b d : Nat} {els : Rows} {s : List UInt8} {M : Nat → Int} {st bf bt : Int} {fd : Bool} {sv : AV}
theorem Mem.keep (H : Mem g w b d els s M st bf bt fd sv) {g1 : Heap} (k : ∀ j q, Live g j q → Live g1 j q) : Mem g1 w b d els s M st bf bt fd sv := by
 refine ⟨H.sim.keep fun q l => k _ _ l, ?_, k _ _ H.best, k _ _ H.fnd, H.wb, H.wd, H.bd⟩
 rcases H.stk with e | ⟨sid, c, e, L, n1, n2, n3⟩
 ·exact .inl e
 ·exact .inr ⟨sid, c, e, k _ _ L, n1, n2, n3⟩
theorem xrow (hl : g.ro ≤ g.next) (a0 a1 a2 a3 a4 a5 a6 : AV) :
  okIn (boxIn g 88 [AV.sc (Value.int IntKind.i64 (0 : Int)), AV.sc (Value.int IntKind.u64 (0 : Int)), AV.sc (Value.int IntKind.u64 (0 : Int)), AV.sc (Value.int IntKind.u64 (0 : Int)), AV.sc (Value.int IntKind.u64 (0 : Int)), AV.sc (Value.int IntKind.i64 (0 : Int)), AV.sc (Value.int IntKind.i64 (0 : Int))]) g.next 0 7 = true ∧ Live (storeIn (boxIn g 88 [AV.sc (Value.int IntKind.i64 (0 : Int)), AV.sc (Value.int IntKind.u64 (0 : Int)), AV.sc (Value.int IntKind.u64 (0 : Int)), AV.sc (Value.int IntKind.u64 (0 : Int)), AV.sc (Value.int IntKind.u64 (0 : Int)), AV.sc (Value.int IntKind.i64 (0 : Int)), AV.sc (Value.int IntKind.i64 (0 : Int))]) g.next 0 [a0, a1, a2, a3, a4, a5, a6]) g.next (.cells [a0, a1, a2, a3, a4, a5, a6]) ∧ ∀ j q, Live g j q → Live (storeIn (boxIn g 88 [AV.sc (Value.int IntKind.i64 (0 : Int)), AV.sc (Value.int IntKind.u64 (0 : Int)), AV.sc (Value.int IntKind.u64 (0 : Int)), AV.sc (Value.int IntKind.u64 (0 : Int)), AV.sc (Value.int IntKind.u64 (0 : Int)), AV.sc (Value.int IntKind.i64 (0 : Int)), AV.sc (Value.int IntKind.i64 (0 : Int))]) g.next 0 [a0, a1, a2, a3, a4, a5, a6]) j q := by
 have L := live_box hl 88 [AV.sc (Value.int IntKind.i64 (0 : Int)), AV.sc (Value.int IntKind.u64 (0 : Int)), AV.sc (Value.int IntKind.u64 (0 : Int)), AV.sc (Value.int IntKind.u64 (0 : Int)), AV.sc (Value.int IntKind.u64 (0 : Int)), AV.sc (Value.int IntKind.i64 (0 : Int)), AV.sc (Value.int IntKind.i64 (0 : Int))]
 refine ⟨ok_in L (Nat.le_refl _), ?_, fun j q l => ?_⟩
 ·rw [store_eq L]
  exact live_put L _
 ·rw [store_eq L]
  exact L.put l.box (by have := l.lt; omega)
theorem wp146 {j f : Int} {K : AV → Heap → Prop} (A : Live g b (.cells [iA bf, iA bt])) (B : Live g d (.cells [bA fd])) (hK : K (bA (!fd || decide (f ≤ bf))) g) : wpCall T146 cfg Tryz.prog 100 146 [.agg [iA j, iA f], .ptr d 0, .ptr b 0] g K := by
 refine v146 j f d b g K ?_
 obtain ⟨b1, b2⟩ := bool_cell B (o := 0) (b := fd) rfl
 obtain ⟨a1, a2⟩ := int_cell A (o := 0) (k := .i64) (n := bf) rfl
 rw [b2, a2]
 refine it b1 ?_
 cases fd with
 | false => exact ie rfl hK
 | true =>
  refine it rfl (it a1 ?_)
  rw [Bool.not_true, Bool.false_or] at hK
  cases hq : decide (f ≤ bf) with
  | true => rw [hq] at hK; exact it rfl hK
  | false => rw [hq] at hK; exact ie rfl hK
theorem ok146 : Ok T146 := ⟨tab0_ok.call, tab0_ok.loop⟩
theorem okC146 {T : Tab} (O : Ok T) : Ok (T.addC 146 C146) := by
 refine addC_ok O fun args h z hs hp => ?_
 unfold C146 at hs
 split at hs
 ·rename_i j f d b
  cases hs
  obtain ⟨bf, bt, fd, A, B⟩ := P146.is hp
  obtain ⟨m, v, h', e, rfl, rfl⟩ := call_okW ok146 100 146 _ h _ (wp146 (j := j) (f := f) (K := fun v h' => v = bA (!fd || decide (f ≤ bf)) ∧ h' = h) A B ⟨rfl, rfl⟩)
  refine ⟨_, List.mem_singleton.2 rfl, _, m, ⟨fun bf' bt' fd' A' B' => ?_⟩, by rw [callP_plain rfl rfl rfl]; exact e⟩
  have e1 := A.get.symm.trans A'.get
  have e2 := B.get.symm.trans B'.get
  cases e1; cases e2; rfl
 ·cases hs
theorem ok145 : Ok T145 := by
 have h0 : Ok (((tab0.addC 144 C144).addC 71 C71).addC 146 C146) := okC146 (okC71 (okC144 tab0_ok))
 exact ⟨h0.call, h0.loop⟩
end
end Go.Proofs.Rl
namespace Go.Proofs.Rl
open Go Go.Ef
noncomputable section
set_option maxRecDepth 100000
structure In145 (h : Heap) (w b d : Nat) (ls : Rows) (i : Int) (l s : List UInt8) (M : Nat → Int) (st bf bt : Int) (fd : Bool) (sv : AV) (L : List (Nat × Nat)) (i0 : Nat) : Prop where
 mem : Mem h w b d (progR l) s M st bf bt fd sv
 al : l.all isAl = true
 le : l.length ≤ 20
 rows : ls = rowsT L
 ii : i = (i0 : Int)
 lt : i0 < s.length
 slen : s.length ≤ 60
 inst : ∀ p ∈ L, p.1 ≤ l.length
 desc : L.Pairwise fun p q => q.1 < p.1
 mrk : ∀ k, k < 4096 → M k ≤ st
 lo : 0 ≤ st
 hi : st ≤ 1000000
 len : L.length ≤ 1000
def kpT (fd : Bool) (bf : Int) (f : Nat) : Bool := !fd || decide ((f : Int) ≤ bf)
structure Lp (g : Heap) (w b d : Nat) (l s : List UInt8) (st bf bt : Int) (fd : Bool) (R : List (Nat × Nat)) : Prop where
 is : ∃ M sv, Mem g w b d (progR l) s M st bf bt fd sv ∧ ∀ k, k < 4096 → M k ≤ st ∧ (M k = st → ∃ p ∈ R, p.1 = k)
theorem Lp.keep {g g1 : Heap} {w b d : Nat} {l s : List UInt8} {st bf bt : Int} {fd : Bool} {R : List (Nat × Nat)} (P : Lp g w b d l s st bf bt fd R) (k : ∀ j q, Live g j q → Live g1 j q) : Lp g1 w b d l s st bf bt fd R := by
 obtain ⟨M, sv, H, h⟩ := P.is
 exact ⟨M, sv, H.keep k, h⟩
theorem nextT_app (t s : B) (i : Nat) (kp : Nat → Bool) (a c : List (Nat × Nat)) : nextT t s i kp (a ++ c) = nextT t s i kp a ++ nextT t s i kp c := by
 unfold nextT; rw [List.filter_append, List.map_append]
theorem nextT_one (t s : B) (i : Nat) (kp : Nat → Bool) (p : Nat × Nat) : nextT t s i kp [p] = if goT t s i kp p then [(p.1 + 1, p.2)] else [] := by
 rw [nextT_cons]; unfold nextT; simp
theorem byteAt_nat {s : List UInt8} {i : Nat} (h : i < s.length) : byteAt s (i : Int) = (s[i].toNat : Int) := by
 unfold byteAt
 rw [Int.toNat_natCast, List.getElem?_eq_getElem h]; rfl
theorem al_get {l : List UInt8} (h : l.all isAl = true) {j : Nat} (hj : j < l.length) : isAl l[j] = true := List.all_eq_true.1 h _ (List.getElem_mem hj)
theorem u8_eq {a c : UInt8} : decide ((a.toNat : Int) = (c.toNat : Int)) = (a == c) := by
 by_cases e : a = c
 ·subst e; simp
 ·have : a.toNat ≠ c.toNat := fun h => e (UInt8.toNat_inj.1 h)
  rw [decide_eq_false (by omega)]
  simpa using e
theorem goT_lt {l s : B} {i j f : Nat} {kp : Nat → Bool} (h1 : j < l.length) (h2 : i < s.length) : goT l s i kp (j, f) = ((l[j] == s[i]) && kp f) := by
 unfold goT
 simp only [List.getElem?_eq_getElem h1, List.getElem?_eq_getElem h2, decide_eq_true h1, Bool.true_and]
 congr 1
theorem goT_end {l s : B} {i f : Nat} {kp : Nat → Bool} : goT l s i kp (l.length, f) = false := by
 unfold goT
 simp
section
variable {h g : Heap} {w b d : Nat} {ls : Rows} {i : Int} {l s : List UInt8} {M : Nat → Int} {st bf bt : Int} {fd : Bool} {sv : AV} {L1 L2 : List (Nat × Nat)} {i0 j f t ol : Nat}
theorem next_ne {R : List (Nat × Nat)} (H : (L1 ++ (j, f) :: L2).Pairwise fun p q => q.1 < p.1) (hR : R = nextT l s i0 (kpT fd bf) L1) : ∀ p ∈ R, p.1 ≠ j + 1 := by
 intro p hp
 rw [hR] at hp
 unfold nextT at hp
 obtain ⟨q, hq, rfl⟩ := List.mem_map.1 hp
 have hq := (List.mem_filter.1 hq).1
 have := (List.pairwise_append.1 H).2.2 q hq (j, f) (by simp)
 simp only [] at this ⊢
 omega
theorem lp_reach {R : List (Nat × Nat)} {x : Heap} {il n : Nat} {M : Nat → Int} {sv : AV} (H : Mem g w b d (progR l) s M st bf bt fd sv) (hM : ∀ k, k < 4096 → M k ≤ st ∧ (M k = st → ∃ p ∈ R, p.1 = k)) (Q : Q144 g w ((j + 1 : Nat) : Int) il n x) : Lp x w b d l s st bf bt fd (R ++ [(j + 1, f)]) := by
 obtain ⟨sv', H'⟩ := Q.is _ _ _ _ _ _ _ _ _ _ H
 rw [Int.toNat_natCast] at H'
 refine ⟨_, _, H', fun k hk => ?_⟩
 unfold upd
 by_cases e : k = j + 1
 ·rw [if_pos e]
  exact ⟨Int.le_refl _, fun _ => ⟨(j + 1, f), by simp, e.symm⟩⟩
 ·rw [if_neg e]
  refine ⟨(hM k hk).1, fun h => ?_⟩
  obtain ⟨p, hp, hk⟩ := (hM k hk).2 h
  exact ⟨p, by simp [hp], hk⟩
theorem rd145s {R : List (Nat × Nat)} {n : Int} (I : In145 h w b d ls i l s M st bf bt fd sv (L1 ++ (j, f) :: L2) i0) (hn : n = ls.length) (hR : R = nextT l s i0 (kpT fd bf) L1) (P : Lp g w b d l s (st + 1) bf bt fd R) (W : Live g ol (.own 2 205 R.length))
  (N : Int → Heap → Prop) (N' : Heap → Prop) (S : Rows → Nat → Int → Heap → Prop) (S' : Rows → Nat → Heap → Prop)
  (hS : ∀ (R' : List (Nat × Nat)) (g' : Heap), R' = nextT l s i0 (kpT fd bf) (L1 ++ [(j, f)]) → Lp g' w b d l s (st + 1) bf bt fd R' → Live g' ol (.own 2 205 R'.length) → S (rowsT R') ol ((L1.length + 1 : Nat) : Int) g') :
  wpRound T145 cfg Tryz.prog 100 145 5 (I145 (.sl (rowsT R) (ol + 1)) w b d i ls t n L1.length g) (n145 w b d i ls t n N S) (e145 N' S') := by
 have hin : inRange (L1.length : Int) ls.length = true := by rw [inRange_iff, I.rows, rowsT_len, List.length_append, List.length_cons]; omega
 have hlt : L1.length < ls.length := by rw [I.rows, rowsT_len, List.length_append, List.length_cons]; omega
 have hg : getI L1.length ls = some [iA j, iA f] := by rw [I.rows]; exact rowsT_get
 have c0 : cellInt ls L1.length 0 = j := cell_of (k := .i64) hg rfl
 have c1 : cellInt ls L1.length 1 = f := cell_of (k := .i64) hg rfl
 have hj : j ≤ l.length := I.inst (j, f) (by simp)
 have hle := I.le
 have hlen := I.len
 rw [List.length_append, List.length_cons] at hlen
 have hi := I.ii
 subst hi hn
 refine r145s w b d i0 ls t ls.length L1.length (rowsT R) ol g N S N' S' ?_
 have hw : IntKind.i64.wrap ((L1.length : Int) + 1) = ((L1.length + 1 : Nat) : Int) := by
  rw [wrap_in (by omega) (by omega)]; omega
 have small : (nextT l s i0 (kpT fd bf) L1).length ≤ 5000 := by
  unfold nextT
  rw [List.length_map]
  have := List.length_filter_le (goT l s i0 (kpT fd bf)) L1
  omega
 rw [c0, c1, hw]
 refine it (dt (by omega)) (it hin ⟨by rw [Int.toNat_natCast]; exact hg, ?_⟩)
 obtain ⟨M1, sv1, H, hM⟩ := P.is
 obtain ⟨e1, e2⟩ := H.sim.sl
 rw [e2]
 refine it e1 fun m hm => ?_
 subst hm
 obtain ⟨op, RA, hop⟩ := progR_any hj
 refine it (by rw [inRange_iff, progR_len]; omega) ⟨by rw [Int.toNat_natCast]; exact RA.get, ?_⟩
 obtain ⟨x1, x2, x3⟩ := xrow H.sim.low (.sc (.int .i64 (cellInt (progR l) j 0))) (.sc (.int .u64 (cellInt (progR l) j 1))) (.sc (.int .u64 (cellInt (progR l) j 2))) (.sc (.int .u64 (cellInt (progR l) j 3))) (.sc (.int .u64 (cellInt (progR l) j 4))) (.sc (.int .i64 (cellInt (progR l) j 5))) (.sc (.int .i64 (cellInt (progR l) j 6)))
 refine it x1 ?_
 generalize storeIn (boxIn g 88 _) g.next 0 _ = G1 at *
 obtain ⟨k1, k2⟩ := int_cell x2 (o := 0) (k := .i64) rfl
 have P1 := P.keep x3
 refine it k1 fun m hm => ?_
 obtain rfl : m = op := hm.trans (k2.trans RA.op)
 have same : goT l s i0 (kpT fd bf) (j, f) = false → R = nextT l s i0 (kpT fd bf) (L1 ++ [(j, f)]) := by
  intro hq
  rw [nextT_app, nextT_one, hq, ← hR]; simp
 by_cases hlj : j < l.length
 ·have hop1 : m = 1 := by rw [← RA.op]; exact (progR_row hlj).1.op
  subst hop1
  refine it rfl ⟨⟨bf, bt, fd, x3 _ _ H.best, x3 _ _ H.fnd⟩, fun q hq => ?_⟩
  have hq : q = kpT fd bf f := hq.is _ _ _ (x3 _ _ H.best) (x3 _ _ H.fnd)
  have hgo := goT_lt (kp := kpT fd bf) (f := f) hlj I.lt
  subst hq
  refine iti (fun hk => ?_) (fun hk => ?_)
  ·obtain ⟨a1, a2⟩ := int_cell x2 (o := 1) (k := .u64) rfl
   obtain ⟨b1, b2⟩ := int_cell x2 (o := 2) (k := .u64) rfl
   obtain ⟨d1, d2⟩ := int_cell x2 (o := 3) (k := .u64) rfl
   obtain ⟨f1, f2⟩ := int_cell x2 (o := 4) (k := .u64) rfl
   obtain ⟨s1, s2⟩ := (H.keep x3).sim.str
   obtain ⟨_, w1, w2, w3, w4⟩ := progR_row hlj
   rw [a2, b2, d2, f2, s2, w1, w2, w3, w4]
   refine it ?_ (it s1 (it (by rw [inRange_iff]; have := I.lt; omega) ⟨⟨⟨l[j], al_get I.al hlj, rfl⟩, ⟨(byteAt_le s i0).1, by have := (byteAt_le s i0).2; omega⟩⟩, fun y hy => ?_⟩))
   ·simp only [kdsIn, Bool.and_true] at a1 b1 d1 f1
    simp only [List.flatten_cons, List.flatten_nil, List.append_nil, List.cons_append, List.nil_append, kdsIn, Bool.and_true, Bool.and_eq_true]
    exact ⟨a1, b1, d1, f1⟩
   ·have hy := hy.is l[j] (al_get I.al hlj) rfl
    rw [byteAt_nat I.lt, u8_eq] at hy
    subst hy
    rw [hk, Bool.and_true] at hgo
    refine iti (fun hb => ?_) (fun hb => ?_)
    ·intro m hm m' hm'
     subst hm hm'
     have hwj : IntKind.i64.wrap ((j : Int) + 1) = ((j + 1 : Nat) : Int) := by rw [wrap_in (by omega) (by omega)]; omega
     rw [hwj]
     obtain ⟨op', RA', hop'⟩ := progR_any (l := l) (j := j + 1) (by omega)
     have hH := H.keep x3
     refine ⟨⟨⟨b, d, _, _, _, _, _, _, _, _, op', j + 1, hH, rfl, by omega, RA', hop', fun hc => ?_⟩, fun il hil => by cases hil; rw [rowsT_len]; exact x3 _ _ W, rowsT_two R, by rw [rowsT_len, hR]; exact small⟩, fun x hx => ⟨rfl, ?_⟩⟩
     ·obtain ⟨p, hp, hpj⟩ := (hM (j + 1) (by omega)).2 hc
      exact next_ne I.desc hR p hp hpj
     ·have hgo : goT l s i0 (kpT fd bf) (j, f) = true := by rw [hgo]; exact hb
      have hRR : R ++ [(j + 1, f)] = nextT l s i0 (kpT fd bf) (L1 ++ [(j, f)]) := by rw [nextT_app, nextT_one, hgo, ← hR]; rfl
      have := hS (R ++ [(j + 1, f)]) x hRR (lp_reach hH hM hx) (by have := hx.own; rw [rowsT_len] at this; rw [List.length_append]; exact this)
      rw [rowsT_app] at this
      exact this
    ·rw [hb] at hgo
     exact ⟨rfl, hS R G1 (same hgo) P1 (x3 _ _ W)⟩
  ·rw [hk, Bool.and_false] at hgo
   exact ⟨rfl, hS R G1 (same hgo) P1 (x3 _ _ W)⟩
 ·obtain rfl : j = l.length := by omega
  have hop1 : m = 6 := by rw [← RA.op]; exact (progR_last l).op
  subst hop1
  have hgo := goT_end (l := l) (s := s) (i := i0) (f := f) (kp := kpT fd bf)
  exact ie rfl ⟨rfl, hS R G1 (same hgo) P1 (x3 _ _ W)⟩
theorem rd145n {R : List (Nat × Nat)} {n : Int} (I : In145 h w b d ls i l s M st bf bt fd sv (L1 ++ (j, f) :: L2) i0) (hn : n = ls.length) (hR : R = nextT l s i0 (kpT fd bf) L1) (P : Lp g w b d l s (st + 1) bf bt fd R) (hR0 : R = [])
  (N : Int → Heap → Prop) (N' : Heap → Prop) (S : Rows → Nat → Int → Heap → Prop) (S' : Rows → Nat → Heap → Prop)
  (hS : ∀ (R' : List (Nat × Nat)) (o : Option Nat) (g' : Heap), R' = nextT l s i0 (kpT fd bf) (L1 ++ [(j, f)]) → Lp g' w b d l s (st + 1) bf bt fd R' → (∀ ol, o = some ol → Live g' ol (.own 2 205 R'.length)) → (o = none → R' = []) → (match o with | some ol => S (rowsT R') ol ((L1.length + 1 : Nat) : Int) g' | none => N ((L1.length + 1 : Nat) : Int) g')) :
  wpRound T145 cfg Tryz.prog 100 145 5 (I145 nilA w b d i ls t n L1.length g) (n145 w b d i ls t n N S) (e145 N' S') := by
 have hin : inRange (L1.length : Int) ls.length = true := by rw [inRange_iff, I.rows, rowsT_len, List.length_append, List.length_cons]; omega
 have hlt : L1.length < ls.length := by rw [I.rows, rowsT_len, List.length_append, List.length_cons]; omega
 have hg : getI L1.length ls = some [iA j, iA f] := by rw [I.rows]; exact rowsT_get
 have c0 : cellInt ls L1.length 0 = j := cell_of (k := .i64) hg rfl
 have c1 : cellInt ls L1.length 1 = f := cell_of (k := .i64) hg rfl
 have hj : j ≤ l.length := I.inst (j, f) (by simp)
 have hle := I.le
 have hlen := I.len
 rw [List.length_append, List.length_cons] at hlen
 have hi := I.ii
 subst hi hn
 refine r145n w b d i0 ls t ls.length L1.length  g N S N' S' ?_
 have hw : IntKind.i64.wrap ((L1.length : Int) + 1) = ((L1.length + 1 : Nat) : Int) := by
  rw [wrap_in (by omega) (by omega)]; omega
 rw [c0, c1, hw]
 refine it (dt (by omega)) (it hin ⟨by rw [Int.toNat_natCast]; exact hg, ?_⟩)
 obtain ⟨M1, sv1, H, hM⟩ := P.is
 obtain ⟨e1, e2⟩ := H.sim.sl
 rw [e2]
 refine it e1 fun m hm => ?_
 subst hm
 obtain ⟨op, RA, hop⟩ := progR_any hj
 refine it (by rw [inRange_iff, progR_len]; omega) ⟨by rw [Int.toNat_natCast]; exact RA.get, ?_⟩
 obtain ⟨x1, x2, x3⟩ := xrow H.sim.low (.sc (.int .i64 (cellInt (progR l) j 0))) (.sc (.int .u64 (cellInt (progR l) j 1))) (.sc (.int .u64 (cellInt (progR l) j 2))) (.sc (.int .u64 (cellInt (progR l) j 3))) (.sc (.int .u64 (cellInt (progR l) j 4))) (.sc (.int .i64 (cellInt (progR l) j 5))) (.sc (.int .i64 (cellInt (progR l) j 6)))
 refine it x1 ?_
 generalize storeIn (boxIn g 88 _) g.next 0 _ = G1 at *
 obtain ⟨k1, k2⟩ := int_cell x2 (o := 0) (k := .i64) rfl
 have P1 := P.keep x3
 refine it k1 fun m hm => ?_
 obtain rfl : m = op := hm.trans (k2.trans RA.op)
 have same : goT l s i0 (kpT fd bf) (j, f) = false → R = nextT l s i0 (kpT fd bf) (L1 ++ [(j, f)]) := by
  intro hq
  rw [nextT_app, nextT_one, hq, ← hR]; simp
 by_cases hlj : j < l.length
 ·have hop1 : m = 1 := by rw [← RA.op]; exact (progR_row hlj).1.op
  subst hop1
  refine it rfl ⟨⟨bf, bt, fd, x3 _ _ H.best, x3 _ _ H.fnd⟩, fun q hq => ?_⟩
  have hq : q = kpT fd bf f := hq.is _ _ _ (x3 _ _ H.best) (x3 _ _ H.fnd)
  have hgo := goT_lt (kp := kpT fd bf) (f := f) hlj I.lt
  subst hq
  refine iti (fun hk => ?_) (fun hk => ?_)
  ·obtain ⟨a1, a2⟩ := int_cell x2 (o := 1) (k := .u64) rfl
   obtain ⟨b1, b2⟩ := int_cell x2 (o := 2) (k := .u64) rfl
   obtain ⟨d1, d2⟩ := int_cell x2 (o := 3) (k := .u64) rfl
   obtain ⟨f1, f2⟩ := int_cell x2 (o := 4) (k := .u64) rfl
   obtain ⟨s1, s2⟩ := (H.keep x3).sim.str
   obtain ⟨_, w1, w2, w3, w4⟩ := progR_row hlj
   rw [a2, b2, d2, f2, s2, w1, w2, w3, w4]
   refine it ?_ (it s1 (it (by rw [inRange_iff]; have := I.lt; omega) ⟨⟨⟨l[j], al_get I.al hlj, rfl⟩, ⟨(byteAt_le s i0).1, by have := (byteAt_le s i0).2; omega⟩⟩, fun y hy => ?_⟩))
   ·simp only [kdsIn, Bool.and_true] at a1 b1 d1 f1
    simp only [List.flatten_cons, List.flatten_nil, List.append_nil, List.cons_append, List.nil_append, kdsIn, Bool.and_true, Bool.and_eq_true]
    exact ⟨a1, b1, d1, f1⟩
   ·have hy := hy.is l[j] (al_get I.al hlj) rfl
    rw [byteAt_nat I.lt, u8_eq] at hy
    subst hy
    rw [hk, Bool.and_true] at hgo
    refine iti (fun hb => ?_) (fun hb => ?_)
    ·intro m hm m' hm'
     subst hm hm'
     have hwj : IntKind.i64.wrap ((j : Int) + 1) = ((j + 1 : Nat) : Int) := by rw [wrap_in (by omega) (by omega)]; omega
     rw [hwj]
     obtain ⟨op', RA', hop'⟩ := progR_any (l := l) (j := j + 1) (by omega)
     have hH := H.keep x3
     refine ⟨⟨⟨b, d, _, _, _, _, _, _, _, _, op', j + 1, hH, rfl, by omega, RA', hop', fun hc => ?_⟩, (fun il hil => by cases hil), rfl, by decide⟩, fun x hx => ⟨rfl, ?_⟩⟩
     ·obtain ⟨p, hp, hpj⟩ := (hM (j + 1) (by omega)).2 hc
      exact next_ne I.desc hR p hp hpj
     ·have hgo : goT l s i0 (kpT fd bf) (j, f) = true := by rw [hgo]; exact hb
      have hRR : R ++ [(j + 1, f)] = nextT l s i0 (kpT fd bf) (L1 ++ [(j, f)]) := by rw [nextT_app, nextT_one, hgo, ← hR]; rfl
      have := hS (R ++ [(j + 1, f)]) (some x.1) x.2 hRR (lp_reach hH hM hx) (fun ol ho => by cases ho; rw [hR0]; exact hx.own) (fun ho => by cases ho)
      rw [hR0] at this
      exact this
    ·rw [hb] at hgo
     exact ⟨rfl, hS R none G1 (same hgo) P1 (fun ol ho => by cases ho) (fun _ => hR0)⟩
  ·rw [hk, Bool.and_false] at hgo
   exact ⟨rfl, hS R none G1 (same hgo) P1 (fun ol ho => by cases ho) (fun _ => hR0)⟩
 ·obtain rfl : j = l.length := by omega
  have hop1 : m = 6 := by rw [← RA.op]; exact (progR_last l).op
  subst hop1
  have hgo := goT_end (l := l) (s := s) (i := i0) (f := f) (kp := kpT fd bf)
  exact ie rfl ⟨rfl, hS R none G1 (same hgo) P1 (fun ol ho => by cases ho) (fun _ => hR0)⟩
end
end
end Go.Proofs.Rl
namespace Go.Proofs.Rl
open Go Go.Ef
noncomputable section
set_option maxRecDepth 100000
def outA (o : Option Nat) (R : List (Nat × Nat)) : AV := match o with
 | none => nilA
 | some ol => .sl (rowsT R) (ol + 1)
theorem tidy145 : cfg.tidy 145 5 = some ⟨[0, 2, 3, 9, 20, 21, 22], [9], 0⟩ := by kernel_rfl
theorem first145 : firstId 8 (loopAt Tryz.prog 145 5) = 5 := by kernel_rfl
section
variable {h g : Heap} {w b d : Nat} {ls : Rows} {i : Int} {l s : List UInt8} {M : Nat → Int} {st bf bt : Int} {fd : Bool} {sv : AV} {i0 t : Nat}
theorem can145 (out : AV) (n k : Int) (g : Heap) : (I145 out w b d i ls t n k g).tidy [0, 2, 3, 9, 20, 21, 22] 0 = I145 out w b d i ls t n k g := by kernel_rfl
theorem loop145 : ∀ (L2 L1 R : List (Nat × Nat)) (o : Option Nat) (g : Heap), In145 h w b d ls i l s M st bf bt fd sv (L1 ++ L2) i0 → R = nextT l s i0 (kpT fd bf) L1 → Lp g w b d l s (st + 1) bf bt fd R → (o = none → R = []) → (∀ ol, o = some ol → Live g ol (.own 2 205 R.length)) →
  Ev cfg Tryz.prog 145 (.loop (loopAt Tryz.prog 145 5)) (I145 (outA o R) w b d i ls t ls.length L1.length g) fun ex τ => ex = .exit 0 ∧ ∃ o' R' g', τ = E145 (outA o' R') g' ∧ R' = nextT l s i0 (kpT fd bf) (L1 ++ L2) ∧ Lp g' w b d l s (st + 1) bf bt fd R' ∧ (o' = none → R' = []) ∧ (∀ ol, o' = some ol → Live g' ol (.own 2 205 R'.length))
 | [], L1, R, o, g, I, hR, P, ho, hW => by
  have hn : decide ((L1.length : Int) < (ls.length : Int)) = false := df (by rw [I.rows, rowsT_len, List.append_nil]; omega)
  rw [List.append_nil]
  cases o with
  | none =>
   refine Ev.round ok145 first145 tidy145 (can145 nilA _ _ g) (r145n w b d i ls t ls.length L1.length g (fun _ _ => False) (fun _ _ _ _ => False) (fun g' => g' = g) (fun _ _ _ => False) (ie hn ⟨rfl, rfl, rfl⟩)) (fun τ hq => ?_) (fun ex τ he => ?_)
   ·unfold n145 at hq
    split at hq
    ·split at hq
     ·exact hq.2.elim
     ·exact hq.elim
    ·exact hq.2.elim
    ·exact hq.elim
   ·unfold e145 at he
    split at he
    ·obtain ⟨h0, he⟩ := he
     cases h0
     split at he
     ·split at he
      ·exact he.2.elim
      ·exact he.elim
     ·exact ⟨rfl, none, R, g, by rw [he.1, he.2]; rfl, hR, P, ho, hW⟩
     ·exact he.elim
    ·exact he.elim
  | some ol =>
   refine Ev.round ok145 first145 tidy145 (can145 (.sl (rowsT R) (ol + 1)) _ _ g) (r145s w b d i ls t ls.length L1.length (rowsT R) ol g (fun _ _ => False) (fun _ _ _ _ => False) (fun _ => False) (fun os ol' g' => os = rowsT R ∧ ol' = ol ∧ g' = g) (ie hn ⟨rfl, rfl, rfl, rfl, rfl⟩)) (fun τ hq => ?_) (fun ex τ he => ?_)
   ·unfold n145 at hq
    split at hq
    ·split at hq
     ·exact hq.2.elim
     ·exact hq.elim
    ·exact hq.2.elim
    ·exact hq.elim
   ·unfold e145 at he
    split at he
    ·obtain ⟨h0, he⟩ := he
     cases h0
     split at he
     ·split at he
      ·obtain ⟨q1, q2, q3, q4⟩ := he
       exact ⟨rfl, some ol, R, g, by rw [q1, q2, q3, q4]; rfl, hR, P, ho, hW⟩
      ·exact he.elim
     ·exact he.2.elim
     ·exact he.elim
    ·exact he.elim
 | (j, f) :: L2, L1, R, o, g, I, hR, P, ho, hW => by
  have I' : In145 h w b d ls i l s M st bf bt fd sv ((L1 ++ [(j, f)]) ++ L2) i0 := by rw [List.append_assoc]; exact I
  have hk : ((L1 ++ [(j, f)]).length : Int) = ((L1.length + 1 : Nat) : Int) := by rw [List.length_append]; rfl
  have go : ∀ (R' : List (Nat × Nat)) (o' : Option Nat) (g' : Heap), R' = nextT l s i0 (kpT fd bf) (L1 ++ [(j, f)]) → Lp g' w b d l s (st + 1) bf bt fd R' → (o' = none → R' = []) → (∀ ol, o' = some ol → Live g' ol (.own 2 205 R'.length)) →
    Ev cfg Tryz.prog 145 (.loop (loopAt Tryz.prog 145 5)) (I145 (outA o' R') w b d i ls t ls.length ((L1.length + 1 : Nat) : Int) g') fun ex τ => ex = .exit 0 ∧ ∃ o' R' g', τ = E145 (outA o' R') g' ∧ R' = nextT l s i0 (kpT fd bf) (L1 ++ (j, f) :: L2) ∧ Lp g' w b d l s (st + 1) bf bt fd R' ∧ (o' = none → R' = []) ∧ (∀ ol, o' = some ol → Live g' ol (.own 2 205 R'.length)) := by
   intro R' o' g' a1 a2 a3 a4
   have := loop145 L2 (L1 ++ [(j, f)]) R' o' g' I' a1 a2 a3 a4
   rw [hk, List.append_assoc] at this
   exact this
  cases o with
  | none =>
   refine Ev.round ok145 first145 tidy145 (can145 nilA _ _ g) (rd145n I rfl hR P (ho rfl) (fun k' g' => ∃ R', k' = ((L1.length + 1 : Nat) : Int) ∧ R' = nextT l s i0 (kpT fd bf) (L1 ++ [(j, f)]) ∧ Lp g' w b d l s (st + 1) bf bt fd R' ∧ R' = []) (fun _ => False) (fun os ol k' g' => ∃ R', os = rowsT R' ∧ k' = ((L1.length + 1 : Nat) : Int) ∧ R' = nextT l s i0 (kpT fd bf) (L1 ++ [(j, f)]) ∧ Lp g' w b d l s (st + 1) bf bt fd R' ∧ Live g' ol (.own 2 205 R'.length)) (fun _ _ _ => False) (fun R' o' g' a1 a2 a3 a4 => ?_)) (fun τ hq => ?_) (fun ex τ he => ?_)
   ·cases o' with
    | none => exact ⟨R', rfl, a1, a2, a4 rfl⟩
    | some ol => exact ⟨R', rfl, rfl, a1, a2, a3 ol rfl⟩
   ·unfold n145 at hq
    split at hq
    ·split at hq
     ·obtain ⟨q1, R', q2, q3, q4, q5, q6⟩ := hq
      rw [q1, q2, q3]
      exact go R' (some _) _ q4 q5 (fun h => by cases h) (fun ol h => by cases h; exact q6)
     ·exact hq.elim
    ·obtain ⟨q1, R', q3, q4, q5, q6⟩ := hq
     rw [q1, q3]
     exact go R' none _ q4 q5 (fun _ => q6) (fun ol h => by cases h)
    ·exact hq.elim
   ·unfold e145 at he
    split at he
    ·obtain ⟨h0, he⟩ := he
     cases h0
     split at he
     ·split at he
      ·exact he.2.elim
      ·exact he.elim
     ·exact he.2.elim
     ·exact he.elim
    ·exact he.elim
  | some ol =>
   refine Ev.round ok145 first145 tidy145 (can145 (.sl (rowsT R) (ol + 1)) _ _ g) (rd145s I rfl hR P (hW ol rfl) (fun _ _ => False) (fun _ => False) (fun os ol' k' g' => ∃ R', ol' = ol ∧ os = rowsT R' ∧ k' = ((L1.length + 1 : Nat) : Int) ∧ R' = nextT l s i0 (kpT fd bf) (L1 ++ [(j, f)]) ∧ Lp g' w b d l s (st + 1) bf bt fd R' ∧ Live g' ol (.own 2 205 R'.length)) (fun _ _ _ => False) (fun R' g' a1 a2 a3 => ⟨R', rfl, rfl, rfl, a1, a2, a3⟩)) (fun τ hq => ?_) (fun ex τ he => ?_)
   ·unfold n145 at hq
    split at hq
    ·split at hq
     ·obtain ⟨q1, R', q0, q2, q3, q4, q5, q6⟩ := hq
      rw [q1, q2, q3, q0]
      exact go R' (some ol) _ q4 q5 (fun h => by cases h) (fun ol' h => by cases h; exact q6)
     ·exact hq.elim
    ·exact hq.2.elim
    ·exact hq.elim
   ·unfold e145 at he
    split at he
    ·obtain ⟨h0, he⟩ := he
     cases h0
     split at he
     ·split at he
      ·exact he.2.elim
      ·exact he.elim
     ·exact he.2.elim
     ·exact he.elim
    ·exact he.elim
end
structure P145 (l s : List UInt8) (h : Heap) (w b d : Nat) (ls : Rows) (i : Int) : Prop where
 is : ∃ M st bf bt fd sv L i0, In145 h w b d ls i l s M st bf bt fd sv L i0
structure Q145 (l s : List UInt8) (h : Heap) (w b d : Nat) (ls : Rows) (i : Int) (o : Option Nat) (R : List (Nat × Nat)) (g : Heap) : Prop where
 is : ∀ M st bf bt fd sv L i0, In145 h w b d ls i l s M st bf bt fd sv L i0 → R = nextT l s i0 (kpT fd bf) L ∧ Lp g w b d l s (st + 1) bf bt fd R
 own : ∀ ol, o = some ol → Live g ol (.own 2 205 R.length)
 nil : o = none → R = []
def C145 (l s : List UInt8) (args : List AV) (h : Heap) : Option CSpec :=
 match args with
 | [.ptr w 0, .sl ls _, .sc (.int .i64 i), .fn (.func 146) [] [.ptr d 0, .ptr b 0]] => some { pre := P145 l s h w b d ls i, alts := [{ α := Heap, post := fun x => Q145 l s h w b d ls i none [] x, val := fun _ => nilA, heap := fun x => x }, { α := List (Nat × Nat) × Nat × Heap, post := fun x => Q145 l s h w b d ls i (some x.2.1) x.1 x.2.2, val := fun x => .sl (rowsT x.1) (x.2.1 + 1), heap := fun x => x.2.2 }] }
 | _ => none
theorem rowsT_inj : ∀ {a c : List (Nat × Nat)}, rowsT a = rowsT c → a = c
 | [], [], _ => rfl
 | [], _ :: _, h => by cases h
 | _ :: _, [], h => by cases h
 | (j, f) :: a, (j', f') :: c, h => by
  have h1 : iA j :: [iA f] = [iA j', iA f'] ∧ rowsT a = rowsT c := List.cons.inj h
  obtain ⟨h1, h2⟩ := h1
  have e1 : (j : Int) = j' := by have := (List.cons.inj h1).1; unfold iA at this; cases this; rfl
  have e2 : (f : Int) = f' := by have := (List.cons.inj (List.cons.inj h1).2).1; unfold iA at this; cases this; rfl
  rw [rowsT_inj h2, show j = j' by omega, show f = f' by omega]
structure Fin145 (l s : List UInt8) (w b d : Nat) (st bf bt : Int) (fd : Bool) (L : List (Nat × Nat)) (i0 : Nat) (o : Option Nat) (R : List (Nat × Nat)) (g : Heap) : Prop where
 eq : R = nextT l s i0 (kpT fd bf) L
 lp : Lp g w b d l s (st + 1) bf bt fd R
 nil : o = none → R = []
 own : ∀ ol, o = some ol → Live g ol (.own 2 205 R.length)
section
variable {h g : Heap} {w b d : Nat} {ls : Rows} {i : Int} {l s : List UInt8} {M : Nat → Int} {st bf bt : Int} {fd : Bool} {sv : AV} {L : List (Nat × Nat)} {i0 t : Nat}
theorem okT145L (I : In145 h w b d ls i l s M st bf bt fd sv L i0) : Ok (T145L w b d i ls t (fun x => x = storeIn h w 4099 [iA (st + 1)]) (fun x => Fin145 l s w b d st bf bt fd L i0 none [] x) fun os ol x => ∃ R, os = rowsT R ∧ Fin145 l s w b d st bf bt fd L i0 (some ol) R x) := by
 refine addL_ok ok145 fun σ z hs hp => ?_
 cases hs
 obtain ⟨h1, h2⟩ := hp
 replace h2 : σ.h = storeIn h w 4099 [iA (st + 1)] := h2
 rw [h2] at h1
 have P0 : Lp (storeIn h w 4099 [iA (st + 1)]) w b d l s (st + 1) bf bt fd [] := by
  refine ⟨M, sv, ⟨I.mem.sim.putStep _, ?_, I.mem.sim.other I.mem.wb I.mem.best, I.mem.sim.other I.mem.wd I.mem.fnd, I.mem.wb, I.mem.wd, I.mem.bd⟩, fun k hk => ?_⟩
  ·rcases I.mem.stk with e | ⟨sid, c, e, X, n1, n2, n3⟩
   ·exact .inl e
   ·exact .inr ⟨sid, c, e, I.mem.sim.other n1.symm X, n1, n2, n3⟩
  ·have := I.mrk k hk
   exact ⟨by omega, fun h => by omega⟩
 have E := loop145 (t := t) L [] [] none _ I rfl P0 (fun _ => rfl) (fun ol h => by cases h)
 obtain ⟨m, ex, τ, e, rfl, o, R, g', rfl, e1, e2, e3, e4⟩ := Ev.tidied (t := ⟨[0, 2, 3, 9, 20, 21, 22], [9], 0⟩) (by rw [first145]; exact tidy145) (h1.trans (can145 nilA _ _ _).symm) E
 cases o with
 | none =>
  obtain rfl := e3 rfl
  exact ⟨_, List.mem_cons_self .., g', ⟨e1, e2, e3, e4⟩, m, e⟩
 | some ol => exact ⟨_, List.mem_cons_of_mem _ (List.mem_singleton.2 rfl), (rowsT R, ol, g'), ⟨R, rfl, e1, e2, e3, e4⟩, m, e⟩
theorem wp145 (I : In145 h w b d ls i l s M st bf bt fd sv L i0) : wpCall (T145L w b d i ls t (fun x => x = storeIn h w 4099 [iA (st + 1)]) (fun x => Fin145 l s w b d st bf bt fd L i0 none [] x) fun os ol x => ∃ R, os = rowsT R ∧ Fin145 l s w b d st bf bt fd L i0 (some ol) R x) cfg Tryz.prog 100 145 [.ptr w 0, .sl ls t, iA i, fnA d b] h
  fun v x => ∃ o R, v = outA o R ∧ Fin145 l s w b d st bf bt fd L i0 o R x := by
 refine v145 w b d i ls t _ _ _ h _ ?_
 obtain ⟨t1, t2⟩ := I.mem.sim.step
 have hlo := I.lo
 have hhi := I.hi
 rw [t2, wrap_in (by omega) (by omega)]
 refine it t1 (it (I.mem.sim.ok (by show 4099 + 1 ≤ 4101; omega)) ⟨rfl, ⟨rfl, rfl⟩, fun x hx => ⟨none, [], rfl, hx⟩, fun x hx => ?_⟩)
 obtain ⟨R, e, F⟩ := hx
 exact ⟨some x.2.1, R, by rw [e]; rfl, F⟩
theorem okC145 (l s : List UInt8) {T : Tab} (O : Ok T) : Ok (T.addC 145 (C145 l s)) := by
 refine addC_ok O fun args h z hs hp => ?_
 unfold C145 at hs
 split at hs
 ·rename_i w ls t i d b
  cases hs
  obtain ⟨M, st, bf, bt, fd, sv, L, i0, I⟩ := P145.is hp
  obtain ⟨m, v, h', e, o, R, rfl, F⟩ := call_okW (okT145L (t := t) I) 100 145 _ h _ (wp145 (t := t) I)
  have uni : Q145 l s h w b d ls i o R h' := by
   refine ⟨fun M' st' bf' bt' fd' sv' L' i0' I' => ?_, F.own, F.nil⟩
   obtain ⟨rfl, rfl⟩ := I.mem.sim.inj I'.mem.sim
   have e1 := I.mem.best.get.symm.trans I'.mem.best.get
   have e2 := I.mem.fnd.get.symm.trans I'.mem.fnd.get
   cases e1; cases e2
   obtain rfl : L = L' := rowsT_inj (I.rows.symm.trans I'.rows)
   obtain rfl : i0 = i0' := by have := I.ii.symm.trans I'.ii; omega
   exact ⟨F.eq, F.lp⟩
  cases o with
  | none =>
   obtain rfl := F.nil rfl
   exact ⟨_, List.mem_cons_self .., h', m, uni, by rw [callP_plain rfl rfl rfl]; exact e⟩
  | some ol => exact ⟨_, List.mem_cons_of_mem _ (List.mem_singleton.2 rfl), (R, ol, h'), m, uni, by rw [callP_plain rfl rfl rfl]; exact e⟩
 ·cases hs
end
end
end Go.Proofs.Rl
namespace Go.Proofs.Rl
open Go Go.Ef
noncomputable section
def ptI (σ : St) (t : Nat) : Nat :=
 match σ.at t with
 | .v (.ptr i _) => i
 | _ => 0
def I142 (lst : AV) (els : Rows) (s : List UInt8) (w b d : Nat) (i : Int) (g : Heap) : St := stOf 95 [(1, sStr s), (3, .lp 0 0), (6, .lp 1 0), (8, .v (.ptr w 0)), (9, .v (.ptr b 0)), (10, .v (.ptr d 0)), (11, .v lst), (12, sInt i)] [.cells [.sl els 0, bA false], .cells [iA 0, iA 0]] g
def E142 (els : Rows) (b d : Nat) (g : Heap) : St := stOf 95 [(6, .lp 1 0), (9, .v (.ptr b 0)), (10, .v (.ptr d 0))] [.cells [.sl els 0, bA false], .cells [iA 0, iA 0]] g
def J142 (ls : Rows) (t : Nat) (els : Rows) (s : List UInt8) (w b d : Nat) (i n k : Int) (g : Heap) : St := stOf 95 [(1, sStr s), (3, .lp 0 0), (6, .lp 1 0), (8, .v (.ptr w 0)), (9, .v (.ptr b 0)), (10, .v (.ptr d 0)), (11, .v (.sl ls t)), (12, sInt i), (48, .v (.sl ls t)), (49, sInt n), (50, sInt k)] [.cells [.sl els 0, bA false], .cells [iA 0, iA 0]] g
structure P143 (els : Rows) : Prop where
 is : ∃ l, l.all isAl = true ∧ l.length ≤ 20 ∧ l ≠ [] ∧ els = progR l
structure Q143 (els : Rows) (s : List UInt8) (g : Heap) : Prop where
 sim : Sim g 1 els s (fun _ => 0) 0 nilA
 nx : g.next = 2
def C143 (args : List AV) (h : Heap) : Option CSpec :=
 match h with
 | ⟨1, .leaf, 1, .leaf⟩ => match args with
  | [.agg [.sl els 0, .sc (.bool q)], .sc (.string ⟨⟨s⟩⟩)] => some { pre := bif q then False else P143 els, alts := [{ α := Heap, post := fun g => Q143 els s g, val := fun _ => .ptr 1 0, heap := fun g => g }] }
  | _ => none
 | _ => none
def T142i : Tab := Tab.slices (Tab.heapy ((((tab0.name 142 57).name 142 60).name 142 67).name 142 74) 142) 142 fun _ => 2
def L142 (els : Rows) (s : List UInt8) (w b d : Nat) (Pre : Rows → Int → Heap → Prop) (Q : Rows → Int → Heap → Heap → Prop) (σ : St) : Option LSpec :=
 match σ.at 11 with
 | .v (.sl ls t) => some { pre := σ.tidy [1, 3, 6, 8, 9, 10, 11, 12, 48, 49, 50] 2 = J142 ls t els s w b d (slI σ 12) ls.length 0 σ.h ∧ Pre ls (slI σ 12) σ.h, alts := [{ α := Heap, post := fun x => Q ls (slI σ 12) σ.h x, ex := .exit 2, st := fun x => I142 (.sl ls t) els s w b d (slI σ 12) x }] }
 | _ => some { pre := False, alts := [] }
def T142 (l s : List UInt8) (els : Rows) (w b d : Nat) (Pre : Rows → Int → Heap → Prop) (Q : Rows → Int → Heap → Heap → Prop) : Tab :=
 Tab.heapy (((tab0.addC 144 C144).addC 145 (C145 l s)).addL 142 14 (L142 els s w b d Pre Q)) 142
def T142o (els : Rows) (s : List UInt8) (Pre : Nat → Nat → Nat → Heap → Prop) (Q : Nat → Nat → Nat → Heap → Heap → Prop) : Tab :=
 Tab.heapy ((tab0.addC 143 C143).addL 142 11 fun σ => some { pre := σ.tidy [1, 3, 6, 8, 9, 10, 11, 12] 2 = I142 nilA els s (ptI σ 8) (ptI σ 9) (ptI σ 10) 0 σ.h ∧ Pre (ptI σ 8) (ptI σ 9) (ptI σ 10) σ.h, alts := [{ α := Heap, post := fun x => Q (ptI σ 8) (ptI σ 9) (ptI σ 10) σ.h x, ex := .exit 0, st := fun x => E142 els (ptI σ 9) (ptI σ 10) x }] }) 142
def nJ (ls : Rows) (t : Nat) (els : Rows) (s : List UInt8) (w b d : Nat) (i n : Int) (N : Int → Heap → Prop) (τ : St) : Prop := τ = J142 ls t els s w b d i n (slI τ 50) τ.h ∧ N (slI τ 50) τ.h
def eJ (ls : Rows) (t : Nat) (els : Rows) (s : List UInt8) (w b d : Nat) (i : Int) (X : Nat → Heap → Prop) (ex : Ex) (τ : St) : Prop :=
 match ex with
 | .exit j => τ = I142 (.sl ls t) els s w b d i τ.h ∧ X j τ.h
 | _ => False
def nI (els : Rows) (s : List UInt8) (w b d : Nat) (N : Int → Heap → Prop) (S : Rows → Nat → Int → Heap → Prop) (τ : St) : Prop :=
 match τ.at 11 with
 | .v (.sl ls t) => match t with
  | il + 1 => τ = I142 (.sl ls (il + 1)) els s w b d (slI τ 12) τ.h ∧ S ls il (slI τ 12) τ.h
  | 0 => False
 | .v (.sc _) => τ = I142 nilA els s w b d (slI τ 12) τ.h ∧ N (slI τ 12) τ.h
 | _ => False
def eI (els : Rows) (b d : Nat) (X : Nat → Heap → Prop) (ex : Ex) (τ : St) : Prop :=
 match ex with
 | .exit j => τ = E142 els b d τ.h ∧ X j τ.h
 | _ => False
end
end Go.Proofs.Rl
namespace Go.Proofs.Rl
open Go Go.Ef
noncomputable section
set_option maxRecDepth 100000
theorem rJ (ls : Rows) (t : Nat) (els : Rows) (s : List UInt8) (w : Nat) (b : Nat) (d : Nat) (i : Int) (n : Int) (k : Int) (g : Heap) (N : Int → Heap → Prop) (X : Nat → Heap → Prop) (h :
 iteP (decide (k < n))
 (iteP (inRange k (List.length ls))
 (getI k.toNat ls =
 some
 [AV.sc (Value.int IntKind.i64 (cellInt ls k (0 : Nat))),
 AV.sc (Value.int IntKind.i64 (cellInt ls k (1 : Nat)))] ∧
 ∀ (m : Int),
 m = cellInt ls k (0 : Nat) →
 iteP (inRange m (List.length els))
 (getI m.toNat els =
 some
 [AV.sc (Value.int IntKind.i64 (cellInt els m (0 : Nat))),
 AV.sc (Value.int IntKind.u64 (cellInt els m (1 : Nat))),
 AV.sc (Value.int IntKind.u64 (cellInt els m (2 : Nat))),
 AV.sc (Value.int IntKind.u64 (cellInt els m (3 : Nat))),
 AV.sc (Value.int IntKind.u64 (cellInt els m (4 : Nat))),
 AV.sc (Value.int IntKind.i64 (cellInt els m (5 : Nat))),
 AV.sc (Value.int IntKind.i64 (cellInt els m (6 : Nat)))] ∧
 ∀ (m_1 : Int),
 m_1 = cellInt els m (0 : Nat) →
 iteP (m_1 == (6 : Int))
 (iteP (kdsIn g d (0 : Nat) [Kd.bool])
 (iteP (boolIn g d (0 : Nat))
 (∀ (m : Int),
 m = cellInt ls k (1 : Nat) →
 iteP (kdsIn g b (0 : Nat) [Kd.int IntKind.i64])
 (iteP (decide (m ≤ intIn g b (0 : Nat)))
 (∀ (m : Int),
 m = cellInt ls k (1 : Nat) →
 iteP
 (okIn g b (0 : Nat)
 [AV.sc (Value.int IntKind.i64 m), AV.sc (Value.int IntKind.i64 i)].length)
 (iteP
 (okIn
 (storeIn g b (0 : Nat)
 [AV.sc (Value.int IntKind.i64 m), AV.sc (Value.int IntKind.i64 i)])
 d (0 : Nat) (1 : Nat))
 (J142 ls t els s w b d i n (IntKind.i64.wrap (k + (1 : Int)))
 (storeIn
 (storeIn g b (0 : Nat)
 [AV.sc (Value.int IntKind.i64 m), AV.sc (Value.int IntKind.i64 i)])
 d (0 : Nat) [AV.sc (Value.bool true)]) =
 J142 ls t els s w b d i n (IntKind.i64.wrap (k + (1 : Int)))
 (storeIn
 (storeIn g b (0 : Nat)
 [AV.sc (Value.int IntKind.i64 m), AV.sc (Value.int IntKind.i64 i)])
 d (0 : Nat) [AV.sc (Value.bool true)]) ∧
 N (IntKind.i64.wrap (k + (1 : Int)))
 (storeIn
 (storeIn g b (0 : Nat)
 [AV.sc (Value.int IntKind.i64 m), AV.sc (Value.int IntKind.i64 i)])
 d (0 : Nat) [AV.sc (Value.bool true)]))
 False)
 False)
 (J142 ls t els s w b d i n (IntKind.i64.wrap (k + (1 : Int))) g =
 J142 ls t els s w b d i n (IntKind.i64.wrap (k + (1 : Int))) g ∧
 N (IntKind.i64.wrap (k + (1 : Int))) g))
 False)
 (∀ (m : Int),
 m = cellInt ls k (1 : Nat) →
 iteP
 (okIn g b (0 : Nat)
 [AV.sc (Value.int IntKind.i64 m), AV.sc (Value.int IntKind.i64 i)].length)
 (iteP
 (okIn
 (storeIn g b (0 : Nat)
 [AV.sc (Value.int IntKind.i64 m), AV.sc (Value.int IntKind.i64 i)])
 d (0 : Nat) (1 : Nat))
 (J142 ls t els s w b d i n (IntKind.i64.wrap (k + (1 : Int)))
 (storeIn
 (storeIn g b (0 : Nat)
 [AV.sc (Value.int IntKind.i64 m), AV.sc (Value.int IntKind.i64 i)])
 d (0 : Nat) [AV.sc (Value.bool true)]) =
 J142 ls t els s w b d i n (IntKind.i64.wrap (k + (1 : Int)))
 (storeIn
 (storeIn g b (0 : Nat)
 [AV.sc (Value.int IntKind.i64 m), AV.sc (Value.int IntKind.i64 i)])
 d (0 : Nat) [AV.sc (Value.bool true)]) ∧
 N (IntKind.i64.wrap (k + (1 : Int)))
 (storeIn
 (storeIn g b (0 : Nat)
 [AV.sc (Value.int IntKind.i64 m), AV.sc (Value.int IntKind.i64 i)])
 d (0 : Nat) [AV.sc (Value.bool true)]))
 False)
 False))
 False)
 (J142 ls t els s w b d i n (IntKind.i64.wrap (k + (1 : Int))) g =
 J142 ls t els s w b d i n (IntKind.i64.wrap (k + (1 : Int))) g ∧
 N (IntKind.i64.wrap (k + (1 : Int))) g))
 False)
 False)
 (I142 (AV.sl ls t) els s w b d i g = I142 (AV.sl ls t) els s w b d i g ∧ X (2 : Nat) g)) :
 (fun (ls : Rows) (t : Nat) (els : Rows) (s : List UInt8) (w b d : Nat) (i n k : Int) (g : Heap) (N : Int → Heap → Prop) (X : Nat → Heap → Prop) => wpRound T142i cfg Tryz.prog 100 142 14 (J142 ls t els s w b d i n k g) (nJ ls t els s w b d i n N) (eJ ls t els s w b d i X)) ls t els s w b d i n k g N X :=
 Eq.mp (by kernel_rfl) h
theorem rIn (l : List UInt8) (s : List UInt8) (els : Rows) (w : Nat) (b : Nat) (d : Nat) (Pre : Rows → Int → Heap → Prop) (Q : Rows → Int → Heap → Heap → Prop) (i : Int) (g : Heap) (N : Int → Heap → Prop) (S : Rows → Nat → Int → Heap → Prop) (X : Nat → Heap → Prop) (h :
 iteP (kdsIn g d (0 : Nat) [Kd.bool])
 (iteP (boolIn g d (0 : Nat))
 (loopAt Tryz.prog (142 : Nat) (14 : Nat) = loopAt Tryz.prog (142 : Nat) (14 : Nat) ∧ False ∧ True)
 (P144 g w (0 : Int) [] none ∧
 ∀ (x : Nat × Heap),
 Q144 g w (0 : Int) x.fst (1 : Nat) x.snd →
 loopAt Tryz.prog (142 : Nat) (14 : Nat) = loopAt Tryz.prog (142 : Nat) (14 : Nat) ∧
 (J142 [[AV.sc (Value.int IntKind.i64 (0 : Int)), AV.sc (Value.int IntKind.i64 i)]] (x.fst + (1 : Nat)) els s
 w b d i (↑[[AV.sc (Value.int IntKind.i64 (0 : Int)), AV.sc (Value.int IntKind.i64 i)]].length : Int)
 (0 : Int) x.snd =
 J142 [[AV.sc (Value.int IntKind.i64 (0 : Int)), AV.sc (Value.int IntKind.i64 i)]] (x.fst + (1 : Nat))
 els s w b d i
 (↑[[AV.sc (Value.int IntKind.i64 (0 : Int)), AV.sc (Value.int IntKind.i64 i)]].length : Int)
 (0 : Int) x.snd ∧
 Pre [[AV.sc (Value.int IntKind.i64 (0 : Int)), AV.sc (Value.int IntKind.i64 i)]] i x.snd) ∧
 ∀ (x_1 : Heap),
 Q [[AV.sc (Value.int IntKind.i64 (0 : Int)), AV.sc (Value.int IntKind.i64 i)]] i x.snd x_1 →
 iteP (i == (↑s.length : Int)) (E142 els b d x_1 = E142 els b d x_1 ∧ X (0 : Nat) x_1)
 (P145 l s x_1 w b d [[AV.sc (Value.int IntKind.i64 (0 : Int)), AV.sc (Value.int IntKind.i64 i)]] i ∧
 (∀ (x : Heap),
 Q145 l s x_1 w b d
 [[AV.sc (Value.int IntKind.i64 (0 : Int)), AV.sc (Value.int IntKind.i64 i)]] i none [] x →
 iteP (kdsIn x d (0 : Nat) [Kd.bool])
 (iteP (boolIn x d (0 : Nat)) (E142 els b d x = E142 els b d x ∧ X (0 : Nat) x)
 (I142 (AV.sc (Value.slice none (0 : Nat) (0 : Nat))) els s w b d
 (IntKind.i64.wrap (i + (1 : Int))) x =
 I142 (AV.sc (Value.slice none (0 : Nat) (0 : Nat))) els s w b d
 (IntKind.i64.wrap (i + (1 : Int))) x ∧
 N (IntKind.i64.wrap (i + (1 : Int))) x))
 False) ∧
 ∀ (x : List (Nat × Nat) × Nat × Heap),
 Q145 l s x_1 w b d
 [[AV.sc (Value.int IntKind.i64 (0 : Int)), AV.sc (Value.int IntKind.i64 i)]] i
 (some x.snd.fst) x.fst x.snd.snd →
 iteP (kdsIn x.snd.snd d (0 : Nat) [Kd.bool])
 (iteP (boolIn x.snd.snd d (0 : Nat))
 (iteP ((↑(rowsT x.fst).length : Int) == (0 : Int))
 (E142 els b d x.snd.snd = E142 els b d x.snd.snd ∧ X (0 : Nat) x.snd.snd)
 (I142 (AV.sl (rowsT x.fst) (x.snd.fst + (1 : Nat))) els s w b d
 (IntKind.i64.wrap (i + (1 : Int))) x.snd.snd =
 I142 (AV.sl (rowsT x.fst) (x.snd.fst + (1 : Nat))) els s w b d
 (IntKind.i64.wrap (i + (1 : Int))) x.snd.snd ∧
 S (rowsT x.fst) x.snd.fst (IntKind.i64.wrap (i + (1 : Int))) x.snd.snd))
 (I142 (AV.sl (rowsT x.fst) (x.snd.fst + (1 : Nat))) els s w b d
 (IntKind.i64.wrap (i + (1 : Int))) x.snd.snd =
 I142 (AV.sl (rowsT x.fst) (x.snd.fst + (1 : Nat))) els s w b d
 (IntKind.i64.wrap (i + (1 : Int))) x.snd.snd ∧
 S (rowsT x.fst) x.snd.fst (IntKind.i64.wrap (i + (1 : Int))) x.snd.snd))
 False)))
 False) :
 (fun (l s : List UInt8) (els : Rows) (w b d : Nat) (Pre : Rows → Int → Heap → Prop) (Q : Rows → Int → Heap → Heap → Prop) (i : Int) (g : Heap) (N : Int → Heap → Prop) (S : Rows → Nat → Int → Heap → Prop) (X : Nat → Heap → Prop) => wpRound (T142 l s els w b d Pre Q) cfg Tryz.prog 100 142 11 (I142 nilA els s w b d i g) (nI els s w b d N S) (eI els b d X)) l s els w b d Pre Q i g N S X :=
 Eq.mp (by kernel_rfl) h
theorem rIs (l : List UInt8) (s : List UInt8) (els : Rows) (w : Nat) (b : Nat) (d : Nat) (Pre : Rows → Int → Heap → Prop) (Q : Rows → Int → Heap → Heap → Prop) (ls : Rows) (il : Nat) (i : Int) (g : Heap) (N : Int → Heap → Prop) (S : Rows → Nat → Int → Heap → Prop) (X : Nat → Heap → Prop) (h :
 iteP (kdsIn g d (0 : Nat) [Kd.bool])
 (iteP (boolIn g d (0 : Nat))
 (loopAt Tryz.prog (142 : Nat) (14 : Nat) = loopAt Tryz.prog (142 : Nat) (14 : Nat) ∧
 (J142 ls (il + (1 : Nat)) els s w b d i (↑(List.length ls) : Int) (0 : Int) g =
 J142 ls (il + (1 : Nat)) els s w b d i (↑(List.length ls) : Int) (0 : Int) g ∧
 Pre ls i g) ∧
 ∀ (x : Heap),
 Q ls i g x →
 iteP (i == (↑s.length : Int)) (E142 els b d x = E142 els b d x ∧ X (0 : Nat) x)
 (P145 l s x w b d ls i ∧
 (∀ (x_1 : Heap),
 Q145 l s x w b d ls i none [] x_1 →
 iteP (kdsIn x_1 d (0 : Nat) [Kd.bool])
 (iteP (boolIn x_1 d (0 : Nat)) (E142 els b d x_1 = E142 els b d x_1 ∧ X (0 : Nat) x_1)
 (I142 (AV.sc (Value.slice none (0 : Nat) (0 : Nat))) els s w b d
 (IntKind.i64.wrap (i + (1 : Int))) x_1 =
 I142 (AV.sc (Value.slice none (0 : Nat) (0 : Nat))) els s w b d
 (IntKind.i64.wrap (i + (1 : Int))) x_1 ∧
 N (IntKind.i64.wrap (i + (1 : Int))) x_1))
 False) ∧
 ∀ (x_1 : List (Nat × Nat) × Nat × Heap),
 Q145 l s x w b d ls i (some x_1.snd.fst) x_1.fst x_1.snd.snd →
 iteP (kdsIn x_1.snd.snd d (0 : Nat) [Kd.bool])
 (iteP (boolIn x_1.snd.snd d (0 : Nat))
 (iteP ((↑(rowsT x_1.fst).length : Int) == (0 : Int))
 (E142 els b d x_1.snd.snd = E142 els b d x_1.snd.snd ∧ X (0 : Nat) x_1.snd.snd)
 (I142 (AV.sl (rowsT x_1.fst) (x_1.snd.fst + (1 : Nat))) els s w b d
 (IntKind.i64.wrap (i + (1 : Int))) x_1.snd.snd =
 I142 (AV.sl (rowsT x_1.fst) (x_1.snd.fst + (1 : Nat))) els s w b d
 (IntKind.i64.wrap (i + (1 : Int))) x_1.snd.snd ∧
 S (rowsT x_1.fst) x_1.snd.fst (IntKind.i64.wrap (i + (1 : Int))) x_1.snd.snd))
 (I142 (AV.sl (rowsT x_1.fst) (x_1.snd.fst + (1 : Nat))) els s w b d
 (IntKind.i64.wrap (i + (1 : Int))) x_1.snd.snd =
 I142 (AV.sl (rowsT x_1.fst) (x_1.snd.fst + (1 : Nat))) els s w b d
 (IntKind.i64.wrap (i + (1 : Int))) x_1.snd.snd ∧
 S (rowsT x_1.fst) x_1.snd.fst (IntKind.i64.wrap (i + (1 : Int))) x_1.snd.snd))
 False))
 (P144 g w (0 : Int) ls (some il) ∧
 ∀ (x : Heap),
 Q144 g w (0 : Int) il (List.length ls + (1 : Nat)) x →
 loopAt Tryz.prog (142 : Nat) (14 : Nat) = loopAt Tryz.prog (142 : Nat) (14 : Nat) ∧
 (J142 (ls ++ [[AV.sc (Value.int IntKind.i64 (0 : Int)), AV.sc (Value.int IntKind.i64 i)]]) (il + (1 : Nat))
 els s w b d i
 (↑(ls ++ [[AV.sc (Value.int IntKind.i64 (0 : Int)), AV.sc (Value.int IntKind.i64 i)]]).length : Int)
 (0 : Int) x =
 J142 (ls ++ [[AV.sc (Value.int IntKind.i64 (0 : Int)), AV.sc (Value.int IntKind.i64 i)]])
 (il + (1 : Nat)) els s w b d i
 (↑(ls ++ [[AV.sc (Value.int IntKind.i64 (0 : Int)), AV.sc (Value.int IntKind.i64 i)]]).length : Int)
 (0 : Int) x ∧
 Pre (ls ++ [[AV.sc (Value.int IntKind.i64 (0 : Int)), AV.sc (Value.int IntKind.i64 i)]]) i x) ∧
 ∀ (x_1 : Heap),
 Q (ls ++ [[AV.sc (Value.int IntKind.i64 (0 : Int)), AV.sc (Value.int IntKind.i64 i)]]) i x x_1 →
 iteP (i == (↑s.length : Int)) (E142 els b d x_1 = E142 els b d x_1 ∧ X (0 : Nat) x_1)
 (P145 l s x_1 w b d
 (ls ++ [[AV.sc (Value.int IntKind.i64 (0 : Int)), AV.sc (Value.int IntKind.i64 i)]]) i ∧
 (∀ (x : Heap),
 Q145 l s x_1 w b d
 (ls ++ [[AV.sc (Value.int IntKind.i64 (0 : Int)), AV.sc (Value.int IntKind.i64 i)]]) i
 none [] x →
 iteP (kdsIn x d (0 : Nat) [Kd.bool])
 (iteP (boolIn x d (0 : Nat)) (E142 els b d x = E142 els b d x ∧ X (0 : Nat) x)
 (I142 (AV.sc (Value.slice none (0 : Nat) (0 : Nat))) els s w b d
 (IntKind.i64.wrap (i + (1 : Int))) x =
 I142 (AV.sc (Value.slice none (0 : Nat) (0 : Nat))) els s w b d
 (IntKind.i64.wrap (i + (1 : Int))) x ∧
 N (IntKind.i64.wrap (i + (1 : Int))) x))
 False) ∧
 ∀ (x : List (Nat × Nat) × Nat × Heap),
 Q145 l s x_1 w b d
 (ls ++ [[AV.sc (Value.int IntKind.i64 (0 : Int)), AV.sc (Value.int IntKind.i64 i)]]) i
 (some x.snd.fst) x.fst x.snd.snd →
 iteP (kdsIn x.snd.snd d (0 : Nat) [Kd.bool])
 (iteP (boolIn x.snd.snd d (0 : Nat))
 (iteP ((↑(rowsT x.fst).length : Int) == (0 : Int))
 (E142 els b d x.snd.snd = E142 els b d x.snd.snd ∧ X (0 : Nat) x.snd.snd)
 (I142 (AV.sl (rowsT x.fst) (x.snd.fst + (1 : Nat))) els s w b d
 (IntKind.i64.wrap (i + (1 : Int))) x.snd.snd =
 I142 (AV.sl (rowsT x.fst) (x.snd.fst + (1 : Nat))) els s w b d
 (IntKind.i64.wrap (i + (1 : Int))) x.snd.snd ∧
 S (rowsT x.fst) x.snd.fst (IntKind.i64.wrap (i + (1 : Int))) x.snd.snd))
 (I142 (AV.sl (rowsT x.fst) (x.snd.fst + (1 : Nat))) els s w b d
 (IntKind.i64.wrap (i + (1 : Int))) x.snd.snd =
 I142 (AV.sl (rowsT x.fst) (x.snd.fst + (1 : Nat))) els s w b d
 (IntKind.i64.wrap (i + (1 : Int))) x.snd.snd ∧
 S (rowsT x.fst) x.snd.fst (IntKind.i64.wrap (i + (1 : Int))) x.snd.snd))
 False)))
 False) :
 (fun (l s : List UInt8) (els : Rows) (w b d : Nat) (Pre : Rows → Int → Heap → Prop) (Q : Rows → Int → Heap → Heap → Prop) (ls : Rows) (il : Nat) (i : Int) (g : Heap) (N : Int → Heap → Prop) (S : Rows → Nat → Int → Heap → Prop) (X : Nat → Heap → Prop) => wpRound (T142 l s els w b d Pre Q) cfg Tryz.prog 100 142 11 (I142 (.sl ls (il + 1)) els s w b d i g) (nI els s w b d N S) (eI els b d X)) l s els w b d Pre Q ls il i g N S X :=
 Eq.mp (by kernel_rfl) h
theorem v142 (els : Rows) (s : List UInt8) (Pre : Nat → Nat → Nat → Heap → Prop) (Q : Nat → Nat → Nat → Heap → Heap → Prop) (K : AV → Prop) (h :
 P143 els ∧
 ∀ (x : Heap),
 Q143 els s x →
 iteP
 (okIn
 (boxIn (boxIn x (51 : Nat) [AV.sc (Value.int IntKind.i64 (0 : Int)), AV.sc (Value.int IntKind.i64 (0 : Int))])
 (4 : Nat) [AV.sc (Value.bool false)])
 (boxIn x (51 : Nat) [AV.sc (Value.int IntKind.i64 (0 : Int)), AV.sc (Value.int IntKind.i64 (0 : Int))]).next
 (0 : Nat) (1 : Nat))
 (iteP
 (kdsIn
 (storeIn
 (boxIn
 (boxIn x (51 : Nat) [AV.sc (Value.int IntKind.i64 (0 : Int)), AV.sc (Value.int IntKind.i64 (0 : Int))])
 (4 : Nat) [AV.sc (Value.bool false)])
 (boxIn x (51 : Nat)
 [AV.sc (Value.int IntKind.i64 (0 : Int)), AV.sc (Value.int IntKind.i64 (0 : Int))]).next
 (0 : Nat) [AV.sc (Value.bool false)])
 (1 : Nat) (4099 : Nat) [Kd.int IntKind.i64])
 (iteP
 (okIn
 (storeIn
 (boxIn
 (boxIn x (51 : Nat)
 [AV.sc (Value.int IntKind.i64 (0 : Int)), AV.sc (Value.int IntKind.i64 (0 : Int))])
 (4 : Nat) [AV.sc (Value.bool false)])
 (boxIn x (51 : Nat)
 [AV.sc (Value.int IntKind.i64 (0 : Int)), AV.sc (Value.int IntKind.i64 (0 : Int))]).next
 (0 : Nat) [AV.sc (Value.bool false)])
 (1 : Nat) (4099 : Nat)
 [AV.sc
 (Value.int IntKind.i64
 (IntKind.i64.wrap
 (intIn
 (storeIn
 (boxIn
 (boxIn x (51 : Nat)
 [AV.sc (Value.int IntKind.i64 (0 : Int)), AV.sc (Value.int IntKind.i64 (0 : Int))])
 (4 : Nat) [AV.sc (Value.bool false)])
 (boxIn x (51 : Nat)
 [AV.sc (Value.int IntKind.i64 (0 : Int)),
 AV.sc (Value.int IntKind.i64 (0 : Int))]).next
 (0 : Nat) [AV.sc (Value.bool false)])
 (1 : Nat) (4099 : Nat) +
 (1 : Int))))].length)
 (loopAt Tryz.prog (142 : Nat) (11 : Nat) = loopAt Tryz.prog (142 : Nat) (11 : Nat) ∧
 (I142 (AV.sc (Value.slice none (0 : Nat) (0 : Nat))) els s (1 : Nat) x.next
 (boxIn x (51 : Nat)
 [AV.sc (Value.int IntKind.i64 (0 : Int)), AV.sc (Value.int IntKind.i64 (0 : Int))]).next
 (0 : Int)
 (storeIn
 (storeIn
 (boxIn
 (boxIn x (51 : Nat)
 [AV.sc (Value.int IntKind.i64 (0 : Int)), AV.sc (Value.int IntKind.i64 (0 : Int))])
 (4 : Nat) [AV.sc (Value.bool false)])
 (boxIn x (51 : Nat)
 [AV.sc (Value.int IntKind.i64 (0 : Int)), AV.sc (Value.int IntKind.i64 (0 : Int))]).next
 (0 : Nat) [AV.sc (Value.bool false)])
 (1 : Nat) (4099 : Nat)
 [AV.sc
 (Value.int IntKind.i64
 (IntKind.i64.wrap
 (intIn
 (storeIn
 (boxIn
 (boxIn x (51 : Nat)
 [AV.sc (Value.int IntKind.i64 (0 : Int)),
 AV.sc (Value.int IntKind.i64 (0 : Int))])
 (4 : Nat) [AV.sc (Value.bool false)])
 (boxIn x (51 : Nat)
 [AV.sc (Value.int IntKind.i64 (0 : Int)),
 AV.sc (Value.int IntKind.i64 (0 : Int))]).next
 (0 : Nat) [AV.sc (Value.bool false)])
 (1 : Nat) (4099 : Nat) +
 (1 : Int))))]) =
 I142 (AV.sc (Value.slice none (0 : Nat) (0 : Nat))) els s (1 : Nat) x.next
 (boxIn x (51 : Nat)
 [AV.sc (Value.int IntKind.i64 (0 : Int)), AV.sc (Value.int IntKind.i64 (0 : Int))]).next
 (0 : Int)
 (storeIn
 (storeIn
 (boxIn
 (boxIn x (51 : Nat)
 [AV.sc (Value.int IntKind.i64 (0 : Int)), AV.sc (Value.int IntKind.i64 (0 : Int))])
 (4 : Nat) [AV.sc (Value.bool false)])
 (boxIn x (51 : Nat)
 [AV.sc (Value.int IntKind.i64 (0 : Int)), AV.sc (Value.int IntKind.i64 (0 : Int))]).next
 (0 : Nat) [AV.sc (Value.bool false)])
 (1 : Nat) (4099 : Nat)
 [AV.sc
 (Value.int IntKind.i64
 (IntKind.i64.wrap
 (intIn
 (storeIn
 (boxIn
 (boxIn x (51 : Nat)
 [AV.sc (Value.int IntKind.i64 (0 : Int)),
 AV.sc (Value.int IntKind.i64 (0 : Int))])
 (4 : Nat) [AV.sc (Value.bool false)])
 (boxIn x (51 : Nat)
 [AV.sc (Value.int IntKind.i64 (0 : Int)),
 AV.sc (Value.int IntKind.i64 (0 : Int))]).next
 (0 : Nat) [AV.sc (Value.bool false)])
 (1 : Nat) (4099 : Nat) +
 (1 : Int))))]) ∧
 Pre (1 : Nat) x.next
 (boxIn x (51 : Nat)
 [AV.sc (Value.int IntKind.i64 (0 : Int)), AV.sc (Value.int IntKind.i64 (0 : Int))]).next
 (storeIn
 (storeIn
 (boxIn
 (boxIn x (51 : Nat)
 [AV.sc (Value.int IntKind.i64 (0 : Int)), AV.sc (Value.int IntKind.i64 (0 : Int))])
 (4 : Nat) [AV.sc (Value.bool false)])
 (boxIn x (51 : Nat)
 [AV.sc (Value.int IntKind.i64 (0 : Int)), AV.sc (Value.int IntKind.i64 (0 : Int))]).next
 (0 : Nat) [AV.sc (Value.bool false)])
 (1 : Nat) (4099 : Nat)
 [AV.sc
 (Value.int IntKind.i64
 (IntKind.i64.wrap
 (intIn
 (storeIn
 (boxIn
 (boxIn x (51 : Nat)
 [AV.sc (Value.int IntKind.i64 (0 : Int)),
 AV.sc (Value.int IntKind.i64 (0 : Int))])
 (4 : Nat) [AV.sc (Value.bool false)])
 (boxIn x (51 : Nat)
 [AV.sc (Value.int IntKind.i64 (0 : Int)),
 AV.sc (Value.int IntKind.i64 (0 : Int))]).next
 (0 : Nat) [AV.sc (Value.bool false)])
 (1 : Nat) (4099 : Nat) +
 (1 : Int))))])) ∧
 ∀ (x_1 : Heap),
 Q (1 : Nat) x.next
 (boxIn x (51 : Nat)
 [AV.sc (Value.int IntKind.i64 (0 : Int)), AV.sc (Value.int IntKind.i64 (0 : Int))]).next
 (storeIn
 (storeIn
 (boxIn
 (boxIn x (51 : Nat)
 [AV.sc (Value.int IntKind.i64 (0 : Int)), AV.sc (Value.int IntKind.i64 (0 : Int))])
 (4 : Nat) [AV.sc (Value.bool false)])
 (boxIn x (51 : Nat)
 [AV.sc (Value.int IntKind.i64 (0 : Int)), AV.sc (Value.int IntKind.i64 (0 : Int))]).next
 (0 : Nat) [AV.sc (Value.bool false)])
 (1 : Nat) (4099 : Nat)
 [AV.sc
 (Value.int IntKind.i64
 (IntKind.i64.wrap
 (intIn
 (storeIn
 (boxIn
 (boxIn x (51 : Nat)
 [AV.sc (Value.int IntKind.i64 (0 : Int)),
 AV.sc (Value.int IntKind.i64 (0 : Int))])
 (4 : Nat) [AV.sc (Value.bool false)])
 (boxIn x (51 : Nat)
 [AV.sc (Value.int IntKind.i64 (0 : Int)),
 AV.sc (Value.int IntKind.i64 (0 : Int))]).next
 (0 : Nat) [AV.sc (Value.bool false)])
 (1 : Nat) (4099 : Nat) +
 (1 : Int))))])
 x_1 →
 iteP (kdsIn x_1 x.next (0 : Nat) [[Kd.int IntKind.i64], [Kd.int IntKind.i64]].flatten)
 (iteP
 (kdsIn x_1
 (boxIn x (51 : Nat)
 [AV.sc (Value.int IntKind.i64 (0 : Int)), AV.sc (Value.int IntKind.i64 (0 : Int))]).next
 (0 : Nat) [Kd.bool])
 (iteP
 (boolIn x_1
 (boxIn x (51 : Nat)
 [AV.sc (Value.int IntKind.i64 (0 : Int)), AV.sc (Value.int IntKind.i64 (0 : Int))]).next
 (0 : Nat))
 (K
 (AV.tup
 [AV.agg
 [AV.sc (Value.int IntKind.i64 (intIn x_1 x.next (0 : Nat))),
 AV.sc (Value.int IntKind.i64 (intIn x_1 x.next (1 : Nat)))],
 AV.sc (Value.bool true)]))
 (K
 (AV.tup
 [AV.agg
 [AV.sc (Value.int IntKind.i64 (intIn x_1 x.next (0 : Nat))),
 AV.sc (Value.int IntKind.i64 (intIn x_1 x.next (1 : Nat)))],
 AV.sc (Value.bool false)])))
 False)
 False)
 False)
 False)
 False) :
 (fun (els : Rows) (s : List UInt8) (Pre : Nat → Nat → Nat → Heap → Prop) (Q : Nat → Nat → Nat → Heap → Heap → Prop) (K : AV → Prop) => wpCall (T142o els s Pre Q) cfg Tryz.prog 100 142 [.agg [.sl els 0, bA false], aStr s, iA 0] heapF fun r h' => wpBack h' r K) els s Pre Q K :=
 Eq.mp (by kernel_rfl) h
end
end Go.Proofs.Rl
namespace Go.Proofs.Rl
open Go Go.Ef
noncomputable section
set_option maxRecDepth 100000
theorem tidyJ : cfg.tidy 142 14 = some ⟨[1, 3, 6, 8, 9, 10, 11, 12, 48, 49, 50], [1, 3, 6, 8, 9, 10, 11, 12], 2⟩ := by kernel_rfl
theorem firstJ : firstId 8 (loopAt Tryz.prog 142 14) = 14 := by kernel_rfl
theorem canJ (ls : Rows) (t : Nat) (els : Rows) (s : List UInt8) (w b d : Nat) (i n k : Int) (g : Heap) : (J142 ls t els s w b d i n k g).tidy [1, 3, 6, 8, 9, 10, 11, 12, 48, 49, 50] 2 = J142 ls t els s w b d i n k g := by kernel_rfl
theorem okT142i : Ok T142i := ⟨tab0_ok.call, tab0_ok.loop⟩
section
variable {g : Heap} {w b d : Nat} {els : Rows} {s l : List UInt8} {M : Nat → Int} {st bf bt : Int} {fd : Bool} {sv : AV}
theorem Mem.found (H : Mem g w b d els s M st bf bt fd sv) (f i : Int) : okIn g b 0 2 = true ∧ okIn (storeIn g b 0 [iA f, iA i]) d 0 1 = true ∧ Mem (storeIn (storeIn g b 0 [iA f, iA i]) d 0 [bA true]) w b d els s M st f i true sv := by
 have e1 : storeIn g b 0 [iA f, iA i] = putIn g b (.cells [iA f, iA i]) := by rw [store_eq H.best]; rfl
 have D : Live (storeIn g b 0 [iA f, iA i]) d (.cells [bA fd]) := by rw [e1]; exact H.best.put H.fnd H.bd
 have e2 : storeIn (storeIn g b 0 [iA f, iA i]) d 0 [bA true] = putIn (storeIn g b 0 [iA f, iA i]) d (.cells [bA true]) := by rw [store_eq D]; rfl
 refine ⟨ok_in H.best (Nat.le_refl _), ok_in D (Nat.le_refl _), ?_⟩
 rw [e2]
 have K : ∀ j q, j ≠ b → j ≠ d → Live g j q → Live (putIn (storeIn g b 0 [iA f, iA i]) d (.cells [bA true])) j q := by
  intro j q h1 h2 l
  refine D.put ?_ h2.symm
  rw [e1]
  exact H.best.put l h1.symm
 refine ⟨H.sim.keep fun q l => K _ _ H.wb H.wd l, ?_, ?_, live_put D _, H.wb, H.wd, H.bd⟩
 ·rcases H.stk with e | ⟨sid, c, e, X, n1, n2, n3⟩
  ·exact .inl e
  ·exact .inr ⟨sid, c, e, K _ _ n2 n3 X, n1, n2, n3⟩
 ·refine D.put ?_ H.bd.symm
  rw [e1]
  exact live_put H.best _
structure Fnd (l : List UInt8) (L : List (Nat × Nat)) (i : Nat) (bf bt : Int) (fd : Bool) : Prop where
 yes : fd = true → ∃ f : Nat, (l.length, f) ∈ L ∧ bf = f ∧ bt = i
 no : fd = false → (∀ f : Nat, (l.length, f) ∉ L) ∧ bf = 0 ∧ bt = 0
structure MemJ (g : Heap) (w b d : Nat) (l s : List UInt8) (st : Int) (L0 L : List (Nat × Nat)) (i : Nat) : Prop where
 is : ∃ M sv bf bt fd, Mem g w b d (progR l) s M st bf bt fd sv ∧ (∀ k, k < 4096 → M k ≤ st) ∧ Fnd l L i bf bt fd
theorem loopJ {t i : Nat} {st : Int} {L : List (Nat × Nat)} (hle : l.length ≤ 20) (hin : ∀ p ∈ L, p.1 ≤ l.length) (hds : L.Pairwise fun p q => q.1 < p.1) (hln : L.length ≤ 1000) : ∀ (L2 L1 : List (Nat × Nat)) (g : Heap), L = L1 ++ L2 → MemJ g w b d l s st L L1 i →
  Ev cfg Tryz.prog 142 (.loop (loopAt Tryz.prog 142 14)) (J142 (rowsT L) t (progR l) s w b d i (rowsT L).length L1.length g) fun ex τ => ex = .exit 2 ∧ ∃ g', τ = I142 (.sl (rowsT L) t) (progR l) s w b d i g' ∧ MemJ g' w b d l s st L L i
 | [], L1, g, hL, P => by
  rw [List.append_nil] at hL
  subst hL
  have hn : decide ((L.length : Int) < ((rowsT L).length : Int)) = false := df (by rw [rowsT_len]; omega)
  refine Ev.round okT142i firstJ tidyJ (canJ _ _ _ _ _ _ _ _ _ _ g) (rJ (rowsT L) t (progR l) s w b d i (rowsT L).length L.length g (fun _ _ => False) (fun j x => j = 2 ∧ x = g) (ie hn ⟨rfl, rfl, rfl⟩)) (fun τ hq => hq.2.elim) (fun ex τ he => ?_)
  unfold eJ at he
  split at he
  ·obtain ⟨h1, h2, h3⟩ := he
   exact ⟨by rw [h2], g, by rw [h1, h3], P⟩
  ·exact he.elim
 | (j, f) :: L2, L1, g, hL, P => by
  have ih := loopJ (t := t) (i := i) (st := st) hle hin hds hln L2 (L1 ++ [(j, f)])
  have hk : ((L1 ++ [(j, f)]).length : Int) = ((L1.length + 1 : Nat) : Int) := by rw [List.length_append]; rfl
  have hL' : L = (L1 ++ [(j, f)]) ++ L2 := by rw [List.append_assoc]; exact hL
  have hlt : L1.length < L.length := by rw [hL, List.length_append, List.length_cons]; omega
  have hj : j ≤ l.length := hin (j, f) (by rw [hL]; simp)
  have hg : getI L1.length (rowsT L) = some [iA j, iA f] := by rw [hL]; exact rowsT_get
  have c0 : cellInt (rowsT L) L1.length 0 = j := cell_of (k := .i64) hg rfl
  have c1 : cellInt (rowsT L) L1.length 1 = f := cell_of (k := .i64) hg rfl
  have hw : IntKind.i64.wrap ((L1.length : Int) + 1) = ((L1.length + 1 : Nat) : Int) := by rw [wrap_in (by omega) (by omega)]; omega
  refine Ev.round okT142i firstJ tidyJ (canJ _ _ _ _ _ _ _ _ _ _ g) (rJ (rowsT L) t (progR l) s w b d i (rowsT L).length L1.length g (fun k' x => k' = ((L1.length + 1 : Nat) : Int) ∧ MemJ x w b d l s st L (L1 ++ [(j, f)]) i) (fun _ _ => False) ?_) (fun τ hq => ?_) (fun ex τ he => ?_)
  ·obtain ⟨M, sv, bf, bt, fd, H, hM, F⟩ := P.is
   rw [c0, c1, hw]
   refine it (dt (by rw [rowsT_len]; omega)) (it (by rw [inRange_iff, rowsT_len]; omega) ⟨by rw [Int.toNat_natCast]; exact hg, fun m hm => ?_⟩)
   subst hm
   obtain ⟨op, RA, hop⟩ := progR_any hj
   refine it (by rw [inRange_iff, progR_len]; omega) ⟨by rw [Int.toNat_natCast]; exact RA.get, fun m hm => ?_⟩
   obtain rfl : m = op := hm.trans RA.op
   by_cases hlj : j < l.length
   ·have hop1 : m = 1 := by rw [← RA.op]; exact (progR_row hlj).1.op
    subst hop1
    refine ie rfl ⟨rfl, rfl, ⟨M, sv, bf, bt, fd, H, hM, ⟨fun h => ?_, fun h => ?_⟩⟩⟩
    ·obtain ⟨f', h1, h2⟩ := F.yes h
     exact ⟨f', by simp [h1], h2⟩
    ·obtain ⟨h1, h2⟩ := F.no h
     refine ⟨fun f' hf => ?_, h2⟩
     rcases List.mem_append.1 hf with h3 | h3
     ·exact h1 f' h3
     ·simp only [List.mem_singleton, Prod.mk.injEq] at h3
      omega
   ·obtain rfl : j = l.length := by omega
    have hop1 : m = 6 := by rw [← RA.op]; exact (progR_last l).op
    subst hop1
    have hfd : fd = false := by
     cases hfd : fd with
     | false => rfl
     | true =>
      obtain ⟨f', h1, _⟩ := F.yes hfd
      rw [hL] at hds
      have := (List.pairwise_append.1 hds).2.2 _ h1 (l.length, f) (by simp)
      simp at this
    subst hfd
    obtain ⟨b1, b2⟩ := bool_cell H.fnd (o := 0) (b := false) rfl
    rw [b2]
    refine it rfl (it b1 (ie rfl fun m hm => ?_))
    subst hm
    obtain ⟨k1, k2, k3⟩ := H.found f i
    exact it k1 (it k2 ⟨rfl, rfl, ⟨M, sv, f, i, true, k3, hM, ⟨fun _ => ⟨f, by simp, rfl, rfl⟩, fun h => by cases h⟩⟩⟩)
  ·obtain ⟨q1, q2, q3⟩ := hq
   rw [q1, q2, ← hk]
   exact ih _ hL' q3
  ·unfold eJ at he
   split at he
   ·exact he.2.elim
   ·exact he.elim
end
end
end Go.Proofs.Rl
namespace Go.Proofs.Rl
open Go Go.Ef
noncomputable section
set_option maxRecDepth 100000
theorem thr_len (t s : B) : ∀ i, (thr t s i).length ≤ i
 | 0 => Nat.le_refl _
 | i + 1 => by
  show (stepT t s i (thr t s i ++ [(0, i)])).length ≤ i + 1
  unfold stepT
  rw [List.length_map]
  refine Nat.le_trans (List.length_filter_le _ _) ?_
  rw [List.length_append]
  have := thr_len t s i
  simp only [List.length_cons, List.length_nil]
  omega
theorem tidyI : cfg.tidy 142 11 = some ⟨[1, 3, 6, 8, 9, 10, 11, 12], [6, 9, 10], 2⟩ := by kernel_rfl
theorem firstI : firstId 8 (loopAt Tryz.prog 142 11) = 11 := by kernel_rfl
theorem canI (lst : AV) (els : Rows) (s : List UInt8) (w b d : Nat) (i : Int) (g : Heap) : (I142 lst els s w b d i g).tidy [1, 3, 6, 8, 9, 10, 11, 12] 2 = I142 lst els s w b d i g := by kernel_rfl
structure Inv142 (l s : List UInt8) (w b d i : Nat) (o : Option Nat) (R : List (Nat × Nat)) (g : Heap) : Prop where
 lp : Lp g w b d l s (i + 1) 0 0 false R
 eq : R = thr l s i
 nil : o = none → R = []
 own : ∀ ol, o = some ol → Live g ol (.own 2 205 R.length)
structure Fin142 (l s : List UInt8) (w b d : Nat) (g : Heap) : Prop where
 is : ∃ M st sv bf bt fd, Mem g w b d (progR l) s M st bf bt fd sv ∧ (bf, bt, fd) = match srch l s (s.length + 1) 0 with
  | some n => ((n : Int), (n : Int) + l.length, true)
  | none => (0, 0, false)
section
variable {l s : List UInt8} {w b d : Nat} {N : Int → Heap → Prop} {S : Rows → Nat → Int → Heap → Prop} {X : Nat → Heap → Prop}
theorem srch_yes {n i : Nat} (h1 : l.length ≤ i) (h2 : occ l s (i - l.length) = true) : srch l s (n + 1) i = some (i - l.length) := by
 rw [srch, decide_eq_true h1, h2]; rfl
theorem srch_no {n i : Nat} (h : (decide (l.length ≤ i) && occ l s (i - l.length)) = false) : srch l s (n + 1) i = srch l s n (i + 1) := by
 rw [srch, h]; rfl
theorem tail142 {x : Heap} {i n : Nat} {lt : Rows} (hal : l.all isAl = true) (hle : l.length ≤ 20) (hne : l ≠ []) (hsl : s.length ≤ 60) (hi : i + n = s.length) (hsr : srch l s (n + 1) i = srch l s (s.length + 1) 0)
  (hlt : lt = rowsT (thr l s i ++ [(0, i)])) (J : MemJ x w b d l s (i + 1) (thr l s i ++ [(0, i)]) (thr l s i ++ [(0, i)]) i)
  (hX : ∀ x', Fin142 l s w b d x' → X 0 x') (hN : ∀ x', 0 < n → srch l s n (i + 1) = srch l s (s.length + 1) 0 → Inv142 l s w b d (i + 1) none [] x' → N ((i + 1 : Nat) : Int) x') (hS : ∀ R ol x', 0 < n → srch l s n (i + 1) = srch l s (s.length + 1) 0 → Inv142 l s w b d (i + 1) (some ol) R x' → S (rowsT R) ol ((i + 1 : Nat) : Int) x') :
  iteP ((i : Int) == (↑s.length : Int)) (E142 (progR l) b d x = E142 (progR l) b d x ∧ X (0 : Nat) x) (P145 l s x w b d lt i ∧ (∀ (x_1 : Heap), Q145 l s x w b d lt i none [] x_1 → iteP (kdsIn x_1 d (0 : Nat) [Kd.bool]) (iteP (boolIn x_1 d (0 : Nat)) (E142 (progR l) b d x_1 = E142 (progR l) b d x_1 ∧ X (0 : Nat) x_1) (I142 (AV.sc (Value.slice none (0 : Nat) (0 : Nat))) (progR l) s w b d (IntKind.i64.wrap (i + (1 : Int))) x_1 = I142 (AV.sc (Value.slice none (0 : Nat) (0 : Nat))) (progR l) s w b d (IntKind.i64.wrap (i + (1 : Int))) x_1 ∧ N (IntKind.i64.wrap (i + (1 : Int))) x_1)) False) ∧ ∀ (x_1 : List (Nat × Nat) × Nat × Heap), Q145 l s x w b d lt i (some x_1.snd.fst) x_1.fst x_1.snd.snd → iteP (kdsIn x_1.snd.snd d (0 : Nat) [Kd.bool]) (iteP (boolIn x_1.snd.snd d (0 : Nat)) (iteP ((↑(rowsT x_1.fst).length : Int) == (0 : Int)) (E142 (progR l) b d x_1.snd.snd = E142 (progR l) b d x_1.snd.snd ∧ X (0 : Nat) x_1.snd.snd) (I142 (AV.sl (rowsT x_1.fst) (x_1.snd.fst + (1 : Nat))) (progR l) s w b d (IntKind.i64.wrap (i + (1 : Int))) x_1.snd.snd = I142 (AV.sl (rowsT x_1.fst) (x_1.snd.fst + (1 : Nat))) (progR l) s w b d (IntKind.i64.wrap (i + (1 : Int))) x_1.snd.snd ∧ S (rowsT x_1.fst) x_1.snd.fst (IntKind.i64.wrap (i + (1 : Int))) x_1.snd.snd)) (I142 (AV.sl (rowsT x_1.fst) (x_1.snd.fst + (1 : Nat))) (progR l) s w b d (IntKind.i64.wrap (i + (1 : Int))) x_1.snd.snd = I142 (AV.sl (rowsT x_1.fst) (x_1.snd.fst + (1 : Nat))) (progR l) s w b d (IntKind.i64.wrap (i + (1 : Int))) x_1.snd.snd ∧ S (rowsT x_1.fst) x_1.snd.fst (IntKind.i64.wrap (i + (1 : Int))) x_1.snd.snd)) False) := by
 obtain ⟨M, sv, bf, bt, fd, H, hM, F⟩ := J.is
 have his : i ≤ s.length := by omega
 have hin : ∀ p ∈ thr l s i ++ [(0, i)], p.1 ≤ l.length := fun p hp => (from_thr l s i his hp).2
 have hlen : (thr l s i ++ [(0, i)]).length ≤ 1000 := by
  have := thr_len l s i
  rw [List.length_append]; simp only [List.length_cons, List.length_nil]; omega
 -- what the search says
 have key : (fd = true → (bf, bt, fd) = (((i - l.length : Nat) : Int), ((i - l.length : Nat) : Int) + l.length, true) ∧ srch l s (s.length + 1) 0 = some (i - l.length) ∧ l.length ≤ i ∧ bf = ((i - l.length : Nat) : Int)) ∧
   (fd = false → bf = 0 ∧ bt = 0 ∧ srch l s (n + 1) i = srch l s n (i + 1)) := by
  constructor
  ·intro h
   obtain ⟨f, h1, h2, h3⟩ := F.yes h
   obtain ⟨e1, e2, e3⟩ := end_one l s i his hne h1
   subst e2
   refine ⟨?_, by rw [← hsr]; exact srch_yes e1 e3, e1, h2⟩
   rw [h2, h3, h]
   simp only [Prod.mk.injEq, true_and, and_true]
   omega
  ·intro h
   obtain ⟨h1, h2, h3⟩ := F.no h
   exact ⟨h2, h3, srch_no (end_none l s i his hne h1)⟩
 have fin : ∀ {y : Heap} {M' st' sv'}, fd = true → Mem y w b d (progR l) s M' st' bf bt fd sv' → Fin142 l s w b d y := by
  intro y M' st' sv' h H'
  obtain ⟨k1, k2, _⟩ := key.1 h
  refine ⟨_, _, _, _, _, _, H', ?_⟩
  rw [k2, k1]
 refine iti (fun he => ⟨rfl, hX _ ?_⟩) (fun he => ?_)
 ·have he : i = s.length := by have := eq_of_beq he; omega
  cases hfd : fd with
  | true => exact fin hfd H
  | false =>
   obtain ⟨k1, k2, k3⟩ := key.2 hfd
   refine ⟨_, _, _, _, _, _, H, ?_⟩
   obtain rfl : n = 0 := by omega
   rw [← hsr, k3, k1, k2, hfd]
   rfl
 ·have hlt' : i < s.length := by
   have : (i : Int) ≠ s.length := fun e => by rw [e] at he; simp at he
   omega
  have I : In145 x w b d lt i l s M (i + 1) bf bt fd sv (thr l s i ++ [(0, i)]) i := ⟨H, hal, hle, hlt, rfl, hlt', hsl, hin, desc_thr l s i, hM, by omega, by omega, hlen⟩
  have hw : IntKind.i64.wrap ((i : Int) + 1) = ((i + 1 : Nat) : Int) := by rw [wrap_in (by omega) (by omega)]; omega
  rw [hw]
  have lpB : ∀ {y : Heap} {R : List (Nat × Nat)}, Lp y w b d l s ((i : Int) + 1 + 1) bf bt fd R → kdsIn y d 0 [.bool] = true ∧ boolIn y d 0 = fd := by
   intro y R P
   obtain ⟨M', sv', H', _⟩ := P.is
   exact bool_cell H'.fnd rfl
  have step : ∀ {o : Option Nat} {R : List (Nat × Nat)} {y : Heap}, fd = false → Q145 l s x w b d lt i o R y → 0 < n ∧ srch l s n (i + 1) = srch l s (s.length + 1) 0 ∧ Inv142 l s w b d (i + 1) o R y := by
   intro o R y hfd Q
   obtain ⟨q1, q2⟩ := Q.is _ _ _ _ _ _ _ _ I
   obtain ⟨k1, k2, k3⟩ := key.2 hfd
   have hkp : kpT fd bf = fun _ => true := by funext f; rw [hfd]; rfl
   refine ⟨by omega, by rw [← k3, hsr], ⟨?_, ?_, Q.nil, Q.own⟩⟩
   ·rw [k1, k2, hfd] at q2
    exact q2
   ·rw [q1, hkp, nextT_all]; rfl
  refine ⟨⟨_, _, _, _, _, _, _, _, I⟩, fun y hy => ?_, fun y hy => ?_⟩
  ·obtain ⟨q1, q2⟩ := hy.is _ _ _ _ _ _ _ _ I
   obtain ⟨b1, b2⟩ := lpB q2
   rw [b2]
   refine it b1 (iti (fun h => ⟨rfl, hX _ ?_⟩) (fun h => ⟨rfl, ?_⟩))
   ·obtain ⟨M', sv', H', _⟩ := q2.is
    exact fin h H'
   ·obtain ⟨a1, a2, a3⟩ := step h hy
    exact hN _ a1 a2 a3
  ·obtain ⟨q1, q2⟩ := hy.is _ _ _ _ _ _ _ _ I
   obtain ⟨b1, b2⟩ := lpB q2
   rw [b2]
   refine it b1 (iti (fun h => ?_) (fun h => ⟨rfl, ?_⟩))
   ·obtain ⟨_, _, k3, k4⟩ := key.1 h
    have hkp : kpT fd bf = fun f => decide (f ≤ i - l.length) := by
     funext f
     rw [h, k4]
     unfold kpT
     rw [Bool.not_true, Bool.false_or, decide_eq_decide]
     omega
    have hR : y.1 = [] := by rw [q1, hkp]; exact next_none l s i his k3
    refine it ?_ ⟨rfl, hX _ ?_⟩
    ·rw [hR]; rfl
    ·obtain ⟨M', sv', H', _⟩ := q2.is
     exact fin h H'
   ·obtain ⟨a1, a2, a3⟩ := step h hy
    exact hS _ _ _ a1 a2 a3
end
end
end Go.Proofs.Rl
namespace Go.Proofs.Rl
open Go Go.Ef
noncomputable section
set_option maxRecDepth 100000
section
variable {l s : List UInt8} {w b d : Nat}
def PreJ (l s : List UInt8) (w b d i : Nat) (ls : Rows) (i' : Int) (x : Heap) : Prop := ls = rowsT (thr l s i ++ [(0, i)]) ∧ i' = i ∧ MemJ x w b d l s (i + 1) (thr l s i ++ [(0, i)]) [] i
def PostJ (l s : List UInt8) (w b d i : Nat) (_ : Rows) (_ : Int) (_ x : Heap) : Prop := MemJ x w b d l s (i + 1) (thr l s i ++ [(0, i)]) (thr l s i ++ [(0, i)]) i
theorem okT142 {i : Nat} (hle : l.length ≤ 20) (hsl : s.length ≤ 60) (hi : i ≤ s.length) : Ok (T142 l s (progR l) w b d (PreJ l s w b d i) (PostJ l s w b d i)) := by
 have h0 : Ok (((tab0.addC 144 C144).addC 145 (C145 l s)).addL 142 14 (L142 (progR l) s w b d (PreJ l s w b d i) (PostJ l s w b d i))) := by
  refine addL_ok (okC145 l s (okC144 tab0_ok)) fun σ z hs hp => ?_
  unfold L142 at hs
  split at hs
  ·rename_i ls t _
   cases hs
   obtain ⟨h1, h2, h3, h4⟩ := hp
   replace h2 : ls = rowsT (thr l s i ++ [(0, i)]) := h2
   replace h3 : slI σ 12 = i := h3
   replace h4 : MemJ σ.h w b d l s (i + 1) (thr l s i ++ [(0, i)]) [] i := h4
   rw [h3, h2] at h1
   have hlen : (thr l s i ++ [(0, i)]).length ≤ 1000 := by
    have := thr_len l s i
    rw [List.length_append]; simp only [List.length_cons, List.length_nil]; omega
   have E := loopJ (t := t) (i := i) (st := (i : Int) + 1) (w := w) (b := b) (d := d) (s := s) (l := l) hle (fun p hp => (from_thr l s i hi hp).2) (desc_thr l s i) hlen _ [] σ.h rfl h4
   obtain ⟨m, ex, τ, e, rfl, g', rfl, e1⟩ := Ev.tidied (t := ⟨[1, 3, 6, 8, 9, 10, 11, 12, 48, 49, 50], [1, 3, 6, 8, 9, 10, 11, 12], 2⟩) (by rw [firstJ]; exact tidyJ) (h1.trans (canJ _ _ _ _ _ _ _ _ _ _ _).symm) E
   refine ⟨_, List.mem_singleton.2 rfl, g', e1, m, ?_⟩
   rw [e]
   show some (Ex.exit 2, I142 (.sl (rowsT (thr l s i ++ [(0, i)])) t) (progR l) s w b d i g') = some (Ex.exit 2, I142 (.sl ls t) (progR l) s w b d (slI σ 12) g')
   rw [h2, h3]
  ·cases hs
   exact hp.elim
 exact ⟨h0.call, h0.loop⟩
theorem reach0 {i : Nat} {o : Option Nat} {R : List (Nat × Nat)} {g : Heap} (hi : i ≤ s.length) (hsl : s.length ≤ 60) (I : Inv142 l s w b d i o R g) : P144 g w 0 (rowsT R) o ∧
  ∀ {il n : Nat} {x : Heap}, Q144 g w 0 il n x → MemJ x w b d l s (i + 1) (thr l s i ++ [(0, i)]) [] i := by
 obtain ⟨M, sv, H, hM⟩ := I.lp.is
 obtain ⟨op, RA, hop⟩ := progR_any (l := l) (j := 0) (Nat.zero_le _)
 refine ⟨⟨⟨b, d, _, _, _, _, _, _, _, _, op, 0, H, rfl, by omega, RA, hop, fun h => ?_⟩, fun il hil => ?_, rowsT_two R, ?_⟩, fun {il n x} Q => ?_⟩
 ·obtain ⟨p, hp, h0⟩ := (hM 0 (by omega)).2 h
  rw [I.eq] at hp
  obtain ⟨j, f⟩ := p
  have := ((mem_thr l s i hi j f).1 hp).1
  simp only [] at h0
  omega
 ·rw [rowsT_len]; exact I.own il hil
 ·rw [rowsT_len, I.eq]
  have := thr_len l s i
  omega
 ·obtain ⟨sv', H'⟩ := Q.is _ _ _ _ _ _ _ _ _ _ H
  refine ⟨_, sv', 0, 0, false, H', fun k hk => ?_, ⟨fun h => (by cases h), fun _ => ⟨fun f hf => (by cases hf), rfl, rfl⟩⟩⟩
  unfold upd
  by_cases e : k = (0 : Int).toNat
  ·rw [if_pos e]; exact Int.le_refl _
  ·rw [if_neg e]; exact (hM k hk).1
theorem loopI (hal : l.all isAl = true) (hle : l.length ≤ 20) (hne : l ≠ []) (hsl : s.length ≤ 60) : ∀ (n i : Nat) (o : Option Nat) (R : List (Nat × Nat)) (g : Heap), i + n = s.length → srch l s (n + 1) i = srch l s (s.length + 1) 0 → Inv142 l s w b d i o R g →
  Ev cfg Tryz.prog 142 (.loop (loopAt Tryz.prog 142 11)) (I142 (outA o R) (progR l) s w b d i g) fun ex τ => ex = .exit 0 ∧ ∃ g', τ = E142 (progR l) b d g' ∧ Fin142 l s w b d g' := by
 intro n
 induction n with
 | zero =>
  intro i o R g hi hsr I
  have his : i ≤ s.length := by omega
  obtain ⟨p1, p2⟩ := reach0 his hsl I
  have hf : kdsIn g d 0 [.bool] = true ∧ boolIn g d 0 = false := by
   obtain ⟨M', sv', H', _⟩ := I.lp.is
   exact bool_cell H'.fnd rfl
  cases o with
  | none =>
   have hR := I.nil rfl
   refine Ev.round (okT142 hle hsl his) firstI tidyI (canI nilA _ _ _ _ _ _ g) (rIn l s (progR l) w b d (PreJ l s w b d i) (PostJ l s w b d i) i g (fun _ _ => False) (fun _ _ _ _ => False) (fun j x => j = 0 ∧ Fin142 l s w b d x) ?_) (fun τ hq => ?_) (fun ex τ he => ?_)
   ·rw [hf.2]
    rw [hR] at p1
    refine it hf.1 (ie rfl ⟨p1, fun x hx => ⟨rfl, ⟨rfl, ?_, rfl, p2 hx⟩, fun x1 hx1 => ?_⟩⟩)
    ·rw [← I.eq, hR]; rfl
    ·exact tail142 (N := fun _ _ => False) (S := fun _ _ _ _ => False) (X := fun j x => j = 0 ∧ Fin142 l s w b d x) hal hle hne hsl hi hsr (by rw [← I.eq, hR]; rfl) hx1 (fun x' h => ⟨rfl, h⟩) (fun x' h0 _ _ => absurd h0 (by omega)) (fun R ol x' h0 _ _ => absurd h0 (by omega))
   ·unfold nI at hq
    split at hq
    ·split at hq
     ·exact hq.2.elim
     ·exact hq.elim
    ·exact hq.2.elim
    ·exact hq.elim
   ·unfold eI at he
    split at he
    ·obtain ⟨h1, h2, h3⟩ := he
     exact ⟨by rw [h2], _, h1, h3⟩
    ·exact he.elim
  | some ol =>
   refine Ev.round (okT142 hle hsl his) firstI tidyI (canI (.sl (rowsT R) (ol + 1)) _ _ _ _ _ _ g) (rIs l s (progR l) w b d (PreJ l s w b d i) (PostJ l s w b d i) (rowsT R) ol i g (fun _ _ => False) (fun _ _ _ _ => False) (fun j x => j = 0 ∧ Fin142 l s w b d x) ?_) (fun τ hq => ?_) (fun ex τ he => ?_)
   ·rw [hf.2]
    refine it hf.1 (ie rfl ⟨p1, fun x hx => ⟨rfl, ⟨rfl, ?_, rfl, p2 hx⟩, fun x1 hx1 => ?_⟩⟩)
    ·rw [← I.eq, rowsT_app]; rfl
    ·exact tail142 (N := fun _ _ => False) (S := fun _ _ _ _ => False) (X := fun j x => j = 0 ∧ Fin142 l s w b d x) hal hle hne hsl hi hsr (by rw [← I.eq, rowsT_app]; rfl) hx1 (fun x' h => ⟨rfl, h⟩) (fun x' h0 _ _ => absurd h0 (by omega)) (fun R ol x' h0 _ _ => absurd h0 (by omega))
   ·unfold nI at hq
    split at hq
    ·split at hq
     ·exact hq.2.elim
     ·exact hq.elim
    ·exact hq.2.elim
    ·exact hq.elim
   ·unfold eI at he
    split at he
    ·obtain ⟨h1, h2, h3⟩ := he
     exact ⟨by rw [h2], _, h1, h3⟩
    ·exact he.elim
 | succ n ih =>
  intro i o R g hi hsr I
  have his : i ≤ s.length := by omega
  obtain ⟨p1, p2⟩ := reach0 his hsl I
  have hf : kdsIn g d 0 [.bool] = true ∧ boolIn g d 0 = false := by
   obtain ⟨M', sv', H', _⟩ := I.lp.is
   exact bool_cell H'.fnd rfl
  have go : ∀ {o' R' x'}, srch l s (n + 1) (i + 1) = srch l s (s.length + 1) 0 → Inv142 l s w b d (i + 1) o' R' x' → Ev cfg Tryz.prog 142 (.loop (loopAt Tryz.prog 142 11)) (I142 (outA o' R') (progR l) s w b d ((i + 1 : Nat) : Int) x') fun ex τ => ex = .exit 0 ∧ ∃ g', τ = E142 (progR l) b d g' ∧ Fin142 l s w b d g' := fun h1 h2 => ih _ _ _ _ (by omega) h1 h2
  cases o with
  | none =>
   have hR := I.nil rfl
   refine Ev.round (okT142 hle hsl his) firstI tidyI (canI nilA _ _ _ _ _ _ g) (rIn l s (progR l) w b d (PreJ l s w b d i) (PostJ l s w b d i) i g (fun i' x => i' = ((i + 1 : Nat) : Int) ∧ srch l s (n + 1) (i + 1) = srch l s (s.length + 1) 0 ∧ Inv142 l s w b d (i + 1) none [] x) (fun ls ol i' x => ∃ R, ls = rowsT R ∧ i' = ((i + 1 : Nat) : Int) ∧ srch l s (n + 1) (i + 1) = srch l s (s.length + 1) 0 ∧ Inv142 l s w b d (i + 1) (some ol) R x) (fun j x => j = 0 ∧ Fin142 l s w b d x) ?_) (fun τ hq => ?_) (fun ex τ he => ?_)
   ·rw [hf.2]
    rw [hR] at p1
    refine it hf.1 (ie rfl ⟨p1, fun x hx => ⟨rfl, ⟨rfl, ?_, rfl, p2 hx⟩, fun x1 hx1 => ?_⟩⟩)
    ·rw [← I.eq, hR]; rfl
    ·exact tail142 (N := fun i' x => i' = ((i + 1 : Nat) : Int) ∧ srch l s (n + 1) (i + 1) = srch l s (s.length + 1) 0 ∧ Inv142 l s w b d (i + 1) none [] x) (S := fun ls ol i' x => ∃ R, ls = rowsT R ∧ i' = ((i + 1 : Nat) : Int) ∧ srch l s (n + 1) (i + 1) = srch l s (s.length + 1) 0 ∧ Inv142 l s w b d (i + 1) (some ol) R x) (X := fun j x => j = 0 ∧ Fin142 l s w b d x) hal hle hne hsl hi hsr (by rw [← I.eq, hR]; rfl) hx1 (fun x' h => ⟨rfl, h⟩) (fun x' _ h1 h2 => ⟨rfl, h1, h2⟩) (fun R ol x' _ h1 h2 => ⟨R, rfl, rfl, h1, h2⟩)
   ·unfold nI at hq
    split at hq
    ·split at hq
     ·obtain ⟨q1, R', q2, q3, q4, q5⟩ := hq
      rw [q1, q2, q3]
      exact go (o' := some _) q4 q5
     ·exact hq.elim
    ·obtain ⟨q1, q3, q4, q5⟩ := hq
     rw [q1, q3]
     exact go (o' := none) q4 q5
    ·exact hq.elim
   ·unfold eI at he
    split at he
    ·obtain ⟨h1, h2, h3⟩ := he
     exact ⟨by rw [h2], _, h1, h3⟩
    ·exact he.elim
  | some ol =>
   refine Ev.round (okT142 hle hsl his) firstI tidyI (canI (.sl (rowsT R) (ol + 1)) _ _ _ _ _ _ g) (rIs l s (progR l) w b d (PreJ l s w b d i) (PostJ l s w b d i) (rowsT R) ol i g (fun i' x => i' = ((i + 1 : Nat) : Int) ∧ srch l s (n + 1) (i + 1) = srch l s (s.length + 1) 0 ∧ Inv142 l s w b d (i + 1) none [] x) (fun ls ol i' x => ∃ R, ls = rowsT R ∧ i' = ((i + 1 : Nat) : Int) ∧ srch l s (n + 1) (i + 1) = srch l s (s.length + 1) 0 ∧ Inv142 l s w b d (i + 1) (some ol) R x) (fun j x => j = 0 ∧ Fin142 l s w b d x) ?_) (fun τ hq => ?_) (fun ex τ he => ?_)
   ·rw [hf.2]
    refine it hf.1 (ie rfl ⟨p1, fun x hx => ⟨rfl, ⟨rfl, ?_, rfl, p2 hx⟩, fun x1 hx1 => ?_⟩⟩)
    ·rw [← I.eq, rowsT_app]; rfl
    ·exact tail142 (N := fun i' x => i' = ((i + 1 : Nat) : Int) ∧ srch l s (n + 1) (i + 1) = srch l s (s.length + 1) 0 ∧ Inv142 l s w b d (i + 1) none [] x) (S := fun ls ol i' x => ∃ R, ls = rowsT R ∧ i' = ((i + 1 : Nat) : Int) ∧ srch l s (n + 1) (i + 1) = srch l s (s.length + 1) 0 ∧ Inv142 l s w b d (i + 1) (some ol) R x) (X := fun j x => j = 0 ∧ Fin142 l s w b d x) hal hle hne hsl hi hsr (by rw [← I.eq, rowsT_app]; rfl) hx1 (fun x' h => ⟨rfl, h⟩) (fun x' _ h1 h2 => ⟨rfl, h1, h2⟩) (fun R ol x' _ h1 h2 => ⟨R, rfl, rfl, h1, h2⟩)
   ·unfold nI at hq
    split at hq
    ·split at hq
     ·obtain ⟨q1, R', q2, q3, q4, q5⟩ := hq
      rw [q1, q2, q3]
      exact go (o' := some _) q4 q5
     ·exact hq.elim
    ·obtain ⟨q1, q3, q4, q5⟩ := hq
     rw [q1, q3]
     exact go (o' := none) q4 q5
    ·exact hq.elim
   ·unfold eI at he
    split at he
    ·obtain ⟨h1, h2, h3⟩ := he
     exact ⟨by rw [h2], _, h1, h3⟩
    ·exact he.elim
end
end
end Go.Proofs.Rl
namespace Go.Proofs.Rl
open Go Go.Ef
noncomputable section
set_option maxRecDepth 100000
section
variable {l s : List UInt8}
theorem start142 {x : Heap} (Q : Q143 (progR l) s x) : let x1 := boxIn x 51 [iA 0, iA 0]; let x2 := boxIn x1 4 [bA false]; let x3 := storeIn x2 x1.next 0 [bA false]; let x4 := storeIn x3 1 4099 [iA 1]
  okIn x2 x1.next 0 1 = true ∧ kdsIn x3 1 4099 [.int .i64] = true ∧ intIn x3 1 4099 = 0 ∧ okIn x3 1 4099 1 = true ∧ Inv142 l s 1 x.next x1.next 0 none [] x4 := by
 intro x1 x2 x3 x4
 have S0 := Q.sim
 have hlow := S0.low
 have B1 : Live x1 x.next (.cells [iA 0, iA 0]) := live_box hlow 51 _
 have n1 : x1.next = x.next + 1 := (box_new x 51 _).2
 have low1 : x1.ro ≤ x1.next := B1.low
 have S1 : Sim x1 1 (progR l) s (fun _ => 0) 0 nilA := S0.keep fun q k => k.box
 have D2 : Live x2 x1.next (.cells [bA false]) := live_box low1 4 _
 have B2 : Live x2 x.next (.cells [iA 0, iA 0]) := B1.box
 have S2 : Sim x2 1 (progR l) s (fun _ => 0) 0 nilA := S1.keep fun q k => k.box
 have hx := Q.nx
 have e3 : x3 = putIn x2 x1.next (.cells [bA false]) := store_eq D2
 have D3 : Live x3 x1.next (.cells [bA false]) := by rw [e3]; exact live_put D2 _
 have B3 : Live x3 x.next (.cells [iA 0, iA 0]) := by rw [e3]; exact D2.put B2 (by omega)
 have S3 : Sim x3 1 (progR l) s (fun _ => 0) 0 nilA := by rw [e3]; exact S2.keep fun q k => D2.put k (by omega)
 refine ⟨ok_in D2 (Nat.le_refl _), S3.step.1, S3.step.2, S3.ok (by omega), ⟨⟨fun _ => 0, nilA, ⟨S3.putStep 1, .inl rfl, S3.other (by omega) B3, S3.other (by omega) D3, by omega, by omega, by omega⟩, fun k _ => ⟨(by show (0 : Int) ≤ ((0 : Nat) : Int) + 1; omega), fun h => by cases h⟩⟩, rfl, fun _ => rfl, fun ol h => by cases h⟩⟩
theorem wp142 {K : AV → Prop} (hal : l.all isAl = true) (hle : l.length ≤ 20) (hne : l ≠ [])
  (hK : ∀ r : Int × Int × Bool, (r = match srch l s (s.length + 1) 0 with
   | some n => ((n : Int), (n : Int) + l.length, true)
   | none => (0, 0, false)) → K (.tup [.agg [iA r.1, iA r.2.1], bA r.2.2])) :
  wpCall (T142o (progR l) s (fun w b d x => Inv142 l s w b d 0 none [] x) (fun w b d _ x => Fin142 l s w b d x)) cfg Tryz.prog 100 142 [.agg [.sl (progR l) 0, bA false], aStr s, iA 0] heapF fun r h' => wpBack h' r K := by
 refine v142 (progR l) s _ _ K ⟨⟨l, hal, hle, hne, rfl⟩, fun x hx => ?_⟩
 obtain ⟨h1, h2, h3, h4, h5⟩ := start142 hx
 refine it h1 (it h2 (it h4 ?_))
 have e : intIn (storeIn (boxIn (boxIn x 51 [AV.sc (Value.int IntKind.i64 0), AV.sc (Value.int IntKind.i64 0)]) 4 [AV.sc (Value.bool false)]) (boxIn x 51 [AV.sc (Value.int IntKind.i64 0), AV.sc (Value.int IntKind.i64 0)]).next 0 [AV.sc (Value.bool false)]) 1 4099 = 0 := h3
 rw [e]
 refine ⟨rfl, ⟨rfl, h5⟩, fun x' F => ?_⟩
 obtain ⟨M, st, sv, bf, bt, fd, H, hr⟩ := F.is
 obtain ⟨a1, a2⟩ := int_cell H.best (o := 0) (k := .i64) (n := bf) rfl
 obtain ⟨b1, b2⟩ := int_cell H.best (o := 1) (k := .i64) (n := bt) rfl
 obtain ⟨d1, d2⟩ := bool_cell H.fnd (o := 0) (b := fd) rfl
 have hk := hK (bf, bt, fd) hr
 have a2' : intIn x' x.next 0 = bf := a2
 have b2' : intIn x' x.next 1 = bt := b2
 have d2' : boolIn x' (boxIn x 51 [AV.sc (Value.int IntKind.i64 0), AV.sc (Value.int IntKind.i64 0)]).next 0 = fd := d2
 rw [a2', b2', d2']
 refine it ?_ (it d1 ?_)
 ·simp only [List.flatten_cons, List.flatten_nil, List.append_nil, List.cons_append, List.nil_append, kdsIn, Bool.and_true, Bool.and_eq_true] at a1 b1 ⊢
  exact ⟨a1, b1⟩
 ·cases fd with
  | true => exact it rfl hk
  | false => exact ie rfl hk
theorem okT142o (hal : l.all isAl = true) (hle : l.length ≤ 20) (hne : l ≠ []) (hsl : s.length ≤ 60) (O : Ok (tab0.addC 143 C143)) : Ok (T142o (progR l) s (fun w b d x => Inv142 l s w b d 0 none [] x) (fun w b d _ x => Fin142 l s w b d x)) := by
 have h0 : Ok ((tab0.addC 143 C143).addL 142 11 fun σ => some { pre := σ.tidy [1, 3, 6, 8, 9, 10, 11, 12] 2 = I142 nilA (progR l) s (ptI σ 8) (ptI σ 9) (ptI σ 10) 0 σ.h ∧ Inv142 l s (ptI σ 8) (ptI σ 9) (ptI σ 10) 0 none [] σ.h, alts := [{ α := Heap, post := fun x => Fin142 l s (ptI σ 8) (ptI σ 9) (ptI σ 10) x, ex := .exit 0, st := fun x => E142 (progR l) (ptI σ 9) (ptI σ 10) x }] }) := by
  refine addL_ok O fun σ z hs hp => ?_
  cases hs
  obtain ⟨h1, h2⟩ := hp
  have E := loopI hal hle hne hsl s.length 0 none [] σ.h (by omega) rfl h2
  obtain ⟨m, ex, τ, e, rfl, g', rfl, e1⟩ := Ev.tidied (t := ⟨[1, 3, 6, 8, 9, 10, 11, 12], [6, 9, 10], 2⟩) (by rw [firstI]; exact tidyI) (h1.trans (canI _ _ _ _ _ _ _ _).symm) E
  exact ⟨_, List.mem_singleton.2 rfl, g', e1, m, e⟩
 exact ⟨h0.call, h0.loop⟩
theorem simL_len (els : Rows) (s : List UInt8) : (simL els s).length = 4101 := by
 unfold simL
 simp only [List.length_cons, List.length_append, List.length_replicate, List.length_nil]
theorem simL_get (els : Rows) (s : List UInt8) {i : Nat} (hi : i < 4101) : (simL els s)[i]? = some (simC els s (fun _ => 0) 0 nilA i) := by
 unfold simL simC
 match i, hi with
 | 0, _ => rfl
 | 1, _ => rfl
 | 2, _ => rfl
 | i + 3, hi =>
  rw [if_neg (by omega), if_neg (by omega), if_neg (by omega), List.getElem?_cons_succ, List.getElem?_cons_succ, List.getElem?_cons_succ]
  by_cases h : i < 4096
  ·rw [List.getElem?_append_left (by rw [List.length_replicate]; exact h), List.getElem?_replicate, if_pos h, if_pos (by omega)]
  ·rw [List.getElem?_append_right (by rw [List.length_replicate]; omega), List.length_replicate, if_neg (by omega)]
   by_cases h2 : i = 4096
   ·subst h2; rfl
   ·obtain rfl : i = 4097 := by omega
    rfl
theorem q143 (l s : List UInt8) : Q143 (progR l) s (H143 l s) := by
 have e : H143 l s = boxIn heapF 202 (simL (progR l) s) := (boxIn_eq heapF 202 (simL (progR l) s)).symm
 rw [e]
 refine ⟨⟨_, live_box (h := heapF) (Nat.le_refl _) 202 (simL (progR l) s), simL_len _ _, fun i hi => simL_get _ _ hi⟩, (box_new heapF 202 _).2⟩
theorem okC143 (all : ∀ l : List UInt8, l ≠ [] → l.length ≤ 20 → R143 l) {T : Tab} (O : Ok T) : Ok (T.addC 143 C143) := by
 refine addC_ok O fun args h z hs hp => ?_
 unfold C143 at hs
 split at hs
 ·split at hs
  ·rename_i els q s
   cases hs
   replace hp : (bif q then False else P143 els) := hp
   cases q with
   | true => exact hp.elim
   | false =>
    obtain ⟨l, hal, hle, hne, rfl⟩ := P143.is hp
    obtain ⟨m, v, h', e, rfl, rfl⟩ := call_okW tab0_ok 200 143 _ heapF _ ((all l hne hle).run s (fun v h' => v = .ptr 1 0 ∧ h' = H143 l s) ⟨rfl, rfl⟩)
    exact ⟨_, List.mem_singleton.2 rfl, H143 l s, m, q143 l s, by rw [callP_plain rfl rfl rfl]; exact e⟩
  ·cases hs
 ·cases hs
end
end
end Go.Proofs.Rl
namespace Go.Proofs.Rl
open Go Go.Ef
noncomputable section
set_option maxRecDepth 100000
theorem all_R143 (l : List UInt8) (hp : l ≠ []) (hn : l.length ≤ 20) : R143 l := lit_cases (P := R143) R143_1 R143_2 R143_3 R143_4 R143_5 R143_6 R143_7 R143_8 R143_9 R143_10 R143_11 R143_12 R143_13 R143_14 R143_15 R143_16 R143_17 R143_18 R143_19 R143_20 l hp hn
theorem okC143' : Ok (tab0.addC 143 C143) := okC143 all_R143 tab0_ok
theorem wd_inj {a c : UInt8} (ha : isAl a = true) (hc : isAl c = true) (h0 : wd a 0 = wd c 0) (h1 : wd a 1 = wd c 1) (h2 : wd a 2 = wd c 2) (h3 : wd a 3 = wd c 3) : a = c := by
 have k1 := bit71 ha (c := c.toNat) c.toNat_lt
 have k2 := bit71 hc (c := c.toNat) c.toNat_lt
 rw [h0, h1, h2, h3, k2, Nat.beq_refl] at k1
 exact UInt8.toNat_inj.1 (Nat.eq_of_beq_eq_true k1.symm)
theorem rowI_inj {a c : UInt8} (ha : isAl a = true) (hc : isAl c = true) (h : rowI a = rowI c) : a = c := by
 unfold rowI at h
 simp only [List.cons.injEq, true_and, and_true] at h
 obtain ⟨h0, h1, h2, h3⟩ := h
 unfold uA at h0 h1 h2 h3
 simp only [AV.sc.injEq, Value.int.injEq, true_and] at h0 h1 h2 h3
 exact wd_inj ha hc h0 h1 h2 h3
theorem map_rowI : ∀ {l m : List UInt8}, l.all isAl = true → m.all isAl = true → l.map rowI ++ [rowM] = m.map rowI ++ [rowM] → l = m
 | [], [], _, _, _ => rfl
 | [], c :: m, _, _, h => by
  have := (List.cons.inj h).2
  simp at this
 | a :: l, [], _, _, h => by
  have := (List.cons.inj h).2
  simp at this
 | a :: l, c :: m, hl, hm, h => by
  simp only [List.all_cons, Bool.and_eq_true] at hl hm
  have h' := List.cons.inj h
  rw [rowI_inj hl.1 hm.1 h'.1, map_rowI hl.2 hm.2 h'.2]
theorem progR_inj {l m : List UInt8} (hl : Lit l) (hm : Lit m) (h : progR l = progR m) : l = m := map_rowI hl.all hm.all h
theorem okC142 {T : Tab} (O : Ok T) : Ok (T.addC 142 C142) := by
 refine addC_ok O fun args h z hs hp => ?_
 unfold C142 at hs
 split at hs
 ·rename_i els q s k
  cases hs
  replace hp : (bif q then False else S142 els s k) := hp
  cases q with
  | true => exact hp.elim
  | false =>
   replace hp : S142 els s k := hp
   obtain ⟨l, H, rfl⟩ := hp.is
   have hsl := hp.le
   obtain rfl := hp.z
   obtain ⟨r, hr⟩ : ∃ r : Int × Int × Bool, r = match srch l s (s.length + 1) 0 with
    | some n => ((n : Int), (n : Int) + l.length, true)
    | none => (0, 0, false) := ⟨_, rfl⟩
   obtain ⟨m, e⟩ := fresh_okW (okT142o H.all H.le H.pos hsl okC143') (n := 100) (g := 142) (args := [.agg [.sl (progR l) 0, bA false], aStr s, iA 0]) (h := h) (v := .tup [.agg [iA r.1, iA r.2.1], bA r.2.2]) (by kernel_rfl) rfl rfl (wp142 (K := fun y => y = .tup [.agg [iA r.1, iA r.2.1], bA r.2.2]) H.all H.le H.pos fun r' hr' => by have e : r' = r := hr'.trans hr.symm; rw [e])
   refine ⟨_, List.mem_singleton.2 rfl, r, m, ⟨fun l' H' he => ?_⟩, e⟩
   obtain rfl := progR_inj H H' he
   exact hr
 ·cases hs
theorem okTFi : Ok TFi := okC142 (ok15 (ok14 (ok13 (ok12 (ok25 tab0_ok)))))
end
end Go.Proofs.Rl
namespace Go.Proofs.Rl
open Go Go.Ef
noncomputable section
set_option maxRecDepth 100000
theorem ok5 {T : Tab} (O : Ok T) : Ok (T.addC 5 C5) := by
 refine addC_ok O fun args h z hs hp => ?_
 unfold C5 at hs
 split at hs
 ·cases hs
  obtain ⟨m, e⟩ := awake_yes h
  exact ⟨_, List.mem_singleton.2 rfl, (), m, trivial, e⟩
 ·cases hs
theorem ok7 {T : Tab} (O : Ok T) : Ok (T.addC 7 C7) := by
 refine addC_ok O fun args h z hs hp => ?_
 unfold C7 at hs
 split at hs
 ·cases hs
  exact ⟨_, List.mem_singleton.2 rfl, ([112, 111, 115, 105, 120], locO, locL, locU), 1000, ⟨flatLoc⟩, ansN_ok f7 (by kernel_rfl) rfl h⟩
 ·cases hs
theorem okCL6 {T : Tab} (O : Ok T) : Ok (T.addC 6 CL6) := by
 refine addC_ok O fun args h z hs hp => ?_
 unfold CL6 at hs
 split at hs
 ·rename_i l f n o lo up
  cases hs
  have H : P11 l f [aStr l, iA f, locV n o lo up] := hp
  obtain ⟨a, ha, x, m, _, e⟩ := (ok6 tab0_ok).call 6 C6 [aStr l, iA f, locV n o lo up] h _ rfl rfl H
  obtain rfl := List.mem_singleton.1 ha
  replace e : callP cfg (evCall cfg Tryz.prog m) 6 [aStr l, iA f, locV n o lo up] h = some (compV l f, h) := e
  match l, H with
  | [], H => exact absurd rfl H.lit.pos
  | [b], H => exact ⟨_, List.mem_cons_self .., (wd b 0, wd b 1, wd b 2, wd b 3), m, ⟨rfl⟩, e⟩
  | b :: c :: r, H => exact ⟨_, List.mem_cons_of_mem _ (List.mem_singleton.2 rfl), (b :: c :: r).map rowR, m, ⟨rfl⟩, e⟩
 ·cases hs
theorem okTLr : Ok TLr := ok5 tab0_ok
theorem ok21 {T : Tab} (O : Ok T) : Ok (T.addL 3 21 L21) := by
 refine addL_ok O fun σ z hs hp => ?_
 unfold L21 at hs
 cases hs
 obtain ⟨h1, F⟩ := hp
 have e2 := F.c2
 obtain ⟨l0, l1, l2⟩ := F.len
 have hlen : 0 + ((slS σ 1).length + 1 - (slS σ 0).length) + (slS σ 0).length = (slS σ 1).length + 1 ∨ ((slS σ 1).length + 1 - (slS σ 0).length = 0 ∧ (slS σ 1).length < 0 + (slS σ 0).length ∧ 0 ≤ 100) := by omega
 cases hfd : slB σ 12 with
 | true =>
  rw [hfd] at h1
  obtain ⟨n, hf, e1⟩ := F.yes hfd
  rw [e1, e2] at h1 ⊢
  have hr : RdY (lcC σ 0) (n : Int) ((n : Int) + (slS σ 0).length) (slS σ 0) (slS σ 1) := by
   rcases F.shape with ⟨f, a, b, c, d, e⟩ | ⟨f, els, e⟩
   ·rw [e]; exact rdYA _ _ _ _ _ _ _ _ _
   ·rw [e]; exact rdYB _ _ _ _ _ _
  obtain ⟨m, ex, τ, e, rfl, rfl⟩ := Ev.tidied (t := ⟨[0, 1, 11, 12, 21], [6, 12], 3⟩) (by rw [first21]; exact tidy21) (h1.trans (can21 _ _ _ _ _ _ _ _).symm) (loopY okTLr hr l1 l2 _ 0 hlen hf)
  exact ⟨_, List.mem_singleton.2 rfl, (), trivial, m, e⟩
 | false =>
  rw [hfd] at h1
  obtain ⟨hf, e1⟩ := F.no hfd
  rw [e1, e2] at h1 ⊢
  have hr : RdN (lcC σ 0) (slS σ 0) (slS σ 1) := by
   rcases F.shape with ⟨f, a, b, c, d, e⟩ | ⟨f, els, e⟩
   ·rw [e]; exact rdNA _ _ _ _ _ _ _
   ·rw [e]; exact rdNB _ _ _ _
  obtain ⟨m, ex, τ, e, rfl, rfl⟩ := Ev.tidied (t := ⟨[0, 1, 11, 12, 21], [6, 12], 3⟩) (by rw [first21]; exact tidy21) (h1.trans (can21 _ _ _ _ _ _ _ _).symm) (loopN okTLr hr l1 l2 _ 0 hlen hf)
  exact ⟨_, List.mem_singleton.2 rfl, (), trivial, m, e⟩
theorem okTL : Ok TL := by
 have h0 : Ok (((((((tab0.addC 4 C4).addC 5 C5).addC 6 CL6).addC 7 C7).addC 8 C8).addC 9 C9).addL 3 21 L21) := ok21 (ok9 (ok8 (ok7 (okCL6 (ok5 (ok4 tab0_ok)))) okTFi) okTFi)
 exact ⟨h0.call, h0.loop⟩
theorem srch_law (t s : List UInt8) : srch t s (s.length + 1) 0 = frst t s (s.length + 1 - t.length) 0 := by
 by_cases h : t.length ≤ s.length
 ·exact srch_eq t s h
 ·rw [srch_short t s _ _ (by omega), show s.length + 1 - t.length = 0 by omega]; rfl
theorem lit_of {t : List UInt8} (h : plainB t = true) : Lit t := by
 unfold plainB at h
 simp only [Bool.and_eq_true, decide_eq_true_eq] at h
 exact ⟨h.1, fun e => by rw [e] at h; simp at h, by omega⟩
section
variable {t s : List UInt8} {f : Int} {x : List AV}
theorem px_of (H : Lit t) (hf : f = 0 ∨ f = 1) (X : IsXV t f x) (hs : s.length ≤ 60) : PX x s := ⟨⟨t, f, H, hf, X.is⟩, hs⟩
theorem lx_of {l : List UInt8} (H : Lit t) (hf : f = 0 ∨ f = 1) (X : IsXV t f x) (hl : l.length = 131072) : LX x l := ⟨⟨t, f, H, hf, X.is⟩, by omega⟩
theorem len_of (H : Lit t) (hs : s.length ≤ 60) : 0 < t.length ∧ t.length ≤ 20 ∧ s.length ≤ 60 := ⟨List.length_pos_iff.2 H.pos, H.le, hs⟩
theorem pre_yes {i j : Int} (H : Lit t) (X : IsXV t f x) (hs : s.length ≤ 60) (hx : (∃ f a b c d, x = xA t f a b c d) ∨ (∃ f els, x = xB t f els)) (F : FoundAt x s i j) : PreF t s true x [.sl [[iA i, iA j]] 0] [nilA] := by
 obtain ⟨n, h1, h2, h3⟩ := F.is t f H X.is
 exact ⟨hx, len_of H hs, rfl, fun _ => ⟨n, by rw [← srch_law]; exact h1, by rw [h2, h3]⟩, fun h => by cases h⟩
theorem pre_no (H : Lit t) (X : IsXV t f x) (hs : s.length ≤ 60) (hx : (∃ f a b c d, x = xA t f a b c d) ∨ (∃ f els, x = xB t f els)) (F : NoneAt x s) : PreF t s false x [nilA] [nilA] :=
 ⟨hx, len_of H hs, rfl, fun h => (by cases h), fun _ => ⟨by rw [← srch_law]; exact F.is t f H X.is, rfl⟩⟩
theorem p11_of {n lo up : List UInt8} {o : List (List AV)} (H : Lit t) (hf : f = 0 ∨ f = 1) (F : FlatL (locV n o lo up)) : P11 t f [aStr t, iA f, locV n o lo up] := by
 refine ⟨H, hf, ?_⟩
 show consO (some (aStr t)) (consO (some (iA f)) (consO (stripA 8 (locV n o lo up)) (some []))) = _
 rw [F.is]; rfl
end
theorem wp3 {t s : List UInt8} {e : Bool} (hs : Sm t) : wpCall TL cfg Tryz.prog 200 3 [aStr t, aStr s, bA e] heap0 fun r _ => r = bA true := by
 refine v3 t s e (fun r => r = bA true) ⟨hs, fun _ _ => it_of (fun hp => ?_) (fun _ => ⟨trivial, fun _ _ => rfl⟩)⟩
 have H := lit_of hp
 refine it_of (fun _ => ⟨trivial, fun _ _ => rfl⟩) (fun hl => ?_)
 have hs : s.length ≤ 60 := by have := of_decide_eq_false hl; omega
 refine it_of (fun _ => ?_) (fun _ => ?_)
 ·refine ⟨trivial, fun x hx => ⟨p11_of H (.inr rfl) hx, fun p hp => ⟨px_of H (.inr rfl) hp hs, fun y hy => ?_, fun _ hy => ?_⟩, fun p hp => ⟨px_of H (.inr rfl) hp hs, fun y hy => ?_, fun _ hy => ?_⟩⟩⟩
  ·exact dbl17 fun l hl => ⟨lx_of H (.inr rfl) hp hl, fun _ _ => ⟨lx_of H (.inr rfl) hp hl, fun _ _ => ⟨rfl, ⟨rfl, pre_yes H hp hs (.inl ⟨_, _, _, _, _, rfl⟩) hy⟩, fun _ _ => rfl⟩⟩⟩
  ·exact dbl17 fun l hl => ⟨lx_of H (.inr rfl) hp hl, fun _ _ => ⟨lx_of H (.inr rfl) hp hl, fun _ _ => ⟨rfl, ⟨rfl, pre_no H hp hs (.inl ⟨_, _, _, _, _, rfl⟩) hy⟩, fun _ _ => ⟨trivial, fun _ _ => rfl⟩⟩⟩⟩
  ·exact dbl17 fun l hl => ⟨lx_of H (.inr rfl) hp hl, fun _ _ => ⟨lx_of H (.inr rfl) hp hl, fun _ _ => ⟨rfl, ⟨rfl, pre_yes H hp hs (.inr ⟨_, _, rfl⟩) hy⟩, fun _ _ => rfl⟩⟩⟩
  ·exact dbl17 fun l hl => ⟨lx_of H (.inr rfl) hp hl, fun _ _ => ⟨lx_of H (.inr rfl) hp hl, fun _ _ => ⟨rfl, ⟨rfl, pre_no H hp hs (.inr ⟨_, _, rfl⟩) hy⟩, fun _ _ => ⟨trivial, fun _ _ => rfl⟩⟩⟩⟩
 ·refine ⟨trivial, fun x hx => ⟨p11_of H (.inl rfl) hx, fun p hp => ⟨px_of H (.inl rfl) hp hs, fun y hy => ?_, fun _ hy => ?_⟩, fun p hp => ⟨px_of H (.inl rfl) hp hs, fun y hy => ?_, fun _ hy => ?_⟩⟩⟩
  ·exact dbl17 fun l hl => ⟨lx_of H (.inl rfl) hp hl, fun _ _ => ⟨lx_of H (.inl rfl) hp hl, fun _ _ => ⟨rfl, ⟨rfl, pre_yes H hp hs (.inl ⟨_, _, _, _, _, rfl⟩) hy⟩, fun _ _ => rfl⟩⟩⟩
  ·exact dbl17 fun l hl => ⟨lx_of H (.inl rfl) hp hl, fun _ _ => ⟨lx_of H (.inl rfl) hp hl, fun _ _ => ⟨rfl, ⟨rfl, pre_no H hp hs (.inl ⟨_, _, _, _, _, rfl⟩) hy⟩, fun _ _ => ⟨trivial, fun _ _ => rfl⟩⟩⟩⟩
  ·exact dbl17 fun l hl => ⟨lx_of H (.inl rfl) hp hl, fun _ _ => ⟨lx_of H (.inl rfl) hp hl, fun _ _ => ⟨rfl, ⟨rfl, pre_yes H hp hs (.inr ⟨_, _, rfl⟩) hy⟩, fun _ _ => rfl⟩⟩⟩
  ·exact dbl17 fun l hl => ⟨lx_of H (.inl rfl) hp hl, fun _ _ => ⟨lx_of H (.inl rfl) hp hl, fun _ _ => ⟨rfl, ⟨rfl, pre_no H hp hs (.inr ⟨_, _, rfl⟩) hy⟩, fun _ _ => ⟨trivial, fun _ _ => rfl⟩⟩⟩⟩
theorem ev3 {t s : List UInt8} {e : Bool} (hs : Sm t) : ∃ m h, evCall cfg Tryz.prog m 3 [aStr t, aStr s, bA e] heap0 = some (bA true, h) := by
 obtain ⟨m, v, h', e1, rfl⟩ := call_okW okTL 200 3 [aStr t, aStr s, bA e] heap0 (fun r _ => r = bA true) (wp3 hs)
 exact ⟨m, h', e1⟩
end
end Go.Proofs.Rl
