/- A part of the proof: definitions and lemmas. -/
import Derived.Test.YtijnmcodipdioaaGreatDoorLiteralsA
import Derived.Test.YtijnmcodipdioaaGreatDoorLiteralsB
import Derived.Test.YtijnmcodipdioaaGreatDoorLiteralsC
import Derived.Test.YtijnmcodipdioaaGreatDoorLiteralsD
import Derived.Test.YtijnmcodipdioaaGreatDoorLiteralsE
import Derived.Test.YtijnmcodipdioaaGreatDoorLiteralsF
import Derived.Test.YtijnmcodipdioaaGreatDoorLiteralsG
import Derived.Test.YtijnmcodipdioaaGreatDoorLiteralsH
import Derived.Test.YtijnmcodipdioaaGreatDoorLiteralsO
import Derived.Test.YtijnmcodipdioaaGreatDoorLiterals1
namespace Go.Proofs.Rl
open Go Go.Ef
noncomputable section
set_option maxRecDepth 1000000
def bitE (w : Int) (k : Nat) : Bool := IntKind.u64.wrap (↑(BitVec.ofInt 64 (w.fdiv (2 ^ k)) &&& BitVec.ofInt 64 1).toNat : Int) == (1 : Int)
def selW (q : Nat) (x y z u : Int) : Int := bif Nat.beq q 0 then x else bif Nat.beq q 1 then y else bif Nat.beq q 2 then z else u
def L71 (c : Nat) (x y z u : Int) (K : AV → Prop) : Prop := wpCall tab0 cfg Tryz.prog 100 71 [.agg [uA x, uA y, uA z, uA u], .sc (.int .u8 (c : Int))] heapF fun r h' => wpBack h' r K
def R71 (c : Nat) (x y z u : Int) (K : AV → Prop) : Prop := iteP (bitE (selW (c / 64) x y z u) (c % 64)) (K (bA true)) (K (bA false))
set_option maxHeartbeats 0 in
theorem all71 : (List.range 256).map L71 = (List.range 256).map R71 := by kernel_rfl
set_option maxHeartbeats 0 in
def row71 (b : UInt8) : Bool := (!isAl b) || (List.range 256).all fun c => bitE (selW (c / 64) (wd b 0) (wd b 1) (wd b 2) (wd b 3)) (c % 64) == Nat.beq b.toNat c
theorem bits71 : ((List.range 256).all fun n => row71 (UInt8.ofNat n)) = true := by kernel_rfl
theorem wp71 {c : Nat} (hc : c < 256) : L71 c = R71 c := (List.map_inj_left.1 all71) c (List.mem_range.2 hc)
theorem bit71 {b : UInt8} (hb : isAl b = true) {c : Nat} (hc : c < 256) : bitE (selW (c / 64) (wd b 0) (wd b 1) (wd b 2) (wd b 3)) (c % 64) = Nat.beq b.toNat c := by
 have := byte_all (p := row71) bits71 b
 unfold row71 at this
 rw [hb, Bool.not_true, Bool.false_or] at this
 exact eq_of_beq (List.all_eq_true.1 this c (List.mem_range.2 hc))
theorem okC71 {T : Tab} (O : Ok T) : Ok (T.addC 71 C71) := by
 refine addC_ok O fun args h s hs hp => ?_
 unfold C71 at hs
 split at hs
 ·rename_i x y z u c
  cases hs
  obtain ⟨h1, h2⟩ := hp
  obtain ⟨b, hb, e⟩ := h1.is
  cases e
  have h3 := h2.lo
  have h4 := h2.hi
  obtain ⟨c, rfl⟩ : ∃ n : Nat, c = n := ⟨c.toNat, by omega⟩
  have hc : c < 256 := by omega
  have hw : L71 c (wd b 0) (wd b 1) (wd b 2) (wd b 3) (fun y => y = bA (Nat.beq b.toNat c)) := by
   rw [wp71 hc]
   unfold R71
   rw [bit71 hb hc]
   cases Nat.beq b.toNat c <;> rfl
  obtain ⟨m, e⟩ := fresh_okW (T := tab0) tab0_ok (n := 100) (g := 71) (args := [.agg [uA (wd b 0), uA (wd b 1), uA (wd b 2), uA (wd b 3)], .sc (.int .u8 (c : Int))]) (h := h) (v := bA (Nat.beq b.toNat c)) (by kernel_rfl) (by kernel_rfl) rfl hw
  refine ⟨_, List.mem_singleton.2 rfl, Nat.beq b.toNat c, m, ⟨fun b' hb' e' => ?_⟩, e⟩
  have k : Nat.beq b'.toNat c = Nat.beq b.toNat c := by
   rw [← bit71 hb hc, ← bit71 hb' hc]
   obtain ⟨a1, a2⟩ := Prod.mk.inj e'
   obtain ⟨a2, a3⟩ := Prod.mk.inj a2
   obtain ⟨a3, a4⟩ := Prod.mk.inj a3
   rw [a1, a2, a3, a4]
  rw [← k]
  by_cases q : b'.toNat = c
  ·rw [q, Nat.beq_refl, decide_eq_true rfl]
  ·rw [decide_eq_false (by omega)]
   cases hq : Nat.beq b'.toNat c with
   | false => rfl
   | true => exact absurd (Nat.eq_of_beq_eq_true hq) q
 ·cases hs
end
end Go.Proofs.Rl
