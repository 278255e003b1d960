/- A part of the proof: definitions and lemmas. -/
import Derived.Test.YtlegmhhgkpdheaaGreatDoorLevelsA
import Derived.Test.YtlegmhhgkpdheaaGreatDoorLevelsB
import Derived.Test.YtlegmhhgkpdheaaGreatDoorLevelsC
import Derived.Test.YtlegmhhgkpdheaaGreatDoorLevelsD
import Derived.Test.YtlegmhhgkpdheaaGreatDoorLevelsE
import Derived.Test.YtlegmhhgkpdheaaGreatDoorLevelsF
import Derived.Test.YtlegmhhgkpdheaaGreatDoorLevelsG
import Derived.Test.YtlegmhhgkpdheaaGreatDoorLevelsH
import Derived.Test.YtlegmhhgkpdheaaGreatDoorLevelsI
import Derived.Test.YtlegmhhgkpdheaaGreatDoorLevelsJ
import Derived.Test.YtlegmhhgkpdheaaGreatDoorLevelsK
import Derived.Test.YtlegmhhgkpdheaaGreatDoorLevelsL
namespace Go.Proofs.Sc
open Go Go.Ef
noncomputable section
set_option maxRecDepth 100000
theorem okT47 : Ok (T47 200) := ok47 200 (ok46 100 okX)
theorem check_fine (k b : Nat) (hl : k + b + 2 ≤ 32) (h : Heap) : ∃ n, callP cfgI (evCall cfgI Tryz.prog n) 5 [progA (tS (tN k) b)] h = some (.tup [iA 0, iA 0], h) := by
 have key : EvP cfgI Tryz.prog 5 [progA (tS (tN k) b)] h fun y h' => y = .tup [iA 0, iA 0] ∧ h' = h := by
  refine EvP.freshV okT47 (n := 80) (by kernel_rfl) (by kernel_rfl) (args' := [progA (tS (tN k) b)]) rfl (c5 (tS (tN k) b) _ ?_)
  have l1 : (0 : Int) ≤ 1 := by decide
  have l2 : (1 : Int) + k + b + 1 ≤ 32 := by omega
  refine ⟨⟨vS, nilP, hS0, 1, false, by kernel_rfl, .of .s0⟩, fun _ _ => ⟨⟨vS, loopO, hS0, 1, false, k, b, by kernel_rfl, .s0, by omega, l1, l2⟩, fun _ _ => ?_⟩⟩
  refine ⟨⟨vN, nilP, hN0 [iA 3, nilA, .sl [tS (tN k) b] 0, bA false], 1, false, by kernel_rfl, .of (.n0 _)⟩, fun _ _ => ⟨⟨vN, loopO, hN0 [iA 3, nilA, .sl [tS (tN k) b] 0, bA false], 1, false, k, b, by kernel_rfl, .n0 _, by omega, l1, l2⟩, fun _ _ => ?_⟩⟩
  refine ⟨⟨vU, nilP, hU0, 1, false, by kernel_rfl, .of .u0⟩, fun _ _ => ⟨⟨vU, loopO, hU0, 1, false, k, b, by kernel_rfl, .u0, by omega, l1, l2⟩, fun _ _ => ?_⟩⟩
  exact rfl
 obtain ⟨n, v, h', e, rfl, rfl⟩ := key
 exact ⟨n, e⟩
theorem ok5I {T : Tab} (O : Ok T) : Ok (T.addC 5 C5I) := by
 refine addC_ok O fun args h s hs hp => ?_
 unfold C5I at hs
 split at hs
 ·rename_i S
  cases hs
  obtain ⟨k, b, rfl, hl⟩ := hp
  obtain ⟨n, e⟩ := check_fine k b hl h
  exact ⟨_, List.mem_singleton.2 rfl, (), n, trivial, e⟩
 ·cases hs
theorem outs_spec {r : Option (AV × Heap)} {a b : Int} (h : outs r = some (a, b)) : ∃ h', r = some (.tup [iA a, iA b], h') := by
 unfold outs at h
 split at h
 ·cases h; exact ⟨_, rfl⟩
 ·cases h
theorem deep_run (k b : Nat) (h : 32 < k + b + 2) : run5 (tS (tN k) b) = some (3, atS 32 (tS (tN k) b)) := by
 by_cases hb : 32 ≤ b
 ·obtain ⟨c, rfl⟩ : ∃ c, b = c + 32 := ⟨b - 32, by omega⟩
  cases c with
  | zero => exact hB0 k
  | succ c => rw [show c + 1 + 32 = c + 33 by omega]; exact hB1 k c
 obtain ⟨c, rfl⟩ : ∃ c, k = c + (31 - b) := ⟨k - (31 - b), by omega⟩
 match b, hb with
 | 0, _ => cases c with
  | zero => exact hC0z
  | succ c => rw [show c + 1 + (31 - 0) = c + 32 by omega]; exact hC0s c
 | 1, _ => cases c with
  | zero => exact hC1z
  | succ c => rw [show c + 1 + (31 - 1) = c + 31 by omega]; exact hC1s c
 | 2, _ => cases c with
  | zero => exact hC2z
  | succ c => rw [show c + 1 + (31 - 2) = c + 30 by omega]; exact hC2s c
 | 3, _ => cases c with
  | zero => exact hC3z
  | succ c => rw [show c + 1 + (31 - 3) = c + 29 by omega]; exact hC3s c
 | 4, _ => cases c with
  | zero => exact hC4z
  | succ c => rw [show c + 1 + (31 - 4) = c + 28 by omega]; exact hC4s c
 | 5, _ => cases c with
  | zero => exact hC5z
  | succ c => rw [show c + 1 + (31 - 5) = c + 27 by omega]; exact hC5s c
 | 6, _ => cases c with
  | zero => exact hC6z
  | succ c => rw [show c + 1 + (31 - 6) = c + 26 by omega]; exact hC6s c
 | 7, _ => cases c with
  | zero => exact hC7z
  | succ c => rw [show c + 1 + (31 - 7) = c + 25 by omega]; exact hC7s c
 | 8, _ => cases c with
  | zero => exact hC8z
  | succ c => rw [show c + 1 + (31 - 8) = c + 24 by omega]; exact hC8s c
 | 9, _ => cases c with
  | zero => exact hC9z
  | succ c => rw [show c + 1 + (31 - 9) = c + 23 by omega]; exact hC9s c
 | 10, _ => cases c with
  | zero => exact hC10z
  | succ c => rw [show c + 1 + (31 - 10) = c + 22 by omega]; exact hC10s c
 | 11, _ => cases c with
  | zero => exact hC11z
  | succ c => rw [show c + 1 + (31 - 11) = c + 21 by omega]; exact hC11s c
 | 12, _ => cases c with
  | zero => exact hC12z
  | succ c => rw [show c + 1 + (31 - 12) = c + 20 by omega]; exact hC12s c
 | 13, _ => cases c with
  | zero => exact hC13z
  | succ c => rw [show c + 1 + (31 - 13) = c + 19 by omega]; exact hC13s c
 | 14, _ => cases c with
  | zero => exact hC14z
  | succ c => rw [show c + 1 + (31 - 14) = c + 18 by omega]; exact hC14s c
 | 15, _ => cases c with
  | zero => exact hC15z
  | succ c => rw [show c + 1 + (31 - 15) = c + 17 by omega]; exact hC15s c
 | 16, _ => cases c with
  | zero => exact hC16z
  | succ c => rw [show c + 1 + (31 - 16) = c + 16 by omega]; exact hC16s c
 | 17, _ => cases c with
  | zero => exact hC17z
  | succ c => rw [show c + 1 + (31 - 17) = c + 15 by omega]; exact hC17s c
 | 18, _ => cases c with
  | zero => exact hC18z
  | succ c => rw [show c + 1 + (31 - 18) = c + 14 by omega]; exact hC18s c
 | 19, _ => cases c with
  | zero => exact hC19z
  | succ c => rw [show c + 1 + (31 - 19) = c + 13 by omega]; exact hC19s c
 | 20, _ => cases c with
  | zero => exact hC20z
  | succ c => rw [show c + 1 + (31 - 20) = c + 12 by omega]; exact hC20s c
 | 21, _ => cases c with
  | zero => exact hC21z
  | succ c => rw [show c + 1 + (31 - 21) = c + 11 by omega]; exact hC21s c
 | 22, _ => cases c with
  | zero => exact hC22z
  | succ c => rw [show c + 1 + (31 - 22) = c + 10 by omega]; exact hC22s c
 | 23, _ => cases c with
  | zero => exact hC23z
  | succ c => rw [show c + 1 + (31 - 23) = c + 9 by omega]; exact hC23s c
 | 24, _ => cases c with
  | zero => exact hC24z
  | succ c => rw [show c + 1 + (31 - 24) = c + 8 by omega]; exact hC24s c
 | 25, _ => cases c with
  | zero => exact hC25z
  | succ c => rw [show c + 1 + (31 - 25) = c + 7 by omega]; exact hC25s c
 | 26, _ => cases c with
  | zero => exact hC26z
  | succ c => rw [show c + 1 + (31 - 26) = c + 6 by omega]; exact hC26s c
 | 27, _ => cases c with
  | zero => exact hC27z
  | succ c => rw [show c + 1 + (31 - 27) = c + 5 by omega]; exact hC27s c
 | 28, _ => cases c with
  | zero => exact hC28z
  | succ c => rw [show c + 1 + (31 - 28) = c + 4 by omega]; exact hC28s c
 | 29, _ => cases c with
  | zero => exact hC29z
  | succ c => rw [show c + 1 + (31 - 29) = c + 3 by omega]; exact hC29s c
 | 30, _ => cases c with
  | zero => exact hC30z
  | succ c => rw [show c + 1 + (31 - 30) = c + 2 by omega]; exact hC30s c
 | 31, _ => cases c with
  | zero => exact hC31z
  | succ c => rw [show c + 1 + (31 - 31) = c + 1 by omega]; exact hC31s c
 | n + 32, hb => omega
theorem check_deep (k b : Nat) (h : 32 < k + b + 2) (hp : Heap) : ∃ n, callP cfg (evCall cfg Tryz.prog n) 5 [progA (tS (tN k) b)] hp = some (.tup [iA 3, iA (atS 32 (tS (tN k) b))], hp) := by
 obtain ⟨h', e⟩ := outs_spec (deep_run k b h)
 have hf : ((cfg.prim 5).isNone && cfg.fresh 5) = true := by kernel_rfl
 refine ⟨1000, ?_⟩
 have h2 := callP_fresh (call := evCall cfg Tryz.prog 1000) (args := [progA (tS (tN k) b)]) (h := heapF) hf hp
 rw [e] at h2
 exact h2
theorem ok5E {T : Tab} (O : OkE T) : OkE (T.addC 5 C5E) := by
 refine addC_ok O fun args h s hs hp => ?_
 unfold C5E at hs
 split at hs
 ·rename_i S
  cases hs
  obtain ⟨k, b, rfl, hl⟩ := hp
  obtain ⟨n, e⟩ := check_deep k b hl h
  exact ⟨_, List.mem_singleton.2 rfl, _, n, rfl, e⟩
 ·cases hs
theorem ok4E {T : Tab} (O : OkE T) : OkE (T.addC 4 C4) := by
 refine addC_ok O fun args h s hs _ => ?_
 unfold C4 at hs
 split at hs
 ·cases hs
  exact ⟨_, List.mem_singleton.2 rfl, (), 1000, trivial, awake_p h⟩
 ·cases hs
theorem ok4I {T : Tab} (O : Ok T) : Ok (T.addC 4 C4) := by
 refine addC_ok O fun args h s hs _ => ?_
 unfold C4 at hs
 split at hs
 ·cases hs
  exact ⟨_, List.mem_singleton.2 rfl, (), 0, trivial, rfl⟩
 ·cases hs
theorem okTE : OkE TE := okL2E (okL1E (ok5E (ok4E okXE)))
theorem okTI : Ok TI := okL2I (okL1I (ok5I (ok4I okX)))
theorem atN_at : ∀ (d c : Nat), atN d (tN (c + d)) = 1000 - (c : Int) := by
 intro d
 induction d with
 | zero =>
  intro c
  cases c with
  | zero => rfl
  | succ c => rfl
 | succ d ih => intro c; exact ih c
theorem atS_at : ∀ (d c : Nat) (L : List AV), atS d (tS L (c + d)) = 500 - (c : Int) := by
 intro d
 induction d with
 | zero =>
  intro c L
  cases c with
  | zero => rfl
  | succ c =>
   show (499 : Int) - (c : Int) = 500 - ((c + 1 : Nat) : Int)
   omega
 | succ d ih => intro c L; exact ih c L
theorem atS_in : ∀ (b d : Nat) (L : List AV), atS (b + 1 + d) (tS L b) = atN d L := by
 intro b
 induction b with
 | zero => intro d L; rw [Nat.zero_add, Nat.add_comm]; rfl
 | succ b ih => intro d L; rw [show b + 1 + 1 + d = (b + 1 + d) + 1 by omega]; exact ih d L
theorem at_deep (k b : Nat) (h : 32 < k + b + 2) : atS 32 (tS (tN k) b) = if 32 < b + 1 then 500 - ((b : Int) - 32) else 1000 - ((k : Int) + b + 2 - 33) := by
 split
 ·obtain ⟨c, rfl⟩ : ∃ c, b = c + 32 := ⟨b - 32, by omega⟩
  rw [atS_at 32 c]; omega
 ·obtain ⟨c, rfl⟩ : ∃ c, k = c + (31 - b) := ⟨k - (31 - b), by omega⟩
  have := atS_in b (31 - b) (tN (c + (31 - b)))
  rw [show b + 1 + (31 - b) = 32 by omega] at this
  rw [this, atN_at]; omega
end
end Go.Proofs.Sc
namespace Go.Proofs.Sc
open Go Go.Ef Go.RowKit
noncomputable section
set_option maxRecDepth 100000
theorem tailE (k b : Nat) (h : 32 < k + b + 2) (hk : k + 1 ≤ 100) (hb : b ≤ 100) (x : Int) (hx : x = atS 32 (tS (tN k) b)) (A B : Prop) (hA : A) :
  iteP (decide (IntKind.i64.wrap (IntKind.i64.wrap ((b : Int) + 1) + ((k + 1 : Nat) : Int)) ≤ 32)) B (iteP (decide ((32 : Int) < IntKind.i64.wrap ((b : Int) + 1))) (iteP (x == IntKind.i64.wrap ((500 : Int) - IntKind.i64.wrap ((b : Int) - 32))) A B) (iteP (x == IntKind.i64.wrap ((1000 : Int) - IntKind.i64.wrap (IntKind.i64.wrap (IntKind.i64.wrap (IntKind.i64.wrap ((b : Int) + 1) + ((k + 1 : Nat) : Int)) - 32) - 1))) A B)) := by
 rw [wr (x := (b : Int) + 1) (by omega) (by omega), wr (x := (b : Int) + 1 + ((k + 1 : Nat) : Int)) (by omega) (by omega), decide_eq_false (by omega), iteP_f]
 rw [wr (x := (b : Int) - 32) (by omega) (by omega), wr (x := (b : Int) + 1 + ((k + 1 : Nat) : Int) - 32) (by omega) (by omega), wr (x := (b : Int) + 1 + ((k + 1 : Nat) : Int) - 32 - 1) (by omega) (by omega), wr (x := 500 - ((b : Int) - 32)) (by omega) (by omega), wr (x := 1000 - ((b : Int) + 1 + ((k + 1 : Nat) : Int) - 32 - 1)) (by omega) (by omega)]
 have hd := at_deep k b h
 by_cases hq : 32 < b + 1
 ·rw [if_pos hq] at hd
  rw [decide_eq_true (by omega), iteP_t, show (x == 500 - ((b : Int) - 32)) = true by rw [beq_iff_eq]; omega, iteP_t]
  exact hA
 ·rw [if_neg hq] at hd
  rw [decide_eq_false (by omega), iteP_f, show (x == 1000 - ((b : Int) + 1 + ((k + 1 : Nat) : Int) - 32 - 1)) = true by rw [beq_iff_eq]; omega, iteP_t]
  exact hA
theorem lawE (k b : Nat) (h : 32 < k + b + 2) (hk : k + 1 ≤ 100) (hb : b ≤ 100) : ∃ n h, evCall cfg Tryz.prog n 3 [iA ((k + 1 : Nat) : Int), iA (b : Int)] heap0 = some (bA true, h) := by
 have key := call_okW okTE 60 3 [iA ((k + 1 : Nat) : Int), iA (b : Int)] heap0 (fun r _ => r = bA true) (l3E ((k + 1 : Nat) : Int) b (fun r => r = bA true) ?_)
 ·obtain ⟨n, r, h', h1, rfl⟩ := key
  exact ⟨n, h', h1⟩
 rw [decide_eq_false (by omega), iteP_f, decide_eq_false (by omega), iteP_f, decide_eq_false (by omega), iteP_f, decide_eq_false (by omega), iteP_f]
 refine ⟨rfl, ⟨rfl, ⟨by omega, by omega⟩⟩, fun _ h1 => ⟨rfl, ⟨rfl, ⟨by omega, by omega, rfl, .inl rfl⟩⟩, fun _ h2 => ?_, fun p h2 => ?_⟩, fun q h1 => ⟨rfl, ⟨rfl, ⟨by omega, by omega, rfl, .inr ⟨_, _, rfl⟩⟩⟩, fun _ h2 => ?_, fun p h2 => ?_⟩⟩
 ·have h1 := h1.is
  have h2 := h2.is
  omega
 ·have h1 := h1.is
  have hk0 : k = 0 := by omega
  subst hk0
  have e2 : tS numC b = blkC p.1 p.2 := h2.is
  refine ⟨⟨0, b, e2.symm, h⟩, fun x hx => tailE 0 b h hk hb x ?_ _ _ ⟨trivial, fun _ _ => rfl⟩⟩
  rw [hx]
  exact congrArg (atS 32) e2.symm
 ·have e1 : tN k = grpC q.1 q.2 := h1.is
  have h2 := h2.is
  have hb0 : b = 0 := by omega
  subst hb0
  have e3 : exprC (grpC q.1 q.2) = tS (tN k) 0 := by rw [e1]; rfl
  refine ⟨⟨k, 0, e3, h⟩, fun x hx => tailE k 0 h hk hb x ?_ _ _ ⟨trivial, fun _ _ => rfl⟩⟩
  rw [hx]
  exact congrArg (atS 32) e3
 ·have e1 : tN k = grpC q.1 q.2 := h1.is
  have e2 : tS (grpC q.1 q.2) b = blkC p.1 p.2 := h2.is
  have e3 : blkC p.1 p.2 = tS (tN k) b := by rw [e1, e2]
  refine ⟨⟨k, b, e3, h⟩, fun x hx => tailE k b h hk hb x ?_ _ _ ⟨trivial, fun _ _ => rfl⟩⟩
  rw [hx]
  exact congrArg (atS 32) e3
theorem tailI (k b : Nat) (h : k + b + 2 ≤ 32) (A B : Prop) (hA : A) :
  iteP (decide (IntKind.i64.wrap (IntKind.i64.wrap ((b : Int) + 1) + ((k + 1 : Nat) : Int)) ≤ 32)) A (iteP (decide ((32 : Int) < IntKind.i64.wrap ((b : Int) + 1))) B B) := by
 rw [wr (x := (b : Int) + 1) (by omega) (by omega), wr (x := (b : Int) + 1 + ((k + 1 : Nat) : Int)) (by omega) (by omega), decide_eq_true (by omega), iteP_t]
 exact hA
theorem lawI (k b : Nat) (h : k + b + 2 ≤ 32) (hk : k + 1 ≤ 100) (hb : b ≤ 100) : ∃ n h, evCall cfgI Tryz.prog n 3 [iA ((k + 1 : Nat) : Int), iA (b : Int)] heap0 = some (bA true, h) := by
 have key := call_okW okTI 60 3 [iA ((k + 1 : Nat) : Int), iA (b : Int)] heap0 (fun r _ => r = bA true) (l3I ((k + 1 : Nat) : Int) b (fun r => r = bA true) ?_)
 ·obtain ⟨n, r, h', h1, rfl⟩ := key
  exact ⟨n, h', h1⟩
 rw [decide_eq_false (by omega), iteP_f, decide_eq_false (by omega), iteP_f, decide_eq_false (by omega), iteP_f, decide_eq_false (by omega), iteP_f]
 refine ⟨rfl, ⟨rfl, ⟨by omega, by omega⟩⟩, fun _ h1 => ⟨rfl, ⟨rfl, ⟨by omega, by omega, rfl, .inl rfl⟩⟩, fun _ h2 => ?_, fun p h2 => ?_⟩, fun q h1 => ⟨rfl, ⟨rfl, ⟨by omega, by omega, rfl, .inr ⟨_, _, rfl⟩⟩⟩, fun _ h2 => ?_, fun p h2 => ?_⟩⟩
 ·have h1 := h1.is
  have h2 := h2.is
  have hk0 : k = 0 := by omega
  have hb0 : b = 0 := by omega
  subst hk0 hb0
  exact ⟨⟨0, 0, rfl, h⟩, fun _ _ => tailI 0 0 h _ _ ⟨trivial, fun _ _ => rfl⟩⟩
 ·have h1 := h1.is
  have hk0 : k = 0 := by omega
  subst hk0
  have e2 : tS numC b = blkC p.1 p.2 := h2.is
  refine ⟨⟨0, b, e2.symm, h⟩, fun _ _ => tailI 0 b h _ _ ⟨trivial, fun _ _ => rfl⟩⟩
 ·have e1 : tN k = grpC q.1 q.2 := h1.is
  have h2 := h2.is
  have hb0 : b = 0 := by omega
  subst hb0
  have e3 : exprC (grpC q.1 q.2) = tS (tN k) 0 := by rw [e1]; rfl
  refine ⟨⟨k, 0, e3, h⟩, fun _ _ => tailI k 0 h _ _ ⟨trivial, fun _ _ => rfl⟩⟩
 ·have e1 : tN k = grpC q.1 q.2 := h1.is
  have e2 : tS (grpC q.1 q.2) b = blkC p.1 p.2 := h2.is
  have e3 : blkC p.1 p.2 = tS (tN k) b := by rw [e1, e2]
  refine ⟨⟨k, b, e3, h⟩, fun _ _ => tailI k b h _ _ ⟨trivial, fun _ _ => rfl⟩⟩
theorem lawO (n b : Int) (h : n < 1 ∨ 100 < n ∨ b < 0 ∨ 100 < b) : ∃ k h, evCall cfg Tryz.prog k 3 [iA n, iA b] heap0 = some (bA true, h) := by
 have key := call_okW okTE 60 3 [iA n, iA b] heap0 (fun r _ => r = bA true) (l3E n b (fun r => r = bA true) ?_)
 ·obtain ⟨n, r, h', h1, rfl⟩ := key
  exact ⟨n, h', h1⟩
 by_cases h1 : n < 1
 ·rw [decide_eq_true h1, iteP_t]; exact ⟨trivial, fun _ _ => rfl⟩
 rw [decide_eq_false h1, iteP_f]
 by_cases h2 : 100 < n
 ·rw [decide_eq_true h2, iteP_t]; exact ⟨trivial, fun _ _ => rfl⟩
 rw [decide_eq_false h2, iteP_f]
 by_cases h3 : b < 0
 ·rw [decide_eq_true h3, iteP_t]; exact ⟨trivial, fun _ _ => rfl⟩
 rw [decide_eq_false h3, iteP_f]
 by_cases h4 : 100 < b
 ·rw [decide_eq_true h4, iteP_t]; exact ⟨trivial, fun _ _ => rfl⟩
 omega
theorem glob_I {w : World} (H : GlobOk cfg w) : GlobOk cfgI w := H.of_glob rfl
theorem law3 (n b : Int) (w : World) (hg : GlobOk cfg w) : Calls Tryz.prog 3 #[.int .i64 n, .int .i64 b] w fun e w' => e = .returned (.bool true) ∧ Below w.heap.size w w' := by
 have hv : ∀ μ, VLs μ [iA n, iA b] #[.int .i64 n, .int .i64 b] := fun μ => ⟨rfl, fun i x y hx hy => by
  match i with
  | 0 => simp at hx hy; subst hx; subst hy; exact .sc rfl
  | 1 => simp at hx hy; subst hx; subst hy; exact .sc rfl
  | i + 2 => simp at hx⟩
 by_cases h : n < 1 ∨ 100 < n ∨ b < 0 ∨ 100 < b
 ·obtain ⟨k, h', e⟩ := lawO n b h
  exact law_of_ev fit k hg (hv _) e
 obtain ⟨k, rfl⟩ : ∃ k : Nat, n = ((k + 1 : Nat) : Int) := ⟨n.toNat - 1, by omega⟩
 obtain ⟨c, rfl⟩ : ∃ c : Nat, b = c := ⟨b.toNat, by omega⟩
 by_cases hl : k + c + 2 ≤ 32
 ·obtain ⟨m, h', e⟩ := lawI k c hl (by omega) (by omega)
  exact law_of_ev fitI m (glob_I hg) (hv _) e
 ·obtain ⟨m, h', e⟩ := lawE k c (by omega) (by omega) (by omega)
  exact law_of_ev fit m hg (hv _) e
set_option maxRecDepth 100000 in
theorem glob_ok {W : World} (h : laidMet Tryz.prog YtlegmhhgkpdheaaGreatDoor.Rows.scancheckLevelsUptoRow.laid W) : GlobOk cfg W := by
 have h0 : laidMet Tryz.prog (("math/bits.deBruijn64tab", YtlegmhhgkpdheaaGreatDoor.Rows.laid_math_bits_deBruijn64tab) :: ("unicode.White_Space", YtlegmhhgkpdheaaGreatDoor.Rows.laid_unicode_White_Space) :: ("strings.asciiSpace", YtlegmhhgkpdheaaGreatDoor.Rows.laid_strings_asciiSpace) :: []) W := h
 intro g cs hg
 replace hg : globs g = some cs := hg
 unfold globs at hg
 split at hg
 ·cases hg; exact row_glob (t := 144) (by kernel_rfl) (by kernel_rfl) (by kernel_rfl) h0.tail.tail
 ·cases hg
end
end Go.Proofs.Sc
