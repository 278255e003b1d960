/- A part of the proof: definitions and lemmas. -/
import Derived.Test.YtfgocjmkefeeeaaDoorJoinsE
namespace Go.Proofs.Pr
open Go Go.Ef
noncomputable section
set_option maxRecDepth 100000
theorem d67_3 (n : Int) (K : AV → Prop) (h : iteP (decide (0 ≤ n)) (iteP (decide (n < 100)) (iteP (decide (n < 10)) (iteP (decide (0 ≤ n)
 && (decide (n ≤ IntKind.i64.wrap (n + 1)) && decide (IntKind.i64.wrap (n + 1) ≤ 36))) (K (AV.sc (Value.string (ByteArray.mk (Array.mk (cutL digTab n (IntKind.i64.wrap (n + 1)))))))) False) (iteP (decide (0 ≤ IntKind.i64.wrap (n * 2)) && (decide (IntKind.i64.wrap (n * 2) ≤ IntKind.i64.wrap (IntKind.i64.wrap (n * 2) + 2)) && decide (IntKind.i64.wrap (IntKind.i64.wrap (n * 2) + 2) ≤ 200))) (K (AV.sc
 (Value.string (ByteArray.mk (Array.mk (cutL twoTab (IntKind.i64.wrap (n * 2)) (IntKind.i64.wrap (IntKind.i64.wrap (n * 2) + 2)))))))) False)) (∀ (m : Int), m = IntKind.u64.wrap n → iteP (decide (n < 0)) (∀ (m_1 : Int), m_1 = IntKind.u64.wrap (0 - m) → (100 ≤ m_1 ∧ m_1 < 1000) ∧ ∀ (_ :
 Unit), True → ∀ (m : Int), m = IntKind.u32.wrap m_1 → ∀ (m_2 : Int), m_2 = IntKind.u32.wrap (m.tmod 100 * 2) → ∀ (m_3 : Int), m_3 = IntKind.u32.wrap (m.tdiv 100) → ∀ (m : Int), m = m_2 → iteP (inRange (IntKind.u32.wrap (m + 1)) 200) (iteP (inRange m_2 200) (∀ (m_4 : Int), m_4 =
 IntKind.u8.wrap (IntKind.u32.wrap (48 + m_3)) → iteP (decide (n < 0)) (K (AV.sc (Value.string (ByteArray.mk (Array.mk [(45 : UInt8), UInt8.ofNat m_4.toNat, UInt8.ofNat (byteAt twoTab m_2).toNat, UInt8.ofNat (byteAt twoTab (IntKind.u32.wrap (m + 1))).toNat]))))) (K (AV.sc (Value.string (ByteArray.mk (Array.mk
 [UInt8.ofNat m_4.toNat, UInt8.ofNat (byteAt twoTab m_2).toNat, UInt8.ofNat (byteAt twoTab (IntKind.u32.wrap (m + 1))).toNat])))))) False) False) ((100 ≤ m ∧ m < 1000) ∧ ∀ (_ : Unit), True → ∀ (m_1 : Int), m_1 = IntKind.u32.wrap m → ∀ (m : Int), m = IntKind.u32.wrap (m_1.tmod 100 * 2) → ∀ (m_2 : Int),
 m_2 = IntKind.u32.wrap (m_1.tdiv 100) → ∀ (m_3 : Int), m_3 = m → iteP (inRange (IntKind.u32.wrap (m_3 + 1)) 200) (iteP (inRange m 200) (∀ (m_4 : Int), m_4 = IntKind.u8.wrap (IntKind.u32.wrap (48 + m_2)) → iteP (decide (n < 0)) (K (AV.sc (Value.string (ByteArray.mk (Array.mk [(45 : UInt8),
 UInt8.ofNat m_4.toNat, UInt8.ofNat (byteAt twoTab m).toNat, UInt8.ofNat (byteAt twoTab (IntKind.u32.wrap (m_3 + 1))).toNat]))))) (K (AV.sc (Value.string (ByteArray.mk (Array.mk [UInt8.ofNat m_4.toNat, UInt8.ofNat (byteAt twoTab m).toNat, UInt8.ofNat (byteAt twoTab (IntKind.u32.wrap (m_3 + 1))).toNat])))))) False)
 False))) (∀ (m : Int), m = IntKind.u64.wrap n → iteP (decide (n < 0)) (∀ (m_1 : Int), m_1 = IntKind.u64.wrap (0 - m) → (100 ≤ m_1 ∧ m_1 < (1000 : Int)) ∧ ∀ (_ : Unit), True → ∀ (m : Int), m = IntKind.u32.wrap m_1 → ∀ (m_2 : Int), m_2 = IntKind.u32.wrap (m.tmod 100 * 2) → ∀ (m_3 : Int), m_3 =
 IntKind.u32.wrap (m.tdiv 100) → ∀ (m : Int), m = m_2 → iteP (inRange (IntKind.u32.wrap (m + 1)) 200) (iteP (inRange m_2 200) (∀ (m_4 : Int), m_4 = IntKind.u8.wrap (IntKind.u32.wrap (48 + m_3)) → iteP (decide (n < 0)) (K (AV.sc (Value.string (ByteArray.mk (Array.mk [(45 : UInt8),
 UInt8.ofNat m_4.toNat, UInt8.ofNat (byteAt twoTab m_2).toNat, UInt8.ofNat (byteAt twoTab (IntKind.u32.wrap (m + 1))).toNat]))))) (K (AV.sc (Value.string (ByteArray.mk (Array.mk [UInt8.ofNat m_4.toNat, UInt8.ofNat (byteAt twoTab m_2).toNat, UInt8.ofNat (byteAt twoTab (IntKind.u32.wrap (m + 1))).toNat])))))) False)
 False) ((100 ≤ m ∧ m < 1000) ∧ ∀ (_ : Unit), True → ∀ (m_1 : Int), m_1 = IntKind.u32.wrap m → ∀ (m : Int), m = IntKind.u32.wrap (m_1.tmod 100 * (2 : Int)) → ∀ (m_2 : Int), m_2 = IntKind.u32.wrap (m_1.tdiv 100) → ∀ (m_3 : Int), m_3 = m → iteP (inRange (IntKind.u32.wrap (m_3 + 1)) 200) (iteP
 (inRange m 200) (∀ (m_4 : Int), m_4 = IntKind.u8.wrap (IntKind.u32.wrap (48 + m_2)) → iteP (decide (n < 0)) (K (AV.sc (Value.string (ByteArray.mk (Array.mk [(45 : UInt8), UInt8.ofNat m_4.toNat, UInt8.ofNat (byteAt twoTab m).toNat, UInt8.ofNat (byteAt twoTab (IntKind.u32.wrap (m_3 + 1))).toNat]))))) (K (AV.sc
 (Value.string (ByteArray.mk (Array.mk [UInt8.ofNat m_4.toNat, UInt8.ofNat (byteAt twoTab m).toNat, UInt8.ofNat (byteAt twoTab (IntKind.u32.wrap (m_3 + (1 : Int)))).toNat])))))) False) False))) : (fun (n : Int) (K : AV → Prop) => wpCall (Dk 3) Door.cfg Tryd.prog 60 67 [aK .i64 n, aK .i64 10] heapF fun r h' => wpBack h' r K) n K :=
 Eq.mp (by kernel_rfl) h
theorem d67_4 (n : Int) (K : AV → Prop) (h : iteP (decide (0 ≤ n)) (iteP (decide (n < 100)) (iteP (decide (n < 10)) (iteP (decide (0 ≤ n)
 && (decide (n ≤ IntKind.i64.wrap (n + 1)) && decide (IntKind.i64.wrap (n + 1) ≤ 36))) (K (AV.sc (Value.string (ByteArray.mk (Array.mk (cutL digTab n (IntKind.i64.wrap (n + 1)))))))) False) (iteP (decide (0 ≤ IntKind.i64.wrap (n * 2)) && (decide (IntKind.i64.wrap (n * 2) ≤ IntKind.i64.wrap (IntKind.i64.wrap (n * 2) + 2)) && decide (IntKind.i64.wrap (IntKind.i64.wrap (n * 2) + 2) ≤ 200))) (K (AV.sc
 (Value.string (ByteArray.mk (Array.mk (cutL twoTab (IntKind.i64.wrap (n * 2)) (IntKind.i64.wrap (IntKind.i64.wrap (n * 2) + 2)))))))) False)) (∀ (m : Int), m = IntKind.u64.wrap n → iteP (decide (n < 0)) (∀ (m_1 : Int), m_1 = IntKind.u64.wrap (0 - m) → (1000 ≤ m_1 ∧ m_1 < 10000) ∧ ∀ (_ :
 Unit), True → ∀ (m : Int), m = IntKind.u32.wrap m_1 → ∀ (m_2 : Int), m_2 = m.tmod 10000 → ∀ (m_3 : Int), m_3 = IntKind.u32.wrap (m.tdiv 10000) → ∀ (m : Int), m = IntKind.u32.wrap (IntKind.u32.wrap (m_2.tdiv 100) * 2) → ∀ (m_4 : Int), m_4 = IntKind.u32.wrap (m_2.tmod 100 * 2) → ∀ (m_5 :
 Int), m_5 = IntKind.u32.wrap (m_4 + 1) → iteP (inRange m_5 200) (iteP (inRange m_4 200) (∀ (m_6 : Int), m_6 = IntKind.u32.wrap (m + 1) → iteP (inRange m_6 200) (iteP (inRange m 200) (iteP (decide (n < 0)) (K (AV.sc (Value.string (ByteArray.mk (Array.mk [(45 : UInt8), UInt8.ofNat
 (byteAt twoTab m).toNat, UInt8.ofNat (byteAt twoTab m_6).toNat, UInt8.ofNat (byteAt twoTab m_4).toNat, UInt8.ofNat (byteAt twoTab m_5).toNat]))))) (K (AV.sc (Value.string (ByteArray.mk (Array.mk [UInt8.ofNat (byteAt twoTab m).toNat, UInt8.ofNat (byteAt twoTab m_6).toNat, UInt8.ofNat (byteAt twoTab m_4).toNat, UInt8.ofNat (byteAt twoTab
 m_5).toNat])))))) False) False) False) False) ((1000 ≤ m ∧ m < 10000) ∧ ∀ (_ : Unit), True → ∀ (m_1 : Int), m_1 = IntKind.u32.wrap m → ∀ (m : Int), m = m_1.tmod 10000 → ∀ (m_2 : Int), m_2 = IntKind.u32.wrap (m_1.tdiv 10000) → ∀ (m_3 : Int), m_3 = IntKind.u32.wrap (IntKind.u32.wrap (m.tdiv 100) * (2
 : Int)) → ∀ (m_4 : Int), m_4 = IntKind.u32.wrap (m.tmod 100 * 2) → ∀ (m : Int), m = IntKind.u32.wrap (m_4 + 1) → iteP (inRange m 200) (iteP (inRange m_4 200) (∀ (m_5 : Int), m_5 = IntKind.u32.wrap (m_3 + 1) → iteP (inRange m_5 200) (iteP (inRange m_3 200) (iteP (decide (n < (0 :
 Int))) (K (AV.sc (Value.string (ByteArray.mk (Array.mk [(45 : UInt8), UInt8.ofNat (byteAt twoTab m_3).toNat, UInt8.ofNat (byteAt twoTab m_5).toNat, UInt8.ofNat (byteAt twoTab m_4).toNat, UInt8.ofNat (byteAt twoTab m).toNat]))))) (K (AV.sc (Value.string (ByteArray.mk (Array.mk [UInt8.ofNat (byteAt twoTab m_3).toNat, UInt8.ofNat (byteAt
 twoTab m_5).toNat, UInt8.ofNat (byteAt twoTab m_4).toNat, UInt8.ofNat (byteAt twoTab m).toNat])))))) False) False) False) False))) (∀ (m : Int), m = IntKind.u64.wrap n → iteP (decide (n < 0)) (∀ (m_1 : Int), m_1 = IntKind.u64.wrap (0 - m) → (1000 ≤ m_1 ∧ m_1 < 10000) ∧ ∀ (_ : Unit), True → ∀ (m : Int), m =
 IntKind.u32.wrap m_1 → ∀ (m_2 : Int), m_2 = m.tmod 10000 → ∀ (m_3 : Int), m_3 = IntKind.u32.wrap (m.tdiv 10000) → ∀ (m : Int), m = IntKind.u32.wrap (IntKind.u32.wrap (m_2.tdiv 100) * 2) → ∀ (m_4 : Int), m_4 = IntKind.u32.wrap (m_2.tmod 100 * 2) → ∀ (m_5 : Int), m_5 = IntKind.u32.wrap
 (m_4 + 1) → iteP (inRange m_5 200) (iteP (inRange m_4 200) (∀ (m_6 : Int), m_6 = IntKind.u32.wrap (m + 1) → iteP (inRange m_6 200) (iteP (inRange m 200) (iteP (decide (n < 0)) (K (AV.sc (Value.string (ByteArray.mk (Array.mk [(45 : UInt8), UInt8.ofNat (byteAt twoTab m).toNat,
 UInt8.ofNat (byteAt twoTab m_6).toNat, UInt8.ofNat (byteAt twoTab m_4).toNat, UInt8.ofNat (byteAt twoTab m_5).toNat]))))) (K (AV.sc (Value.string (ByteArray.mk (Array.mk [UInt8.ofNat (byteAt twoTab m).toNat, UInt8.ofNat (byteAt twoTab m_6).toNat, UInt8.ofNat (byteAt twoTab m_4).toNat, UInt8.ofNat (byteAt twoTab m_5).toNat])))))) False)
 False) False) False) ((1000 ≤ m ∧ m < 10000) ∧ ∀ (_ : Unit), True → ∀ (m_1 : Int), m_1 = IntKind.u32.wrap m → ∀ (m : Int), m = m_1.tmod 10000 → ∀ (m_2 : Int), m_2 = IntKind.u32.wrap (m_1.tdiv 10000) → ∀ (m_3 : Int), m_3 = IntKind.u32.wrap (IntKind.u32.wrap (m.tdiv 100) * 2) → ∀ (m_4 : Int),
 m_4 = IntKind.u32.wrap (m.tmod 100 * 2) → ∀ (m : Int), m = IntKind.u32.wrap (m_4 + 1) → iteP (inRange m 200) (iteP (inRange m_4 (200 : Nat)) (∀ (m_5 : Int), m_5 = IntKind.u32.wrap (m_3 + 1) → iteP (inRange m_5 200) (iteP (inRange m_3 200) (iteP (decide (n < 0)) (K (AV.sc
 (Value.string (ByteArray.mk (Array.mk [(45 : UInt8), UInt8.ofNat (byteAt twoTab m_3).toNat, UInt8.ofNat (byteAt twoTab m_5).toNat, UInt8.ofNat (byteAt twoTab m_4).toNat, UInt8.ofNat (byteAt twoTab m).toNat]))))) (K (AV.sc (Value.string (ByteArray.mk (Array.mk [UInt8.ofNat (byteAt twoTab m_3).toNat, UInt8.ofNat (byteAt twoTab m_5).toNat,
 UInt8.ofNat (byteAt twoTab m_4).toNat, UInt8.ofNat (byteAt twoTab m).toNat])))))) False) False) False) False))) : (fun (n : Int) (K : AV → Prop) => wpCall (Dk 4) Door.cfg Tryd.prog 60 67 [aK .i64 n, aK .i64 10] heapF fun r h' => wpBack h' r K) n K :=
 Eq.mp (by kernel_rfl) h
theorem d67_5 (n : Int) (K : AV → Prop) (h : iteP (decide (0 ≤ n)) (iteP (decide (n < 100)) (iteP (decide (n < 10)) (iteP (decide (0 ≤ n)
 && (decide (n ≤ IntKind.i64.wrap (n + 1)) && decide (IntKind.i64.wrap (n + 1) ≤ 36))) (K (AV.sc (Value.string (ByteArray.mk (Array.mk (cutL digTab n (IntKind.i64.wrap (n + 1)))))))) False) (iteP (decide (0 ≤ IntKind.i64.wrap (n * 2)) && (decide (IntKind.i64.wrap (n * 2) ≤ IntKind.i64.wrap (IntKind.i64.wrap (n * 2) + 2)) && decide (IntKind.i64.wrap (IntKind.i64.wrap (n * 2) + 2) ≤ 200))) (K (AV.sc
 (Value.string (ByteArray.mk (Array.mk (cutL twoTab (IntKind.i64.wrap (n * 2)) (IntKind.i64.wrap (IntKind.i64.wrap (n * 2) + 2)))))))) False)) (∀ (m : Int), m = IntKind.u64.wrap n → iteP (decide (n < 0)) (∀ (m_1 : Int), m_1 = IntKind.u64.wrap (0 - m) → (10000 ≤ m_1 ∧ m_1 < 100000) ∧ ∀ (_
 : Unit), True → ∀ (m : Int), m = IntKind.u32.wrap m_1 → ∀ (m_2 : Int), m_2 = m.tmod 10000 → ∀ (m_3 : Int), m_3 = IntKind.u32.wrap (m.tdiv 10000) → ∀ (m : Int), m = IntKind.u32.wrap (IntKind.u32.wrap (m_2.tdiv 100) * 2) → ∀ (m_4 : Int), m_4 = IntKind.u32.wrap (m_2.tmod 100 * 2) → ∀ (m_5 :
 Int), m_5 = IntKind.u32.wrap (m_4 + 1) → iteP (inRange m_5 200) (iteP (inRange m_4 200) (∀ (m_6 : Int), m_6 = IntKind.u32.wrap (m + 1) → iteP (inRange m_6 200) (iteP (inRange m 200) (∀ (m_7 : Int), m_7 = IntKind.u8.wrap (IntKind.u32.wrap (48 + m_3)) → iteP (decide (n < 0)) (K
 (AV.sc (Value.string (ByteArray.mk (Array.mk [(45 : UInt8), UInt8.ofNat m_7.toNat, UInt8.ofNat (byteAt twoTab m).toNat, UInt8.ofNat (byteAt twoTab m_6).toNat, UInt8.ofNat (byteAt twoTab m_4).toNat, UInt8.ofNat (byteAt twoTab m_5).toNat]))))) (K (AV.sc (Value.string (ByteArray.mk (Array.mk [UInt8.ofNat m_7.toNat, UInt8.ofNat (byteAt twoTab
 m).toNat, UInt8.ofNat (byteAt twoTab m_6).toNat, UInt8.ofNat (byteAt twoTab m_4).toNat, UInt8.ofNat (byteAt twoTab m_5).toNat])))))) False) False) False) False) (((10000 : Int) ≤ m ∧ m < 100000) ∧ ∀ (_ : Unit), True → ∀ (m_1 : Int), m_1 = IntKind.u32.wrap m → ∀ (m : Int), m = m_1.tmod 10000 → ∀ (m_2 : Int), m_2 =
 IntKind.u32.wrap (m_1.tdiv 10000) → ∀ (m_3 : Int), m_3 = IntKind.u32.wrap (IntKind.u32.wrap (m.tdiv 100) * 2) → ∀ (m_4 : Int), m_4 = IntKind.u32.wrap (m.tmod 100 * 2) → ∀ (m : Int), m = IntKind.u32.wrap (m_4 + 1) → iteP (inRange m 200) (iteP (inRange m_4 200) (∀ (m_5 : Int), m_5 = IntKind.u32.wrap (m_3 + 1) → iteP (inRange m_5 200) (iteP (inRange m_3 200) (∀ (m_6 : Int), m_6 = IntKind.u8.wrap
 (IntKind.u32.wrap (48 + m_2)) → iteP (decide (n < 0)) (K (AV.sc (Value.string (ByteArray.mk (Array.mk [(45 : UInt8), UInt8.ofNat m_6.toNat, UInt8.ofNat (byteAt twoTab m_3).toNat, UInt8.ofNat (byteAt twoTab m_5).toNat, UInt8.ofNat (byteAt twoTab m_4).toNat, UInt8.ofNat (byteAt twoTab m).toNat]))))) (K (AV.sc (Value.string
 (ByteArray.mk (Array.mk [UInt8.ofNat m_6.toNat, UInt8.ofNat (byteAt twoTab m_3).toNat, UInt8.ofNat (byteAt twoTab m_5).toNat, UInt8.ofNat (byteAt twoTab m_4).toNat, UInt8.ofNat (byteAt twoTab m).toNat])))))) False) False) False) False))) (∀ (m : Int), m = IntKind.u64.wrap n → iteP (decide (n < 0)) (∀ (m_1 : Int), m_1 =
 IntKind.u64.wrap (0 - m) → (10000 ≤ m_1 ∧ m_1 < 100000) ∧ ∀ (_ : Unit), True → ∀ (m : Int), m = IntKind.u32.wrap m_1 → ∀ (m_2 : Int), m_2 = m.tmod 10000 → ∀ (m_3 : Int), m_3 = IntKind.u32.wrap (m.tdiv 10000) → ∀ (m : Int), m = IntKind.u32.wrap (IntKind.u32.wrap (m_2.tdiv 100) * 2) → ∀
 (m_4 : Int), m_4 = IntKind.u32.wrap (m_2.tmod 100 * 2) → ∀ (m_5 : Int), m_5 = IntKind.u32.wrap (m_4 + 1) → iteP (inRange m_5 200) (iteP (inRange m_4 200) (∀ (m_6 : Int), m_6 = IntKind.u32.wrap (m + 1) → iteP (inRange m_6 200) (iteP (inRange m 200) (∀ (m_7 : Int), m_7 =
 IntKind.u8.wrap (IntKind.u32.wrap (48 + m_3)) → iteP (decide (n < 0)) (K (AV.sc (Value.string (ByteArray.mk (Array.mk [(45 : UInt8), UInt8.ofNat m_7.toNat, UInt8.ofNat (byteAt twoTab m).toNat, UInt8.ofNat (byteAt twoTab m_6).toNat, UInt8.ofNat (byteAt twoTab m_4).toNat, UInt8.ofNat (byteAt twoTab m_5).toNat]))))) (K (AV.sc
 (Value.string (ByteArray.mk (Array.mk [UInt8.ofNat m_7.toNat, UInt8.ofNat (byteAt twoTab m).toNat, UInt8.ofNat (byteAt twoTab m_6).toNat, UInt8.ofNat (byteAt twoTab m_4).toNat, UInt8.ofNat (byteAt twoTab m_5).toNat])))))) False) False) False) False) ((10000 ≤ m ∧ m < 100000) ∧ ∀ (_ : Unit), True → ∀ (m_1 : Int), m_1 =
 IntKind.u32.wrap m → ∀ (m : Int), m = m_1.tmod 10000 → ∀ (m_2 : Int), m_2 = IntKind.u32.wrap (m_1.tdiv 10000) → ∀ (m_3 : Int), m_3 = IntKind.u32.wrap (IntKind.u32.wrap (m.tdiv 100) * 2) → ∀ (m_4 : Int), m_4 = IntKind.u32.wrap (m.tmod 100 * 2) → ∀ (m : Int), m = IntKind.u32.wrap (m_4 + (1
 : Int)) → iteP (inRange m 200) (iteP (inRange m_4 200) (∀ (m_5 : Int), m_5 = IntKind.u32.wrap (m_3 + 1) → iteP (inRange m_5 200) (iteP (inRange m_3 200) (∀ (m_6 : Int), m_6 = IntKind.u8.wrap (IntKind.u32.wrap (48 + m_2)) → iteP (decide (n < 0)) (K (AV.sc (Value.string (ByteArray.mk
 (Array.mk [(45 : UInt8), UInt8.ofNat m_6.toNat, UInt8.ofNat (byteAt twoTab m_3).toNat, UInt8.ofNat (byteAt twoTab m_5).toNat, UInt8.ofNat (byteAt twoTab m_4).toNat, UInt8.ofNat (byteAt twoTab m).toNat]))))) (K (AV.sc (Value.string (ByteArray.mk (Array.mk [UInt8.ofNat m_6.toNat, UInt8.ofNat (byteAt twoTab m_3).toNat, UInt8.ofNat
 (byteAt twoTab m_5).toNat, UInt8.ofNat (byteAt twoTab m_4).toNat, UInt8.ofNat (byteAt twoTab m).toNat])))))) False) False) False) False))) : (fun (n : Int) (K : AV → Prop) => wpCall (Dk 5) Door.cfg Tryd.prog 60 67 [aK .i64 n, aK .i64 10] heapF fun r h' => wpBack h' r K) n K :=
 Eq.mp (by kernel_rfl) h
theorem d67_6 (n : Int) (K : AV → Prop) (h : iteP (decide (0 ≤ n)) (iteP (decide (n < 100)) (iteP (decide (n < 10)) (iteP (decide (0 ≤ n)
 && (decide (n ≤ IntKind.i64.wrap (n + 1)) && decide (IntKind.i64.wrap (n + 1) ≤ 36))) (K (AV.sc (Value.string (ByteArray.mk (Array.mk (cutL digTab n (IntKind.i64.wrap (n + 1)))))))) False) (iteP (decide (0 ≤ IntKind.i64.wrap (n * 2)) && (decide (IntKind.i64.wrap (n * 2) ≤ IntKind.i64.wrap (IntKind.i64.wrap (n * 2) + 2)) && decide (IntKind.i64.wrap (IntKind.i64.wrap (n * 2) + 2) ≤ 200))) (K (AV.sc
 (Value.string (ByteArray.mk (Array.mk (cutL twoTab (IntKind.i64.wrap (n * 2)) (IntKind.i64.wrap (IntKind.i64.wrap (n * 2) + 2)))))))) False)) (∀ (m : Int), m = IntKind.u64.wrap n → iteP (decide (n < 0)) (∀ (m_1 : Int), m_1 = IntKind.u64.wrap (0 - m) → (100000 ≤ m_1 ∧ m_1 < 1000000) ∧ ∀
 (_ : Unit), True → ∀ (m : Int), m = IntKind.u32.wrap m_1 → ∀ (m_2 : Int), m_2 = m.tmod 10000 → ∀ (m_3 : Int), m_3 = IntKind.u32.wrap (m.tdiv 10000) → ∀ (m : Int), m = IntKind.u32.wrap (IntKind.u32.wrap (m_2.tdiv 100) * 2) → ∀ (m_4 : Int), m_4 = IntKind.u32.wrap (m_2.tmod 100 * 2) → ∀ (m_5 :
 Int), m_5 = IntKind.u32.wrap (m_4 + 1) → iteP (inRange m_5 200) (iteP (inRange m_4 200) (∀ (m_6 : Int), m_6 = IntKind.u32.wrap (m + 1) → iteP (inRange m_6 200) (iteP (inRange m 200) (∀ (m_7 : Int), m_7 = IntKind.u32.wrap (m_3.tmod 100 * 2) → ∀ (m_8 : Int), m_8 = IntKind.u32.wrap (m_3.tdiv 100) → ∀ (m_9 : Int), m_9 = m_7 → iteP (inRange (IntKind.u32.wrap (m_9 + 1)) 200) (iteP (inRange m_7 200) (iteP
 (decide (n < 0)) (K (AV.sc (Value.string (ByteArray.mk (Array.mk [(45 : UInt8), UInt8.ofNat (byteAt twoTab m_7).toNat, UInt8.ofNat (byteAt twoTab (IntKind.u32.wrap (m_9 + 1))).toNat, UInt8.ofNat (byteAt twoTab m).toNat, UInt8.ofNat (byteAt twoTab m_6).toNat, UInt8.ofNat (byteAt twoTab m_4).toNat, UInt8.ofNat (byteAt twoTab
 m_5).toNat]))))) (K (AV.sc (Value.string (ByteArray.mk (Array.mk [UInt8.ofNat (byteAt twoTab m_7).toNat, UInt8.ofNat (byteAt twoTab (IntKind.u32.wrap (m_9 + (1 : Int)))).toNat, UInt8.ofNat (byteAt twoTab m).toNat, UInt8.ofNat (byteAt twoTab m_6).toNat, UInt8.ofNat (byteAt twoTab m_4).toNat, UInt8.ofNat (byteAt twoTab
 m_5).toNat])))))) False) False) False) False) False) False) ((100000 ≤ m ∧ m < 1000000) ∧ ∀ (_ : Unit), True → ∀ (m_1 : Int), m_1 = IntKind.u32.wrap m → ∀ (m : Int), m = m_1.tmod 10000 → ∀ (m_2 : Int), m_2 = IntKind.u32.wrap (m_1.tdiv 10000) → ∀ (m_3 : Int), m_3 = IntKind.u32.wrap (IntKind.u32.wrap (m.tdiv
 100) * 2) → ∀ (m_4 : Int), m_4 = IntKind.u32.wrap (m.tmod 100 * 2) → ∀ (m : Int), m = IntKind.u32.wrap (m_4 + 1) → iteP (inRange m 200) (iteP (inRange m_4 200) (∀ (m_5 : Int), m_5 = IntKind.u32.wrap (m_3 + 1) → iteP (inRange m_5 200) (iteP (inRange m_3 200) (∀
 (m_6 : Int), m_6 = IntKind.u32.wrap (m_2.tmod 100 * 2) → ∀ (m_7 : Int), m_7 = IntKind.u32.wrap (m_2.tdiv 100) → ∀ (m_8 : Int), m_8 = m_6 → iteP (inRange (IntKind.u32.wrap (m_8 + 1)) 200) (iteP (inRange m_6 200) (iteP (decide (n < 0)) (K (AV.sc (Value.string (ByteArray.mk (Array.mk
 [(45 : UInt8), UInt8.ofNat (byteAt twoTab m_6).toNat, UInt8.ofNat (byteAt twoTab (IntKind.u32.wrap (m_8 + 1))).toNat, UInt8.ofNat (byteAt twoTab m_3).toNat, UInt8.ofNat (byteAt twoTab m_5).toNat, UInt8.ofNat (byteAt twoTab m_4).toNat, UInt8.ofNat (byteAt twoTab m).toNat]))))) (K (AV.sc (Value.string (ByteArray.mk (Array.mk
 [UInt8.ofNat (byteAt twoTab m_6).toNat, UInt8.ofNat (byteAt twoTab (IntKind.u32.wrap (m_8 + 1))).toNat, UInt8.ofNat (byteAt twoTab m_3).toNat, UInt8.ofNat (byteAt twoTab m_5).toNat, UInt8.ofNat (byteAt twoTab m_4).toNat, UInt8.ofNat (byteAt twoTab m).toNat])))))) False) False) False) False) False) False))) (∀ (m : Int), m =
 IntKind.u64.wrap n → iteP (decide (n < 0)) (∀ (m_1 : Int), m_1 = IntKind.u64.wrap (0 - m) → (100000 ≤ m_1 ∧ m_1 < 1000000) ∧ ∀ (_ : Unit), True → ∀ (m : Int), m = IntKind.u32.wrap m_1 → ∀ (m_2 : Int), m_2 = m.tmod 10000 → ∀ (m_3 : Int), m_3 = IntKind.u32.wrap (m.tdiv 10000) → ∀ (m : Int), m =
 IntKind.u32.wrap (IntKind.u32.wrap (m_2.tdiv 100) * 2) → ∀ (m_4 : Int), m_4 = IntKind.u32.wrap (m_2.tmod 100 * 2) → ∀ (m_5 : Int), m_5 = IntKind.u32.wrap (m_4 + 1) → iteP (inRange m_5 200) (iteP (inRange m_4 200) (∀ (m_6 : Int), m_6 = IntKind.u32.wrap (m + 1) → iteP (inRange
 m_6 200) (iteP (inRange m 200) (∀ (m_7 : Int), m_7 = IntKind.u32.wrap (m_3.tmod 100 * 2) → ∀ (m_8 : Int), m_8 = IntKind.u32.wrap (m_3.tdiv 100) → ∀ (m_9 : Int), m_9 = m_7 → iteP (inRange (IntKind.u32.wrap (m_9 + 1)) 200) (iteP (inRange m_7 200) (iteP (decide (n < 0)) (K
 (AV.sc (Value.string (ByteArray.mk (Array.mk [(45 : UInt8), UInt8.ofNat (byteAt twoTab m_7).toNat, UInt8.ofNat (byteAt twoTab (IntKind.u32.wrap (m_9 + 1))).toNat, UInt8.ofNat (byteAt twoTab m).toNat, UInt8.ofNat (byteAt twoTab m_6).toNat, UInt8.ofNat (byteAt twoTab m_4).toNat, UInt8.ofNat (byteAt twoTab m_5).toNat]))))) (K (AV.sc
 (Value.string (ByteArray.mk (Array.mk [UInt8.ofNat (byteAt twoTab m_7).toNat, UInt8.ofNat (byteAt twoTab (IntKind.u32.wrap (m_9 + 1))).toNat, UInt8.ofNat (byteAt twoTab m).toNat, UInt8.ofNat (byteAt twoTab m_6).toNat, UInt8.ofNat (byteAt twoTab m_4).toNat, UInt8.ofNat (byteAt twoTab m_5).toNat])))))) False) False) False) False)
 False) False) ((100000 ≤ m ∧ m < 1000000) ∧ ∀ (_ : Unit), True → ∀ (m_1 : Int), m_1 = IntKind.u32.wrap m → ∀ (m : Int), m = m_1.tmod 10000 → ∀ (m_2 : Int), m_2 = IntKind.u32.wrap (m_1.tdiv 10000) → ∀ (m_3 : Int), m_3 = IntKind.u32.wrap (IntKind.u32.wrap (m.tdiv 100) * 2) → ∀ (m_4 : Int), m_4 =
 IntKind.u32.wrap (m.tmod 100 * 2) → ∀ (m : Int), m = IntKind.u32.wrap (m_4 + 1) → iteP (inRange m 200) (iteP (inRange m_4 200) (∀ (m_5 : Int), m_5 = IntKind.u32.wrap (m_3 + 1) → iteP (inRange m_5 200) (iteP (inRange m_3 200) (∀ (m_6 : Int), m_6 = IntKind.u32.wrap (m_2.tmod
 100 * 2) → ∀ (m_7 : Int), m_7 = IntKind.u32.wrap (m_2.tdiv 100) → ∀ (m_8 : Int), m_8 = m_6 → iteP (inRange (IntKind.u32.wrap (m_8 + 1)) 200) (iteP (inRange m_6 200) (iteP (decide (n < 0)) (K (AV.sc (Value.string (ByteArray.mk (Array.mk [(45 : UInt8), UInt8.ofNat (byteAt twoTab
 m_6).toNat, UInt8.ofNat (byteAt twoTab (IntKind.u32.wrap (m_8 + 1))).toNat, UInt8.ofNat (byteAt twoTab m_3).toNat, UInt8.ofNat (byteAt twoTab m_5).toNat, UInt8.ofNat (byteAt twoTab m_4).toNat, UInt8.ofNat (byteAt twoTab m).toNat]))))) (K (AV.sc (Value.string (ByteArray.mk (Array.mk [UInt8.ofNat (byteAt twoTab m_6).toNat,
 UInt8.ofNat (byteAt twoTab (IntKind.u32.wrap (m_8 + 1))).toNat, UInt8.ofNat (byteAt twoTab m_3).toNat, UInt8.ofNat (byteAt twoTab m_5).toNat, UInt8.ofNat (byteAt twoTab m_4).toNat, UInt8.ofNat (byteAt twoTab m).toNat])))))) False) False) False) False) False) False))) : (fun (n : Int) (K : AV → Prop) => wpCall (Dk 6) Door.cfg
 Tryd.prog 60 67 [aK .i64 n, aK .i64 10] heapF fun r h' => wpBack h' r K) n K :=
 Eq.mp (by kernel_rfl) h
theorem d67_7 (n : Int) (K : AV → Prop) (h : iteP (decide (0 ≤ n)) (iteP (decide (n < 100)) (iteP (decide (n < 10)) (iteP (decide (0 ≤ n)
 && (decide (n ≤ IntKind.i64.wrap (n + 1)) && decide (IntKind.i64.wrap (n + 1) ≤ 36))) (K (AV.sc (Value.string (ByteArray.mk (Array.mk (cutL digTab n (IntKind.i64.wrap (n + 1)))))))) False) (iteP (decide (0 ≤ IntKind.i64.wrap (n * 2)) && (decide (IntKind.i64.wrap (n * 2) ≤ IntKind.i64.wrap (IntKind.i64.wrap (n * 2) + 2)) && decide (IntKind.i64.wrap (IntKind.i64.wrap (n * 2) + 2) ≤ 200))) (K (AV.sc
 (Value.string (ByteArray.mk (Array.mk (cutL twoTab (IntKind.i64.wrap (n * 2)) (IntKind.i64.wrap (IntKind.i64.wrap (n * 2) + 2)))))))) False)) (∀ (m : Int), m = IntKind.u64.wrap n → iteP (decide (n < 0)) (∀ (m_1 : Int), m_1 = IntKind.u64.wrap (0 - m) → (1000000 ≤ m_1 ∧ m_1 < 10000000) ∧
 ∀ (_ : Unit), True → ∀ (m : Int), m = IntKind.u32.wrap m_1 → ∀ (m_2 : Int), m_2 = m.tmod 10000 → ∀ (m_3 : Int), m_3 = IntKind.u32.wrap (m.tdiv 10000) → ∀ (m : Int), m = IntKind.u32.wrap (IntKind.u32.wrap (m_2.tdiv 100) * 2) → ∀ (m_4 : Int), m_4 = IntKind.u32.wrap (m_2.tmod 100 * 2) → ∀ (m_5 :
 Int), m_5 = IntKind.u32.wrap (m_4 + 1) → iteP (inRange m_5 200) (iteP (inRange m_4 200) (∀ (m_6 : Int), m_6 = IntKind.u32.wrap (m + 1) → iteP (inRange m_6 200) (iteP (inRange m 200) (∀ (m_7 : Int), m_7 = IntKind.u32.wrap (m_3.tmod 100 * 2) → ∀ (m_8 : Int), m_8 = IntKind.u32.wrap (m_3.tdiv 100) → ∀ (m_9 : Int), m_9 = m_7 → iteP (inRange (IntKind.u32.wrap (m_9 + 1)) 200) (iteP (inRange m_7 200) (∀
 (m_10 : Int), m_10 = IntKind.u8.wrap (IntKind.u32.wrap (48 + m_8)) → iteP (decide (n < 0)) (K (AV.sc (Value.string (ByteArray.mk (Array.mk [(45 : UInt8), UInt8.ofNat m_10.toNat, UInt8.ofNat (byteAt twoTab m_7).toNat, UInt8.ofNat (byteAt twoTab (IntKind.u32.wrap (m_9 + 1))).toNat, UInt8.ofNat (byteAt twoTab m).toNat,
 UInt8.ofNat (byteAt twoTab m_6).toNat, UInt8.ofNat (byteAt twoTab m_4).toNat, UInt8.ofNat (byteAt twoTab m_5).toNat]))))) (K (AV.sc (Value.string (ByteArray.mk (Array.mk [UInt8.ofNat m_10.toNat, UInt8.ofNat (byteAt twoTab m_7).toNat, UInt8.ofNat (byteAt twoTab (IntKind.u32.wrap (m_9 + 1))).toNat, UInt8.ofNat (byteAt twoTab
 m).toNat, UInt8.ofNat (byteAt twoTab m_6).toNat, UInt8.ofNat (byteAt twoTab m_4).toNat, UInt8.ofNat (byteAt twoTab m_5).toNat])))))) False) False) False) False) False) False) ((1000000 ≤ m ∧ m < 10000000) ∧ ∀ (_ : Unit), True → ∀ (m_1 : Int), m_1 = IntKind.u32.wrap m → ∀ (m : Int), m = m_1.tmod 10000 → ∀ (m_2 :
 Int), m_2 = IntKind.u32.wrap (m_1.tdiv 10000) → ∀ (m_3 : Int), m_3 = IntKind.u32.wrap (IntKind.u32.wrap (m.tdiv 100) * 2) → ∀ (m_4 : Int), m_4 = IntKind.u32.wrap (m.tmod 100 * 2) → ∀ (m : Int), m = IntKind.u32.wrap (m_4 + 1) → iteP (inRange m 200) (iteP (inRange m_4 200) (∀
 (m_5 : Int), m_5 = IntKind.u32.wrap (m_3 + 1) → iteP (inRange m_5 200) (iteP (inRange m_3 200) (∀ (m_6 : Int), m_6 = IntKind.u32.wrap (m_2.tmod 100 * 2) → ∀ (m_7 : Int), m_7 = IntKind.u32.wrap (m_2.tdiv 100) → ∀ (m_8 : Int), m_8 = m_6 → iteP (inRange (IntKind.u32.wrap (m_8 + 1))
 200) (iteP (inRange m_6 200) (∀ (m_9 : Int), m_9 = IntKind.u8.wrap (IntKind.u32.wrap (48 + m_7)) → iteP (decide (n < 0)) (K (AV.sc (Value.string (ByteArray.mk (Array.mk [(45 : UInt8), UInt8.ofNat m_9.toNat, UInt8.ofNat (byteAt twoTab m_6).toNat, UInt8.ofNat (byteAt twoTab (IntKind.u32.wrap (m_8 + (1 :
 Int)))).toNat, UInt8.ofNat (byteAt twoTab m_3).toNat, UInt8.ofNat (byteAt twoTab m_5).toNat, UInt8.ofNat (byteAt twoTab m_4).toNat, UInt8.ofNat (byteAt twoTab m).toNat]))))) (K (AV.sc (Value.string (ByteArray.mk (Array.mk [UInt8.ofNat m_9.toNat, UInt8.ofNat (byteAt twoTab m_6).toNat, UInt8.ofNat (byteAt twoTab (IntKind.u32.wrap
 (m_8 + 1))).toNat, UInt8.ofNat (byteAt twoTab m_3).toNat, UInt8.ofNat (byteAt twoTab m_5).toNat, UInt8.ofNat (byteAt twoTab m_4).toNat, UInt8.ofNat (byteAt twoTab m).toNat])))))) False) False) False) False) False) False))) (∀ (m : Int), m = IntKind.u64.wrap n → iteP (decide (n < 0)) (∀ (m_1 : Int), m_1 = IntKind.u64.wrap ((0
 : Int) - m) → (1000000 ≤ m_1 ∧ m_1 < 10000000) ∧ ∀ (_ : Unit), True → ∀ (m : Int), m = IntKind.u32.wrap m_1 → ∀ (m_2 : Int), m_2 = m.tmod 10000 → ∀ (m_3 : Int), m_3 = IntKind.u32.wrap (m.tdiv 10000) → ∀ (m : Int), m = IntKind.u32.wrap (IntKind.u32.wrap (m_2.tdiv 100) * 2) → ∀ (m_4 : Int), m_4 =
 IntKind.u32.wrap (m_2.tmod 100 * 2) → ∀ (m_5 : Int), m_5 = IntKind.u32.wrap (m_4 + 1) → iteP (inRange m_5 200) (iteP (inRange m_4 (200 : Nat)) (∀ (m_6 : Int), m_6 = IntKind.u32.wrap (m + 1) → iteP (inRange m_6 200) (iteP (inRange m 200) (∀ (m_7 : Int), m_7 = IntKind.u32.wrap
 (m_3.tmod 100 * 2) → ∀ (m_8 : Int), m_8 = IntKind.u32.wrap (m_3.tdiv 100) → ∀ (m_9 : Int), m_9 = m_7 → iteP (inRange (IntKind.u32.wrap (m_9 + (1 : Int))) 200) (iteP (inRange m_7 200) (∀ (m_10 : Int), m_10 = IntKind.u8.wrap (IntKind.u32.wrap (48 + m_8)) → iteP (decide (n < 0)) (K (AV.sc
 (Value.string (ByteArray.mk (Array.mk [(45 : UInt8), UInt8.ofNat m_10.toNat, UInt8.ofNat (byteAt twoTab m_7).toNat, UInt8.ofNat (byteAt twoTab (IntKind.u32.wrap (m_9 + (1 : Int)))).toNat, UInt8.ofNat (byteAt twoTab m).toNat, UInt8.ofNat (byteAt twoTab m_6).toNat, UInt8.ofNat (byteAt twoTab m_4).toNat, UInt8.ofNat (byteAt twoTab
 m_5).toNat]))))) (K (AV.sc (Value.string (ByteArray.mk (Array.mk [UInt8.ofNat m_10.toNat, UInt8.ofNat (byteAt twoTab m_7).toNat, UInt8.ofNat (byteAt twoTab (IntKind.u32.wrap (m_9 + 1))).toNat, UInt8.ofNat (byteAt twoTab m).toNat, UInt8.ofNat (byteAt twoTab m_6).toNat, UInt8.ofNat (byteAt twoTab m_4).toNat, UInt8.ofNat
 (byteAt twoTab m_5).toNat])))))) False) False) False) False) False) False) ((1000000 ≤ m ∧ m < 10000000) ∧ ∀ (_ : Unit), True → ∀ (m_1 : Int), m_1 = IntKind.u32.wrap m → ∀ (m : Int), m = m_1.tmod 10000 → ∀ (m_2 : Int), m_2 = IntKind.u32.wrap (m_1.tdiv 10000) → ∀ (m_3 : Int), m_3 = IntKind.u32.wrap
 (IntKind.u32.wrap (m.tdiv 100) * 2) → ∀ (m_4 : Int), m_4 = IntKind.u32.wrap (m.tmod 100 * 2) → ∀ (m : Int), m = IntKind.u32.wrap (m_4 + (1 : Int)) → iteP (inRange m 200) (iteP (inRange m_4 200) (∀ (m_5 : Int), m_5 = IntKind.u32.wrap (m_3 + 1) → iteP (inRange m_5 200) (iteP
 (inRange m_3 200) (∀ (m_6 : Int), m_6 = IntKind.u32.wrap (m_2.tmod 100 * 2) → ∀ (m_7 : Int), m_7 = IntKind.u32.wrap (m_2.tdiv 100) → ∀ (m_8 : Int), m_8 = m_6 → iteP (inRange (IntKind.u32.wrap (m_8 + 1)) 200) (iteP (inRange m_6 200) (∀ (m_9 : Int), m_9 = IntKind.u8.wrap (IntKind.u32.wrap
 (48 + m_7)) → iteP (decide (n < 0)) (K (AV.sc (Value.string (ByteArray.mk (Array.mk [(45 : UInt8), UInt8.ofNat m_9.toNat, UInt8.ofNat (byteAt twoTab m_6).toNat, UInt8.ofNat (byteAt twoTab (IntKind.u32.wrap (m_8 + 1))).toNat, UInt8.ofNat (byteAt twoTab m_3).toNat, UInt8.ofNat (byteAt twoTab m_5).toNat,
 UInt8.ofNat (byteAt twoTab m_4).toNat, UInt8.ofNat (byteAt twoTab m).toNat]))))) (K (AV.sc (Value.string (ByteArray.mk (Array.mk [UInt8.ofNat m_9.toNat, UInt8.ofNat (byteAt twoTab m_6).toNat, UInt8.ofNat (byteAt twoTab (IntKind.u32.wrap (m_8 + 1))).toNat, UInt8.ofNat (byteAt twoTab m_3).toNat, UInt8.ofNat (byteAt twoTab
 m_5).toNat, UInt8.ofNat (byteAt twoTab m_4).toNat, UInt8.ofNat (byteAt twoTab m).toNat])))))) False) False) False) False) False) False))) : (fun (n : Int) (K : AV → Prop) => wpCall (Dk 7) Door.cfg Tryd.prog 60 67 [aK .i64 n, aK .i64 10] heapF fun r h' => wpBack h' r K) n K :=
 Eq.mp (by kernel_rfl) h
theorem d67_8 (n : Int) (K : AV → Prop) (h : iteP (decide (0 ≤ n)) (iteP (decide (n < 100)) (iteP (decide (n < 10)) (iteP (decide (0 ≤ n)
 && (decide (n ≤ IntKind.i64.wrap (n + 1)) && decide (IntKind.i64.wrap (n + 1) ≤ 36))) (K (AV.sc (Value.string (ByteArray.mk (Array.mk (cutL digTab n (IntKind.i64.wrap (n + 1)))))))) False) (iteP (decide (0 ≤ IntKind.i64.wrap (n * 2)) && (decide (IntKind.i64.wrap (n * 2) ≤ IntKind.i64.wrap (IntKind.i64.wrap (n * 2) + 2)) && decide (IntKind.i64.wrap (IntKind.i64.wrap (n * 2) + 2) ≤ 200))) (K (AV.sc
 (Value.string (ByteArray.mk (Array.mk (cutL twoTab (IntKind.i64.wrap (n * 2)) (IntKind.i64.wrap (IntKind.i64.wrap (n * 2) + 2)))))))) False)) (∀ (m : Int), m = IntKind.u64.wrap n → iteP (decide (n < 0)) (∀ (m_1 : Int), m_1 = IntKind.u64.wrap (0 - m) → (10000000 ≤ m_1 ∧ m_1 < 100000000)
 ∧ ∀ (_ : Unit), True → ∀ (m : Int), m = IntKind.u32.wrap (m_1.tmod 100000000) → ∀ (m_2 : Int), m_2 = IntKind.u64.wrap (m_1.tdiv 100000000) → ∀ (m_3 : Int), m_3 = IntKind.u32.wrap (m.tdiv 10000) → ∀ (m_4 : Int), m_4 = m.tmod 10000 → ∀ (m : Int), m = IntKind.u32.wrap (IntKind.u32.wrap (m_4.tdiv 100) * (2
 : Int)) → ∀ (m_5 : Int), m_5 = IntKind.u32.wrap (m_4.tmod 100 * 2) → ∀ (m_6 : Int), m_6 = IntKind.u32.wrap (IntKind.u32.wrap (m_3.tdiv 100) * (2 : Int)) → ∀ (m_7 : Int), m_7 = IntKind.u32.wrap (m_3.tmod 100 * 2) → ∀ (m_8 : Int), m_8 = IntKind.u32.wrap (m_5 + 1) → iteP (inRange m_8 200)
 (iteP (inRange m_5 200) (∀ (m_9 : Int), m_9 = IntKind.u32.wrap (m + 1) → iteP (inRange m_9 200) (iteP (inRange m 200) (∀ (m_10 : Int), m_10 = IntKind.u32.wrap (m_7 + 1) → iteP (inRange m_10 200) (iteP (inRange m_7 200) (∀ (m_11 : Int), m_11 = IntKind.u32.wrap (m_6 + 1) → iteP
 (inRange m_11 200) (iteP (inRange m_6 200) (∀ (m_12 : Int), m_12 = IntKind.u32.wrap m_2 → iteP (decide (n < 0)) (K (AV.sc (Value.string (ByteArray.mk (Array.mk [(45 : UInt8), UInt8.ofNat (byteAt twoTab m_6).toNat, UInt8.ofNat (byteAt twoTab m_11).toNat, UInt8.ofNat (byteAt twoTab m_7).toNat, UInt8.ofNat
 (byteAt twoTab m_10).toNat, UInt8.ofNat (byteAt twoTab m).toNat, UInt8.ofNat (byteAt twoTab m_9).toNat, UInt8.ofNat (byteAt twoTab m_5).toNat, UInt8.ofNat (byteAt twoTab m_8).toNat]))))) (K (AV.sc (Value.string (ByteArray.mk (Array.mk [UInt8.ofNat (byteAt twoTab m_6).toNat, UInt8.ofNat (byteAt twoTab m_11).toNat, UInt8.ofNat (byteAt twoTab
 m_7).toNat, UInt8.ofNat (byteAt twoTab m_10).toNat, UInt8.ofNat (byteAt twoTab m).toNat, UInt8.ofNat (byteAt twoTab m_9).toNat, UInt8.ofNat (byteAt twoTab m_5).toNat, UInt8.ofNat (byteAt twoTab m_8).toNat])))))) False) False) False) False) False) False) False) False) ((10000000 ≤ m ∧ m < 100000000) ∧ ∀ (_ : Unit), True →
 ∀ (m_1 : Int), m_1 = IntKind.u32.wrap (m.tmod 100000000) → ∀ (m_2 : Int), m_2 = IntKind.u64.wrap (m.tdiv 100000000) → ∀ (m : Int), m = IntKind.u32.wrap (m_1.tdiv 10000) → ∀ (m_3 : Int), m_3 = m_1.tmod 10000 → ∀ (m_4 : Int), m_4 = IntKind.u32.wrap (IntKind.u32.wrap (m_3.tdiv 100) * 2) → ∀
 (m_5 : Int), m_5 = IntKind.u32.wrap (m_3.tmod 100 * 2) → ∀ (m_6 : Int), m_6 = IntKind.u32.wrap (IntKind.u32.wrap (m.tdiv 100) * 2) → ∀ (m_7 : Int), m_7 = IntKind.u32.wrap (m.tmod 100 * 2) → ∀ (m : Int), m = IntKind.u32.wrap (m_5 + 1) → iteP (inRange m 200) (iteP (inRange m_5 200) (∀ (m_8 : Int), m_8 = IntKind.u32.wrap (m_4 + 1) → iteP (inRange m_8 200) (iteP (inRange m_4 200) (∀ (m_9 : Int), m_9 =
 IntKind.u32.wrap (m_7 + 1) → iteP (inRange m_9 200) (iteP (inRange m_7 200) (∀ (m_10 : Int), m_10 = IntKind.u32.wrap (m_6 + 1) → iteP (inRange m_10 200) (iteP (inRange m_6 200) (∀ (m_11 : Int), m_11 = IntKind.u32.wrap m_2 → iteP (decide (n < 0)) (K (AV.sc (Value.string
 (ByteArray.mk (Array.mk [(45 : UInt8), UInt8.ofNat (byteAt twoTab m_6).toNat, UInt8.ofNat (byteAt twoTab m_10).toNat, UInt8.ofNat (byteAt twoTab m_7).toNat, UInt8.ofNat (byteAt twoTab m_9).toNat, UInt8.ofNat (byteAt twoTab m_4).toNat, UInt8.ofNat (byteAt twoTab m_8).toNat, UInt8.ofNat (byteAt twoTab m_5).toNat, UInt8.ofNat (byteAt twoTab
 m).toNat]))))) (K (AV.sc (Value.string (ByteArray.mk (Array.mk [UInt8.ofNat (byteAt twoTab m_6).toNat, UInt8.ofNat (byteAt twoTab m_10).toNat, UInt8.ofNat (byteAt twoTab m_7).toNat, UInt8.ofNat (byteAt twoTab m_9).toNat, UInt8.ofNat (byteAt twoTab m_4).toNat, UInt8.ofNat (byteAt twoTab m_8).toNat, UInt8.ofNat (byteAt twoTab m_5).toNat,
 UInt8.ofNat (byteAt twoTab m).toNat])))))) False) False) False) False) False) False) False) False))) (∀ (m : Int), m = IntKind.u64.wrap n → iteP (decide (n < 0)) (∀ (m_1 : Int), m_1 = IntKind.u64.wrap (0 - m) → (10000000 ≤ m_1 ∧ m_1 < 100000000) ∧ ∀ (_ : Unit), True → ∀ (m : Int), m = IntKind.u32.wrap
 (m_1.tmod 100000000) → ∀ (m_2 : Int), m_2 = IntKind.u64.wrap (m_1.tdiv 100000000) → ∀ (m_3 : Int), m_3 = IntKind.u32.wrap (m.tdiv 10000) → ∀ (m_4 : Int), m_4 = m.tmod 10000 → ∀ (m : Int), m = IntKind.u32.wrap (IntKind.u32.wrap (m_4.tdiv 100) * 2) → ∀ (m_5 : Int), m_5 = IntKind.u32.wrap
 (m_4.tmod 100 * 2) → ∀ (m_6 : Int), m_6 = IntKind.u32.wrap (IntKind.u32.wrap (m_3.tdiv 100) * 2) → ∀ (m_7 : Int), m_7 = IntKind.u32.wrap (m_3.tmod 100 * 2) → ∀ (m_8 : Int), m_8 = IntKind.u32.wrap (m_5 + 1) → iteP (inRange m_8 200) (iteP (inRange m_5 200) (∀ (m_9 : Int), m_9 = IntKind.u32.wrap (m + 1) → iteP (inRange m_9 200) (iteP (inRange m 200) (∀ (m_10 : Int), m_10 = IntKind.u32.wrap (m_7 + 1) →
 iteP (inRange m_10 200) (iteP (inRange m_7 200) (∀ (m_11 : Int), m_11 = IntKind.u32.wrap (m_6 + 1) → iteP (inRange m_11 200) (iteP (inRange m_6 200) (∀ (m_12 : Int), m_12 = IntKind.u32.wrap m_2 → iteP (decide (n < 0)) (K (AV.sc (Value.string (ByteArray.mk (Array.mk [(45 : UInt8), UInt8.ofNat
 (byteAt twoTab m_6).toNat, UInt8.ofNat (byteAt twoTab m_11).toNat, UInt8.ofNat (byteAt twoTab m_7).toNat, UInt8.ofNat (byteAt twoTab m_10).toNat, UInt8.ofNat (byteAt twoTab m).toNat, UInt8.ofNat (byteAt twoTab m_9).toNat, UInt8.ofNat (byteAt twoTab m_5).toNat, UInt8.ofNat (byteAt twoTab m_8).toNat]))))) (K (AV.sc (Value.string
 (ByteArray.mk (Array.mk [UInt8.ofNat (byteAt twoTab m_6).toNat, UInt8.ofNat (byteAt twoTab m_11).toNat, UInt8.ofNat (byteAt twoTab m_7).toNat, UInt8.ofNat (byteAt twoTab m_10).toNat, UInt8.ofNat (byteAt twoTab m).toNat, UInt8.ofNat (byteAt twoTab m_9).toNat, UInt8.ofNat (byteAt twoTab m_5).toNat, UInt8.ofNat (byteAt twoTab
 m_8).toNat])))))) False) False) False) False) False) False) False) False) ((10000000 ≤ m ∧ m < 100000000) ∧ ∀ (_ : Unit), True → ∀ (m_1 : Int), m_1 = IntKind.u32.wrap (m.tmod 100000000) → ∀ (m_2 : Int), m_2 = IntKind.u64.wrap (m.tdiv 100000000) → ∀ (m : Int), m = IntKind.u32.wrap (m_1.tdiv 10000)
 → ∀ (m_3 : Int), m_3 = m_1.tmod 10000 → ∀ (m_4 : Int), m_4 = IntKind.u32.wrap (IntKind.u32.wrap (m_3.tdiv 100) * 2) → ∀ (m_5 : Int), m_5 = IntKind.u32.wrap (m_3.tmod 100 * 2) → ∀ (m_6 : Int), m_6 = IntKind.u32.wrap (IntKind.u32.wrap (m.tdiv 100) * 2) → ∀ (m_7 : Int), m_7 =
 IntKind.u32.wrap (m.tmod 100 * 2) → ∀ (m : Int), m = IntKind.u32.wrap (m_5 + 1) → iteP (inRange m 200) (iteP (inRange m_5 200) (∀ (m_8 : Int), m_8 = IntKind.u32.wrap (m_4 + 1) → iteP (inRange m_8 200) (iteP (inRange m_4 200) (∀ (m_9 : Int), m_9 = IntKind.u32.wrap (m_7 + (1 :
 Int)) → iteP (inRange m_9 200) (iteP (inRange m_7 200) (∀ (m_10 : Int), m_10 = IntKind.u32.wrap (m_6 + 1) → iteP (inRange m_10 200) (iteP (inRange m_6 200) (∀ (m_11 : Int), m_11 = IntKind.u32.wrap m_2 → iteP (decide (n < 0)) (K (AV.sc (Value.string (ByteArray.mk (Array.mk [(45 : UInt8),
 UInt8.ofNat (byteAt twoTab m_6).toNat, UInt8.ofNat (byteAt twoTab m_10).toNat, UInt8.ofNat (byteAt twoTab m_7).toNat, UInt8.ofNat (byteAt twoTab m_9).toNat, UInt8.ofNat (byteAt twoTab m_4).toNat, UInt8.ofNat (byteAt twoTab m_8).toNat, UInt8.ofNat (byteAt twoTab m_5).toNat, UInt8.ofNat (byteAt twoTab m).toNat]))))) (K (AV.sc (Value.string
 (ByteArray.mk (Array.mk [UInt8.ofNat (byteAt twoTab m_6).toNat, UInt8.ofNat (byteAt twoTab m_10).toNat, UInt8.ofNat (byteAt twoTab m_7).toNat, UInt8.ofNat (byteAt twoTab m_9).toNat, UInt8.ofNat (byteAt twoTab m_4).toNat, UInt8.ofNat (byteAt twoTab m_8).toNat, UInt8.ofNat (byteAt twoTab m_5).toNat, UInt8.ofNat (byteAt twoTab m).toNat]))))))
 False) False) False) False) False) False) False) False))) : (fun (n : Int) (K : AV → Prop) => wpCall (Dk 8) Door.cfg Tryd.prog 60 67 [aK .i64 n, aK .i64 10] heapF fun r h' => wpBack h' r K) n K :=
 Eq.mp (by kernel_rfl) h
theorem d67_9 (n : Int) (K : AV → Prop) (h : iteP (decide (0 ≤ n)) (iteP (decide (n < 100)) (iteP (decide (n < 10)) (iteP (decide (0 ≤ n)
 && (decide (n ≤ IntKind.i64.wrap (n + 1)) && decide (IntKind.i64.wrap (n + 1) ≤ 36))) (K (AV.sc (Value.string (ByteArray.mk (Array.mk (cutL digTab n (IntKind.i64.wrap (n + 1)))))))) False) (iteP (decide (0 ≤ IntKind.i64.wrap (n * 2)) && (decide (IntKind.i64.wrap (n * 2) ≤ IntKind.i64.wrap (IntKind.i64.wrap (n * 2) + 2)) && decide (IntKind.i64.wrap (IntKind.i64.wrap (n * 2) + 2) ≤ 200))) (K (AV.sc
 (Value.string (ByteArray.mk (Array.mk (cutL twoTab (IntKind.i64.wrap (n * 2)) (IntKind.i64.wrap (IntKind.i64.wrap (n * 2) + 2)))))))) False)) (∀ (m : Int), m = IntKind.u64.wrap n → iteP (decide (n < 0)) (∀ (m_1 : Int), m_1 = IntKind.u64.wrap (0 - m) → (100000000 ≤ m_1 ∧ m_1 < (1000000000 :
 Int)) ∧ ∀ (_ : Unit), True → ∀ (m : Int), m = IntKind.u32.wrap (m_1.tmod 100000000) → ∀ (m_2 : Int), m_2 = IntKind.u64.wrap (m_1.tdiv 100000000) → ∀ (m_3 : Int), m_3 = IntKind.u32.wrap (m.tdiv 10000) → ∀ (m_4 : Int), m_4 = m.tmod 10000 → ∀ (m : Int), m = IntKind.u32.wrap (IntKind.u32.wrap (m_4.tdiv (100 :
 Int)) * 2) → ∀ (m_5 : Int), m_5 = IntKind.u32.wrap (m_4.tmod 100 * 2) → ∀ (m_6 : Int), m_6 = IntKind.u32.wrap (IntKind.u32.wrap (m_3.tdiv (100 : Int)) * 2) → ∀ (m_7 : Int), m_7 = IntKind.u32.wrap (m_3.tmod 100 * 2) → ∀ (m_8 : Int), m_8 = IntKind.u32.wrap (m_5 + 1) → iteP (inRange m_8
 200) (iteP (inRange m_5 200) (∀ (m_9 : Int), m_9 = IntKind.u32.wrap (m + 1) → iteP (inRange m_9 200) (iteP (inRange m 200) (∀ (m_10 : Int), m_10 = IntKind.u32.wrap (m_7 + 1) → iteP (inRange m_10 200) (iteP (inRange m_7 200) (∀ (m_11 : Int), m_11 = IntKind.u32.wrap (m_6 + (1 :
 Int)) → iteP (inRange m_11 200) (iteP (inRange m_6 200) (∀ (m_12 : Int), m_12 = IntKind.u32.wrap m_2 → ∀ (m_13 : Int), m_13 = IntKind.u8.wrap (IntKind.u32.wrap (48 + m_12)) → iteP (decide (n < 0)) (K (AV.sc (Value.string (ByteArray.mk (Array.mk [(45 : UInt8), UInt8.ofNat m_13.toNat, UInt8.ofNat
 (byteAt twoTab m_6).toNat, UInt8.ofNat (byteAt twoTab m_11).toNat, UInt8.ofNat (byteAt twoTab m_7).toNat, UInt8.ofNat (byteAt twoTab m_10).toNat, UInt8.ofNat (byteAt twoTab m).toNat, UInt8.ofNat (byteAt twoTab m_9).toNat, UInt8.ofNat (byteAt twoTab m_5).toNat, UInt8.ofNat (byteAt twoTab m_8).toNat]))))) (K (AV.sc (Value.string
 (ByteArray.mk (Array.mk [UInt8.ofNat m_13.toNat, UInt8.ofNat (byteAt twoTab m_6).toNat, UInt8.ofNat (byteAt twoTab m_11).toNat, UInt8.ofNat (byteAt twoTab m_7).toNat, UInt8.ofNat (byteAt twoTab m_10).toNat, UInt8.ofNat (byteAt twoTab m).toNat, UInt8.ofNat (byteAt twoTab m_9).toNat, UInt8.ofNat (byteAt twoTab m_5).toNat, UInt8.ofNat
 (byteAt twoTab m_8).toNat])))))) False) False) False) False) False) False) False) False) ((100000000 ≤ m ∧ m < 1000000000) ∧ ∀ (_ : Unit), True → ∀ (m_1 : Int), m_1 = IntKind.u32.wrap (m.tmod 100000000) → ∀ (m_2 : Int), m_2 = IntKind.u64.wrap (m.tdiv 100000000) → ∀ (m : Int), m = IntKind.u32.wrap (m_1.tdiv
 10000) → ∀ (m_3 : Int), m_3 = m_1.tmod 10000 → ∀ (m_4 : Int), m_4 = IntKind.u32.wrap (IntKind.u32.wrap (m_3.tdiv 100) * 2) → ∀ (m_5 : Int), m_5 = IntKind.u32.wrap (m_3.tmod 100 * 2) → ∀ (m_6 : Int), m_6 = IntKind.u32.wrap (IntKind.u32.wrap (m.tdiv 100) * 2) → ∀ (m_7 : Int), m_7
 = IntKind.u32.wrap (m.tmod 100 * 2) → ∀ (m : Int), m = IntKind.u32.wrap (m_5 + 1) → iteP (inRange m 200) (iteP (inRange m_5 200) (∀ (m_8 : Int), m_8 = IntKind.u32.wrap (m_4 + 1) → iteP (inRange m_8 200) (iteP (inRange m_4 200) (∀ (m_9 : Int), m_9 = IntKind.u32.wrap (m_7 + (1 :
 Int)) → iteP (inRange m_9 200) (iteP (inRange m_7 200) (∀ (m_10 : Int), m_10 = IntKind.u32.wrap (m_6 + 1) → iteP (inRange m_10 200) (iteP (inRange m_6 200) (∀ (m_11 : Int), m_11 = IntKind.u32.wrap m_2 → ∀ (m_12 : Int), m_12 = IntKind.u8.wrap (IntKind.u32.wrap (48 + m_11)) → iteP (decide (n <
 0)) (K (AV.sc (Value.string (ByteArray.mk (Array.mk [(45 : UInt8), UInt8.ofNat m_12.toNat, UInt8.ofNat (byteAt twoTab m_6).toNat, UInt8.ofNat (byteAt twoTab m_10).toNat, UInt8.ofNat (byteAt twoTab m_7).toNat, UInt8.ofNat (byteAt twoTab m_9).toNat, UInt8.ofNat (byteAt twoTab m_4).toNat, UInt8.ofNat (byteAt twoTab m_8).toNat,
 UInt8.ofNat (byteAt twoTab m_5).toNat, UInt8.ofNat (byteAt twoTab m).toNat]))))) (K (AV.sc (Value.string (ByteArray.mk (Array.mk [UInt8.ofNat m_12.toNat, UInt8.ofNat (byteAt twoTab m_6).toNat, UInt8.ofNat (byteAt twoTab m_10).toNat, UInt8.ofNat (byteAt twoTab m_7).toNat, UInt8.ofNat (byteAt twoTab m_9).toNat, UInt8.ofNat (byteAt twoTab
 m_4).toNat, UInt8.ofNat (byteAt twoTab m_8).toNat, UInt8.ofNat (byteAt twoTab m_5).toNat, UInt8.ofNat (byteAt twoTab m).toNat])))))) False) False) False) False) False) False) False) False))) (∀ (m : Int), m = IntKind.u64.wrap n → iteP (decide (n < 0)) (∀ (m_1 : Int), m_1 = IntKind.u64.wrap (0 - m) → (100000000 ≤
 m_1 ∧ m_1 < 1000000000) ∧ ∀ (_ : Unit), True → ∀ (m : Int), m = IntKind.u32.wrap (m_1.tmod 100000000) → ∀ (m_2 : Int), m_2 = IntKind.u64.wrap (m_1.tdiv 100000000) → ∀ (m_3 : Int), m_3 = IntKind.u32.wrap (m.tdiv 10000) → ∀ (m_4 : Int), m_4 = m.tmod 10000 → ∀ (m : Int), m = IntKind.u32.wrap
 (IntKind.u32.wrap (m_4.tdiv 100) * 2) → ∀ (m_5 : Int), m_5 = IntKind.u32.wrap (m_4.tmod 100 * 2) → ∀ (m_6 : Int), m_6 = IntKind.u32.wrap (IntKind.u32.wrap (m_3.tdiv 100) * 2) → ∀ (m_7 : Int), m_7 = IntKind.u32.wrap (m_3.tmod 100 * 2) → ∀ (m_8 : Int), m_8 = IntKind.u32.wrap
 (m_5 + 1) → iteP (inRange m_8 200) (iteP (inRange m_5 200) (∀ (m_9 : Int), m_9 = IntKind.u32.wrap (m + 1) → iteP (inRange m_9 200) (iteP (inRange m 200) (∀ (m_10 : Int), m_10 = IntKind.u32.wrap (m_7 + 1) → iteP (inRange m_10 200) (iteP (inRange m_7 200) (∀ (m_11 : Int),
 m_11 = IntKind.u32.wrap (m_6 + 1) → iteP (inRange m_11 200) (iteP (inRange m_6 200) (∀ (m_12 : Int), m_12 = IntKind.u32.wrap m_2 → ∀ (m_13 : Int), m_13 = IntKind.u8.wrap (IntKind.u32.wrap (48 + m_12)) → iteP (decide (n < 0)) (K (AV.sc (Value.string (ByteArray.mk (Array.mk [(45 : UInt8), UInt8.ofNat
 m_13.toNat, UInt8.ofNat (byteAt twoTab m_6).toNat, UInt8.ofNat (byteAt twoTab m_11).toNat, UInt8.ofNat (byteAt twoTab m_7).toNat, UInt8.ofNat (byteAt twoTab m_10).toNat, UInt8.ofNat (byteAt twoTab m).toNat, UInt8.ofNat (byteAt twoTab m_9).toNat, UInt8.ofNat (byteAt twoTab m_5).toNat, UInt8.ofNat (byteAt twoTab m_8).toNat]))))) (K (AV.sc
 (Value.string (ByteArray.mk (Array.mk [UInt8.ofNat m_13.toNat, UInt8.ofNat (byteAt twoTab m_6).toNat, UInt8.ofNat (byteAt twoTab m_11).toNat, UInt8.ofNat (byteAt twoTab m_7).toNat, UInt8.ofNat (byteAt twoTab m_10).toNat, UInt8.ofNat (byteAt twoTab m).toNat, UInt8.ofNat (byteAt twoTab m_9).toNat, UInt8.ofNat (byteAt twoTab m_5).toNat,
 UInt8.ofNat (byteAt twoTab m_8).toNat])))))) False) False) False) False) False) False) False) False) ((100000000 ≤ m ∧ m < 1000000000) ∧ ∀ (_ : Unit), True → ∀ (m_1 : Int), m_1 = IntKind.u32.wrap (m.tmod 100000000) → ∀ (m_2 : Int), m_2 = IntKind.u64.wrap (m.tdiv 100000000) → ∀ (m : Int), m = IntKind.u32.wrap
 (m_1.tdiv 10000) → ∀ (m_3 : Int), m_3 = m_1.tmod 10000 → ∀ (m_4 : Int), m_4 = IntKind.u32.wrap (IntKind.u32.wrap (m_3.tdiv 100) * 2) → ∀ (m_5 : Int), m_5 = IntKind.u32.wrap (m_3.tmod 100 * 2) → ∀ (m_6 : Int), m_6 = IntKind.u32.wrap (IntKind.u32.wrap (m.tdiv 100) * 2) → ∀ (m_7
 : Int), m_7 = IntKind.u32.wrap (m.tmod 100 * 2) → ∀ (m : Int), m = IntKind.u32.wrap (m_5 + 1) → iteP (inRange m 200) (iteP (inRange m_5 200) (∀ (m_8 : Int), m_8 = IntKind.u32.wrap (m_4 + 1) → iteP (inRange m_8 200) (iteP (inRange m_4 200) (∀ (m_9 : Int), m_9 = IntKind.u32.wrap (m_7 + 1) → iteP (inRange m_9 200) (iteP (inRange m_7 200) (∀ (m_10 : Int), m_10 = IntKind.u32.wrap (m_6 + 1) → iteP
 (inRange m_10 200) (iteP (inRange m_6 200) (∀ (m_11 : Int), m_11 = IntKind.u32.wrap m_2 → ∀ (m_12 : Int), m_12 = IntKind.u8.wrap (IntKind.u32.wrap ((48 : Int) + m_11)) → iteP (decide (n < 0)) (K (AV.sc (Value.string (ByteArray.mk (Array.mk [(45 : UInt8), UInt8.ofNat m_12.toNat, UInt8.ofNat (byteAt twoTab m_6).toNat,
 UInt8.ofNat (byteAt twoTab m_10).toNat, UInt8.ofNat (byteAt twoTab m_7).toNat, UInt8.ofNat (byteAt twoTab m_9).toNat, UInt8.ofNat (byteAt twoTab m_4).toNat, UInt8.ofNat (byteAt twoTab m_8).toNat, UInt8.ofNat (byteAt twoTab m_5).toNat, UInt8.ofNat (byteAt twoTab m).toNat]))))) (K (AV.sc (Value.string (ByteArray.mk (Array.mk [UInt8.ofNat
 m_12.toNat, UInt8.ofNat (byteAt twoTab m_6).toNat, UInt8.ofNat (byteAt twoTab m_10).toNat, UInt8.ofNat (byteAt twoTab m_7).toNat, UInt8.ofNat (byteAt twoTab m_9).toNat, UInt8.ofNat (byteAt twoTab m_4).toNat, UInt8.ofNat (byteAt twoTab m_8).toNat, UInt8.ofNat (byteAt twoTab m_5).toNat, UInt8.ofNat (byteAt twoTab m).toNat])))))) False)
 False) False) False) False) False) False) False))) : (fun (n : Int) (K : AV → Prop) => wpCall (Dk 9) Door.cfg Tryd.prog 60 67 [aK .i64 n, aK .i64 10] heapF fun r h' => wpBack h' r K) n K :=
 Eq.mp (by kernel_rfl) h
theorem d67_10 (n : Int) (K : AV → Prop) (h : iteP (decide (0 ≤ n)) (iteP (decide (n < 100)) (iteP (decide (n < 10)) (iteP (decide (0 ≤ n)
 && (decide (n ≤ IntKind.i64.wrap (n + 1)) && decide (IntKind.i64.wrap (n + 1) ≤ 36))) (K (AV.sc (Value.string (ByteArray.mk (Array.mk (cutL digTab n (IntKind.i64.wrap (n + 1)))))))) False) (iteP (decide (0 ≤ IntKind.i64.wrap (n * 2)) && (decide (IntKind.i64.wrap (n * 2) ≤ IntKind.i64.wrap (IntKind.i64.wrap (n * 2) + 2)) && decide (IntKind.i64.wrap (IntKind.i64.wrap (n * 2) + 2) ≤ 200))) (K (AV.sc
 (Value.string (ByteArray.mk (Array.mk (cutL twoTab (IntKind.i64.wrap (n * 2)) (IntKind.i64.wrap (IntKind.i64.wrap (n * 2) + 2)))))))) False)) (∀ (m : Int), m = IntKind.u64.wrap n → iteP (decide (n < 0)) (∀ (m_1 : Int), m_1 = IntKind.u64.wrap (0 - m) → (1000000000 ≤ m_1 ∧ m_1 < (10000000000 :
 Int)) ∧ ∀ (_ : Unit), True → ∀ (m : Int), m = IntKind.u32.wrap (m_1.tmod 100000000) → ∀ (m_2 : Int), m_2 = IntKind.u64.wrap (m_1.tdiv 100000000) → ∀ (m_3 : Int), m_3 = IntKind.u32.wrap (m.tdiv 10000) → ∀ (m_4 : Int), m_4 = m.tmod 10000 → ∀ (m : Int), m = IntKind.u32.wrap (IntKind.u32.wrap (m_4.tdiv (100 :
 Int)) * 2) → ∀ (m_5 : Int), m_5 = IntKind.u32.wrap (m_4.tmod 100 * 2) → ∀ (m_6 : Int), m_6 = IntKind.u32.wrap (IntKind.u32.wrap (m_3.tdiv (100 : Int)) * 2) → ∀ (m_7 : Int), m_7 = IntKind.u32.wrap (m_3.tmod 100 * 2) → ∀ (m_8 : Int), m_8 = IntKind.u32.wrap (m_5 + 1) → iteP (inRange m_8
 200) (iteP (inRange m_5 200) (∀ (m_9 : Int), m_9 = IntKind.u32.wrap (m + 1) → iteP (inRange m_9 200) (iteP (inRange m 200) (∀ (m_10 : Int), m_10 = IntKind.u32.wrap (m_7 + 1) → iteP (inRange m_10 200) (iteP (inRange m_7 200) (∀ (m_11 : Int), m_11 = IntKind.u32.wrap (m_6 + (1 :
 Int)) → iteP (inRange m_11 200) (iteP (inRange m_6 200) (∀ (m_12 : Int), m_12 = IntKind.u32.wrap m_2 → ∀ (m_13 : Int), m_13 = IntKind.u32.wrap (m_12.tmod 100 * 2) → ∀ (m_14 : Int), m_14 = IntKind.u32.wrap (m_12.tdiv 100) → ∀ (m_15 : Int), m_15 = m_13 → iteP (inRange (IntKind.u32.wrap (m_15 + (1 :
 Int))) 200) (iteP (inRange m_13 200) (iteP (decide (n < 0)) (K (AV.sc (Value.string (ByteArray.mk (Array.mk [(45 : UInt8), UInt8.ofNat (byteAt twoTab m_13).toNat, UInt8.ofNat (byteAt twoTab (IntKind.u32.wrap (m_15 + 1))).toNat, UInt8.ofNat (byteAt twoTab m_6).toNat, UInt8.ofNat (byteAt twoTab m_11).toNat,
 UInt8.ofNat (byteAt twoTab m_7).toNat, UInt8.ofNat (byteAt twoTab m_10).toNat, UInt8.ofNat (byteAt twoTab m).toNat, UInt8.ofNat (byteAt twoTab m_9).toNat, UInt8.ofNat (byteAt twoTab m_5).toNat, UInt8.ofNat (byteAt twoTab m_8).toNat]))))) (K (AV.sc (Value.string (ByteArray.mk (Array.mk [UInt8.ofNat (byteAt twoTab m_13).toNat, UInt8.ofNat
 (byteAt twoTab (IntKind.u32.wrap (m_15 + 1))).toNat, UInt8.ofNat (byteAt twoTab m_6).toNat, UInt8.ofNat (byteAt twoTab m_11).toNat, UInt8.ofNat (byteAt twoTab m_7).toNat, UInt8.ofNat (byteAt twoTab m_10).toNat, UInt8.ofNat (byteAt twoTab m).toNat, UInt8.ofNat (byteAt twoTab m_9).toNat, UInt8.ofNat (byteAt twoTab m_5).toNat,
 UInt8.ofNat (byteAt twoTab m_8).toNat])))))) False) False) False) False) False) False) False) False) False) False) ((1000000000 ≤ m ∧ m < 10000000000) ∧ ∀ (_ : Unit), True → ∀ (m_1 : Int), m_1 = IntKind.u32.wrap (m.tmod 100000000) → ∀ (m_2 : Int), m_2 = IntKind.u64.wrap (m.tdiv 100000000) → ∀ (m : Int), m =
 IntKind.u32.wrap (m_1.tdiv 10000) → ∀ (m_3 : Int), m_3 = m_1.tmod 10000 → ∀ (m_4 : Int), m_4 = IntKind.u32.wrap (IntKind.u32.wrap (m_3.tdiv 100) * 2) → ∀ (m_5 : Int), m_5 = IntKind.u32.wrap (m_3.tmod 100 * 2) → ∀ (m_6 : Int), m_6 = IntKind.u32.wrap (IntKind.u32.wrap (m.tdiv 100) * (2 :
 Int)) → ∀ (m_7 : Int), m_7 = IntKind.u32.wrap (m.tmod 100 * 2) → ∀ (m : Int), m = IntKind.u32.wrap (m_5 + 1) → iteP (inRange m 200) (iteP (inRange m_5 200) (∀ (m_8 : Int), m_8 = IntKind.u32.wrap (m_4 + 1) → iteP (inRange m_8 200) (iteP (inRange m_4 200) (∀ (m_9 : Int), m_9 =
 IntKind.u32.wrap (m_7 + 1) → iteP (inRange m_9 200) (iteP (inRange m_7 200) (∀ (m_10 : Int), m_10 = IntKind.u32.wrap (m_6 + 1) → iteP (inRange m_10 200) (iteP (inRange m_6 200) (∀ (m_11 : Int), m_11 = IntKind.u32.wrap m_2 → ∀ (m_12 : Int), m_12 = IntKind.u32.wrap (m_11.tmod 100 *
 2) → ∀ (m_13 : Int), m_13 = IntKind.u32.wrap (m_11.tdiv 100) → ∀ (m_14 : Int), m_14 = m_12 → iteP (inRange (IntKind.u32.wrap (m_14 + 1)) (200 : Nat)) (iteP (inRange m_12 200) (iteP (decide (n < 0)) (K (AV.sc (Value.string (ByteArray.mk (Array.mk [(45 : UInt8), UInt8.ofNat (byteAt twoTab
 m_12).toNat, UInt8.ofNat (byteAt twoTab (IntKind.u32.wrap (m_14 + 1))).toNat, UInt8.ofNat (byteAt twoTab m_6).toNat, UInt8.ofNat (byteAt twoTab m_10).toNat, UInt8.ofNat (byteAt twoTab m_7).toNat, UInt8.ofNat (byteAt twoTab m_9).toNat, UInt8.ofNat (byteAt twoTab m_4).toNat, UInt8.ofNat (byteAt twoTab m_8).toNat, UInt8.ofNat
 (byteAt twoTab m_5).toNat, UInt8.ofNat (byteAt twoTab m).toNat]))))) (K (AV.sc (Value.string (ByteArray.mk (Array.mk [UInt8.ofNat (byteAt twoTab m_12).toNat, UInt8.ofNat (byteAt twoTab (IntKind.u32.wrap (m_14 + 1))).toNat, UInt8.ofNat (byteAt twoTab m_6).toNat, UInt8.ofNat (byteAt twoTab m_10).toNat, UInt8.ofNat (byteAt twoTab
 m_7).toNat, UInt8.ofNat (byteAt twoTab m_9).toNat, UInt8.ofNat (byteAt twoTab m_4).toNat, UInt8.ofNat (byteAt twoTab m_8).toNat, UInt8.ofNat (byteAt twoTab m_5).toNat, UInt8.ofNat (byteAt twoTab m).toNat])))))) False) False) False) False) False) False) False) False) False) False))) (∀ (m : Int), m = IntKind.u64.wrap n → iteP (decide (n <
 0)) (∀ (m_1 : Int), m_1 = IntKind.u64.wrap (0 - m) → (1000000000 ≤ m_1 ∧ m_1 < 10000000000) ∧ ∀ (_ : Unit), True → ∀ (m : Int), m = IntKind.u32.wrap (m_1.tmod 100000000) → ∀ (m_2 : Int), m_2 = IntKind.u64.wrap (m_1.tdiv 100000000) → ∀ (m_3 : Int), m_3 = IntKind.u32.wrap (m.tdiv (10000 :
 Int)) → ∀ (m_4 : Int), m_4 = m.tmod 10000 → ∀ (m : Int), m = IntKind.u32.wrap (IntKind.u32.wrap (m_4.tdiv 100) * 2) → ∀ (m_5 : Int), m_5 = IntKind.u32.wrap (m_4.tmod 100 * 2) → ∀ (m_6 : Int), m_6 = IntKind.u32.wrap (IntKind.u32.wrap (m_3.tdiv 100) * 2) → ∀ (m_7 : Int), m_7 =
 IntKind.u32.wrap (m_3.tmod 100 * 2) → ∀ (m_8 : Int), m_8 = IntKind.u32.wrap (m_5 + 1) → iteP (inRange m_8 200) (iteP (inRange m_5 (200 : Nat)) (∀ (m_9 : Int), m_9 = IntKind.u32.wrap (m + 1) → iteP (inRange m_9 200) (iteP (inRange m 200) (∀ (m_10 : Int), m_10 = IntKind.u32.wrap (m_7 +
 1) → iteP (inRange m_10 200) (iteP (inRange m_7 200) (∀ (m_11 : Int), m_11 = IntKind.u32.wrap (m_6 + 1) → iteP (inRange m_11 200) (iteP (inRange m_6 200) (∀ (m_12 : Int), m_12 = IntKind.u32.wrap m_2 → ∀ (m_13 : Int), m_13 = IntKind.u32.wrap (m_12.tmod 100 * 2) → ∀ (m_14 :
 Int), m_14 = IntKind.u32.wrap (m_12.tdiv 100) → ∀ (m_15 : Int), m_15 = m_13 → iteP (inRange (IntKind.u32.wrap (m_15 + 1)) 200) (iteP (inRange m_13 200) (iteP (decide (n < 0)) (K (AV.sc (Value.string (ByteArray.mk (Array.mk [(45 : UInt8), UInt8.ofNat (byteAt twoTab m_13).toNat, UInt8.ofNat (byteAt
 twoTab (IntKind.u32.wrap (m_15 + 1))).toNat, UInt8.ofNat (byteAt twoTab m_6).toNat, UInt8.ofNat (byteAt twoTab m_11).toNat, UInt8.ofNat (byteAt twoTab m_7).toNat, UInt8.ofNat (byteAt twoTab m_10).toNat, UInt8.ofNat (byteAt twoTab m).toNat, UInt8.ofNat (byteAt twoTab m_9).toNat, UInt8.ofNat (byteAt twoTab m_5).toNat, UInt8.ofNat
 (byteAt twoTab m_8).toNat]))))) (K (AV.sc (Value.string (ByteArray.mk (Array.mk [UInt8.ofNat (byteAt twoTab m_13).toNat, UInt8.ofNat (byteAt twoTab (IntKind.u32.wrap (m_15 + 1))).toNat, UInt8.ofNat (byteAt twoTab m_6).toNat, UInt8.ofNat (byteAt twoTab m_11).toNat, UInt8.ofNat (byteAt twoTab m_7).toNat, UInt8.ofNat (byteAt twoTab
 m_10).toNat, UInt8.ofNat (byteAt twoTab m).toNat, UInt8.ofNat (byteAt twoTab m_9).toNat, UInt8.ofNat (byteAt twoTab m_5).toNat, UInt8.ofNat (byteAt twoTab m_8).toNat])))))) False) False) False) False) False) False) False) False) False) False) ((1000000000 ≤ m ∧ m < 10000000000) ∧ ∀ (_ : Unit), True → ∀ (m_1 :
 Int), m_1 = IntKind.u32.wrap (m.tmod 100000000) → ∀ (m_2 : Int), m_2 = IntKind.u64.wrap (m.tdiv 100000000) → ∀ (m : Int), m = IntKind.u32.wrap (m_1.tdiv 10000) → ∀ (m_3 : Int), m_3 = m_1.tmod 10000 → ∀ (m_4 : Int), m_4 = IntKind.u32.wrap (IntKind.u32.wrap (m_3.tdiv 100) * 2) → ∀ (m_5 : Int),
 m_5 = IntKind.u32.wrap (m_3.tmod 100 * 2) → ∀ (m_6 : Int), m_6 = IntKind.u32.wrap (IntKind.u32.wrap (m.tdiv 100) * 2) → ∀ (m_7 : Int), m_7 = IntKind.u32.wrap (m.tmod 100 * 2) → ∀ (m : Int), m = IntKind.u32.wrap (m_5 + 1) → iteP (inRange m 200) (iteP (inRange m_5 200) (∀
 (m_8 : Int), m_8 = IntKind.u32.wrap (m_4 + 1) → iteP (inRange m_8 200) (iteP (inRange m_4 200) (∀ (m_9 : Int), m_9 = IntKind.u32.wrap (m_7 + (1 : Int)) → iteP (inRange m_9 200) (iteP (inRange m_7 200) (∀ (m_10 : Int), m_10 = IntKind.u32.wrap (m_6 + 1) → iteP (inRange m_10 200) (iteP
 (inRange m_6 200) (∀ (m_11 : Int), m_11 = IntKind.u32.wrap m_2 → ∀ (m_12 : Int), m_12 = IntKind.u32.wrap (m_11.tmod 100 * 2) → ∀ (m_13 : Int), m_13 = IntKind.u32.wrap (m_11.tdiv 100) → ∀ (m_14 : Int), m_14 = m_12 → iteP (inRange (IntKind.u32.wrap (m_14 + 1)) 200) (iteP (inRange m_12 (200 :
 Nat)) (iteP (decide (n < 0)) (K (AV.sc (Value.string (ByteArray.mk (Array.mk [(45 : UInt8), UInt8.ofNat (byteAt twoTab m_12).toNat, UInt8.ofNat (byteAt twoTab (IntKind.u32.wrap (m_14 + 1))).toNat, UInt8.ofNat (byteAt twoTab m_6).toNat, UInt8.ofNat (byteAt twoTab m_10).toNat, UInt8.ofNat (byteAt twoTab m_7).toNat,
 UInt8.ofNat (byteAt twoTab m_9).toNat, UInt8.ofNat (byteAt twoTab m_4).toNat, UInt8.ofNat (byteAt twoTab m_8).toNat, UInt8.ofNat (byteAt twoTab m_5).toNat, UInt8.ofNat (byteAt twoTab m).toNat]))))) (K (AV.sc (Value.string (ByteArray.mk (Array.mk [UInt8.ofNat (byteAt twoTab m_12).toNat, UInt8.ofNat (byteAt twoTab (IntKind.u32.wrap (m_14 +
 1))).toNat, UInt8.ofNat (byteAt twoTab m_6).toNat, UInt8.ofNat (byteAt twoTab m_10).toNat, UInt8.ofNat (byteAt twoTab m_7).toNat, UInt8.ofNat (byteAt twoTab m_9).toNat, UInt8.ofNat (byteAt twoTab m_4).toNat, UInt8.ofNat (byteAt twoTab m_8).toNat, UInt8.ofNat (byteAt twoTab m_5).toNat, UInt8.ofNat (byteAt twoTab m).toNat]))))))
 False) False) False) False) False) False) False) False) False) False))) : (fun (n : Int) (K : AV → Prop) => wpCall (Dk 10) Door.cfg Tryd.prog 60 67 [aK .i64 n, aK .i64 10] heapF fun r h' => wpBack h' r K) n K :=
 Eq.mp (by kernel_rfl) h
end
end Go.Proofs.Pr
namespace Go.Proofs.Pr
open Go Go.Ef
noncomputable section
set_option maxRecDepth 100000
theorem d96 (u : Int) (K : AV → Prop) (h : iteP (decide (4294967296 ≤ u)) (iteP (decide (65536 ≤ u.fdiv 4294967296)) (iteP (decide (256 ≤
 (u.fdiv 4294967296).fdiv 65536)) (iteP (inRange (IntKind.u8.wrap (((u.fdiv 4294967296).fdiv 65536).fdiv 256)) 256) (K (AV.sc (Value.int IntKind.i64 (IntKind.i64.wrap (56 + IntKind.i64.wrap (byteAt lenTab (IntKind.u8.wrap (((u.fdiv 4294967296).fdiv 65536).fdiv (256
 : Int))))))))) False) (iteP (inRange (IntKind.u8.wrap ((u.fdiv 4294967296).fdiv 65536)) 256) (K (AV.sc (Value.int IntKind.i64 (IntKind.i64.wrap (48 + IntKind.i64.wrap (byteAt lenTab (IntKind.u8.wrap ((u.fdiv 4294967296).fdiv 65536)))))))) False)) (iteP (decide (256 ≤ u.fdiv
 4294967296)) (iteP (inRange (IntKind.u8.wrap ((u.fdiv 4294967296).fdiv 256)) 256) (K (AV.sc (Value.int IntKind.i64 (IntKind.i64.wrap ((40 : Int) + IntKind.i64.wrap (byteAt lenTab (IntKind.u8.wrap ((u.fdiv 4294967296).fdiv 256)))))))) False) (iteP (inRange (IntKind.u8.wrap (u.fdiv (4294967296 :
 Int))) 256) (K (AV.sc (Value.int IntKind.i64 (IntKind.i64.wrap (32 + IntKind.i64.wrap (byteAt lenTab (IntKind.u8.wrap (u.fdiv 4294967296)))))))) False))) (iteP (decide (65536 ≤ u)) (iteP (decide (256 ≤ u.fdiv 65536)) (iteP (inRange (IntKind.u8.wrap ((u.fdiv 65536).fdiv 256))
 256) (K (AV.sc (Value.int IntKind.i64 (IntKind.i64.wrap (24 + IntKind.i64.wrap (byteAt lenTab (IntKind.u8.wrap ((u.fdiv 65536).fdiv (256 : Int))))))))) False) (iteP (inRange (IntKind.u8.wrap (u.fdiv 65536)) 256) (K (AV.sc (Value.int IntKind.i64 (IntKind.i64.wrap (16 + IntKind.i64.wrap
 (byteAt lenTab (IntKind.u8.wrap (u.fdiv 65536)))))))) False)) (iteP (decide (256 ≤ u)) (iteP (inRange (IntKind.u8.wrap (u.fdiv 256)) 256) (K (AV.sc (Value.int IntKind.i64 (IntKind.i64.wrap (8 + IntKind.i64.wrap (byteAt lenTab (IntKind.u8.wrap (u.fdiv 256)))))))) False) (iteP (inRange
 (IntKind.u8.wrap u) 256) (K (AV.sc (Value.int IntKind.i64 (IntKind.i64.wrap (0 + IntKind.i64.wrap (byteAt lenTab (IntKind.u8.wrap u))))))) False)))) : (fun (u : Int) (K : AV → Prop) => wpCall tab0 Door.cfg Tryd.prog 60 96 [aK .u64 u] heapF fun r h' => wpBack h' r K) u K :=
 Eq.mp (by kernel_rfl) h
theorem d83 (u : Int) (K : AV → Prop) (h : (1 ≤ u ∧ u < 17179869184) ∧ ∀ (x : Int), LenP u x → iteP (decide ((IntKind.i64.wrap (x * 78913)).fdiv
 (262144 : Int) = 19)) (iteP (decide (10000000000000000000 ≤ u)) (K (AV.sc (Value.int IntKind.i64 (IntKind.i64.wrap ((IntKind.i64.wrap (x * (78913 : Int))).fdiv 262144 + 1))))) (K (AV.sc (Value.int IntKind.i64 (IntKind.i64.wrap ((IntKind.i64.wrap (x * 78913)).fdiv 262144 + (0 :
 Int))))))) (iteP (decide ((IntKind.i64.wrap (x * 78913)).fdiv (262144 : Int) = 18)) (iteP (decide (1000000000000000000 ≤ u)) (K (AV.sc (Value.int IntKind.i64 (IntKind.i64.wrap ((IntKind.i64.wrap (x * 78913)).fdiv 262144 + 1))))) (K (AV.sc (Value.int IntKind.i64 (IntKind.i64.wrap
 ((IntKind.i64.wrap (x * 78913)).fdiv 262144 + 0)))))) (iteP (decide ((IntKind.i64.wrap (x * 78913)).fdiv (262144 : Int) = 17)) (iteP (decide (100000000000000000 ≤ u)) (K (AV.sc (Value.int IntKind.i64 (IntKind.i64.wrap ((IntKind.i64.wrap (x * 78913)).fdiv 262144 + (1 :
 Int)))))) (K (AV.sc (Value.int IntKind.i64 (IntKind.i64.wrap ((IntKind.i64.wrap (x * 78913)).fdiv 262144 + 0)))))) (iteP (decide ((IntKind.i64.wrap (x * 78913)).fdiv (262144 : Int) = 16)) (iteP (decide (10000000000000000 ≤ u)) (K (AV.sc (Value.int IntKind.i64 (IntKind.i64.wrap
 ((IntKind.i64.wrap (x * 78913)).fdiv 262144 + 1))))) (K (AV.sc (Value.int IntKind.i64 (IntKind.i64.wrap ((IntKind.i64.wrap (x * (78913 : Int))).fdiv 262144 + 0)))))) (iteP (decide ((IntKind.i64.wrap (x * 78913)).fdiv (262144 : Int) = 15)) (iteP (decide ((1000000000000000 :
 Int) ≤ u)) (K (AV.sc (Value.int IntKind.i64 (IntKind.i64.wrap ((IntKind.i64.wrap (x * 78913)).fdiv 262144 + 1))))) (K (AV.sc (Value.int IntKind.i64 (IntKind.i64.wrap ((IntKind.i64.wrap (x * 78913)).fdiv 262144 + 0)))))) (iteP (decide ((IntKind.i64.wrap (x * 78913)).fdiv 262144 =
 14)) (iteP (decide (100000000000000 ≤ u)) (K (AV.sc (Value.int IntKind.i64 (IntKind.i64.wrap ((IntKind.i64.wrap (x * 78913)).fdiv 262144 + 1))))) (K (AV.sc (Value.int IntKind.i64 (IntKind.i64.wrap ((IntKind.i64.wrap (x * 78913)).fdiv 262144 + 0)))))) (iteP (decide
 ((IntKind.i64.wrap (x * 78913)).fdiv (262144 : Int) = 13)) (iteP (decide (10000000000000 ≤ u)) (K (AV.sc (Value.int IntKind.i64 (IntKind.i64.wrap ((IntKind.i64.wrap (x * 78913)).fdiv 262144 + 1))))) (K (AV.sc (Value.int IntKind.i64 (IntKind.i64.wrap ((IntKind.i64.wrap (x * (78913 :
 Int))).fdiv 262144 + 0)))))) (iteP (decide ((IntKind.i64.wrap (x * 78913)).fdiv (262144 : Int) = 12)) (iteP (decide (1000000000000 ≤ u)) (K (AV.sc (Value.int IntKind.i64 (IntKind.i64.wrap ((IntKind.i64.wrap (x * 78913)).fdiv 262144 + 1))))) (K (AV.sc (Value.int IntKind.i64
 (IntKind.i64.wrap ((IntKind.i64.wrap (x * 78913)).fdiv 262144 + 0)))))) (iteP (decide ((IntKind.i64.wrap (x * 78913)).fdiv 262144 = 11)) (iteP (decide (100000000000 ≤ u)) (K (AV.sc (Value.int IntKind.i64 (IntKind.i64.wrap ((IntKind.i64.wrap (x * 78913)).fdiv 262144 + (1 : Int)))))) (K (AV.sc (Value.int IntKind.i64 (IntKind.i64.wrap ((IntKind.i64.wrap (x * 78913)).fdiv 262144 + 0)))))) (iteP (decide
 ((IntKind.i64.wrap (x * 78913)).fdiv (262144 : Int) = 10)) (iteP (decide (10000000000 ≤ u)) (K (AV.sc (Value.int IntKind.i64 (IntKind.i64.wrap ((IntKind.i64.wrap (x * 78913)).fdiv 262144 + 1))))) (K (AV.sc (Value.int IntKind.i64 (IntKind.i64.wrap ((IntKind.i64.wrap (x * (78913 :
 Int))).fdiv 262144 + 0)))))) (iteP (decide ((IntKind.i64.wrap (x * 78913)).fdiv (262144 : Int) = 9)) (iteP (decide (1000000000 ≤ u)) (K (AV.sc (Value.int IntKind.i64 (IntKind.i64.wrap ((IntKind.i64.wrap (x * 78913)).fdiv 262144 + 1))))) (K (AV.sc (Value.int IntKind.i64 (IntKind.i64.wrap ((IntKind.i64.wrap (x * 78913)).fdiv 262144 + 0)))))) (iteP (decide ((IntKind.i64.wrap (x * 78913)).fdiv 262144 =
 8)) (iteP (decide (100000000 ≤ u)) (K (AV.sc (Value.int IntKind.i64 (IntKind.i64.wrap ((IntKind.i64.wrap (x * 78913)).fdiv 262144 + (1 : Int)))))) (K (AV.sc (Value.int IntKind.i64 (IntKind.i64.wrap ((IntKind.i64.wrap (x * 78913)).fdiv 262144 + 0)))))) (iteP (decide ((IntKind.i64.wrap
 (x * 78913)).fdiv (262144 : Int) = 7)) (iteP (decide (10000000 ≤ u)) (K (AV.sc (Value.int IntKind.i64 (IntKind.i64.wrap ((IntKind.i64.wrap (x * 78913)).fdiv 262144 + 1))))) (K (AV.sc (Value.int IntKind.i64 (IntKind.i64.wrap ((IntKind.i64.wrap (x * 78913)).fdiv 262144 + (0 :
 Int))))))) (iteP (decide ((IntKind.i64.wrap (x * 78913)).fdiv (262144 : Int) = 6)) (iteP (decide (1000000 ≤ u)) (K (AV.sc (Value.int IntKind.i64 (IntKind.i64.wrap ((IntKind.i64.wrap (x * 78913)).fdiv 262144 + 1))))) (K (AV.sc (Value.int IntKind.i64 (IntKind.i64.wrap ((IntKind.i64.wrap (x *
 78913)).fdiv 262144 + 0)))))) (iteP (decide ((IntKind.i64.wrap (x * 78913)).fdiv (262144 : Int) = 5)) (iteP (decide (100000 ≤ u)) (K (AV.sc (Value.int IntKind.i64 (IntKind.i64.wrap ((IntKind.i64.wrap (x * 78913)).fdiv 262144 + 1))))) (K (AV.sc (Value.int IntKind.i64 (IntKind.i64.wrap ((IntKind.i64.wrap (x * 78913)).fdiv 262144 + 0)))))) (iteP (decide ((IntKind.i64.wrap (x * 78913)).fdiv 262144 =
 4)) (iteP (decide (10000 ≤ u)) (K (AV.sc (Value.int IntKind.i64 (IntKind.i64.wrap ((IntKind.i64.wrap (x * 78913)).fdiv 262144 + (1 : Int)))))) (K (AV.sc (Value.int IntKind.i64 (IntKind.i64.wrap ((IntKind.i64.wrap (x * 78913)).fdiv 262144 + 0)))))) (iteP (decide ((IntKind.i64.wrap
 (x * 78913)).fdiv (262144 : Int) = 3)) (iteP (decide (1000 ≤ u)) (K (AV.sc (Value.int IntKind.i64 (IntKind.i64.wrap ((IntKind.i64.wrap (x * (78913 : Int))).fdiv 262144 + 1))))) (K (AV.sc (Value.int IntKind.i64 (IntKind.i64.wrap ((IntKind.i64.wrap (x * 78913)).fdiv 262144 + (0 :
 Int))))))) (iteP (decide ((IntKind.i64.wrap (x * 78913)).fdiv (262144 : Int) = 2)) (iteP (decide (100 ≤ u)) (K (AV.sc (Value.int IntKind.i64 (IntKind.i64.wrap ((IntKind.i64.wrap (x * 78913)).fdiv 262144 + 1))))) (K (AV.sc (Value.int IntKind.i64 (IntKind.i64.wrap ((IntKind.i64.wrap (x *
 78913)).fdiv 262144 + 0)))))) (iteP (decide ((IntKind.i64.wrap (x * 78913)).fdiv (262144 : Int) = 1)) (iteP (decide (10 ≤ u)) (K (AV.sc (Value.int IntKind.i64 (IntKind.i64.wrap ((IntKind.i64.wrap (x * 78913)).fdiv 262144 + 1))))) (K (AV.sc (Value.int IntKind.i64 (IntKind.i64.wrap ((IntKind.i64.wrap (x * 78913)).fdiv 262144 + 0)))))) (iteP (decide ((IntKind.i64.wrap (x * 78913)).fdiv 262144 =
 0)) (iteP (decide (1 ≤ u)) (K (AV.sc (Value.int IntKind.i64 (IntKind.i64.wrap ((IntKind.i64.wrap (x * 78913)).fdiv 262144 + 1))))) (K (AV.sc (Value.int IntKind.i64 (IntKind.i64.wrap ((IntKind.i64.wrap (x * 78913)).fdiv 262144 + 0)))))) False)))))))))))))))))))) : (fun (u : Int) (K : AV → Prop) => wpCall D0 Door.cfg Tryd.prog 60 83 [aK .u64 u] heapF fun r h' => wpBack h' r K) u K :=
 Eq.mp (by kernel_rfl) h
end
end Go.Proofs.Pr
namespace Go.Proofs.Pr
open Go Go.Ef
noncomputable section
set_option maxRecDepth 100000
theorem td {a c : Int} (h : 0 ≤ a) : a.tdiv c = a / c := Int.tdiv_eq_ediv_of_nonneg h
theorem tm {a c : Int} (h : 0 ≤ a) : a.tmod c = a % c := Int.tmod_eq_emod_of_nonneg h
theorem w32_in {x : Int} (h1 : 0 ≤ x) (h2 : x ≤ 4294967295) : IntKind.u32.wrap x = x := by
 have e : IntKind.u32.bits = 32 := rfl
 have g : IntKind.u32.signed = false := rfl
 have e1 : (2 : Int) ^ 32 = 4294967296 := by decide
 simp only [IntKind.wrap, e, g, e1, Bool.false_and, Bool.false_eq_true, if_false]
 omega
theorem w64_in {x : Int} (h1 : 0 ≤ x) (h2 : x ≤ 18446744073709551615) : IntKind.u64.wrap x = x := by rw [wrapU64]; omega
def twoOk (x : Nat) : Bool := decide (byteAt twoTab ((x : Int) * 2) = 48 + ((x / 10 : Nat) : Int)) && decide (byteAt twoTab ((x : Int) * 2 + 1) = 48 + ((x % 10 : Nat) : Int))
theorem two_all : (List.range 100).all twoOk = true := by decide +kernel
theorem two_ok {x : Int} (h1 : 0 ≤ x) (h2 : x < 100) : byteAt twoTab (x * 2) = 48 + x / 10 ∧ byteAt twoTab (x * 2 + 1) = 48 + x % 10 := by
 obtain ⟨k, rfl⟩ := Int.eq_ofNat_of_zero_le h1
 have := List.all_eq_true.1 two_all k (by simp; omega)
 unfold twoOk at this
 simp only [Bool.and_eq_true, decide_eq_true_eq] at this
 refine ⟨this.1.trans (by omega), this.2.trans (by omega)⟩
theorem dg_of {z : Int} {d : Nat} (h : z = 48 + (d : Int)) (hd : d < 10) : UInt8.ofNat z.toNat = digitC d := by
 subst h
 unfold digitC
 rw [if_pos hd, show (48 + (d : Int)).toNat = 48 + d by omega]
theorem dig_step {f n : Nat} {acc : List UInt8} (h : ¬ n < 10) : digitsL 10 (f + 1) n acc = digitsL 10 f (n / 10) (digitC (n % 10) :: acc) := if_neg h
theorem dig_last {f n : Nat} {acc : List UInt8} (h : n < 10) : digitsL 10 (f + 1) n acc = digitC n :: acc := if_pos h
theorem dec_3 (n : Int) (h1 : 100 ≤ n) (h2 : n ≤ 999) (K : AV → Prop) (hk : K (aStr (fmtN 10 n.toNat))) : wpCall (Dk 3) Door.cfg Tryd.prog 60 67 [aK .i64 n, aK .i64 10] heapF fun r h' => wpBack h' r K := by
 refine d67_3 n K ?_
 have hneg : decide (n < (0 : Int)) = false := decide_eq_false (by omega)
 rw [decide_eq_true (show (0 : Int) ≤ n by omega), iteP_t, decide_eq_false (show ¬ n < (100 : Int) by omega), iteP_f]
 intro a1 h1
 have e1 : a1 = n := by simp (disch := omega) only [h1, w64_in]
 rw [hneg, iteP_f]
 refine ⟨by rw [e1]; omega, ?_⟩
 intro _ _
 intro a2 h2
 have e2 : a2 = n := by simp (disch := omega) only [h2, e1, w32_in]
 intro a3 h3
 have e3 : a3 = ((n % 100) * 2) := by simp (disch := omega) only [h3, e2, tm, w32_in]
 intro a4 h4
 have e4 : a4 = (n / 100) := by simp (disch := omega) only [h4, e2, td, w32_in]
 intro a5 h5
 have e5 : a5 = ((n % 100) * 2) := by simp (disch := omega) only [h5, e3]
 have e6 : (IntKind.u32.wrap (a5 + (1 : Int))) = (((n % 100) * 2) + 1) := by simp (disch := omega) only [e5, w32_in]
 rw [show inRange (IntKind.u32.wrap (a5 + (1 : Int))) 200 = true by rw [inRange_iff, e6]; omega, iteP_t]
 rw [show inRange a3 200 = true by rw [inRange_iff, e3]; omega, iteP_t]
 intro a7 h7
 have e7 : a7 = (48 + (n / 100)) := by simp (disch := omega) only [h7, e4, w32_in, wrap8_in]
 rw [iteP_f]
 have d0 : UInt8.ofNat a7.toNat = digitC (n.toNat / 100) := dg_of (by rw [e7]; omega) (by omega)
 have d1 : UInt8.ofNat (byteAt twoTab a3).toNat = digitC (n.toNat / 10 % 10) := dg_of (by rw [e3, (two_ok (x := (n % 100)) (by omega) (by omega)).1]; omega) (by omega)
 have d2 : UInt8.ofNat (byteAt twoTab (IntKind.u32.wrap (a5 + (1 : Int)))).toNat = digitC (n.toNat % 10) := dg_of (by rw [e6, (two_ok (x := (n % 100)) (by omega) (by omega)).2]; omega) (by omega)
 have f : fmtN 10 n.toNat = [digitC (n.toNat / 100), digitC (n.toNat / 10 % 10), digitC (n.toNat % 10)] := by
  unfold fmtN
  rw [dig_step (by omega), dig_step (by omega), dig_last (by omega)]
  simp only [Nat.div_div_eq_div_mul]
 rw [f] at hk
 rw [d0, d1, d2]
 exact hk
theorem dec_4 (n : Int) (h1 : 1000 ≤ n) (h2 : n ≤ 9999) (K : AV → Prop) (hk : K (aStr (fmtN 10 n.toNat))) : wpCall (Dk 4) Door.cfg Tryd.prog 60 67 [aK .i64 n, aK .i64 10] heapF fun r h' => wpBack h' r K := by
 refine d67_4 n K ?_
 have hneg : decide (n < (0 : Int)) = false := decide_eq_false (by omega)
 rw [decide_eq_true (show (0 : Int) ≤ n by omega), iteP_t, decide_eq_false (show ¬ n < (100 : Int) by omega), iteP_f]
 intro a1 h1
 have e1 : a1 = n := by simp (disch := omega) only [h1, w64_in]
 rw [hneg, iteP_f]
 refine ⟨by rw [e1]; omega, ?_⟩
 intro _ _
 intro a2 h2
 have e2 : a2 = n := by simp (disch := omega) only [h2, e1, w32_in]
 intro a3 h3
 have e3 : a3 = (n % 10000) := by simp (disch := omega) only [h3, e2, tm]
 intro a4 h4
 have e4 : a4 = (n / 10000) := by simp (disch := omega) only [h4, e2, td, w32_in]
 intro a5 h5
 have e5 : a5 = (((n % 10000) / 100) * 2) := by simp (disch := omega) only [h5, e3, td, w32_in]
 intro a6 h6
 have e6 : a6 = (((n % 10000) % 100) * 2) := by simp (disch := omega) only [h6, e3, tm, w32_in]
 intro a7 h7
 have e7 : a7 = ((((n % 10000) % 100) * 2) + 1) := by simp (disch := omega) only [h7, e6, w32_in]
 rw [show inRange a7 200 = true by rw [inRange_iff, e7]; omega, iteP_t]
 rw [show inRange a6 200 = true by rw [inRange_iff, e6]; omega, iteP_t]
 intro a8 h8
 have e8 : a8 = ((((n % 10000) / 100) * 2) + 1) := by simp (disch := omega) only [h8, e5, w32_in]
 rw [show inRange a8 200 = true by rw [inRange_iff, e8]; omega, iteP_t]
 rw [show inRange a5 200 = true by rw [inRange_iff, e5]; omega, iteP_t]
 rw [iteP_f]
 have d0 : UInt8.ofNat (byteAt twoTab a5).toNat = digitC (n.toNat / 1000) := dg_of (by rw [e5, (two_ok (x := ((n % 10000) / 100)) (by omega) (by omega)).1]; omega) (by omega)
 have d1 : UInt8.ofNat (byteAt twoTab a8).toNat = digitC (n.toNat / 100 % 10) := dg_of (by rw [e8, (two_ok (x := ((n % 10000) / 100)) (by omega) (by omega)).2]; omega) (by omega)
 have d2 : UInt8.ofNat (byteAt twoTab a6).toNat = digitC (n.toNat / 10 % 10) := dg_of (by rw [e6, (two_ok (x := ((n % 10000) % 100)) (by omega) (by omega)).1]; omega) (by omega)
 have d3 : UInt8.ofNat (byteAt twoTab a7).toNat = digitC (n.toNat % 10) := dg_of (by rw [e7, (two_ok (x := ((n % 10000) % 100)) (by omega) (by omega)).2]; omega) (by omega)
 have f : fmtN 10 n.toNat = [digitC (n.toNat / 1000), digitC (n.toNat / 100 % 10), digitC (n.toNat / 10 % 10), digitC (n.toNat % 10)] := by
  unfold fmtN
  rw [dig_step (by omega), dig_step (by omega), dig_step (by omega), dig_last (by omega)]
  simp only [Nat.div_div_eq_div_mul]
 rw [f] at hk
 rw [d0, d1, d2, d3]
 exact hk
theorem dec_5 (n : Int) (h1 : 10000 ≤ n) (h2 : n ≤ 99999) (K : AV → Prop) (hk : K (aStr (fmtN 10 n.toNat))) : wpCall (Dk 5) Door.cfg Tryd.prog 60 67 [aK .i64 n, aK .i64 10] heapF fun r h' => wpBack h' r K := by
 refine d67_5 n K ?_
 have hneg : decide (n < (0 : Int)) = false := decide_eq_false (by omega)
 rw [decide_eq_true (show (0 : Int) ≤ n by omega), iteP_t, decide_eq_false (show ¬ n < (100 : Int) by omega), iteP_f]
 intro a1 h1
 have e1 : a1 = n := by simp (disch := omega) only [h1, w64_in]
 rw [hneg, iteP_f]
 refine ⟨by rw [e1]; omega, ?_⟩
 intro _ _
 intro a2 h2
 have e2 : a2 = n := by simp (disch := omega) only [h2, e1, w32_in]
 intro a3 h3
 have e3 : a3 = (n % 10000) := by simp (disch := omega) only [h3, e2, tm]
 intro a4 h4
 have e4 : a4 = (n / 10000) := by simp (disch := omega) only [h4, e2, td, w32_in]
 intro a5 h5
 have e5 : a5 = (((n % 10000) / 100) * 2) := by simp (disch := omega) only [h5, e3, td, w32_in]
 intro a6 h6
 have e6 : a6 = (((n % 10000) % 100) * 2) := by simp (disch := omega) only [h6, e3, tm, w32_in]
 intro a7 h7
 have e7 : a7 = ((((n % 10000) % 100) * 2) + 1) := by simp (disch := omega) only [h7, e6, w32_in]
 rw [show inRange a7 200 = true by rw [inRange_iff, e7]; omega, iteP_t]
 rw [show inRange a6 200 = true by rw [inRange_iff, e6]; omega, iteP_t]
 intro a8 h8
 have e8 : a8 = ((((n % 10000) / 100) * 2) + 1) := by simp (disch := omega) only [h8, e5, w32_in]
 rw [show inRange a8 200 = true by rw [inRange_iff, e8]; omega, iteP_t]
 rw [show inRange a5 200 = true by rw [inRange_iff, e5]; omega, iteP_t]
 intro a9 h9
 have e9 : a9 = (48 + (n / 10000)) := by simp (disch := omega) only [h9, e4, w32_in, wrap8_in]
 rw [iteP_f]
 have d0 : UInt8.ofNat a9.toNat = digitC (n.toNat / 10000) := dg_of (by rw [e9]; omega) (by omega)
 have d1 : UInt8.ofNat (byteAt twoTab a5).toNat = digitC (n.toNat / 1000 % 10) := dg_of (by rw [e5, (two_ok (x := ((n % 10000) / 100)) (by omega) (by omega)).1]; omega) (by omega)
 have d2 : UInt8.ofNat (byteAt twoTab a8).toNat = digitC (n.toNat / 100 % 10) := dg_of (by rw [e8, (two_ok (x := ((n % 10000) / 100)) (by omega) (by omega)).2]; omega) (by omega)
 have d3 : UInt8.ofNat (byteAt twoTab a6).toNat = digitC (n.toNat / 10 % 10) := dg_of (by rw [e6, (two_ok (x := ((n % 10000) % 100)) (by omega) (by omega)).1]; omega) (by omega)
 have d4 : UInt8.ofNat (byteAt twoTab a7).toNat = digitC (n.toNat % 10) := dg_of (by rw [e7, (two_ok (x := ((n % 10000) % 100)) (by omega) (by omega)).2]; omega) (by omega)
 have f : fmtN 10 n.toNat = [digitC (n.toNat / 10000), digitC (n.toNat / 1000 % 10), digitC (n.toNat / 100 % 10), digitC (n.toNat / 10 % 10), digitC (n.toNat % 10)] := by
  unfold fmtN
  rw [dig_step (by omega), dig_step (by omega), dig_step (by omega), dig_step (by omega), dig_last (by omega)]
  simp only [Nat.div_div_eq_div_mul]
 rw [f] at hk
 rw [d0, d1, d2, d3, d4]
 exact hk
theorem dec_6 (n : Int) (h1 : 100000 ≤ n) (h2 : n ≤ 999999) (K : AV → Prop) (hk : K (aStr (fmtN 10 n.toNat))) : wpCall (Dk 6) Door.cfg Tryd.prog 60 67 [aK .i64 n, aK .i64 10] heapF fun r h' => wpBack h' r K := by
 refine d67_6 n K ?_
 have hneg : decide (n < (0 : Int)) = false := decide_eq_false (by omega)
 rw [decide_eq_true (show (0 : Int) ≤ n by omega), iteP_t, decide_eq_false (show ¬ n < (100 : Int) by omega), iteP_f]
 intro a1 h1
 have e1 : a1 = n := by simp (disch := omega) only [h1, w64_in]
 rw [hneg, iteP_f]
 refine ⟨by rw [e1]; omega, ?_⟩
 intro _ _
 intro a2 h2
 have e2 : a2 = n := by simp (disch := omega) only [h2, e1, w32_in]
 intro a3 h3
 have e3 : a3 = (n % 10000) := by simp (disch := omega) only [h3, e2, tm]
 intro a4 h4
 have e4 : a4 = (n / 10000) := by simp (disch := omega) only [h4, e2, td, w32_in]
 intro a5 h5
 have e5 : a5 = (((n % 10000) / 100) * 2) := by simp (disch := omega) only [h5, e3, td, w32_in]
 intro a6 h6
 have e6 : a6 = (((n % 10000) % 100) * 2) := by simp (disch := omega) only [h6, e3, tm, w32_in]
 intro a7 h7
 have e7 : a7 = ((((n % 10000) % 100) * 2) + 1) := by simp (disch := omega) only [h7, e6, w32_in]
 rw [show inRange a7 200 = true by rw [inRange_iff, e7]; omega, iteP_t]
 rw [show inRange a6 200 = true by rw [inRange_iff, e6]; omega, iteP_t]
 intro a8 h8
 have e8 : a8 = ((((n % 10000) / 100) * 2) + 1) := by simp (disch := omega) only [h8, e5, w32_in]
 rw [show inRange a8 200 = true by rw [inRange_iff, e8]; omega, iteP_t]
 rw [show inRange a5 200 = true by rw [inRange_iff, e5]; omega, iteP_t]
 intro a9 h9
 have e9 : a9 = (((n / 10000) % 100) * 2) := by simp (disch := omega) only [h9, e4, tm, w32_in]
 intro a10 h10
 have e10 : a10 = ((n / 10000) / 100) := by simp (disch := omega) only [h10, e4, td, w32_in]
 intro a11 h11
 have e11 : a11 = (((n / 10000) % 100) * 2) := by simp (disch := omega) only [h11, e9]
 have e12 : (IntKind.u32.wrap (a11 + (1 : Int))) = ((((n / 10000) % 100) * 2) + 1) := by simp (disch := omega) only [e11, w32_in]
 rw [show inRange (IntKind.u32.wrap (a11 + (1 : Int))) 200 = true by rw [inRange_iff, e12]; omega, iteP_t]
 rw [show inRange a9 200 = true by rw [inRange_iff, e9]; omega, iteP_t]
 rw [iteP_f]
 have d0 : UInt8.ofNat (byteAt twoTab a9).toNat = digitC (n.toNat / 100000) := dg_of (by rw [e9, (two_ok (x := ((n / 10000) % 100)) (by omega) (by omega)).1]; omega) (by omega)
 have d1 : UInt8.ofNat (byteAt twoTab (IntKind.u32.wrap (a11 + (1 : Int)))).toNat = digitC (n.toNat / 10000 % 10) := dg_of (by rw [e12, (two_ok (x := ((n / 10000) % 100)) (by omega) (by omega)).2]; omega) (by omega)
 have d2 : UInt8.ofNat (byteAt twoTab a5).toNat = digitC (n.toNat / 1000 % 10) := dg_of (by rw [e5, (two_ok (x := ((n % 10000) / 100)) (by omega) (by omega)).1]; omega) (by omega)
 have d3 : UInt8.ofNat (byteAt twoTab a8).toNat = digitC (n.toNat / 100 % 10) := dg_of (by rw [e8, (two_ok (x := ((n % 10000) / 100)) (by omega) (by omega)).2]; omega) (by omega)
 have d4 : UInt8.ofNat (byteAt twoTab a6).toNat = digitC (n.toNat / 10 % 10) := dg_of (by rw [e6, (two_ok (x := ((n % 10000) % 100)) (by omega) (by omega)).1]; omega) (by omega)
 have d5 : UInt8.ofNat (byteAt twoTab a7).toNat = digitC (n.toNat % 10) := dg_of (by rw [e7, (two_ok (x := ((n % 10000) % 100)) (by omega) (by omega)).2]; omega) (by omega)
 have f : fmtN 10 n.toNat = [digitC (n.toNat / 100000), digitC (n.toNat / 10000 % 10), digitC (n.toNat / 1000 % 10), digitC (n.toNat / 100 % 10), digitC (n.toNat / 10 % 10), digitC (n.toNat % 10)] := by
  unfold fmtN
  rw [dig_step (by omega), dig_step (by omega), dig_step (by omega), dig_step (by omega), dig_step (by omega), dig_last (by omega)]
  simp only [Nat.div_div_eq_div_mul]
 rw [f] at hk
 rw [d0, d1, d2, d3, d4, d5]
 exact hk
theorem dec_7 (n : Int) (h1 : 1000000 ≤ n) (h2 : n ≤ 9999999) (K : AV → Prop) (hk : K (aStr (fmtN 10 n.toNat))) : wpCall (Dk 7) Door.cfg Tryd.prog 60 67 [aK .i64 n, aK .i64 10] heapF fun r h' => wpBack h' r K := by
 refine d67_7 n K ?_
 have hneg : decide (n < (0 : Int)) = false := decide_eq_false (by omega)
 rw [decide_eq_true (show (0 : Int) ≤ n by omega), iteP_t, decide_eq_false (show ¬ n < (100 : Int) by omega), iteP_f]
 intro a1 h1
 have e1 : a1 = n := by simp (disch := omega) only [h1, w64_in]
 rw [hneg, iteP_f]
 refine ⟨by rw [e1]; omega, ?_⟩
 intro _ _
 intro a2 h2
 have e2 : a2 = n := by simp (disch := omega) only [h2, e1, w32_in]
 intro a3 h3
 have e3 : a3 = (n % 10000) := by simp (disch := omega) only [h3, e2, tm]
 intro a4 h4
 have e4 : a4 = (n / 10000) := by simp (disch := omega) only [h4, e2, td, w32_in]
 intro a5 h5
 have e5 : a5 = (((n % 10000) / 100) * 2) := by simp (disch := omega) only [h5, e3, td, w32_in]
 intro a6 h6
 have e6 : a6 = (((n % 10000) % 100) * 2) := by simp (disch := omega) only [h6, e3, tm, w32_in]
 intro a7 h7
 have e7 : a7 = ((((n % 10000) % 100) * 2) + 1) := by simp (disch := omega) only [h7, e6, w32_in]
 rw [show inRange a7 200 = true by rw [inRange_iff, e7]; omega, iteP_t]
 rw [show inRange a6 200 = true by rw [inRange_iff, e6]; omega, iteP_t]
 intro a8 h8
 have e8 : a8 = ((((n % 10000) / 100) * 2) + 1) := by simp (disch := omega) only [h8, e5, w32_in]
 rw [show inRange a8 200 = true by rw [inRange_iff, e8]; omega, iteP_t]
 rw [show inRange a5 200 = true by rw [inRange_iff, e5]; omega, iteP_t]
 intro a9 h9
 have e9 : a9 = (((n / 10000) % 100) * 2) := by simp (disch := omega) only [h9, e4, tm, w32_in]
 intro a10 h10
 have e10 : a10 = ((n / 10000) / 100) := by simp (disch := omega) only [h10, e4, td, w32_in]
 intro a11 h11
 have e11 : a11 = (((n / 10000) % 100) * 2) := by simp (disch := omega) only [h11, e9]
 have e12 : (IntKind.u32.wrap (a11 + (1 : Int))) = ((((n / 10000) % 100) * 2) + 1) := by simp (disch := omega) only [e11, w32_in]
 rw [show inRange (IntKind.u32.wrap (a11 + (1 : Int))) 200 = true by rw [inRange_iff, e12]; omega, iteP_t]
 rw [show inRange a9 200 = true by rw [inRange_iff, e9]; omega, iteP_t]
 intro a13 h13
 have e13 : a13 = (48 + ((n / 10000) / 100)) := by simp (disch := omega) only [h13, e10, w32_in, wrap8_in]
 rw [iteP_f]
 have d0 : UInt8.ofNat a13.toNat = digitC (n.toNat / 1000000) := dg_of (by rw [e13]; omega) (by omega)
 have d1 : UInt8.ofNat (byteAt twoTab a9).toNat = digitC (n.toNat / 100000 % 10) := dg_of (by rw [e9, (two_ok (x := ((n / 10000) % 100)) (by omega) (by omega)).1]; omega) (by omega)
 have d2 : UInt8.ofNat (byteAt twoTab (IntKind.u32.wrap (a11 + (1 : Int)))).toNat = digitC (n.toNat / 10000 % 10) := dg_of (by rw [e12, (two_ok (x := ((n / 10000) % 100)) (by omega) (by omega)).2]; omega) (by omega)
 have d3 : UInt8.ofNat (byteAt twoTab a5).toNat = digitC (n.toNat / 1000 % 10) := dg_of (by rw [e5, (two_ok (x := ((n % 10000) / 100)) (by omega) (by omega)).1]; omega) (by omega)
 have d4 : UInt8.ofNat (byteAt twoTab a8).toNat = digitC (n.toNat / 100 % 10) := dg_of (by rw [e8, (two_ok (x := ((n % 10000) / 100)) (by omega) (by omega)).2]; omega) (by omega)
 have d5 : UInt8.ofNat (byteAt twoTab a6).toNat = digitC (n.toNat / 10 % 10) := dg_of (by rw [e6, (two_ok (x := ((n % 10000) % 100)) (by omega) (by omega)).1]; omega) (by omega)
 have d6 : UInt8.ofNat (byteAt twoTab a7).toNat = digitC (n.toNat % 10) := dg_of (by rw [e7, (two_ok (x := ((n % 10000) % 100)) (by omega) (by omega)).2]; omega) (by omega)
 have f : fmtN 10 n.toNat = [digitC (n.toNat / 1000000), digitC (n.toNat / 100000 % 10), digitC (n.toNat / 10000 % 10), digitC (n.toNat / 1000 % 10), digitC (n.toNat / 100 % 10), digitC (n.toNat / 10 % 10), digitC (n.toNat % 10)] := by
  unfold fmtN
  rw [dig_step (by omega), dig_step (by omega), dig_step (by omega), dig_step (by omega), dig_step (by omega), dig_step (by omega), dig_last (by omega)]
  simp only [Nat.div_div_eq_div_mul]
 rw [f] at hk
 rw [d0, d1, d2, d3, d4, d5, d6]
 exact hk
theorem dec_8 (n : Int) (h1 : 10000000 ≤ n) (h2 : n ≤ 99999999) (K : AV → Prop) (hk : K (aStr (fmtN 10 n.toNat))) : wpCall (Dk 8) Door.cfg Tryd.prog 60 67 [aK .i64 n, aK .i64 10] heapF fun r h' => wpBack h' r K := by
 refine d67_8 n K ?_
 have hneg : decide (n < (0 : Int)) = false := decide_eq_false (by omega)
 rw [decide_eq_true (show (0 : Int) ≤ n by omega), iteP_t, decide_eq_false (show ¬ n < (100 : Int) by omega), iteP_f]
 intro a1 h1
 have e1 : a1 = n := by simp (disch := omega) only [h1, w64_in]
 rw [hneg, iteP_f]
 refine ⟨by rw [e1]; omega, ?_⟩
 intro _ _
 intro a2 h2
 have e2 : a2 = (n % 100000000) := by simp (disch := omega) only [h2, e1, tm, w32_in]
 intro a3 h3
 have e3 : a3 = (n / 100000000) := by simp (disch := omega) only [h3, e1, td, w64_in]
 intro a4 h4
 have e4 : a4 = ((n % 100000000) / 10000) := by simp (disch := omega) only [h4, e2, td, w32_in]
 intro a5 h5
 have e5 : a5 = ((n % 100000000) % 10000) := by simp (disch := omega) only [h5, e2, tm]
 intro a6 h6
 have e6 : a6 = ((((n % 100000000) % 10000) / 100) * 2) := by simp (disch := omega) only [h6, e5, td, w32_in]
 intro a7 h7
 have e7 : a7 = ((((n % 100000000) % 10000) % 100) * 2) := by simp (disch := omega) only [h7, e5, tm, w32_in]
 intro a8 h8
 have e8 : a8 = ((((n % 100000000) / 10000) / 100) * 2) := by simp (disch := omega) only [h8, e4, td, w32_in]
 intro a9 h9
 have e9 : a9 = ((((n % 100000000) / 10000) % 100) * 2) := by simp (disch := omega) only [h9, e4, tm, w32_in]
 intro a10 h10
 have e10 : a10 = (((((n % 100000000) % 10000) % 100) * 2) + 1) := by simp (disch := omega) only [h10, e7, w32_in]
 rw [show inRange a10 200 = true by rw [inRange_iff, e10]; omega, iteP_t]
 rw [show inRange a7 200 = true by rw [inRange_iff, e7]; omega, iteP_t]
 intro a11 h11
 have e11 : a11 = (((((n % 100000000) % 10000) / 100) * 2) + 1) := by simp (disch := omega) only [h11, e6, w32_in]
 rw [show inRange a11 200 = true by rw [inRange_iff, e11]; omega, iteP_t]
 rw [show inRange a6 200 = true by rw [inRange_iff, e6]; omega, iteP_t]
 intro a12 h12
 have e12 : a12 = (((((n % 100000000) / 10000) % 100) * 2) + 1) := by simp (disch := omega) only [h12, e9, w32_in]
 rw [show inRange a12 200 = true by rw [inRange_iff, e12]; omega, iteP_t]
 rw [show inRange a9 200 = true by rw [inRange_iff, e9]; omega, iteP_t]
 intro a13 h13
 have e13 : a13 = (((((n % 100000000) / 10000) / 100) * 2) + 1) := by simp (disch := omega) only [h13, e8, w32_in]
 rw [show inRange a13 200 = true by rw [inRange_iff, e13]; omega, iteP_t]
 rw [show inRange a8 200 = true by rw [inRange_iff, e8]; omega, iteP_t]
 intro a14 h14
 have e14 : a14 = (n / 100000000) := by simp (disch := omega) only [h14, e3, w32_in]
 rw [iteP_f]
 have d0 : UInt8.ofNat (byteAt twoTab a8).toNat = digitC (n.toNat / 10000000) := dg_of (by rw [e8, (two_ok (x := (((n % 100000000) / 10000) / 100)) (by omega) (by omega)).1]; omega) (by omega)
 have d1 : UInt8.ofNat (byteAt twoTab a13).toNat = digitC (n.toNat / 1000000 % 10) := dg_of (by rw [e13, (two_ok (x := (((n % 100000000) / 10000) / 100)) (by omega) (by omega)).2]; omega) (by omega)
 have d2 : UInt8.ofNat (byteAt twoTab a9).toNat = digitC (n.toNat / 100000 % 10) := dg_of (by rw [e9, (two_ok (x := (((n % 100000000) / 10000) % 100)) (by omega) (by omega)).1]; omega) (by omega)
 have d3 : UInt8.ofNat (byteAt twoTab a12).toNat = digitC (n.toNat / 10000 % 10) := dg_of (by rw [e12, (two_ok (x := (((n % 100000000) / 10000) % 100)) (by omega) (by omega)).2]; omega) (by omega)
 have d4 : UInt8.ofNat (byteAt twoTab a6).toNat = digitC (n.toNat / 1000 % 10) := dg_of (by rw [e6, (two_ok (x := (((n % 100000000) % 10000) / 100)) (by omega) (by omega)).1]; omega) (by omega)
 have d5 : UInt8.ofNat (byteAt twoTab a11).toNat = digitC (n.toNat / 100 % 10) := dg_of (by rw [e11, (two_ok (x := (((n % 100000000) % 10000) / 100)) (by omega) (by omega)).2]; omega) (by omega)
 have d6 : UInt8.ofNat (byteAt twoTab a7).toNat = digitC (n.toNat / 10 % 10) := dg_of (by rw [e7, (two_ok (x := (((n % 100000000) % 10000) % 100)) (by omega) (by omega)).1]; omega) (by omega)
 have d7 : UInt8.ofNat (byteAt twoTab a10).toNat = digitC (n.toNat % 10) := dg_of (by rw [e10, (two_ok (x := (((n % 100000000) % 10000) % 100)) (by omega) (by omega)).2]; omega) (by omega)
 have f : fmtN 10 n.toNat = [digitC (n.toNat / 10000000), digitC (n.toNat / 1000000 % 10), digitC (n.toNat / 100000 % 10), digitC (n.toNat / 10000 % 10), digitC (n.toNat / 1000 % 10), digitC (n.toNat / 100 % 10), digitC (n.toNat / 10 % 10), digitC (n.toNat % 10)] := by
  unfold fmtN
  rw [dig_step (by omega), dig_step (by omega), dig_step (by omega), dig_step (by omega), dig_step (by omega), dig_step (by omega), dig_step (by omega), dig_last (by omega)]
  simp only [Nat.div_div_eq_div_mul]
 rw [f] at hk
 rw [d0, d1, d2, d3, d4, d5, d6, d7]
 exact hk
theorem dec_9 (n : Int) (h1 : 100000000 ≤ n) (h2 : n ≤ 999999999) (K : AV → Prop) (hk : K (aStr (fmtN 10 n.toNat))) : wpCall (Dk 9) Door.cfg Tryd.prog 60 67 [aK .i64 n, aK .i64 10] heapF fun r h' => wpBack h' r K := by
 refine d67_9 n K ?_
 have hneg : decide (n < (0 : Int)) = false := decide_eq_false (by omega)
 rw [decide_eq_true (show (0 : Int) ≤ n by omega), iteP_t, decide_eq_false (show ¬ n < (100 : Int) by omega), iteP_f]
 intro a1 h1
 have e1 : a1 = n := by simp (disch := omega) only [h1, w64_in]
 rw [hneg, iteP_f]
 refine ⟨by rw [e1]; omega, ?_⟩
 intro _ _
 intro a2 h2
 have e2 : a2 = (n % 100000000) := by simp (disch := omega) only [h2, e1, tm, w32_in]
 intro a3 h3
 have e3 : a3 = (n / 100000000) := by simp (disch := omega) only [h3, e1, td, w64_in]
 intro a4 h4
 have e4 : a4 = ((n % 100000000) / 10000) := by simp (disch := omega) only [h4, e2, td, w32_in]
 intro a5 h5
 have e5 : a5 = ((n % 100000000) % 10000) := by simp (disch := omega) only [h5, e2, tm]
 intro a6 h6
 have e6 : a6 = ((((n % 100000000) % 10000) / 100) * 2) := by simp (disch := omega) only [h6, e5, td, w32_in]
 intro a7 h7
 have e7 : a7 = ((((n % 100000000) % 10000) % 100) * 2) := by simp (disch := omega) only [h7, e5, tm, w32_in]
 intro a8 h8
 have e8 : a8 = ((((n % 100000000) / 10000) / 100) * 2) := by simp (disch := omega) only [h8, e4, td, w32_in]
 intro a9 h9
 have e9 : a9 = ((((n % 100000000) / 10000) % 100) * 2) := by simp (disch := omega) only [h9, e4, tm, w32_in]
 intro a10 h10
 have e10 : a10 = (((((n % 100000000) % 10000) % 100) * 2) + 1) := by simp (disch := omega) only [h10, e7, w32_in]
 rw [show inRange a10 200 = true by rw [inRange_iff, e10]; omega, iteP_t]
 rw [show inRange a7 200 = true by rw [inRange_iff, e7]; omega, iteP_t]
 intro a11 h11
 have e11 : a11 = (((((n % 100000000) % 10000) / 100) * 2) + 1) := by simp (disch := omega) only [h11, e6, w32_in]
 rw [show inRange a11 200 = true by rw [inRange_iff, e11]; omega, iteP_t]
 rw [show inRange a6 200 = true by rw [inRange_iff, e6]; omega, iteP_t]
 intro a12 h12
 have e12 : a12 = (((((n % 100000000) / 10000) % 100) * 2) + 1) := by simp (disch := omega) only [h12, e9, w32_in]
 rw [show inRange a12 200 = true by rw [inRange_iff, e12]; omega, iteP_t]
 rw [show inRange a9 200 = true by rw [inRange_iff, e9]; omega, iteP_t]
 intro a13 h13
 have e13 : a13 = (((((n % 100000000) / 10000) / 100) * 2) + 1) := by simp (disch := omega) only [h13, e8, w32_in]
 rw [show inRange a13 200 = true by rw [inRange_iff, e13]; omega, iteP_t]
 rw [show inRange a8 200 = true by rw [inRange_iff, e8]; omega, iteP_t]
 intro a14 h14
 have e14 : a14 = (n / 100000000) := by simp (disch := omega) only [h14, e3, w32_in]
 intro a15 h15
 have e15 : a15 = (48 + (n / 100000000)) := by simp (disch := omega) only [h15, e14, w32_in, wrap8_in]
 rw [iteP_f]
 have d0 : UInt8.ofNat a15.toNat = digitC (n.toNat / 100000000) := dg_of (by rw [e15]; omega) (by omega)
 have d1 : UInt8.ofNat (byteAt twoTab a8).toNat = digitC (n.toNat / 10000000 % 10) := dg_of (by rw [e8, (two_ok (x := (((n % 100000000) / 10000) / 100)) (by omega) (by omega)).1]; omega) (by omega)
 have d2 : UInt8.ofNat (byteAt twoTab a13).toNat = digitC (n.toNat / 1000000 % 10) := dg_of (by rw [e13, (two_ok (x := (((n % 100000000) / 10000) / 100)) (by omega) (by omega)).2]; omega) (by omega)
 have d3 : UInt8.ofNat (byteAt twoTab a9).toNat = digitC (n.toNat / 100000 % 10) := dg_of (by rw [e9, (two_ok (x := (((n % 100000000) / 10000) % 100)) (by omega) (by omega)).1]; omega) (by omega)
 have d4 : UInt8.ofNat (byteAt twoTab a12).toNat = digitC (n.toNat / 10000 % 10) := dg_of (by rw [e12, (two_ok (x := (((n % 100000000) / 10000) % 100)) (by omega) (by omega)).2]; omega) (by omega)
 have d5 : UInt8.ofNat (byteAt twoTab a6).toNat = digitC (n.toNat / 1000 % 10) := dg_of (by rw [e6, (two_ok (x := (((n % 100000000) % 10000) / 100)) (by omega) (by omega)).1]; omega) (by omega)
 have d6 : UInt8.ofNat (byteAt twoTab a11).toNat = digitC (n.toNat / 100 % 10) := dg_of (by rw [e11, (two_ok (x := (((n % 100000000) % 10000) / 100)) (by omega) (by omega)).2]; omega) (by omega)
 have d7 : UInt8.ofNat (byteAt twoTab a7).toNat = digitC (n.toNat / 10 % 10) := dg_of (by rw [e7, (two_ok (x := (((n % 100000000) % 10000) % 100)) (by omega) (by omega)).1]; omega) (by omega)
 have d8 : UInt8.ofNat (byteAt twoTab a10).toNat = digitC (n.toNat % 10) := dg_of (by rw [e10, (two_ok (x := (((n % 100000000) % 10000) % 100)) (by omega) (by omega)).2]; omega) (by omega)
 have f : fmtN 10 n.toNat = [digitC (n.toNat / 100000000), digitC (n.toNat / 10000000 % 10), digitC (n.toNat / 1000000 % 10), digitC (n.toNat / 100000 % 10), digitC (n.toNat / 10000 % 10), digitC (n.toNat / 1000 % 10), digitC (n.toNat / 100 % 10), digitC (n.toNat / 10 % 10), digitC (n.toNat % 10)] := by
  unfold fmtN
  rw [dig_step (by omega), dig_step (by omega), dig_step (by omega), dig_step (by omega), dig_step (by omega), dig_step (by omega), dig_step (by omega), dig_step (by omega), dig_last (by omega)]
  simp only [Nat.div_div_eq_div_mul]
 rw [f] at hk
 rw [d0, d1, d2, d3, d4, d5, d6, d7, d8]
 exact hk
theorem dec_10 (n : Int) (h1 : 1000000000 ≤ n) (h2 : n ≤ 4294967295) (K : AV → Prop) (hk : K (aStr (fmtN 10 n.toNat))) : wpCall (Dk 10) Door.cfg Tryd.prog 60 67 [aK .i64 n, aK .i64 10] heapF fun r h' => wpBack h' r K := by
 refine d67_10 n K ?_
 have hneg : decide (n < (0 : Int)) = false := decide_eq_false (by omega)
 rw [decide_eq_true (show (0 : Int) ≤ n by omega), iteP_t, decide_eq_false (show ¬ n < (100 : Int) by omega), iteP_f]
 intro a1 h1
 have e1 : a1 = n := by simp (disch := omega) only [h1, w64_in]
 rw [hneg, iteP_f]
 refine ⟨by rw [e1]; omega, ?_⟩
 intro _ _
 intro a2 h2
 have e2 : a2 = (n % 100000000) := by simp (disch := omega) only [h2, e1, tm, w32_in]
 intro a3 h3
 have e3 : a3 = (n / 100000000) := by simp (disch := omega) only [h3, e1, td, w64_in]
 intro a4 h4
 have e4 : a4 = ((n % 100000000) / 10000) := by simp (disch := omega) only [h4, e2, td, w32_in]
 intro a5 h5
 have e5 : a5 = ((n % 100000000) % 10000) := by simp (disch := omega) only [h5, e2, tm]
 intro a6 h6
 have e6 : a6 = ((((n % 100000000) % 10000) / 100) * 2) := by simp (disch := omega) only [h6, e5, td, w32_in]
 intro a7 h7
 have e7 : a7 = ((((n % 100000000) % 10000) % 100) * 2) := by simp (disch := omega) only [h7, e5, tm, w32_in]
 intro a8 h8
 have e8 : a8 = ((((n % 100000000) / 10000) / 100) * 2) := by simp (disch := omega) only [h8, e4, td, w32_in]
 intro a9 h9
 have e9 : a9 = ((((n % 100000000) / 10000) % 100) * 2) := by simp (disch := omega) only [h9, e4, tm, w32_in]
 intro a10 h10
 have e10 : a10 = (((((n % 100000000) % 10000) % 100) * 2) + 1) := by simp (disch := omega) only [h10, e7, w32_in]
 rw [show inRange a10 200 = true by rw [inRange_iff, e10]; omega, iteP_t]
 rw [show inRange a7 200 = true by rw [inRange_iff, e7]; omega, iteP_t]
 intro a11 h11
 have e11 : a11 = (((((n % 100000000) % 10000) / 100) * 2) + 1) := by simp (disch := omega) only [h11, e6, w32_in]
 rw [show inRange a11 200 = true by rw [inRange_iff, e11]; omega, iteP_t]
 rw [show inRange a6 200 = true by rw [inRange_iff, e6]; omega, iteP_t]
 intro a12 h12
 have e12 : a12 = (((((n % 100000000) / 10000) % 100) * 2) + 1) := by simp (disch := omega) only [h12, e9, w32_in]
 rw [show inRange a12 200 = true by rw [inRange_iff, e12]; omega, iteP_t]
 rw [show inRange a9 200 = true by rw [inRange_iff, e9]; omega, iteP_t]
 intro a13 h13
 have e13 : a13 = (((((n % 100000000) / 10000) / 100) * 2) + 1) := by simp (disch := omega) only [h13, e8, w32_in]
 rw [show inRange a13 200 = true by rw [inRange_iff, e13]; omega, iteP_t]
 rw [show inRange a8 200 = true by rw [inRange_iff, e8]; omega, iteP_t]
 intro a14 h14
 have e14 : a14 = (n / 100000000) := by simp (disch := omega) only [h14, e3, w32_in]
 intro a15 h15
 have e15 : a15 = (((n / 100000000) % 100) * 2) := by simp (disch := omega) only [h15, e14, tm, w32_in]
 intro a16 h16
 have e16 : a16 = ((n / 100000000) / 100) := by simp (disch := omega) only [h16, e14, td, w32_in]
 intro a17 h17
 have e17 : a17 = (((n / 100000000) % 100) * 2) := by simp (disch := omega) only [h17, e15]
 have e18 : (IntKind.u32.wrap (a17 + (1 : Int))) = ((((n / 100000000) % 100) * 2) + 1) := by simp (disch := omega) only [e17, w32_in]
 rw [show inRange (IntKind.u32.wrap (a17 + (1 : Int))) 200 = true by rw [inRange_iff, e18]; omega, iteP_t]
 rw [show inRange a15 200 = true by rw [inRange_iff, e15]; omega, iteP_t]
 rw [iteP_f]
 have d0 : UInt8.ofNat (byteAt twoTab a15).toNat = digitC (n.toNat / 1000000000) := dg_of (by rw [e15, (two_ok (x := ((n / 100000000) % 100)) (by omega) (by omega)).1]; omega) (by omega)
 have d1 : UInt8.ofNat (byteAt twoTab (IntKind.u32.wrap (a17 + (1 : Int)))).toNat = digitC (n.toNat / 100000000 % 10) := dg_of (by rw [e18, (two_ok (x := ((n / 100000000) % 100)) (by omega) (by omega)).2]; omega) (by omega)
 have d2 : UInt8.ofNat (byteAt twoTab a8).toNat = digitC (n.toNat / 10000000 % 10) := dg_of (by rw [e8, (two_ok (x := (((n % 100000000) / 10000) / 100)) (by omega) (by omega)).1]; omega) (by omega)
 have d3 : UInt8.ofNat (byteAt twoTab a13).toNat = digitC (n.toNat / 1000000 % 10) := dg_of (by rw [e13, (two_ok (x := (((n % 100000000) / 10000) / 100)) (by omega) (by omega)).2]; omega) (by omega)
 have d4 : UInt8.ofNat (byteAt twoTab a9).toNat = digitC (n.toNat / 100000 % 10) := dg_of (by rw [e9, (two_ok (x := (((n % 100000000) / 10000) % 100)) (by omega) (by omega)).1]; omega) (by omega)
 have d5 : UInt8.ofNat (byteAt twoTab a12).toNat = digitC (n.toNat / 10000 % 10) := dg_of (by rw [e12, (two_ok (x := (((n % 100000000) / 10000) % 100)) (by omega) (by omega)).2]; omega) (by omega)
 have d6 : UInt8.ofNat (byteAt twoTab a6).toNat = digitC (n.toNat / 1000 % 10) := dg_of (by rw [e6, (two_ok (x := (((n % 100000000) % 10000) / 100)) (by omega) (by omega)).1]; omega) (by omega)
 have d7 : UInt8.ofNat (byteAt twoTab a11).toNat = digitC (n.toNat / 100 % 10) := dg_of (by rw [e11, (two_ok (x := (((n % 100000000) % 10000) / 100)) (by omega) (by omega)).2]; omega) (by omega)
 have d8 : UInt8.ofNat (byteAt twoTab a7).toNat = digitC (n.toNat / 10 % 10) := dg_of (by rw [e7, (two_ok (x := (((n % 100000000) % 10000) % 100)) (by omega) (by omega)).1]; omega) (by omega)
 have d9 : UInt8.ofNat (byteAt twoTab a10).toNat = digitC (n.toNat % 10) := dg_of (by rw [e10, (two_ok (x := (((n % 100000000) % 10000) % 100)) (by omega) (by omega)).2]; omega) (by omega)
 have f : fmtN 10 n.toNat = [digitC (n.toNat / 1000000000), digitC (n.toNat / 100000000 % 10), digitC (n.toNat / 10000000 % 10), digitC (n.toNat / 1000000 % 10), digitC (n.toNat / 100000 % 10), digitC (n.toNat / 10000 % 10), digitC (n.toNat / 1000 % 10), digitC (n.toNat / 100 % 10), digitC (n.toNat / 10 % 10), digitC (n.toNat % 10)] := by
  unfold fmtN
  rw [dig_step (by omega), dig_step (by omega), dig_step (by omega), dig_step (by omega), dig_step (by omega), dig_step (by omega), dig_step (by omega), dig_step (by omega), dig_step (by omega), dig_last (by omega)]
  simp only [Nat.div_div_eq_div_mul]
 rw [f] at hk
 rw [d0, d1, d2, d3, d4, d5, d6, d7, d8, d9]
 exact hk
end
end Go.Proofs.Pr
namespace Go.Proofs.Pr
open Go Go.Ef
noncomputable section
set_option maxRecDepth 100000
def lenOk (y : Int) : Bool := (decide (byteAt lenTab y = 1) && decide (1 ≤ y) && decide (y < 2)) || (decide (byteAt lenTab y = 2) && decide (2 ≤ y) && decide (y < 4)) || (decide (byteAt lenTab y = 3) && decide (4 ≤ y) && decide (y < 8)) || (decide (byteAt lenTab y = 4) && decide (8 ≤ y) && decide (y < 16)) || (decide (byteAt lenTab y = 5) && decide (16 ≤ y) && decide (y < 32)) || (decide (byteAt lenTab y = 6) && decide (32 ≤ y) && decide (y < 64)) || (decide (byteAt lenTab y = 7) && decide (64 ≤ y) && decide (y < 128)) || (decide (byteAt lenTab y = 8) && decide (128 ≤ y) && decide (y < 256))
theorem len_all : (List.range 255).all (fun k => lenOk ((k : Int) + 1)) = true := by decide +kernel
theorem len_cases {y : Int} (h1 : 1 ≤ y) (h2 : y ≤ 255) : (byteAt lenTab y = 1 ∧ 1 ≤ y ∧ y < 2) ∨ (byteAt lenTab y = 2 ∧ 2 ≤ y ∧ y < 4) ∨ (byteAt lenTab y = 3 ∧ 4 ≤ y ∧ y < 8) ∨ (byteAt lenTab y = 4 ∧ 8 ≤ y ∧ y < 16) ∨ (byteAt lenTab y = 5 ∧ 16 ≤ y ∧ y < 32) ∨ (byteAt lenTab y = 6 ∧ 32 ≤ y ∧ y < 64) ∨ (byteAt lenTab y = 7 ∧ 64 ≤ y ∧ y < 128) ∨ (byteAt lenTab y = 8 ∧ 128 ≤ y ∧ y < 256) := by
 obtain ⟨k, hk⟩ := Int.eq_ofNat_of_zero_le (show 0 ≤ y - 1 by omega)
 obtain rfl : y = (k : Int) + 1 := by omega
 have := List.all_eq_true.1 len_all k (by simp; omega)
 unfold lenOk at this
 simp only [Bool.or_eq_true, Bool.and_eq_true, decide_eq_true_eq, and_assoc, or_assoc] at this
 exact this
theorem len_0 {u y : Int} (hy : y = u / 1) (h1 : 1 ≤ y) (h2 : y ≤ 255) : LenP u (0 + byteAt lenTab y) := by
 rcases len_cases h1 (by omega) with h | h | h | h | h | h | h | h <;> obtain ⟨e, a, b⟩ := h <;> rw [e]
 ·exact ⟨(.inl ⟨by omega, by omega, by omega⟩)⟩
 ·exact ⟨(.inr (.inl ⟨by omega, by omega, by omega⟩))⟩
 ·exact ⟨(.inr (.inr (.inl ⟨by omega, by omega, by omega⟩)))⟩
 ·exact ⟨(.inr (.inr (.inr (.inl ⟨by omega, by omega, by omega⟩))))⟩
 ·exact ⟨(.inr (.inr (.inr (.inr (.inl ⟨by omega, by omega, by omega⟩)))))⟩
 ·exact ⟨(.inr (.inr (.inr (.inr (.inr (.inl ⟨by omega, by omega, by omega⟩))))))⟩
 ·exact ⟨(.inr (.inr (.inr (.inr (.inr (.inr (.inl ⟨by omega, by omega, by omega⟩)))))))⟩
 ·exact ⟨(.inr (.inr (.inr (.inr (.inr (.inr (.inr (.inl ⟨by omega, by omega, by omega⟩))))))))⟩
theorem len_8 {u y : Int} (hy : y = u / 256) (h1 : 1 ≤ y) (h2 : y ≤ 255) : LenP u (8 + byteAt lenTab y) := by
 rcases len_cases h1 (by omega) with h | h | h | h | h | h | h | h <;> obtain ⟨e, a, b⟩ := h <;> rw [e]
 ·exact ⟨(.inr (.inr (.inr (.inr (.inr (.inr (.inr (.inr (.inl ⟨by omega, by omega, by omega⟩)))))))))⟩
 ·exact ⟨(.inr (.inr (.inr (.inr (.inr (.inr (.inr (.inr (.inr (.inl ⟨by omega, by omega, by omega⟩))))))))))⟩
 ·exact ⟨(.inr (.inr (.inr (.inr (.inr (.inr (.inr (.inr (.inr (.inr (.inl ⟨by omega, by omega, by omega⟩)))))))))))⟩
 ·exact ⟨(.inr (.inr (.inr (.inr (.inr (.inr (.inr (.inr (.inr (.inr (.inr (.inl ⟨by omega, by omega, by omega⟩))))))))))))⟩
 ·exact ⟨(.inr (.inr (.inr (.inr (.inr (.inr (.inr (.inr (.inr (.inr (.inr (.inr (.inl ⟨by omega, by omega, by omega⟩)))))))))))))⟩
 ·exact ⟨(.inr (.inr (.inr (.inr (.inr (.inr (.inr (.inr (.inr (.inr (.inr (.inr (.inr (.inl ⟨by omega, by omega, by omega⟩))))))))))))))⟩
 ·exact ⟨(.inr (.inr (.inr (.inr (.inr (.inr (.inr (.inr (.inr (.inr (.inr (.inr (.inr (.inr (.inl ⟨by omega, by omega, by omega⟩)))))))))))))))⟩
 ·exact ⟨(.inr (.inr (.inr (.inr (.inr (.inr (.inr (.inr (.inr (.inr (.inr (.inr (.inr (.inr (.inr (.inl ⟨by omega, by omega, by omega⟩))))))))))))))))⟩
theorem len_16 {u y : Int} (hy : y = u / 65536) (h1 : 1 ≤ y) (h2 : y ≤ 255) : LenP u (16 + byteAt lenTab y) := by
 rcases len_cases h1 (by omega) with h | h | h | h | h | h | h | h <;> obtain ⟨e, a, b⟩ := h <;> rw [e]
 ·exact ⟨(.inr (.inr (.inr (.inr (.inr (.inr (.inr (.inr (.inr (.inr (.inr (.inr (.inr (.inr (.inr (.inr (.inl ⟨by omega, by omega, by omega⟩)))))))))))))))))⟩
 ·exact ⟨(.inr (.inr (.inr (.inr (.inr (.inr (.inr (.inr (.inr (.inr (.inr (.inr (.inr (.inr (.inr (.inr (.inr (.inl ⟨by omega, by omega, by omega⟩))))))))))))))))))⟩
 ·exact ⟨(.inr (.inr (.inr (.inr (.inr (.inr (.inr (.inr (.inr (.inr (.inr (.inr (.inr (.inr (.inr (.inr (.inr (.inr (.inl ⟨by omega, by omega, by omega⟩)))))))))))))))))))⟩
 ·exact ⟨(.inr (.inr (.inr (.inr (.inr (.inr (.inr (.inr (.inr (.inr (.inr (.inr (.inr (.inr (.inr (.inr (.inr (.inr (.inr (.inl ⟨by omega, by omega, by omega⟩))))))))))))))))))))⟩
 ·exact ⟨(.inr (.inr (.inr (.inr (.inr (.inr (.inr (.inr (.inr (.inr (.inr (.inr (.inr (.inr (.inr (.inr (.inr (.inr (.inr (.inr (.inl ⟨by omega, by omega, by omega⟩)))))))))))))))))))))⟩
 ·exact ⟨(.inr (.inr (.inr (.inr (.inr (.inr (.inr (.inr (.inr (.inr (.inr (.inr (.inr (.inr (.inr (.inr (.inr (.inr (.inr (.inr (.inr (.inl ⟨by omega, by omega, by omega⟩))))))))))))))))))))))⟩
 ·exact ⟨(.inr (.inr (.inr (.inr (.inr (.inr (.inr (.inr (.inr (.inr (.inr (.inr (.inr (.inr (.inr (.inr (.inr (.inr (.inr (.inr (.inr (.inr (.inl ⟨by omega, by omega, by omega⟩)))))))))))))))))))))))⟩
 ·exact ⟨(.inr (.inr (.inr (.inr (.inr (.inr (.inr (.inr (.inr (.inr (.inr (.inr (.inr (.inr (.inr (.inr (.inr (.inr (.inr (.inr (.inr (.inr (.inr (.inl ⟨by omega, by omega, by omega⟩))))))))))))))))))))))))⟩
theorem len_24 {u y : Int} (hy : y = u / 16777216) (h1 : 1 ≤ y) (h2 : y ≤ 255) : LenP u (24 + byteAt lenTab y) := by
 rcases len_cases h1 (by omega) with h | h | h | h | h | h | h | h <;> obtain ⟨e, a, b⟩ := h <;> rw [e]
 ·exact ⟨(.inr (.inr (.inr (.inr (.inr (.inr (.inr (.inr (.inr (.inr (.inr (.inr (.inr (.inr (.inr (.inr (.inr (.inr (.inr (.inr (.inr (.inr (.inr (.inr (.inl ⟨by omega, by omega, by omega⟩)))))))))))))))))))))))))⟩
 ·exact ⟨(.inr (.inr (.inr (.inr (.inr (.inr (.inr (.inr (.inr (.inr (.inr (.inr (.inr (.inr (.inr (.inr (.inr (.inr (.inr (.inr (.inr (.inr (.inr (.inr (.inr (.inl ⟨by omega, by omega, by omega⟩))))))))))))))))))))))))))⟩
 ·exact ⟨(.inr (.inr (.inr (.inr (.inr (.inr (.inr (.inr (.inr (.inr (.inr (.inr (.inr (.inr (.inr (.inr (.inr (.inr (.inr (.inr (.inr (.inr (.inr (.inr (.inr (.inr (.inl ⟨by omega, by omega, by omega⟩)))))))))))))))))))))))))))⟩
 ·exact ⟨(.inr (.inr (.inr (.inr (.inr (.inr (.inr (.inr (.inr (.inr (.inr (.inr (.inr (.inr (.inr (.inr (.inr (.inr (.inr (.inr (.inr (.inr (.inr (.inr (.inr (.inr (.inr (.inl ⟨by omega, by omega, by omega⟩))))))))))))))))))))))))))))⟩
 ·exact ⟨(.inr (.inr (.inr (.inr (.inr (.inr (.inr (.inr (.inr (.inr (.inr (.inr (.inr (.inr (.inr (.inr (.inr (.inr (.inr (.inr (.inr (.inr (.inr (.inr (.inr (.inr (.inr (.inr (.inl ⟨by omega, by omega, by omega⟩)))))))))))))))))))))))))))))⟩
 ·exact ⟨(.inr (.inr (.inr (.inr (.inr (.inr (.inr (.inr (.inr (.inr (.inr (.inr (.inr (.inr (.inr (.inr (.inr (.inr (.inr (.inr (.inr (.inr (.inr (.inr (.inr (.inr (.inr (.inr (.inr (.inl ⟨by omega, by omega, by omega⟩))))))))))))))))))))))))))))))⟩
 ·exact ⟨(.inr (.inr (.inr (.inr (.inr (.inr (.inr (.inr (.inr (.inr (.inr (.inr (.inr (.inr (.inr (.inr (.inr (.inr (.inr (.inr (.inr (.inr (.inr (.inr (.inr (.inr (.inr (.inr (.inr (.inr (.inl ⟨by omega, by omega, by omega⟩)))))))))))))))))))))))))))))))⟩
 ·exact ⟨(.inr (.inr (.inr (.inr (.inr (.inr (.inr (.inr (.inr (.inr (.inr (.inr (.inr (.inr (.inr (.inr (.inr (.inr (.inr (.inr (.inr (.inr (.inr (.inr (.inr (.inr (.inr (.inr (.inr (.inr (.inr (.inl ⟨by omega, by omega, by omega⟩))))))))))))))))))))))))))))))))⟩
theorem len_32 {u y : Int} (hy : y = u / 4294967296) (h1 : 1 ≤ y) (h2 : y ≤ 3) : LenP u (32 + byteAt lenTab y) := by
 rcases len_cases h1 (by omega) with h | h | h | h | h | h | h | h <;> obtain ⟨e, a, b⟩ := h <;> rw [e]
 ·exact ⟨(.inr (.inr (.inr (.inr (.inr (.inr (.inr (.inr (.inr (.inr (.inr (.inr (.inr (.inr (.inr (.inr (.inr (.inr (.inr (.inr (.inr (.inr (.inr (.inr (.inr (.inr (.inr (.inr (.inr (.inr (.inr (.inr (.inl ⟨by omega, by omega, by omega⟩)))))))))))))))))))))))))))))))))⟩
 ·exact ⟨(.inr (.inr (.inr (.inr (.inr (.inr (.inr (.inr (.inr (.inr (.inr (.inr (.inr (.inr (.inr (.inr (.inr (.inr (.inr (.inr (.inr (.inr (.inr (.inr (.inr (.inr (.inr (.inr (.inr (.inr (.inr (.inr (.inr ⟨by omega, by omega, by omega⟩)))))))))))))))))))))))))))))))))⟩
 ·omega
 ·omega
 ·omega
 ·omega
 ·omega
 ·omega
theorem ok96 {T : Tab} (O : TabOk Tryd.prog Door.cfg T) : TabOk Tryd.prog Door.cfg (T.addC 96 C96) := by
 refine addC_ok O fun args h s hs hp => ?_
 unfold C96 at hs
 split at hs
 ·rename_i u
  refine aspec_ok (Option.some.inj hs) (fun hpre => ?_) hp
  obtain ⟨p1, p2⟩ := hpre
  refine EvP_mono (EvP.freshK tab0_ok (n := 60) (Q := fun r => ∃ x, LenP u x ∧ r = aK .i64 x) (by kernel_rfl) (by kernel_rfl) (args' := [aK .u64 u]) rfl (d96 u _ ?_)) fun v h' hv => hv
  have bb : ∀ y : Int, 0 ≤ byteAt lenTab y ∧ byteAt lenTab y ≤ 255 := fun y => byteAt_le _ _
  have fd : ∀ (a b : Int), 0 ≤ b → a.fdiv b = a / b := fun a b hb => Int.fdiv_eq_ediv_of_nonneg a hb
  by_cases c1 : (4294967296 : Int) ≤ u
  ·rw [decide_eq_true c1, iteP_t]
   have e : u.fdiv 4294967296 = u / 4294967296 := fd _ _ (by omega)
   rw [e, decide_eq_false (by omega), iteP_f, decide_eq_false (by omega), iteP_f, wrap8_in (by omega) (by omega), show inRange (u / 4294967296) 256 = true by rw [inRange_iff]; omega, iteP_t]
   have := bb (u / 4294967296)
   rw [show IntKind.i64.wrap (byteAt lenTab (u / 4294967296)) = byteAt lenTab (u / 4294967296) from wrap_in (by omega) (by omega), wrap_in (by omega) (by omega)]
   exact ⟨_, len_32 rfl (by omega) (by omega), rfl⟩
  ·rw [decide_eq_false c1, iteP_f]
   by_cases c2 : (65536 : Int) ≤ u
   ·rw [decide_eq_true c2, iteP_t]
    have e : u.fdiv 65536 = u / 65536 := fd _ _ (by omega)
    rw [e]
    by_cases c3 : (256 : Int) ≤ u / 65536
    ·rw [decide_eq_true c3, iteP_t]
     have e2 : (u / 65536).fdiv 256 = u / 16777216 := by rw [fd _ _ (by omega)]; omega
     rw [e2, wrap8_in (by omega) (by omega), show inRange (u / 16777216) 256 = true by rw [inRange_iff]; omega, iteP_t]
     have := bb (u / 16777216)
     rw [show IntKind.i64.wrap (byteAt lenTab (u / 16777216)) = byteAt lenTab (u / 16777216) from wrap_in (by omega) (by omega), wrap_in (by omega) (by omega)]
     exact ⟨_, len_24 rfl (by omega) (by omega), rfl⟩
    ·rw [decide_eq_false c3, iteP_f, wrap8_in (by omega) (by omega), show inRange (u / 65536) 256 = true by rw [inRange_iff]; omega, iteP_t]
     have := bb (u / 65536)
     rw [show IntKind.i64.wrap (byteAt lenTab (u / 65536)) = byteAt lenTab (u / 65536) from wrap_in (by omega) (by omega), wrap_in (by omega) (by omega)]
     exact ⟨_, len_16 rfl (by omega) (by omega), rfl⟩
   ·rw [decide_eq_false c2, iteP_f]
    by_cases c3 : (256 : Int) ≤ u
    ·rw [decide_eq_true c3, iteP_t]
     have e2 : u.fdiv 256 = u / 256 := fd _ _ (by omega)
     rw [e2, wrap8_in (by omega) (by omega), show inRange (u / 256) 256 = true by rw [inRange_iff]; omega, iteP_t]
     have := bb (u / 256)
     rw [show IntKind.i64.wrap (byteAt lenTab (u / 256)) = byteAt lenTab (u / 256) from wrap_in (by omega) (by omega), wrap_in (by omega) (by omega)]
     exact ⟨_, len_8 rfl (by omega) (by omega), rfl⟩
    ·rw [decide_eq_false c3, iteP_f, wrap8_in (by omega) (by omega), show inRange u 256 = true by rw [inRange_iff]; omega, iteP_t]
     have := bb u
     rw [show IntKind.i64.wrap (byteAt lenTab u) = byteAt lenTab u from wrap_in (by omega) (by omega), wrap_in (by omega) (by omega)]
     exact ⟨_, len_0 (by omega) (by omega) (by omega), rfl⟩
 ·cases hs
theorem dig_ok (u : Int) (p1 : 1 ≤ u) (p2 : u < 17179869184) : wpCall D0 Door.cfg Tryd.prog 60 83 [aK .u64 u] heapF fun r h' => wpBack h' r fun r => ∃ x, DigP u x ∧ r = aK .i64 x := by
 refine d83 u (fun r => ∃ x, DigP u x ∧ r = aK .i64 x) ⟨⟨p1, p2⟩, fun x hx => ?_⟩
 rcases hx.h with h | h | h | h | h | h | h | h | h | h | h | h | h | h | h | h | h | h | h | h | h | h | h | h | h | h | h | h | h | h | h | h | h | h <;> obtain ⟨rfl, a, b⟩ := h
 ·rw [show (IntKind.i64.wrap ((1 : Int) * 78913)).fdiv 262144 = 0 from rfl]
  show iteP (decide ((1 : Int) ≤ u)) (∃ x, DigP u x ∧ aK .i64 (1 : Int) = aK .i64 x) (∃ x, DigP u x ∧ aK .i64 (0 : Int) = aK .i64 x)
  by_cases c : (1 : Int) ≤ u
  ·rw [decide_eq_true c, iteP_t]
   exact ⟨_, ⟨(.inl ⟨rfl, by omega, by omega⟩)⟩, rfl⟩
  ·omega
 ·rw [show (IntKind.i64.wrap ((2 : Int) * 78913)).fdiv 262144 = 0 from rfl]
  show iteP (decide ((1 : Int) ≤ u)) (∃ x, DigP u x ∧ aK .i64 (1 : Int) = aK .i64 x) (∃ x, DigP u x ∧ aK .i64 (0 : Int) = aK .i64 x)
  by_cases c : (1 : Int) ≤ u
  ·rw [decide_eq_true c, iteP_t]
   exact ⟨_, ⟨(.inl ⟨rfl, by omega, by omega⟩)⟩, rfl⟩
  ·omega
 ·rw [show (IntKind.i64.wrap ((3 : Int) * 78913)).fdiv 262144 = 0 from rfl]
  show iteP (decide ((1 : Int) ≤ u)) (∃ x, DigP u x ∧ aK .i64 (1 : Int) = aK .i64 x) (∃ x, DigP u x ∧ aK .i64 (0 : Int) = aK .i64 x)
  by_cases c : (1 : Int) ≤ u
  ·rw [decide_eq_true c, iteP_t]
   exact ⟨_, ⟨(.inl ⟨rfl, by omega, by omega⟩)⟩, rfl⟩
  ·omega
 ·rw [show (IntKind.i64.wrap ((4 : Int) * 78913)).fdiv 262144 = 1 from rfl]
  show iteP (decide ((10 : Int) ≤ u)) (∃ x, DigP u x ∧ aK .i64 (2 : Int) = aK .i64 x) (∃ x, DigP u x ∧ aK .i64 (1 : Int) = aK .i64 x)
  by_cases c : (10 : Int) ≤ u
  ·rw [decide_eq_true c, iteP_t]
   exact ⟨_, ⟨(.inr (.inl ⟨rfl, by omega, by omega⟩))⟩, rfl⟩
  ·rw [decide_eq_false c, iteP_f]
   exact ⟨_, ⟨(.inl ⟨rfl, by omega, by omega⟩)⟩, rfl⟩
 ·rw [show (IntKind.i64.wrap ((5 : Int) * 78913)).fdiv 262144 = 1 from rfl]
  show iteP (decide ((10 : Int) ≤ u)) (∃ x, DigP u x ∧ aK .i64 (2 : Int) = aK .i64 x) (∃ x, DigP u x ∧ aK .i64 (1 : Int) = aK .i64 x)
  by_cases c : (10 : Int) ≤ u
  ·rw [decide_eq_true c, iteP_t]
   exact ⟨_, ⟨(.inr (.inl ⟨rfl, by omega, by omega⟩))⟩, rfl⟩
  ·rw [decide_eq_false c, iteP_f]
   exact ⟨_, ⟨(.inl ⟨rfl, by omega, by omega⟩)⟩, rfl⟩
 ·rw [show (IntKind.i64.wrap ((6 : Int) * 78913)).fdiv 262144 = 1 from rfl]
  show iteP (decide ((10 : Int) ≤ u)) (∃ x, DigP u x ∧ aK .i64 (2 : Int) = aK .i64 x) (∃ x, DigP u x ∧ aK .i64 (1 : Int) = aK .i64 x)
  by_cases c : (10 : Int) ≤ u
  ·rw [decide_eq_true c, iteP_t]
   exact ⟨_, ⟨(.inr (.inl ⟨rfl, by omega, by omega⟩))⟩, rfl⟩
  ·rw [decide_eq_false c, iteP_f]
   exact ⟨_, ⟨(.inl ⟨rfl, by omega, by omega⟩)⟩, rfl⟩
 ·rw [show (IntKind.i64.wrap ((7 : Int) * 78913)).fdiv 262144 = 2 from rfl]
  show iteP (decide ((100 : Int) ≤ u)) (∃ x, DigP u x ∧ aK .i64 (3 : Int) = aK .i64 x) (∃ x, DigP u x ∧ aK .i64 (2 : Int) = aK .i64 x)
  by_cases c : (100 : Int) ≤ u
  ·rw [decide_eq_true c, iteP_t]
   exact ⟨_, ⟨(.inr (.inr (.inl ⟨rfl, by omega, by omega⟩)))⟩, rfl⟩
  ·rw [decide_eq_false c, iteP_f]
   exact ⟨_, ⟨(.inr (.inl ⟨rfl, by omega, by omega⟩))⟩, rfl⟩
 ·rw [show (IntKind.i64.wrap ((8 : Int) * 78913)).fdiv 262144 = 2 from rfl]
  show iteP (decide ((100 : Int) ≤ u)) (∃ x, DigP u x ∧ aK .i64 (3 : Int) = aK .i64 x) (∃ x, DigP u x ∧ aK .i64 (2 : Int) = aK .i64 x)
  by_cases c : (100 : Int) ≤ u
  ·rw [decide_eq_true c, iteP_t]
   exact ⟨_, ⟨(.inr (.inr (.inl ⟨rfl, by omega, by omega⟩)))⟩, rfl⟩
  ·rw [decide_eq_false c, iteP_f]
   exact ⟨_, ⟨(.inr (.inl ⟨rfl, by omega, by omega⟩))⟩, rfl⟩
 ·rw [show (IntKind.i64.wrap ((9 : Int) * 78913)).fdiv 262144 = 2 from rfl]
  show iteP (decide ((100 : Int) ≤ u)) (∃ x, DigP u x ∧ aK .i64 (3 : Int) = aK .i64 x) (∃ x, DigP u x ∧ aK .i64 (2 : Int) = aK .i64 x)
  by_cases c : (100 : Int) ≤ u
  ·rw [decide_eq_true c, iteP_t]
   exact ⟨_, ⟨(.inr (.inr (.inl ⟨rfl, by omega, by omega⟩)))⟩, rfl⟩
  ·rw [decide_eq_false c, iteP_f]
   exact ⟨_, ⟨(.inr (.inl ⟨rfl, by omega, by omega⟩))⟩, rfl⟩
 ·rw [show (IntKind.i64.wrap ((10 : Int) * 78913)).fdiv 262144 = 3 from rfl]
  show iteP (decide ((1000 : Int) ≤ u)) (∃ x, DigP u x ∧ aK .i64 (4 : Int) = aK .i64 x) (∃ x, DigP u x ∧ aK .i64 (3 : Int) = aK .i64 x)
  by_cases c : (1000 : Int) ≤ u
  ·rw [decide_eq_true c, iteP_t]
   exact ⟨_, ⟨(.inr (.inr (.inr (.inl ⟨rfl, by omega, by omega⟩))))⟩, rfl⟩
  ·rw [decide_eq_false c, iteP_f]
   exact ⟨_, ⟨(.inr (.inr (.inl ⟨rfl, by omega, by omega⟩)))⟩, rfl⟩
 ·rw [show (IntKind.i64.wrap ((11 : Int) * 78913)).fdiv 262144 = 3 from rfl]
  show iteP (decide ((1000 : Int) ≤ u)) (∃ x, DigP u x ∧ aK .i64 (4 : Int) = aK .i64 x) (∃ x, DigP u x ∧ aK .i64 (3 : Int) = aK .i64 x)
  by_cases c : (1000 : Int) ≤ u
  ·rw [decide_eq_true c, iteP_t]
   exact ⟨_, ⟨(.inr (.inr (.inr (.inl ⟨rfl, by omega, by omega⟩))))⟩, rfl⟩
  ·rw [decide_eq_false c, iteP_f]
   exact ⟨_, ⟨(.inr (.inr (.inl ⟨rfl, by omega, by omega⟩)))⟩, rfl⟩
 ·rw [show (IntKind.i64.wrap ((12 : Int) * 78913)).fdiv 262144 = 3 from rfl]
  show iteP (decide ((1000 : Int) ≤ u)) (∃ x, DigP u x ∧ aK .i64 (4 : Int) = aK .i64 x) (∃ x, DigP u x ∧ aK .i64 (3 : Int) = aK .i64 x)
  by_cases c : (1000 : Int) ≤ u
  ·rw [decide_eq_true c, iteP_t]
   exact ⟨_, ⟨(.inr (.inr (.inr (.inl ⟨rfl, by omega, by omega⟩))))⟩, rfl⟩
  ·rw [decide_eq_false c, iteP_f]
   exact ⟨_, ⟨(.inr (.inr (.inl ⟨rfl, by omega, by omega⟩)))⟩, rfl⟩
 ·rw [show (IntKind.i64.wrap ((13 : Int) * 78913)).fdiv 262144 = 3 from rfl]
  show iteP (decide ((1000 : Int) ≤ u)) (∃ x, DigP u x ∧ aK .i64 (4 : Int) = aK .i64 x) (∃ x, DigP u x ∧ aK .i64 (3 : Int) = aK .i64 x)
  by_cases c : (1000 : Int) ≤ u
  ·rw [decide_eq_true c, iteP_t]
   exact ⟨_, ⟨(.inr (.inr (.inr (.inl ⟨rfl, by omega, by omega⟩))))⟩, rfl⟩
  ·rw [decide_eq_false c, iteP_f]
   exact ⟨_, ⟨(.inr (.inr (.inl ⟨rfl, by omega, by omega⟩)))⟩, rfl⟩
 ·rw [show (IntKind.i64.wrap ((14 : Int) * 78913)).fdiv 262144 = 4 from rfl]
  show iteP (decide ((10000 : Int) ≤ u)) (∃ x, DigP u x ∧ aK .i64 (5 : Int) = aK .i64 x) (∃ x, DigP u x ∧ aK .i64 (4 : Int) = aK .i64 x)
  by_cases c : (10000 : Int) ≤ u
  ·rw [decide_eq_true c, iteP_t]
   exact ⟨_, ⟨(.inr (.inr (.inr (.inr (.inl ⟨rfl, by omega, by omega⟩)))))⟩, rfl⟩
  ·rw [decide_eq_false c, iteP_f]
   exact ⟨_, ⟨(.inr (.inr (.inr (.inl ⟨rfl, by omega, by omega⟩))))⟩, rfl⟩
 ·rw [show (IntKind.i64.wrap ((15 : Int) * 78913)).fdiv 262144 = 4 from rfl]
  show iteP (decide ((10000 : Int) ≤ u)) (∃ x, DigP u x ∧ aK .i64 (5 : Int) = aK .i64 x) (∃ x, DigP u x ∧ aK .i64 (4 : Int) = aK .i64 x)
  by_cases c : (10000 : Int) ≤ u
  ·rw [decide_eq_true c, iteP_t]
   exact ⟨_, ⟨(.inr (.inr (.inr (.inr (.inl ⟨rfl, by omega, by omega⟩)))))⟩, rfl⟩
  ·rw [decide_eq_false c, iteP_f]
   exact ⟨_, ⟨(.inr (.inr (.inr (.inl ⟨rfl, by omega, by omega⟩))))⟩, rfl⟩
 ·rw [show (IntKind.i64.wrap ((16 : Int) * 78913)).fdiv 262144 = 4 from rfl]
  show iteP (decide ((10000 : Int) ≤ u)) (∃ x, DigP u x ∧ aK .i64 (5 : Int) = aK .i64 x) (∃ x, DigP u x ∧ aK .i64 (4 : Int) = aK .i64 x)
  by_cases c : (10000 : Int) ≤ u
  ·rw [decide_eq_true c, iteP_t]
   exact ⟨_, ⟨(.inr (.inr (.inr (.inr (.inl ⟨rfl, by omega, by omega⟩)))))⟩, rfl⟩
  ·rw [decide_eq_false c, iteP_f]
   exact ⟨_, ⟨(.inr (.inr (.inr (.inl ⟨rfl, by omega, by omega⟩))))⟩, rfl⟩
 ·rw [show (IntKind.i64.wrap ((17 : Int) * 78913)).fdiv 262144 = 5 from rfl]
  show iteP (decide ((100000 : Int) ≤ u)) (∃ x, DigP u x ∧ aK .i64 (6 : Int) = aK .i64 x) (∃ x, DigP u x ∧ aK .i64 (5 : Int) = aK .i64 x)
  by_cases c : (100000 : Int) ≤ u
  ·rw [decide_eq_true c, iteP_t]
   exact ⟨_, ⟨(.inr (.inr (.inr (.inr (.inr (.inl ⟨rfl, by omega, by omega⟩))))))⟩, rfl⟩
  ·rw [decide_eq_false c, iteP_f]
   exact ⟨_, ⟨(.inr (.inr (.inr (.inr (.inl ⟨rfl, by omega, by omega⟩)))))⟩, rfl⟩
 ·rw [show (IntKind.i64.wrap ((18 : Int) * 78913)).fdiv 262144 = 5 from rfl]
  show iteP (decide ((100000 : Int) ≤ u)) (∃ x, DigP u x ∧ aK .i64 (6 : Int) = aK .i64 x) (∃ x, DigP u x ∧ aK .i64 (5 : Int) = aK .i64 x)
  by_cases c : (100000 : Int) ≤ u
  ·rw [decide_eq_true c, iteP_t]
   exact ⟨_, ⟨(.inr (.inr (.inr (.inr (.inr (.inl ⟨rfl, by omega, by omega⟩))))))⟩, rfl⟩
  ·rw [decide_eq_false c, iteP_f]
   exact ⟨_, ⟨(.inr (.inr (.inr (.inr (.inl ⟨rfl, by omega, by omega⟩)))))⟩, rfl⟩
 ·rw [show (IntKind.i64.wrap ((19 : Int) * 78913)).fdiv 262144 = 5 from rfl]
  show iteP (decide ((100000 : Int) ≤ u)) (∃ x, DigP u x ∧ aK .i64 (6 : Int) = aK .i64 x) (∃ x, DigP u x ∧ aK .i64 (5 : Int) = aK .i64 x)
  by_cases c : (100000 : Int) ≤ u
  ·rw [decide_eq_true c, iteP_t]
   exact ⟨_, ⟨(.inr (.inr (.inr (.inr (.inr (.inl ⟨rfl, by omega, by omega⟩))))))⟩, rfl⟩
  ·rw [decide_eq_false c, iteP_f]
   exact ⟨_, ⟨(.inr (.inr (.inr (.inr (.inl ⟨rfl, by omega, by omega⟩)))))⟩, rfl⟩
 ·rw [show (IntKind.i64.wrap ((20 : Int) * 78913)).fdiv 262144 = 6 from rfl]
  show iteP (decide ((1000000 : Int) ≤ u)) (∃ x, DigP u x ∧ aK .i64 (7 : Int) = aK .i64 x) (∃ x, DigP u x ∧ aK .i64 (6 : Int) = aK .i64 x)
  by_cases c : (1000000 : Int) ≤ u
  ·rw [decide_eq_true c, iteP_t]
   exact ⟨_, ⟨(.inr (.inr (.inr (.inr (.inr (.inr (.inl ⟨rfl, by omega, by omega⟩)))))))⟩, rfl⟩
  ·rw [decide_eq_false c, iteP_f]
   exact ⟨_, ⟨(.inr (.inr (.inr (.inr (.inr (.inl ⟨rfl, by omega, by omega⟩))))))⟩, rfl⟩
 ·rw [show (IntKind.i64.wrap ((21 : Int) * 78913)).fdiv 262144 = 6 from rfl]
  show iteP (decide ((1000000 : Int) ≤ u)) (∃ x, DigP u x ∧ aK .i64 (7 : Int) = aK .i64 x) (∃ x, DigP u x ∧ aK .i64 (6 : Int) = aK .i64 x)
  by_cases c : (1000000 : Int) ≤ u
  ·rw [decide_eq_true c, iteP_t]
   exact ⟨_, ⟨(.inr (.inr (.inr (.inr (.inr (.inr (.inl ⟨rfl, by omega, by omega⟩)))))))⟩, rfl⟩
  ·rw [decide_eq_false c, iteP_f]
   exact ⟨_, ⟨(.inr (.inr (.inr (.inr (.inr (.inl ⟨rfl, by omega, by omega⟩))))))⟩, rfl⟩
 ·rw [show (IntKind.i64.wrap ((22 : Int) * 78913)).fdiv 262144 = 6 from rfl]
  show iteP (decide ((1000000 : Int) ≤ u)) (∃ x, DigP u x ∧ aK .i64 (7 : Int) = aK .i64 x) (∃ x, DigP u x ∧ aK .i64 (6 : Int) = aK .i64 x)
  by_cases c : (1000000 : Int) ≤ u
  ·rw [decide_eq_true c, iteP_t]
   exact ⟨_, ⟨(.inr (.inr (.inr (.inr (.inr (.inr (.inl ⟨rfl, by omega, by omega⟩)))))))⟩, rfl⟩
  ·rw [decide_eq_false c, iteP_f]
   exact ⟨_, ⟨(.inr (.inr (.inr (.inr (.inr (.inl ⟨rfl, by omega, by omega⟩))))))⟩, rfl⟩
 ·rw [show (IntKind.i64.wrap ((23 : Int) * 78913)).fdiv 262144 = 6 from rfl]
  show iteP (decide ((1000000 : Int) ≤ u)) (∃ x, DigP u x ∧ aK .i64 (7 : Int) = aK .i64 x) (∃ x, DigP u x ∧ aK .i64 (6 : Int) = aK .i64 x)
  by_cases c : (1000000 : Int) ≤ u
  ·rw [decide_eq_true c, iteP_t]
   exact ⟨_, ⟨(.inr (.inr (.inr (.inr (.inr (.inr (.inl ⟨rfl, by omega, by omega⟩)))))))⟩, rfl⟩
  ·rw [decide_eq_false c, iteP_f]
   exact ⟨_, ⟨(.inr (.inr (.inr (.inr (.inr (.inl ⟨rfl, by omega, by omega⟩))))))⟩, rfl⟩
 ·rw [show (IntKind.i64.wrap ((24 : Int) * 78913)).fdiv 262144 = 7 from rfl]
  show iteP (decide ((10000000 : Int) ≤ u)) (∃ x, DigP u x ∧ aK .i64 (8 : Int) = aK .i64 x) (∃ x, DigP u x ∧ aK .i64 (7 : Int) = aK .i64 x)
  by_cases c : (10000000 : Int) ≤ u
  ·rw [decide_eq_true c, iteP_t]
   exact ⟨_, ⟨(.inr (.inr (.inr (.inr (.inr (.inr (.inr (.inl ⟨rfl, by omega, by omega⟩))))))))⟩, rfl⟩
  ·rw [decide_eq_false c, iteP_f]
   exact ⟨_, ⟨(.inr (.inr (.inr (.inr (.inr (.inr (.inl ⟨rfl, by omega, by omega⟩)))))))⟩, rfl⟩
 ·rw [show (IntKind.i64.wrap ((25 : Int) * 78913)).fdiv 262144 = 7 from rfl]
  show iteP (decide ((10000000 : Int) ≤ u)) (∃ x, DigP u x ∧ aK .i64 (8 : Int) = aK .i64 x) (∃ x, DigP u x ∧ aK .i64 (7 : Int) = aK .i64 x)
  by_cases c : (10000000 : Int) ≤ u
  ·rw [decide_eq_true c, iteP_t]
   exact ⟨_, ⟨(.inr (.inr (.inr (.inr (.inr (.inr (.inr (.inl ⟨rfl, by omega, by omega⟩))))))))⟩, rfl⟩
  ·rw [decide_eq_false c, iteP_f]
   exact ⟨_, ⟨(.inr (.inr (.inr (.inr (.inr (.inr (.inl ⟨rfl, by omega, by omega⟩)))))))⟩, rfl⟩
 ·rw [show (IntKind.i64.wrap ((26 : Int) * 78913)).fdiv 262144 = 7 from rfl]
  show iteP (decide ((10000000 : Int) ≤ u)) (∃ x, DigP u x ∧ aK .i64 (8 : Int) = aK .i64 x) (∃ x, DigP u x ∧ aK .i64 (7 : Int) = aK .i64 x)
  by_cases c : (10000000 : Int) ≤ u
  ·rw [decide_eq_true c, iteP_t]
   exact ⟨_, ⟨(.inr (.inr (.inr (.inr (.inr (.inr (.inr (.inl ⟨rfl, by omega, by omega⟩))))))))⟩, rfl⟩
  ·rw [decide_eq_false c, iteP_f]
   exact ⟨_, ⟨(.inr (.inr (.inr (.inr (.inr (.inr (.inl ⟨rfl, by omega, by omega⟩)))))))⟩, rfl⟩
 ·rw [show (IntKind.i64.wrap ((27 : Int) * 78913)).fdiv 262144 = 8 from rfl]
  show iteP (decide ((100000000 : Int) ≤ u)) (∃ x, DigP u x ∧ aK .i64 (9 : Int) = aK .i64 x) (∃ x, DigP u x ∧ aK .i64 (8 : Int) = aK .i64 x)
  by_cases c : (100000000 : Int) ≤ u
  ·rw [decide_eq_true c, iteP_t]
   exact ⟨_, ⟨(.inr (.inr (.inr (.inr (.inr (.inr (.inr (.inr (.inl ⟨rfl, by omega, by omega⟩)))))))))⟩, rfl⟩
  ·rw [decide_eq_false c, iteP_f]
   exact ⟨_, ⟨(.inr (.inr (.inr (.inr (.inr (.inr (.inr (.inl ⟨rfl, by omega, by omega⟩))))))))⟩, rfl⟩
 ·rw [show (IntKind.i64.wrap ((28 : Int) * 78913)).fdiv 262144 = 8 from rfl]
  show iteP (decide ((100000000 : Int) ≤ u)) (∃ x, DigP u x ∧ aK .i64 (9 : Int) = aK .i64 x) (∃ x, DigP u x ∧ aK .i64 (8 : Int) = aK .i64 x)
  by_cases c : (100000000 : Int) ≤ u
  ·rw [decide_eq_true c, iteP_t]
   exact ⟨_, ⟨(.inr (.inr (.inr (.inr (.inr (.inr (.inr (.inr (.inl ⟨rfl, by omega, by omega⟩)))))))))⟩, rfl⟩
  ·rw [decide_eq_false c, iteP_f]
   exact ⟨_, ⟨(.inr (.inr (.inr (.inr (.inr (.inr (.inr (.inl ⟨rfl, by omega, by omega⟩))))))))⟩, rfl⟩
 ·rw [show (IntKind.i64.wrap ((29 : Int) * 78913)).fdiv 262144 = 8 from rfl]
  show iteP (decide ((100000000 : Int) ≤ u)) (∃ x, DigP u x ∧ aK .i64 (9 : Int) = aK .i64 x) (∃ x, DigP u x ∧ aK .i64 (8 : Int) = aK .i64 x)
  by_cases c : (100000000 : Int) ≤ u
  ·rw [decide_eq_true c, iteP_t]
   exact ⟨_, ⟨(.inr (.inr (.inr (.inr (.inr (.inr (.inr (.inr (.inl ⟨rfl, by omega, by omega⟩)))))))))⟩, rfl⟩
  ·rw [decide_eq_false c, iteP_f]
   exact ⟨_, ⟨(.inr (.inr (.inr (.inr (.inr (.inr (.inr (.inl ⟨rfl, by omega, by omega⟩))))))))⟩, rfl⟩
 ·rw [show (IntKind.i64.wrap ((30 : Int) * 78913)).fdiv 262144 = 9 from rfl]
  show iteP (decide ((1000000000 : Int) ≤ u)) (∃ x, DigP u x ∧ aK .i64 (10 : Int) = aK .i64 x) (∃ x, DigP u x ∧ aK .i64 (9 : Int) = aK .i64 x)
  by_cases c : (1000000000 : Int) ≤ u
  ·rw [decide_eq_true c, iteP_t]
   exact ⟨_, ⟨(.inr (.inr (.inr (.inr (.inr (.inr (.inr (.inr (.inr (.inl ⟨rfl, by omega, by omega⟩))))))))))⟩, rfl⟩
  ·rw [decide_eq_false c, iteP_f]
   exact ⟨_, ⟨(.inr (.inr (.inr (.inr (.inr (.inr (.inr (.inr (.inl ⟨rfl, by omega, by omega⟩)))))))))⟩, rfl⟩
 ·rw [show (IntKind.i64.wrap ((31 : Int) * 78913)).fdiv 262144 = 9 from rfl]
  show iteP (decide ((1000000000 : Int) ≤ u)) (∃ x, DigP u x ∧ aK .i64 (10 : Int) = aK .i64 x) (∃ x, DigP u x ∧ aK .i64 (9 : Int) = aK .i64 x)
  by_cases c : (1000000000 : Int) ≤ u
  ·rw [decide_eq_true c, iteP_t]
   exact ⟨_, ⟨(.inr (.inr (.inr (.inr (.inr (.inr (.inr (.inr (.inr (.inl ⟨rfl, by omega, by omega⟩))))))))))⟩, rfl⟩
  ·rw [decide_eq_false c, iteP_f]
   exact ⟨_, ⟨(.inr (.inr (.inr (.inr (.inr (.inr (.inr (.inr (.inl ⟨rfl, by omega, by omega⟩)))))))))⟩, rfl⟩
 ·rw [show (IntKind.i64.wrap ((32 : Int) * 78913)).fdiv 262144 = 9 from rfl]
  show iteP (decide ((1000000000 : Int) ≤ u)) (∃ x, DigP u x ∧ aK .i64 (10 : Int) = aK .i64 x) (∃ x, DigP u x ∧ aK .i64 (9 : Int) = aK .i64 x)
  by_cases c : (1000000000 : Int) ≤ u
  ·rw [decide_eq_true c, iteP_t]
   exact ⟨_, ⟨(.inr (.inr (.inr (.inr (.inr (.inr (.inr (.inr (.inr (.inl ⟨rfl, by omega, by omega⟩))))))))))⟩, rfl⟩
  ·rw [decide_eq_false c, iteP_f]
   exact ⟨_, ⟨(.inr (.inr (.inr (.inr (.inr (.inr (.inr (.inr (.inl ⟨rfl, by omega, by omega⟩)))))))))⟩, rfl⟩
 ·rw [show (IntKind.i64.wrap ((33 : Int) * 78913)).fdiv 262144 = 9 from rfl]
  show iteP (decide ((1000000000 : Int) ≤ u)) (∃ x, DigP u x ∧ aK .i64 (10 : Int) = aK .i64 x) (∃ x, DigP u x ∧ aK .i64 (9 : Int) = aK .i64 x)
  by_cases c : (1000000000 : Int) ≤ u
  ·rw [decide_eq_true c, iteP_t]
   exact ⟨_, ⟨(.inr (.inr (.inr (.inr (.inr (.inr (.inr (.inr (.inr (.inl ⟨rfl, by omega, by omega⟩))))))))))⟩, rfl⟩
  ·rw [decide_eq_false c, iteP_f]
   exact ⟨_, ⟨(.inr (.inr (.inr (.inr (.inr (.inr (.inr (.inr (.inl ⟨rfl, by omega, by omega⟩)))))))))⟩, rfl⟩
 ·rw [show (IntKind.i64.wrap ((34 : Int) * 78913)).fdiv 262144 = 10 from rfl]
  show iteP (decide ((10000000000 : Int) ≤ u)) (∃ x, DigP u x ∧ aK .i64 (11 : Int) = aK .i64 x) (∃ x, DigP u x ∧ aK .i64 (10 : Int) = aK .i64 x)
  by_cases c : (10000000000 : Int) ≤ u
  ·rw [decide_eq_true c, iteP_t]
   exact ⟨_, ⟨(.inr (.inr (.inr (.inr (.inr (.inr (.inr (.inr (.inr (.inr ⟨rfl, by omega, by omega⟩))))))))))⟩, rfl⟩
  ·rw [decide_eq_false c, iteP_f]
   exact ⟨_, ⟨(.inr (.inr (.inr (.inr (.inr (.inr (.inr (.inr (.inr (.inl ⟨rfl, by omega, by omega⟩))))))))))⟩, rfl⟩
end
end Go.Proofs.Pr
namespace Go.Proofs.Pr
open Go Go.Ef
noncomputable section
set_option maxRecDepth 100000
def C67d (args : List AV) (h : Heap) : Option CSpec :=
 match args with
 | [.sc (.int .i64 n), .sc (.int .i64 10)] => some (nspec (0 ≤ n ∧ n ≤ 4294967295) (fmtN 10 n.toNat) (fun x => aStr x) h)
 | _ => some { pre := False, alts := [] }
theorem okD0 : TabOk Tryd.prog Door.cfg D0 := ok96 tab0_ok
theorem okDk (k : Nat) (hu : ∀ u x : Int, 10 ^ (k - 1) ≤ u → u < 10 ^ k → DigP u x → x = k) (hb : ∀ u : Int, (10 : Int) ^ (k - 1) ≤ u → u < 10 ^ k → 1 ≤ u ∧ u < 17179869184) : TabOk Tryd.prog Door.cfg (Dk k) := by
 repeat' refine name_ok ?_ _ _
 refine addC_ok tab0_ok fun args h s hs hp => ?_
 unfold C83k at hs
 split at hs
 ·rename_i u
  cases Option.some.inj hs
  obtain ⟨p1, p2⟩ := hp
  obtain ⟨b1, b2⟩ := hb u p1 p2
  obtain ⟨m, v, h', g1, ⟨x, hx, rfl⟩, rfl⟩ := EvP.freshK okD0 (n := 60) (g := 83) (args := [aK .u64 u]) (h := h) (Q := fun r => ∃ x, DigP u x ∧ r = aK .i64 x) (by kernel_rfl) (by kernel_rfl) (args' := [aK .u64 u]) rfl (dig_ok u b1 b2)
  have := hu u x p1 p2 hx
  subst this
  exact ⟨_, .head _, (), m, trivial, g1⟩
 ·cases hs
def smallOk (n : Nat) : Bool := (if n < 10 then cutL digTab (n : Int) ((n : Int) + 1) else cutL twoTab ((n : Int) * 2) ((n : Int) * 2 + 2)) == fmtN 10 n
theorem small_all : (List.range 100).all smallOk = true := by decide +kernel
theorem dec_small (n : Int) (h1 : 0 ≤ n) (h2 : n < 100) (K : AV → Prop) (hk : K (aStr (fmtN 10 n.toNat))) : wpCall (Dk 3) Door.cfg Tryd.prog 60 67 [aK .i64 n, aK .i64 10] heapF fun r h' => wpBack h' r K := by
 obtain ⟨k, rfl⟩ := Int.eq_ofNat_of_zero_le h1
 have hs := List.all_eq_true.1 small_all k (by simp; omega)
 unfold smallOk at hs
 replace hs := eq_of_beq hs
 rw [Int.toNat_natCast, ← hs] at hk
 refine d67_3 k K ?_
 rw [decide_eq_true h1, iteP_t, decide_eq_true h2, iteP_t]
 by_cases h3 : k < 10
 ·rw [if_pos h3] at hk
  rw [decide_eq_true (show (k : Int) < 10 by omega), iteP_t, wrap_in (by omega) (by omega), show (true && (decide ((k : Int) ≤ (k : Int) + 1) && decide ((k : Int) + 1 ≤ 36))) = true by simp; omega, iteP_t]
  exact hk
 ·rw [if_neg h3] at hk
  rw [decide_eq_false (show ¬ (k : Int) < 10 by omega), iteP_f, show IntKind.i64.wrap ((k : Int) * 2) = (k : Int) * 2 from wrap_in (by omega) (by omega), wrap_in (by omega) (by omega), show (decide (0 ≤ (k : Int) * 2) && (decide ((k : Int) * 2 ≤ (k : Int) * 2 + 2) && decide ((k : Int) * 2 + 2 ≤ 200))) = true by simp; omega, iteP_t]
  exact hk
theorem okD3 : TabOk Tryd.prog Door.cfg (Dk 3) := okDk 3 (fun u x h1 h2 h => by
  replace h1 : 100 ≤ u := h1
  replace h2 : u < 1000 := h2
  rcases h.h with h | h | h | h | h | h | h | h | h | h | h <;> obtain ⟨rfl, _, _⟩ := h <;> omega) (fun u h1 h2 => by
  replace h1 : 100 ≤ u := h1
  replace h2 : u < 1000 := h2
  omega)
theorem okD4 : TabOk Tryd.prog Door.cfg (Dk 4) := okDk 4 (fun u x h1 h2 h => by
  replace h1 : 1000 ≤ u := h1
  replace h2 : u < 10000 := h2
  rcases h.h with h | h | h | h | h | h | h | h | h | h | h <;> obtain ⟨rfl, _, _⟩ := h <;> omega) (fun u h1 h2 => by
  replace h1 : 1000 ≤ u := h1
  replace h2 : u < 10000 := h2
  omega)
theorem okD5 : TabOk Tryd.prog Door.cfg (Dk 5) := okDk 5 (fun u x h1 h2 h => by
  replace h1 : 10000 ≤ u := h1
  replace h2 : u < 100000 := h2
  rcases h.h with h | h | h | h | h | h | h | h | h | h | h <;> obtain ⟨rfl, _, _⟩ := h <;> omega) (fun u h1 h2 => by
  replace h1 : 10000 ≤ u := h1
  replace h2 : u < 100000 := h2
  omega)
theorem okD6 : TabOk Tryd.prog Door.cfg (Dk 6) := okDk 6 (fun u x h1 h2 h => by
  replace h1 : 100000 ≤ u := h1
  replace h2 : u < 1000000 := h2
  rcases h.h with h | h | h | h | h | h | h | h | h | h | h <;> obtain ⟨rfl, _, _⟩ := h <;> omega) (fun u h1 h2 => by
  replace h1 : 100000 ≤ u := h1
  replace h2 : u < 1000000 := h2
  omega)
theorem okD7 : TabOk Tryd.prog Door.cfg (Dk 7) := okDk 7 (fun u x h1 h2 h => by
  replace h1 : 1000000 ≤ u := h1
  replace h2 : u < 10000000 := h2
  rcases h.h with h | h | h | h | h | h | h | h | h | h | h <;> obtain ⟨rfl, _, _⟩ := h <;> omega) (fun u h1 h2 => by
  replace h1 : 1000000 ≤ u := h1
  replace h2 : u < 10000000 := h2
  omega)
theorem okD8 : TabOk Tryd.prog Door.cfg (Dk 8) := okDk 8 (fun u x h1 h2 h => by
  replace h1 : 10000000 ≤ u := h1
  replace h2 : u < 100000000 := h2
  rcases h.h with h | h | h | h | h | h | h | h | h | h | h <;> obtain ⟨rfl, _, _⟩ := h <;> omega) (fun u h1 h2 => by
  replace h1 : 10000000 ≤ u := h1
  replace h2 : u < 100000000 := h2
  omega)
theorem okD9 : TabOk Tryd.prog Door.cfg (Dk 9) := okDk 9 (fun u x h1 h2 h => by
  replace h1 : 100000000 ≤ u := h1
  replace h2 : u < 1000000000 := h2
  rcases h.h with h | h | h | h | h | h | h | h | h | h | h <;> obtain ⟨rfl, _, _⟩ := h <;> omega) (fun u h1 h2 => by
  replace h1 : 100000000 ≤ u := h1
  replace h2 : u < 1000000000 := h2
  omega)
theorem okD10 : TabOk Tryd.prog Door.cfg (Dk 10) := okDk 10 (fun u x h1 h2 h => by
  replace h1 : 1000000000 ≤ u := h1
  replace h2 : u < 10000000000 := h2
  rcases h.h with h | h | h | h | h | h | h | h | h | h | h <;> obtain ⟨rfl, _, _⟩ := h <;> omega) (fun u h1 h2 => by
  replace h1 : 1000000000 ≤ u := h1
  replace h2 : u < 10000000000 := h2
  omega)
theorem dec_all (n : Int) (h1 : 0 ≤ n) (h2 : n ≤ 4294967295) (h : Heap) : EvP Door.cfg Tryd.prog 67 [aK .i64 n, aK .i64 10] h fun v h' => v = aStr (fmtN 10 n.toNat) ∧ h' = h := by
 by_cases c2 : n < 100
 ·exact EvP.freshV okD3 (n := 60) (by kernel_rfl) (by kernel_rfl) (args' := [aK .i64 n, aK .i64 10]) rfl (dec_small n h1 c2 _ rfl)
 by_cases c3 : n < 1000
 ·exact EvP.freshV okD3 (n := 60) (by kernel_rfl) (by kernel_rfl) (args' := [aK .i64 n, aK .i64 10]) rfl (dec_3 n (by omega) (by omega) _ rfl)
 by_cases c4 : n < 10000
 ·exact EvP.freshV okD4 (n := 60) (by kernel_rfl) (by kernel_rfl) (args' := [aK .i64 n, aK .i64 10]) rfl (dec_4 n (by omega) (by omega) _ rfl)
 by_cases c5 : n < 100000
 ·exact EvP.freshV okD5 (n := 60) (by kernel_rfl) (by kernel_rfl) (args' := [aK .i64 n, aK .i64 10]) rfl (dec_5 n (by omega) (by omega) _ rfl)
 by_cases c6 : n < 1000000
 ·exact EvP.freshV okD6 (n := 60) (by kernel_rfl) (by kernel_rfl) (args' := [aK .i64 n, aK .i64 10]) rfl (dec_6 n (by omega) (by omega) _ rfl)
 by_cases c7 : n < 10000000
 ·exact EvP.freshV okD7 (n := 60) (by kernel_rfl) (by kernel_rfl) (args' := [aK .i64 n, aK .i64 10]) rfl (dec_7 n (by omega) (by omega) _ rfl)
 by_cases c8 : n < 100000000
 ·exact EvP.freshV okD8 (n := 60) (by kernel_rfl) (by kernel_rfl) (args' := [aK .i64 n, aK .i64 10]) rfl (dec_8 n (by omega) (by omega) _ rfl)
 by_cases c9 : n < 1000000000
 ·exact EvP.freshV okD9 (n := 60) (by kernel_rfl) (by kernel_rfl) (args' := [aK .i64 n, aK .i64 10]) rfl (dec_9 n (by omega) (by omega) _ rfl)
 exact EvP.freshV okD10 (n := 60) (by kernel_rfl) (by kernel_rfl) (args' := [aK .i64 n, aK .i64 10]) rfl (dec_10 n (by omega) (by omega) _ rfl)
theorem ok67d {T : Tab} (O : TabOk Tryd.prog Door.cfg T) : TabOk Tryd.prog Door.cfg (T.addC 67 C67d) := by
 refine addC_ok O fun args h s hs hp => ?_
 unfold C67d at hs
 split at hs
 ·exact nspec_ok (Option.some.inj hs) (fun hpre => dec_all _ hpre.1 hpre.2 h) hp
 ·cases Option.some.inj hs
  exact hp.elim
end
end Go.Proofs.Pr
namespace Go.Proofs.Pr
open Go Go.Ef
noncomputable section
def C66 (args : List AV) (h : Heap) : Option CSpec :=
 match args with
 | [.sc (.int .i64 n)] => some (nspec (0 ≤ n ∧ n ≤ 4294967295) (fmtN 10 n.toNat) (fun x => aStr x) h)
 | _ => none
def I53 (s t : List UInt8) : St := stOf 42 [(4, sStr s), (6, sStr t)] [] heapF
def L53 (σ : St) : Option LSpec :=
 match σ.at 4, σ.at 6 with
 | .v (.sc (.string s)), .v (.sc (.string t)) => some (lspec (σ.tidy [4, 6] 0 = I53 s.data.toList t.data.toList ∧ (stripZ t.data.toList).isEmpty = false ∧ t.data.toList.length ≤ 1000) (List UInt8) (fun x => x = stripZ t.data.toList) (.exit 0) (fun x => I53 s.data.toList x))
 | _, _ => none
def C53g (args : List AV) (h : Heap) : Option CSpec :=
 match args with
 | [.sc (.int .i64 d)] => some (nspec True (decF (nearF d)) (fun x => aStr x) h)
 | _ => none
def C54 (args : List AV) (h : Heap) : Option CSpec :=
 match args with
 | [.sc (.int .i64 d), .sc (.int .i64 p)] => some (nspec True (roundF d p) (fun x => aK .i64 x) h)
 | _ => none
def E1 : Tab := tab0.addC 67 C67d
def E2 : Tab := E1.addC 66 C66
def E3 : Tab := (((E2.addL 53 11 L53).name 53 8).name 53 12).name 53 26
end
end Go.Proofs.Pr
namespace Go.Proofs.Pr
open Go Go.Ef
noncomputable section
set_option maxRecDepth 100000
theorem c66 (n : Int) (K : AV → Prop) (h :
 (0 ≤ n ∧ n ≤ 4294967295) ∧ ∀ (x : List UInt8), x = fmtN 10 n.toNat → K (AV.sc (Value.string (ByteArray.mk (Array.mk x))))) :
 (fun (n : Int) (K : AV → Prop) => wpCall E1 Door.cfg Tryd.prog 60 66 [aK .i64 n] heapF fun r h' => wpBack h' r K) n K :=
 Eq.mp (by kernel_rfl) h
theorem c54 (d : Int) (p : Int) (K : AV → Prop) (h :
 iteP (decide (max 0 (min 4 p) = 4)) (iteP (decide (max (-10000000000000) (min 10000000000000 d) < 0)) (K (AV.sc (Value.int IntKind.i64 (IntKind.i64.wrap (0 - IntKind.i64.wrap (IntKind.i64.wrap ((IntKind.i64.wrap (IntKind.i64.wrap (0 - max (-10000000000000) (min 10000000000000 d)) + 0)).tdiv 1) * 1)))))) (K (AV.sc (Value.int IntKind.i64 (IntKind.i64.wrap (IntKind.i64.wrap
 ((IntKind.i64.wrap (max (-10000000000000) (min 10000000000000 d) + 0)).tdiv 1) * 1)))))) (iteP (decide (max 0 (min 4 p) = 3)) (iteP (decide (max (-10000000000000) (min 10000000000000 d) < 0)) (K (AV.sc (Value.int IntKind.i64 (IntKind.i64.wrap (0 - IntKind.i64.wrap (IntKind.i64.wrap ((IntKind.i64.wrap (IntKind.i64.wrap (0 - max (-10000000000000) (min 10000000000000 d)) + 5)).tdiv 10) * 10)))))) (K
 (AV.sc (Value.int IntKind.i64 (IntKind.i64.wrap (IntKind.i64.wrap ((IntKind.i64.wrap (max (-10000000000000) (min 10000000000000 d) + 5)).tdiv 10) * 10)))))) (iteP (decide (max 0 (min 4 p) = 2)) (iteP (decide (max (-10000000000000) (min 10000000000000 d) < 0)) (K (AV.sc (Value.int IntKind.i64 (IntKind.i64.wrap (0 - IntKind.i64.wrap (IntKind.i64.wrap ((IntKind.i64.wrap (IntKind.i64.wrap
 (0 - max (-10000000000000) (min 10000000000000 d)) + 50)).tdiv 100) * 100)))))) (K (AV.sc (Value.int IntKind.i64 (IntKind.i64.wrap (IntKind.i64.wrap ((IntKind.i64.wrap (max (-10000000000000) (min 10000000000000 d) + 50)).tdiv 100) * 100)))))) (iteP (decide (max 0 (min 4 p) = 1)) (iteP (decide (max (-10000000000000) (min 10000000000000 d) < 0)) (K (AV.sc (Value.int IntKind.i64 (IntKind.i64.wrap (0 -
 IntKind.i64.wrap (IntKind.i64.wrap ((IntKind.i64.wrap (IntKind.i64.wrap (0 - max (-10000000000000) (min 10000000000000 d)) + 500)).tdiv 1000) * 1000)))))) (K (AV.sc (Value.int IntKind.i64 (IntKind.i64.wrap (IntKind.i64.wrap ((IntKind.i64.wrap (max (-10000000000000) (min 10000000000000 d) + 500)).tdiv 1000) * 1000)))))) (iteP (decide (max 0 (min 4 p) = 0))
 (iteP (decide (max (-10000000000000) (min 10000000000000 d) < 0)) (K (AV.sc (Value.int IntKind.i64 (IntKind.i64.wrap (0 - IntKind.i64.wrap (IntKind.i64.wrap ((IntKind.i64.wrap (IntKind.i64.wrap (0 - max (-10000000000000) (min 10000000000000 d)) + 5000)).tdiv 10000) * 10000)))))) (K (AV.sc (Value.int IntKind.i64 (IntKind.i64.wrap (IntKind.i64.wrap ((IntKind.i64.wrap
 (max (-10000000000000) (min 10000000000000 d) + 5000)).tdiv 10000) * 10000)))))) False))))) :
 (fun (d p : Int) (K : AV → Prop) => wpCall tab0 Door.cfg Tryd.prog 60 54 [aK .i64 d, aK .i64 p] heapF fun r h' => wpBack h' r K) d p K :=
 Eq.mp (by kernel_rfl) h
theorem v53 (s : List UInt8) (t : List UInt8) (N : List UInt8 → Prop) (X : Ex → List UInt8 → Prop) (h :
 iteP (inRange (IntKind.i64.wrap ((↑t.length : Int) - 1)) t.length) (iteP (byteAt t (IntKind.i64.wrap ((↑t.length : Int) - 1)) == 48) (iteP (decide (0 ≤ IntKind.i64.wrap ((↑t.length : Int) - 1)) && decide (IntKind.i64.wrap ((↑t.length : Int) - 1) ≤ (↑t.length : Int))) (I53 s (List.take (IntKind.i64.wrap ((↑t.length : Int) - 1)).toNat t) =
 I53 s (List.take (IntKind.i64.wrap ((↑t.length : Int) - 1)).toNat t) ∧ N (List.take (IntKind.i64.wrap ((↑t.length : Int) - 1)).toNat t)) False) (I53 s t = I53 s t ∧ X (Ex.exit 0) t)) False) :
 (fun (s t : List UInt8) (N : List UInt8 → Prop) (X : Ex → List UInt8 → Prop) => wpRound tab0 Door.cfg Tryd.prog 40 53 11 (I53 s t) (fun τ => τ = I53 s (slS τ 6) ∧ N (slS τ 6)) (fun e τ => τ = I53 s (slS τ 6) ∧ X e (slS τ 6))) s t N X :=
 Eq.mp (by kernel_rfl) h
theorem c53 (d : Int) (K : AV → Prop) (h :
 ∀ (m : Int), m = max (-10000000000000) (min 10000000000000 d) → iteP (decide (m < 0)) (∀ (m_1 : Int), m_1 = IntKind.i64.wrap (0 - m) → (0 ≤ IntKind.i64.wrap (m_1.tdiv 10000) ∧ IntKind.i64.wrap (m_1.tdiv 10000) ≤ 4294967295) ∧ ∀ (x : List UInt8), x = fmtN 10 (IntKind.i64.wrap (m_1.tdiv 10000)).toNat → iteP (strFits [(45 : UInt8)] x) (iteP (m_1.tmod 10000 == 0)
 (K (AV.sc (Value.string (ByteArray.mk (Array.mk ([(45 : UInt8)] ++ x)))))) ((0 ≤ IntKind.i64.wrap (10000 + m_1.tmod 10000) ∧ IntKind.i64.wrap (10000 + m_1.tmod 10000) ≤ 4294967295) ∧ ∀ (x_1 : List UInt8), x_1 = fmtN 10 (IntKind.i64.wrap (10000 + m_1.tmod 10000)).toNat → iteP (true && decide (1 ≤ (↑x_1.length : Int))) (∀ (l : List UInt8), l = List.drop 1 x_1 →
 loopAt Tryd.prog 53 11 = loopAt Tryd.prog 53 11 ∧ (I53 ([(45 : UInt8)] ++ x) l = I53 ([(45 : UInt8)] ++ x) l ∧ (stripZ l).isEmpty = false ∧ l.length ≤ 1000) ∧ ∀ (x_2 : List UInt8), x_2 = stripZ l → iteP (strFits ([(45 : UInt8)] ++ x) [(46 : UInt8)]) (iteP (strFits ([(45 : UInt8)] ++ x ++ [(46 : UInt8)]) x_2) (K (AV.sc (Value.string (ByteArray.mk
 (Array.mk ([(45 : UInt8)] ++ x ++ [(46 : UInt8)] ++ x_2)))))) False) False) False)) False) ((0 ≤ IntKind.i64.wrap (m.tdiv 10000) ∧ IntKind.i64.wrap (m.tdiv 10000) ≤ 4294967295) ∧ ∀ (x : List UInt8), x = fmtN 10 (IntKind.i64.wrap (m.tdiv 10000)).toNat → iteP (strFits [] x) (iteP (m.tmod 10000 == 0) (K (AV.sc (Value.string (ByteArray.mk (Array.mk ([] ++ x))))))
 ((0 ≤ IntKind.i64.wrap (10000 + m.tmod 10000) ∧ IntKind.i64.wrap (10000 + m.tmod 10000) ≤ 4294967295) ∧ ∀ (x_1 : List UInt8), x_1 = fmtN 10 (IntKind.i64.wrap (10000 + m.tmod 10000)).toNat → iteP (true && decide (1 ≤ (↑x_1.length : Int))) (∀ (l : List UInt8), l = List.drop 1 x_1 → loopAt Tryd.prog 53 11 = loopAt Tryd.prog 53 11 ∧ (I53 ([] ++ x) l = I53 ([] ++ x) l ∧
 (stripZ l).isEmpty = false ∧ l.length ≤ 1000) ∧ ∀ (x_2 : List UInt8), x_2 = stripZ l → iteP (strFits ([] ++ x) [(46 : UInt8)]) (iteP (strFits ([] ++ x ++ [(46 : UInt8)]) x_2) (K (AV.sc (Value.string (ByteArray.mk (Array.mk ([] ++ x ++ [(46 : UInt8)] ++ x_2)))))) False) False) False)) False)) :
 (fun (d : Int) (K : AV → Prop) => wpCall E3 Door.cfg Tryd.prog 60 53 [aK .i64 d] heapF fun r h' => wpBack h' r K) d K :=
 Eq.mp (by kernel_rfl) h
end
end Go.Proofs.Pr
namespace Go.Proofs.Pr
open Go Go.Ef
noncomputable section
set_option maxRecDepth 100000
theorem okE1 : TabOk Tryd.prog Door.cfg E1 := ok67d tab0_ok
theorem ok66 {T : Tab} (O : TabOk Tryd.prog Door.cfg T) : TabOk Tryd.prog Door.cfg (T.addC 66 C66) := by
 refine addC_ok O fun args h s hs hp => ?_
 unfold C66 at hs
 split at hs
 ·rename_i n
  refine nspec_ok (Option.some.inj hs) (fun hpre => ?_) hp
  exact EvP.freshV okE1 (n := 60) (by kernel_rfl) (by kernel_rfl) (args' := [aK .i64 n]) rfl (c66 n _ ⟨hpre, fun x hx => by rw [hx]; rfl⟩)
 ·cases hs
theorem round_pos (d u h : Int) (hd : 0 ≤ d) (hd2 : d ≤ 10000000000000) (hu : 1 ≤ u) (hu2 : u ≤ 10000) (hh : 0 ≤ h) (hh2 : h ≤ 5000) : IntKind.i64.wrap (IntKind.i64.wrap ((IntKind.i64.wrap (d + h)).tdiv u) * u) = (d + h) / u * u ∧ 0 ≤ (d + h) / u * u ∧ (d + h) / u * u ≤ 10000000005000 := by
 have h1 : 0 ≤ (d + h) / u := Int.ediv_nonneg (by omega) (by omega)
 have h2 : (d + h) / u * u ≤ d + h := Int.ediv_mul_le _ (by omega)
 have h3 : (d + h) / u ≤ d + h := Int.ediv_le_self _ (by omega)
 have h4 : 0 ≤ (d + h) / u * u := Int.mul_nonneg h1 (by omega)
 rw [wrap_in (x := d + h) (by omega) (by omega), td (by omega), wrap_in (x := (d + h) / u) (by omega) (by omega), wrap_in (by omega) (by omega)]
 exact ⟨rfl, h4, by omega⟩
theorem ok54 {T : Tab} (O : TabOk Tryd.prog Door.cfg T) : TabOk Tryd.prog Door.cfg (T.addC 54 C54) := by
 refine addC_ok O fun args h s hs hp => ?_
 unfold C54 at hs
 split at hs
 ·rename_i d p
  refine nspec_ok (Option.some.inj hs) (fun _ => ?_) hp
  refine EvP.freshV tab0_ok (n := 60) (by kernel_rfl) (by kernel_rfl) (args' := [aK .i64 d, aK .i64 p]) rfl (c54 d p _ ?_)
  have hn := near_le d
  have hnf : max (-10000000000000 : Int) (min 10000000000000 d) = nearF d := rfl
  rw [hnf]
  have main : ∀ (u hf : Int), unitF p = u → unitF p / 2 = hf → 1 ≤ u → u ≤ 10000 → 0 ≤ hf → hf ≤ 5000 →
    iteP (decide (nearF d < 0)) (AV.sc (.int .i64 (IntKind.i64.wrap (0 - IntKind.i64.wrap (IntKind.i64.wrap ((IntKind.i64.wrap (IntKind.i64.wrap (0 - nearF d) + hf)).tdiv u) * u)))) = aK .i64 (roundF d p))
     (AV.sc (.int .i64 (IntKind.i64.wrap (IntKind.i64.wrap ((IntKind.i64.wrap (nearF d + hf)).tdiv u) * u))) = aK .i64 (roundF d p)) := by
   intro u hf e1 e2 b1 b2 b3 b4
   by_cases hneg : nearF d < 0
   ·rw [decide_eq_true hneg, iteP_t]
    have hr : roundF d p = -((-(nearF d) + hf) / u * u) := by unfold roundF; rw [if_pos hneg, e2, e1]
    obtain ⟨q1, q2, q3⟩ := round_pos (-(nearF d)) u hf (by omega) (by omega) b1 b2 b3 b4
    rw [hr, show IntKind.i64.wrap (0 - nearF d) = -(nearF d) by rw [wrap_in (by omega) (by omega)]; omega, q1, wrap_in (by omega) (by omega)]
    show AV.sc (.int .i64 _) = AV.sc (.int .i64 _)
    rw [Int.zero_sub]
   ·rw [decide_eq_false hneg, iteP_f]
    have hr : roundF d p = (nearF d + hf) / u * u := by unfold roundF; rw [if_neg hneg, e2, e1]
    obtain ⟨q1, _, _⟩ := round_pos (nearF d) u hf (by omega) (by omega) b1 b2 b3 b4
    rw [hr, q1]
    rfl
  by_cases c4 : 4 ≤ p
  ·rw [decide_eq_true (show max (0 : Int) (min 4 p) = 4 by omega), iteP_t]
   have e : unitF p = 1 := by unfold unitF; rw [if_neg (by omega), if_neg (by omega), if_neg (by omega), if_neg (by omega)]
   exact main 1 0 e (by rw [e]; rfl) (by omega) (by omega) (by omega) (by omega)
  ·rw [decide_eq_false (show ¬ max (0 : Int) (min 4 p) = 4 by omega), iteP_f]
   by_cases c3 : p = 3
   ·rw [decide_eq_true (show max (0 : Int) (min 4 p) = 3 by omega), iteP_t]
    have e : unitF p = 10 := by subst c3; rfl
    exact main 10 5 e (by rw [e]; rfl) (by omega) (by omega) (by omega) (by omega)
   ·rw [decide_eq_false (show ¬ max (0 : Int) (min 4 p) = 3 by omega), iteP_f]
    by_cases c2 : p = 2
    ·rw [decide_eq_true (show max (0 : Int) (min 4 p) = 2 by omega), iteP_t]
     have e : unitF p = 100 := by subst c2; rfl
     exact main 100 50 e (by rw [e]; rfl) (by omega) (by omega) (by omega) (by omega)
    ·rw [decide_eq_false (show ¬ max (0 : Int) (min 4 p) = 2 by omega), iteP_f]
     by_cases c1 : p = 1
     ·rw [decide_eq_true (show max (0 : Int) (min 4 p) = 1 by omega), iteP_t]
      have e : unitF p = 1000 := by subst c1; rfl
      exact main 1000 500 e (by rw [e]; rfl) (by omega) (by omega) (by omega) (by omega)
     ·rw [decide_eq_false (show ¬ max (0 : Int) (min 4 p) = 1 by omega), iteP_f, decide_eq_true (show max (0 : Int) (min 4 p) = 0 by omega), iteP_t]
      have e : unitF p = 10000 := by unfold unitF; rw [if_pos (by omega)]
      exact main 10000 5000 e (by rw [e]; rfl) (by omega) (by omega) (by omega) (by omega)
 ·cases hs
theorem strip_zero (u : List UInt8) : stripZ (u ++ [48]) = stripZ u := by
 unfold stripZ; simp
theorem strip_stop (u : List UInt8) (c : UInt8) (h : c ≠ 48) : stripZ (u ++ [c]) = u ++ [c] := by
 unfold stripZ
 simp [h]
theorem can53 (s t : List UInt8) : (I53 s t).tidy [4, 6] 0 = I53 s t := by kernel_rfl
theorem snoc_cases (t : List UInt8) : t = [] ∨ ∃ u c, t = u ++ [c] := by
 rcases List.eq_nil_or_concat t with h | ⟨u, c, h⟩
 ·exact .inl h
 ·exact .inr ⟨u, c, by simpa using h⟩
theorem loop53 (s t : List UInt8) (h0 : (stripZ t).isEmpty = false) (h1 : t.length ≤ 1000) : Ev Door.cfg Tryd.prog 53 (.loop (loopAt Tryd.prog 53 11)) (I53 s t) fun e τ => τ = I53 s (slS τ 6) ∧ e = .exit 0 ∧ slS τ 6 = stripZ t := by
 refine loop_rd (C := Door.cfg) (P := Tryd.prog) tab0_ok (f := 53) (i := 11) (n := 40) (fun x : List UInt8 => I53 s x) (fun τ => slS τ 6) (fun x => stripZ x = stripZ t ∧ x.length ≤ 1000) (fun x => x.length) (by kernel_rfl)
  (fun x y ht => ?_) (fun x hx => ?_) t ⟨rfl, h1⟩
 ·replace ht : Door.tidy 53 11 = some y := ht
  cases ht
  exact can53 s x
 ·obtain ⟨q1, q2⟩ := hx
  refine v53 s x (fun y => (stripZ y = stripZ t ∧ y.length ≤ 1000) ∧ y.length < x.length) (fun e y => e = .exit 0 ∧ y = stripZ t) ?_
  rcases snoc_cases x with rfl | ⟨u, c, rfl⟩
  ·rw [← q1] at h0; cases h0
  ·have hl : (u ++ [c]).length = u.length + 1 := by simp
   have hw : IntKind.i64.wrap (((u ++ [c]).length : Int) - 1) = (u.length : Int) := by rw [wrap_in (by omega) (by omega)]; omega
   have hb : byteAt (u ++ [c]) (u.length : Int) = c.toNat := by
    unfold byteAt
    rw [Int.toNat_natCast, List.getElem?_append_right (Nat.le_refl _), Nat.sub_self]; rfl
   rw [hw, show inRange (u.length : Int) (u ++ [c]).length = true by rw [inRange_iff]; omega, iteP_t, hb, show ((c.toNat : Int) == 48) = (c == 48) from beq_byte c 48 (by decide)]
   cases hc : c == 48 with
   | true =>
    have hc' : c = 48 := by simpa using hc
    subst hc'
    have e : (decide (0 ≤ (u.length : Int)) && decide ((u.length : Int) ≤ ((u ++ [(48 : UInt8)]).length : Int))) = true := by rw [hl]; simp; omega
    rw [iteP_t, e, iteP_t, Int.toNat_natCast, List.take_left']
    ·exact ⟨rfl, ⟨by rw [← q1, strip_zero], by omega⟩, by omega⟩
    ·rfl
   | false =>
    rw [iteP_f]
    exact ⟨rfl, rfl, by rw [← q1, strip_stop u c (by simpa using hc)]⟩
theorem okE2 : TabOk Tryd.prog Door.cfg E2 := ok66 okE1
theorem okE3 : TabOk Tryd.prog Door.cfg E3 := by
 refine name_ok (name_ok (name_ok (addL_ok okE2 fun σ s hs hp => ?_) _ _) _ _) _ _
 unfold L53 at hs
 split at hs
 ·rename_i s0 t0 _ _
  refine lspec_ok (Option.some.inj hs) (fun hpre => ?_) hp
  obtain ⟨e, h1, h2⟩ := hpre
  refine Ev.tidied (t := ⟨[4, 6], [4, 6], 0⟩) (τ := I53 s0.data.toList t0.data.toList) (by kernel_rfl) (by rw [e]; exact (can53 _ _).symm) ?_
  exact (loop53 _ _ h1 h2).mono fun ex τ h => ⟨slS τ 6, h.2.2, h.2.1, h.1⟩
 ·cases hs
theorem digits_len (b : Nat) : ∀ f n acc, (digitsL b f n acc).length ≤ f + acc.length := by
 intro f
 induction f with
 | zero => intro n acc; simp [digitsL]
 | succ f ih =>
  intro n acc
  unfold digitsL
  split
  ·simp; omega
  ·have := ih (n / b) (digitC (n % b) :: acc)
   simp at this
   omega
theorem fmt_len (b n : Nat) : (fmtN b n).length ≤ 70 := by
 have := digits_len b 70 n []
 simpa [fmtN] using this
def fracOk (f : Nat) : Bool := Nat.beq f 0 || (!(stripZ ((fmtN 10 (10000 + f)).drop 1)).isEmpty && decide (1 ≤ (fmtN 10 (10000 + f)).length))
theorem frac_all : (List.range 10000).all fracOk = true := by decide +kernel
theorem frac_str {f : Nat} (h1 : 1 ≤ f) (h2 : f < 10000) : (stripZ ((fmtN 10 (10000 + f)).drop 1)).isEmpty = false ∧ 1 ≤ (fmtN 10 (10000 + f)).length := by
 have := List.all_eq_true.1 frac_all f (by simp [h2])
 unfold fracOk at this
 simp only [Bool.or_eq_true, Bool.and_eq_true, Bool.not_eq_true', decide_eq_true_eq] at this
 rcases this with h | h
 ·have := Nat.eq_of_beq_eq_true h; omega
 ·exact h
theorem ok53g {T : Tab} (O : TabOk Tryd.prog Door.cfg T) : TabOk Tryd.prog Door.cfg (T.addC 53 C53g) := by
 refine addC_ok O fun args h s hs hp => ?_
 unfold C53g at hs
 split at hs
 ·rename_i d
  refine nspec_ok (Option.some.inj hs) (fun _ => ?_) hp
  refine EvP.freshV okE3 (n := 60) (by kernel_rfl) (by kernel_rfl) (args' := [aK .i64 d]) rfl (c53 d _ ?_)
  have hn := near_le d
  have fit : ∀ {a b : List UInt8}, a.length ≤ 2000 → b.length ≤ 2000 → strFits a b = true := fun h1 h2 => by rw [strFits_iff]; omega
  -- both signs
  have half : ∀ (sg : List UInt8) (m : Int), sg.length ≤ 1 → 0 ≤ m → m ≤ 10000000000000 → sg = (if nearF d < 0 then [45] else []) → m.toNat = (nearF d).natAbs →
    ((0 : Int) ≤ IntKind.i64.wrap (m.tdiv 10000) ∧ IntKind.i64.wrap (m.tdiv 10000) ≤ 4294967295) ∧ ∀ x : List UInt8, x = fmtN 10 (IntKind.i64.wrap (m.tdiv 10000)).toNat →
     iteP (strFits sg x) (iteP (m.tmod 10000 == 0) (AV.sc (.string ⟨⟨sg ++ x⟩⟩) = aStr (decF (nearF d)))
      (((0 : Int) ≤ IntKind.i64.wrap (10000 + m.tmod 10000) ∧ IntKind.i64.wrap (10000 + m.tmod 10000) ≤ 4294967295) ∧ ∀ x1 : List UInt8, x1 = fmtN 10 (IntKind.i64.wrap (10000 + m.tmod 10000)).toNat →
       iteP (true && decide ((1 : Int) ≤ (x1.length : Int))) (∀ l : List UInt8, l = List.drop 1 x1 → loopAt Tryd.prog 53 11 = loopAt Tryd.prog 53 11 ∧ (I53 (sg ++ x) l = I53 (sg ++ x) l ∧ (stripZ l).isEmpty = false ∧ l.length ≤ 1000) ∧
        ∀ x2 : List UInt8, x2 = stripZ l → iteP (strFits (sg ++ x) [46]) (iteP (strFits (sg ++ x ++ [46]) x2) (AV.sc (.string ⟨⟨sg ++ x ++ [46] ++ x2⟩⟩) = aStr (decF (nearF d))) False) False) False)) False := by
   intro sg m hsg h0 h1 hs hm
   have t1 : m.tdiv 10000 = m / 10000 := td h0
   have t2 : m.tmod 10000 = m % 10000 := tm h0
   rw [t1, t2, wrap_in (x := m / 10000) (by omega) (by omega), wrap_in (x := 10000 + m % 10000) (by omega) (by omega)]
   refine ⟨⟨by omega, by omega⟩, fun x hx => ?_⟩
   have hx1 : x = fmtN 10 ((nearF d).natAbs / 10000) := by rw [hx]; congr 1; omega
   have xl : x.length ≤ 70 := by rw [hx]; exact fmt_len _ _
   rw [fit (by omega) (by omega), iteP_t]
   have hd : decF (nearF d) = sg ++ x ++ (if (nearF d).natAbs % 10000 = 0 then [] else [46] ++ stripZ ((fmtN 10 (10000 + (nearF d).natAbs % 10000)).drop 1)) := by
    unfold decF; rw [← hs, ← hx1]
   by_cases hf : m % 10000 = 0
   ·rw [show (m % 10000 == 0) = true by simpa using hf, iteP_t, hd, if_pos (by omega), List.append_nil]; rfl
   ·rw [show (m % 10000 == 0) = false by simpa using hf, iteP_f]
    refine ⟨⟨by omega, by omega⟩, fun x1 hx1' => ?_⟩
    have e1 : x1 = fmtN 10 (10000 + (nearF d).natAbs % 10000) := by rw [hx1']; congr 1; omega
    obtain ⟨f1, f2⟩ := frac_str (f := (nearF d).natAbs % 10000) (by omega) (by omega)
    rw [← e1] at f1 f2
    rw [show (true && decide ((1 : Int) ≤ (x1.length : Int))) = true by simp; omega, iteP_t]
    intro l hl
    have ll : l.length ≤ 70 := by
     have := fmt_len 10 (10000 + (nearF d).natAbs % 10000)
     rw [← e1] at this
     rw [hl, List.length_drop]; omega
    rw [← hl] at f1
    refine ⟨rfl, ⟨rfl, f1, by omega⟩, fun x2 hx2 => ?_⟩
    have sl : x2.length ≤ 70 := by
     have : (stripZ l).length ≤ l.length := by
      unfold stripZ
      rw [List.length_reverse]
      have := (List.dropWhile_sublist (l := l.reverse) (· == 48)).length_le
      rw [List.length_reverse] at this
      exact this
     rw [hx2]; omega
    rw [fit (by simp; omega) (by decide), iteP_t, fit (by simp; omega) (by omega), iteP_t, hd, if_neg (by omega), ← e1, ← hl, ← hx2, ← List.append_assoc]; rfl
  intro m hm
  replace hm : m = nearF d := hm
  subst hm
  by_cases hneg : nearF d < 0
  ·rw [decide_eq_true hneg, iteP_t]
   intro m1 h1
   rw [wrap_in (by omega) (by omega)] at h1
   exact half [45] m1 (by decide) (by omega) (by omega) (by rw [if_pos hneg]) (by omega)
  ·rw [decide_eq_false hneg, iteP_f]
   exact half [] (nearF d) (by decide) (by omega) (by omega) (by rw [if_neg hneg]) (by omega)
 ·cases hs
end
end Go.Proofs.Pr
namespace Go.Proofs.Pr
open Go Go.Ef
noncomputable section
def C55 (args : List AV) (h : Heap) : Option CSpec :=
 match args with
 | [.sc (.int .i64 n), .sc (.int .i64 b)] => some (nspec (0 ≤ n ∧ n ≤ 4294967295 ∧ (b = 8 ∨ b = 10 ∨ b = 16)) (fmtN b.toNat n.toNat) (fun x => aStr x) h)
 | _ => none
def C56 (args : List AV) (h : Heap) : Option CSpec :=
 match args with
 | [.agg [.sc (.bool a), .sc (.bool b), .sc (.bool c), .sc (.bool e), .sc (.int .i64 w), .sc (.int .i64 p), .sc (.int .u8 kd)], .sc (.bool q)] => some (nspec True (signF ⟨a, b, c, e, w, p, kd⟩ q) (fun x => aStr x) h)
 | _ => none
def C57 (args : List AV) (h : Heap) : Option CSpec :=
 match args with
 | [.sc (.string s)] => some (nspec (s.data.toList.length ≤ 1000 ∧ s.data.toList.all (fun b => decide (b.toNat < 128)) = true) (s.data.toList.map upC) (fun x => aStr x) h)
 | _ => none
def C45 (args : List AV) (h : Heap) : Option CSpec :=
 match args with
 | [.sc (.int .i64 n)] => some (nspec (n ≤ 1000) (zerosF n) (fun x => aStr x) h)
 | _ => none
def F1 : Tab := (((((((tab0.addC 42 C42).addC 61 C61).addC 45 C45).addC 55 C55).addC 54 C54).addC 57 C57).addC 56 C56)
def F3 : Tab := ((F1.name 41 23).name 41 32).name 41 53
def F2 : Tab := ((F1.name 40 22).name 41 32).name 41 53
end
end Go.Proofs.Pr
namespace Go.Proofs.Pr
open Go Go.Ef
noncomputable section
set_option maxRecDepth 100000
theorem c41_100 (a : Bool) (b : Bool) (c : Bool) (e : Bool) (w : Int) (p : Int) (n : Int) (K : AV → Prop) (h :
 iteP (decide (n < 0)) (True ∧ ∀ (x : List UInt8), x = signF (Dir.mk a b c e w p 100) true → ∀ (m : Int), m = max n (IntKind.i64.wrap (0 - n)) → iteP (decide (m < 0)) (∀ (m_1 : Int), m_1 = IntKind.i64.wrap (m + 4294967296) → (0 ≤ m_1 ∧ m_1 ≤ 4294967295 ∧ ((10 : Int) = 8 ∨ (10 : Int) = 10 ∨ (10 : Int) = 16)) ∧ ∀ (x_1 : List UInt8), x_1 = fmtN 10 m_1.toNat → iteP (n == 0) (iteP (p == 0) (∀ (m : Int),
 m = IntKind.i64.wrap (p - 0) → (1000 - m).NonNeg ∧ ∀ (x_2 : List UInt8), x_2 = zerosF m → (true = true ∧ [x_2, []].length ≤ 1000 ∧ [x_2, []].flatten.length ≤ 10000000) ∧ ∀ (x_3 : List UInt8), x_3 = [x_2, []].flatten → K (AV.tup [AV.sc (Value.string (ByteArray.mk (Array.mk x))), AV.sc (Value.string (ByteArray.mk (Array.mk x_3)))])) (∀ (m : Int), m = IntKind.i64.wrap (p - (↑x_1.length : Int)) →
 (1000 - m).NonNeg ∧ ∀ (x_2 : List UInt8), x_2 = zerosF m → (true = true ∧ [x_2, x_1].length ≤ 1000 ∧ [x_2, x_1].flatten.length ≤ 10000000) ∧ ∀ (x_3 : List UInt8), x_3 = [x_2, x_1].flatten → K (AV.tup [AV.sc (Value.string (ByteArray.mk (Array.mk x))), AV.sc (Value.string (ByteArray.mk (Array.mk x_3)))]))) (∀ (m : Int), m = IntKind.i64.wrap (p - (↑x_1.length : Int)) → (1000 - m).NonNeg ∧
 ∀ (x_2 : List UInt8), x_2 = zerosF m → (true = true ∧ [x_2, x_1].length ≤ 1000 ∧ [x_2, x_1].flatten.length ≤ 10000000) ∧ ∀ (x_3 : List UInt8), x_3 = [x_2, x_1].flatten → K (AV.tup [AV.sc (Value.string (ByteArray.mk (Array.mk x))), AV.sc (Value.string (ByteArray.mk (Array.mk x_3)))]))) ((0 ≤ m ∧ m ≤ 4294967295 ∧ ((10 : Int) = 8 ∨ (10 : Int) = 10 ∨ (10 : Int) = 16)) ∧ ∀ (x_1 : List UInt8),
 x_1 = fmtN 10 m.toNat → iteP (n == 0) (iteP (p == 0) (∀ (m : Int), m = IntKind.i64.wrap (p - 0) → (1000 - m).NonNeg ∧ ∀ (x_2 : List UInt8), x_2 = zerosF m → (true = true ∧ [x_2, []].length ≤ 1000 ∧ [x_2, []].flatten.length ≤ 10000000) ∧ ∀ (x_3 : List UInt8), x_3 = [x_2, []].flatten → K (AV.tup [AV.sc (Value.string (ByteArray.mk (Array.mk x))), AV.sc (Value.string (ByteArray.mk (Array.mk x_3)))]))
 (∀ (m : Int), m = IntKind.i64.wrap (p - (↑x_1.length : Int)) → (1000 - m).NonNeg ∧ ∀ (x_2 : List UInt8), x_2 = zerosF m → (true = true ∧ [x_2, x_1].length ≤ 1000 ∧ [x_2, x_1].flatten.length ≤ 10000000) ∧ ∀ (x_3 : List UInt8), x_3 = [x_2, x_1].flatten → K (AV.tup [AV.sc (Value.string (ByteArray.mk (Array.mk x))), AV.sc (Value.string (ByteArray.mk (Array.mk x_3)))]))) (∀ (m : Int),
 m = IntKind.i64.wrap (p - (↑x_1.length : Int)) → (1000 - m).NonNeg ∧ ∀ (x_2 : List UInt8), x_2 = zerosF m → (true = true ∧ [x_2, x_1].length ≤ 1000 ∧ [x_2, x_1].flatten.length ≤ 10000000) ∧ ∀ (x_3 : List UInt8), x_3 = [x_2, x_1].flatten → K (AV.tup [AV.sc (Value.string (ByteArray.mk (Array.mk x))), AV.sc (Value.string (ByteArray.mk (Array.mk x_3)))])))) (True ∧ ∀ (x : List UInt8),
 x = signF (Dir.mk a b c e w p 100) false → ∀ (m : Int), m = max n (IntKind.i64.wrap (0 - n)) → iteP (decide (m < 0)) (∀ (m_1 : Int), m_1 = IntKind.i64.wrap (m + 4294967296) → (0 ≤ m_1 ∧ m_1 ≤ 4294967295 ∧ ((10 : Int) = 8 ∨ (10 : Int) = 10 ∨ (10 : Int) = 16)) ∧ ∀ (x_1 : List UInt8), x_1 = fmtN 10 m_1.toNat → iteP (n == 0) (iteP (p == 0) (∀ (m : Int), m = IntKind.i64.wrap (p - 0) →
 (1000 - m).NonNeg ∧ ∀ (x_2 : List UInt8), x_2 = zerosF m → (true = true ∧ [x_2, []].length ≤ 1000 ∧ [x_2, []].flatten.length ≤ 10000000) ∧ ∀ (x_3 : List UInt8), x_3 = [x_2, []].flatten → K (AV.tup [AV.sc (Value.string (ByteArray.mk (Array.mk x))), AV.sc (Value.string (ByteArray.mk (Array.mk x_3)))])) (∀ (m : Int), m = IntKind.i64.wrap (p - (↑x_1.length : Int)) → (1000 - m).NonNeg ∧
 ∀ (x_2 : List UInt8), x_2 = zerosF m → (true = true ∧ [x_2, x_1].length ≤ 1000 ∧ [x_2, x_1].flatten.length ≤ 10000000) ∧ ∀ (x_3 : List UInt8), x_3 = [x_2, x_1].flatten → K (AV.tup [AV.sc (Value.string (ByteArray.mk (Array.mk x))), AV.sc (Value.string (ByteArray.mk (Array.mk x_3)))]))) (∀ (m : Int), m = IntKind.i64.wrap (p - (↑x_1.length : Int)) → (1000 - m).NonNeg ∧ ∀ (x_2 : List UInt8),
 x_2 = zerosF m → (true = true ∧ [x_2, x_1].length ≤ 1000 ∧ [x_2, x_1].flatten.length ≤ 10000000) ∧ ∀ (x_3 : List UInt8), x_3 = [x_2, x_1].flatten → K (AV.tup [AV.sc (Value.string (ByteArray.mk (Array.mk x))), AV.sc (Value.string (ByteArray.mk (Array.mk x_3)))]))) ((0 ≤ m ∧ m ≤ 4294967295 ∧ ((10 : Int) = 8 ∨ (10 : Int) = 10 ∨ (10 : Int) = 16)) ∧ ∀ (x_1 : List UInt8), x_1 = fmtN 10 m.toNat →
 iteP (n == 0) (iteP (p == 0) (∀ (m : Int), m = IntKind.i64.wrap (p - 0) → (1000 - m).NonNeg ∧ ∀ (x_2 : List UInt8), x_2 = zerosF m → (true = true ∧ [x_2, []].length ≤ 1000 ∧ [x_2, []].flatten.length ≤ 10000000) ∧ ∀ (x_3 : List UInt8), x_3 = [x_2, []].flatten → K (AV.tup [AV.sc (Value.string (ByteArray.mk (Array.mk x))), AV.sc (Value.string (ByteArray.mk (Array.mk x_3)))])) (∀ (m : Int),
 m = IntKind.i64.wrap (p - (↑x_1.length : Int)) → (1000 - m).NonNeg ∧ ∀ (x_2 : List UInt8), x_2 = zerosF m → (true = true ∧ [x_2, x_1].length ≤ 1000 ∧ [x_2, x_1].flatten.length ≤ 10000000) ∧ ∀ (x_3 : List UInt8), x_3 = [x_2, x_1].flatten → K (AV.tup [AV.sc (Value.string (ByteArray.mk (Array.mk x))), AV.sc (Value.string (ByteArray.mk (Array.mk x_3)))]))) (∀ (m : Int),
 m = IntKind.i64.wrap (p - (↑x_1.length : Int)) → (1000 - m).NonNeg ∧ ∀ (x_2 : List UInt8), x_2 = zerosF m → (true = true ∧ [x_2, x_1].length ≤ 1000 ∧ [x_2, x_1].flatten.length ≤ 10000000) ∧ ∀ (x_3 : List UInt8), x_3 = [x_2, x_1].flatten → K (AV.tup [AV.sc (Value.string (ByteArray.mk (Array.mk x))), AV.sc (Value.string (ByteArray.mk (Array.mk x_3)))]))))) :
 (fun (a b c e : Bool) (w p n : Int) (K : AV → Prop) => wpCall F3 Door.cfg Tryd.prog 60 41 [.agg [aBool a, aBool b, aBool c, aBool e, aK .i64 w, aK .i64 p, aK .u8 100], aK .i64 n] heapF fun r h' => wpBack h' r K) a b c e w p n K :=
 Eq.mp (by kernel_rfl) h
theorem c41_105 (a : Bool) (b : Bool) (c : Bool) (e : Bool) (w : Int) (p : Int) (n : Int) (K : AV → Prop) (h :
 iteP (decide (n < 0)) (True ∧ ∀ (x : List UInt8), x = signF (Dir.mk a b c e w p 105) true → ∀ (m : Int), m = max n (IntKind.i64.wrap (0 - n)) → iteP (decide (m < 0)) (∀ (m_1 : Int), m_1 = IntKind.i64.wrap (m + 4294967296) → (0 ≤ m_1 ∧ m_1 ≤ 4294967295 ∧ ((10 : Int) = 8 ∨ (10 : Int) = 10 ∨ (10 : Int) = 16)) ∧ ∀ (x_1 : List UInt8), x_1 = fmtN 10 m_1.toNat → iteP (n == 0) (iteP (p == 0) (∀ (m : Int),
 m = IntKind.i64.wrap (p - 0) → (1000 - m).NonNeg ∧ ∀ (x_2 : List UInt8), x_2 = zerosF m → (true = true ∧ [x_2, []].length ≤ 1000 ∧ [x_2, []].flatten.length ≤ 10000000) ∧ ∀ (x_3 : List UInt8), x_3 = [x_2, []].flatten → K (AV.tup [AV.sc (Value.string (ByteArray.mk (Array.mk x))), AV.sc (Value.string (ByteArray.mk (Array.mk x_3)))])) (∀ (m : Int), m = IntKind.i64.wrap (p - (↑x_1.length : Int)) →
 (1000 - m).NonNeg ∧ ∀ (x_2 : List UInt8), x_2 = zerosF m → (true = true ∧ [x_2, x_1].length ≤ 1000 ∧ [x_2, x_1].flatten.length ≤ 10000000) ∧ ∀ (x_3 : List UInt8), x_3 = [x_2, x_1].flatten → K (AV.tup [AV.sc (Value.string (ByteArray.mk (Array.mk x))), AV.sc (Value.string (ByteArray.mk (Array.mk x_3)))]))) (∀ (m : Int), m = IntKind.i64.wrap (p - (↑x_1.length : Int)) → (1000 - m).NonNeg ∧
 ∀ (x_2 : List UInt8), x_2 = zerosF m → (true = true ∧ [x_2, x_1].length ≤ 1000 ∧ [x_2, x_1].flatten.length ≤ 10000000) ∧ ∀ (x_3 : List UInt8), x_3 = [x_2, x_1].flatten → K (AV.tup [AV.sc (Value.string (ByteArray.mk (Array.mk x))), AV.sc (Value.string (ByteArray.mk (Array.mk x_3)))]))) ((0 ≤ m ∧ m ≤ 4294967295 ∧ ((10 : Int) = 8 ∨ (10 : Int) = 10 ∨ (10 : Int) = 16)) ∧ ∀ (x_1 : List UInt8),
 x_1 = fmtN 10 m.toNat → iteP (n == 0) (iteP (p == 0) (∀ (m : Int), m = IntKind.i64.wrap (p - 0) → (1000 - m).NonNeg ∧ ∀ (x_2 : List UInt8), x_2 = zerosF m → (true = true ∧ [x_2, []].length ≤ 1000 ∧ [x_2, []].flatten.length ≤ 10000000) ∧ ∀ (x_3 : List UInt8), x_3 = [x_2, []].flatten → K (AV.tup [AV.sc (Value.string (ByteArray.mk (Array.mk x))), AV.sc (Value.string (ByteArray.mk (Array.mk x_3)))]))
 (∀ (m : Int), m = IntKind.i64.wrap (p - (↑x_1.length : Int)) → (1000 - m).NonNeg ∧ ∀ (x_2 : List UInt8), x_2 = zerosF m → (true = true ∧ [x_2, x_1].length ≤ 1000 ∧ [x_2, x_1].flatten.length ≤ 10000000) ∧ ∀ (x_3 : List UInt8), x_3 = [x_2, x_1].flatten → K (AV.tup [AV.sc (Value.string (ByteArray.mk (Array.mk x))), AV.sc (Value.string (ByteArray.mk (Array.mk x_3)))]))) (∀ (m : Int),
 m = IntKind.i64.wrap (p - (↑x_1.length : Int)) → (1000 - m).NonNeg ∧ ∀ (x_2 : List UInt8), x_2 = zerosF m → (true = true ∧ [x_2, x_1].length ≤ 1000 ∧ [x_2, x_1].flatten.length ≤ 10000000) ∧ ∀ (x_3 : List UInt8), x_3 = [x_2, x_1].flatten → K (AV.tup [AV.sc (Value.string (ByteArray.mk (Array.mk x))), AV.sc (Value.string (ByteArray.mk (Array.mk x_3)))])))) (True ∧ ∀ (x : List UInt8),
 x = signF (Dir.mk a b c e w p 105) false → ∀ (m : Int), m = max n (IntKind.i64.wrap (0 - n)) → iteP (decide (m < 0)) (∀ (m_1 : Int), m_1 = IntKind.i64.wrap (m + 4294967296) → (0 ≤ m_1 ∧ m_1 ≤ 4294967295 ∧ ((10 : Int) = 8 ∨ (10 : Int) = 10 ∨ (10 : Int) = 16)) ∧ ∀ (x_1 : List UInt8), x_1 = fmtN 10 m_1.toNat → iteP (n == 0) (iteP (p == 0) (∀ (m : Int), m = IntKind.i64.wrap (p - 0) →
 (1000 - m).NonNeg ∧ ∀ (x_2 : List UInt8), x_2 = zerosF m → (true = true ∧ [x_2, []].length ≤ 1000 ∧ [x_2, []].flatten.length ≤ 10000000) ∧ ∀ (x_3 : List UInt8), x_3 = [x_2, []].flatten → K (AV.tup [AV.sc (Value.string (ByteArray.mk (Array.mk x))), AV.sc (Value.string (ByteArray.mk (Array.mk x_3)))])) (∀ (m : Int), m = IntKind.i64.wrap (p - (↑x_1.length : Int)) → (1000 - m).NonNeg ∧
 ∀ (x_2 : List UInt8), x_2 = zerosF m → (true = true ∧ [x_2, x_1].length ≤ 1000 ∧ [x_2, x_1].flatten.length ≤ 10000000) ∧ ∀ (x_3 : List UInt8), x_3 = [x_2, x_1].flatten → K (AV.tup [AV.sc (Value.string (ByteArray.mk (Array.mk x))), AV.sc (Value.string (ByteArray.mk (Array.mk x_3)))]))) (∀ (m : Int), m = IntKind.i64.wrap (p - (↑x_1.length : Int)) → (1000 - m).NonNeg ∧ ∀ (x_2 : List UInt8),
 x_2 = zerosF m → (true = true ∧ [x_2, x_1].length ≤ 1000 ∧ [x_2, x_1].flatten.length ≤ 10000000) ∧ ∀ (x_3 : List UInt8), x_3 = [x_2, x_1].flatten → K (AV.tup [AV.sc (Value.string (ByteArray.mk (Array.mk x))), AV.sc (Value.string (ByteArray.mk (Array.mk x_3)))]))) ((0 ≤ m ∧ m ≤ 4294967295 ∧ ((10 : Int) = 8 ∨ (10 : Int) = 10 ∨ (10 : Int) = 16)) ∧ ∀ (x_1 : List UInt8), x_1 = fmtN 10 m.toNat →
 iteP (n == 0) (iteP (p == 0) (∀ (m : Int), m = IntKind.i64.wrap (p - 0) → (1000 - m).NonNeg ∧ ∀ (x_2 : List UInt8), x_2 = zerosF m → (true = true ∧ [x_2, []].length ≤ 1000 ∧ [x_2, []].flatten.length ≤ 10000000) ∧ ∀ (x_3 : List UInt8), x_3 = [x_2, []].flatten → K (AV.tup [AV.sc (Value.string (ByteArray.mk (Array.mk x))), AV.sc (Value.string (ByteArray.mk (Array.mk x_3)))])) (∀ (m : Int),
 m = IntKind.i64.wrap (p - (↑x_1.length : Int)) → (1000 - m).NonNeg ∧ ∀ (x_2 : List UInt8), x_2 = zerosF m → (true = true ∧ [x_2, x_1].length ≤ 1000 ∧ [x_2, x_1].flatten.length ≤ 10000000) ∧ ∀ (x_3 : List UInt8), x_3 = [x_2, x_1].flatten → K (AV.tup [AV.sc (Value.string (ByteArray.mk (Array.mk x))), AV.sc (Value.string (ByteArray.mk (Array.mk x_3)))]))) (∀ (m : Int),
 m = IntKind.i64.wrap (p - (↑x_1.length : Int)) → (1000 - m).NonNeg ∧ ∀ (x_2 : List UInt8), x_2 = zerosF m → (true = true ∧ [x_2, x_1].length ≤ 1000 ∧ [x_2, x_1].flatten.length ≤ 10000000) ∧ ∀ (x_3 : List UInt8), x_3 = [x_2, x_1].flatten → K (AV.tup [AV.sc (Value.string (ByteArray.mk (Array.mk x))), AV.sc (Value.string (ByteArray.mk (Array.mk x_3)))]))))) :
 (fun (a b c e : Bool) (w p n : Int) (K : AV → Prop) => wpCall F3 Door.cfg Tryd.prog 60 41 [.agg [aBool a, aBool b, aBool c, aBool e, aK .i64 w, aK .i64 p, aK .u8 105], aK .i64 n] heapF fun r h' => wpBack h' r K) a b c e w p n K :=
 Eq.mp (by kernel_rfl) h
theorem c41_111 (a : Bool) (b : Bool) (c : Bool) (e : Bool) (w : Int) (p : Int) (n : Int) (K : AV → Prop) (h :
 iteP (decide (n < 0)) (∀ (m : Int), m = IntKind.i64.wrap (n + 4294967296) → (0 ≤ m ∧ m ≤ 4294967295 ∧ ((8 : Int) = 8 ∨ (8 : Int) = 10 ∨ (8 : Int) = 16)) ∧ ∀ (x : List UInt8), x = fmtN 8 m.toNat → iteP (n == 0) (iteP (p == 0) (∀ (m : Int), m = IntKind.i64.wrap (p - 0) → (1000 - m).NonNeg ∧ ∀ (x : List UInt8), x = zerosF m → (true = true ∧ [x, []].length ≤ 1000 ∧ [x, []].flatten.length ≤ 10000000) ∧
 ∀ (x_1 : List UInt8), x_1 = [x, []].flatten → K (AV.tup [AV.sc (Value.string (ByteArray.mk (Array.mk []))), AV.sc (Value.string (ByteArray.mk (Array.mk x_1)))])) (∀ (m : Int), m = IntKind.i64.wrap (p - (↑x.length : Int)) → (1000 - m).NonNeg ∧ ∀ (x_1 : List UInt8), x_1 = zerosF m → (true = true ∧ [x_1, x].length ≤ 1000 ∧ [x_1, x].flatten.length ≤ 10000000) ∧ ∀ (x_2 : List UInt8),
 x_2 = [x_1, x].flatten → K (AV.tup [AV.sc (Value.string (ByteArray.mk (Array.mk []))), AV.sc (Value.string (ByteArray.mk (Array.mk x_2)))]))) (∀ (m : Int), m = IntKind.i64.wrap (p - (↑x.length : Int)) → (1000 - m).NonNeg ∧ ∀ (x_1 : List UInt8), x_1 = zerosF m → (true = true ∧ [x_1, x].length ≤ 1000 ∧ [x_1, x].flatten.length ≤ 10000000) ∧ ∀ (x_2 : List UInt8), x_2 = [x_1, x].flatten → K (AV.tup
 [AV.sc (Value.string (ByteArray.mk (Array.mk []))), AV.sc (Value.string (ByteArray.mk (Array.mk x_2)))]))) ((0 ≤ n ∧ n ≤ 4294967295 ∧ ((8 : Int) = 8 ∨ (8 : Int) = 10 ∨ (8 : Int) = 16)) ∧ ∀ (x : List UInt8), x = fmtN 8 n.toNat → iteP (n == 0) (iteP (p == 0) (∀ (m : Int), m = IntKind.i64.wrap (p - 0) → (1000 - m).NonNeg ∧ ∀ (x : List UInt8), x = zerosF m →
 (true = true ∧ [x, []].length ≤ 1000 ∧ [x, []].flatten.length ≤ 10000000) ∧ ∀ (x_1 : List UInt8), x_1 = [x, []].flatten → K (AV.tup [AV.sc (Value.string (ByteArray.mk (Array.mk []))), AV.sc (Value.string (ByteArray.mk (Array.mk x_1)))])) (∀ (m : Int), m = IntKind.i64.wrap (p - (↑x.length : Int)) → (1000 - m).NonNeg ∧ ∀ (x_1 : List UInt8), x_1 = zerosF m →
 (true = true ∧ [x_1, x].length ≤ 1000 ∧ [x_1, x].flatten.length ≤ 10000000) ∧ ∀ (x_2 : List UInt8), x_2 = [x_1, x].flatten → K (AV.tup [AV.sc (Value.string (ByteArray.mk (Array.mk []))), AV.sc (Value.string (ByteArray.mk (Array.mk x_2)))]))) (∀ (m : Int), m = IntKind.i64.wrap (p - (↑x.length : Int)) → (1000 - m).NonNeg ∧ ∀ (x_1 : List UInt8), x_1 = zerosF m →
 (true = true ∧ [x_1, x].length ≤ 1000 ∧ [x_1, x].flatten.length ≤ 10000000) ∧ ∀ (x_2 : List UInt8), x_2 = [x_1, x].flatten → K (AV.tup [AV.sc (Value.string (ByteArray.mk (Array.mk []))), AV.sc (Value.string (ByteArray.mk (Array.mk x_2)))])))) :
 (fun (a b c e : Bool) (w p n : Int) (K : AV → Prop) => wpCall F3 Door.cfg Tryd.prog 60 41 [.agg [aBool a, aBool b, aBool c, aBool e, aK .i64 w, aK .i64 p, aK .u8 111], aK .i64 n] heapF fun r h' => wpBack h' r K) a b c e w p n K :=
 Eq.mp (by kernel_rfl) h
theorem c41_117 (a : Bool) (b : Bool) (c : Bool) (e : Bool) (w : Int) (p : Int) (n : Int) (K : AV → Prop) (h :
 iteP (decide (n < 0)) (∀ (m : Int), m = IntKind.i64.wrap (n + 4294967296) → (0 ≤ m ∧ m ≤ 4294967295 ∧ ((10 : Int) = 8 ∨ (10 : Int) = 10 ∨ (10 : Int) = 16)) ∧ ∀ (x : List UInt8), x = fmtN 10 m.toNat → iteP (n == 0) (iteP (p == 0) (∀ (m : Int), m = IntKind.i64.wrap (p - 0) → (1000 - m).NonNeg ∧ ∀ (x : List UInt8), x = zerosF m →
 (true = true ∧ [x, []].length ≤ 1000 ∧ [x, []].flatten.length ≤ 10000000) ∧ ∀ (x_1 : List UInt8), x_1 = [x, []].flatten → K (AV.tup [AV.sc (Value.string (ByteArray.mk (Array.mk []))), AV.sc (Value.string (ByteArray.mk (Array.mk x_1)))])) (∀ (m : Int), m = IntKind.i64.wrap (p - (↑x.length : Int)) → (1000 - m).NonNeg ∧ ∀ (x_1 : List UInt8), x_1 = zerosF m →
 (true = true ∧ [x_1, x].length ≤ 1000 ∧ [x_1, x].flatten.length ≤ 10000000) ∧ ∀ (x_2 : List UInt8), x_2 = [x_1, x].flatten → K (AV.tup [AV.sc (Value.string (ByteArray.mk (Array.mk []))), AV.sc (Value.string (ByteArray.mk (Array.mk x_2)))]))) (∀ (m : Int), m = IntKind.i64.wrap (p - (↑x.length : Int)) → (1000 - m).NonNeg ∧ ∀ (x_1 : List UInt8), x_1 = zerosF m →
 (true = true ∧ [x_1, x].length ≤ 1000 ∧ [x_1, x].flatten.length ≤ 10000000) ∧ ∀ (x_2 : List UInt8), x_2 = [x_1, x].flatten → K (AV.tup [AV.sc (Value.string (ByteArray.mk (Array.mk []))), AV.sc (Value.string (ByteArray.mk (Array.mk x_2)))]))) ((0 ≤ n ∧ n ≤ 4294967295 ∧ ((10 : Int) = 8 ∨ (10 : Int) = 10 ∨ (10 : Int) = 16)) ∧ ∀ (x : List UInt8), x = fmtN 10 n.toNat → iteP (n == 0) (iteP (p == 0)
 (∀ (m : Int), m = IntKind.i64.wrap (p - 0) → (1000 - m).NonNeg ∧ ∀ (x : List UInt8), x = zerosF m → (true = true ∧ [x, []].length ≤ 1000 ∧ [x, []].flatten.length ≤ 10000000) ∧ ∀ (x_1 : List UInt8), x_1 = [x, []].flatten → K (AV.tup [AV.sc (Value.string (ByteArray.mk (Array.mk []))), AV.sc (Value.string (ByteArray.mk (Array.mk x_1)))])) (∀ (m : Int), m = IntKind.i64.wrap (p - (↑x.length : Int)) →
 (1000 - m).NonNeg ∧ ∀ (x_1 : List UInt8), x_1 = zerosF m → (true = true ∧ [x_1, x].length ≤ 1000 ∧ [x_1, x].flatten.length ≤ 10000000) ∧ ∀ (x_2 : List UInt8), x_2 = [x_1, x].flatten → K (AV.tup [AV.sc (Value.string (ByteArray.mk (Array.mk []))), AV.sc (Value.string (ByteArray.mk (Array.mk x_2)))]))) (∀ (m : Int), m = IntKind.i64.wrap (p - (↑x.length : Int)) → (1000 - m).NonNeg ∧
 ∀ (x_1 : List UInt8), x_1 = zerosF m → (true = true ∧ [x_1, x].length ≤ 1000 ∧ [x_1, x].flatten.length ≤ 10000000) ∧ ∀ (x_2 : List UInt8), x_2 = [x_1, x].flatten → K (AV.tup [AV.sc (Value.string (ByteArray.mk (Array.mk []))), AV.sc (Value.string (ByteArray.mk (Array.mk x_2)))])))) :
 (fun (a b c e : Bool) (w p n : Int) (K : AV → Prop) => wpCall F3 Door.cfg Tryd.prog 60 41 [.agg [aBool a, aBool b, aBool c, aBool e, aK .i64 w, aK .i64 p, aK .u8 117], aK .i64 n] heapF fun r h' => wpBack h' r K) a b c e w p n K :=
 Eq.mp (by kernel_rfl) h
theorem c41_120 (a : Bool) (b : Bool) (c : Bool) (e : Bool) (w : Int) (p : Int) (n : Int) (K : AV → Prop) (h :
 iteP (decide (n < 0)) (∀ (m : Int), m = IntKind.i64.wrap (n + 4294967296) → (0 ≤ m ∧ m ≤ 4294967295 ∧ ((16 : Int) = 8 ∨ (16 : Int) = 10 ∨ (16 : Int) = 16)) ∧ ∀ (x : List UInt8), x = fmtN 16 m.toNat → iteP (n == 0) (iteP (p == 0) (∀ (m : Int), m = IntKind.i64.wrap (p - 0) → (1000 - m).NonNeg ∧ ∀ (x : List UInt8), x = zerosF m →
 (true = true ∧ [x, []].length ≤ 1000 ∧ [x, []].flatten.length ≤ 10000000) ∧ ∀ (x_1 : List UInt8), x_1 = [x, []].flatten → K (AV.tup [AV.sc (Value.string (ByteArray.mk (Array.mk []))), AV.sc (Value.string (ByteArray.mk (Array.mk x_1)))])) (∀ (m : Int), m = IntKind.i64.wrap (p - (↑x.length : Int)) → (1000 - m).NonNeg ∧ ∀ (x_1 : List UInt8), x_1 = zerosF m →
 (true = true ∧ [x_1, x].length ≤ 1000 ∧ [x_1, x].flatten.length ≤ 10000000) ∧ ∀ (x_2 : List UInt8), x_2 = [x_1, x].flatten → K (AV.tup [AV.sc (Value.string (ByteArray.mk (Array.mk []))), AV.sc (Value.string (ByteArray.mk (Array.mk x_2)))]))) (∀ (m : Int), m = IntKind.i64.wrap (p - (↑x.length : Int)) → (1000 - m).NonNeg ∧ ∀ (x_1 : List UInt8), x_1 = zerosF m →
 (true = true ∧ [x_1, x].length ≤ 1000 ∧ [x_1, x].flatten.length ≤ 10000000) ∧ ∀ (x_2 : List UInt8), x_2 = [x_1, x].flatten → K (AV.tup [AV.sc (Value.string (ByteArray.mk (Array.mk []))), AV.sc (Value.string (ByteArray.mk (Array.mk x_2)))]))) ((0 ≤ n ∧ n ≤ 4294967295 ∧ ((16 : Int) = 8 ∨ (16 : Int) = 10 ∨ (16 : Int) = 16)) ∧ ∀ (x : List UInt8), x = fmtN 16 n.toNat → iteP (n == 0) (iteP (p == 0)
 (∀ (m : Int), m = IntKind.i64.wrap (p - 0) → (1000 - m).NonNeg ∧ ∀ (x : List UInt8), x = zerosF m → (true = true ∧ [x, []].length ≤ 1000 ∧ [x, []].flatten.length ≤ 10000000) ∧ ∀ (x_1 : List UInt8), x_1 = [x, []].flatten → K (AV.tup [AV.sc (Value.string (ByteArray.mk (Array.mk []))), AV.sc (Value.string (ByteArray.mk (Array.mk x_1)))])) (∀ (m : Int), m = IntKind.i64.wrap (p - (↑x.length : Int)) →
 (1000 - m).NonNeg ∧ ∀ (x_1 : List UInt8), x_1 = zerosF m → (true = true ∧ [x_1, x].length ≤ 1000 ∧ [x_1, x].flatten.length ≤ 10000000) ∧ ∀ (x_2 : List UInt8), x_2 = [x_1, x].flatten → K (AV.tup [AV.sc (Value.string (ByteArray.mk (Array.mk []))), AV.sc (Value.string (ByteArray.mk (Array.mk x_2)))]))) (∀ (m : Int), m = IntKind.i64.wrap (p - (↑x.length : Int)) → (1000 - m).NonNeg ∧
 ∀ (x_1 : List UInt8), x_1 = zerosF m → (true = true ∧ [x_1, x].length ≤ 1000 ∧ [x_1, x].flatten.length ≤ 10000000) ∧ ∀ (x_2 : List UInt8), x_2 = [x_1, x].flatten → K (AV.tup [AV.sc (Value.string (ByteArray.mk (Array.mk []))), AV.sc (Value.string (ByteArray.mk (Array.mk x_2)))])))) :
 (fun (a b c e : Bool) (w p n : Int) (K : AV → Prop) => wpCall F3 Door.cfg Tryd.prog 60 41 [.agg [aBool a, aBool b, aBool c, aBool e, aK .i64 w, aK .i64 p, aK .u8 120], aK .i64 n] heapF fun r h' => wpBack h' r K) a b c e w p n K :=
 Eq.mp (by kernel_rfl) h
theorem c41_88 (a : Bool) (b : Bool) (c : Bool) (e : Bool) (w : Int) (p : Int) (n : Int) (K : AV → Prop) (h :
 iteP (decide (n < 0)) (∀ (m : Int), m = IntKind.i64.wrap (n + 4294967296) → (0 ≤ m ∧ m ≤ 4294967295 ∧ ((16 : Int) = 8 ∨ (16 : Int) = 10 ∨ (16 : Int) = 16)) ∧ ∀ (x : List UInt8), x = fmtN 16 m.toNat → (x.length ≤ 1000 ∧ (x.all fun (b : UInt8) => decide (b.toNat < 128)) = true) ∧ ∀ (x_1 : List UInt8), x_1 = List.map upC x → iteP (n == 0) (iteP (p == 0) (∀ (m : Int), m = IntKind.i64.wrap (p - 0) →
 (1000 - m).NonNeg ∧ ∀ (x : List UInt8), x = zerosF m → (true = true ∧ [x, []].length ≤ 1000 ∧ [x, []].flatten.length ≤ 10000000) ∧ ∀ (x_2 : List UInt8), x_2 = [x, []].flatten → K (AV.tup [AV.sc (Value.string (ByteArray.mk (Array.mk []))), AV.sc (Value.string (ByteArray.mk (Array.mk x_2)))])) (∀ (m : Int), m = IntKind.i64.wrap (p - (↑x_1.length : Int)) → (1000 - m).NonNeg ∧ ∀ (x : List UInt8),
 x = zerosF m → (true = true ∧ [x, x_1].length ≤ 1000 ∧ [x, x_1].flatten.length ≤ 10000000) ∧ ∀ (x_2 : List UInt8), x_2 = [x, x_1].flatten → K (AV.tup [AV.sc (Value.string (ByteArray.mk (Array.mk []))), AV.sc (Value.string (ByteArray.mk (Array.mk x_2)))]))) (∀ (m : Int), m = IntKind.i64.wrap (p - (↑x_1.length : Int)) → (1000 - m).NonNeg ∧ ∀ (x : List UInt8), x = zerosF m → (true = true ∧
 [x, x_1].length ≤ 1000 ∧ [x, x_1].flatten.length ≤ 10000000) ∧ ∀ (x_2 : List UInt8), x_2 = [x, x_1].flatten → K (AV.tup [AV.sc (Value.string (ByteArray.mk (Array.mk []))), AV.sc (Value.string (ByteArray.mk (Array.mk x_2)))]))) ((0 ≤ n ∧ n ≤ 4294967295 ∧ ((16 : Int) = 8 ∨ (16 : Int) = 10 ∨ (16 : Int) = 16)) ∧ ∀ (x : List UInt8), x = fmtN 16 n.toNat →
 (x.length ≤ 1000 ∧ (x.all fun (b : UInt8) => decide (b.toNat < 128)) = true) ∧ ∀ (x_1 : List UInt8), x_1 = List.map upC x → iteP (n == 0) (iteP (p == 0) (∀ (m : Int), m = IntKind.i64.wrap (p - 0) → (1000 - m).NonNeg ∧ ∀ (x : List UInt8), x = zerosF m → (true = true ∧ [x, []].length ≤ 1000 ∧ [x, []].flatten.length ≤ 10000000) ∧ ∀ (x_2 : List UInt8), x_2 = [x, []].flatten → K (AV.tup
 [AV.sc (Value.string (ByteArray.mk (Array.mk []))), AV.sc (Value.string (ByteArray.mk (Array.mk x_2)))])) (∀ (m : Int), m = IntKind.i64.wrap (p - (↑x_1.length : Int)) → (1000 - m).NonNeg ∧ ∀ (x : List UInt8), x = zerosF m → (true = true ∧ [x, x_1].length ≤ 1000 ∧ [x, x_1].flatten.length ≤ 10000000) ∧ ∀ (x_2 : List UInt8), x_2 = [x, x_1].flatten → K (AV.tup
 [AV.sc (Value.string (ByteArray.mk (Array.mk []))), AV.sc (Value.string (ByteArray.mk (Array.mk x_2)))]))) (∀ (m : Int), m = IntKind.i64.wrap (p - (↑x_1.length : Int)) → (1000 - m).NonNeg ∧ ∀ (x : List UInt8), x = zerosF m → (true = true ∧ [x, x_1].length ≤ 1000 ∧ [x, x_1].flatten.length ≤ 10000000) ∧ ∀ (x_2 : List UInt8), x_2 = [x, x_1].flatten → K (AV.tup
 [AV.sc (Value.string (ByteArray.mk (Array.mk []))), AV.sc (Value.string (ByteArray.mk (Array.mk x_2)))])))) :
 (fun (a b c e : Bool) (w p n : Int) (K : AV → Prop) => wpCall F3 Door.cfg Tryd.prog 60 41 [.agg [aBool a, aBool b, aBool c, aBool e, aK .i64 w, aK .i64 p, aK .u8 88], aK .i64 n] heapF fun r h' => wpBack h' r K) a b c e w p n K :=
 Eq.mp (by kernel_rfl) h
end
end Go.Proofs.Pr
namespace Go.Proofs.Pr
open Go Go.Ef
noncomputable section
set_option maxRecDepth 100000
theorem c56 (d : Dir) (q : Bool) (K : AV → Prop) (h :
 iteP q (K (AV.sc (Value.string (ByteArray.mk (Array.mk [(45 : UInt8)]))))) (iteP d.plus (K (AV.sc (Value.string (ByteArray.mk (Array.mk [(43 : UInt8)]))))) (iteP d.space (K (AV.sc (Value.string (ByteArray.mk (Array.mk [(32 : UInt8)]))))) (K (AV.sc (Value.string (ByteArray.mk (Array.mk [])))))))) :
 (fun (d : Dir) (q : Bool) (K : AV → Prop) => wpCall tab0 Door.cfg Tryd.prog 60 56 [.agg d.cells, aBool q] heapF fun r h' => wpBack h' r K) d q K :=
 Eq.mp (by kernel_rfl) h
theorem c45 (n : Int) (K : AV → Prop) (h :
 (0 ≤ max n 0 ∧ max n (0 : Int) ≤ 100000 ∧ (1 : Nat) ≤ 1000000) ∧ ∀ (x : List UInt8), x = (List.replicate (max n 0).toNat [(48 : UInt8)]).flatten → K (AV.sc (Value.string (ByteArray.mk (Array.mk x))))) :
 (fun (n : Int) (K : AV → Prop) => wpCall (tab0.addC 42 C42) Door.cfg Tryd.prog 60 45 [aK .i64 n] heapF fun r h' => wpBack h' r K) n K :=
 Eq.mp (by kernel_rfl) h
theorem c40 (d : Dir) (x : Int) (K : AV → Prop) (h :
 iteP (d.prec == (-1)) (True ∧ ∀ (x_1 : Int), x_1 = roundF x 4 → ∀ (m : Int), m = max x_1 (IntKind.i64.wrap (0 - x_1)) → (0 ≤ IntKind.i64.wrap (m.tdiv 10000) ∧ IntKind.i64.wrap (m.tdiv 10000) ≤ 4294967295 ∧ ((10 : Int) = 8 ∨ (10 : Int) = 10 ∨ (10 : Int) = 16)) ∧ ∀ (x_2 : List UInt8), x_2 = fmtN 10 (IntKind.i64.wrap (m.tdiv 10000)).toNat → (0 ≤ m.tmod 10000 ∧ m.tmod (10000 : Int) ≤ 4294967295 ∧
 ((10 : Int) = 8 ∨ (10 : Int) = 10 ∨ (10 : Int) = 16)) ∧ ∀ (x_3 : List UInt8), x_3 = fmtN 10 (m.tmod 10000).toNat → (1000 - IntKind.i64.wrap (4 - (↑x_3.length : Int))).NonNeg ∧ ∀ (x_4 : List UInt8), x_4 = zerosF (IntKind.i64.wrap (4 - (↑x_3.length : Int))) → Int.NonNeg 998 ∧ ∀ (x_5 : List UInt8), x_5 = zerosF 2 → (true = true ∧ [x_4, x_3, x_5].length ≤ 1000 ∧
 [x_4, x_3, x_5].flatten.length ≤ 10000000) ∧ ∀ (x_6 : List UInt8), x_6 = [x_4, x_3, x_5].flatten → iteP (true && decide (6 ≤ (↑x_6.length : Int))) ((true = true ∧ [x_2, [(46 : UInt8)], List.take 6 x_6].length ≤ 1000 ∧ [x_2, [(46 : UInt8)], List.take 6 x_6].flatten.length ≤ 10000000) ∧ ∀ (x_7 : List UInt8), x_7 = [x_2, [(46 : UInt8)], List.take 6 x_6].flatten → iteP (decide (x < 0)) (iteP (x_1 != 0)
 (True ∧ ∀ (x : List UInt8), x = signF (Dir.mk d.minus d.zero d.plus d.space d.width d.prec d.kind) true → K (AV.tup [AV.sc (Value.string (ByteArray.mk (Array.mk x))), AV.sc (Value.string (ByteArray.mk (Array.mk x_7)))])) (True ∧ ∀ (x : List UInt8), x = signF (Dir.mk d.minus d.zero d.plus d.space d.width d.prec d.kind) false → K (AV.tup [AV.sc (Value.string (ByteArray.mk (Array.mk x))),
 AV.sc (Value.string (ByteArray.mk (Array.mk x_7)))]))) (True ∧ ∀ (x : List UInt8), x = signF (Dir.mk d.minus d.zero d.plus d.space d.width d.prec d.kind) false → K (AV.tup [AV.sc (Value.string (ByteArray.mk (Array.mk x))), AV.sc (Value.string (ByteArray.mk (Array.mk x_7)))]))) False) (True ∧ ∀ (x_1 : Int), x_1 = roundF x (min d.prec 4) → ∀ (m : Int), m = max x_1 (IntKind.i64.wrap (0 - x_1)) →
 (0 ≤ IntKind.i64.wrap (m.tdiv 10000) ∧ IntKind.i64.wrap (m.tdiv 10000) ≤ 4294967295 ∧ ((10 : Int) = 8 ∨ (10 : Int) = 10 ∨ (10 : Int) = 16)) ∧ ∀ (x_2 : List UInt8), x_2 = fmtN 10 (IntKind.i64.wrap (m.tdiv 10000)).toNat → iteP (decide (0 < d.prec)) ((0 ≤ m.tmod 10000 ∧ m.tmod (10000 : Int) ≤ 4294967295 ∧ ((10 : Int) = 8 ∨ (10 : Int) = 10 ∨ (10 : Int) = 16)) ∧ ∀ (x_3 : List UInt8),
 x_3 = fmtN 10 (m.tmod 10000).toNat → (1000 - IntKind.i64.wrap (4 - (↑x_3.length : Int))).NonNeg ∧ ∀ (x_4 : List UInt8), x_4 = zerosF (IntKind.i64.wrap (4 - (↑x_3.length : Int))) → (1000 - IntKind.i64.wrap (d.prec - 4)).NonNeg ∧ ∀ (x_5 : List UInt8), x_5 = zerosF (IntKind.i64.wrap (d.prec - 4)) → (true = true ∧ [x_4, x_3, x_5].length ≤ 1000 ∧ [x_4, x_3, x_5].flatten.length ≤ 10000000) ∧
 ∀ (x_6 : List UInt8), x_6 = [x_4, x_3, x_5].flatten → iteP (decide (0 ≤ d.prec) && decide (d.prec ≤ (↑x_6.length : Int))) ((true = true ∧ [x_2, [(46 : UInt8)], List.take d.prec.toNat x_6].length ≤ 1000 ∧ [x_2, [(46 : UInt8)], List.take d.prec.toNat x_6].flatten.length ≤ 10000000) ∧ ∀ (x_7 : List UInt8), x_7 = [x_2, [(46 : UInt8)], List.take d.prec.toNat x_6].flatten → iteP (decide (x < 0))
 (iteP (x_1 != 0) (True ∧ ∀ (x : List UInt8), x = signF (Dir.mk d.minus d.zero d.plus d.space d.width d.prec d.kind) true → K (AV.tup [AV.sc (Value.string (ByteArray.mk (Array.mk x))), AV.sc (Value.string (ByteArray.mk (Array.mk x_7)))])) (True ∧ ∀ (x : List UInt8), x = signF (Dir.mk d.minus d.zero d.plus d.space d.width d.prec d.kind) false → K (AV.tup
 [AV.sc (Value.string (ByteArray.mk (Array.mk x))), AV.sc (Value.string (ByteArray.mk (Array.mk x_7)))]))) (True ∧ ∀ (x : List UInt8), x = signF (Dir.mk d.minus d.zero d.plus d.space d.width d.prec d.kind) false → K (AV.tup [AV.sc (Value.string (ByteArray.mk (Array.mk x))), AV.sc (Value.string (ByteArray.mk (Array.mk x_7)))]))) False) (iteP (decide (x < 0)) (iteP (x_1 != 0) (True ∧
 ∀ (x : List UInt8), x = signF (Dir.mk d.minus d.zero d.plus d.space d.width d.prec d.kind) true → K (AV.tup [AV.sc (Value.string (ByteArray.mk (Array.mk x))), AV.sc (Value.string (ByteArray.mk (Array.mk x_2)))])) (True ∧ ∀ (x : List UInt8), x = signF (Dir.mk d.minus d.zero d.plus d.space d.width d.prec d.kind) false → K (AV.tup [AV.sc (Value.string (ByteArray.mk (Array.mk x))),
 AV.sc (Value.string (ByteArray.mk (Array.mk x_2)))]))) (True ∧ ∀ (x : List UInt8), x = signF (Dir.mk d.minus d.zero d.plus d.space d.width d.prec d.kind) false → K (AV.tup [AV.sc (Value.string (ByteArray.mk (Array.mk x))), AV.sc (Value.string (ByteArray.mk (Array.mk x_2)))]))))) :
 (fun (d : Dir) (x : Int) (K : AV → Prop) => wpCall F2 Door.cfg Tryd.prog 60 40 [.agg d.cells, aK .i64 x] heapF fun r h' => wpBack h' r K) d x K :=
 Eq.mp (by kernel_rfl) h
theorem c55 (n : Int) (b : Int) (K : AV → Prop) (h :
 (0 ≤ n ∧ n ≤ 4294967295 ∧ (b = 8 ∨ b = 10 ∨ b = 16)) ∧ ∀ (x : List UInt8), x = fmtN b.toNat n.toNat → K (AV.sc (Value.string (ByteArray.mk (Array.mk x))))) :
 (fun (n b : Int) (K : AV → Prop) => wpCall (tab0.addC 67 C55) Door.cfg Tryd.prog 60 55 [aK .i64 n, aK .i64 b] heapF fun r h' => wpBack h' r K) n b K :=
 Eq.mp (by kernel_rfl) h
end
end Go.Proofs.Pr
namespace Go.Proofs.Pr
open Go Go.Ef
noncomputable section
def z8 : AV := aK .u8 0
def hF (cs : List AV) : Heap := { next := 2, objs := Tr.leaf.set 1 (.cells cs), ro := 1, ty := Tr.leaf.set 1 (134, 65) }
def S85 (b sh mk u i : Int) (cs : List AV) : St := stOf 102 [(0, .v (.sc (.slice none 0 0))), (1, sK .u64 u), (3, sBool false), (4, sBool false), (10, .v (.sc (.slice none 0 0))), (11, sStr []), (12, .v (.ptr 1 0)), (13, sInt i), (14, sK .u64 sh), (15, sK .u64 b), (16, sK .u64 mk)] [] (hF cs)
def E85 (u i : Int) (cs : List AV) : St := stOf 102 [(0, .v (.sc (.slice none 0 0))), (1, sK .u64 u), (3, sBool false), (4, sBool false), (10, .v (.sc (.slice none 0 0))), (11, sStr []), (12, .v (.ptr 1 0)), (13, sInt i)] [] (hF cs)
def hCs (h : Heap) : List AV :=
 match h.objs.get 1 with
 | some (.cells cs) => cs
 | _ => []
def qE85 (i : Int) (X : Int → List AV → Prop) (e : Ex) (τ : St) : Prop :=
 match e with
 | .exit 0 => τ = E85 (slI τ 1) i (hCs τ.h) ∧ X (slI τ 1) (hCs τ.h)
 | _ => False
def alts85h (u : Int) : List LAlt := [{ α := Unit, post := fun _ => 0 ≤ u ∧ u < 16, ex := .exit 0, st := fun _ => E85 (u) 65 (List.replicate 65 z8 ++ []) },
 { α := Unit, post := fun _ => 16 ≤ u ∧ u < 256, ex := .exit 0, st := fun _ => E85 (u / 16) 64 (List.replicate 64 z8 ++ [aK .u8 (byteAt digTab (u % 16))]) },
 { α := Unit, post := fun _ => 256 ≤ u ∧ u < 4096, ex := .exit 0, st := fun _ => E85 (u / 256) 63 (List.replicate 63 z8 ++ [aK .u8 (byteAt digTab (u / 16 % 16)), aK .u8 (byteAt digTab (u % 16))]) },
 { α := Unit, post := fun _ => 4096 ≤ u ∧ u < 65536, ex := .exit 0, st := fun _ => E85 (u / 4096) 62 (List.replicate 62 z8 ++ [aK .u8 (byteAt digTab (u / 256 % 16)), aK .u8 (byteAt digTab (u / 16 % 16)), aK .u8 (byteAt digTab (u % 16))]) },
 { α := Unit, post := fun _ => 65536 ≤ u ∧ u < 1048576, ex := .exit 0, st := fun _ => E85 (u / 65536) 61 (List.replicate 61 z8 ++ [aK .u8 (byteAt digTab (u / 4096 % 16)), aK .u8 (byteAt digTab (u / 256 % 16)), aK .u8 (byteAt digTab (u / 16 % 16)), aK .u8 (byteAt digTab (u % 16))]) },
 { α := Unit, post := fun _ => 1048576 ≤ u ∧ u < 16777216, ex := .exit 0, st := fun _ => E85 (u / 1048576) 60 (List.replicate 60 z8 ++ [aK .u8 (byteAt digTab (u / 65536 % 16)), aK .u8 (byteAt digTab (u / 4096 % 16)), aK .u8 (byteAt digTab (u / 256 % 16)), aK .u8 (byteAt digTab (u / 16 % 16)), aK .u8 (byteAt digTab (u % 16))]) },
 { α := Unit, post := fun _ => 16777216 ≤ u ∧ u < 268435456, ex := .exit 0, st := fun _ => E85 (u / 16777216) 59 (List.replicate 59 z8 ++ [aK .u8 (byteAt digTab (u / 1048576 % 16)), aK .u8 (byteAt digTab (u / 65536 % 16)), aK .u8 (byteAt digTab (u / 4096 % 16)), aK .u8 (byteAt digTab (u / 256 % 16)), aK .u8 (byteAt digTab (u / 16 % 16)), aK .u8 (byteAt digTab (u % 16))]) },
 { α := Unit, post := fun _ => 268435456 ≤ u ∧ u < 4294967296, ex := .exit 0, st := fun _ => E85 (u / 268435456) 58 (List.replicate 58 z8 ++ [aK .u8 (byteAt digTab (u / 16777216 % 16)), aK .u8 (byteAt digTab (u / 1048576 % 16)), aK .u8 (byteAt digTab (u / 65536 % 16)), aK .u8 (byteAt digTab (u / 4096 % 16)), aK .u8 (byteAt digTab (u / 256 % 16)), aK .u8 (byteAt digTab (u / 16 % 16)), aK .u8 (byteAt digTab (u % 16))]) }]
def alts85o (u : Int) : List LAlt := [{ α := Unit, post := fun _ => 0 ≤ u ∧ u < 8, ex := .exit 0, st := fun _ => E85 (u) 65 (List.replicate 65 z8 ++ []) },
 { α := Unit, post := fun _ => 8 ≤ u ∧ u < 64, ex := .exit 0, st := fun _ => E85 (u / 8) 64 (List.replicate 64 z8 ++ [aK .u8 (byteAt digTab (u % 8))]) },
 { α := Unit, post := fun _ => 64 ≤ u ∧ u < 512, ex := .exit 0, st := fun _ => E85 (u / 64) 63 (List.replicate 63 z8 ++ [aK .u8 (byteAt digTab (u / 8 % 8)), aK .u8 (byteAt digTab (u % 8))]) },
 { α := Unit, post := fun _ => 512 ≤ u ∧ u < 4096, ex := .exit 0, st := fun _ => E85 (u / 512) 62 (List.replicate 62 z8 ++ [aK .u8 (byteAt digTab (u / 64 % 8)), aK .u8 (byteAt digTab (u / 8 % 8)), aK .u8 (byteAt digTab (u % 8))]) },
 { α := Unit, post := fun _ => 4096 ≤ u ∧ u < 32768, ex := .exit 0, st := fun _ => E85 (u / 4096) 61 (List.replicate 61 z8 ++ [aK .u8 (byteAt digTab (u / 512 % 8)), aK .u8 (byteAt digTab (u / 64 % 8)), aK .u8 (byteAt digTab (u / 8 % 8)), aK .u8 (byteAt digTab (u % 8))]) },
 { α := Unit, post := fun _ => 32768 ≤ u ∧ u < 262144, ex := .exit 0, st := fun _ => E85 (u / 32768) 60 (List.replicate 60 z8 ++ [aK .u8 (byteAt digTab (u / 4096 % 8)), aK .u8 (byteAt digTab (u / 512 % 8)), aK .u8 (byteAt digTab (u / 64 % 8)), aK .u8 (byteAt digTab (u / 8 % 8)), aK .u8 (byteAt digTab (u % 8))]) },
 { α := Unit, post := fun _ => 262144 ≤ u ∧ u < 2097152, ex := .exit 0, st := fun _ => E85 (u / 262144) 59 (List.replicate 59 z8 ++ [aK .u8 (byteAt digTab (u / 32768 % 8)), aK .u8 (byteAt digTab (u / 4096 % 8)), aK .u8 (byteAt digTab (u / 512 % 8)), aK .u8 (byteAt digTab (u / 64 % 8)), aK .u8 (byteAt digTab (u / 8 % 8)), aK .u8 (byteAt digTab (u % 8))]) },
 { α := Unit, post := fun _ => 2097152 ≤ u ∧ u < 16777216, ex := .exit 0, st := fun _ => E85 (u / 2097152) 58 (List.replicate 58 z8 ++ [aK .u8 (byteAt digTab (u / 262144 % 8)), aK .u8 (byteAt digTab (u / 32768 % 8)), aK .u8 (byteAt digTab (u / 4096 % 8)), aK .u8 (byteAt digTab (u / 512 % 8)), aK .u8 (byteAt digTab (u / 64 % 8)), aK .u8 (byteAt digTab (u / 8 % 8)), aK .u8 (byteAt digTab (u % 8))]) },
 { α := Unit, post := fun _ => 16777216 ≤ u ∧ u < 134217728, ex := .exit 0, st := fun _ => E85 (u / 16777216) 57 (List.replicate 57 z8 ++ [aK .u8 (byteAt digTab (u / 2097152 % 8)), aK .u8 (byteAt digTab (u / 262144 % 8)), aK .u8 (byteAt digTab (u / 32768 % 8)), aK .u8 (byteAt digTab (u / 4096 % 8)), aK .u8 (byteAt digTab (u / 512 % 8)), aK .u8 (byteAt digTab (u / 64 % 8)), aK .u8 (byteAt digTab (u / 8 % 8)), aK .u8 (byteAt digTab (u % 8))]) },
 { α := Unit, post := fun _ => 134217728 ≤ u ∧ u < 1073741824, ex := .exit 0, st := fun _ => E85 (u / 134217728) 56 (List.replicate 56 z8 ++ [aK .u8 (byteAt digTab (u / 16777216 % 8)), aK .u8 (byteAt digTab (u / 2097152 % 8)), aK .u8 (byteAt digTab (u / 262144 % 8)), aK .u8 (byteAt digTab (u / 32768 % 8)), aK .u8 (byteAt digTab (u / 4096 % 8)), aK .u8 (byteAt digTab (u / 512 % 8)), aK .u8 (byteAt digTab (u / 64 % 8)), aK .u8 (byteAt digTab (u / 8 % 8)), aK .u8 (byteAt digTab (u % 8))]) },
 { α := Unit, post := fun _ => 1073741824 ≤ u ∧ u < 4294967296, ex := .exit 0, st := fun _ => E85 (u / 1073741824) 55 (List.replicate 55 z8 ++ [aK .u8 (byteAt digTab (u / 134217728 % 8)), aK .u8 (byteAt digTab (u / 16777216 % 8)), aK .u8 (byteAt digTab (u / 2097152 % 8)), aK .u8 (byteAt digTab (u / 262144 % 8)), aK .u8 (byteAt digTab (u / 32768 % 8)), aK .u8 (byteAt digTab (u / 4096 % 8)), aK .u8 (byteAt digTab (u / 512 % 8)), aK .u8 (byteAt digTab (u / 64 % 8)), aK .u8 (byteAt digTab (u / 8 % 8)), aK .u8 (byteAt digTab (u % 8))]) }]
def H0 : Tab := ((tab0.name 85 52).name 85 53).name 85 57
def L85 (σ : St) : Option LSpec :=
 match σ.at 1, σ.at 15 with
 | .v (.sc (.int .u64 u)), .v (.sc (.int .u64 16)) => some { pre := σ.tidy [0, 1, 3, 4, 10, 11, 12, 13, 14, 15, 16] 0 = S85 16 4 15 u 65 (List.replicate 65 z8 ++ []) ∧ 0 ≤ u ∧ u < 4294967296, alts := alts85h u }
 | .v (.sc (.int .u64 u)), .v (.sc (.int .u64 8)) => some { pre := σ.tidy [0, 1, 3, 4, 10, 11, 12, 13, 14, 15, 16] 0 = S85 8 3 7 u 65 (List.replicate 65 z8 ++ []) ∧ 0 ≤ u ∧ u < 4294967296, alts := alts85o u }
 | _, _ => none
def H1 : Tab := (tab0.addL 85 12 L85)
end
end Go.Proofs.Pr
