/- A part of the proof: definitions and lemmas. -/
import Derived.Test.YtijnmcodipdioaaGreatDoorLiteralsA
import Derived.Test.YtijnmcodipdioaaGreatDoorLiteralsB
import Derived.Test.YtijnmcodipdioaaGreatDoorLiteralsC
import Derived.Test.YtijnmcodipdioaaGreatDoorLiteralsD
import Derived.Test.YtijnmcodipdioaaGreatDoorLiteralsE
import Derived.Test.YtijnmcodipdioaaGreatDoorLiteralsF
import Derived.Test.YtijnmcodipdioaaGreatDoorLiteralsG
import Derived.Test.YtijnmcodipdioaaGreatDoorLiteralsQ
import Derived.Test.YtijnmcodipdioaaGreatDoorLiteralsR
import Derived.Test.YtijnmcodipdioaaGreatDoorLiteralsS
import Derived.Test.YtijnmcodipdioaaGreatDoorLiteralsT
import Derived.Test.YtijnmcodipdioaaGreatDoorLiteralsU
import Derived.Test.YtijnmcodipdioaaGreatDoorLiteralsV
import Derived.Test.YtijnmcodipdioaaGreatDoorLiteralsW
import Derived.Test.YtijnmcodipdioaaGreatDoorLiteralsX
import Derived.Test.YtijnmcodipdioaaGreatDoorLiteralsY
namespace Go.Proofs.Rl
open Go Go.Ef
noncomputable section
set_option maxRecDepth 100000
theorem args_of {l m : List AV} (h : isArgs l m = true) : l = m := by
 have := eqA_ok _ _ _ h
 cases this; rfl
theorem exF {g n : Nat} {args m : List AV} {v : AV} {h : Heap} {z : CSpec} (hf : ansN n g m v = true) (hfr : cfg.fresh g = true) (hp : cfg.prim g = none) (ha : isArgs args m = true) (hs : some (fspec True v h) = some z) :
  ∃ a ∈ z.alts, ∃ x k, a.post x ∧ callP cfg (evCall cfg Tryz.prog k) g args h = some (a.val x, a.heap x) := by
 cases hs
 obtain rfl := args_of ha
 exact ⟨_, List.mem_singleton.2 rfl, (), n, trivial, ansN_ok hf hfr hp h⟩
theorem okE7 {T : Tab} (O : Ok T) : Ok (T.addC 7 exC7) := by
 refine addC_ok O fun args h z hs hp => ?_
 unfold exC7 at hs
 split at hs
 ·exact exF f7 (by kernel_rfl) rfl (by kernel_rfl : isArgs [] [] = true) hs
 ·cases hs
theorem okE6 {T : Tab} (O : Ok T) : Ok (T.addC 6 exC6) := by
 refine addC_ok O fun args h z hs hp => ?_
 unfold exC6 at hs
 cases h1 : isArgs args [aStr pat1, iA 1, locA] with
 | true => rw [h1] at hs; exact exF f6a (by kernel_rfl) rfl h1 hs
 | false =>
  rw [h1] at hs
  cases h2 : isArgs args [aStr pat2, iA 1, locA] with
  | true => rw [h2] at hs; exact exF f6b (by kernel_rfl) rfl h2 hs
  | false =>
   rw [h2] at hs
   cases h3 : isArgs args [aStr pat3, iA 1, locA] with
   | true => rw [h3] at hs; exact exF f6c (by kernel_rfl) rfl h3 hs
   | false => rw [h3] at hs; cases hs
theorem okE30 : Ok T8e := by
 have h0 : Ok (tab0.addC 30 exC30) := by
  refine addC_ok tab0_ok fun args h z hs hp => ?_
  unfold exC30 at hs
  cases h1 : isArgs args a30V with
  | true => rw [h1] at hs; exact exF f30 (by kernel_rfl) rfl h1 hs
  | false => rw [h1] at hs; cases hs
 exact ⟨h0.call, h0.loop⟩
theorem fresh_deep {g : FuncId} {args a : List AV} {v r : AV} {h h' : Heap} {call : CallF} (ha : mapO (stripA 8) args = some a) (hf : cfg.fresh g = true) (hp : cfg.prim g = none) (e : call g a heapF = some (r, h')) (hv : strip 8 h' r = some v) : callP cfg call g args h = some (v, h) := by
 unfold callP
 rw [hp]; simp only []; rw [hf]; simp only [cond_true]; rw [ha]; simp only []; rw [e]; simp only []; rw [hv]
theorem okE8 {T : Tab} (O : Ok T) : Ok (T.addC 8 exC8) := by
 refine addC_ok O fun args h z hs hp => ?_
 unfold exC8 at hs
 cases h1 : isArgs args [.agg x1V, aStr [120, 97, 98, 99, 100], iA 0] with
 | true =>
  rw [h1] at hs
  cases hs
  obtain rfl := args_of h1
  obtain ⟨m, r, h', e, k⟩ := call_okW okE30 300 8 _ heapF _ (v8 (fun y => y = r8V) ⟨trivial, fun _ _ => rfl⟩)
  unfold wpDeepB at k
  split at k
  ·rename_i y hy
   subst k
   exact ⟨_, List.mem_singleton.2 rfl, (), m, trivial, fresh_deep flat8 (by kernel_rfl) rfl e hy⟩
  ·exact k.elim
 | false => rw [h1] at hs; cases hs
theorem okE9 {T : Tab} (O : Ok T) : Ok (T.addC 9 exC9) := by
 refine addC_ok O fun args h z hs hp => ?_
 unfold exC9 at hs
 cases h1 : isArgs args [.agg x2V, aStr [98, 97, 97, 99]] with
 | true => rw [h1] at hs; exact exF f9 (by kernel_rfl) rfl h1 hs
 | false => rw [h1] at hs; cases hs
theorem okE10 {T : Tab} (O : Ok T) : Ok (T.addC 10 exC10) := by
 refine addC_ok O fun args h z hs hp => ?_
 unfold exC10 at hs
 cases h1 : isArgs args [.agg x3V, aStr [97, 44, 32, 98, 44, 44, 99]] with
 | true => rw [h1] at hs; exact exF f10 (by kernel_rfl) rfl h1 hs
 | false => rw [h1] at hs; cases hs
theorem okTEx : Ok TEx := okE10 (okE9 (okE8 (okE6 (okE7 tab0_ok))))
theorem awake_yes (h : Heap) : ∃ m, callP cfg (evCall cfg Tryz.prog m) 5 [] h = some (bA true, h) :=
 fresh_okW okTEx (n := 300) (g := 5) (args := []) (h := h) (v := bA true) (by kernel_rfl) rfl rfl (v5 (fun y => y = bA true) ⟨trivial, fun _ _ => ⟨trivial, fun _ _ => ⟨trivial, fun _ _ => ⟨trivial, fun _ _ => ⟨trivial, fun _ _ => ⟨trivial, fun _ _ => ⟨trivial, fun _ _ => ⟨trivial, fun _ _ => ⟨trivial, fun _ _ => ⟨rfl, rfl, rfl, rfl, rfl, rfl, rfl, rfl, rfl, rfl⟩⟩⟩⟩⟩⟩⟩⟩⟩⟩)
end
end Go.Proofs.Rl
namespace Go.Proofs.Rl
open Go Go.Ef
noncomputable section
def simL (els : List (List AV)) (s : List UInt8) : List AV := .sl els 0 :: bA false :: aStr s :: (List.replicate 4096 (iA 0) ++ [iA 0, nilA])
def boxH (h : Heap) (t : TypeId) (cs : List AV) : Heap := (h.new (.cells cs)).2.typed h.next (t, cs.length)
def H143 (l s : List UInt8) : Heap := boxH heapF 202 (simL (progR l) s)
structure R143 (l : List UInt8) : Prop where
 run : ∀ (s : List UInt8) (K : AV → Heap → Prop), K (.ptr 1 0) (H143 l s) → wpCall tab0 cfg Tryz.prog 200 143 [.agg [.sl (progR l) 0, bA false], aStr s] heapF K
end
end Go.Proofs.Rl
