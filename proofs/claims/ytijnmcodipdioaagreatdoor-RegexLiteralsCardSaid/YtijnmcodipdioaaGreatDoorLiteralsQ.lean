/- A part of the proof: definitions and lemmas. -/
import Derived.Test.YtijnmcodipdioaaGreatDoorLiteralsA
import Derived.Test.YtijnmcodipdioaaGreatDoorLiteralsB
import Derived.Test.YtijnmcodipdioaaGreatDoorLiteralsC
import Derived.Test.YtijnmcodipdioaaGreatDoorLiteralsD
import Derived.Test.YtijnmcodipdioaaGreatDoorLiteralsE
import Derived.Test.YtijnmcodipdioaaGreatDoorLiteralsF
import Derived.Test.YtijnmcodipdioaaGreatDoorLiteralsG
import Derived.Test.YtijnmcodipdioaaGreatDoorLiteralsH
import Derived.Test.YtijnmcodipdioaaGreatDoorLiteralsI
import Derived.Test.YtijnmcodipdioaaGreatDoorLiteralsJ
import Derived.Test.YtijnmcodipdioaaGreatDoorLiteralsK
import Derived.Test.YtijnmcodipdioaaGreatDoorLiteralsL
import Derived.Test.YtijnmcodipdioaaGreatDoorLiteralsM
import Derived.Test.YtijnmcodipdioaaGreatDoorLiteralsN
import Derived.Test.YtijnmcodipdioaaGreatDoorLiteralsO
import Derived.Test.YtijnmcodipdioaaGreatDoorLiteralsP
namespace Go.Proofs.Rl
open Go Go.Ef
noncomputable section
set_option maxRecDepth 1000000
structure PX (x : List AV) (s : List UInt8) : Prop where
 is : ∃ l f, Lit l ∧ (f = 0 ∨ f = 1) ∧ x = xV l f
 le : s.length ≤ 60
structure LX (x : List AV) (s : List UInt8) : Prop where
 is : ∃ l f, Lit l ∧ (f = 0 ∨ f = 1) ∧ x = xV l f
 gt : 65536 < s.length
structure FoundAt (x : List AV) (s : List UInt8) (i j : Int) : Prop where
 is : ∀ l f, Lit l → x = xV l f → ∃ n : Nat, srch l s (s.length + 1) 0 = some n ∧ i = n ∧ j = n + l.length
structure NoneAt (x : List AV) (s : List UInt8) : Prop where
 is : ∀ l f, Lit l → x = xV l f → srch l s (s.length + 1) 0 = none
def C8 (args : List AV) (h : Heap) : Option CSpec :=
 match args with
 | [.agg x, .sc (.string ⟨⟨s⟩⟩), .sc (.int .i64 k)] => match k with
  | .ofNat 0 => some { pre := PX x s, alts := [{ α := Int × Int, post := fun p => FoundAt x s p.1 p.2, val := fun p => yesV p.1 p.2, heap := fun _ => h }, { α := Unit, post := fun _ => NoneAt x s, val := fun _ => noV, heap := fun _ => h }] }
  | .negSucc 0 => some (fspec (LX x s) limV h)
  | _ => none
 | _ => none
def C9 (args : List AV) (h : Heap) : Option CSpec :=
 match args with
 | [.agg x, .sc (.string ⟨⟨s⟩⟩)] => some (fspec (LX x s) (.tup [nilA, iA 3]) h)
 | _ => none
theorem xV_inj {l l' : List UInt8} {f f' : Int} (h : xV l f = xV l' f') : l = l' := by
 have := (List.cons.inj h).1
 cases this; rfl
theorem flat_x {l : List UInt8} {f : Int} (H : Lit l) (hf : f = 0 ∨ f = 1) : stripA 8 (.agg (xV l f)) = some (.agg (xV l f)) := by
 have h : mapO (stripA 8) [.agg (xV l f)] = some [.agg (xV l f)] := by
  rcases hf with rfl | rfl
  ·exact (all_R15_0 l H.pos H.le).flat
  ·exact (all_R15_1 l H.pos H.le).flat
 cases hq : stripA 8 (.agg (xV l f)) with
 | none =>
  replace h : consO (stripA 8 (.agg (xV l f))) (some []) = _ := h
  rw [hq] at h; cases h
 | some y =>
  replace h : consO (stripA 8 (.agg (xV l f))) (some []) = _ := h
  rw [hq] at h
  have h' : some [y] = some [AV.agg (xV l f)] := h
  cases h'; rfl
theorem preF_ok {l : List UInt8} {f : Int} (H : Lit l) (hf : f = 0 ∨ f = 1) : ∀ p ∈ preF l f, p := by
 intro p hm
 have hx : IsX [.agg (xV l f)] := ⟨l, f, H, hf, rfl⟩
 have ht : IsTree (treeR l) := ⟨l, H, rfl⟩
 simp only [preF, List.mem_cons, List.not_mem_nil, or_false] at hm
 rcases hm with rfl | rfl | rfl | rfl | rfl | rfl
 ·exact ht
 ·exact ht
 ·exact ht
 ·exact hx
 ·exact ht
 ·exact hx
theorem deep_of {T : Tab} (O : Ok T) {g : Nat} {args : List AV} {Q : AV → Prop} (ha : mapO (stripA 8) args = some args) (H : wpCall T cfg Tryz.prog 60 g args heapF fun r h' => wpDeepB h' r Q) (hf : cfg.fresh g = true) (hp : cfg.prim g = none) (h : Heap) : ∃ m v, callP cfg (evCall cfg Tryz.prog m) g args h = some (v, h) ∧ Q v := by
 obtain ⟨m, r, h', h1, h2⟩ := call_okW O 60 g args heapF _ H
 unfold wpDeepB at h2
 split at h2
 ·rename_i y hy
  refine ⟨m, y, ?_, h2⟩
  unfold callP
  rw [hp]; simp only []; rw [hf]; simp only [cond_true]; rw [ha]; simp only []; rw [h1]; simp only []; rw [hy]
 ·exact h2.elim
theorem find_run {l : List UInt8} {f : Int} (H : Lit l) (hf : f = 0 ∨ f = 1) : R8 f l := by
 rcases hf with rfl | rfl
 ·exact all_R8_0 l H.pos H.le
 ·exact all_R8_1 l H.pos H.le
theorem all_run {l : List UInt8} {f : Int} (H : Lit l) (hf : f = 0 ∨ f = 1) : R9 f l := by
 rcases hf with rfl | rfl
 ·exact all_R9_0 l H.pos H.le
 ·exact all_R9_1 l H.pos H.le
theorem flat3 {l : List UInt8} {f : Int} (H : Lit l) (hf : f = 0 ∨ f = 1) (s : List UInt8) (k : Int) : mapO (stripA 8) [.agg (xV l f), aStr s, iA k] = some [.agg (xV l f), aStr s, iA k] := by
 show consO (stripA 8 (.agg (xV l f))) (some [aStr s, iA k]) = _
 rw [flat_x H hf]; rfl
theorem flat2 {l : List UInt8} {f : Int} (H : Lit l) (hf : f = 0 ∨ f = 1) (s : List UInt8) : mapO (stripA 8) [.agg (xV l f), aStr s] = some [.agg (xV l f), aStr s] := by
 show consO (stripA 8 (.agg (xV l f))) (some [aStr s]) = _
 rw [flat_x H hf]; rfl
theorem ok8 {T : Tab} (O : Ok T) (O' : Ok TFi) : Ok (T.addC 8 C8) := by
 refine addC_ok O fun args h z hs hp => ?_
 unfold C8 at hs
 split at hs
 ·rename_i x s k
  split at hs
  ·cases hs
   obtain ⟨l, f, H, hf, rfl⟩ := PX.is hp
   have hle : s.length ≤ 60 := PX.le hp
   have key : ∀ r : Int × Int × Bool, Ans (progR l) s r → iteP r.2.2 ((∃ i j, FoundAt (xV l f) s i j ∧ yesV r.1 r.2.1 = yesV i j) ∨ (NoneAt (xV l f) s ∧ yesV r.1 r.2.1 = noV)) ((∃ i j, FoundAt (xV l f) s i j ∧ noV = yesV i j) ∨ (NoneAt (xV l f) s ∧ noV = noV)) := by
    intro r hr
    have hr := hr.is l H rfl
    cases hq : srch l s (s.length + 1) 0 with
    | some n =>
     rw [hq] at hr
     subst hr
     exact it rfl (.inl ⟨_, _, ⟨fun l' f' _ hx => by
      have := xV_inj hx
      subst this
      exact ⟨n, hq, rfl, rfl⟩⟩, rfl⟩)
    | none =>
     rw [hq] at hr
     subst hr
     exact ie rfl (.inr ⟨⟨fun l' f' _ hx => by
      have := xV_inj hx
      subst this
      exact hq⟩, rfl⟩)
   obtain ⟨m, v, e, q⟩ := deep_of (Q := fun y => (∃ i j, FoundAt (xV l f) s i j ∧ y = yesV i j) ∨ (NoneAt (xV l f) s ∧ y = noV)) O' (flat3 H hf s 0) (find_run H hf s 0 _ (chain_ok (ie (df (by omega)) (ie (df (by omega)) (ie (df (by omega)) ⟨⟨⟨l, H, rfl⟩, hle, rfl⟩, key⟩))) _ (preF_ok H hf))) rfl rfl h
   rcases q with ⟨i, j, F, rfl⟩ | ⟨N, rfl⟩
   ·exact ⟨_, List.mem_cons_self .., (i, j), m, F, e⟩
   ·exact ⟨_, List.mem_cons_of_mem _ (List.mem_singleton.2 rfl), (), m, N, e⟩
  ·cases hs
   obtain ⟨l, f, H, hf, rfl⟩ := LX.is hp
   have hgt : 65536 < s.length := LX.gt hp
   obtain ⟨m, v, e, rfl⟩ := deep_of (Q := fun y => y = limV) O' (flat3 H hf s (.negSucc 0)) (find_run H hf s (.negSucc 0) _ (chain_ok (it (dt (by omega)) rfl) _ (preF_ok H hf))) rfl rfl h
   exact ⟨_, List.mem_singleton.2 rfl, (), m, trivial, e⟩
  ·cases hs
 ·cases hs
theorem okAl (O' : Ok TFi) : Ok TAl := addL_ok O' fun σ s hs hp => by
 cases hs
 exact hp.elim
theorem ok9 {T : Tab} (O : Ok T) (O' : Ok TFi) : Ok (T.addC 9 C9) := by
 refine addC_ok O fun args h z hs hp => ?_
 unfold C9 at hs
 split at hs
 ·rename_i x s
  cases hs
  obtain ⟨l, f, H, hf, rfl⟩ := LX.is hp
  have hgt : 65536 < s.length := LX.gt hp
  obtain ⟨m, v, e, rfl⟩ := deep_of (Q := fun y => y = .tup [nilA, iA 3]) (okAl O') (flat2 H hf s) (all_run H hf s _ (chain_ok (it (dt (by omega)) rfl) _ (preF_ok H hf))) rfl rfl h
  exact ⟨_, List.mem_singleton.2 rfl, (), m, trivial, e⟩
 ·cases hs
end
end Go.Proofs.Rl
namespace Go.Proofs.Rl
open Go Go.Ef
noncomputable section
def plainB (t : List UInt8) : Bool := t.all isAl && (decide (0 < (t.length : Int)) && decide ((t.length : Int) ≤ 20))
structure Sm (t : List UInt8) : Prop where
 le : t.length ≤ 9223372036854775807
def C4 (args : List AV) (h : Heap) : Option CSpec :=
 match args with
 | [.sc (.string ⟨⟨t⟩⟩)] => some (fspec (Sm t) (bA (plainB t)) h)
 | _ => none
def I4 (t : List UInt8) (i : Int) (g : Heap) : St := stOf 45 [(0, sStr t), (3, sInt i)] [] g
def E4 (t : List UInt8) (g : Heap) : St := stOf 45 [(0, sStr t), (2, .unk)] [] g
def R4 (t : List UInt8) (g : Heap) : St := stOf 45 [(0, sStr t), (2, sBool false)] [] g
def e4 (t : List UInt8) (X Y : Prop) (g : Heap) (ex : Ex) (τ : St) : Prop :=
 match ex with
 | .exit j => j = 0 ∧ τ = E4 t g ∧ X
 | .ret => τ = R4 t g ∧ Y
 | _ => False
structure AllAl (t : List UInt8) (q : Bool) : Prop where
 is : t.all isAl = q
def L4 (σ : St) : Option LSpec := some { pre := σ.tidy [0, 3] 0 = I4 (slS σ 0) 0 heapF ∧ Sm (slS σ 0), alts := [{ α := Unit, post := fun _ => AllAl (slS σ 0) true, ex := .exit 0, st := fun _ => E4 (slS σ 0) heapF }, { α := Unit, post := fun _ => AllAl (slS σ 0) false, ex := .ret, st := fun _ => R4 (slS σ 0) heapF }] }
def T4 : Tab := tab0.addL 4 3 L4
def C5 (args : List AV) (h : Heap) : Option CSpec :=
 match args with
 | [] => some (fspec True (bA true) h)
 | _ => none
structure FlatL (v : AV) : Prop where
 is : stripA 8 v = some v
def C7 (args : List AV) (h : Heap) : Option CSpec :=
 match args with
 | [] => some { pre := True, alts := [{ α := List UInt8 × List (List AV) × List UInt8 × List UInt8, post := fun p => FlatL (locV p.1 p.2.1 p.2.2.1 p.2.2.2), val := fun p => locV p.1 p.2.1 p.2.2.1 p.2.2.2, heap := fun _ => h }] }
 | _ => none
def xA (l : List UInt8) (f a b c d : Int) : List AV := [aStr l, iA f, iA 0, iA 2, uA a, uA b, uA c, uA d, iA 0, iA 0, iA 0, nilA]
def xB (l : List UInt8) (f : Int) (els : List (List AV)) : List AV := [aStr l, iA f, iA 0, iA 3, uA 0, uA 0, uA 0, uA 0, iA 0, iA 0, iA 0, .sl els 0]
structure IsXV (l : List UInt8) (f : Int) (x : List AV) : Prop where
 is : x = xV l f
def CL6 (args : List AV) (h : Heap) : Option CSpec :=
 match args with
 | [.sc (.string ⟨⟨l⟩⟩), .sc (.int .i64 f), .agg [.sc (.string ⟨⟨n⟩⟩), .sl o 0, .sc (.string ⟨⟨lo⟩⟩), .sc (.string ⟨⟨up⟩⟩), .sc (.slice none 0 0), .sc (.slice none 0 0)]] => some { pre := P11 l f [aStr l, iA f, locV n o lo up], alts := [{ α := Int × Int × Int × Int, post := fun p => IsXV l f (xA l f p.1 p.2.1 p.2.2.1 p.2.2.2), val := fun p => .tup [.agg (xA l f p.1 p.2.1 p.2.2.1 p.2.2.2), iA 0, iA 0], heap := fun _ => h }, { α := List (List AV), post := fun p => IsXV l f (xB l f p), val := fun p => .tup [.agg (xB l f p), iA 0, iA 0], heap := fun _ => h }] }
 | _ => none
def I21 (c0 c1 c2 : List AV) (t s : List UInt8) (fd : Bool) (i : Int) (g : Heap) : St := stOf 137 [(0, sStr t), (1, sStr s), (11, .lp 1 0), (12, sBool fd), (21, sInt i)] [.cells c0, .cells c1, .cells c2] g
def E21 (c0 c1 c2 : List AV) (fd : Bool) (g : Heap) : St := stOf 137 [(6, .unk), (12, sBool fd)] [.cells c0, .cells c1, .cells c2] g
def R21 (c0 c1 c2 : List AV) (fd q : Bool) (g : Heap) : St := stOf 137 [(6, sBool q), (12, sBool fd)] [.cells c0, .cells c1, .cells c2] g
def e21 (c0 c1 c2 : List AV) (fd : Bool) (g : Heap) (X : Prop) (Y : Bool → Prop) (ex : Ex) (τ : St) : Prop :=
 match ex with
 | .exit j => j = 2 ∧ τ = E21 c0 c1 c2 fd g ∧ X
 | .ret => τ = R21 c0 c1 c2 fd (slB τ 6) g ∧ Y (slB τ 6)
 | _ => False
def lcC (σ : St) (k : Nat) : List AV := match getI k σ.loc with
 | some (.cells cs) => cs
 | _ => []
structure PreF (t s : List UInt8) (fd : Bool) (c0 c1 c2 : List AV) : Prop where
 shape : (∃ f a b c d, c0 = xA t f a b c d) ∨ (∃ f els, c0 = xB t f els)
 len : 0 < t.length ∧ t.length ≤ 20 ∧ s.length ≤ 60
 c2 : c2 = [nilA]
 yes : fd = true → ∃ n : Nat, frst t s (s.length + 1 - t.length) 0 = some n ∧ c1 = [.sl [[iA n, iA (n + t.length)]] 0]
 no : fd = false → frst t s (s.length + 1 - t.length) 0 = none ∧ c1 = [nilA]
def L21 (σ : St) : Option LSpec := some { pre := σ.tidy [0, 1, 11, 12, 21] 3 = I21 (lcC σ 0) (lcC σ 1) (lcC σ 2) (slS σ 0) (slS σ 1) (slB σ 12) 0 heap0 ∧ PreF (slS σ 0) (slS σ 1) (slB σ 12) (lcC σ 0) (lcC σ 1) (lcC σ 2), alts := bif slB σ 12 then [{ α := Unit, post := fun _ => True, ex := .ret, st := fun _ => R21 (lcC σ 0) (lcC σ 1) (lcC σ 2) true true heap0 }] else [{ α := Unit, post := fun _ => True, ex := .exit 2, st := fun _ => E21 (lcC σ 0) (lcC σ 1) (lcC σ 2) false heap0 }] }
def TLr : Tab := tab0.addC 5 C5
def TL : Tab := ((((((((tab0.addC 4 C4).addC 5 C5).addC 6 CL6).addC 7 C7).addC 8 C8).addC 9 C9).addL 3 21 L21).name 3 63)
end
end Go.Proofs.Rl
namespace Go.Proofs.Rl
open Go Go.Ef
noncomputable section
set_option maxRecDepth 100000
theorem r4 (t : List UInt8) (i : Int) (N : Int → Prop) (X : Prop) (Y : Prop) (h :
 iteP (decide (i < (↑t.length : Int)))
 (iteP (inRange i t.length)
 (iteP (decide ((97 : Int) ≤ byteAt t i))
 (iteP (decide (byteAt t i ≤ (122 : Int)))
 (I4 t (IntKind.i64.wrap (i + (1 : Int))) (Heap.mk (1 : Nat) Tr.leaf (1 : Nat) Tr.leaf) =
 I4 t (IntKind.i64.wrap (i + (1 : Int))) (Heap.mk (1 : Nat) Tr.leaf (1 : Nat) Tr.leaf) ∧
 N (IntKind.i64.wrap (i + (1 : Int))))
 (iteP (decide ((65 : Int) ≤ byteAt t i))
 (iteP (decide (byteAt t i ≤ (90 : Int)))
 (I4 t (IntKind.i64.wrap (i + (1 : Int))) (Heap.mk (1 : Nat) Tr.leaf (1 : Nat) Tr.leaf) =
 I4 t (IntKind.i64.wrap (i + (1 : Int))) (Heap.mk (1 : Nat) Tr.leaf (1 : Nat) Tr.leaf) ∧
 N (IntKind.i64.wrap (i + (1 : Int))))
 (iteP (decide ((48 : Int) ≤ byteAt t i))
 (iteP (decide (byteAt t i ≤ (57 : Int)))
 (I4 t (IntKind.i64.wrap (i + (1 : Int))) (Heap.mk (1 : Nat) Tr.leaf (1 : Nat) Tr.leaf) =
 I4 t (IntKind.i64.wrap (i + (1 : Int))) (Heap.mk (1 : Nat) Tr.leaf (1 : Nat) Tr.leaf) ∧
 N (IntKind.i64.wrap (i + (1 : Int))))
 (R4 t (Heap.mk (1 : Nat) Tr.leaf (1 : Nat) Tr.leaf) =
 R4 t (Heap.mk (1 : Nat) Tr.leaf (1 : Nat) Tr.leaf) ∧
 Y))
 (R4 t (Heap.mk (1 : Nat) Tr.leaf (1 : Nat) Tr.leaf) = R4 t (Heap.mk (1 : Nat) Tr.leaf (1 : Nat) Tr.leaf) ∧
 Y)))
 (iteP (decide ((48 : Int) ≤ byteAt t i))
 (iteP (decide (byteAt t i ≤ (57 : Int)))
 (I4 t (IntKind.i64.wrap (i + (1 : Int))) (Heap.mk (1 : Nat) Tr.leaf (1 : Nat) Tr.leaf) =
 I4 t (IntKind.i64.wrap (i + (1 : Int))) (Heap.mk (1 : Nat) Tr.leaf (1 : Nat) Tr.leaf) ∧
 N (IntKind.i64.wrap (i + (1 : Int))))
 (R4 t (Heap.mk (1 : Nat) Tr.leaf (1 : Nat) Tr.leaf) = R4 t (Heap.mk (1 : Nat) Tr.leaf (1 : Nat) Tr.leaf) ∧
 Y))
 (R4 t (Heap.mk (1 : Nat) Tr.leaf (1 : Nat) Tr.leaf) = R4 t (Heap.mk (1 : Nat) Tr.leaf (1 : Nat) Tr.leaf) ∧
 Y))))
 (iteP (decide ((65 : Int) ≤ byteAt t i))
 (iteP (decide (byteAt t i ≤ (90 : Int)))
 (I4 t (IntKind.i64.wrap (i + (1 : Int))) (Heap.mk (1 : Nat) Tr.leaf (1 : Nat) Tr.leaf) =
 I4 t (IntKind.i64.wrap (i + (1 : Int))) (Heap.mk (1 : Nat) Tr.leaf (1 : Nat) Tr.leaf) ∧
 N (IntKind.i64.wrap (i + (1 : Int))))
 (iteP (decide ((48 : Int) ≤ byteAt t i))
 (iteP (decide (byteAt t i ≤ (57 : Int)))
 (I4 t (IntKind.i64.wrap (i + (1 : Int))) (Heap.mk (1 : Nat) Tr.leaf (1 : Nat) Tr.leaf) =
 I4 t (IntKind.i64.wrap (i + (1 : Int))) (Heap.mk (1 : Nat) Tr.leaf (1 : Nat) Tr.leaf) ∧
 N (IntKind.i64.wrap (i + (1 : Int))))
 (R4 t (Heap.mk (1 : Nat) Tr.leaf (1 : Nat) Tr.leaf) = R4 t (Heap.mk (1 : Nat) Tr.leaf (1 : Nat) Tr.leaf) ∧
 Y))
 (R4 t (Heap.mk (1 : Nat) Tr.leaf (1 : Nat) Tr.leaf) = R4 t (Heap.mk (1 : Nat) Tr.leaf (1 : Nat) Tr.leaf) ∧
 Y)))
 (iteP (decide ((48 : Int) ≤ byteAt t i))
 (iteP (decide (byteAt t i ≤ (57 : Int)))
 (I4 t (IntKind.i64.wrap (i + (1 : Int))) (Heap.mk (1 : Nat) Tr.leaf (1 : Nat) Tr.leaf) =
 I4 t (IntKind.i64.wrap (i + (1 : Int))) (Heap.mk (1 : Nat) Tr.leaf (1 : Nat) Tr.leaf) ∧
 N (IntKind.i64.wrap (i + (1 : Int))))
 (R4 t (Heap.mk (1 : Nat) Tr.leaf (1 : Nat) Tr.leaf) = R4 t (Heap.mk (1 : Nat) Tr.leaf (1 : Nat) Tr.leaf) ∧
 Y))
 (R4 t (Heap.mk (1 : Nat) Tr.leaf (1 : Nat) Tr.leaf) = R4 t (Heap.mk (1 : Nat) Tr.leaf (1 : Nat) Tr.leaf) ∧
 Y))))
 False)
 ((0 : Nat) = (0 : Nat) ∧
 E4 t (Heap.mk (1 : Nat) Tr.leaf (1 : Nat) Tr.leaf) = E4 t (Heap.mk (1 : Nat) Tr.leaf (1 : Nat) Tr.leaf) ∧ X)) :
 (fun (t : List UInt8) (i : Int) (N : Int → Prop) (X Y : Prop) => wpRound tab0 cfg Tryz.prog 100 4 3 (I4 t i heapF) (fun τ => τ = I4 t (slI τ 3) heapF ∧ N (slI τ 3)) (e4 t X Y heapF)) t i N X Y :=
 Eq.mp (by kernel_rfl) h
theorem v4 (t : List UInt8) (K : AV → Prop) (h :
 loopAt Tryz.prog (4 : Nat) (3 : Nat) = loopAt Tryz.prog (4 : Nat) (3 : Nat) ∧
 (I4 t (0 : Int) (Heap.mk (1 : Nat) Tr.leaf (1 : Nat) Tr.leaf) =
 I4 t (0 : Int) (Heap.mk (1 : Nat) Tr.leaf (1 : Nat) Tr.leaf) ∧
 Sm t) ∧
 (∀ (_ : Unit),
 AllAl t true →
 iteP (decide ((0 : Int) < (↑t.length : Int)))
 (iteP (decide ((↑t.length : Int) ≤ (20 : Int))) (K (AV.sc (Value.bool true)))
 (K (AV.sc (Value.bool false))))
 (K (AV.sc (Value.bool false)))) ∧
 ∀ (_ : Unit), AllAl t false → K (AV.sc (Value.bool false))) :
 (fun (t : List UInt8) (K : AV → Prop) => wpCall T4 cfg Tryz.prog 100 4 [aStr t] heapF fun r h' => wpBack h' r K) t K :=
 Eq.mp (by kernel_rfl) h
theorem r21An (f : Int) (a : Int) (b : Int) (c : Int) (d : Int) (t : List UInt8) (s : List UInt8) (i : Int) (N : Int → Prop) (X : Prop) (Y : Bool → Prop) (h :
 iteP (decide (IntKind.i64.wrap (i + (↑t.length : Int)) ≤ (↑s.length : Int)))
 (iteP
 (decide ((0 : Int) ≤ i) &&
 (decide (i ≤ IntKind.i64.wrap (i + (↑t.length : Int))) &&
 decide (IntKind.i64.wrap (i + (↑t.length : Int)) ≤ (↑s.length : Int))))
 (iteP (decide (cutL s i (IntKind.i64.wrap (i + (↑t.length : Int))) = t))
 (R21
 [AV.sc (Value.string (ByteArray.mk (Array.mk t))), AV.sc (Value.int IntKind.i64 f),
 AV.sc (Value.int IntKind.i64 (0 : Int)), AV.sc (Value.int IntKind.i64 (2 : Int)),
 AV.sc (Value.int IntKind.u64 a), AV.sc (Value.int IntKind.u64 b), AV.sc (Value.int IntKind.u64 c),
 AV.sc (Value.int IntKind.u64 d), AV.sc (Value.int IntKind.i64 (0 : Int)),
 AV.sc (Value.int IntKind.i64 (0 : Int)), AV.sc (Value.int IntKind.i64 (0 : Int)),
 AV.sc (Value.slice none (0 : Nat) (0 : Nat))]
 [AV.sc (Value.slice none (0 : Nat) (0 : Nat))] [AV.sc (Value.slice none (0 : Nat) (0 : Nat))] false false
 (Heap.mk (1 : Nat) Tr.leaf (0 : Nat) Tr.leaf) =
 R21
 [AV.sc (Value.string (ByteArray.mk (Array.mk t))), AV.sc (Value.int IntKind.i64 f),
 AV.sc (Value.int IntKind.i64 (0 : Int)), AV.sc (Value.int IntKind.i64 (2 : Int)),
 AV.sc (Value.int IntKind.u64 a), AV.sc (Value.int IntKind.u64 b), AV.sc (Value.int IntKind.u64 c),
 AV.sc (Value.int IntKind.u64 d), AV.sc (Value.int IntKind.i64 (0 : Int)),
 AV.sc (Value.int IntKind.i64 (0 : Int)), AV.sc (Value.int IntKind.i64 (0 : Int)),
 AV.sc (Value.slice none (0 : Nat) (0 : Nat))]
 [AV.sc (Value.slice none (0 : Nat) (0 : Nat))] [AV.sc (Value.slice none (0 : Nat) (0 : Nat))] false false
 (Heap.mk (1 : Nat) Tr.leaf (0 : Nat) Tr.leaf) ∧
 Y false)
 (I21
 [AV.sc (Value.string (ByteArray.mk (Array.mk t))), AV.sc (Value.int IntKind.i64 f),
 AV.sc (Value.int IntKind.i64 (0 : Int)), AV.sc (Value.int IntKind.i64 (2 : Int)),
 AV.sc (Value.int IntKind.u64 a), AV.sc (Value.int IntKind.u64 b), AV.sc (Value.int IntKind.u64 c),
 AV.sc (Value.int IntKind.u64 d), AV.sc (Value.int IntKind.i64 (0 : Int)),
 AV.sc (Value.int IntKind.i64 (0 : Int)), AV.sc (Value.int IntKind.i64 (0 : Int)),
 AV.sc (Value.slice none (0 : Nat) (0 : Nat))]
 [AV.sc (Value.slice none (0 : Nat) (0 : Nat))] [AV.sc (Value.slice none (0 : Nat) (0 : Nat))] t s false
 (IntKind.i64.wrap (i + (1 : Int))) (Heap.mk (1 : Nat) Tr.leaf (0 : Nat) Tr.leaf) =
 I21
 [AV.sc (Value.string (ByteArray.mk (Array.mk t))), AV.sc (Value.int IntKind.i64 f),
 AV.sc (Value.int IntKind.i64 (0 : Int)), AV.sc (Value.int IntKind.i64 (2 : Int)),
 AV.sc (Value.int IntKind.u64 a), AV.sc (Value.int IntKind.u64 b), AV.sc (Value.int IntKind.u64 c),
 AV.sc (Value.int IntKind.u64 d), AV.sc (Value.int IntKind.i64 (0 : Int)),
 AV.sc (Value.int IntKind.i64 (0 : Int)), AV.sc (Value.int IntKind.i64 (0 : Int)),
 AV.sc (Value.slice none (0 : Nat) (0 : Nat))]
 [AV.sc (Value.slice none (0 : Nat) (0 : Nat))] [AV.sc (Value.slice none (0 : Nat) (0 : Nat))] t s false
 (IntKind.i64.wrap (i + (1 : Int))) (Heap.mk (1 : Nat) Tr.leaf (0 : Nat) Tr.leaf) ∧
 N (IntKind.i64.wrap (i + (1 : Int)))))
 False)
 ((2 : Nat) = (2 : Nat) ∧
 E21
 [AV.sc (Value.string (ByteArray.mk (Array.mk t))), AV.sc (Value.int IntKind.i64 f),
 AV.sc (Value.int IntKind.i64 (0 : Int)), AV.sc (Value.int IntKind.i64 (2 : Int)),
 AV.sc (Value.int IntKind.u64 a), AV.sc (Value.int IntKind.u64 b), AV.sc (Value.int IntKind.u64 c),
 AV.sc (Value.int IntKind.u64 d), AV.sc (Value.int IntKind.i64 (0 : Int)),
 AV.sc (Value.int IntKind.i64 (0 : Int)), AV.sc (Value.int IntKind.i64 (0 : Int)),
 AV.sc (Value.slice none (0 : Nat) (0 : Nat))]
 [AV.sc (Value.slice none (0 : Nat) (0 : Nat))] [AV.sc (Value.slice none (0 : Nat) (0 : Nat))] false
 (Heap.mk (1 : Nat) Tr.leaf (0 : Nat) Tr.leaf) =
 E21
 [AV.sc (Value.string (ByteArray.mk (Array.mk t))), AV.sc (Value.int IntKind.i64 f),
 AV.sc (Value.int IntKind.i64 (0 : Int)), AV.sc (Value.int IntKind.i64 (2 : Int)),
 AV.sc (Value.int IntKind.u64 a), AV.sc (Value.int IntKind.u64 b), AV.sc (Value.int IntKind.u64 c),
 AV.sc (Value.int IntKind.u64 d), AV.sc (Value.int IntKind.i64 (0 : Int)),
 AV.sc (Value.int IntKind.i64 (0 : Int)), AV.sc (Value.int IntKind.i64 (0 : Int)),
 AV.sc (Value.slice none (0 : Nat) (0 : Nat))]
 [AV.sc (Value.slice none (0 : Nat) (0 : Nat))] [AV.sc (Value.slice none (0 : Nat) (0 : Nat))] false
 (Heap.mk (1 : Nat) Tr.leaf (0 : Nat) Tr.leaf) ∧
 X)) :
 (fun (f a b c d : Int) (t s : List UInt8) (i : Int) (N : Int → Prop) (X : Prop) (Y : Bool → Prop) => wpRound TLr cfg Tryz.prog 100 3 21 (I21 (xA t f a b c d) [nilA] [nilA] t s false i heap0) (fun τ => τ = I21 (xA t f a b c d) [nilA] [nilA] t s false (slI τ 21) heap0 ∧ N (slI τ 21)) (e21 (xA t f a b c d) [nilA] [nilA] false heap0 X Y)) f a b c d t s i N X Y :=
 Eq.mp (by kernel_rfl) h
theorem r21Bn (f : Int) (els : List (List AV)) (t : List UInt8) (s : List UInt8) (i : Int) (N : Int → Prop) (X : Prop) (Y : Bool → Prop) (h :
 iteP (decide (IntKind.i64.wrap (i + (↑t.length : Int)) ≤ (↑s.length : Int)))
 (iteP
 (decide ((0 : Int) ≤ i) &&
 (decide (i ≤ IntKind.i64.wrap (i + (↑t.length : Int))) &&
 decide (IntKind.i64.wrap (i + (↑t.length : Int)) ≤ (↑s.length : Int))))
 (iteP (decide (cutL s i (IntKind.i64.wrap (i + (↑t.length : Int))) = t))
 (R21
 [AV.sc (Value.string (ByteArray.mk (Array.mk t))), AV.sc (Value.int IntKind.i64 f),
 AV.sc (Value.int IntKind.i64 (0 : Int)), AV.sc (Value.int IntKind.i64 (3 : Int)),
 AV.sc (Value.int IntKind.u64 (0 : Int)), AV.sc (Value.int IntKind.u64 (0 : Int)),
 AV.sc (Value.int IntKind.u64 (0 : Int)), AV.sc (Value.int IntKind.u64 (0 : Int)),
 AV.sc (Value.int IntKind.i64 (0 : Int)), AV.sc (Value.int IntKind.i64 (0 : Int)),
 AV.sc (Value.int IntKind.i64 (0 : Int)), AV.sl els (0 : Nat)]
 [AV.sc (Value.slice none (0 : Nat) (0 : Nat))] [AV.sc (Value.slice none (0 : Nat) (0 : Nat))] false false
 (Heap.mk (1 : Nat) Tr.leaf (0 : Nat) Tr.leaf) =
 R21
 [AV.sc (Value.string (ByteArray.mk (Array.mk t))), AV.sc (Value.int IntKind.i64 f),
 AV.sc (Value.int IntKind.i64 (0 : Int)), AV.sc (Value.int IntKind.i64 (3 : Int)),
 AV.sc (Value.int IntKind.u64 (0 : Int)), AV.sc (Value.int IntKind.u64 (0 : Int)),
 AV.sc (Value.int IntKind.u64 (0 : Int)), AV.sc (Value.int IntKind.u64 (0 : Int)),
 AV.sc (Value.int IntKind.i64 (0 : Int)), AV.sc (Value.int IntKind.i64 (0 : Int)),
 AV.sc (Value.int IntKind.i64 (0 : Int)), AV.sl els (0 : Nat)]
 [AV.sc (Value.slice none (0 : Nat) (0 : Nat))] [AV.sc (Value.slice none (0 : Nat) (0 : Nat))] false false
 (Heap.mk (1 : Nat) Tr.leaf (0 : Nat) Tr.leaf) ∧
 Y false)
 (I21
 [AV.sc (Value.string (ByteArray.mk (Array.mk t))), AV.sc (Value.int IntKind.i64 f),
 AV.sc (Value.int IntKind.i64 (0 : Int)), AV.sc (Value.int IntKind.i64 (3 : Int)),
 AV.sc (Value.int IntKind.u64 (0 : Int)), AV.sc (Value.int IntKind.u64 (0 : Int)),
 AV.sc (Value.int IntKind.u64 (0 : Int)), AV.sc (Value.int IntKind.u64 (0 : Int)),
 AV.sc (Value.int IntKind.i64 (0 : Int)), AV.sc (Value.int IntKind.i64 (0 : Int)),
 AV.sc (Value.int IntKind.i64 (0 : Int)), AV.sl els (0 : Nat)]
 [AV.sc (Value.slice none (0 : Nat) (0 : Nat))] [AV.sc (Value.slice none (0 : Nat) (0 : Nat))] t s false
 (IntKind.i64.wrap (i + (1 : Int))) (Heap.mk (1 : Nat) Tr.leaf (0 : Nat) Tr.leaf) =
 I21
 [AV.sc (Value.string (ByteArray.mk (Array.mk t))), AV.sc (Value.int IntKind.i64 f),
 AV.sc (Value.int IntKind.i64 (0 : Int)), AV.sc (Value.int IntKind.i64 (3 : Int)),
 AV.sc (Value.int IntKind.u64 (0 : Int)), AV.sc (Value.int IntKind.u64 (0 : Int)),
 AV.sc (Value.int IntKind.u64 (0 : Int)), AV.sc (Value.int IntKind.u64 (0 : Int)),
 AV.sc (Value.int IntKind.i64 (0 : Int)), AV.sc (Value.int IntKind.i64 (0 : Int)),
 AV.sc (Value.int IntKind.i64 (0 : Int)), AV.sl els (0 : Nat)]
 [AV.sc (Value.slice none (0 : Nat) (0 : Nat))] [AV.sc (Value.slice none (0 : Nat) (0 : Nat))] t s false
 (IntKind.i64.wrap (i + (1 : Int))) (Heap.mk (1 : Nat) Tr.leaf (0 : Nat) Tr.leaf) ∧
 N (IntKind.i64.wrap (i + (1 : Int)))))
 False)
 ((2 : Nat) = (2 : Nat) ∧
 E21
 [AV.sc (Value.string (ByteArray.mk (Array.mk t))), AV.sc (Value.int IntKind.i64 f),
 AV.sc (Value.int IntKind.i64 (0 : Int)), AV.sc (Value.int IntKind.i64 (3 : Int)),
 AV.sc (Value.int IntKind.u64 (0 : Int)), AV.sc (Value.int IntKind.u64 (0 : Int)),
 AV.sc (Value.int IntKind.u64 (0 : Int)), AV.sc (Value.int IntKind.u64 (0 : Int)),
 AV.sc (Value.int IntKind.i64 (0 : Int)), AV.sc (Value.int IntKind.i64 (0 : Int)),
 AV.sc (Value.int IntKind.i64 (0 : Int)), AV.sl els (0 : Nat)]
 [AV.sc (Value.slice none (0 : Nat) (0 : Nat))] [AV.sc (Value.slice none (0 : Nat) (0 : Nat))] false
 (Heap.mk (1 : Nat) Tr.leaf (0 : Nat) Tr.leaf) =
 E21
 [AV.sc (Value.string (ByteArray.mk (Array.mk t))), AV.sc (Value.int IntKind.i64 f),
 AV.sc (Value.int IntKind.i64 (0 : Int)), AV.sc (Value.int IntKind.i64 (3 : Int)),
 AV.sc (Value.int IntKind.u64 (0 : Int)), AV.sc (Value.int IntKind.u64 (0 : Int)),
 AV.sc (Value.int IntKind.u64 (0 : Int)), AV.sc (Value.int IntKind.u64 (0 : Int)),
 AV.sc (Value.int IntKind.i64 (0 : Int)), AV.sc (Value.int IntKind.i64 (0 : Int)),
 AV.sc (Value.int IntKind.i64 (0 : Int)), AV.sl els (0 : Nat)]
 [AV.sc (Value.slice none (0 : Nat) (0 : Nat))] [AV.sc (Value.slice none (0 : Nat) (0 : Nat))] false
 (Heap.mk (1 : Nat) Tr.leaf (0 : Nat) Tr.leaf) ∧
 X)) :
 (fun (f : Int) (els : List (List AV)) (t s : List UInt8) (i : Int) (N : Int → Prop) (X : Prop) (Y : Bool → Prop) => wpRound TLr cfg Tryz.prog 100 3 21 (I21 (xB t f els) [nilA] [nilA] t s false i heap0) (fun τ => τ = I21 (xB t f els) [nilA] [nilA] t s false (slI τ 21) heap0 ∧ N (slI τ 21)) (e21 (xB t f els) [nilA] [nilA] false heap0 X Y)) f els t s i N X Y :=
 Eq.mp (by kernel_rfl) h
theorem r21Ay (f : Int) (a : Int) (b : Int) (c : Int) (d : Int) (p : Int) (q : Int) (t : List UInt8) (s : List UInt8) (i : Int) (N : Int → Prop) (X : Prop) (Y : Bool → Prop) (h :
 iteP (decide (IntKind.i64.wrap (i + (↑t.length : Int)) ≤ (↑s.length : Int)))
 (iteP
 (decide ((0 : Int) ≤ i) &&
 (decide (i ≤ IntKind.i64.wrap (i + (↑t.length : Int))) &&
 decide (IntKind.i64.wrap (i + (↑t.length : Int)) ≤ (↑s.length : Int))))
 (iteP (decide (cutL s i (IntKind.i64.wrap (i + (↑t.length : Int))) = t))
 (some [AV.sc (Value.int IntKind.i64 p), AV.sc (Value.int IntKind.i64 q)] =
 some
 [AV.sc
 (Value.int IntKind.i64
 (cellInt [[AV.sc (Value.int IntKind.i64 p), AV.sc (Value.int IntKind.i64 q)]] (0 : Int) (0 : Nat))),
 AV.sc
 (Value.int IntKind.i64
 (cellInt [[AV.sc (Value.int IntKind.i64 p), AV.sc (Value.int IntKind.i64 q)]] (0 : Int) (1 : Nat)))] ∧
 iteP
 (decide
 (cellInt [[AV.sc (Value.int IntKind.i64 p), AV.sc (Value.int IntKind.i64 q)]] (0 : Int) (0 : Nat) = i) &&
 (decide
 (cellInt [[AV.sc (Value.int IntKind.i64 p), AV.sc (Value.int IntKind.i64 q)]] (0 : Int) (1 : Nat) =
 IntKind.i64.wrap (i + (↑t.length : Int))) &&
 true))
 (True ∧
 ∀ (_ : Unit),
 True →
 R21
 [AV.sc (Value.string (ByteArray.mk (Array.mk t))), AV.sc (Value.int IntKind.i64 f),
 AV.sc (Value.int IntKind.i64 (0 : Int)), AV.sc (Value.int IntKind.i64 (2 : Int)),
 AV.sc (Value.int IntKind.u64 a), AV.sc (Value.int IntKind.u64 b),
 AV.sc (Value.int IntKind.u64 c), AV.sc (Value.int IntKind.u64 d),
 AV.sc (Value.int IntKind.i64 (0 : Int)), AV.sc (Value.int IntKind.i64 (0 : Int)),
 AV.sc (Value.int IntKind.i64 (0 : Int)), AV.sc (Value.slice none (0 : Nat) (0 : Nat))]
 [AV.sl [[AV.sc (Value.int IntKind.i64 p), AV.sc (Value.int IntKind.i64 q)]] (0 : Nat)]
 [AV.sc (Value.slice none (0 : Nat) (0 : Nat))] true true
 (Heap.mk (1 : Nat) Tr.leaf (0 : Nat) Tr.leaf) =
 R21
 [AV.sc (Value.string (ByteArray.mk (Array.mk t))), AV.sc (Value.int IntKind.i64 f),
 AV.sc (Value.int IntKind.i64 (0 : Int)), AV.sc (Value.int IntKind.i64 (2 : Int)),
 AV.sc (Value.int IntKind.u64 a), AV.sc (Value.int IntKind.u64 b),
 AV.sc (Value.int IntKind.u64 c), AV.sc (Value.int IntKind.u64 d),
 AV.sc (Value.int IntKind.i64 (0 : Int)), AV.sc (Value.int IntKind.i64 (0 : Int)),
 AV.sc (Value.int IntKind.i64 (0 : Int)), AV.sc (Value.slice none (0 : Nat) (0 : Nat))]
 [AV.sl [[AV.sc (Value.int IntKind.i64 p), AV.sc (Value.int IntKind.i64 q)]] (0 : Nat)]
 [AV.sc (Value.slice none (0 : Nat) (0 : Nat))] true true
 (Heap.mk (1 : Nat) Tr.leaf (0 : Nat) Tr.leaf) ∧
 Y true)
 (R21
 [AV.sc (Value.string (ByteArray.mk (Array.mk t))), AV.sc (Value.int IntKind.i64 f),
 AV.sc (Value.int IntKind.i64 (0 : Int)), AV.sc (Value.int IntKind.i64 (2 : Int)),
 AV.sc (Value.int IntKind.u64 a), AV.sc (Value.int IntKind.u64 b), AV.sc (Value.int IntKind.u64 c),
 AV.sc (Value.int IntKind.u64 d), AV.sc (Value.int IntKind.i64 (0 : Int)),
 AV.sc (Value.int IntKind.i64 (0 : Int)), AV.sc (Value.int IntKind.i64 (0 : Int)),
 AV.sc (Value.slice none (0 : Nat) (0 : Nat))]
 [AV.sl [[AV.sc (Value.int IntKind.i64 p), AV.sc (Value.int IntKind.i64 q)]] (0 : Nat)]
 [AV.sc (Value.slice none (0 : Nat) (0 : Nat))] true false
 (Heap.mk (1 : Nat) Tr.leaf (0 : Nat) Tr.leaf) =
 R21
 [AV.sc (Value.string (ByteArray.mk (Array.mk t))), AV.sc (Value.int IntKind.i64 f),
 AV.sc (Value.int IntKind.i64 (0 : Int)), AV.sc (Value.int IntKind.i64 (2 : Int)),
 AV.sc (Value.int IntKind.u64 a), AV.sc (Value.int IntKind.u64 b), AV.sc (Value.int IntKind.u64 c),
 AV.sc (Value.int IntKind.u64 d), AV.sc (Value.int IntKind.i64 (0 : Int)),
 AV.sc (Value.int IntKind.i64 (0 : Int)), AV.sc (Value.int IntKind.i64 (0 : Int)),
 AV.sc (Value.slice none (0 : Nat) (0 : Nat))]
 [AV.sl [[AV.sc (Value.int IntKind.i64 p), AV.sc (Value.int IntKind.i64 q)]] (0 : Nat)]
 [AV.sc (Value.slice none (0 : Nat) (0 : Nat))] true false
 (Heap.mk (1 : Nat) Tr.leaf (0 : Nat) Tr.leaf) ∧
 Y false))
 (I21
 [AV.sc (Value.string (ByteArray.mk (Array.mk t))), AV.sc (Value.int IntKind.i64 f),
 AV.sc (Value.int IntKind.i64 (0 : Int)), AV.sc (Value.int IntKind.i64 (2 : Int)),
 AV.sc (Value.int IntKind.u64 a), AV.sc (Value.int IntKind.u64 b), AV.sc (Value.int IntKind.u64 c),
 AV.sc (Value.int IntKind.u64 d), AV.sc (Value.int IntKind.i64 (0 : Int)),
 AV.sc (Value.int IntKind.i64 (0 : Int)), AV.sc (Value.int IntKind.i64 (0 : Int)),
 AV.sc (Value.slice none (0 : Nat) (0 : Nat))]
 [AV.sl [[AV.sc (Value.int IntKind.i64 p), AV.sc (Value.int IntKind.i64 q)]] (0 : Nat)]
 [AV.sc (Value.slice none (0 : Nat) (0 : Nat))] t s true (IntKind.i64.wrap (i + (1 : Int)))
 (Heap.mk (1 : Nat) Tr.leaf (0 : Nat) Tr.leaf) =
 I21
 [AV.sc (Value.string (ByteArray.mk (Array.mk t))), AV.sc (Value.int IntKind.i64 f),
 AV.sc (Value.int IntKind.i64 (0 : Int)), AV.sc (Value.int IntKind.i64 (2 : Int)),
 AV.sc (Value.int IntKind.u64 a), AV.sc (Value.int IntKind.u64 b), AV.sc (Value.int IntKind.u64 c),
 AV.sc (Value.int IntKind.u64 d), AV.sc (Value.int IntKind.i64 (0 : Int)),
 AV.sc (Value.int IntKind.i64 (0 : Int)), AV.sc (Value.int IntKind.i64 (0 : Int)),
 AV.sc (Value.slice none (0 : Nat) (0 : Nat))]
 [AV.sl [[AV.sc (Value.int IntKind.i64 p), AV.sc (Value.int IntKind.i64 q)]] (0 : Nat)]
 [AV.sc (Value.slice none (0 : Nat) (0 : Nat))] t s true (IntKind.i64.wrap (i + (1 : Int)))
 (Heap.mk (1 : Nat) Tr.leaf (0 : Nat) Tr.leaf) ∧
 N (IntKind.i64.wrap (i + (1 : Int)))))
 False)
 ((2 : Nat) = (2 : Nat) ∧
 E21
 [AV.sc (Value.string (ByteArray.mk (Array.mk t))), AV.sc (Value.int IntKind.i64 f),
 AV.sc (Value.int IntKind.i64 (0 : Int)), AV.sc (Value.int IntKind.i64 (2 : Int)),
 AV.sc (Value.int IntKind.u64 a), AV.sc (Value.int IntKind.u64 b), AV.sc (Value.int IntKind.u64 c),
 AV.sc (Value.int IntKind.u64 d), AV.sc (Value.int IntKind.i64 (0 : Int)),
 AV.sc (Value.int IntKind.i64 (0 : Int)), AV.sc (Value.int IntKind.i64 (0 : Int)),
 AV.sc (Value.slice none (0 : Nat) (0 : Nat))]
 [AV.sl [[AV.sc (Value.int IntKind.i64 p), AV.sc (Value.int IntKind.i64 q)]] (0 : Nat)]
 [AV.sc (Value.slice none (0 : Nat) (0 : Nat))] true (Heap.mk (1 : Nat) Tr.leaf (0 : Nat) Tr.leaf) =
 E21
 [AV.sc (Value.string (ByteArray.mk (Array.mk t))), AV.sc (Value.int IntKind.i64 f),
 AV.sc (Value.int IntKind.i64 (0 : Int)), AV.sc (Value.int IntKind.i64 (2 : Int)),
 AV.sc (Value.int IntKind.u64 a), AV.sc (Value.int IntKind.u64 b), AV.sc (Value.int IntKind.u64 c),
 AV.sc (Value.int IntKind.u64 d), AV.sc (Value.int IntKind.i64 (0 : Int)),
 AV.sc (Value.int IntKind.i64 (0 : Int)), AV.sc (Value.int IntKind.i64 (0 : Int)),
 AV.sc (Value.slice none (0 : Nat) (0 : Nat))]
 [AV.sl [[AV.sc (Value.int IntKind.i64 p), AV.sc (Value.int IntKind.i64 q)]] (0 : Nat)]
 [AV.sc (Value.slice none (0 : Nat) (0 : Nat))] true (Heap.mk (1 : Nat) Tr.leaf (0 : Nat) Tr.leaf) ∧
 X)) :
 (fun (f a b c d p q : Int) (t s : List UInt8) (i : Int) (N : Int → Prop) (X : Prop) (Y : Bool → Prop) => wpRound TLr cfg Tryz.prog 100 3 21 (I21 (xA t f a b c d) [.sl [[iA p, iA q]] 0] [nilA] t s true i heap0) (fun τ => τ = I21 (xA t f a b c d) [.sl [[iA p, iA q]] 0] [nilA] t s true (slI τ 21) heap0 ∧ N (slI τ 21)) (e21 (xA t f a b c d) [.sl [[iA p, iA q]] 0] [nilA] true heap0 X Y)) f a b c d p q t s i N X Y :=
 Eq.mp (by kernel_rfl) h
theorem r21By (f : Int) (p : Int) (q : Int) (els : List (List AV)) (t : List UInt8) (s : List UInt8) (i : Int) (N : Int → Prop) (X : Prop) (Y : Bool → Prop) (h :
 iteP (decide (IntKind.i64.wrap (i + (↑t.length : Int)) ≤ (↑s.length : Int)))
 (iteP
 (decide ((0 : Int) ≤ i) &&
 (decide (i ≤ IntKind.i64.wrap (i + (↑t.length : Int))) &&
 decide (IntKind.i64.wrap (i + (↑t.length : Int)) ≤ (↑s.length : Int))))
 (iteP (decide (cutL s i (IntKind.i64.wrap (i + (↑t.length : Int))) = t))
 (some [AV.sc (Value.int IntKind.i64 p), AV.sc (Value.int IntKind.i64 q)] =
 some
 [AV.sc
 (Value.int IntKind.i64
 (cellInt [[AV.sc (Value.int IntKind.i64 p), AV.sc (Value.int IntKind.i64 q)]] (0 : Int) (0 : Nat))),
 AV.sc
 (Value.int IntKind.i64
 (cellInt [[AV.sc (Value.int IntKind.i64 p), AV.sc (Value.int IntKind.i64 q)]] (0 : Int) (1 : Nat)))] ∧
 iteP
 (decide
 (cellInt [[AV.sc (Value.int IntKind.i64 p), AV.sc (Value.int IntKind.i64 q)]] (0 : Int) (0 : Nat) = i) &&
 (decide
 (cellInt [[AV.sc (Value.int IntKind.i64 p), AV.sc (Value.int IntKind.i64 q)]] (0 : Int) (1 : Nat) =
 IntKind.i64.wrap (i + (↑t.length : Int))) &&
 true))
 (True ∧
 ∀ (_ : Unit),
 True →
 R21
 [AV.sc (Value.string (ByteArray.mk (Array.mk t))), AV.sc (Value.int IntKind.i64 f),
 AV.sc (Value.int IntKind.i64 (0 : Int)), AV.sc (Value.int IntKind.i64 (3 : Int)),
 AV.sc (Value.int IntKind.u64 (0 : Int)), AV.sc (Value.int IntKind.u64 (0 : Int)),
 AV.sc (Value.int IntKind.u64 (0 : Int)), AV.sc (Value.int IntKind.u64 (0 : Int)),
 AV.sc (Value.int IntKind.i64 (0 : Int)), AV.sc (Value.int IntKind.i64 (0 : Int)),
 AV.sc (Value.int IntKind.i64 (0 : Int)), AV.sl els (0 : Nat)]
 [AV.sl [[AV.sc (Value.int IntKind.i64 p), AV.sc (Value.int IntKind.i64 q)]] (0 : Nat)]
 [AV.sc (Value.slice none (0 : Nat) (0 : Nat))] true true
 (Heap.mk (1 : Nat) Tr.leaf (0 : Nat) Tr.leaf) =
 R21
 [AV.sc (Value.string (ByteArray.mk (Array.mk t))), AV.sc (Value.int IntKind.i64 f),
 AV.sc (Value.int IntKind.i64 (0 : Int)), AV.sc (Value.int IntKind.i64 (3 : Int)),
 AV.sc (Value.int IntKind.u64 (0 : Int)), AV.sc (Value.int IntKind.u64 (0 : Int)),
 AV.sc (Value.int IntKind.u64 (0 : Int)), AV.sc (Value.int IntKind.u64 (0 : Int)),
 AV.sc (Value.int IntKind.i64 (0 : Int)), AV.sc (Value.int IntKind.i64 (0 : Int)),
 AV.sc (Value.int IntKind.i64 (0 : Int)), AV.sl els (0 : Nat)]
 [AV.sl [[AV.sc (Value.int IntKind.i64 p), AV.sc (Value.int IntKind.i64 q)]] (0 : Nat)]
 [AV.sc (Value.slice none (0 : Nat) (0 : Nat))] true true
 (Heap.mk (1 : Nat) Tr.leaf (0 : Nat) Tr.leaf) ∧
 Y true)
 (R21
 [AV.sc (Value.string (ByteArray.mk (Array.mk t))), AV.sc (Value.int IntKind.i64 f),
 AV.sc (Value.int IntKind.i64 (0 : Int)), AV.sc (Value.int IntKind.i64 (3 : Int)),
 AV.sc (Value.int IntKind.u64 (0 : Int)), AV.sc (Value.int IntKind.u64 (0 : Int)),
 AV.sc (Value.int IntKind.u64 (0 : Int)), AV.sc (Value.int IntKind.u64 (0 : Int)),
 AV.sc (Value.int IntKind.i64 (0 : Int)), AV.sc (Value.int IntKind.i64 (0 : Int)),
 AV.sc (Value.int IntKind.i64 (0 : Int)), AV.sl els (0 : Nat)]
 [AV.sl [[AV.sc (Value.int IntKind.i64 p), AV.sc (Value.int IntKind.i64 q)]] (0 : Nat)]
 [AV.sc (Value.slice none (0 : Nat) (0 : Nat))] true false
 (Heap.mk (1 : Nat) Tr.leaf (0 : Nat) Tr.leaf) =
 R21
 [AV.sc (Value.string (ByteArray.mk (Array.mk t))), AV.sc (Value.int IntKind.i64 f),
 AV.sc (Value.int IntKind.i64 (0 : Int)), AV.sc (Value.int IntKind.i64 (3 : Int)),
 AV.sc (Value.int IntKind.u64 (0 : Int)), AV.sc (Value.int IntKind.u64 (0 : Int)),
 AV.sc (Value.int IntKind.u64 (0 : Int)), AV.sc (Value.int IntKind.u64 (0 : Int)),
 AV.sc (Value.int IntKind.i64 (0 : Int)), AV.sc (Value.int IntKind.i64 (0 : Int)),
 AV.sc (Value.int IntKind.i64 (0 : Int)), AV.sl els (0 : Nat)]
 [AV.sl [[AV.sc (Value.int IntKind.i64 p), AV.sc (Value.int IntKind.i64 q)]] (0 : Nat)]
 [AV.sc (Value.slice none (0 : Nat) (0 : Nat))] true false
 (Heap.mk (1 : Nat) Tr.leaf (0 : Nat) Tr.leaf) ∧
 Y false))
 (I21
 [AV.sc (Value.string (ByteArray.mk (Array.mk t))), AV.sc (Value.int IntKind.i64 f),
 AV.sc (Value.int IntKind.i64 (0 : Int)), AV.sc (Value.int IntKind.i64 (3 : Int)),
 AV.sc (Value.int IntKind.u64 (0 : Int)), AV.sc (Value.int IntKind.u64 (0 : Int)),
 AV.sc (Value.int IntKind.u64 (0 : Int)), AV.sc (Value.int IntKind.u64 (0 : Int)),
 AV.sc (Value.int IntKind.i64 (0 : Int)), AV.sc (Value.int IntKind.i64 (0 : Int)),
 AV.sc (Value.int IntKind.i64 (0 : Int)), AV.sl els (0 : Nat)]
 [AV.sl [[AV.sc (Value.int IntKind.i64 p), AV.sc (Value.int IntKind.i64 q)]] (0 : Nat)]
 [AV.sc (Value.slice none (0 : Nat) (0 : Nat))] t s true (IntKind.i64.wrap (i + (1 : Int)))
 (Heap.mk (1 : Nat) Tr.leaf (0 : Nat) Tr.leaf) =
 I21
 [AV.sc (Value.string (ByteArray.mk (Array.mk t))), AV.sc (Value.int IntKind.i64 f),
 AV.sc (Value.int IntKind.i64 (0 : Int)), AV.sc (Value.int IntKind.i64 (3 : Int)),
 AV.sc (Value.int IntKind.u64 (0 : Int)), AV.sc (Value.int IntKind.u64 (0 : Int)),
 AV.sc (Value.int IntKind.u64 (0 : Int)), AV.sc (Value.int IntKind.u64 (0 : Int)),
 AV.sc (Value.int IntKind.i64 (0 : Int)), AV.sc (Value.int IntKind.i64 (0 : Int)),
 AV.sc (Value.int IntKind.i64 (0 : Int)), AV.sl els (0 : Nat)]
 [AV.sl [[AV.sc (Value.int IntKind.i64 p), AV.sc (Value.int IntKind.i64 q)]] (0 : Nat)]
 [AV.sc (Value.slice none (0 : Nat) (0 : Nat))] t s true (IntKind.i64.wrap (i + (1 : Int)))
 (Heap.mk (1 : Nat) Tr.leaf (0 : Nat) Tr.leaf) ∧
 N (IntKind.i64.wrap (i + (1 : Int)))))
 False)
 ((2 : Nat) = (2 : Nat) ∧
 E21
 [AV.sc (Value.string (ByteArray.mk (Array.mk t))), AV.sc (Value.int IntKind.i64 f),
 AV.sc (Value.int IntKind.i64 (0 : Int)), AV.sc (Value.int IntKind.i64 (3 : Int)),
 AV.sc (Value.int IntKind.u64 (0 : Int)), AV.sc (Value.int IntKind.u64 (0 : Int)),
 AV.sc (Value.int IntKind.u64 (0 : Int)), AV.sc (Value.int IntKind.u64 (0 : Int)),
 AV.sc (Value.int IntKind.i64 (0 : Int)), AV.sc (Value.int IntKind.i64 (0 : Int)),
 AV.sc (Value.int IntKind.i64 (0 : Int)), AV.sl els (0 : Nat)]
 [AV.sl [[AV.sc (Value.int IntKind.i64 p), AV.sc (Value.int IntKind.i64 q)]] (0 : Nat)]
 [AV.sc (Value.slice none (0 : Nat) (0 : Nat))] true (Heap.mk (1 : Nat) Tr.leaf (0 : Nat) Tr.leaf) =
 E21
 [AV.sc (Value.string (ByteArray.mk (Array.mk t))), AV.sc (Value.int IntKind.i64 f),
 AV.sc (Value.int IntKind.i64 (0 : Int)), AV.sc (Value.int IntKind.i64 (3 : Int)),
 AV.sc (Value.int IntKind.u64 (0 : Int)), AV.sc (Value.int IntKind.u64 (0 : Int)),
 AV.sc (Value.int IntKind.u64 (0 : Int)), AV.sc (Value.int IntKind.u64 (0 : Int)),
 AV.sc (Value.int IntKind.i64 (0 : Int)), AV.sc (Value.int IntKind.i64 (0 : Int)),
 AV.sc (Value.int IntKind.i64 (0 : Int)), AV.sl els (0 : Nat)]
 [AV.sl [[AV.sc (Value.int IntKind.i64 p), AV.sc (Value.int IntKind.i64 q)]] (0 : Nat)]
 [AV.sc (Value.slice none (0 : Nat) (0 : Nat))] true (Heap.mk (1 : Nat) Tr.leaf (0 : Nat) Tr.leaf) ∧
 X)) :
 (fun (f p q : Int) (els : List (List AV)) (t s : List UInt8) (i : Int) (N : Int → Prop) (X : Prop) (Y : Bool → Prop) => wpRound TLr cfg Tryz.prog 100 3 21 (I21 (xB t f els) [.sl [[iA p, iA q]] 0] [nilA] t s true i heap0) (fun τ => τ = I21 (xB t f els) [.sl [[iA p, iA q]] 0] [nilA] t s true (slI τ 21) heap0 ∧ N (slI τ 21)) (e21 (xB t f els) [.sl [[iA p, iA q]] 0] [nilA] true heap0 X Y)) f p q els t s i N X Y :=
 Eq.mp (by kernel_rfl) h
theorem v3 (t : List UInt8) (s : List UInt8) (e : Bool) (K : AV → Prop) (h :
 Sm t ∧
 ∀ (_ : Unit),
 True →
 iteP (plainB t)
 (iteP (decide ((60 : Int) < (↑s.length : Int))) (True ∧ ∀ (_ : Unit), True → K (AV.sc (Value.bool true)))
 (iteP e
 (True ∧
 ∀ (x : List UInt8 × List (List AV) × List UInt8 × List UInt8),
 FlatL
 (AV.agg
 [AV.sc (Value.string (ByteArray.mk (Array.mk x.fst))), AV.sl x.snd.fst (0 : Nat),
 AV.sc (Value.string (ByteArray.mk (Array.mk x.snd.snd.fst))),
 AV.sc (Value.string (ByteArray.mk (Array.mk x.snd.snd.snd))),
 AV.sc (Value.slice none (0 : Nat) (0 : Nat)), AV.sc (Value.slice none (0 : Nat) (0 : Nat))]) →
 P11 t (1 : Int)
 [AV.sc (Value.string (ByteArray.mk (Array.mk t))), AV.sc (Value.int IntKind.i64 (1 : Int)),
 AV.agg
 [AV.sc (Value.string (ByteArray.mk (Array.mk x.fst))), AV.sl x.snd.fst (0 : Nat),
 AV.sc (Value.string (ByteArray.mk (Array.mk x.snd.snd.fst))),
 AV.sc (Value.string (ByteArray.mk (Array.mk x.snd.snd.snd))),
 AV.sc (Value.slice none (0 : Nat) (0 : Nat)),
 AV.sc (Value.slice none (0 : Nat) (0 : Nat))]] ∧
 (∀ (x : Int × Int × Int × Int),
 IsXV t (1 : Int)
 [AV.sc (Value.string (ByteArray.mk (Array.mk t))), AV.sc (Value.int IntKind.i64 (1 : Int)),
 AV.sc (Value.int IntKind.i64 (0 : Int)), AV.sc (Value.int IntKind.i64 (2 : Int)),
 AV.sc (Value.int IntKind.u64 x.fst), AV.sc (Value.int IntKind.u64 x.snd.fst),
 AV.sc (Value.int IntKind.u64 x.snd.snd.fst), AV.sc (Value.int IntKind.u64 x.snd.snd.snd),
 AV.sc (Value.int IntKind.i64 (0 : Int)), AV.sc (Value.int IntKind.i64 (0 : Int)),
 AV.sc (Value.int IntKind.i64 (0 : Int)), AV.sc (Value.slice none (0 : Nat) (0 : Nat))] →
 PX
 [AV.sc (Value.string (ByteArray.mk (Array.mk t))),
 AV.sc (Value.int IntKind.i64 (1 : Int)), AV.sc (Value.int IntKind.i64 (0 : Int)),
 AV.sc (Value.int IntKind.i64 (2 : Int)), AV.sc (Value.int IntKind.u64 x.fst),
 AV.sc (Value.int IntKind.u64 x.snd.fst), AV.sc (Value.int IntKind.u64 x.snd.snd.fst),
 AV.sc (Value.int IntKind.u64 x.snd.snd.snd), AV.sc (Value.int IntKind.i64 (0 : Int)),
 AV.sc (Value.int IntKind.i64 (0 : Int)), AV.sc (Value.int IntKind.i64 (0 : Int)),
 AV.sc (Value.slice none (0 : Nat) (0 : Nat))]
 s ∧
 (∀ (x_1 : Int × Int),
 FoundAt
 [AV.sc (Value.string (ByteArray.mk (Array.mk t))),
 AV.sc (Value.int IntKind.i64 (1 : Int)), AV.sc (Value.int IntKind.i64 (0 : Int)),
 AV.sc (Value.int IntKind.i64 (2 : Int)), AV.sc (Value.int IntKind.u64 x.fst),
 AV.sc (Value.int IntKind.u64 x.snd.fst),
 AV.sc (Value.int IntKind.u64 x.snd.snd.fst),
 AV.sc (Value.int IntKind.u64 x.snd.snd.snd),
 AV.sc (Value.int IntKind.i64 (0 : Int)), AV.sc (Value.int IntKind.i64 (0 : Int)),
 AV.sc (Value.int IntKind.i64 (0 : Int)),
 AV.sc (Value.slice none (0 : Nat) (0 : Nat))]
 s x_1.fst x_1.snd →
 iteP (strFits [(97 : UInt8)] [(97 : UInt8)])
 (∀ (l : List UInt8),
 l = [(97 : UInt8)] ++ [(97 : UInt8)] →
 iteP (strFits l l)
 (∀ (l_1 : List UInt8),
 l_1 = l ++ l →
 iteP (strFits l_1 l_1)
 (∀ (l : List UInt8),
 l = l_1 ++ l_1 →
 iteP (strFits l l)
 (∀ (l_2 : List UInt8),
 l_2 = l ++ l →
 iteP (strFits l_2 l_2)
 (∀ (l : List UInt8),
 l = l_2 ++ l_2 →
 iteP (strFits l l)
 (∀ (l_3 : List UInt8),
 l_3 = l ++ l →
 iteP (strFits l_3 l_3)
 (∀ (l : List UInt8),
 l = l_3 ++ l_3 →
 iteP (strFits l l)
 (∀ (l_4 : List UInt8),
 l_4 = l ++ l →
 iteP (strFits l_4 l_4)
 (∀ (l : List UInt8),
 l = l_4 ++ l_4 →
 iteP (strFits l l)
 (∀ (l_5 : List UInt8),
 l_5 = l ++ l →
 iteP (strFits l_5 l_5)
 (∀ (l : List UInt8),
 l = l_5 ++ l_5 →
 iteP (strFits l l)
 (∀
 (l_6 :
 List UInt8),
 l_6 = l ++ l →
 iteP
 (strFits l_6
 l_6)
 (∀
 (l :
 List
 UInt8),
 l =
 l_6 ++
 l_6 →
 iteP
 (strFits
 l l)
 (∀
 (l_7 :
 List
 UInt8),
 l_7 =
 l ++
 l →
 iteP
 (strFits
 l_7
 l_7)
 (∀
 (l :
 List
 UInt8),
 l =
 l_7 ++
 l_7 →
 iteP
 (strFits
 l
 l)
 (∀
 (l_8 :
 List
 UInt8),
 l_8 =
 l ++
 l →
 iteP
 (strFits
 l_8
 l_8)
 (∀
 (l :
 List
 UInt8),
 l =
 l_8 ++
 l_8 →
 LX
 [AV.sc
 (Value.string
 (ByteArray.mk
 (Array.mk
 t))),
 AV.sc
 (Value.int
 IntKind.i64
 (1 :
 Int)),
 AV.sc
 (Value.int
 IntKind.i64
 (0 :
 Int)),
 AV.sc
 (Value.int
 IntKind.i64
 (2 :
 Int)),
 AV.sc
 (Value.int
 IntKind.u64
 x.fst),
 AV.sc
 (Value.int
 IntKind.u64
 x.snd.fst),
 AV.sc
 (Value.int
 IntKind.u64
 x.snd.snd.fst),
 AV.sc
 (Value.int
 IntKind.u64
 x.snd.snd.snd),
 AV.sc
 (Value.int
 IntKind.i64
 (0 :
 Int)),
 AV.sc
 (Value.int
 IntKind.i64
 (0 :
 Int)),
 AV.sc
 (Value.int
 IntKind.i64
 (0 :
 Int)),
 AV.sc
 (Value.slice
 none
 (0 :
 Nat)
 (0 :
 Nat))]
 l ∧
 ∀
 (_ : Unit),
 True →
 LX
 [AV.sc
 (Value.string
 (ByteArray.mk
 (Array.mk
 t))),
 AV.sc
 (Value.int
 IntKind.i64
 (1 :
 Int)),
 AV.sc
 (Value.int
 IntKind.i64
 (0 :
 Int)),
 AV.sc
 (Value.int
 IntKind.i64
 (2 :
 Int)),
 AV.sc
 (Value.int
 IntKind.u64
 x.fst),
 AV.sc
 (Value.int
 IntKind.u64
 x.snd.fst),
 AV.sc
 (Value.int
 IntKind.u64
 x.snd.snd.fst),
 AV.sc
 (Value.int
 IntKind.u64
 x.snd.snd.snd),
 AV.sc
 (Value.int
 IntKind.i64
 (0 :
 Int)),
 AV.sc
 (Value.int
 IntKind.i64
 (0 :
 Int)),
 AV.sc
 (Value.int
 IntKind.i64
 (0 :
 Int)),
 AV.sc
 (Value.slice
 none
 (0 :
 Nat)
 (0 :
 Nat))]
 l ∧
 ∀
 (_ : Unit),
 True →
 loopAt
 Tryz.prog
 (3 :
 Nat)
 (21 :
 Nat) =
 loopAt
 Tryz.prog
 (3 :
 Nat)
 (21 :
 Nat) ∧
 (I21
 [AV.sc
 (Value.string
 (ByteArray.mk
 (Array.mk
 t))),
 AV.sc
 (Value.int
 IntKind.i64
 (1 :
 Int)),
 AV.sc
 (Value.int
 IntKind.i64
 (0 :
 Int)),
 AV.sc
 (Value.int
 IntKind.i64
 (2 :
 Int)),
 AV.sc
 (Value.int
 IntKind.u64
 x.fst),
 AV.sc
 (Value.int
 IntKind.u64
 x.snd.fst),
 AV.sc
 (Value.int
 IntKind.u64
 x.snd.snd.fst),
 AV.sc
 (Value.int
 IntKind.u64
 x.snd.snd.snd),
 AV.sc
 (Value.int
 IntKind.i64
 (0 :
 Int)),
 AV.sc
 (Value.int
 IntKind.i64
 (0 :
 Int)),
 AV.sc
 (Value.int
 IntKind.i64
 (0 :
 Int)),
 AV.sc
 (Value.slice
 none
 (0 :
 Nat)
 (0 :
 Nat))]
 [AV.sl
 [[AV.sc
 (Value.int
 IntKind.i64
 x_1.fst),
 AV.sc
 (Value.int
 IntKind.i64
 x_1.snd)]]
 (0 :
 Nat)]
 [AV.sc
 (Value.slice
 none
 (0 :
 Nat)
 (0 :
 Nat))]
 t
 s
 true
 (0 :
 Int)
 (Heap.mk
 (1 :
 Nat)
 Tr.leaf
 (0 :
 Nat)
 Tr.leaf) =
 I21
 [AV.sc
 (Value.string
 (ByteArray.mk
 (Array.mk
 t))),
 AV.sc
 (Value.int
 IntKind.i64
 (1 :
 Int)),
 AV.sc
 (Value.int
 IntKind.i64
 (0 :
 Int)),
 AV.sc
 (Value.int
 IntKind.i64
 (2 :
 Int)),
 AV.sc
 (Value.int
 IntKind.u64
 x.fst),
 AV.sc
 (Value.int
 IntKind.u64
 x.snd.fst),
 AV.sc
 (Value.int
 IntKind.u64
 x.snd.snd.fst),
 AV.sc
 (Value.int
 IntKind.u64
 x.snd.snd.snd),
 AV.sc
 (Value.int
 IntKind.i64
 (0 :
 Int)),
 AV.sc
 (Value.int
 IntKind.i64
 (0 :
 Int)),
 AV.sc
 (Value.int
 IntKind.i64
 (0 :
 Int)),
 AV.sc
 (Value.slice
 none
 (0 :
 Nat)
 (0 :
 Nat))]
 [AV.sl
 [[AV.sc
 (Value.int
 IntKind.i64
 x_1.fst),
 AV.sc
 (Value.int
 IntKind.i64
 x_1.snd)]]
 (0 :
 Nat)]
 [AV.sc
 (Value.slice
 none
 (0 :
 Nat)
 (0 :
 Nat))]
 t
 s
 true
 (0 :
 Int)
 (Heap.mk
 (1 :
 Nat)
 Tr.leaf
 (0 :
 Nat)
 Tr.leaf) ∧
 PreF
 t
 s
 true
 [AV.sc
 (Value.string
 (ByteArray.mk
 (Array.mk
 t))),
 AV.sc
 (Value.int
 IntKind.i64
 (1 :
 Int)),
 AV.sc
 (Value.int
 IntKind.i64
 (0 :
 Int)),
 AV.sc
 (Value.int
 IntKind.i64
 (2 :
 Int)),
 AV.sc
 (Value.int
 IntKind.u64
 x.fst),
 AV.sc
 (Value.int
 IntKind.u64
 x.snd.fst),
 AV.sc
 (Value.int
 IntKind.u64
 x.snd.snd.fst),
 AV.sc
 (Value.int
 IntKind.u64
 x.snd.snd.snd),
 AV.sc
 (Value.int
 IntKind.i64
 (0 :
 Int)),
 AV.sc
 (Value.int
 IntKind.i64
 (0 :
 Int)),
 AV.sc
 (Value.int
 IntKind.i64
 (0 :
 Int)),
 AV.sc
 (Value.slice
 none
 (0 :
 Nat)
 (0 :
 Nat))]
 [AV.sl
 [[AV.sc
 (Value.int
 IntKind.i64
 x_1.fst),
 AV.sc
 (Value.int
 IntKind.i64
 x_1.snd)]]
 (0 :
 Nat)]
 [AV.sc
 (Value.slice
 none
 (0 :
 Nat)
 (0 :
 Nat))]) ∧
 ∀
 (_ : Unit),
 True →
 K
 (AV.sc
 (Value.bool
 true)))
 False)
 False)
 False)
 False)
 False)
 False)
 False)
 False)
 False)
 False)
 False)
 False)
 False)
 False)
 False)
 False)
 False) ∧
 ∀ (_ : Unit),
 NoneAt
 [AV.sc (Value.string (ByteArray.mk (Array.mk t))),
 AV.sc (Value.int IntKind.i64 (1 : Int)), AV.sc (Value.int IntKind.i64 (0 : Int)),
 AV.sc (Value.int IntKind.i64 (2 : Int)), AV.sc (Value.int IntKind.u64 x.fst),
 AV.sc (Value.int IntKind.u64 x.snd.fst),
 AV.sc (Value.int IntKind.u64 x.snd.snd.fst),
 AV.sc (Value.int IntKind.u64 x.snd.snd.snd),
 AV.sc (Value.int IntKind.i64 (0 : Int)), AV.sc (Value.int IntKind.i64 (0 : Int)),
 AV.sc (Value.int IntKind.i64 (0 : Int)),
 AV.sc (Value.slice none (0 : Nat) (0 : Nat))]
 s →
 iteP (strFits [(97 : UInt8)] [(97 : UInt8)])
 (∀ (l : List UInt8),
 l = [(97 : UInt8)] ++ [(97 : UInt8)] →
 iteP (strFits l l)
 (∀ (l_1 : List UInt8),
 l_1 = l ++ l →
 iteP (strFits l_1 l_1)
 (∀ (l : List UInt8),
 l = l_1 ++ l_1 →
 iteP (strFits l l)
 (∀ (l_2 : List UInt8),
 l_2 = l ++ l →
 iteP (strFits l_2 l_2)
 (∀ (l : List UInt8),
 l = l_2 ++ l_2 →
 iteP (strFits l l)
 (∀ (l_3 : List UInt8),
 l_3 = l ++ l →
 iteP (strFits l_3 l_3)
 (∀ (l : List UInt8),
 l = l_3 ++ l_3 →
 iteP (strFits l l)
 (∀ (l_4 : List UInt8),
 l_4 = l ++ l →
 iteP (strFits l_4 l_4)
 (∀ (l : List UInt8),
 l = l_4 ++ l_4 →
 iteP (strFits l l)
 (∀ (l_5 : List UInt8),
 l_5 = l ++ l →
 iteP (strFits l_5 l_5)
 (∀ (l : List UInt8),
 l = l_5 ++ l_5 →
 iteP (strFits l l)
 (∀
 (l_6 :
 List UInt8),
 l_6 = l ++ l →
 iteP
 (strFits l_6
 l_6)
 (∀
 (l :
 List
 UInt8),
 l =
 l_6 ++
 l_6 →
 iteP
 (strFits
 l l)
 (∀
 (l_7 :
 List
 UInt8),
 l_7 =
 l ++
 l →
 iteP
 (strFits
 l_7
 l_7)
 (∀
 (l :
 List
 UInt8),
 l =
 l_7 ++
 l_7 →
 iteP
 (strFits
 l
 l)
 (∀
 (l_8 :
 List
 UInt8),
 l_8 =
 l ++
 l →
 iteP
 (strFits
 l_8
 l_8)
 (∀
 (l :
 List
 UInt8),
 l =
 l_8 ++
 l_8 →
 LX
 [AV.sc
 (Value.string
 (ByteArray.mk
 (Array.mk
 t))),
 AV.sc
 (Value.int
 IntKind.i64
 (1 :
 Int)),
 AV.sc
 (Value.int
 IntKind.i64
 (0 :
 Int)),
 AV.sc
 (Value.int
 IntKind.i64
 (2 :
 Int)),
 AV.sc
 (Value.int
 IntKind.u64
 x.fst),
 AV.sc
 (Value.int
 IntKind.u64
 x.snd.fst),
 AV.sc
 (Value.int
 IntKind.u64
 x.snd.snd.fst),
 AV.sc
 (Value.int
 IntKind.u64
 x.snd.snd.snd),
 AV.sc
 (Value.int
 IntKind.i64
 (0 :
 Int)),
 AV.sc
 (Value.int
 IntKind.i64
 (0 :
 Int)),
 AV.sc
 (Value.int
 IntKind.i64
 (0 :
 Int)),
 AV.sc
 (Value.slice
 none
 (0 :
 Nat)
 (0 :
 Nat))]
 l ∧
 ∀
 (_ : Unit),
 True →
 LX
 [AV.sc
 (Value.string
 (ByteArray.mk
 (Array.mk
 t))),
 AV.sc
 (Value.int
 IntKind.i64
 (1 :
 Int)),
 AV.sc
 (Value.int
 IntKind.i64
 (0 :
 Int)),
 AV.sc
 (Value.int
 IntKind.i64
 (2 :
 Int)),
 AV.sc
 (Value.int
 IntKind.u64
 x.fst),
 AV.sc
 (Value.int
 IntKind.u64
 x.snd.fst),
 AV.sc
 (Value.int
 IntKind.u64
 x.snd.snd.fst),
 AV.sc
 (Value.int
 IntKind.u64
 x.snd.snd.snd),
 AV.sc
 (Value.int
 IntKind.i64
 (0 :
 Int)),
 AV.sc
 (Value.int
 IntKind.i64
 (0 :
 Int)),
 AV.sc
 (Value.int
 IntKind.i64
 (0 :
 Int)),
 AV.sc
 (Value.slice
 none
 (0 :
 Nat)
 (0 :
 Nat))]
 l ∧
 ∀
 (_ : Unit),
 True →
 loopAt
 Tryz.prog
 (3 :
 Nat)
 (21 :
 Nat) =
 loopAt
 Tryz.prog
 (3 :
 Nat)
 (21 :
 Nat) ∧
 (I21
 [AV.sc
 (Value.string
 (ByteArray.mk
 (Array.mk
 t))),
 AV.sc
 (Value.int
 IntKind.i64
 (1 :
 Int)),
 AV.sc
 (Value.int
 IntKind.i64
 (0 :
 Int)),
 AV.sc
 (Value.int
 IntKind.i64
 (2 :
 Int)),
 AV.sc
 (Value.int
 IntKind.u64
 x.fst),
 AV.sc
 (Value.int
 IntKind.u64
 x.snd.fst),
 AV.sc
 (Value.int
 IntKind.u64
 x.snd.snd.fst),
 AV.sc
 (Value.int
 IntKind.u64
 x.snd.snd.snd),
 AV.sc
 (Value.int
 IntKind.i64
 (0 :
 Int)),
 AV.sc
 (Value.int
 IntKind.i64
 (0 :
 Int)),
 AV.sc
 (Value.int
 IntKind.i64
 (0 :
 Int)),
 AV.sc
 (Value.slice
 none
 (0 :
 Nat)
 (0 :
 Nat))]
 [AV.sc
 (Value.slice
 none
 (0 :
 Nat)
 (0 :
 Nat))]
 [AV.sc
 (Value.slice
 none
 (0 :
 Nat)
 (0 :
 Nat))]
 t
 s
 false
 (0 :
 Int)
 (Heap.mk
 (1 :
 Nat)
 Tr.leaf
 (0 :
 Nat)
 Tr.leaf) =
 I21
 [AV.sc
 (Value.string
 (ByteArray.mk
 (Array.mk
 t))),
 AV.sc
 (Value.int
 IntKind.i64
 (1 :
 Int)),
 AV.sc
 (Value.int
 IntKind.i64
 (0 :
 Int)),
 AV.sc
 (Value.int
 IntKind.i64
 (2 :
 Int)),
 AV.sc
 (Value.int
 IntKind.u64
 x.fst),
 AV.sc
 (Value.int
 IntKind.u64
 x.snd.fst),
 AV.sc
 (Value.int
 IntKind.u64
 x.snd.snd.fst),
 AV.sc
 (Value.int
 IntKind.u64
 x.snd.snd.snd),
 AV.sc
 (Value.int
 IntKind.i64
 (0 :
 Int)),
 AV.sc
 (Value.int
 IntKind.i64
 (0 :
 Int)),
 AV.sc
 (Value.int
 IntKind.i64
 (0 :
 Int)),
 AV.sc
 (Value.slice
 none
 (0 :
 Nat)
 (0 :
 Nat))]
 [AV.sc
 (Value.slice
 none
 (0 :
 Nat)
 (0 :
 Nat))]
 [AV.sc
 (Value.slice
 none
 (0 :
 Nat)
 (0 :
 Nat))]
 t
 s
 false
 (0 :
 Int)
 (Heap.mk
 (1 :
 Nat)
 Tr.leaf
 (0 :
 Nat)
 Tr.leaf) ∧
 PreF
 t
 s
 false
 [AV.sc
 (Value.string
 (ByteArray.mk
 (Array.mk
 t))),
 AV.sc
 (Value.int
 IntKind.i64
 (1 :
 Int)),
 AV.sc
 (Value.int
 IntKind.i64
 (0 :
 Int)),
 AV.sc
 (Value.int
 IntKind.i64
 (2 :
 Int)),
 AV.sc
 (Value.int
 IntKind.u64
 x.fst),
 AV.sc
 (Value.int
 IntKind.u64
 x.snd.fst),
 AV.sc
 (Value.int
 IntKind.u64
 x.snd.snd.fst),
 AV.sc
 (Value.int
 IntKind.u64
 x.snd.snd.snd),
 AV.sc
 (Value.int
 IntKind.i64
 (0 :
 Int)),
 AV.sc
 (Value.int
 IntKind.i64
 (0 :
 Int)),
 AV.sc
 (Value.int
 IntKind.i64
 (0 :
 Int)),
 AV.sc
 (Value.slice
 none
 (0 :
 Nat)
 (0 :
 Nat))]
 [AV.sc
 (Value.slice
 none
 (0 :
 Nat)
 (0 :
 Nat))]
 [AV.sc
 (Value.slice
 none
 (0 :
 Nat)
 (0 :
 Nat))]) ∧
 ∀
 (_ : Unit),
 True →
 True ∧
 ∀
 (_ : Unit),
 True →
 K
 (AV.sc
 (Value.bool
 true)))
 False)
 False)
 False)
 False)
 False)
 False)
 False)
 False)
 False)
 False)
 False)
 False)
 False)
 False)
 False)
 False)
 False) ∧
 ∀ (x : List (List AV)),
 IsXV t (1 : Int)
 [AV.sc (Value.string (ByteArray.mk (Array.mk t))), AV.sc (Value.int IntKind.i64 (1 : Int)),
 AV.sc (Value.int IntKind.i64 (0 : Int)), AV.sc (Value.int IntKind.i64 (3 : Int)),
 AV.sc (Value.int IntKind.u64 (0 : Int)), AV.sc (Value.int IntKind.u64 (0 : Int)),
 AV.sc (Value.int IntKind.u64 (0 : Int)), AV.sc (Value.int IntKind.u64 (0 : Int)),
 AV.sc (Value.int IntKind.i64 (0 : Int)), AV.sc (Value.int IntKind.i64 (0 : Int)),
 AV.sc (Value.int IntKind.i64 (0 : Int)), AV.sl x (0 : Nat)] →
 PX
 [AV.sc (Value.string (ByteArray.mk (Array.mk t))),
 AV.sc (Value.int IntKind.i64 (1 : Int)), AV.sc (Value.int IntKind.i64 (0 : Int)),
 AV.sc (Value.int IntKind.i64 (3 : Int)), AV.sc (Value.int IntKind.u64 (0 : Int)),
 AV.sc (Value.int IntKind.u64 (0 : Int)), AV.sc (Value.int IntKind.u64 (0 : Int)),
 AV.sc (Value.int IntKind.u64 (0 : Int)), AV.sc (Value.int IntKind.i64 (0 : Int)),
 AV.sc (Value.int IntKind.i64 (0 : Int)), AV.sc (Value.int IntKind.i64 (0 : Int)),
 AV.sl x (0 : Nat)]
 s ∧
 (∀ (x_1 : Int × Int),
 FoundAt
 [AV.sc (Value.string (ByteArray.mk (Array.mk t))),
 AV.sc (Value.int IntKind.i64 (1 : Int)), AV.sc (Value.int IntKind.i64 (0 : Int)),
 AV.sc (Value.int IntKind.i64 (3 : Int)), AV.sc (Value.int IntKind.u64 (0 : Int)),
 AV.sc (Value.int IntKind.u64 (0 : Int)), AV.sc (Value.int IntKind.u64 (0 : Int)),
 AV.sc (Value.int IntKind.u64 (0 : Int)), AV.sc (Value.int IntKind.i64 (0 : Int)),
 AV.sc (Value.int IntKind.i64 (0 : Int)), AV.sc (Value.int IntKind.i64 (0 : Int)),
 AV.sl x (0 : Nat)]
 s x_1.fst x_1.snd →
 iteP (strFits [(97 : UInt8)] [(97 : UInt8)])
 (∀ (l : List UInt8),
 l = [(97 : UInt8)] ++ [(97 : UInt8)] →
 iteP (strFits l l)
 (∀ (l_1 : List UInt8),
 l_1 = l ++ l →
 iteP (strFits l_1 l_1)
 (∀ (l : List UInt8),
 l = l_1 ++ l_1 →
 iteP (strFits l l)
 (∀ (l_2 : List UInt8),
 l_2 = l ++ l →
 iteP (strFits l_2 l_2)
 (∀ (l : List UInt8),
 l = l_2 ++ l_2 →
 iteP (strFits l l)
 (∀ (l_3 : List UInt8),
 l_3 = l ++ l →
 iteP (strFits l_3 l_3)
 (∀ (l : List UInt8),
 l = l_3 ++ l_3 →
 iteP (strFits l l)
 (∀ (l_4 : List UInt8),
 l_4 = l ++ l →
 iteP (strFits l_4 l_4)
 (∀ (l : List UInt8),
 l = l_4 ++ l_4 →
 iteP (strFits l l)
 (∀ (l_5 : List UInt8),
 l_5 = l ++ l →
 iteP (strFits l_5 l_5)
 (∀ (l : List UInt8),
 l = l_5 ++ l_5 →
 iteP (strFits l l)
 (∀
 (l_6 :
 List UInt8),
 l_6 = l ++ l →
 iteP
 (strFits l_6
 l_6)
 (∀
 (l :
 List
 UInt8),
 l =
 l_6 ++
 l_6 →
 iteP
 (strFits
 l l)
 (∀
 (l_7 :
 List
 UInt8),
 l_7 =
 l ++
 l →
 iteP
 (strFits
 l_7
 l_7)
 (∀
 (l :
 List
 UInt8),
 l =
 l_7 ++
 l_7 →
 iteP
 (strFits
 l
 l)
 (∀
 (l_8 :
 List
 UInt8),
 l_8 =
 l ++
 l →
 iteP
 (strFits
 l_8
 l_8)
 (∀
 (l :
 List
 UInt8),
 l =
 l_8 ++
 l_8 →
 LX
 [AV.sc
 (Value.string
 (ByteArray.mk
 (Array.mk
 t))),
 AV.sc
 (Value.int
 IntKind.i64
 (1 :
 Int)),
 AV.sc
 (Value.int
 IntKind.i64
 (0 :
 Int)),
 AV.sc
 (Value.int
 IntKind.i64
 (3 :
 Int)),
 AV.sc
 (Value.int
 IntKind.u64
 (0 :
 Int)),
 AV.sc
 (Value.int
 IntKind.u64
 (0 :
 Int)),
 AV.sc
 (Value.int
 IntKind.u64
 (0 :
 Int)),
 AV.sc
 (Value.int
 IntKind.u64
 (0 :
 Int)),
 AV.sc
 (Value.int
 IntKind.i64
 (0 :
 Int)),
 AV.sc
 (Value.int
 IntKind.i64
 (0 :
 Int)),
 AV.sc
 (Value.int
 IntKind.i64
 (0 :
 Int)),
 AV.sl
 x
 (0 :
 Nat)]
 l ∧
 ∀
 (_ : Unit),
 True →
 LX
 [AV.sc
 (Value.string
 (ByteArray.mk
 (Array.mk
 t))),
 AV.sc
 (Value.int
 IntKind.i64
 (1 :
 Int)),
 AV.sc
 (Value.int
 IntKind.i64
 (0 :
 Int)),
 AV.sc
 (Value.int
 IntKind.i64
 (3 :
 Int)),
 AV.sc
 (Value.int
 IntKind.u64
 (0 :
 Int)),
 AV.sc
 (Value.int
 IntKind.u64
 (0 :
 Int)),
 AV.sc
 (Value.int
 IntKind.u64
 (0 :
 Int)),
 AV.sc
 (Value.int
 IntKind.u64
 (0 :
 Int)),
 AV.sc
 (Value.int
 IntKind.i64
 (0 :
 Int)),
 AV.sc
 (Value.int
 IntKind.i64
 (0 :
 Int)),
 AV.sc
 (Value.int
 IntKind.i64
 (0 :
 Int)),
 AV.sl
 x
 (0 :
 Nat)]
 l ∧
 ∀
 (_ : Unit),
 True →
 loopAt
 Tryz.prog
 (3 :
 Nat)
 (21 :
 Nat) =
 loopAt
 Tryz.prog
 (3 :
 Nat)
 (21 :
 Nat) ∧
 (I21
 [AV.sc
 (Value.string
 (ByteArray.mk
 (Array.mk
 t))),
 AV.sc
 (Value.int
 IntKind.i64
 (1 :
 Int)),
 AV.sc
 (Value.int
 IntKind.i64
 (0 :
 Int)),
 AV.sc
 (Value.int
 IntKind.i64
 (3 :
 Int)),
 AV.sc
 (Value.int
 IntKind.u64
 (0 :
 Int)),
 AV.sc
 (Value.int
 IntKind.u64
 (0 :
 Int)),
 AV.sc
 (Value.int
 IntKind.u64
 (0 :
 Int)),
 AV.sc
 (Value.int
 IntKind.u64
 (0 :
 Int)),
 AV.sc
 (Value.int
 IntKind.i64
 (0 :
 Int)),
 AV.sc
 (Value.int
 IntKind.i64
 (0 :
 Int)),
 AV.sc
 (Value.int
 IntKind.i64
 (0 :
 Int)),
 AV.sl
 x
 (0 :
 Nat)]
 [AV.sl
 [[AV.sc
 (Value.int
 IntKind.i64
 x_1.fst),
 AV.sc
 (Value.int
 IntKind.i64
 x_1.snd)]]
 (0 :
 Nat)]
 [AV.sc
 (Value.slice
 none
 (0 :
 Nat)
 (0 :
 Nat))]
 t
 s
 true
 (0 :
 Int)
 (Heap.mk
 (1 :
 Nat)
 Tr.leaf
 (0 :
 Nat)
 Tr.leaf) =
 I21
 [AV.sc
 (Value.string
 (ByteArray.mk
 (Array.mk
 t))),
 AV.sc
 (Value.int
 IntKind.i64
 (1 :
 Int)),
 AV.sc
 (Value.int
 IntKind.i64
 (0 :
 Int)),
 AV.sc
 (Value.int
 IntKind.i64
 (3 :
 Int)),
 AV.sc
 (Value.int
 IntKind.u64
 (0 :
 Int)),
 AV.sc
 (Value.int
 IntKind.u64
 (0 :
 Int)),
 AV.sc
 (Value.int
 IntKind.u64
 (0 :
 Int)),
 AV.sc
 (Value.int
 IntKind.u64
 (0 :
 Int)),
 AV.sc
 (Value.int
 IntKind.i64
 (0 :
 Int)),
 AV.sc
 (Value.int
 IntKind.i64
 (0 :
 Int)),
 AV.sc
 (Value.int
 IntKind.i64
 (0 :
 Int)),
 AV.sl
 x
 (0 :
 Nat)]
 [AV.sl
 [[AV.sc
 (Value.int
 IntKind.i64
 x_1.fst),
 AV.sc
 (Value.int
 IntKind.i64
 x_1.snd)]]
 (0 :
 Nat)]
 [AV.sc
 (Value.slice
 none
 (0 :
 Nat)
 (0 :
 Nat))]
 t
 s
 true
 (0 :
 Int)
 (Heap.mk
 (1 :
 Nat)
 Tr.leaf
 (0 :
 Nat)
 Tr.leaf) ∧
 PreF
 t
 s
 true
 [AV.sc
 (Value.string
 (ByteArray.mk
 (Array.mk
 t))),
 AV.sc
 (Value.int
 IntKind.i64
 (1 :
 Int)),
 AV.sc
 (Value.int
 IntKind.i64
 (0 :
 Int)),
 AV.sc
 (Value.int
 IntKind.i64
 (3 :
 Int)),
 AV.sc
 (Value.int
 IntKind.u64
 (0 :
 Int)),
 AV.sc
 (Value.int
 IntKind.u64
 (0 :
 Int)),
 AV.sc
 (Value.int
 IntKind.u64
 (0 :
 Int)),
 AV.sc
 (Value.int
 IntKind.u64
 (0 :
 Int)),
 AV.sc
 (Value.int
 IntKind.i64
 (0 :
 Int)),
 AV.sc
 (Value.int
 IntKind.i64
 (0 :
 Int)),
 AV.sc
 (Value.int
 IntKind.i64
 (0 :
 Int)),
 AV.sl
 x
 (0 :
 Nat)]
 [AV.sl
 [[AV.sc
 (Value.int
 IntKind.i64
 x_1.fst),
 AV.sc
 (Value.int
 IntKind.i64
 x_1.snd)]]
 (0 :
 Nat)]
 [AV.sc
 (Value.slice
 none
 (0 :
 Nat)
 (0 :
 Nat))]) ∧
 ∀
 (_ : Unit),
 True →
 K
 (AV.sc
 (Value.bool
 true)))
 False)
 False)
 False)
 False)
 False)
 False)
 False)
 False)
 False)
 False)
 False)
 False)
 False)
 False)
 False)
 False)
 False) ∧
 ∀ (_ : Unit),
 NoneAt
 [AV.sc (Value.string (ByteArray.mk (Array.mk t))),
 AV.sc (Value.int IntKind.i64 (1 : Int)), AV.sc (Value.int IntKind.i64 (0 : Int)),
 AV.sc (Value.int IntKind.i64 (3 : Int)), AV.sc (Value.int IntKind.u64 (0 : Int)),
 AV.sc (Value.int IntKind.u64 (0 : Int)), AV.sc (Value.int IntKind.u64 (0 : Int)),
 AV.sc (Value.int IntKind.u64 (0 : Int)), AV.sc (Value.int IntKind.i64 (0 : Int)),
 AV.sc (Value.int IntKind.i64 (0 : Int)), AV.sc (Value.int IntKind.i64 (0 : Int)),
 AV.sl x (0 : Nat)]
 s →
 iteP (strFits [(97 : UInt8)] [(97 : UInt8)])
 (∀ (l : List UInt8),
 l = [(97 : UInt8)] ++ [(97 : UInt8)] →
 iteP (strFits l l)
 (∀ (l_1 : List UInt8),
 l_1 = l ++ l →
 iteP (strFits l_1 l_1)
 (∀ (l : List UInt8),
 l = l_1 ++ l_1 →
 iteP (strFits l l)
 (∀ (l_2 : List UInt8),
 l_2 = l ++ l →
 iteP (strFits l_2 l_2)
 (∀ (l : List UInt8),
 l = l_2 ++ l_2 →
 iteP (strFits l l)
 (∀ (l_3 : List UInt8),
 l_3 = l ++ l →
 iteP (strFits l_3 l_3)
 (∀ (l : List UInt8),
 l = l_3 ++ l_3 →
 iteP (strFits l l)
 (∀ (l_4 : List UInt8),
 l_4 = l ++ l →
 iteP (strFits l_4 l_4)
 (∀ (l : List UInt8),
 l = l_4 ++ l_4 →
 iteP (strFits l l)
 (∀ (l_5 : List UInt8),
 l_5 = l ++ l →
 iteP (strFits l_5 l_5)
 (∀ (l : List UInt8),
 l = l_5 ++ l_5 →
 iteP (strFits l l)
 (∀
 (l_6 :
 List UInt8),
 l_6 = l ++ l →
 iteP
 (strFits l_6
 l_6)
 (∀
 (l :
 List
 UInt8),
 l =
 l_6 ++
 l_6 →
 iteP
 (strFits
 l l)
 (∀
 (l_7 :
 List
 UInt8),
 l_7 =
 l ++
 l →
 iteP
 (strFits
 l_7
 l_7)
 (∀
 (l :
 List
 UInt8),
 l =
 l_7 ++
 l_7 →
 iteP
 (strFits
 l
 l)
 (∀
 (l_8 :
 List
 UInt8),
 l_8 =
 l ++
 l →
 iteP
 (strFits
 l_8
 l_8)
 (∀
 (l :
 List
 UInt8),
 l =
 l_8 ++
 l_8 →
 LX
 [AV.sc
 (Value.string
 (ByteArray.mk
 (Array.mk
 t))),
 AV.sc
 (Value.int
 IntKind.i64
 (1 :
 Int)),
 AV.sc
 (Value.int
 IntKind.i64
 (0 :
 Int)),
 AV.sc
 (Value.int
 IntKind.i64
 (3 :
 Int)),
 AV.sc
 (Value.int
 IntKind.u64
 (0 :
 Int)),
 AV.sc
 (Value.int
 IntKind.u64
 (0 :
 Int)),
 AV.sc
 (Value.int
 IntKind.u64
 (0 :
 Int)),
 AV.sc
 (Value.int
 IntKind.u64
 (0 :
 Int)),
 AV.sc
 (Value.int
 IntKind.i64
 (0 :
 Int)),
 AV.sc
 (Value.int
 IntKind.i64
 (0 :
 Int)),
 AV.sc
 (Value.int
 IntKind.i64
 (0 :
 Int)),
 AV.sl
 x
 (0 :
 Nat)]
 l ∧
 ∀
 (_ : Unit),
 True →
 LX
 [AV.sc
 (Value.string
 (ByteArray.mk
 (Array.mk
 t))),
 AV.sc
 (Value.int
 IntKind.i64
 (1 :
 Int)),
 AV.sc
 (Value.int
 IntKind.i64
 (0 :
 Int)),
 AV.sc
 (Value.int
 IntKind.i64
 (3 :
 Int)),
 AV.sc
 (Value.int
 IntKind.u64
 (0 :
 Int)),
 AV.sc
 (Value.int
 IntKind.u64
 (0 :
 Int)),
 AV.sc
 (Value.int
 IntKind.u64
 (0 :
 Int)),
 AV.sc
 (Value.int
 IntKind.u64
 (0 :
 Int)),
 AV.sc
 (Value.int
 IntKind.i64
 (0 :
 Int)),
 AV.sc
 (Value.int
 IntKind.i64
 (0 :
 Int)),
 AV.sc
 (Value.int
 IntKind.i64
 (0 :
 Int)),
 AV.sl
 x
 (0 :
 Nat)]
 l ∧
 ∀
 (_ : Unit),
 True →
 loopAt
 Tryz.prog
 (3 :
 Nat)
 (21 :
 Nat) =
 loopAt
 Tryz.prog
 (3 :
 Nat)
 (21 :
 Nat) ∧
 (I21
 [AV.sc
 (Value.string
 (ByteArray.mk
 (Array.mk
 t))),
 AV.sc
 (Value.int
 IntKind.i64
 (1 :
 Int)),
 AV.sc
 (Value.int
 IntKind.i64
 (0 :
 Int)),
 AV.sc
 (Value.int
 IntKind.i64
 (3 :
 Int)),
 AV.sc
 (Value.int
 IntKind.u64
 (0 :
 Int)),
 AV.sc
 (Value.int
 IntKind.u64
 (0 :
 Int)),
 AV.sc
 (Value.int
 IntKind.u64
 (0 :
 Int)),
 AV.sc
 (Value.int
 IntKind.u64
 (0 :
 Int)),
 AV.sc
 (Value.int
 IntKind.i64
 (0 :
 Int)),
 AV.sc
 (Value.int
 IntKind.i64
 (0 :
 Int)),
 AV.sc
 (Value.int
 IntKind.i64
 (0 :
 Int)),
 AV.sl
 x
 (0 :
 Nat)]
 [AV.sc
 (Value.slice
 none
 (0 :
 Nat)
 (0 :
 Nat))]
 [AV.sc
 (Value.slice
 none
 (0 :
 Nat)
 (0 :
 Nat))]
 t
 s
 false
 (0 :
 Int)
 (Heap.mk
 (1 :
 Nat)
 Tr.leaf
 (0 :
 Nat)
 Tr.leaf) =
 I21
 [AV.sc
 (Value.string
 (ByteArray.mk
 (Array.mk
 t))),
 AV.sc
 (Value.int
 IntKind.i64
 (1 :
 Int)),
 AV.sc
 (Value.int
 IntKind.i64
 (0 :
 Int)),
 AV.sc
 (Value.int
 IntKind.i64
 (3 :
 Int)),
 AV.sc
 (Value.int
 IntKind.u64
 (0 :
 Int)),
 AV.sc
 (Value.int
 IntKind.u64
 (0 :
 Int)),
 AV.sc
 (Value.int
 IntKind.u64
 (0 :
 Int)),
 AV.sc
 (Value.int
 IntKind.u64
 (0 :
 Int)),
 AV.sc
 (Value.int
 IntKind.i64
 (0 :
 Int)),
 AV.sc
 (Value.int
 IntKind.i64
 (0 :
 Int)),
 AV.sc
 (Value.int
 IntKind.i64
 (0 :
 Int)),
 AV.sl
 x
 (0 :
 Nat)]
 [AV.sc
 (Value.slice
 none
 (0 :
 Nat)
 (0 :
 Nat))]
 [AV.sc
 (Value.slice
 none
 (0 :
 Nat)
 (0 :
 Nat))]
 t
 s
 false
 (0 :
 Int)
 (Heap.mk
 (1 :
 Nat)
 Tr.leaf
 (0 :
 Nat)
 Tr.leaf) ∧
 PreF
 t
 s
 false
 [AV.sc
 (Value.string
 (ByteArray.mk
 (Array.mk
 t))),
 AV.sc
 (Value.int
 IntKind.i64
 (1 :
 Int)),
 AV.sc
 (Value.int
 IntKind.i64
 (0 :
 Int)),
 AV.sc
 (Value.int
 IntKind.i64
 (3 :
 Int)),
 AV.sc
 (Value.int
 IntKind.u64
 (0 :
 Int)),
 AV.sc
 (Value.int
 IntKind.u64
 (0 :
 Int)),
 AV.sc
 (Value.int
 IntKind.u64
 (0 :
 Int)),
 AV.sc
 (Value.int
 IntKind.u64
 (0 :
 Int)),
 AV.sc
 (Value.int
 IntKind.i64
 (0 :
 Int)),
 AV.sc
 (Value.int
 IntKind.i64
 (0 :
 Int)),
 AV.sc
 (Value.int
 IntKind.i64
 (0 :
 Int)),
 AV.sl
 x
 (0 :
 Nat)]
 [AV.sc
 (Value.slice
 none
 (0 :
 Nat)
 (0 :
 Nat))]
 [AV.sc
 (Value.slice
 none
 (0 :
 Nat)
 (0 :
 Nat))]) ∧
 ∀
 (_ : Unit),
 True →
 True ∧
 ∀
 (_ : Unit),
 True →
 K
 (AV.sc
 (Value.bool
 true)))
 False)
 False)
 False)
 False)
 False)
 False)
 False)
 False)
 False)
 False)
 False)
 False)
 False)
 False)
 False)
 False)
 False)
 (True ∧
 ∀ (x : List UInt8 × List (List AV) × List UInt8 × List UInt8),
 FlatL
 (AV.agg
 [AV.sc (Value.string (ByteArray.mk (Array.mk x.fst))), AV.sl x.snd.fst (0 : Nat),
 AV.sc (Value.string (ByteArray.mk (Array.mk x.snd.snd.fst))),
 AV.sc (Value.string (ByteArray.mk (Array.mk x.snd.snd.snd))),
 AV.sc (Value.slice none (0 : Nat) (0 : Nat)), AV.sc (Value.slice none (0 : Nat) (0 : Nat))]) →
 P11 t (0 : Int)
 [AV.sc (Value.string (ByteArray.mk (Array.mk t))), AV.sc (Value.int IntKind.i64 (0 : Int)),
 AV.agg
 [AV.sc (Value.string (ByteArray.mk (Array.mk x.fst))), AV.sl x.snd.fst (0 : Nat),
 AV.sc (Value.string (ByteArray.mk (Array.mk x.snd.snd.fst))),
 AV.sc (Value.string (ByteArray.mk (Array.mk x.snd.snd.snd))),
 AV.sc (Value.slice none (0 : Nat) (0 : Nat)),
 AV.sc (Value.slice none (0 : Nat) (0 : Nat))]] ∧
 (∀ (x : Int × Int × Int × Int),
 IsXV t (0 : Int)
 [AV.sc (Value.string (ByteArray.mk (Array.mk t))), AV.sc (Value.int IntKind.i64 (0 : Int)),
 AV.sc (Value.int IntKind.i64 (0 : Int)), AV.sc (Value.int IntKind.i64 (2 : Int)),
 AV.sc (Value.int IntKind.u64 x.fst), AV.sc (Value.int IntKind.u64 x.snd.fst),
 AV.sc (Value.int IntKind.u64 x.snd.snd.fst), AV.sc (Value.int IntKind.u64 x.snd.snd.snd),
 AV.sc (Value.int IntKind.i64 (0 : Int)), AV.sc (Value.int IntKind.i64 (0 : Int)),
 AV.sc (Value.int IntKind.i64 (0 : Int)), AV.sc (Value.slice none (0 : Nat) (0 : Nat))] →
 PX
 [AV.sc (Value.string (ByteArray.mk (Array.mk t))),
 AV.sc (Value.int IntKind.i64 (0 : Int)), AV.sc (Value.int IntKind.i64 (0 : Int)),
 AV.sc (Value.int IntKind.i64 (2 : Int)), AV.sc (Value.int IntKind.u64 x.fst),
 AV.sc (Value.int IntKind.u64 x.snd.fst), AV.sc (Value.int IntKind.u64 x.snd.snd.fst),
 AV.sc (Value.int IntKind.u64 x.snd.snd.snd), AV.sc (Value.int IntKind.i64 (0 : Int)),
 AV.sc (Value.int IntKind.i64 (0 : Int)), AV.sc (Value.int IntKind.i64 (0 : Int)),
 AV.sc (Value.slice none (0 : Nat) (0 : Nat))]
 s ∧
 (∀ (x_1 : Int × Int),
 FoundAt
 [AV.sc (Value.string (ByteArray.mk (Array.mk t))),
 AV.sc (Value.int IntKind.i64 (0 : Int)), AV.sc (Value.int IntKind.i64 (0 : Int)),
 AV.sc (Value.int IntKind.i64 (2 : Int)), AV.sc (Value.int IntKind.u64 x.fst),
 AV.sc (Value.int IntKind.u64 x.snd.fst),
 AV.sc (Value.int IntKind.u64 x.snd.snd.fst),
 AV.sc (Value.int IntKind.u64 x.snd.snd.snd),
 AV.sc (Value.int IntKind.i64 (0 : Int)), AV.sc (Value.int IntKind.i64 (0 : Int)),
 AV.sc (Value.int IntKind.i64 (0 : Int)),
 AV.sc (Value.slice none (0 : Nat) (0 : Nat))]
 s x_1.fst x_1.snd →
 iteP (strFits [(97 : UInt8)] [(97 : UInt8)])
 (∀ (l : List UInt8),
 l = [(97 : UInt8)] ++ [(97 : UInt8)] →
 iteP (strFits l l)
 (∀ (l_1 : List UInt8),
 l_1 = l ++ l →
 iteP (strFits l_1 l_1)
 (∀ (l : List UInt8),
 l = l_1 ++ l_1 →
 iteP (strFits l l)
 (∀ (l_2 : List UInt8),
 l_2 = l ++ l →
 iteP (strFits l_2 l_2)
 (∀ (l : List UInt8),
 l = l_2 ++ l_2 →
 iteP (strFits l l)
 (∀ (l_3 : List UInt8),
 l_3 = l ++ l →
 iteP (strFits l_3 l_3)
 (∀ (l : List UInt8),
 l = l_3 ++ l_3 →
 iteP (strFits l l)
 (∀ (l_4 : List UInt8),
 l_4 = l ++ l →
 iteP (strFits l_4 l_4)
 (∀ (l : List UInt8),
 l = l_4 ++ l_4 →
 iteP (strFits l l)
 (∀ (l_5 : List UInt8),
 l_5 = l ++ l →
 iteP (strFits l_5 l_5)
 (∀ (l : List UInt8),
 l = l_5 ++ l_5 →
 iteP (strFits l l)
 (∀
 (l_6 :
 List UInt8),
 l_6 = l ++ l →
 iteP
 (strFits l_6
 l_6)
 (∀
 (l :
 List
 UInt8),
 l =
 l_6 ++
 l_6 →
 iteP
 (strFits
 l l)
 (∀
 (l_7 :
 List
 UInt8),
 l_7 =
 l ++
 l →
 iteP
 (strFits
 l_7
 l_7)
 (∀
 (l :
 List
 UInt8),
 l =
 l_7 ++
 l_7 →
 iteP
 (strFits
 l
 l)
 (∀
 (l_8 :
 List
 UInt8),
 l_8 =
 l ++
 l →
 iteP
 (strFits
 l_8
 l_8)
 (∀
 (l :
 List
 UInt8),
 l =
 l_8 ++
 l_8 →
 LX
 [AV.sc
 (Value.string
 (ByteArray.mk
 (Array.mk
 t))),
 AV.sc
 (Value.int
 IntKind.i64
 (0 :
 Int)),
 AV.sc
 (Value.int
 IntKind.i64
 (0 :
 Int)),
 AV.sc
 (Value.int
 IntKind.i64
 (2 :
 Int)),
 AV.sc
 (Value.int
 IntKind.u64
 x.fst),
 AV.sc
 (Value.int
 IntKind.u64
 x.snd.fst),
 AV.sc
 (Value.int
 IntKind.u64
 x.snd.snd.fst),
 AV.sc
 (Value.int
 IntKind.u64
 x.snd.snd.snd),
 AV.sc
 (Value.int
 IntKind.i64
 (0 :
 Int)),
 AV.sc
 (Value.int
 IntKind.i64
 (0 :
 Int)),
 AV.sc
 (Value.int
 IntKind.i64
 (0 :
 Int)),
 AV.sc
 (Value.slice
 none
 (0 :
 Nat)
 (0 :
 Nat))]
 l ∧
 ∀
 (_ : Unit),
 True →
 LX
 [AV.sc
 (Value.string
 (ByteArray.mk
 (Array.mk
 t))),
 AV.sc
 (Value.int
 IntKind.i64
 (0 :
 Int)),
 AV.sc
 (Value.int
 IntKind.i64
 (0 :
 Int)),
 AV.sc
 (Value.int
 IntKind.i64
 (2 :
 Int)),
 AV.sc
 (Value.int
 IntKind.u64
 x.fst),
 AV.sc
 (Value.int
 IntKind.u64
 x.snd.fst),
 AV.sc
 (Value.int
 IntKind.u64
 x.snd.snd.fst),
 AV.sc
 (Value.int
 IntKind.u64
 x.snd.snd.snd),
 AV.sc
 (Value.int
 IntKind.i64
 (0 :
 Int)),
 AV.sc
 (Value.int
 IntKind.i64
 (0 :
 Int)),
 AV.sc
 (Value.int
 IntKind.i64
 (0 :
 Int)),
 AV.sc
 (Value.slice
 none
 (0 :
 Nat)
 (0 :
 Nat))]
 l ∧
 ∀
 (_ : Unit),
 True →
 loopAt
 Tryz.prog
 (3 :
 Nat)
 (21 :
 Nat) =
 loopAt
 Tryz.prog
 (3 :
 Nat)
 (21 :
 Nat) ∧
 (I21
 [AV.sc
 (Value.string
 (ByteArray.mk
 (Array.mk
 t))),
 AV.sc
 (Value.int
 IntKind.i64
 (0 :
 Int)),
 AV.sc
 (Value.int
 IntKind.i64
 (0 :
 Int)),
 AV.sc
 (Value.int
 IntKind.i64
 (2 :
 Int)),
 AV.sc
 (Value.int
 IntKind.u64
 x.fst),
 AV.sc
 (Value.int
 IntKind.u64
 x.snd.fst),
 AV.sc
 (Value.int
 IntKind.u64
 x.snd.snd.fst),
 AV.sc
 (Value.int
 IntKind.u64
 x.snd.snd.snd),
 AV.sc
 (Value.int
 IntKind.i64
 (0 :
 Int)),
 AV.sc
 (Value.int
 IntKind.i64
 (0 :
 Int)),
 AV.sc
 (Value.int
 IntKind.i64
 (0 :
 Int)),
 AV.sc
 (Value.slice
 none
 (0 :
 Nat)
 (0 :
 Nat))]
 [AV.sl
 [[AV.sc
 (Value.int
 IntKind.i64
 x_1.fst),
 AV.sc
 (Value.int
 IntKind.i64
 x_1.snd)]]
 (0 :
 Nat)]
 [AV.sc
 (Value.slice
 none
 (0 :
 Nat)
 (0 :
 Nat))]
 t
 s
 true
 (0 :
 Int)
 (Heap.mk
 (1 :
 Nat)
 Tr.leaf
 (0 :
 Nat)
 Tr.leaf) =
 I21
 [AV.sc
 (Value.string
 (ByteArray.mk
 (Array.mk
 t))),
 AV.sc
 (Value.int
 IntKind.i64
 (0 :
 Int)),
 AV.sc
 (Value.int
 IntKind.i64
 (0 :
 Int)),
 AV.sc
 (Value.int
 IntKind.i64
 (2 :
 Int)),
 AV.sc
 (Value.int
 IntKind.u64
 x.fst),
 AV.sc
 (Value.int
 IntKind.u64
 x.snd.fst),
 AV.sc
 (Value.int
 IntKind.u64
 x.snd.snd.fst),
 AV.sc
 (Value.int
 IntKind.u64
 x.snd.snd.snd),
 AV.sc
 (Value.int
 IntKind.i64
 (0 :
 Int)),
 AV.sc
 (Value.int
 IntKind.i64
 (0 :
 Int)),
 AV.sc
 (Value.int
 IntKind.i64
 (0 :
 Int)),
 AV.sc
 (Value.slice
 none
 (0 :
 Nat)
 (0 :
 Nat))]
 [AV.sl
 [[AV.sc
 (Value.int
 IntKind.i64
 x_1.fst),
 AV.sc
 (Value.int
 IntKind.i64
 x_1.snd)]]
 (0 :
 Nat)]
 [AV.sc
 (Value.slice
 none
 (0 :
 Nat)
 (0 :
 Nat))]
 t
 s
 true
 (0 :
 Int)
 (Heap.mk
 (1 :
 Nat)
 Tr.leaf
 (0 :
 Nat)
 Tr.leaf) ∧
 PreF
 t
 s
 true
 [AV.sc
 (Value.string
 (ByteArray.mk
 (Array.mk
 t))),
 AV.sc
 (Value.int
 IntKind.i64
 (0 :
 Int)),
 AV.sc
 (Value.int
 IntKind.i64
 (0 :
 Int)),
 AV.sc
 (Value.int
 IntKind.i64
 (2 :
 Int)),
 AV.sc
 (Value.int
 IntKind.u64
 x.fst),
 AV.sc
 (Value.int
 IntKind.u64
 x.snd.fst),
 AV.sc
 (Value.int
 IntKind.u64
 x.snd.snd.fst),
 AV.sc
 (Value.int
 IntKind.u64
 x.snd.snd.snd),
 AV.sc
 (Value.int
 IntKind.i64
 (0 :
 Int)),
 AV.sc
 (Value.int
 IntKind.i64
 (0 :
 Int)),
 AV.sc
 (Value.int
 IntKind.i64
 (0 :
 Int)),
 AV.sc
 (Value.slice
 none
 (0 :
 Nat)
 (0 :
 Nat))]
 [AV.sl
 [[AV.sc
 (Value.int
 IntKind.i64
 x_1.fst),
 AV.sc
 (Value.int
 IntKind.i64
 x_1.snd)]]
 (0 :
 Nat)]
 [AV.sc
 (Value.slice
 none
 (0 :
 Nat)
 (0 :
 Nat))]) ∧
 ∀
 (_ : Unit),
 True →
 K
 (AV.sc
 (Value.bool
 true)))
 False)
 False)
 False)
 False)
 False)
 False)
 False)
 False)
 False)
 False)
 False)
 False)
 False)
 False)
 False)
 False)
 False) ∧
 ∀ (_ : Unit),
 NoneAt
 [AV.sc (Value.string (ByteArray.mk (Array.mk t))),
 AV.sc (Value.int IntKind.i64 (0 : Int)), AV.sc (Value.int IntKind.i64 (0 : Int)),
 AV.sc (Value.int IntKind.i64 (2 : Int)), AV.sc (Value.int IntKind.u64 x.fst),
 AV.sc (Value.int IntKind.u64 x.snd.fst),
 AV.sc (Value.int IntKind.u64 x.snd.snd.fst),
 AV.sc (Value.int IntKind.u64 x.snd.snd.snd),
 AV.sc (Value.int IntKind.i64 (0 : Int)), AV.sc (Value.int IntKind.i64 (0 : Int)),
 AV.sc (Value.int IntKind.i64 (0 : Int)),
 AV.sc (Value.slice none (0 : Nat) (0 : Nat))]
 s →
 iteP (strFits [(97 : UInt8)] [(97 : UInt8)])
 (∀ (l : List UInt8),
 l = [(97 : UInt8)] ++ [(97 : UInt8)] →
 iteP (strFits l l)
 (∀ (l_1 : List UInt8),
 l_1 = l ++ l →
 iteP (strFits l_1 l_1)
 (∀ (l : List UInt8),
 l = l_1 ++ l_1 →
 iteP (strFits l l)
 (∀ (l_2 : List UInt8),
 l_2 = l ++ l →
 iteP (strFits l_2 l_2)
 (∀ (l : List UInt8),
 l = l_2 ++ l_2 →
 iteP (strFits l l)
 (∀ (l_3 : List UInt8),
 l_3 = l ++ l →
 iteP (strFits l_3 l_3)
 (∀ (l : List UInt8),
 l = l_3 ++ l_3 →
 iteP (strFits l l)
 (∀ (l_4 : List UInt8),
 l_4 = l ++ l →
 iteP (strFits l_4 l_4)
 (∀ (l : List UInt8),
 l = l_4 ++ l_4 →
 iteP (strFits l l)
 (∀ (l_5 : List UInt8),
 l_5 = l ++ l →
 iteP (strFits l_5 l_5)
 (∀ (l : List UInt8),
 l = l_5 ++ l_5 →
 iteP (strFits l l)
 (∀
 (l_6 :
 List UInt8),
 l_6 = l ++ l →
 iteP
 (strFits l_6
 l_6)
 (∀
 (l :
 List
 UInt8),
 l =
 l_6 ++
 l_6 →
 iteP
 (strFits
 l l)
 (∀
 (l_7 :
 List
 UInt8),
 l_7 =
 l ++
 l →
 iteP
 (strFits
 l_7
 l_7)
 (∀
 (l :
 List
 UInt8),
 l =
 l_7 ++
 l_7 →
 iteP
 (strFits
 l
 l)
 (∀
 (l_8 :
 List
 UInt8),
 l_8 =
 l ++
 l →
 iteP
 (strFits
 l_8
 l_8)
 (∀
 (l :
 List
 UInt8),
 l =
 l_8 ++
 l_8 →
 LX
 [AV.sc
 (Value.string
 (ByteArray.mk
 (Array.mk
 t))),
 AV.sc
 (Value.int
 IntKind.i64
 (0 :
 Int)),
 AV.sc
 (Value.int
 IntKind.i64
 (0 :
 Int)),
 AV.sc
 (Value.int
 IntKind.i64
 (2 :
 Int)),
 AV.sc
 (Value.int
 IntKind.u64
 x.fst),
 AV.sc
 (Value.int
 IntKind.u64
 x.snd.fst),
 AV.sc
 (Value.int
 IntKind.u64
 x.snd.snd.fst),
 AV.sc
 (Value.int
 IntKind.u64
 x.snd.snd.snd),
 AV.sc
 (Value.int
 IntKind.i64
 (0 :
 Int)),
 AV.sc
 (Value.int
 IntKind.i64
 (0 :
 Int)),
 AV.sc
 (Value.int
 IntKind.i64
 (0 :
 Int)),
 AV.sc
 (Value.slice
 none
 (0 :
 Nat)
 (0 :
 Nat))]
 l ∧
 ∀
 (_ : Unit),
 True →
 LX
 [AV.sc
 (Value.string
 (ByteArray.mk
 (Array.mk
 t))),
 AV.sc
 (Value.int
 IntKind.i64
 (0 :
 Int)),
 AV.sc
 (Value.int
 IntKind.i64
 (0 :
 Int)),
 AV.sc
 (Value.int
 IntKind.i64
 (2 :
 Int)),
 AV.sc
 (Value.int
 IntKind.u64
 x.fst),
 AV.sc
 (Value.int
 IntKind.u64
 x.snd.fst),
 AV.sc
 (Value.int
 IntKind.u64
 x.snd.snd.fst),
 AV.sc
 (Value.int
 IntKind.u64
 x.snd.snd.snd),
 AV.sc
 (Value.int
 IntKind.i64
 (0 :
 Int)),
 AV.sc
 (Value.int
 IntKind.i64
 (0 :
 Int)),
 AV.sc
 (Value.int
 IntKind.i64
 (0 :
 Int)),
 AV.sc
 (Value.slice
 none
 (0 :
 Nat)
 (0 :
 Nat))]
 l ∧
 ∀
 (_ : Unit),
 True →
 loopAt
 Tryz.prog
 (3 :
 Nat)
 (21 :
 Nat) =
 loopAt
 Tryz.prog
 (3 :
 Nat)
 (21 :
 Nat) ∧
 (I21
 [AV.sc
 (Value.string
 (ByteArray.mk
 (Array.mk
 t))),
 AV.sc
 (Value.int
 IntKind.i64
 (0 :
 Int)),
 AV.sc
 (Value.int
 IntKind.i64
 (0 :
 Int)),
 AV.sc
 (Value.int
 IntKind.i64
 (2 :
 Int)),
 AV.sc
 (Value.int
 IntKind.u64
 x.fst),
 AV.sc
 (Value.int
 IntKind.u64
 x.snd.fst),
 AV.sc
 (Value.int
 IntKind.u64
 x.snd.snd.fst),
 AV.sc
 (Value.int
 IntKind.u64
 x.snd.snd.snd),
 AV.sc
 (Value.int
 IntKind.i64
 (0 :
 Int)),
 AV.sc
 (Value.int
 IntKind.i64
 (0 :
 Int)),
 AV.sc
 (Value.int
 IntKind.i64
 (0 :
 Int)),
 AV.sc
 (Value.slice
 none
 (0 :
 Nat)
 (0 :
 Nat))]
 [AV.sc
 (Value.slice
 none
 (0 :
 Nat)
 (0 :
 Nat))]
 [AV.sc
 (Value.slice
 none
 (0 :
 Nat)
 (0 :
 Nat))]
 t
 s
 false
 (0 :
 Int)
 (Heap.mk
 (1 :
 Nat)
 Tr.leaf
 (0 :
 Nat)
 Tr.leaf) =
 I21
 [AV.sc
 (Value.string
 (ByteArray.mk
 (Array.mk
 t))),
 AV.sc
 (Value.int
 IntKind.i64
 (0 :
 Int)),
 AV.sc
 (Value.int
 IntKind.i64
 (0 :
 Int)),
 AV.sc
 (Value.int
 IntKind.i64
 (2 :
 Int)),
 AV.sc
 (Value.int
 IntKind.u64
 x.fst),
 AV.sc
 (Value.int
 IntKind.u64
 x.snd.fst),
 AV.sc
 (Value.int
 IntKind.u64
 x.snd.snd.fst),
 AV.sc
 (Value.int
 IntKind.u64
 x.snd.snd.snd),
 AV.sc
 (Value.int
 IntKind.i64
 (0 :
 Int)),
 AV.sc
 (Value.int
 IntKind.i64
 (0 :
 Int)),
 AV.sc
 (Value.int
 IntKind.i64
 (0 :
 Int)),
 AV.sc
 (Value.slice
 none
 (0 :
 Nat)
 (0 :
 Nat))]
 [AV.sc
 (Value.slice
 none
 (0 :
 Nat)
 (0 :
 Nat))]
 [AV.sc
 (Value.slice
 none
 (0 :
 Nat)
 (0 :
 Nat))]
 t
 s
 false
 (0 :
 Int)
 (Heap.mk
 (1 :
 Nat)
 Tr.leaf
 (0 :
 Nat)
 Tr.leaf) ∧
 PreF
 t
 s
 false
 [AV.sc
 (Value.string
 (ByteArray.mk
 (Array.mk
 t))),
 AV.sc
 (Value.int
 IntKind.i64
 (0 :
 Int)),
 AV.sc
 (Value.int
 IntKind.i64
 (0 :
 Int)),
 AV.sc
 (Value.int
 IntKind.i64
 (2 :
 Int)),
 AV.sc
 (Value.int
 IntKind.u64
 x.fst),
 AV.sc
 (Value.int
 IntKind.u64
 x.snd.fst),
 AV.sc
 (Value.int
 IntKind.u64
 x.snd.snd.fst),
 AV.sc
 (Value.int
 IntKind.u64
 x.snd.snd.snd),
 AV.sc
 (Value.int
 IntKind.i64
 (0 :
 Int)),
 AV.sc
 (Value.int
 IntKind.i64
 (0 :
 Int)),
 AV.sc
 (Value.int
 IntKind.i64
 (0 :
 Int)),
 AV.sc
 (Value.slice
 none
 (0 :
 Nat)
 (0 :
 Nat))]
 [AV.sc
 (Value.slice
 none
 (0 :
 Nat)
 (0 :
 Nat))]
 [AV.sc
 (Value.slice
 none
 (0 :
 Nat)
 (0 :
 Nat))]) ∧
 ∀
 (_ : Unit),
 True →
 True ∧
 ∀
 (_ : Unit),
 True →
 K
 (AV.sc
 (Value.bool
 true)))
 False)
 False)
 False)
 False)
 False)
 False)
 False)
 False)
 False)
 False)
 False)
 False)
 False)
 False)
 False)
 False)
 False) ∧
 ∀ (x : List (List AV)),
 IsXV t (0 : Int)
 [AV.sc (Value.string (ByteArray.mk (Array.mk t))), AV.sc (Value.int IntKind.i64 (0 : Int)),
 AV.sc (Value.int IntKind.i64 (0 : Int)), AV.sc (Value.int IntKind.i64 (3 : Int)),
 AV.sc (Value.int IntKind.u64 (0 : Int)), AV.sc (Value.int IntKind.u64 (0 : Int)),
 AV.sc (Value.int IntKind.u64 (0 : Int)), AV.sc (Value.int IntKind.u64 (0 : Int)),
 AV.sc (Value.int IntKind.i64 (0 : Int)), AV.sc (Value.int IntKind.i64 (0 : Int)),
 AV.sc (Value.int IntKind.i64 (0 : Int)), AV.sl x (0 : Nat)] →
 PX
 [AV.sc (Value.string (ByteArray.mk (Array.mk t))),
 AV.sc (Value.int IntKind.i64 (0 : Int)), AV.sc (Value.int IntKind.i64 (0 : Int)),
 AV.sc (Value.int IntKind.i64 (3 : Int)), AV.sc (Value.int IntKind.u64 (0 : Int)),
 AV.sc (Value.int IntKind.u64 (0 : Int)), AV.sc (Value.int IntKind.u64 (0 : Int)),
 AV.sc (Value.int IntKind.u64 (0 : Int)), AV.sc (Value.int IntKind.i64 (0 : Int)),
 AV.sc (Value.int IntKind.i64 (0 : Int)), AV.sc (Value.int IntKind.i64 (0 : Int)),
 AV.sl x (0 : Nat)]
 s ∧
 (∀ (x_1 : Int × Int),
 FoundAt
 [AV.sc (Value.string (ByteArray.mk (Array.mk t))),
 AV.sc (Value.int IntKind.i64 (0 : Int)), AV.sc (Value.int IntKind.i64 (0 : Int)),
 AV.sc (Value.int IntKind.i64 (3 : Int)), AV.sc (Value.int IntKind.u64 (0 : Int)),
 AV.sc (Value.int IntKind.u64 (0 : Int)), AV.sc (Value.int IntKind.u64 (0 : Int)),
 AV.sc (Value.int IntKind.u64 (0 : Int)), AV.sc (Value.int IntKind.i64 (0 : Int)),
 AV.sc (Value.int IntKind.i64 (0 : Int)), AV.sc (Value.int IntKind.i64 (0 : Int)),
 AV.sl x (0 : Nat)]
 s x_1.fst x_1.snd →
 iteP (strFits [(97 : UInt8)] [(97 : UInt8)])
 (∀ (l : List UInt8),
 l = [(97 : UInt8)] ++ [(97 : UInt8)] →
 iteP (strFits l l)
 (∀ (l_1 : List UInt8),
 l_1 = l ++ l →
 iteP (strFits l_1 l_1)
 (∀ (l : List UInt8),
 l = l_1 ++ l_1 →
 iteP (strFits l l)
 (∀ (l_2 : List UInt8),
 l_2 = l ++ l →
 iteP (strFits l_2 l_2)
 (∀ (l : List UInt8),
 l = l_2 ++ l_2 →
 iteP (strFits l l)
 (∀ (l_3 : List UInt8),
 l_3 = l ++ l →
 iteP (strFits l_3 l_3)
 (∀ (l : List UInt8),
 l = l_3 ++ l_3 →
 iteP (strFits l l)
 (∀ (l_4 : List UInt8),
 l_4 = l ++ l →
 iteP (strFits l_4 l_4)
 (∀ (l : List UInt8),
 l = l_4 ++ l_4 →
 iteP (strFits l l)
 (∀ (l_5 : List UInt8),
 l_5 = l ++ l →
 iteP (strFits l_5 l_5)
 (∀ (l : List UInt8),
 l = l_5 ++ l_5 →
 iteP (strFits l l)
 (∀
 (l_6 :
 List UInt8),
 l_6 = l ++ l →
 iteP
 (strFits l_6
 l_6)
 (∀
 (l :
 List
 UInt8),
 l =
 l_6 ++
 l_6 →
 iteP
 (strFits
 l l)
 (∀
 (l_7 :
 List
 UInt8),
 l_7 =
 l ++
 l →
 iteP
 (strFits
 l_7
 l_7)
 (∀
 (l :
 List
 UInt8),
 l =
 l_7 ++
 l_7 →
 iteP
 (strFits
 l
 l)
 (∀
 (l_8 :
 List
 UInt8),
 l_8 =
 l ++
 l →
 iteP
 (strFits
 l_8
 l_8)
 (∀
 (l :
 List
 UInt8),
 l =
 l_8 ++
 l_8 →
 LX
 [AV.sc
 (Value.string
 (ByteArray.mk
 (Array.mk
 t))),
 AV.sc
 (Value.int
 IntKind.i64
 (0 :
 Int)),
 AV.sc
 (Value.int
 IntKind.i64
 (0 :
 Int)),
 AV.sc
 (Value.int
 IntKind.i64
 (3 :
 Int)),
 AV.sc
 (Value.int
 IntKind.u64
 (0 :
 Int)),
 AV.sc
 (Value.int
 IntKind.u64
 (0 :
 Int)),
 AV.sc
 (Value.int
 IntKind.u64
 (0 :
 Int)),
 AV.sc
 (Value.int
 IntKind.u64
 (0 :
 Int)),
 AV.sc
 (Value.int
 IntKind.i64
 (0 :
 Int)),
 AV.sc
 (Value.int
 IntKind.i64
 (0 :
 Int)),
 AV.sc
 (Value.int
 IntKind.i64
 (0 :
 Int)),
 AV.sl
 x
 (0 :
 Nat)]
 l ∧
 ∀
 (_ : Unit),
 True →
 LX
 [AV.sc
 (Value.string
 (ByteArray.mk
 (Array.mk
 t))),
 AV.sc
 (Value.int
 IntKind.i64
 (0 :
 Int)),
 AV.sc
 (Value.int
 IntKind.i64
 (0 :
 Int)),
 AV.sc
 (Value.int
 IntKind.i64
 (3 :
 Int)),
 AV.sc
 (Value.int
 IntKind.u64
 (0 :
 Int)),
 AV.sc
 (Value.int
 IntKind.u64
 (0 :
 Int)),
 AV.sc
 (Value.int
 IntKind.u64
 (0 :
 Int)),
 AV.sc
 (Value.int
 IntKind.u64
 (0 :
 Int)),
 AV.sc
 (Value.int
 IntKind.i64
 (0 :
 Int)),
 AV.sc
 (Value.int
 IntKind.i64
 (0 :
 Int)),
 AV.sc
 (Value.int
 IntKind.i64
 (0 :
 Int)),
 AV.sl
 x
 (0 :
 Nat)]
 l ∧
 ∀
 (_ : Unit),
 True →
 loopAt
 Tryz.prog
 (3 :
 Nat)
 (21 :
 Nat) =
 loopAt
 Tryz.prog
 (3 :
 Nat)
 (21 :
 Nat) ∧
 (I21
 [AV.sc
 (Value.string
 (ByteArray.mk
 (Array.mk
 t))),
 AV.sc
 (Value.int
 IntKind.i64
 (0 :
 Int)),
 AV.sc
 (Value.int
 IntKind.i64
 (0 :
 Int)),
 AV.sc
 (Value.int
 IntKind.i64
 (3 :
 Int)),
 AV.sc
 (Value.int
 IntKind.u64
 (0 :
 Int)),
 AV.sc
 (Value.int
 IntKind.u64
 (0 :
 Int)),
 AV.sc
 (Value.int
 IntKind.u64
 (0 :
 Int)),
 AV.sc
 (Value.int
 IntKind.u64
 (0 :
 Int)),
 AV.sc
 (Value.int
 IntKind.i64
 (0 :
 Int)),
 AV.sc
 (Value.int
 IntKind.i64
 (0 :
 Int)),
 AV.sc
 (Value.int
 IntKind.i64
 (0 :
 Int)),
 AV.sl
 x
 (0 :
 Nat)]
 [AV.sl
 [[AV.sc
 (Value.int
 IntKind.i64
 x_1.fst),
 AV.sc
 (Value.int
 IntKind.i64
 x_1.snd)]]
 (0 :
 Nat)]
 [AV.sc
 (Value.slice
 none
 (0 :
 Nat)
 (0 :
 Nat))]
 t
 s
 true
 (0 :
 Int)
 (Heap.mk
 (1 :
 Nat)
 Tr.leaf
 (0 :
 Nat)
 Tr.leaf) =
 I21
 [AV.sc
 (Value.string
 (ByteArray.mk
 (Array.mk
 t))),
 AV.sc
 (Value.int
 IntKind.i64
 (0 :
 Int)),
 AV.sc
 (Value.int
 IntKind.i64
 (0 :
 Int)),
 AV.sc
 (Value.int
 IntKind.i64
 (3 :
 Int)),
 AV.sc
 (Value.int
 IntKind.u64
 (0 :
 Int)),
 AV.sc
 (Value.int
 IntKind.u64
 (0 :
 Int)),
 AV.sc
 (Value.int
 IntKind.u64
 (0 :
 Int)),
 AV.sc
 (Value.int
 IntKind.u64
 (0 :
 Int)),
 AV.sc
 (Value.int
 IntKind.i64
 (0 :
 Int)),
 AV.sc
 (Value.int
 IntKind.i64
 (0 :
 Int)),
 AV.sc
 (Value.int
 IntKind.i64
 (0 :
 Int)),
 AV.sl
 x
 (0 :
 Nat)]
 [AV.sl
 [[AV.sc
 (Value.int
 IntKind.i64
 x_1.fst),
 AV.sc
 (Value.int
 IntKind.i64
 x_1.snd)]]
 (0 :
 Nat)]
 [AV.sc
 (Value.slice
 none
 (0 :
 Nat)
 (0 :
 Nat))]
 t
 s
 true
 (0 :
 Int)
 (Heap.mk
 (1 :
 Nat)
 Tr.leaf
 (0 :
 Nat)
 Tr.leaf) ∧
 PreF
 t
 s
 true
 [AV.sc
 (Value.string
 (ByteArray.mk
 (Array.mk
 t))),
 AV.sc
 (Value.int
 IntKind.i64
 (0 :
 Int)),
 AV.sc
 (Value.int
 IntKind.i64
 (0 :
 Int)),
 AV.sc
 (Value.int
 IntKind.i64
 (3 :
 Int)),
 AV.sc
 (Value.int
 IntKind.u64
 (0 :
 Int)),
 AV.sc
 (Value.int
 IntKind.u64
 (0 :
 Int)),
 AV.sc
 (Value.int
 IntKind.u64
 (0 :
 Int)),
 AV.sc
 (Value.int
 IntKind.u64
 (0 :
 Int)),
 AV.sc
 (Value.int
 IntKind.i64
 (0 :
 Int)),
 AV.sc
 (Value.int
 IntKind.i64
 (0 :
 Int)),
 AV.sc
 (Value.int
 IntKind.i64
 (0 :
 Int)),
 AV.sl
 x
 (0 :
 Nat)]
 [AV.sl
 [[AV.sc
 (Value.int
 IntKind.i64
 x_1.fst),
 AV.sc
 (Value.int
 IntKind.i64
 x_1.snd)]]
 (0 :
 Nat)]
 [AV.sc
 (Value.slice
 none
 (0 :
 Nat)
 (0 :
 Nat))]) ∧
 ∀
 (_ : Unit),
 True →
 K
 (AV.sc
 (Value.bool
 true)))
 False)
 False)
 False)
 False)
 False)
 False)
 False)
 False)
 False)
 False)
 False)
 False)
 False)
 False)
 False)
 False)
 False) ∧
 ∀ (_ : Unit),
 NoneAt
 [AV.sc (Value.string (ByteArray.mk (Array.mk t))),
 AV.sc (Value.int IntKind.i64 (0 : Int)), AV.sc (Value.int IntKind.i64 (0 : Int)),
 AV.sc (Value.int IntKind.i64 (3 : Int)), AV.sc (Value.int IntKind.u64 (0 : Int)),
 AV.sc (Value.int IntKind.u64 (0 : Int)), AV.sc (Value.int IntKind.u64 (0 : Int)),
 AV.sc (Value.int IntKind.u64 (0 : Int)), AV.sc (Value.int IntKind.i64 (0 : Int)),
 AV.sc (Value.int IntKind.i64 (0 : Int)), AV.sc (Value.int IntKind.i64 (0 : Int)),
 AV.sl x (0 : Nat)]
 s →
 iteP (strFits [(97 : UInt8)] [(97 : UInt8)])
 (∀ (l : List UInt8),
 l = [(97 : UInt8)] ++ [(97 : UInt8)] →
 iteP (strFits l l)
 (∀ (l_1 : List UInt8),
 l_1 = l ++ l →
 iteP (strFits l_1 l_1)
 (∀ (l : List UInt8),
 l = l_1 ++ l_1 →
 iteP (strFits l l)
 (∀ (l_2 : List UInt8),
 l_2 = l ++ l →
 iteP (strFits l_2 l_2)
 (∀ (l : List UInt8),
 l = l_2 ++ l_2 →
 iteP (strFits l l)
 (∀ (l_3 : List UInt8),
 l_3 = l ++ l →
 iteP (strFits l_3 l_3)
 (∀ (l : List UInt8),
 l = l_3 ++ l_3 →
 iteP (strFits l l)
 (∀ (l_4 : List UInt8),
 l_4 = l ++ l →
 iteP (strFits l_4 l_4)
 (∀ (l : List UInt8),
 l = l_4 ++ l_4 →
 iteP (strFits l l)
 (∀ (l_5 : List UInt8),
 l_5 = l ++ l →
 iteP (strFits l_5 l_5)
 (∀ (l : List UInt8),
 l = l_5 ++ l_5 →
 iteP (strFits l l)
 (∀
 (l_6 :
 List UInt8),
 l_6 = l ++ l →
 iteP
 (strFits l_6
 l_6)
 (∀
 (l :
 List
 UInt8),
 l =
 l_6 ++
 l_6 →
 iteP
 (strFits
 l l)
 (∀
 (l_7 :
 List
 UInt8),
 l_7 =
 l ++
 l →
 iteP
 (strFits
 l_7
 l_7)
 (∀
 (l :
 List
 UInt8),
 l =
 l_7 ++
 l_7 →
 iteP
 (strFits
 l
 l)
 (∀
 (l_8 :
 List
 UInt8),
 l_8 =
 l ++
 l →
 iteP
 (strFits
 l_8
 l_8)
 (∀
 (l :
 List
 UInt8),
 l =
 l_8 ++
 l_8 →
 LX
 [AV.sc
 (Value.string
 (ByteArray.mk
 (Array.mk
 t))),
 AV.sc
 (Value.int
 IntKind.i64
 (0 :
 Int)),
 AV.sc
 (Value.int
 IntKind.i64
 (0 :
 Int)),
 AV.sc
 (Value.int
 IntKind.i64
 (3 :
 Int)),
 AV.sc
 (Value.int
 IntKind.u64
 (0 :
 Int)),
 AV.sc
 (Value.int
 IntKind.u64
 (0 :
 Int)),
 AV.sc
 (Value.int
 IntKind.u64
 (0 :
 Int)),
 AV.sc
 (Value.int
 IntKind.u64
 (0 :
 Int)),
 AV.sc
 (Value.int
 IntKind.i64
 (0 :
 Int)),
 AV.sc
 (Value.int
 IntKind.i64
 (0 :
 Int)),
 AV.sc
 (Value.int
 IntKind.i64
 (0 :
 Int)),
 AV.sl
 x
 (0 :
 Nat)]
 l ∧
 ∀
 (_ : Unit),
 True →
 LX
 [AV.sc
 (Value.string
 (ByteArray.mk
 (Array.mk
 t))),
 AV.sc
 (Value.int
 IntKind.i64
 (0 :
 Int)),
 AV.sc
 (Value.int
 IntKind.i64
 (0 :
 Int)),
 AV.sc
 (Value.int
 IntKind.i64
 (3 :
 Int)),
 AV.sc
 (Value.int
 IntKind.u64
 (0 :
 Int)),
 AV.sc
 (Value.int
 IntKind.u64
 (0 :
 Int)),
 AV.sc
 (Value.int
 IntKind.u64
 (0 :
 Int)),
 AV.sc
 (Value.int
 IntKind.u64
 (0 :
 Int)),
 AV.sc
 (Value.int
 IntKind.i64
 (0 :
 Int)),
 AV.sc
 (Value.int
 IntKind.i64
 (0 :
 Int)),
 AV.sc
 (Value.int
 IntKind.i64
 (0 :
 Int)),
 AV.sl
 x
 (0 :
 Nat)]
 l ∧
 ∀
 (_ : Unit),
 True →
 loopAt
 Tryz.prog
 (3 :
 Nat)
 (21 :
 Nat) =
 loopAt
 Tryz.prog
 (3 :
 Nat)
 (21 :
 Nat) ∧
 (I21
 [AV.sc
 (Value.string
 (ByteArray.mk
 (Array.mk
 t))),
 AV.sc
 (Value.int
 IntKind.i64
 (0 :
 Int)),
 AV.sc
 (Value.int
 IntKind.i64
 (0 :
 Int)),
 AV.sc
 (Value.int
 IntKind.i64
 (3 :
 Int)),
 AV.sc
 (Value.int
 IntKind.u64
 (0 :
 Int)),
 AV.sc
 (Value.int
 IntKind.u64
 (0 :
 Int)),
 AV.sc
 (Value.int
 IntKind.u64
 (0 :
 Int)),
 AV.sc
 (Value.int
 IntKind.u64
 (0 :
 Int)),
 AV.sc
 (Value.int
 IntKind.i64
 (0 :
 Int)),
 AV.sc
 (Value.int
 IntKind.i64
 (0 :
 Int)),
 AV.sc
 (Value.int
 IntKind.i64
 (0 :
 Int)),
 AV.sl
 x
 (0 :
 Nat)]
 [AV.sc
 (Value.slice
 none
 (0 :
 Nat)
 (0 :
 Nat))]
 [AV.sc
 (Value.slice
 none
 (0 :
 Nat)
 (0 :
 Nat))]
 t
 s
 false
 (0 :
 Int)
 (Heap.mk
 (1 :
 Nat)
 Tr.leaf
 (0 :
 Nat)
 Tr.leaf) =
 I21
 [AV.sc
 (Value.string
 (ByteArray.mk
 (Array.mk
 t))),
 AV.sc
 (Value.int
 IntKind.i64
 (0 :
 Int)),
 AV.sc
 (Value.int
 IntKind.i64
 (0 :
 Int)),
 AV.sc
 (Value.int
 IntKind.i64
 (3 :
 Int)),
 AV.sc
 (Value.int
 IntKind.u64
 (0 :
 Int)),
 AV.sc
 (Value.int
 IntKind.u64
 (0 :
 Int)),
 AV.sc
 (Value.int
 IntKind.u64
 (0 :
 Int)),
 AV.sc
 (Value.int
 IntKind.u64
 (0 :
 Int)),
 AV.sc
 (Value.int
 IntKind.i64
 (0 :
 Int)),
 AV.sc
 (Value.int
 IntKind.i64
 (0 :
 Int)),
 AV.sc
 (Value.int
 IntKind.i64
 (0 :
 Int)),
 AV.sl
 x
 (0 :
 Nat)]
 [AV.sc
 (Value.slice
 none
 (0 :
 Nat)
 (0 :
 Nat))]
 [AV.sc
 (Value.slice
 none
 (0 :
 Nat)
 (0 :
 Nat))]
 t
 s
 false
 (0 :
 Int)
 (Heap.mk
 (1 :
 Nat)
 Tr.leaf
 (0 :
 Nat)
 Tr.leaf) ∧
 PreF
 t
 s
 false
 [AV.sc
 (Value.string
 (ByteArray.mk
 (Array.mk
 t))),
 AV.sc
 (Value.int
 IntKind.i64
 (0 :
 Int)),
 AV.sc
 (Value.int
 IntKind.i64
 (0 :
 Int)),
 AV.sc
 (Value.int
 IntKind.i64
 (3 :
 Int)),
 AV.sc
 (Value.int
 IntKind.u64
 (0 :
 Int)),
 AV.sc
 (Value.int
 IntKind.u64
 (0 :
 Int)),
 AV.sc
 (Value.int
 IntKind.u64
 (0 :
 Int)),
 AV.sc
 (Value.int
 IntKind.u64
 (0 :
 Int)),
 AV.sc
 (Value.int
 IntKind.i64
 (0 :
 Int)),
 AV.sc
 (Value.int
 IntKind.i64
 (0 :
 Int)),
 AV.sc
 (Value.int
 IntKind.i64
 (0 :
 Int)),
 AV.sl
 x
 (0 :
 Nat)]
 [AV.sc
 (Value.slice
 none
 (0 :
 Nat)
 (0 :
 Nat))]
 [AV.sc
 (Value.slice
 none
 (0 :
 Nat)
 (0 :
 Nat))]) ∧
 ∀
 (_ : Unit),
 True →
 True ∧
 ∀
 (_ : Unit),
 True →
 K
 (AV.sc
 (Value.bool
 true)))
 False)
 False)
 False)
 False)
 False)
 False)
 False)
 False)
 False)
 False)
 False)
 False)
 False)
 False)
 False)
 False)
 False)))
 (True ∧ ∀ (_ : Unit), True → K (AV.sc (Value.bool true)))) :
 (fun (t s : List UInt8) (e : Bool) (K : AV → Prop) => wpCall TL cfg Tryz.prog 200 3 [aStr t, aStr s, bA e] heap0 fun r _ => K r) t s e K :=
 Eq.mp (by kernel_rfl) h
end
end Go.Proofs.Rl
namespace Go.Proofs.Rl
open Go Go.Ef
noncomputable section
set_option maxRecDepth 100000
theorem it_of {q : Bool} {A B : Prop} (h : q = true → A) (k : q = false → B) : iteP q A B := by
 cases q with
 | true => exact h rfl
 | false => exact k rfl
theorem al_iff {b : UInt8} : isAl b = true ↔ (97 ≤ b.toNat ∧ b.toNat ≤ 122) ∨ ((65 ≤ b.toNat ∧ b.toNat ≤ 90) ∨ (48 ≤ b.toNat ∧ b.toNat ≤ 57)) := by
 unfold isAl
 simp only [Bool.or_eq_true, Bool.and_eq_true, Nat.ble_eq]
theorem at_nat {s : List UInt8} {i : Nat} (h : i < s.length) : byteAt s (i : Int) = (s[i].toNat : Int) := by
 unfold byteAt
 rw [Int.toNat_natCast, List.getElem?_eq_getElem h]; rfl
theorem tidy4 : cfg.tidy 4 3 = some ⟨[0, 3], [0, 2], 0⟩ := by kernel_rfl
theorem first4 : firstId 8 (loopAt Tryz.prog 4 3) = 3 := by kernel_rfl
theorem can4 (t : List UInt8) (i : Int) : (I4 t i heapF).tidy [0, 3] 0 = I4 t i heapF := by kernel_rfl
theorem loop4 {t : List UInt8} (hl : t.length ≤ 9223372036854775807) : ∀ (n i : Nat), i + n = t.length → Ev cfg Tryz.prog 4 (.loop (loopAt Tryz.prog 4 3)) (I4 t i heapF) fun ex τ => (ex = .exit 0 ∧ τ = E4 t heapF ∧ (t.drop i).all isAl = true) ∨ (ex = .ret ∧ τ = R4 t heapF ∧ (t.drop i).all isAl = false) := by
 intro n
 induction n with
 | zero =>
  intro i hi
  have e : (t.drop i).all isAl = true := by rw [List.drop_eq_nil_of_le (by omega)]; rfl
  refine Ev.round tab0_ok first4 tidy4 (can4 t i) (r4 t i (fun _ => False) True False (ie (df (by omega)) ⟨rfl, rfl, trivial⟩)) (fun τ hq => hq.2.elim) (fun ex τ he => ?_)
  unfold e4 at he
  split at he
  ·obtain ⟨h1, h2, _⟩ := he
   exact .inl ⟨by rw [h1], h2, e⟩
  ·exact he.2.elim
  ·exact he.elim
 | succ n ih =>
  intro i hi
  have hlt : i < t.length := by omega
  have hd : (t.drop i).all isAl = (isAl t[i] && (t.drop (i + 1)).all isAl) := by rw [List.drop_eq_getElem_cons hlt, List.all_cons]
  refine Ev.round tab0_ok first4 tidy4 (can4 t i) (r4 t i (fun i' => i' = ((i + 1 : Nat) : Int) ∧ isAl t[i] = true) False (isAl t[i] = false) ?_) (fun τ hq => ?_) (fun ex τ he => ?_)
  ·rw [at_nat hlt, show IntKind.i64.wrap ((i : Int) + 1) = ((i + 1 : Nat) : Int) by rw [wrap_in (by omega) (by omega)]; omega]
   refine it (dt (by omega)) (it (by rw [inRange_iff]; omega) ?_)
   have no : ¬((97 ≤ t[i].toNat ∧ t[i].toNat ≤ 122) ∨ ((65 ≤ t[i].toNat ∧ t[i].toNat ≤ 90) ∨ (48 ≤ t[i].toNat ∧ t[i].toNat ≤ 57))) → isAl t[i] = false := fun h => by
    cases hq : isAl t[i] with
    | false => rfl
    | true => exact absurd (al_iff.1 hq) h
   repeat' (refine it_of (fun h => ?_) (fun h => ?_))
   all_goals refine And.intro rfl ?_
   all_goals simp only [decide_eq_true_eq, decide_eq_false_iff_not] at *
   all_goals first
    | exact no (by omega)
    | exact al_iff.2 (by omega)
    | exact ⟨rfl, al_iff.2 (by omega)⟩
    | exact ⟨trivial, al_iff.2 (by omega)⟩
  ·obtain ⟨h1, h2, h3⟩ := hq
   rw [h1, h2, hd, h3, Bool.true_and]
   exact ih (i + 1) (by omega)
  ·unfold e4 at he
   split at he
   ·exact he.2.2.elim
   ·exact .inr ⟨rfl, he.1, by rw [hd, he.2]; rfl⟩
   ·exact he.elim
theorem okT4 : Ok T4 := by
 refine addL_ok tab0_ok fun σ z hs hp => ?_
 cases hs
 obtain ⟨h1, h2⟩ := hp
 have E := loop4 (t := slS σ 0) h2.le (slS σ 0).length 0 (by omega)
 obtain ⟨m, ex, τ, e, hk⟩ := Ev.tidied (t := ⟨[0, 3], [0, 2], 0⟩) (by rw [first4]; exact tidy4) (h1.trans (can4 _ _).symm) E
 rcases hk with ⟨rfl, rfl, h3⟩ | ⟨rfl, rfl, h3⟩
 ·exact ⟨_, List.mem_cons_self .., (), ⟨h3⟩, m, e⟩
 ·exact ⟨_, List.mem_cons_of_mem _ (List.mem_singleton.2 rfl), (), ⟨h3⟩, m, e⟩
theorem wp4 {t : List UInt8} (hl : Sm t) : wpCall T4 cfg Tryz.prog 100 4 [aStr t] heapF fun r h' => wpBack h' r fun y => y = bA (plainB t) := by
 refine v4 t _ ⟨rfl, ⟨rfl, hl⟩, fun _ h => ?_, fun _ h => ?_⟩
 ·have h := h.is
  unfold plainB
  rw [h, Bool.true_and]
  refine it_of (fun h1 => ?_) (fun h1 => by rw [h1]; rfl)
  rw [h1, Bool.true_and]
  exact it_of (fun h2 => by rw [h2]; rfl) (fun h2 => by rw [h2]; rfl)
 ·have h := h.is
  unfold plainB
  rw [h]; rfl
theorem ok4 {T : Tab} (O : Ok T) : Ok (T.addC 4 C4) := by
 refine addC_ok O fun args h z hs hp => ?_
 unfold C4 at hs
 split at hs
 ·rename_i t
  cases hs
  obtain ⟨m, e⟩ := fresh_okW (T := T4) okT4 (n := 100) (g := 4) (args := [aStr t]) (h := h) (v := bA (plainB t)) (by kernel_rfl) rfl rfl (wp4 hp)
  exact ⟨_, List.mem_singleton.2 rfl, (), m, trivial, e⟩
 ·cases hs
end
end Go.Proofs.Rl
namespace Go.Proofs.Rl
open Go Go.Ef
noncomputable section
set_option maxRecDepth 100000
theorem dbl {n : Nat} {a : List UInt8} {P : List UInt8 → Prop} (h : a.length = n) (hn : n ≤ 131072) (k : ∀ l, l.length = n + n → P l) : iteP (strFits a a) (∀ l, l = a ++ a → P l) False := by
 refine it (by rw [strFits_iff, h]; omega) fun l hl => k l ?_
 rw [hl, List.length_append, h]
theorem dbl17 {P : List UInt8 → Prop} (k : ∀ l, l.length = 131072 → P l) : iteP (strFits [(97 : UInt8)] [(97 : UInt8)]) (∀ (l1 : List UInt8), l1 = [(97 : UInt8)] ++ [(97 : UInt8)] → iteP (strFits l1 l1) (∀ (l2 : List UInt8), l2 = l1 ++ l1 → iteP (strFits l2 l2) (∀ (l3 : List UInt8), l3 = l2 ++ l2 → iteP (strFits l3 l3) (∀ (l4 : List UInt8), l4 = l3 ++ l3 → iteP (strFits l4 l4) (∀ (l5 : List UInt8), l5 = l4 ++ l4 → iteP (strFits l5 l5) (∀ (l6 : List UInt8), l6 = l5 ++ l5 → iteP (strFits l6 l6) (∀ (l7 : List UInt8), l7 = l6 ++ l6 → iteP (strFits l7 l7) (∀ (l8 : List UInt8), l8 = l7 ++ l7 → iteP (strFits l8 l8) (∀ (l9 : List UInt8), l9 = l8 ++ l8 → iteP (strFits l9 l9) (∀ (l10 : List UInt8), l10 = l9 ++ l9 → iteP (strFits l10 l10) (∀ (l11 : List UInt8), l11 = l10 ++ l10 → iteP (strFits l11 l11) (∀ (l12 : List UInt8), l12 = l11 ++ l11 → iteP (strFits l12 l12) (∀ (l13 : List UInt8), l13 = l12 ++ l12 → iteP (strFits l13 l13) (∀ (l14 : List UInt8), l14 = l13 ++ l13 → iteP (strFits l14 l14) (∀ (l15 : List UInt8), l15 = l14 ++ l14 → iteP (strFits l15 l15) (∀ (l16 : List UInt8), l16 = l15 ++ l15 → iteP (strFits l16 l16) (∀ (l17 : List UInt8), l17 = l16 ++ l16 → P l17) False) False) False) False) False) False) False) False) False) False) False) False) False) False) False) False) False := by
 refine dbl (rfl : [(97 : UInt8)].length = 1) (by decide) fun l1 h1 => ?_
 refine dbl h1 (by decide) fun l2 h2 => ?_
 refine dbl h2 (by decide) fun l3 h3 => ?_
 refine dbl h3 (by decide) fun l4 h4 => ?_
 refine dbl h4 (by decide) fun l5 h5 => ?_
 refine dbl h5 (by decide) fun l6 h6 => ?_
 refine dbl h6 (by decide) fun l7 h7 => ?_
 refine dbl h7 (by decide) fun l8 h8 => ?_
 refine dbl h8 (by decide) fun l9 h9 => ?_
 refine dbl h9 (by decide) fun l10 h10 => ?_
 refine dbl h10 (by decide) fun l11 h11 => ?_
 refine dbl h11 (by decide) fun l12 h12 => ?_
 refine dbl h12 (by decide) fun l13 h13 => ?_
 refine dbl h13 (by decide) fun l14 h14 => ?_
 refine dbl h14 (by decide) fun l15 h15 => ?_
 refine dbl h15 (by decide) fun l16 h16 => ?_
 refine dbl h16 (by decide) fun l17 h17 => ?_
 exact k l17 h17
theorem cut_occ {t s : List UInt8} {i : Nat} (h : i + t.length ≤ s.length) : decide (cutL s i ((i + t.length : Nat) : Int) = t) = occ t s i := by
 unfold cutL occ
 rw [Int.toNat_natCast, Int.toNat_natCast, decide_eq_true h, Bool.true_and, List.drop_take, Nat.add_sub_cancel_left]
 by_cases e : (s.drop i).take t.length = t
 ·rw [e, decide_eq_true rfl]; simp
 ·rw [decide_eq_false e]
  symm
  simpa using e
theorem tidy21 : cfg.tidy 3 21 = some ⟨[0, 1, 11, 12, 21], [6, 12], 3⟩ := by kernel_rfl
theorem first21 : firstId 8 (loopAt Tryz.prog 3 21) = 21 := by kernel_rfl
def rdN (c0 : List AV) (t s : List UInt8) (i : Int) (N : Int → Prop) (X : Prop) (Y : Bool → Prop) : Prop :=
 iteP (decide (IntKind.i64.wrap (i + (↑t.length : Int)) ≤ (↑s.length : Int))) (iteP (decide ((0 : Int) ≤ i) && (decide (i ≤ IntKind.i64.wrap (i + (↑t.length : Int))) && decide (IntKind.i64.wrap (i + (↑t.length : Int)) ≤ (↑s.length : Int)))) (iteP (decide (cutL s i (IntKind.i64.wrap (i + (↑t.length : Int))) = t)) (R21 c0 [nilA] [nilA] false false heap0 = R21 c0 [nilA] [nilA] false false heap0 ∧ Y false)
  (I21 c0 [nilA] [nilA] t s false (IntKind.i64.wrap (i + (1 : Int))) heap0 = I21 c0 [nilA] [nilA] t s false (IntKind.i64.wrap (i + (1 : Int))) heap0 ∧ N (IntKind.i64.wrap (i + (1 : Int))))) False) ((2 : Nat) = (2 : Nat) ∧ E21 c0 [nilA] [nilA] false heap0 = E21 c0 [nilA] [nilA] false heap0 ∧ X)
def rdY (c0 : List AV) (p q : Int) (t s : List UInt8) (i : Int) (N : Int → Prop) (X : Prop) (Y : Bool → Prop) : Prop :=
 iteP (decide (IntKind.i64.wrap (i + (↑t.length : Int)) ≤ (↑s.length : Int))) (iteP (decide ((0 : Int) ≤ i) && (decide (i ≤ IntKind.i64.wrap (i + (↑t.length : Int))) && decide (IntKind.i64.wrap (i + (↑t.length : Int)) ≤ (↑s.length : Int)))) (iteP (decide (cutL s i (IntKind.i64.wrap (i + (↑t.length : Int))) = t)) (some [iA p, iA q] = some [iA p, iA q] ∧ iteP (decide (p = i) && (decide (q = IntKind.i64.wrap (i + (↑t.length : Int))) && true)) (True ∧ ∀ (_ : Unit), True → R21 c0 [.sl [[iA p, iA q]] 0] [nilA] true true heap0 = R21 c0 [.sl [[iA p, iA q]] 0] [nilA] true true heap0 ∧ Y true) (R21 c0 [.sl [[iA p, iA q]] 0] [nilA] true false heap0 = R21 c0 [.sl [[iA p, iA q]] 0] [nilA] true false heap0 ∧ Y false))
  (I21 c0 [.sl [[iA p, iA q]] 0] [nilA] t s true (IntKind.i64.wrap (i + (1 : Int))) heap0 = I21 c0 [.sl [[iA p, iA q]] 0] [nilA] t s true (IntKind.i64.wrap (i + (1 : Int))) heap0 ∧ N (IntKind.i64.wrap (i + (1 : Int))))) False) ((2 : Nat) = (2 : Nat) ∧ E21 c0 [.sl [[iA p, iA q]] 0] [nilA] true heap0 = E21 c0 [.sl [[iA p, iA q]] 0] [nilA] true heap0 ∧ X)
def RdN (c0 : List AV) (t s : List UInt8) : Prop := ∀ (i : Int) (N : Int → Prop) (X : Prop) (Y : Bool → Prop), rdN c0 t s i N X Y → wpRound TLr cfg Tryz.prog 100 3 21 (I21 c0 [nilA] [nilA] t s false i heap0) (fun τ => τ = I21 c0 [nilA] [nilA] t s false (slI τ 21) heap0 ∧ N (slI τ 21)) (e21 c0 [nilA] [nilA] false heap0 X Y)
def RdY (c0 : List AV) (p q : Int) (t s : List UInt8) : Prop := ∀ (i : Int) (N : Int → Prop) (X : Prop) (Y : Bool → Prop), rdY c0 p q t s i N X Y → wpRound TLr cfg Tryz.prog 100 3 21 (I21 c0 [.sl [[iA p, iA q]] 0] [nilA] t s true i heap0) (fun τ => τ = I21 c0 [.sl [[iA p, iA q]] 0] [nilA] t s true (slI τ 21) heap0 ∧ N (slI τ 21)) (e21 c0 [.sl [[iA p, iA q]] 0] [nilA] true heap0 X Y)
theorem rdNA (f a b c d : Int) (t s : List UInt8) : RdN (xA t f a b c d) t s := fun i N X Y h => r21An f a b c d t s i N X Y h
theorem rdNB (f : Int) (els : List (List AV)) (t s : List UInt8) : RdN (xB t f els) t s := fun i N X Y h => r21Bn f els t s i N X Y h
theorem rdYA (f a b c d p q : Int) (t s : List UInt8) : RdY (xA t f a b c d) p q t s := fun i N X Y h => r21Ay f a b c d p q t s i N X Y h
theorem rdYB (f : Int) (els : List (List AV)) (p q : Int) (t s : List UInt8) : RdY (xB t f els) p q t s := fun i N X Y h => r21By f p q els t s i N X Y h
theorem can21 (c0 c1 c2 : List AV) (t s : List UInt8) (fd : Bool) (i : Int) (g : Heap) : (I21 c0 c1 c2 t s fd i g).tidy [0, 1, 11, 12, 21] 3 = I21 c0 c1 c2 t s fd i g := by kernel_rfl
section
variable {c0 : List AV} {t s : List UInt8}
theorem loopN (O : Ok TLr) (hr : RdN c0 t s) (h1 : t.length ≤ 20) (h2 : s.length ≤ 60) : ∀ (n i : Nat), i + n + t.length = s.length + 1 ∨ (n = 0 ∧ s.length < i + t.length ∧ i ≤ 100) → frst t s n i = none → Ev cfg Tryz.prog 3 (.loop (loopAt Tryz.prog 3 21)) (I21 c0 [nilA] [nilA] t s false i heap0) fun ex τ => ex = .exit 2 ∧ τ = E21 c0 [nilA] [nilA] false heap0 := by
 intro n
 induction n with
 | zero =>
  intro i hi _
  have hw : IntKind.i64.wrap ((i : Int) + (t.length : Int)) = ((i + t.length : Nat) : Int) := by rw [wrap_in (by omega) (by omega)]; omega
  refine Ev.round O first21 tidy21 (can21 _ _ _ _ _ _ _ _) (hr i (fun _ => False) True (fun _ => False) ?_) (fun τ hq => hq.2.elim) (fun ex τ he => ?_)
  ·unfold rdN
   rw [hw]
   exact ie (df (by omega)) ⟨rfl, rfl, trivial⟩
  ·unfold e21 at he
   split at he
   ·exact ⟨by rw [he.1], he.2.1⟩
   ·exact he.2.elim
   ·exact he.elim
 | succ n ih =>
  intro i hi hf
  have hi : i + (n + 1) + t.length = s.length + 1 := by omega
  have hw : IntKind.i64.wrap ((i : Int) + (t.length : Int)) = ((i + t.length : Nat) : Int) := by rw [wrap_in (by omega) (by omega)]; omega
  have hw1 : IntKind.i64.wrap ((i : Int) + 1) = ((i + 1 : Nat) : Int) := by rw [wrap_in (by omega) (by omega)]; omega
  rw [frst] at hf
  have ho : occ t s i = false := by
   cases ho : occ t s i with
   | false => rfl
   | true => rw [ho] at hf; cases hf
  rw [ho] at hf
  have hf : frst t s n (i + 1) = none := hf
  refine Ev.round O first21 tidy21 (can21 _ _ _ _ _ _ _ _) (hr i (fun i' => i' = ((i + 1 : Nat) : Int)) False (fun _ => False) ?_) (fun τ hq => ?_) (fun ex τ he => ?_)
  ·unfold rdN
   rw [hw, hw1, cut_occ (by omega), ho]
   refine it (dt (by omega)) (it ?_ (ie rfl ⟨rfl, rfl⟩))
   rw [decide_eq_true (by omega), decide_eq_true (by omega), decide_eq_true (by omega)]; rfl
  ·obtain ⟨q1, q2⟩ := hq
   rw [q1, q2]
   exact ih (i + 1) (by omega) hf
  ·unfold e21 at he
   split at he
   ·exact he.2.2.elim
   ·exact he.2.elim
   ·exact he.elim
theorem loopY {k : Nat} (O : Ok TLr) (hr : RdY c0 (k : Int) ((k : Int) + t.length) t s) (h1 : t.length ≤ 20) (h2 : s.length ≤ 60) : ∀ (n i : Nat), i + n + t.length = s.length + 1 ∨ (n = 0 ∧ s.length < i + t.length ∧ i ≤ 100) → frst t s n i = some k → Ev cfg Tryz.prog 3 (.loop (loopAt Tryz.prog 3 21)) (I21 c0 [.sl [[iA k, iA (k + t.length)]] 0] [nilA] t s true i heap0) fun ex τ => ex = .ret ∧ τ = R21 c0 [.sl [[iA k, iA (k + t.length)]] 0] [nilA] true true heap0 := by
 intro n
 induction n with
 | zero => intro i _ h; cases h
 | succ n ih =>
  intro i hi hf
  have hi : i + (n + 1) + t.length = s.length + 1 := by omega
  have hw : IntKind.i64.wrap ((i : Int) + (t.length : Int)) = ((i + t.length : Nat) : Int) := by rw [wrap_in (by omega) (by omega)]; omega
  have hw1 : IntKind.i64.wrap ((i : Int) + 1) = ((i + 1 : Nat) : Int) := by rw [wrap_in (by omega) (by omega)]; omega
  rw [frst] at hf
  refine Ev.round O first21 tidy21 (can21 _ _ _ _ _ _ _ _) (hr i (fun i' => i' = ((i + 1 : Nat) : Int) ∧ occ t s i = false) False (fun y => y = true) ?_) (fun τ hq => ?_) (fun ex τ he => ?_)
  ·unfold rdY
   rw [hw, hw1, cut_occ (by omega)]
   refine it (dt (by omega)) (it ?_ (it_of (fun ho => ?_) (fun ho => ⟨rfl, rfl, ho⟩)))
   ·rw [decide_eq_true (by omega), decide_eq_true (by omega), decide_eq_true (by omega)]; rfl
   ·rw [ho] at hf
    obtain rfl : i = k := by have := hf; simp at this; exact this
    refine ⟨rfl, it ?_ ⟨trivial, fun _ _ => ⟨rfl, rfl⟩⟩⟩
    rw [decide_eq_true rfl, decide_eq_true (by omega)]; rfl
  ·obtain ⟨q1, q2, q3⟩ := hq
   rw [q3] at hf
   rw [q1, q2]
   exact ih (i + 1) (by omega) hf
  ·unfold e21 at he
   split at he
   ·exact he.2.2.elim
   ·exact ⟨rfl, by rw [he.1, he.2]⟩
   ·exact he.elim
end
end
end Go.Proofs.Rl
namespace Go.Proofs.Rl
open Go Go.Ef
noncomputable section
def locO : List (List AV) := (List.range 256).map fun (i : Nat) => [iA (i : Int)]
def locL : List UInt8 := (List.range 256).map fun i => UInt8.ofNat (bif Nat.ble 65 i && Nat.ble i 90 then i + 32 else i)
def locU : List UInt8 := (List.range 256).map fun i => UInt8.ofNat (bif Nat.ble 97 i && Nat.ble i 122 then i - 32 else i)
def locA : AV := locV [112, 111, 115, 105, 120] locO locL locU
def pat1 : List UInt8 := [40, 97, 124, 97, 98, 41, 40, 99, 124, 98, 99, 100, 41, 40, 100, 42, 41]
def pat2 : List UInt8 := [97, 42]
def pat3 : List UInt8 := [44, 32, 42]
def ansN (n g : Nat) (args : List AV) (v : AV) : Bool := match mapO (stripA 8) args with
 | some args' => match evCall cfg Tryz.prog n g args' heapF with
  | some (r, h') => match strip 8 h' r with
   | some y => eqA 20 y v
   | none => false
  | none => false
 | none => false
theorem ansN_ok {n g : Nat} {args : List AV} {v : AV} (h : ansN n g args v = true) (hf : cfg.fresh g = true) (hp : cfg.prim g = none) (H : Heap) : callP cfg (evCall cfg Tryz.prog n) g args H = some (v, H) := by
 unfold ansN at h
 revert h
 generalize evCall cfg Tryz.prog n = call
 intro h
 split at h
 ·rename_i a ha
  split at h
  ·rename_i r h' hr
   split at h
   ·rename_i y hy
    have e := eqA_ok _ _ _ h
    subst e
    unfold callP
    rw [hp]; simp only []; rw [hf]; simp only [cond_true]; rw [ha]; simp only []; rw [hr]; simp only []; rw [hy]
   ·cases h
  ·cases h
 ·cases h
end
end Go.Proofs.Rl
namespace Go.Proofs.Rl
open Go Go.Ef
noncomputable section
def x1V : List AV :=
 [AV.sc
 (Value.string
 (ByteArray.mk
 (Array.mk
 [(40 : UInt8), (97 : UInt8), (124 : UInt8), (97 : UInt8), (98 : UInt8), (41 : UInt8), (40 : UInt8),
 (99 : UInt8), (124 : UInt8), (98 : UInt8), (99 : UInt8), (100 : UInt8), (41 : UInt8), (40 : UInt8),
 (100 : UInt8), (42 : UInt8), (41 : UInt8)]))),
 AV.sc (Value.int IntKind.i64 (1 : Int)), AV.sc (Value.int IntKind.i64 (3 : Int)),
 AV.sc (Value.int IntKind.i64 (3 : Int)), AV.sc (Value.int IntKind.u64 (0 : Int)),
 AV.sc (Value.int IntKind.u64 (0 : Int)), AV.sc (Value.int IntKind.u64 (0 : Int)),
 AV.sc (Value.int IntKind.u64 (0 : Int)), AV.sc (Value.int IntKind.i64 (0 : Int)),
 AV.sc (Value.int IntKind.i64 (0 : Int)), AV.sc (Value.int IntKind.i64 (0 : Int)),
 AV.sl
 [[AV.sc (Value.int IntKind.i64 (6 : Int)), AV.sc (Value.int IntKind.u64 (0 : Int)),
 AV.sc (Value.int IntKind.u64 (0 : Int)), AV.sc (Value.int IntKind.u64 (0 : Int)),
 AV.sc (Value.int IntKind.u64 (0 : Int)), AV.sc (Value.int IntKind.i64 (0 : Int)),
 AV.sc (Value.int IntKind.i64 (0 : Int)), AV.sc (Value.int IntKind.i64 (1 : Int)),
 AV.sl
 [[AV.sc (Value.int IntKind.i64 (4 : Int)), AV.sc (Value.int IntKind.u64 (0 : Int)),
 AV.sc (Value.int IntKind.u64 (0 : Int)), AV.sc (Value.int IntKind.u64 (0 : Int)),
 AV.sc (Value.int IntKind.u64 (0 : Int)), AV.sc (Value.int IntKind.i64 (0 : Int)),
 AV.sc (Value.int IntKind.i64 (0 : Int)), AV.sc (Value.int IntKind.i64 (0 : Int)),
 AV.sl
 [[AV.sc (Value.int IntKind.i64 (2 : Int)), AV.sc (Value.int IntKind.u64 (0 : Int)),
 AV.sc (Value.int IntKind.u64 (8589934592 : Int)), AV.sc (Value.int IntKind.u64 (0 : Int)),
 AV.sc (Value.int IntKind.u64 (0 : Int)), AV.sc (Value.int IntKind.i64 (0 : Int)),
 AV.sc (Value.int IntKind.i64 (0 : Int)), AV.sc (Value.int IntKind.i64 (0 : Int)),
 AV.sc (Value.slice none (0 : Nat) (0 : Nat))],
 [AV.sc (Value.int IntKind.i64 (3 : Int)), AV.sc (Value.int IntKind.u64 (0 : Int)),
 AV.sc (Value.int IntKind.u64 (0 : Int)), AV.sc (Value.int IntKind.u64 (0 : Int)),
 AV.sc (Value.int IntKind.u64 (0 : Int)), AV.sc (Value.int IntKind.i64 (0 : Int)),
 AV.sc (Value.int IntKind.i64 (0 : Int)), AV.sc (Value.int IntKind.i64 (0 : Int)),
 AV.sl
 [[AV.sc (Value.int IntKind.i64 (2 : Int)), AV.sc (Value.int IntKind.u64 (0 : Int)),
 AV.sc (Value.int IntKind.u64 (8589934592 : Int)),
 AV.sc (Value.int IntKind.u64 (0 : Int)), AV.sc (Value.int IntKind.u64 (0 : Int)),
 AV.sc (Value.int IntKind.i64 (0 : Int)), AV.sc (Value.int IntKind.i64 (0 : Int)),
 AV.sc (Value.int IntKind.i64 (0 : Int)),
 AV.sc (Value.slice none (0 : Nat) (0 : Nat))],
 [AV.sc (Value.int IntKind.i64 (2 : Int)), AV.sc (Value.int IntKind.u64 (0 : Int)),
 AV.sc (Value.int IntKind.u64 (17179869184 : Int)),
 AV.sc (Value.int IntKind.u64 (0 : Int)), AV.sc (Value.int IntKind.u64 (0 : Int)),
 AV.sc (Value.int IntKind.i64 (0 : Int)), AV.sc (Value.int IntKind.i64 (0 : Int)),
 AV.sc (Value.int IntKind.i64 (0 : Int)),
 AV.sc (Value.slice none (0 : Nat) (0 : Nat))]]
 (0 : Nat)]]
 (0 : Nat)]]
 (0 : Nat)],
 [AV.sc (Value.int IntKind.i64 (6 : Int)), AV.sc (Value.int IntKind.u64 (0 : Int)),
 AV.sc (Value.int IntKind.u64 (0 : Int)), AV.sc (Value.int IntKind.u64 (0 : Int)),
 AV.sc (Value.int IntKind.u64 (0 : Int)), AV.sc (Value.int IntKind.i64 (0 : Int)),
 AV.sc (Value.int IntKind.i64 (0 : Int)), AV.sc (Value.int IntKind.i64 (2 : Int)),
 AV.sl
 [[AV.sc (Value.int IntKind.i64 (4 : Int)), AV.sc (Value.int IntKind.u64 (0 : Int)),
 AV.sc (Value.int IntKind.u64 (0 : Int)), AV.sc (Value.int IntKind.u64 (0 : Int)),
 AV.sc (Value.int IntKind.u64 (0 : Int)), AV.sc (Value.int IntKind.i64 (0 : Int)),
 AV.sc (Value.int IntKind.i64 (0 : Int)), AV.sc (Value.int IntKind.i64 (0 : Int)),
 AV.sl
 [[AV.sc (Value.int IntKind.i64 (2 : Int)), AV.sc (Value.int IntKind.u64 (0 : Int)),
 AV.sc (Value.int IntKind.u64 (34359738368 : Int)), AV.sc (Value.int IntKind.u64 (0 : Int)),
 AV.sc (Value.int IntKind.u64 (0 : Int)), AV.sc (Value.int IntKind.i64 (0 : Int)),
 AV.sc (Value.int IntKind.i64 (0 : Int)), AV.sc (Value.int IntKind.i64 (0 : Int)),
 AV.sc (Value.slice none (0 : Nat) (0 : Nat))],
 [AV.sc (Value.int IntKind.i64 (3 : Int)), AV.sc (Value.int IntKind.u64 (0 : Int)),
 AV.sc (Value.int IntKind.u64 (0 : Int)), AV.sc (Value.int IntKind.u64 (0 : Int)),
 AV.sc (Value.int IntKind.u64 (0 : Int)), AV.sc (Value.int IntKind.i64 (0 : Int)),
 AV.sc (Value.int IntKind.i64 (0 : Int)), AV.sc (Value.int IntKind.i64 (0 : Int)),
 AV.sl
 [[AV.sc (Value.int IntKind.i64 (2 : Int)), AV.sc (Value.int IntKind.u64 (0 : Int)),
 AV.sc (Value.int IntKind.u64 (17179869184 : Int)),
 AV.sc (Value.int IntKind.u64 (0 : Int)), AV.sc (Value.int IntKind.u64 (0 : Int)),
 AV.sc (Value.int IntKind.i64 (0 : Int)), AV.sc (Value.int IntKind.i64 (0 : Int)),
 AV.sc (Value.int IntKind.i64 (0 : Int)),
 AV.sc (Value.slice none (0 : Nat) (0 : Nat))],
 [AV.sc (Value.int IntKind.i64 (2 : Int)), AV.sc (Value.int IntKind.u64 (0 : Int)),
 AV.sc (Value.int IntKind.u64 (34359738368 : Int)),
 AV.sc (Value.int IntKind.u64 (0 : Int)), AV.sc (Value.int IntKind.u64 (0 : Int)),
 AV.sc (Value.int IntKind.i64 (0 : Int)), AV.sc (Value.int IntKind.i64 (0 : Int)),
 AV.sc (Value.int IntKind.i64 (0 : Int)),
 AV.sc (Value.slice none (0 : Nat) (0 : Nat))],
 [AV.sc (Value.int IntKind.i64 (2 : Int)), AV.sc (Value.int IntKind.u64 (0 : Int)),
 AV.sc (Value.int IntKind.u64 (68719476736 : Int)),
 AV.sc (Value.int IntKind.u64 (0 : Int)), AV.sc (Value.int IntKind.u64 (0 : Int)),
 AV.sc (Value.int IntKind.i64 (0 : Int)), AV.sc (Value.int IntKind.i64 (0 : Int)),
 AV.sc (Value.int IntKind.i64 (0 : Int)),
 AV.sc (Value.slice none (0 : Nat) (0 : Nat))]]
 (0 : Nat)]]
 (0 : Nat)]]
 (0 : Nat)],
 [AV.sc (Value.int IntKind.i64 (6 : Int)), AV.sc (Value.int IntKind.u64 (0 : Int)),
 AV.sc (Value.int IntKind.u64 (0 : Int)), AV.sc (Value.int IntKind.u64 (0 : Int)),
 AV.sc (Value.int IntKind.u64 (0 : Int)), AV.sc (Value.int IntKind.i64 (0 : Int)),
 AV.sc (Value.int IntKind.i64 (0 : Int)), AV.sc (Value.int IntKind.i64 (3 : Int)),
 AV.sl
 [[AV.sc (Value.int IntKind.i64 (5 : Int)), AV.sc (Value.int IntKind.u64 (0 : Int)),
 AV.sc (Value.int IntKind.u64 (0 : Int)), AV.sc (Value.int IntKind.u64 (0 : Int)),
 AV.sc (Value.int IntKind.u64 (0 : Int)), AV.sc (Value.int IntKind.i64 (0 : Int)),
 AV.sc (Value.int IntKind.i64 (-1 : Int)), AV.sc (Value.int IntKind.i64 (0 : Int)),
 AV.sl
 [[AV.sc (Value.int IntKind.i64 (2 : Int)), AV.sc (Value.int IntKind.u64 (0 : Int)),
 AV.sc (Value.int IntKind.u64 (68719476736 : Int)), AV.sc (Value.int IntKind.u64 (0 : Int)),
 AV.sc (Value.int IntKind.u64 (0 : Int)), AV.sc (Value.int IntKind.i64 (0 : Int)),
 AV.sc (Value.int IntKind.i64 (0 : Int)), AV.sc (Value.int IntKind.i64 (0 : Int)),
 AV.sc (Value.slice none (0 : Nat) (0 : Nat))]]
 (0 : Nat)]]
 (0 : Nat)]]
 (0 : Nat)]
def x2V : List AV :=
 [AV.sc (Value.string (ByteArray.mk (Array.mk [(97 : UInt8), (42 : UInt8)]))),
 AV.sc (Value.int IntKind.i64 (1 : Int)), AV.sc (Value.int IntKind.i64 (0 : Int)),
 AV.sc (Value.int IntKind.i64 (5 : Int)), AV.sc (Value.int IntKind.u64 (0 : Int)),
 AV.sc (Value.int IntKind.u64 (0 : Int)), AV.sc (Value.int IntKind.u64 (0 : Int)),
 AV.sc (Value.int IntKind.u64 (0 : Int)), AV.sc (Value.int IntKind.i64 (0 : Int)),
 AV.sc (Value.int IntKind.i64 (-1 : Int)), AV.sc (Value.int IntKind.i64 (0 : Int)),
 AV.sl
 [[AV.sc (Value.int IntKind.i64 (2 : Int)), AV.sc (Value.int IntKind.u64 (0 : Int)),
 AV.sc (Value.int IntKind.u64 (8589934592 : Int)), AV.sc (Value.int IntKind.u64 (0 : Int)),
 AV.sc (Value.int IntKind.u64 (0 : Int)), AV.sc (Value.int IntKind.i64 (0 : Int)),
 AV.sc (Value.int IntKind.i64 (0 : Int)), AV.sc (Value.int IntKind.i64 (0 : Int)),
 AV.sc (Value.slice none (0 : Nat) (0 : Nat))]]
 (0 : Nat)]
def x3V : List AV :=
 [AV.sc (Value.string (ByteArray.mk (Array.mk [(44 : UInt8), (32 : UInt8), (42 : UInt8)]))),
 AV.sc (Value.int IntKind.i64 (1 : Int)), AV.sc (Value.int IntKind.i64 (0 : Int)),
 AV.sc (Value.int IntKind.i64 (3 : Int)), AV.sc (Value.int IntKind.u64 (0 : Int)),
 AV.sc (Value.int IntKind.u64 (0 : Int)), AV.sc (Value.int IntKind.u64 (0 : Int)),
 AV.sc (Value.int IntKind.u64 (0 : Int)), AV.sc (Value.int IntKind.i64 (0 : Int)),
 AV.sc (Value.int IntKind.i64 (0 : Int)), AV.sc (Value.int IntKind.i64 (0 : Int)),
 AV.sl
 [[AV.sc (Value.int IntKind.i64 (2 : Int)), AV.sc (Value.int IntKind.u64 (17592186044416 : Int)),
 AV.sc (Value.int IntKind.u64 (0 : Int)), AV.sc (Value.int IntKind.u64 (0 : Int)),
 AV.sc (Value.int IntKind.u64 (0 : Int)), AV.sc (Value.int IntKind.i64 (0 : Int)),
 AV.sc (Value.int IntKind.i64 (0 : Int)), AV.sc (Value.int IntKind.i64 (0 : Int)),
 AV.sc (Value.slice none (0 : Nat) (0 : Nat))],
 [AV.sc (Value.int IntKind.i64 (5 : Int)), AV.sc (Value.int IntKind.u64 (0 : Int)),
 AV.sc (Value.int IntKind.u64 (0 : Int)), AV.sc (Value.int IntKind.u64 (0 : Int)),
 AV.sc (Value.int IntKind.u64 (0 : Int)), AV.sc (Value.int IntKind.i64 (0 : Int)),
 AV.sc (Value.int IntKind.i64 (-1 : Int)), AV.sc (Value.int IntKind.i64 (0 : Int)),
 AV.sl
 [[AV.sc (Value.int IntKind.i64 (2 : Int)), AV.sc (Value.int IntKind.u64 (4294967296 : Int)),
 AV.sc (Value.int IntKind.u64 (0 : Int)), AV.sc (Value.int IntKind.u64 (0 : Int)),
 AV.sc (Value.int IntKind.u64 (0 : Int)), AV.sc (Value.int IntKind.i64 (0 : Int)),
 AV.sc (Value.int IntKind.i64 (0 : Int)), AV.sc (Value.int IntKind.i64 (0 : Int)),
 AV.sc (Value.slice none (0 : Nat) (0 : Nat))]]
 (0 : Nat)]]
 (0 : Nat)]
def r30V : AV := .tup [.agg [.sl [[iA 1, iA 5], [iA 1, iA 3], [iA 3, iA 4], [iA 4, iA 5]] 0], bA true, iA 0]
def a30V : List AV := [.agg (x1V.drop 3), aStr [120, 97, 98, 99, 100], .agg [iA 1, iA 5], bA false]
def r8V : AV := .tup [.agg [.sl [[iA 1, iA 5], [iA 1, iA 3], [iA 3, iA 4], [iA 4, iA 5]] 0], bA true, iA 0]
def r9V : AV := .tup [.sl [[.sl [[iA 0, iA 0]] 0], [.sl [[iA 1, iA 3]] 0], [.sl [[iA 4, iA 4]] 0]] 0, iA 0]
def r10V : AV := .tup [.sl [[aStr [97]], [aStr [98]], [aStr []], [aStr [99]]] 0, iA 0]
end
end Go.Proofs.Rl
