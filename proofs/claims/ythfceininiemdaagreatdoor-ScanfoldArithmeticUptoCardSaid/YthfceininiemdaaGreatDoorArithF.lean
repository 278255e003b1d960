/- A part of the proof: definitions and lemmas. -/
import Derived.Test.YthfceininiemdaaGreatDoorArithA
import Derived.Test.YthfceininiemdaaGreatDoorArithB
import Derived.Test.YthfceininiemdaaGreatDoorArithC
import Derived.Test.YthfceininiemdaaGreatDoorArithD
import Derived.Test.YthfceininiemdaaGreatDoorArithE
import Derived.Lib.Mul64
namespace Go.Proofs.Sf
open Go Go.Ef
noncomputable section
def okD (a : Int) : Bool := decide (-10000000000000 ≤ a) && decide (a ≤ 10000000000000)
theorem okD_iff {a : Int} : okD a = true ↔ -10000000000000 ≤ a ∧ a ≤ 10000000000000 := by simp [okD]
def fitF (d : Int) : Option Int := if okD d = true then some d else none
def addF (a b : Int) : Option Int := fitF (a + b)
def subF (a b : Int) : Option Int := fitF (a - b)
def mulF (a b : Int) : Option Int := fitF ((a * b).tdiv 10000)
def divF (a b : Int) : Option Int := if b = 0 then none else fitF ((a * 10000).tdiv b)
def modF (a b : Int) : Option Int := if b = 0 then none else some (a.tmod b)
def powN (a : Int) : Nat → Option Int
 | 0 => some 10000
 | n + 1 => (powN a n).bind fun p => mulF p a
def powF (a n : Int) : Option Int := if -64 ≤ n ∧ n ≤ 64 then (if 0 ≤ n then powN a n.toNat else (powN a (-n).toNat).bind fun p => divF 10000 p) else none
def oAdd : List UInt8 := [43]
def oSub : List UInt8 := [45]
def oMul : List UInt8 := [42]
def oDiv : List UInt8 := [47]
def oMod : List UInt8 := [37]
def oPow : List UInt8 := [94]
def arithF (op : List UInt8) (a b : Int) : Option Int :=
 if op = oAdd then addF a b else if op = oSub then subF a b else if op = oMul then mulF a b else if op = oDiv then divF a b else if op = oMod then modF a b else if op = oPow then powF a (b.tdiv 10000) else none
theorem fitF_ok {d r : Int} (h : fitF d = some r) : r = d ∧ okD r = true := by
 unfold fitF at h
 split at h
 ·cases h; exact ⟨rfl, by assumption⟩
 ·cases h
theorem mod_ok {a b : Int} (ha : okD a = true) : okD (a.tmod b) = true := by
 rw [okD_iff] at ha ⊢
 have h : (a.tmod b).natAbs ≤ a.natAbs := by
  rw [Int.natAbs_tmod]
  exact Nat.mod_le _ _
 omega
theorem powN_ok {a : Int} : ∀ {n : Nat} {r : Int}, powN a n = some r → okD r = true := by
 intro n
 cases n with
 | zero => intro r h; cases h; rfl
 | succ n =>
  intro r h
  simp only [powN] at h
  obtain ⟨p, _, h2⟩ := Option.bind_eq_some_iff.1 h
  exact (fitF_ok h2).2
theorem powF_ok {a n r : Int} (h : powF a n = some r) : okD r = true := by
 unfold powF at h
 split at h
 ·split at h
  ·exact powN_ok h
  ·obtain ⟨p, _, h2⟩ := Option.bind_eq_some_iff.1 h
   unfold divF at h2
   split at h2
   ·cases h2
   ·exact (fitF_ok h2).2
 ·cases h
theorem arith_ok {op : List UInt8} {a b r : Int} (ha : okD a = true) (h : arithF op a b = some r) : okD r = true := by
 unfold arithF at h
 split at h
 ·exact (fitF_ok h).2
 split at h
 ·exact (fitF_ok h).2
 split at h
 ·exact (fitF_ok h).2
 split at h
 ·unfold divF at h
  split at h
  ·cases h
  ·exact (fitF_ok h).2
 split at h
 ·unfold modF at h
  split at h
  ·cases h
  ·cases h; exact mod_ok ha
 split at h
 ·exact powF_ok h
 ·cases h
theorem tdiv_abs (x : Int) : (x.tdiv 10000).natAbs = x.natAbs / 10000 := by rw [Int.natAbs_tdiv]; rfl
theorem mulF_none {a b : Int} (h : 100000000000009999 < (a * b).natAbs) : mulF a b = none := by
 unfold mulF fitF
 rw [if_neg]
 rw [okD_iff]
 have := tdiv_abs (a * b)
 omega
theorem mulF_some {a b : Int} (h : (a * b).natAbs ≤ 100000000000009999) : mulF a b = some ((a * b).tdiv 10000) := by
 unfold mulF fitF
 rw [if_pos]
 rw [okD_iff]
 have := tdiv_abs (a * b)
 omega
theorem div_words {hi lo u q1 u1 u21 : Nat} (hh : hi < 10000) (hl : lo < 18446744073709551616) (hu : u = hi * 1125899906842624 + lo / 16384) (hq : q1 = u / 2621440000) (h1 : u1 = lo % 16384 * 262144) (h21 : u21 = (u - q1 * 2621440000) * 4294967296 + u1) :
  u < 18446744073709551616 ∧ q1 < 4294967296 ∧ u21 < 11258999068426240000 ∧ u21 / 2621440000 < 4294967296 ∧ q1 * 4294967296 + u21 / 2621440000 = (hi * 18446744073709551616 + lo) / 10000 := by
 refine ⟨by omega, by omega, by omega, by omega, by omega⟩
end
end Go.Proofs.Sf
namespace Go.Proofs.Sf
open Go Go.Ef
noncomputable section
def iA (n : Int) : AV := .sc (.int .i64 n)
def bA (b : Bool) : AV := .sc (.bool b)
def wA (n : Int) : AV := .sc (.int .u64 n)
def numV (d : Int) : List AV := [.sc (.int .i64 1), .sc (.int .i64 d), .sc (.string ⟨⟨[]⟩⟩)]
def zeroV : List AV := [.sc (.int .i64 0), .sc (.int .i64 0), .sc (.string ⟨⟨[]⟩⟩)]
structure D1 (a : Int) : Prop where
 is : okD a = true
structure D2 (a b : Int) : Prop where
 l : okD a = true
 r : okD b = true
structure W2 (x y : Int) : Prop where
 l : 0 ≤ x ∧ x < 18446744073709551616
 r : 0 ≤ y ∧ y < 18446744073709551616
structure Wd (hi lo : Int) : Prop where
 l : 0 ≤ hi ∧ hi < 10000
 r : 0 ≤ lo ∧ lo < 18446744073709551616
structure Is (r : Option Int) (d : Int) : Prop where
 is : r = some d
structure Non (r : Option Int) (e : Int) : Prop where
 is : r = none
 ne : e ≠ 0
def decC (pre : Prop) (r : Option Int) (h : Heap) : CSpec := { pre := pre, alts := [{ α := Int, post := fun d => Is r d, val := fun d => .tup [iA d, iA 0], heap := fun _ => h }, { α := Int, post := fun e => Non r e, val := fun e => .tup [iA 0, iA e], heap := fun _ => h }] }
def valC (pre : Prop) (r : Option Int) (h : Heap) : CSpec := { pre := pre, alts := [{ α := Int, post := fun d => Is r d, val := fun d => .tup [.agg (numV d), iA 0], heap := fun _ => h }, { α := Int, post := fun e => Non r e, val := fun e => .tup [.agg zeroV, iA e], heap := fun _ => h }] }
def mayC (pre : Prop) (r : Option Int) (h : Heap) : CSpec := { pre := pre, alts := [{ α := Int, post := fun d => Is r d, val := fun d => .tup [.agg (numV d), bA true], heap := fun _ => h }, { α := Unit, post := fun _ => r = none, val := fun _ => .tup [.agg zeroV, bA false], heap := fun _ => h }] }
def CDec (F : Int → Int → Option Int) (args : List AV) (h : Heap) : Option CSpec :=
 match args with
 | [.sc (.int .i64 a), .sc (.int .i64 b)] => some (decC (D2 a b) (F a b) h)
 | _ => none
def CPow (args : List AV) (h : Heap) : Option CSpec :=
 match args with
 | [.sc (.int .i64 a), .sc (.int .i64 b)] => some (decC (D1 a) (powF a b) h)
 | _ => none
def CInt (args : List AV) (h : Heap) : Option CSpec :=
 match args with
 | [.sc (.int .i64 a)] => some (nspec (D1 a) (a.tdiv 10000) iA h)
 | _ => none
def CNum (args : List AV) (h : Heap) : Option CSpec :=
 match args with
 | [.agg [.sc (.int .i64 1), .sc (.int .i64 a), .sc (.string ⟨⟨[]⟩⟩)]] => some (fspec (D1 a) (iA a) h)
 | _ => none
def CFrom (args : List AV) (h : Heap) : Option CSpec :=
 match args with
 | [.sc (.int .i64 a)] => some (fspec (D1 a) (.agg (numV a)) h)
 | _ => none
def C352 (args : List AV) (h : Heap) : Option CSpec :=
 match args with
 | [.sc (.int .u64 x), .sc (.int .u64 y)] => some (nspec (W2 x y) (x * y) (fun p => .tup [wA (p / 18446744073709551616), wA (p % 18446744073709551616)]) h)
 | _ => none
def C354 (args : List AV) (h : Heap) : Option CSpec :=
 match args with
 | [.sc (.int .u64 hi), .sc (.int .u64 lo), .sc (.int .u64 10000)] => some { pre := Wd hi lo, alts := [{ α := Int × Int, post := fun q => q.1 = (hi * 18446744073709551616 + lo) / 10000, val := fun q => .tup [wA q.1, wA q.2], heap := fun _ => h }] }
 | _ => none
def CAr (args : List AV) (h : Heap) : Option CSpec :=
 match args with
 | [.sc (.string op), .agg [.sc (.int .i64 1), .sc (.int .i64 a), .sc (.string ⟨⟨[]⟩⟩)], .agg [.sc (.int .i64 1), .sc (.int .i64 b), .sc (.string ⟨⟨[]⟩⟩)]] => some (valC (D2 a b) (arithF op.data.toList a b) h)
 | _ => none
def cmpI (a b : Int) : Int := if a < b then -1 else if b < a then 1 else 0
def CCmp (args : List AV) (h : Heap) : Option CSpec :=
 match args with
 | [.agg [.sc (.string _), .sl _ 0, .sc (.string _), .sc (.string _), .sc (.slice none 0 0), .sc (.slice none 0 0)], .agg [.sc (.int .i64 1), .sc (.int .i64 a), .sc (.string ⟨⟨[]⟩⟩)], .agg [.sc (.int .i64 1), .sc (.int .i64 b), .sc (.string ⟨⟨[]⟩⟩)]] => some (nspec (D2 a b) (cmpI a b) iA h)
 | _ => none
def truthF (b : Bool) : Option Int := some (if b = true then 10000 else 0)
def oLt : List UInt8 := [60]
def oLe : List UInt8 := [60, 61]
def oEq : List UInt8 := [61, 61]
def oNe : List UInt8 := [33, 61]
def oGt : List UInt8 := [62]
def oGe : List UInt8 := [62, 61]
def foldF (op : List UInt8) (a b : Int) : Option Int :=
 if op = oLt then truthF (decide (a < b)) else if op = oLe then truthF (decide (a ≤ b)) else if op = oEq then truthF (decide (a = b)) else if op = oNe then truthF (decide (a ≠ b)) else
 if op = oGt then truthF (decide (b < a)) else if op = oGe then truthF (decide (b ≤ a)) else arithF op a b
def CBin (args : List AV) (h : Heap) : Option CSpec :=
 match args with
 | [.agg [.sc (.string _), .sl _ 0, .sc (.string _), .sc (.string _), .sc (.slice none 0 0), .sc (.slice none 0 0)], .sc (.string op), .agg [.sc (.int .i64 1), .sc (.int .i64 a), .sc (.string ⟨⟨[]⟩⟩)], .agg [.sc (.int .i64 1), .sc (.int .i64 b), .sc (.string ⟨⟨[]⟩⟩)]] => some (mayC (D2 a b) (foldF op.data.toList a b) h)
 | _ => none
def numN (d at_ : Int) : List AV := [.sc (.int .i64 1), .sc (.string ⟨⟨[]⟩⟩), .sc (.int .i64 d), .sc (.bool false), .sc (.slice none 0 0), .sc (.int .i64 at_)]
def binN (op : List UInt8) (A B : List AV) (at_ : Int) : List AV := [.sc (.int .i64 13), .sc (.string ⟨⟨op⟩⟩), .sc (.int .i64 0), .sc (.bool false), .sl [A, B] 0, .sc (.int .i64 at_)]
def numF (d : Int) : Option Int := if okD d = true then some d else none
def nodeF (op : List UInt8) (a b : Int) : Option Int := if okD a = true ∧ okD b = true then foldF op a b else none
def CConN (args : List AV) (h : Heap) : Option CSpec :=
 match args with
 | [.agg [.sc (.string _), .sl _ 0, .sc (.string _), .sc (.string _), .sc (.slice none 0 0), .sc (.slice none 0 0)], .agg [.sc (.int .i64 1), .sc (.string ⟨⟨[]⟩⟩), .sc (.int .i64 d), .sc (.bool false), .sc (.slice none 0 0), .sc (.int .i64 _)]] => some (mayC True (numF d) h)
 | _ => none
def CCon (args : List AV) (h : Heap) : Option CSpec :=
 match args with
 | [.agg [.sc (.string _), .sl _ 0, .sc (.string _), .sc (.string _), .sc (.slice none 0 0), .sc (.slice none 0 0)], .agg [.sc (.int .i64 1), .sc (.string ⟨⟨[]⟩⟩), .sc (.int .i64 d), .sc (.bool false), .sc (.slice none 0 0), .sc (.int .i64 _)]] => some (mayC True (numF d) h)
 | [.agg [.sc (.string _), .sl _ 0, .sc (.string _), .sc (.string _), .sc (.slice none 0 0), .sc (.slice none 0 0)], .agg [.sc (.int .i64 13), .sc (.string op), .sc (.int .i64 0), .sc (.bool false), .sl [[.sc (.int .i64 1), .sc (.string ⟨⟨[]⟩⟩), .sc (.int .i64 a), .sc (.bool false), .sc (.slice none 0 0), .sc (.int .i64 _)], [.sc (.int .i64 1), .sc (.string ⟨⟨[]⟩⟩), .sc (.int .i64 b), .sc (.bool false), .sc (.slice none 0 0), .sc (.int .i64 _)]] 0, .sc (.int .i64 _)]] => some (mayC True (nodeF op.data.toList a b) h)
 | _ => none
def CNodeN (args : List AV) (h : Heap) : Option CSpec :=
 match args with
 | [.agg [.sc (.string _), .sl _ 0, .sc (.string _), .sc (.string _), .sc (.slice none 0 0), .sc (.slice none 0 0)], .agg [.sc (.int .i64 1), .sc (.string ⟨⟨[]⟩⟩), .sc (.int .i64 d), .sc (.bool false), .sc (.slice none 0 0), .sc (.int .i64 at_)]] => some (fspec True (.agg (numN d at_)) h)
 | _ => none
def CNode (args : List AV) (h : Heap) : Option CSpec :=
 match args with
 | [.agg [.sc (.string _), .sl _ 0, .sc (.string _), .sc (.string _), .sc (.slice none 0 0), .sc (.slice none 0 0)], .agg [.sc (.int .i64 1), .sc (.string ⟨⟨[]⟩⟩), .sc (.int .i64 d), .sc (.bool false), .sc (.slice none 0 0), .sc (.int .i64 at_)]] => some (fspec True (.agg (numN d at_)) h)
 | [.agg [.sc (.string _), .sl _ 0, .sc (.string _), .sc (.string _), .sc (.slice none 0 0), .sc (.slice none 0 0)], .agg [.sc (.int .i64 13), .sc (.string op), .sc (.int .i64 0), .sc (.bool false), .sl [[.sc (.int .i64 1), .sc (.string ⟨⟨[]⟩⟩), .sc (.int .i64 a), .sc (.bool false), .sc (.slice none 0 0), .sc (.int .i64 p)], [.sc (.int .i64 1), .sc (.string ⟨⟨[]⟩⟩), .sc (.int .i64 b), .sc (.bool false), .sc (.slice none 0 0), .sc (.int .i64 q)]] 0, .sc (.int .i64 r)]] =>
  some { pre := True, alts := [{ α := Int, post := fun d => Is (nodeF op.data.toList a b) d, val := fun d => .agg (numN d r), heap := fun _ => h }, { α := Unit, post := fun _ => nodeF op.data.toList a b = none, val := fun _ => .agg (binN op.data.toList (numN a p) (numN b q) r), heap := fun _ => h }] }
 | _ => none
def CTrue (args : List AV) (h : Heap) : Option CSpec :=
 match args with
 | [] => some (fspec True (bA true) h)
 | _ => none
def locV (nm lo up : List UInt8) (W : List (List AV)) : List AV := [.sc (.string ⟨⟨nm⟩⟩), .sl W 0, .sc (.string ⟨⟨lo⟩⟩), .sc (.string ⟨⟨up⟩⟩), .sc (.slice none 0 0), .sc (.slice none 0 0)]
def CDef (args : List AV) (h : Heap) : Option CSpec :=
 match args with
 | [] => some { pre := True, alts := [{ α := List UInt8 × List UInt8 × List UInt8 × List (List AV), post := fun _ => True, val := fun q => .agg (locV q.1 q.2.1 q.2.2.1 q.2.2.2), heap := fun _ => h }] }
 | _ => none
def I18 (u v w q r : Int) : St := stOf 135 [(2, sK .u64 11258999068426240000), (8, sK .u64 50), (9, sK .u64 2621440000), (10, sK .u64 0), (11, sK .u64 u), (13, sK .u64 v), (14, sK .u64 w), (15, sK .u64 q), (16, sK .u64 r)] [] heapF
def I25 (w q r x z : Int) : St := stOf 135 [(2, sK .u64 11258999068426240000), (8, sK .u64 50), (9, sK .u64 2621440000), (10, sK .u64 0), (14, sK .u64 w), (15, sK .u64 q), (16, sK .u64 r), (17, sK .u64 x), (18, sK .u64 z)] [] heapF
structure Lt32 (q : Int) : Prop where
 lt : q < 4294967296
def L18 (σ : St) : Option LSpec := some { pre := σ.tidy [2, 8, 9, 10, 11, 13, 14, 15, 16] 0 = I18 (slI σ 11) (slI σ 13) (slI σ 14) (slI σ 15) (slI σ 16) ∧ Lt32 (slI σ 15), alts := [{ α := Unit, post := fun _ => True, ex := .exit 0, st := fun _ => I18 (slI σ 11) (slI σ 13) (slI σ 14) (slI σ 15) (slI σ 16) }] }
def L25 (σ : St) : Option LSpec := some { pre := σ.tidy [2, 8, 9, 10, 14, 15, 16, 17, 18] 0 = I25 (slI σ 14) (slI σ 15) (slI σ 16) (slI σ 17) (slI σ 18) ∧ Lt32 (slI σ 18), alts := [{ α := Unit, post := fun _ => True, ex := .exit 2, st := fun _ => I25 (slI σ 14) (slI σ 15) (slI σ 16) (slI σ 17) (slI σ 18) }] }
def q18 (u v w : Int) (X : Nat → Int → Int → Prop) (e : Ex) (τ : St) : Prop :=
 match e with
 | .exit k => τ = I18 u v w (slI τ 15) (slI τ 16) ∧ X k (slI τ 15) (slI τ 16)
 | _ => False
def q25 (w q x : Int) (X : Nat → Int → Int → Prop) (e : Ex) (τ : St) : Prop :=
 match e with
 | .exit k => τ = I25 w q (slI τ 16) x (slI τ 18) ∧ X k (slI τ 16) (slI τ 18)
 | _ => False
def TDiv : Tab := ((((((((tab0.addL 354 18 L18).addL 354 25 L25).name 354 11).name 354 13).name 354 14).name 354 15).name 354 16).name 354 17).name 354 18
def tabX : Tab := { tab0 with exact := fun _ _ => true }
def TMul : Tab := (tab0.addC 352 C352).addC 354 C354
def TPow : Tab := (tab0.addC 274 (CDec mulF)).addC 275 (CDec divF)
def TPow2 : Tab := (tab0.addC 89 (CDec mulF)).addC 90 (CDec divF)
def I277 (a n p m i : Int) : St := stOf 42 [(0, sInt a), (1, sInt n), (6, sInt p), (22, sInt m), (23, sInt i)] [] heapF
def E277 (n e p : Int) : St := stOf 42 [(1, sInt n), (4, sInt 0), (5, sInt e), (6, sInt p)] [] heapF
def X277 (n p : Int) : St := stOf 42 [(1, sInt n), (4, .unk), (5, .unk), (6, sInt p)] [] heapF
def q277 (n : Int) (X : Int → Prop) (Y : Int → Int → Prop) (e : Ex) (τ : St) : Prop :=
 match e with
 | .exit _ => e = .exit 0 ∧ τ = X277 n (slI τ 6) ∧ X (slI τ 6)
 | .ret => τ = E277 n (slI τ 5) (slI τ 6) ∧ Y (slI τ 5) (slI τ 6)
 | .normal => False
def I132 (a n p i : Int) : St := stOf 26 [(0, sInt a), (1, sInt n), (6, sInt p), (7, sInt i)] [] heapF
def E132 (e p : Int) : St := stOf 26 [(4, sInt 0), (5, sInt e), (6, sInt p)] [] heapF
def X132 (p : Int) : St := stOf 26 [(4, .unk), (5, .unk), (6, sInt p)] [] heapF
def q132 (X : Int → Prop) (Y : Int → Int → Prop) (e : Ex) (τ : St) : Prop :=
 match e with
 | .exit _ => e = .exit 0 ∧ τ = X132 (slI τ 6) ∧ X (slI τ 6)
 | .ret => τ = E132 (slI τ 5) (slI τ 6) ∧ Y (slI τ 5) (slI τ 6)
 | .normal => False
structure Pre277 (a n : Int) : Prop where
 a : okD a = true
 n : -64 ≤ n ∧ n ≤ 64
def sizeN (n : Int) : Nat := n.natAbs
structure IsMax (m n : Int) : Prop where
 is : m = (sizeN n : Int)
def L277 (σ : St) : Option LSpec := some { pre := σ.tidy [0, 1, 6, 22, 23] 0 = I277 (slI σ 0) (slI σ 1) 10000 (slI σ 22) 0 ∧ Pre277 (slI σ 0) (slI σ 1) ∧ IsMax (slI σ 22) (slI σ 1), alts := [{ α := Int, post := fun p => Is (powN (slI σ 0) (sizeN (slI σ 1))) p, ex := .exit 0, st := fun p => X277 (slI σ 1) p }, { α := Int × Int, post := fun q => Non (powN (slI σ 0) (sizeN (slI σ 1))) q.1, ex := .ret, st := fun q => E277 (slI σ 1) q.1 q.2 }] }
def L132 (σ : St) : Option LSpec := some { pre := σ.tidy [0, 1, 6, 7] 0 = I132 (slI σ 0) (slI σ 1) 10000 0 ∧ Pre277 (slI σ 0) (slI σ 1), alts := [{ α := Int, post := fun p => Is (powN (slI σ 0) (slI σ 1).toNat) p, ex := .exit 0, st := fun p => X132 p }, { α := Int × Int, post := fun q => Non (powN (slI σ 0) (slI σ 1).toNat) q.1, ex := .ret, st := fun q => E132 q.1 q.2 }] }
def TPw : Tab := TPow.addL 277 6 L277
def TPw2 : Tab := TPow2.addL 132 4 L132
structure PreP (a n : Int) : Prop where
 a : okD a = true
 n : 0 ≤ n ∧ n ≤ 64
def CPwr (args : List AV) (h : Heap) : Option CSpec :=
 match args with
 | [.sc (.int .i64 a), .sc (.int .i64 n)] => some (decC (PreP a n) (powN a n.toNat) h)
 | _ => none
def TPw3 : Tab := (tab0.addC 132 CPwr).addC 90 (CDec divF)
def TAr : Tab := (((((((((tab0.addC 128 CNum).addC 71 CFrom).addC 272 (CDec addF)).addC 273 (CDec subF)).addC 274 (CDec mulF)).addC 275 (CDec divF)).addC 276 (CDec modF)).addC 277 CPow).addC 202 CInt)
def TAr2 : Tab := (((((((((tab0.addC 62 CNum).addC 26 CFrom).addC 87 (CDec addF)).addC 88 (CDec subF)).addC 89 (CDec mulF)).addC 90 (CDec divF)).addC 91 (CDec modF)).addC 92 CPow).addC 93 CInt)
def TCmp : Tab := tab0.addC 128 CNum
def TBin : Tab := ((tab0.addC 156 CCmp).addC 207 CAr).addC 71 CFrom
def TCon : Tab := ((tabX.addC 30 CConN).addC 110 CBin).addC 71 CFrom
def TNode : Tab := (tabX.addC 30 CCon).addC 71 CFrom
def TNode2 : Tab := ((tabX.addC 30 CCon).addC 43 CNodeN).addC 71 CFrom
def CSameN (args : List AV) (h : Heap) : Option CSpec :=
 match args with
 | [.agg [.sc (.int .i64 1), .sc (.string ⟨⟨[]⟩⟩), .sc (.int .i64 d), .sc (.bool false), .sc (.slice none 0 0), .sc (.int .i64 p)], .agg [.sc (.int .i64 1), .sc (.string ⟨⟨[]⟩⟩), .sc (.int .i64 e), .sc (.bool false), .sc (.slice none 0 0), .sc (.int .i64 q)]] => some (nspec True (decide (d = e) && decide (p = q)) bA h)
 | _ => none
structure SameB (op op' : List UInt8) (a a' b b' p p' q q' r r' : Int) : Prop where
 op : op = op'
 a : a = a'
 b : b = b'
 p : p = p'
 q : q = q'
 r : r = r'
structure Never : Prop where
 f : False
def CSame (args : List AV) (h : Heap) : Option CSpec :=
 match args with
 | [.agg [.sc (.int .i64 13), .sc (.string op), .sc (.int .i64 0), .sc (.bool false), .sl [[.sc (.int .i64 1), .sc (.string ⟨⟨[]⟩⟩), .sc (.int .i64 a), .sc (.bool false), .sc (.slice none 0 0), .sc (.int .i64 p)], [.sc (.int .i64 1), .sc (.string ⟨⟨[]⟩⟩), .sc (.int .i64 b), .sc (.bool false), .sc (.slice none 0 0), .sc (.int .i64 q)]] 0, .sc (.int .i64 r)],
   .agg [.sc (.int .i64 13), .sc (.string op'), .sc (.int .i64 0), .sc (.bool false), .sl [[.sc (.int .i64 1), .sc (.string ⟨⟨[]⟩⟩), .sc (.int .i64 a'), .sc (.bool false), .sc (.slice none 0 0), .sc (.int .i64 p')], [.sc (.int .i64 1), .sc (.string ⟨⟨[]⟩⟩), .sc (.int .i64 b'), .sc (.bool false), .sc (.slice none 0 0), .sc (.int .i64 q')]] 0, .sc (.int .i64 r')]] =>
  some (fspec (SameB op.data.toList op'.data.toList a a' b b' p p' q q' r r') (bA true) h)
 | [.agg [.sc (.int .i64 1), .sc (.string ⟨⟨[]⟩⟩), .sc (.int .i64 d), .sc (.bool false), .sc (.slice none 0 0), .sc (.int .i64 p)], .agg [.sc (.int .i64 1), .sc (.string ⟨⟨[]⟩⟩), .sc (.int .i64 e), .sc (.bool false), .sc (.slice none 0 0), .sc (.int .i64 q)]] => some (nspec True (decide (d = e) && decide (p = q)) bA h)
 | _ => some { pre := Never, alts := [] }
structure Other (op : List UInt8) : Prop where
 a : ∀ x y, arithF op x y = none
 n : ∀ x y, nodeF op x y = none
def CNodeO (args : List AV) (h : Heap) : Option CSpec :=
 match args with
 | [.agg [.sc (.string _), .sl _ 0, .sc (.string _), .sc (.string _), .sc (.slice none 0 0), .sc (.slice none 0 0)], .agg [.sc (.int .i64 13), .sc (.string op), .sc (.int .i64 0), .sc (.bool false), .sl [[.sc (.int .i64 1), .sc (.string ⟨⟨[]⟩⟩), .sc (.int .i64 a), .sc (.bool false), .sc (.slice none 0 0), .sc (.int .i64 p)], [.sc (.int .i64 1), .sc (.string ⟨⟨[]⟩⟩), .sc (.int .i64 b), .sc (.bool false), .sc (.slice none 0 0), .sc (.int .i64 q)]] 0, .sc (.int .i64 r)]] =>
  some { pre := Other op.data.toList, alts := [{ α := Unit, post := fun _ => True, val := fun _ => .agg (binN op.data.toList (numN a p) (numN b q) r), heap := fun _ => h }] }
 | _ => none
def CArO (args : List AV) (h : Heap) : Option CSpec :=
 match args with
 | [.sc (.string op), .agg [.sc (.int .i64 1), .sc (.int .i64 a), .sc (.string ⟨⟨[]⟩⟩)], .agg [.sc (.int .i64 1), .sc (.int .i64 b), .sc (.string ⟨⟨[]⟩⟩)]] => some { pre := Other op.data.toList ∧ D2 a b, alts := [{ α := Int, post := fun e => Non none e, val := fun e => .tup [.agg zeroV, iA e], heap := fun _ => h }] }
 | _ => none
def TLawO : Tab := ((((((tabX.addC 43 CNodeO).addC 10 CTrue).addC 25 CArO).addC 21 CDef).addC 14 CSame)).addC 26 CFrom
def TSame : Tab := tabX.addC 14 CSameN
def TLaw : Tab := ((((((tabX.addC 43 CNode).addC 30 CCon).addC 10 CTrue).addC 25 CAr).addC 21 CDef).addC 14 CSame).addC 26 CFrom
end
end Go.Proofs.Sf
namespace Go.Proofs.Sf
open Go Go.Ef
noncomputable section
set_option maxRecDepth 100000
theorem vMul64 (x : Int) (y : Int) (K : AV → Prop) (h :
 K
 (AV.tup
 [AV.sc
 (Value.int IntKind.u64
 (IntKind.u64.wrap
 (IntKind.u64.wrap
 (IntKind.u64.wrap (x.fdiv (4294967296 : Int) * y.fdiv (4294967296 : Int)) +
 (IntKind.u64.wrap
 (IntKind.u64.wrap
 (x.fdiv (4294967296 : Int) *
 IntKind.u64.wrap
 (↑(BitVec.ofInt (64 : Nat) y &&& BitVec.ofInt (64 : Nat) (4294967295 : Int)).toNat :
 Int)) +
 (IntKind.u64.wrap
 (IntKind.u64.wrap
 (↑(BitVec.ofInt (64 : Nat) x &&& BitVec.ofInt (64 : Nat) (4294967295 : Int)).toNat :
 Int) *
 IntKind.u64.wrap
 (↑(BitVec.ofInt (64 : Nat) y &&& BitVec.ofInt (64 : Nat) (4294967295 : Int)).toNat :
 Int))).fdiv
 (4294967296 : Int))).fdiv
 (4294967296 : Int)) +
 (IntKind.u64.wrap
 (IntKind.u64.wrap
 (↑(BitVec.ofInt (64 : Nat)
 (IntKind.u64.wrap
 (IntKind.u64.wrap
 (x.fdiv (4294967296 : Int) *
 IntKind.u64.wrap
 (↑(BitVec.ofInt (64 : Nat) y &&&
 BitVec.ofInt (64 : Nat) (4294967295 : Int)).toNat :
 Int)) +
 (IntKind.u64.wrap
 (IntKind.u64.wrap
 (↑(BitVec.ofInt (64 : Nat) x &&&
 BitVec.ofInt (64 : Nat) (4294967295 : Int)).toNat :
 Int) *
 IntKind.u64.wrap
 (↑(BitVec.ofInt (64 : Nat) y &&&
 BitVec.ofInt (64 : Nat) (4294967295 : Int)).toNat :
 Int))).fdiv
 (4294967296 : Int))) &&&
 BitVec.ofInt (64 : Nat) (4294967295 : Int)).toNat :
 Int) +
 IntKind.u64.wrap
 (IntKind.u64.wrap
 (↑(BitVec.ofInt (64 : Nat) x &&& BitVec.ofInt (64 : Nat) (4294967295 : Int)).toNat : Int) *
 y.fdiv (4294967296 : Int)))).fdiv
 (4294967296 : Int)))),
 AV.sc (Value.int IntKind.u64 (IntKind.u64.wrap (x * y)))])) :
 (fun (x y : Int) (K : AV → Prop) => wpCall tab0 cfg Tryz.prog 60 352 [wA x, wA y] heapF fun r h' => wpBack h' r K) x y K :=
 Eq.mp (by kernel_rfl) h
theorem vMul (a : Int) (b : Int) (K : AV → Prop) (h :
 iteP (decide ((-10000000000000 : Int) ≤ a))
 (iteP (decide (a ≤ (10000000000000 : Int)))
 (iteP (decide ((-10000000000000 : Int) ≤ b))
 (iteP (decide (b ≤ (10000000000000 : Int)))
 (W2 (IntKind.u64.wrap (max a (IntKind.i64.wrap ((0 : Int) - a))))
 (IntKind.u64.wrap (max b (IntKind.i64.wrap ((0 : Int) - b)))) ∧
 ∀ (x : Int),
 x =
 IntKind.u64.wrap (max a (IntKind.i64.wrap ((0 : Int) - a))) *
 IntKind.u64.wrap (max b (IntKind.i64.wrap ((0 : Int) - b))) →
 iteP (decide ((10000 : Int) ≤ x / (18446744073709551616 : Int)))
 (K (AV.tup [AV.sc (Value.int IntKind.i64 (0 : Int)), AV.sc (Value.int IntKind.i64 (9 : Int))]))
 (Wd (x / (18446744073709551616 : Int)) (x % (18446744073709551616 : Int)) ∧
 ∀ (x_1 : Int × Int),
 x_1.fst =
 (x / (18446744073709551616 : Int) * (18446744073709551616 : Int) +
 x % (18446744073709551616 : Int)) /
 (10000 : Int) →
 iteP (decide ((10000000000000 : Int) < x_1.fst))
 (K (AV.tup [AV.sc (Value.int IntKind.i64 (0 : Int)), AV.sc (Value.int IntKind.i64 (9 : Int))]))
 (iteP (decide (a < (0 : Int)))
 (iteP (decide (b < (0 : Int)))
 (K
 (AV.tup
 [AV.sc (Value.int IntKind.i64 (IntKind.i64.wrap x_1.fst)),
 AV.sc (Value.int IntKind.i64 (0 : Int))]))
 (K
 (AV.tup
 [AV.sc
 (Value.int IntKind.i64 (IntKind.i64.wrap ((0 : Int) - IntKind.i64.wrap x_1.fst))),
 AV.sc (Value.int IntKind.i64 (0 : Int))])))
 (iteP (decide (b < (0 : Int)))
 (K
 (AV.tup
 [AV.sc
 (Value.int IntKind.i64 (IntKind.i64.wrap ((0 : Int) - IntKind.i64.wrap x_1.fst))),
 AV.sc (Value.int IntKind.i64 (0 : Int))]))
 (K
 (AV.tup
 [AV.sc (Value.int IntKind.i64 (IntKind.i64.wrap x_1.fst)),
 AV.sc (Value.int IntKind.i64 (0 : Int))]))))))
 (K (AV.tup [AV.sc (Value.int IntKind.i64 (0 : Int)), AV.sc (Value.int IntKind.i64 (2 : Int))])))
 (K (AV.tup [AV.sc (Value.int IntKind.i64 (0 : Int)), AV.sc (Value.int IntKind.i64 (2 : Int))])))
 (K (AV.tup [AV.sc (Value.int IntKind.i64 (0 : Int)), AV.sc (Value.int IntKind.i64 (2 : Int))])))
 (K (AV.tup [AV.sc (Value.int IntKind.i64 (0 : Int)), AV.sc (Value.int IntKind.i64 (2 : Int))]))) :
 (fun (a b : Int) (K : AV → Prop) => wpCall TMul cfg Tryz.prog 60 274 [iA a, iA b] heapF fun r h' => wpBack h' r K) a b K :=
 Eq.mp (by kernel_rfl) h
theorem vMul2 (a : Int) (b : Int) (K : AV → Prop) (h :
 iteP (decide ((-10000000000000 : Int) ≤ a))
 (iteP (decide (a ≤ (10000000000000 : Int)))
 (iteP (decide ((-10000000000000 : Int) ≤ b))
 (iteP (decide (b ≤ (10000000000000 : Int)))
 (iteP (a != (0 : Int))
 (iteP (decide (b < (0 : Int)))
 (iteP (decide (a < (0 : Int)))
 (iteP (decide (IntKind.i64.wrap ((0 : Int) - a) = (0 : Int))) False
 (iteP
 (decide
 (IntKind.i64.wrap (Int.tdiv (100000000000009999 : Int) (IntKind.i64.wrap ((0 : Int) - a))) <
 IntKind.i64.wrap ((0 : Int) - b)))
 (K (AV.tup [AV.sc (Value.int IntKind.i64 (0 : Int)), AV.sc (Value.int IntKind.i64 (9 : Int))]))
 (iteP
 (decide
 ((-10000000000000 : Int) ≤ IntKind.i64.wrap ((IntKind.i64.wrap (a * b)).tdiv (10000 : Int))))
 (iteP
 (decide
 (IntKind.i64.wrap ((IntKind.i64.wrap (a * b)).tdiv (10000 : Int)) ≤ (10000000000000 : Int)))
 (K
 (AV.tup
 [AV.sc
 (Value.int IntKind.i64
 (IntKind.i64.wrap ((IntKind.i64.wrap (a * b)).tdiv (10000 : Int)))),
 AV.sc (Value.int IntKind.i64 (0 : Int))]))
 (K (AV.tup [AV.sc (Value.int IntKind.i64 (0 : Int)), AV.sc (Value.int IntKind.i64 (9 : Int))])))
 (K (AV.tup [AV.sc (Value.int IntKind.i64 (0 : Int)), AV.sc (Value.int IntKind.i64 (9 : Int))])))))
 (iteP (decide (a = (0 : Int))) False
 (iteP
 (decide (IntKind.i64.wrap (Int.tdiv (100000000000009999 : Int) a) < IntKind.i64.wrap ((0 : Int) - b)))
 (K (AV.tup [AV.sc (Value.int IntKind.i64 (0 : Int)), AV.sc (Value.int IntKind.i64 (9 : Int))]))
 (iteP
 (decide
 ((-10000000000000 : Int) ≤ IntKind.i64.wrap ((IntKind.i64.wrap (a * b)).tdiv (10000 : Int))))
 (iteP
 (decide
 (IntKind.i64.wrap ((IntKind.i64.wrap (a * b)).tdiv (10000 : Int)) ≤ (10000000000000 : Int)))
 (K
 (AV.tup
 [AV.sc
 (Value.int IntKind.i64
 (IntKind.i64.wrap ((IntKind.i64.wrap (a * b)).tdiv (10000 : Int)))),
 AV.sc (Value.int IntKind.i64 (0 : Int))]))
 (K (AV.tup [AV.sc (Value.int IntKind.i64 (0 : Int)), AV.sc (Value.int IntKind.i64 (9 : Int))])))
 (K (AV.tup [AV.sc (Value.int IntKind.i64 (0 : Int)), AV.sc (Value.int IntKind.i64 (9 : Int))]))))))
 (iteP (decide (a < (0 : Int)))
 (iteP (decide (IntKind.i64.wrap ((0 : Int) - a) = (0 : Int))) False
 (iteP
 (decide
 (IntKind.i64.wrap (Int.tdiv (100000000000009999 : Int) (IntKind.i64.wrap ((0 : Int) - a))) < b))
 (K (AV.tup [AV.sc (Value.int IntKind.i64 (0 : Int)), AV.sc (Value.int IntKind.i64 (9 : Int))]))
 (iteP
 (decide
 ((-10000000000000 : Int) ≤ IntKind.i64.wrap ((IntKind.i64.wrap (a * b)).tdiv (10000 : Int))))
 (iteP
 (decide
 (IntKind.i64.wrap ((IntKind.i64.wrap (a * b)).tdiv (10000 : Int)) ≤ (10000000000000 : Int)))
 (K
 (AV.tup
 [AV.sc
 (Value.int IntKind.i64
 (IntKind.i64.wrap ((IntKind.i64.wrap (a * b)).tdiv (10000 : Int)))),
 AV.sc (Value.int IntKind.i64 (0 : Int))]))
 (K (AV.tup [AV.sc (Value.int IntKind.i64 (0 : Int)), AV.sc (Value.int IntKind.i64 (9 : Int))])))
 (K (AV.tup [AV.sc (Value.int IntKind.i64 (0 : Int)), AV.sc (Value.int IntKind.i64 (9 : Int))])))))
 (iteP (decide (a = (0 : Int))) False
 (iteP (decide (IntKind.i64.wrap (Int.tdiv (100000000000009999 : Int) a) < b))
 (K (AV.tup [AV.sc (Value.int IntKind.i64 (0 : Int)), AV.sc (Value.int IntKind.i64 (9 : Int))]))
 (iteP
 (decide
 ((-10000000000000 : Int) ≤ IntKind.i64.wrap ((IntKind.i64.wrap (a * b)).tdiv (10000 : Int))))
 (iteP
 (decide
 (IntKind.i64.wrap ((IntKind.i64.wrap (a * b)).tdiv (10000 : Int)) ≤ (10000000000000 : Int)))
 (K
 (AV.tup
 [AV.sc
 (Value.int IntKind.i64
 (IntKind.i64.wrap ((IntKind.i64.wrap (a * b)).tdiv (10000 : Int)))),
 AV.sc (Value.int IntKind.i64 (0 : Int))]))
 (K (AV.tup [AV.sc (Value.int IntKind.i64 (0 : Int)), AV.sc (Value.int IntKind.i64 (9 : Int))])))
 (K (AV.tup [AV.sc (Value.int IntKind.i64 (0 : Int)), AV.sc (Value.int IntKind.i64 (9 : Int))])))))))
 (iteP (decide ((-10000000000000 : Int) ≤ IntKind.i64.wrap ((IntKind.i64.wrap (a * b)).tdiv (10000 : Int))))
 (iteP (decide (IntKind.i64.wrap ((IntKind.i64.wrap (a * b)).tdiv (10000 : Int)) ≤ (10000000000000 : Int)))
 (K
 (AV.tup
 [AV.sc (Value.int IntKind.i64 (IntKind.i64.wrap ((IntKind.i64.wrap (a * b)).tdiv (10000 : Int)))),
 AV.sc (Value.int IntKind.i64 (0 : Int))]))
 (K (AV.tup [AV.sc (Value.int IntKind.i64 (0 : Int)), AV.sc (Value.int IntKind.i64 (9 : Int))])))
 (K (AV.tup [AV.sc (Value.int IntKind.i64 (0 : Int)), AV.sc (Value.int IntKind.i64 (9 : Int))]))))
 (K (AV.tup [AV.sc (Value.int IntKind.i64 (0 : Int)), AV.sc (Value.int IntKind.i64 (2 : Int))])))
 (K (AV.tup [AV.sc (Value.int IntKind.i64 (0 : Int)), AV.sc (Value.int IntKind.i64 (2 : Int))])))
 (K (AV.tup [AV.sc (Value.int IntKind.i64 (0 : Int)), AV.sc (Value.int IntKind.i64 (2 : Int))])))
 (K (AV.tup [AV.sc (Value.int IntKind.i64 (0 : Int)), AV.sc (Value.int IntKind.i64 (2 : Int))]))) :
 (fun (a b : Int) (K : AV → Prop) => wpCall tab0 cfg Tryz.prog 60 89 [iA a, iA b] heapF fun r h' => wpBack h' r K) a b K :=
 Eq.mp (by kernel_rfl) h
theorem vDiv (a : Int) (b : Int) (K : AV → Prop) (h :
 iteP (decide ((-10000000000000 : Int) ≤ a))
 (iteP (decide (a ≤ (10000000000000 : Int)))
 (iteP (decide ((-10000000000000 : Int) ≤ b))
 (iteP (decide (b ≤ (10000000000000 : Int)))
 (iteP (b == (0 : Int))
 (K (AV.tup [AV.sc (Value.int IntKind.i64 (0 : Int)), AV.sc (Value.int IntKind.i64 (10 : Int))]))
 (iteP (decide (b = (0 : Int))) False
 (iteP (decide ((-10000000000000 : Int) ≤ IntKind.i64.wrap ((IntKind.i64.wrap (a * (10000 : Int))).tdiv b)))
 (iteP (decide (IntKind.i64.wrap ((IntKind.i64.wrap (a * (10000 : Int))).tdiv b) ≤ (10000000000000 : Int)))
 (K
 (AV.tup
 [AV.sc (Value.int IntKind.i64 (IntKind.i64.wrap ((IntKind.i64.wrap (a * (10000 : Int))).tdiv b))),
 AV.sc (Value.int IntKind.i64 (0 : Int))]))
 (K (AV.tup [AV.sc (Value.int IntKind.i64 (0 : Int)), AV.sc (Value.int IntKind.i64 (9 : Int))])))
 (K (AV.tup [AV.sc (Value.int IntKind.i64 (0 : Int)), AV.sc (Value.int IntKind.i64 (9 : Int))])))))
 (K (AV.tup [AV.sc (Value.int IntKind.i64 (0 : Int)), AV.sc (Value.int IntKind.i64 (2 : Int))])))
 (K (AV.tup [AV.sc (Value.int IntKind.i64 (0 : Int)), AV.sc (Value.int IntKind.i64 (2 : Int))])))
 (K (AV.tup [AV.sc (Value.int IntKind.i64 (0 : Int)), AV.sc (Value.int IntKind.i64 (2 : Int))])))
 (K (AV.tup [AV.sc (Value.int IntKind.i64 (0 : Int)), AV.sc (Value.int IntKind.i64 (2 : Int))]))) :
 (fun (a b : Int) (K : AV → Prop) => wpCall tab0 cfg Tryz.prog 60 275 [iA a, iA b] heapF fun r h' => wpBack h' r K) a b K :=
 Eq.mp (by kernel_rfl) h
theorem vDiv2 (a : Int) (b : Int) (K : AV → Prop) (h :
 iteP (decide ((-10000000000000 : Int) ≤ a))
 (iteP (decide (a ≤ (10000000000000 : Int)))
 (iteP (decide ((-10000000000000 : Int) ≤ b))
 (iteP (decide (b ≤ (10000000000000 : Int)))
 (iteP (b == (0 : Int))
 (K (AV.tup [AV.sc (Value.int IntKind.i64 (0 : Int)), AV.sc (Value.int IntKind.i64 (10 : Int))]))
 (iteP (decide (b = (0 : Int))) False
 (iteP (decide ((-10000000000000 : Int) ≤ IntKind.i64.wrap ((IntKind.i64.wrap (a * (10000 : Int))).tdiv b)))
 (iteP (decide (IntKind.i64.wrap ((IntKind.i64.wrap (a * (10000 : Int))).tdiv b) ≤ (10000000000000 : Int)))
 (K
 (AV.tup
 [AV.sc (Value.int IntKind.i64 (IntKind.i64.wrap ((IntKind.i64.wrap (a * (10000 : Int))).tdiv b))),
 AV.sc (Value.int IntKind.i64 (0 : Int))]))
 (K (AV.tup [AV.sc (Value.int IntKind.i64 (0 : Int)), AV.sc (Value.int IntKind.i64 (9 : Int))])))
 (K (AV.tup [AV.sc (Value.int IntKind.i64 (0 : Int)), AV.sc (Value.int IntKind.i64 (9 : Int))])))))
 (K (AV.tup [AV.sc (Value.int IntKind.i64 (0 : Int)), AV.sc (Value.int IntKind.i64 (2 : Int))])))
 (K (AV.tup [AV.sc (Value.int IntKind.i64 (0 : Int)), AV.sc (Value.int IntKind.i64 (2 : Int))])))
 (K (AV.tup [AV.sc (Value.int IntKind.i64 (0 : Int)), AV.sc (Value.int IntKind.i64 (2 : Int))])))
 (K (AV.tup [AV.sc (Value.int IntKind.i64 (0 : Int)), AV.sc (Value.int IntKind.i64 (2 : Int))]))) :
 (fun (a b : Int) (K : AV → Prop) => wpCall tab0 cfg Tryz.prog 60 90 [iA a, iA b] heapF fun r h' => wpBack h' r K) a b K :=
 Eq.mp (by kernel_rfl) h
theorem vMod (a : Int) (b : Int) (K : AV → Prop) (h :
 iteP (decide ((-10000000000000 : Int) ≤ a))
 (iteP (decide (a ≤ (10000000000000 : Int)))
 (iteP (decide ((-10000000000000 : Int) ≤ b))
 (iteP (decide (b ≤ (10000000000000 : Int)))
 (iteP (b == (0 : Int))
 (K (AV.tup [AV.sc (Value.int IntKind.i64 (0 : Int)), AV.sc (Value.int IntKind.i64 (10 : Int))]))
 (iteP (decide (b = (0 : Int))) False
 (K (AV.tup [AV.sc (Value.int IntKind.i64 (a.tmod b)), AV.sc (Value.int IntKind.i64 (0 : Int))]))))
 (K (AV.tup [AV.sc (Value.int IntKind.i64 (0 : Int)), AV.sc (Value.int IntKind.i64 (2 : Int))])))
 (K (AV.tup [AV.sc (Value.int IntKind.i64 (0 : Int)), AV.sc (Value.int IntKind.i64 (2 : Int))])))
 (K (AV.tup [AV.sc (Value.int IntKind.i64 (0 : Int)), AV.sc (Value.int IntKind.i64 (2 : Int))])))
 (K (AV.tup [AV.sc (Value.int IntKind.i64 (0 : Int)), AV.sc (Value.int IntKind.i64 (2 : Int))]))) :
 (fun (a b : Int) (K : AV → Prop) => wpCall tab0 cfg Tryz.prog 60 276 [iA a, iA b] heapF fun r h' => wpBack h' r K) a b K :=
 Eq.mp (by kernel_rfl) h
theorem vMod2 (a : Int) (b : Int) (K : AV → Prop) (h :
 iteP (decide ((-10000000000000 : Int) ≤ a))
 (iteP (decide (a ≤ (10000000000000 : Int)))
 (iteP (decide ((-10000000000000 : Int) ≤ b))
 (iteP (decide (b ≤ (10000000000000 : Int)))
 (iteP (b == (0 : Int))
 (K (AV.tup [AV.sc (Value.int IntKind.i64 (0 : Int)), AV.sc (Value.int IntKind.i64 (10 : Int))]))
 (iteP (decide (b = (0 : Int))) False
 (K
 (AV.tup
 [AV.sc
 (Value.int IntKind.i64 (IntKind.i64.wrap (a - IntKind.i64.wrap (IntKind.i64.wrap (a.tdiv b) * b)))),
 AV.sc (Value.int IntKind.i64 (0 : Int))]))))
 (K (AV.tup [AV.sc (Value.int IntKind.i64 (0 : Int)), AV.sc (Value.int IntKind.i64 (2 : Int))])))
 (K (AV.tup [AV.sc (Value.int IntKind.i64 (0 : Int)), AV.sc (Value.int IntKind.i64 (2 : Int))])))
 (K (AV.tup [AV.sc (Value.int IntKind.i64 (0 : Int)), AV.sc (Value.int IntKind.i64 (2 : Int))])))
 (K (AV.tup [AV.sc (Value.int IntKind.i64 (0 : Int)), AV.sc (Value.int IntKind.i64 (2 : Int))]))) :
 (fun (a b : Int) (K : AV → Prop) => wpCall tab0 cfg Tryz.prog 60 91 [iA a, iA b] heapF fun r h' => wpBack h' r K) a b K :=
 Eq.mp (by kernel_rfl) h
theorem vAdd (a : Int) (b : Int) (K : AV → Prop) (h :
 iteP (decide ((-10000000000000 : Int) ≤ a))
 (iteP (decide (a ≤ (10000000000000 : Int)))
 (iteP (decide ((-10000000000000 : Int) ≤ b))
 (iteP (decide (b ≤ (10000000000000 : Int)))
 (iteP (decide ((-10000000000000 : Int) ≤ IntKind.i64.wrap (a + b)))
 (iteP (decide (IntKind.i64.wrap (a + b) ≤ (10000000000000 : Int)))
 (K
 (AV.tup
 [AV.sc (Value.int IntKind.i64 (IntKind.i64.wrap (a + b))), AV.sc (Value.int IntKind.i64 (0 : Int))]))
 (K (AV.tup [AV.sc (Value.int IntKind.i64 (0 : Int)), AV.sc (Value.int IntKind.i64 (9 : Int))])))
 (K (AV.tup [AV.sc (Value.int IntKind.i64 (0 : Int)), AV.sc (Value.int IntKind.i64 (9 : Int))])))
 (K (AV.tup [AV.sc (Value.int IntKind.i64 (0 : Int)), AV.sc (Value.int IntKind.i64 (2 : Int))])))
 (K (AV.tup [AV.sc (Value.int IntKind.i64 (0 : Int)), AV.sc (Value.int IntKind.i64 (2 : Int))])))
 (K (AV.tup [AV.sc (Value.int IntKind.i64 (0 : Int)), AV.sc (Value.int IntKind.i64 (2 : Int))])))
 (K (AV.tup [AV.sc (Value.int IntKind.i64 (0 : Int)), AV.sc (Value.int IntKind.i64 (2 : Int))]))) :
 (fun (a b : Int) (K : AV → Prop) => wpCall tab0 cfg Tryz.prog 60 272 [iA a, iA b] heapF fun r h' => wpBack h' r K) a b K :=
 Eq.mp (by kernel_rfl) h
theorem vAdd2 (a : Int) (b : Int) (K : AV → Prop) (h :
 iteP (decide ((-10000000000000 : Int) ≤ a))
 (iteP (decide (a ≤ (10000000000000 : Int)))
 (iteP (decide ((-10000000000000 : Int) ≤ b))
 (iteP (decide (b ≤ (10000000000000 : Int)))
 (iteP (decide ((-10000000000000 : Int) ≤ IntKind.i64.wrap (a + b)))
 (iteP (decide (IntKind.i64.wrap (a + b) ≤ (10000000000000 : Int)))
 (K
 (AV.tup
 [AV.sc (Value.int IntKind.i64 (IntKind.i64.wrap (a + b))), AV.sc (Value.int IntKind.i64 (0 : Int))]))
 (K (AV.tup [AV.sc (Value.int IntKind.i64 (0 : Int)), AV.sc (Value.int IntKind.i64 (9 : Int))])))
 (K (AV.tup [AV.sc (Value.int IntKind.i64 (0 : Int)), AV.sc (Value.int IntKind.i64 (9 : Int))])))
 (K (AV.tup [AV.sc (Value.int IntKind.i64 (0 : Int)), AV.sc (Value.int IntKind.i64 (2 : Int))])))
 (K (AV.tup [AV.sc (Value.int IntKind.i64 (0 : Int)), AV.sc (Value.int IntKind.i64 (2 : Int))])))
 (K (AV.tup [AV.sc (Value.int IntKind.i64 (0 : Int)), AV.sc (Value.int IntKind.i64 (2 : Int))])))
 (K (AV.tup [AV.sc (Value.int IntKind.i64 (0 : Int)), AV.sc (Value.int IntKind.i64 (2 : Int))]))) :
 (fun (a b : Int) (K : AV → Prop) => wpCall tab0 cfg Tryz.prog 60 87 [iA a, iA b] heapF fun r h' => wpBack h' r K) a b K :=
 Eq.mp (by kernel_rfl) h
theorem vSub (a : Int) (b : Int) (K : AV → Prop) (h :
 iteP (decide ((-10000000000000 : Int) ≤ a))
 (iteP (decide (a ≤ (10000000000000 : Int)))
 (iteP (decide ((-10000000000000 : Int) ≤ b))
 (iteP (decide (b ≤ (10000000000000 : Int)))
 (iteP (decide ((-10000000000000 : Int) ≤ IntKind.i64.wrap (a - b)))
 (iteP (decide (IntKind.i64.wrap (a - b) ≤ (10000000000000 : Int)))
 (K
 (AV.tup
 [AV.sc (Value.int IntKind.i64 (IntKind.i64.wrap (a - b))), AV.sc (Value.int IntKind.i64 (0 : Int))]))
 (K (AV.tup [AV.sc (Value.int IntKind.i64 (0 : Int)), AV.sc (Value.int IntKind.i64 (9 : Int))])))
 (K (AV.tup [AV.sc (Value.int IntKind.i64 (0 : Int)), AV.sc (Value.int IntKind.i64 (9 : Int))])))
 (K (AV.tup [AV.sc (Value.int IntKind.i64 (0 : Int)), AV.sc (Value.int IntKind.i64 (2 : Int))])))
 (K (AV.tup [AV.sc (Value.int IntKind.i64 (0 : Int)), AV.sc (Value.int IntKind.i64 (2 : Int))])))
 (K (AV.tup [AV.sc (Value.int IntKind.i64 (0 : Int)), AV.sc (Value.int IntKind.i64 (2 : Int))])))
 (K (AV.tup [AV.sc (Value.int IntKind.i64 (0 : Int)), AV.sc (Value.int IntKind.i64 (2 : Int))]))) :
 (fun (a b : Int) (K : AV → Prop) => wpCall tab0 cfg Tryz.prog 60 273 [iA a, iA b] heapF fun r h' => wpBack h' r K) a b K :=
 Eq.mp (by kernel_rfl) h
theorem vSub2 (a : Int) (b : Int) (K : AV → Prop) (h :
 iteP (decide ((-10000000000000 : Int) ≤ a))
 (iteP (decide (a ≤ (10000000000000 : Int)))
 (iteP (decide ((-10000000000000 : Int) ≤ b))
 (iteP (decide (b ≤ (10000000000000 : Int)))
 (iteP (decide ((-10000000000000 : Int) ≤ IntKind.i64.wrap (a - b)))
 (iteP (decide (IntKind.i64.wrap (a - b) ≤ (10000000000000 : Int)))
 (K
 (AV.tup
 [AV.sc (Value.int IntKind.i64 (IntKind.i64.wrap (a - b))), AV.sc (Value.int IntKind.i64 (0 : Int))]))
 (K (AV.tup [AV.sc (Value.int IntKind.i64 (0 : Int)), AV.sc (Value.int IntKind.i64 (9 : Int))])))
 (K (AV.tup [AV.sc (Value.int IntKind.i64 (0 : Int)), AV.sc (Value.int IntKind.i64 (9 : Int))])))
 (K (AV.tup [AV.sc (Value.int IntKind.i64 (0 : Int)), AV.sc (Value.int IntKind.i64 (2 : Int))])))
 (K (AV.tup [AV.sc (Value.int IntKind.i64 (0 : Int)), AV.sc (Value.int IntKind.i64 (2 : Int))])))
 (K (AV.tup [AV.sc (Value.int IntKind.i64 (0 : Int)), AV.sc (Value.int IntKind.i64 (2 : Int))])))
 (K (AV.tup [AV.sc (Value.int IntKind.i64 (0 : Int)), AV.sc (Value.int IntKind.i64 (2 : Int))]))) :
 (fun (a b : Int) (K : AV → Prop) => wpCall tab0 cfg Tryz.prog 60 88 [iA a, iA b] heapF fun r h' => wpBack h' r K) a b K :=
 Eq.mp (by kernel_rfl) h
theorem vInt (a : Int) (K : AV → Prop) (h :
 K
 (AV.sc
 (Value.int IntKind.i64
 (IntKind.i64.wrap ((max (-10000000000000 : Int) (min (10000000000000 : Int) a)).tdiv (10000 : Int)))))) :
 (fun (a : Int) (K : AV → Prop) => wpCall tab0 cfg Tryz.prog 60 202 [iA a] heapF fun r h' => wpBack h' r K) a K :=
 Eq.mp (by kernel_rfl) h
theorem vInt2 (a : Int) (K : AV → Prop) (h :
 iteP (decide (a < (-10000000000000 : Int))) (K (AV.sc (Value.int IntKind.i64 (-1000000000 : Int))))
 (iteP (decide ((10000000000000 : Int) < a)) (K (AV.sc (Value.int IntKind.i64 (1000000000 : Int))))
 (K (AV.sc (Value.int IntKind.i64 (IntKind.i64.wrap (a.tdiv (10000 : Int)))))))) :
 (fun (a : Int) (K : AV → Prop) => wpCall tab0 cfg Tryz.prog 60 93 [iA a] heapF fun r h' => wpBack h' r K) a K :=
 Eq.mp (by kernel_rfl) h
theorem vNum (a : Int) (K : AV → Prop) (h :
 K (AV.sc (Value.int IntKind.i64 (min (max a (-10000000000000 : Int)) (10000000000000 : Int))))) :
 (fun (a : Int) (K : AV → Prop) => wpCall tab0 cfg Tryz.prog 60 128 [.agg (numV a)] heapF fun r h' => wpBack h' r K) a K :=
 Eq.mp (by kernel_rfl) h
theorem vNum2 (a : Int) (K : AV → Prop) (h :
 iteP (decide ((10000000000000 : Int) < a)) (K (AV.sc (Value.int IntKind.i64 (10000000000000 : Int))))
 (iteP (decide (a < (-10000000000000 : Int))) (K (AV.sc (Value.int IntKind.i64 (-10000000000000 : Int))))
 (K (AV.sc (Value.int IntKind.i64 a))))) :
 (fun (a : Int) (K : AV → Prop) => wpCall tab0 cfg Tryz.prog 60 62 [.agg (numV a)] heapF fun r h' => wpBack h' r K) a K :=
 Eq.mp (by kernel_rfl) h
theorem vFrom (a : Int) (K : AV → Prop) (h :
 K
 (AV.agg
 [AV.sc (Value.int IntKind.i64 (1 : Int)),
 AV.sc (Value.int IntKind.i64 (min (max a (-10000000000000 : Int)) (10000000000000 : Int))),
 AV.sc (Value.string (ByteArray.mk (Array.mk [])))])) :
 (fun (a : Int) (K : AV → Prop) => wpCall tab0 cfg Tryz.prog 60 71 [iA a] heapF fun r h' => wpBack h' r K) a K :=
 Eq.mp (by kernel_rfl) h
theorem vFrom2 (a : Int) (K : AV → Prop) (h :
 iteP (decide ((10000000000000 : Int) < a))
 (K
 (AV.agg
 [AV.sc (Value.int IntKind.i64 (1 : Int)), AV.sc (Value.int IntKind.i64 (10000000000000 : Int)),
 AV.sc (Value.string (ByteArray.mk (Array.mk [])))]))
 (iteP (decide (a < (-10000000000000 : Int)))
 (K
 (AV.agg
 [AV.sc (Value.int IntKind.i64 (1 : Int)), AV.sc (Value.int IntKind.i64 (-10000000000000 : Int)),
 AV.sc (Value.string (ByteArray.mk (Array.mk [])))]))
 (K
 (AV.agg
 [AV.sc (Value.int IntKind.i64 (1 : Int)), AV.sc (Value.int IntKind.i64 a),
 AV.sc (Value.string (ByteArray.mk (Array.mk [])))])))) :
 (fun (a : Int) (K : AV → Prop) => wpCall tab0 cfg Tryz.prog 60 26 [iA a] heapF fun r h' => wpBack h' r K) a K :=
 Eq.mp (by kernel_rfl) h
theorem rPow (a : Int) (n : Int) (p : Int) (m : Int) (i : Int) (N : Int → Int → Prop) (X : Int → Prop) (Y : Int → Int → Prop) (h :
 iteP (decide (i < m))
 (D2 p a ∧
 (∀ (x : Int),
 Is (mulF p a) x →
 I277 a n x m (IntKind.i64.wrap (i + (1 : Int))) = I277 a n x m (IntKind.i64.wrap (i + (1 : Int))) ∧
 N x (IntKind.i64.wrap (i + (1 : Int)))) ∧
 ∀ (x : Int),
 Non (mulF p a) x →
 iteP (x != (0 : Int)) (E277 n x (0 : Int) = E277 n x (0 : Int) ∧ Y x (0 : Int))
 (I277 a n (0 : Int) m (IntKind.i64.wrap (i + (1 : Int))) =
 I277 a n (0 : Int) m (IntKind.i64.wrap (i + (1 : Int))) ∧
 N (0 : Int) (IntKind.i64.wrap (i + (1 : Int)))))
 (Ex.exit (0 : Nat) = Ex.exit (0 : Nat) ∧ X277 n p = X277 n p ∧ X p)) :
 (fun (a n p m i : Int) (N : Int → Int → Prop) (X : Int → Prop) (Y : Int → Int → Prop) => wpRound TPow cfg Tryz.prog 60 277 6 (I277 a n p m i) (fun τ => τ = I277 a n (slI τ 6) m (slI τ 23) ∧ N (slI τ 6) (slI τ 23)) (q277 n X Y)) a n p m i N X Y :=
 Eq.mp (by kernel_rfl) h
theorem rPow2 (a : Int) (n : Int) (p : Int) (i : Int) (N : Int → Int → Prop) (X : Int → Prop) (Y : Int → Int → Prop) (h :
 iteP (decide (i < n))
 (D2 p a ∧
 (∀ (x : Int),
 Is (mulF p a) x →
 I132 a n x (IntKind.i64.wrap (i + (1 : Int))) = I132 a n x (IntKind.i64.wrap (i + (1 : Int))) ∧
 N x (IntKind.i64.wrap (i + (1 : Int)))) ∧
 ∀ (x : Int),
 Non (mulF p a) x →
 iteP (x != (0 : Int)) (E132 x p = E132 x p ∧ Y x p)
 (I132 a n (0 : Int) (IntKind.i64.wrap (i + (1 : Int))) =
 I132 a n (0 : Int) (IntKind.i64.wrap (i + (1 : Int))) ∧
 N (0 : Int) (IntKind.i64.wrap (i + (1 : Int)))))
 (Ex.exit (0 : Nat) = Ex.exit (0 : Nat) ∧ X132 p = X132 p ∧ X p)) :
 (fun (a n p i : Int) (N : Int → Int → Prop) (X : Int → Prop) (Y : Int → Int → Prop) => wpRound TPow2 cfg Tryz.prog 60 132 4 (I132 a n p i) (fun τ => τ = I132 a n (slI τ 6) (slI τ 7) ∧ N (slI τ 6) (slI τ 7)) (q132 X Y)) a n p i N X Y :=
 Eq.mp (by kernel_rfl) h
theorem rDiv1 (u : Int) (v : Int) (w : Int) (q : Int) (r : Int) (N : Prop) (X : Nat → Int → Int → Prop) (h :
 iteP (decide ((4294967296 : Int) ≤ q))
 (iteP (decide ((4294967296 : Int) ≤ IntKind.u64.wrap (r + (2621440000 : Int))))
 (I18 u v w (IntKind.u64.wrap (q - (1 : Int))) (IntKind.u64.wrap (r + (2621440000 : Int))) =
 I18 u v w (IntKind.u64.wrap (q - (1 : Int))) (IntKind.u64.wrap (r + (2621440000 : Int))) ∧
 X (0 : Nat) (IntKind.u64.wrap (q - (1 : Int))) (IntKind.u64.wrap (r + (2621440000 : Int))))
 N)
 (iteP (decide (IntKind.u64.wrap (IntKind.u64.wrap ((4294967296 : Int) * r) + v) < IntKind.u64.wrap (q * (0 : Int))))
 (iteP (decide ((4294967296 : Int) ≤ IntKind.u64.wrap (r + (2621440000 : Int))))
 (I18 u v w (IntKind.u64.wrap (q - (1 : Int))) (IntKind.u64.wrap (r + (2621440000 : Int))) =
 I18 u v w (IntKind.u64.wrap (q - (1 : Int))) (IntKind.u64.wrap (r + (2621440000 : Int))) ∧
 X (0 : Nat) (IntKind.u64.wrap (q - (1 : Int))) (IntKind.u64.wrap (r + (2621440000 : Int))))
 N)
 (I18 u v w q r = I18 u v w q r ∧ X (0 : Nat) q r))) :
 (fun (u v w q r : Int) (N : Prop) (X : Nat → Int → Int → Prop) => wpRound tab0 cfg Tryz.prog 60 354 18 (I18 u v w q r) (fun _ => N) (q18 u v w X)) u v w q r N X :=
 Eq.mp (by kernel_rfl) h
theorem rDiv2 (w : Int) (q : Int) (r : Int) (x : Int) (z : Int) (N : Prop) (X : Nat → Int → Int → Prop) (h :
 iteP (decide ((4294967296 : Int) ≤ z))
 (iteP (decide ((4294967296 : Int) ≤ IntKind.u64.wrap (r + (2621440000 : Int))))
 (I25 w q (IntKind.u64.wrap (r + (2621440000 : Int))) x (IntKind.u64.wrap (z - (1 : Int))) =
 I25 w q (IntKind.u64.wrap (r + (2621440000 : Int))) x (IntKind.u64.wrap (z - (1 : Int))) ∧
 X (2 : Nat) (IntKind.u64.wrap (r + (2621440000 : Int))) (IntKind.u64.wrap (z - (1 : Int))))
 N)
 (iteP (decide (IntKind.u64.wrap (IntKind.u64.wrap ((4294967296 : Int) * r) + w) < IntKind.u64.wrap (z * (0 : Int))))
 (iteP (decide ((4294967296 : Int) ≤ IntKind.u64.wrap (r + (2621440000 : Int))))
 (I25 w q (IntKind.u64.wrap (r + (2621440000 : Int))) x (IntKind.u64.wrap (z - (1 : Int))) =
 I25 w q (IntKind.u64.wrap (r + (2621440000 : Int))) x (IntKind.u64.wrap (z - (1 : Int))) ∧
 X (2 : Nat) (IntKind.u64.wrap (r + (2621440000 : Int))) (IntKind.u64.wrap (z - (1 : Int))))
 N)
 (I25 w q r x z = I25 w q r x z ∧ X (2 : Nat) r z))) :
 (fun (w q r x z : Int) (N : Prop) (X : Nat → Int → Int → Prop) => wpRound tab0 cfg Tryz.prog 60 354 25 (I25 w q r x z) (fun _ => N) (q25 w q x X)) w q r x z N X :=
 Eq.mp (by kernel_rfl) h
theorem vDiv64 (x : Int) (y : Int) (K : AV → Prop) (h :
 iteP (decide ((10000 : Int) ≤ x)) False
 (iteP (x == (0 : Int))
 (K
 (AV.tup
 [AV.sc (Value.int IntKind.u64 (IntKind.u64.wrap (y.tdiv (10000 : Int)))),
 AV.sc (Value.int IntKind.u64 (y.tmod (10000 : Int)))]))
 (∀ (m : Int),
 m =
 IntKind.u64.wrap
 (↑(BitVec.ofInt (64 : Nat) (IntKind.u64.wrap (x * (1125899906842624 : Int))) |||
 BitVec.ofInt (64 : Nat) (y.fdiv (16384 : Int))).toNat :
 Int) →
 ∀ (m_1 : Int),
 m_1 = (IntKind.u64.wrap (y * (1125899906842624 : Int))).fdiv (4294967296 : Int) →
 ∀ (m_2 : Int),
 m_2 =
 IntKind.u64.wrap
 (↑(BitVec.ofInt (64 : Nat) (IntKind.u64.wrap (y * (1125899906842624 : Int))) &&&
 BitVec.ofInt (64 : Nat) (4294967295 : Int)).toNat :
 Int) →
 ∀ (m_3 : Int),
 m_3 = IntKind.u64.wrap (m.tdiv (2621440000 : Int)) →
 ∀ (m_4 : Int),
 m_4 = IntKind.u64.wrap (m - IntKind.u64.wrap (m_3 * (2621440000 : Int))) →
 loopAt Tryz.prog (354 : Nat) (18 : Nat) = loopAt Tryz.prog (354 : Nat) (18 : Nat) ∧
 (I18 m m_1 m_2 m_3 m_4 = I18 m m_1 m_2 m_3 m_4 ∧ Lt32 m_3) ∧
 ∀ (_ : Unit),
 True →
 ∀ (m_5 : Int),
 m_5 =
 IntKind.u64.wrap
 (IntKind.u64.wrap (IntKind.u64.wrap (m * (4294967296 : Int)) + m_1) -
 IntKind.u64.wrap (m_3 * (11258999068426240000 : Int))) →
 ∀ (m : Int),
 m = IntKind.u64.wrap (m_5.tdiv (2621440000 : Int)) →
 ∀ (m_6 : Int),
 m_6 = IntKind.u64.wrap (m_5 - IntKind.u64.wrap (m * (2621440000 : Int))) →
 loopAt Tryz.prog (354 : Nat) (25 : Nat) =
 loopAt Tryz.prog (354 : Nat) (25 : Nat) ∧
 (I25 m_2 m_3 m_6 m_5 m = I25 m_2 m_3 m_6 m_5 m ∧ Lt32 m) ∧
 ∀ (_ : Unit),
 True →
 K
 (AV.tup
 [AV.sc
 (Value.int IntKind.u64
 (IntKind.u64.wrap
 (IntKind.u64.wrap (m_3 * (4294967296 : Int)) + m))),
 AV.sc
 (Value.int IntKind.u64
 ((IntKind.u64.wrap
 (IntKind.u64.wrap
 (IntKind.u64.wrap (m_5 * (4294967296 : Int)) +
 m_2) -
 IntKind.u64.wrap
 (m * (11258999068426240000 : Int)))).fdiv
 (1125899906842624 : Int)))])))) :
 (fun (x y : Int) (K : AV → Prop) => wpCall TDiv cfg Tryz.prog 60 354 [wA x, wA y, wA 10000] heapF fun r h' => wpBack h' r K) x y K :=
 Eq.mp (by kernel_rfl) h
end
end Go.Proofs.Sf
namespace Go.Proofs.Sf
open Go Go.Ef
noncomputable section
set_option maxRecDepth 100000
abbrev Ok (T : Tab) : Prop := TabOk Tryz.prog cfg T
theorem okX : Ok tabX := ⟨fun _ _ _ _ _ ht => (by cases ht), fun _ _ _ _ _ ht => (by cases ht)⟩
theorem ok0 : Ok tab0 := tab0_ok
theorem it {q : Bool} {A B : Prop} (h : q = true) (k : A) : iteP q A B := by rw [h]; exact k
theorem ie {q : Bool} {A B : Prop} (h : q = false) (k : B) : iteP q A B := by rw [h]; exact k
theorem iti {q : Bool} {A B : Prop} (h : q = true → A) (k : q = false → B) : iteP q A B := by
 cases q with
 | true => exact h rfl
 | false => exact k rfl
theorem dt {p : Prop} [Decidable p] (h : p) : decide p = true := decide_eq_true h
theorem df {p : Prop} [Decidable p] (h : ¬p) : decide p = false := decide_eq_false h
def QD (r : Option Int) (y : AV) : Prop := (∃ d, r = some d ∧ y = .tup [iA d, iA 0]) ∨ ∃ e, r = none ∧ e ≠ 0 ∧ y = .tup [iA 0, iA e]
theorem QD.some {r : Option Int} {d : Int} (h : r = .some d) : QD r (.tup [iA d, iA 0]) := .inl ⟨d, h, rfl⟩
theorem QD.none {r : Option Int} {e : Int} (h : r = .none) (he : e ≠ 0) : QD r (.tup [iA 0, iA e]) := .inr ⟨e, h, he, rfl⟩
theorem dec_alts {g : FuncId} {args : List AV} {h : Heap} {pre : Prop} {r : Option Int} (H : EvP cfg Tryz.prog g args h fun y h' => QD r y ∧ h' = h) :
  ∃ al ∈ (decC pre r h).alts, ∃ x m, al.post x ∧ callP cfg (evCall cfg Tryz.prog m) g args h = .some (al.val x, al.heap x) := by
 obtain ⟨m, v, h', e, hq, rfl⟩ := H
 rcases hq with ⟨d, h1, rfl⟩ | ⟨e', h1, h2, rfl⟩
 ·exact ⟨_, List.mem_cons_self, d, m, ⟨h1⟩, e⟩
 ·exact ⟨_, List.mem_cons_of_mem _ (List.mem_singleton.2 rfl), e', m, ⟨h1, h2⟩, e⟩
theorem dec_ok {T T' : Tab} (O : Ok T) (O' : Ok T') {g : FuncId} {F : Int → Int → Option Int} (hf : cfg.fresh g = true)
  (H : ∀ a b : Int, okD a = true → okD b = true → wpCall T' cfg Tryz.prog 60 g [iA a, iA b] heapF fun r h' => wpBack h' r (QD (F a b))) : Ok (T.addC g (CDec F)) := by
 refine addC_ok O fun args h s hs hp => ?_
 unfold CDec at hs
 split at hs
 ·rename_i a b
  cases hs
  exact dec_alts (EvP.freshK O' hf rfl (args' := [iA a, iA b]) rfl (H a b hp.l hp.r))
 ·cases hs
theorem fit_leaf (d : Int) : iteP (decide ((-10000000000000 : Int) ≤ d)) (iteP (decide (d ≤ (10000000000000 : Int))) (QD (fitF d) (.tup [iA d, iA 0])) (QD (fitF d) (.tup [iA 0, iA 9]))) (QD (fitF d) (.tup [iA 0, iA 9])) := by
 refine iti (fun h1 => iti (fun h2 => QD.some ?_) (fun h2 => QD.none ?_ (by decide))) (fun h1 => QD.none ?_ (by decide))
 ·unfold fitF; rw [if_pos]; simp only [okD, h1, h2, Bool.and_true]
 ·unfold fitF; rw [if_neg]; simp [okD, h2]
 ·unfold fitF; rw [if_neg]; simp [okD, h1]
theorem both {a b : Int} (ha : okD a = true) (hb : okD b = true) {A B C D E : Prop} (k : A) :
  iteP (decide ((-10000000000000 : Int) ≤ a)) (iteP (decide (a ≤ (10000000000000 : Int))) (iteP (decide ((-10000000000000 : Int) ≤ b)) (iteP (decide (b ≤ (10000000000000 : Int))) A B) C) D) E := by
 rw [okD_iff] at ha hb
 exact it (dt ha.1) (it (dt ha.2) (it (dt hb.1) (it (dt hb.2) k)))
theorem wAdd (a b : Int) (ha : okD a = true) (hb : okD b = true) : wpCall tab0 cfg Tryz.prog 60 272 [iA a, iA b] heapF fun r h' => wpBack h' r (QD (addF a b)) := by
 refine vAdd a b _ (both ha hb ?_)
 rw [okD_iff] at ha hb
 rw [wrap_in (x := a + b) (by omega) (by omega)]
 exact fit_leaf (a + b)
theorem wAdd2 (a b : Int) (ha : okD a = true) (hb : okD b = true) : wpCall tab0 cfg Tryz.prog 60 87 [iA a, iA b] heapF fun r h' => wpBack h' r (QD (addF a b)) := by
 refine vAdd2 a b _ (both ha hb ?_)
 rw [okD_iff] at ha hb
 rw [wrap_in (x := a + b) (by omega) (by omega)]
 exact fit_leaf (a + b)
theorem wSub (a b : Int) (ha : okD a = true) (hb : okD b = true) : wpCall tab0 cfg Tryz.prog 60 273 [iA a, iA b] heapF fun r h' => wpBack h' r (QD (subF a b)) := by
 refine vSub a b _ (both ha hb ?_)
 rw [okD_iff] at ha hb
 rw [wrap_in (x := a - b) (by omega) (by omega)]
 exact fit_leaf (a - b)
theorem wSub2 (a b : Int) (ha : okD a = true) (hb : okD b = true) : wpCall tab0 cfg Tryz.prog 60 88 [iA a, iA b] heapF fun r h' => wpBack h' r (QD (subF a b)) := by
 refine vSub2 a b _ (both ha hb ?_)
 rw [okD_iff] at ha hb
 rw [wrap_in (x := a - b) (by omega) (by omega)]
 exact fit_leaf (a - b)
theorem tdiv_le (a b : Int) : (a.tdiv b).natAbs ≤ a.natAbs := by
 rw [Int.natAbs_tdiv]; exact Nat.div_le_self _ _
theorem div_leaf {a b : Int} (ha : okD a = true) :
  iteP (b == (0 : Int)) (QD (divF a b) (.tup [iA 0, iA 10])) (iteP (decide (b = (0 : Int))) False
   (iteP (decide ((-10000000000000 : Int) ≤ IntKind.i64.wrap ((IntKind.i64.wrap (a * (10000 : Int))).tdiv b))) (iteP (decide (IntKind.i64.wrap ((IntKind.i64.wrap (a * (10000 : Int))).tdiv b) ≤ (10000000000000 : Int)))
    (QD (divF a b) (.tup [iA (IntKind.i64.wrap ((IntKind.i64.wrap (a * (10000 : Int))).tdiv b)), iA 0])) (QD (divF a b) (.tup [iA 0, iA 9]))) (QD (divF a b) (.tup [iA 0, iA 9])))) := by
 rw [okD_iff] at ha
 by_cases h : b = 0
 ·subst h
  exact it rfl (QD.none (by unfold divF; rw [if_pos rfl]) (by decide))
 refine ie (by simpa using h) (ie (df h) ?_)
 have hb := tdiv_le (a * 10000) b
 rw [wrap_in (x := a * 10000) (by omega) (by omega), wrap_in (x := (a * 10000).tdiv b) (by omega) (by omega)]
 have e : divF a b = fitF ((a * 10000).tdiv b) := by unfold divF; rw [if_neg h]
 rw [e]
 exact fit_leaf _
theorem wDiv (a b : Int) (ha : okD a = true) (hb : okD b = true) : wpCall tab0 cfg Tryz.prog 60 275 [iA a, iA b] heapF fun r h' => wpBack h' r (QD (divF a b)) := vDiv a b _ (both ha hb (div_leaf ha))
theorem wDiv2 (a b : Int) (ha : okD a = true) (hb : okD b = true) : wpCall tab0 cfg Tryz.prog 60 90 [iA a, iA b] heapF fun r h' => wpBack h' r (QD (divF a b)) := vDiv2 a b _ (both ha hb (div_leaf ha))
theorem wMod (a b : Int) (ha : okD a = true) (hb : okD b = true) : wpCall tab0 cfg Tryz.prog 60 276 [iA a, iA b] heapF fun r h' => wpBack h' r (QD (modF a b)) := by
 refine vMod a b _ (both ha hb ?_)
 by_cases h : b = 0
 ·subst h
  exact it rfl (QD.none (by unfold modF; rw [if_pos rfl]) (by decide))
 exact ie (by simpa using h) (ie (df h) (QD.some (by unfold modF; rw [if_neg h])))
theorem wMod2 (a b : Int) (ha : okD a = true) (hb : okD b = true) : wpCall tab0 cfg Tryz.prog 60 91 [iA a, iA b] heapF fun r h' => wpBack h' r (QD (modF a b)) := by
 refine vMod2 a b _ (both ha hb ?_)
 by_cases h : b = 0
 ·subst h
  exact it rfl (QD.none (by unfold modF; rw [if_pos rfl]) (by decide))
 refine ie (by simpa using h) (ie (df h) ?_)
 have h1 := tdiv_le a b
 have h2 := mod_ok (b := b) ha
 have h3 := Int.tmod_def a b
 have h4 : b * a.tdiv b = a.tdiv b * b := Int.mul_comm _ _
 rw [okD_iff] at ha h2
 rw [wrap_in (x := a.tdiv b) (by omega) (by omega), wrap_in (x := a.tdiv b * b) (by omega) (by omega), wrap_in (x := a - a.tdiv b * b) (by omega) (by omega)]
 refine QD.some ?_
 unfold modF
 rw [if_neg h, h3, h4]
theorem mul_leaf {a b : Int} (h : (a * b).natAbs ≤ 100000000000009999) :
  iteP (decide ((-10000000000000 : Int) ≤ IntKind.i64.wrap ((IntKind.i64.wrap (a * b)).tdiv (10000 : Int)))) (iteP (decide (IntKind.i64.wrap ((IntKind.i64.wrap (a * b)).tdiv (10000 : Int)) ≤ (10000000000000 : Int)))
   (QD (mulF a b) (.tup [iA (IntKind.i64.wrap ((IntKind.i64.wrap (a * b)).tdiv (10000 : Int))), iA 0])) (QD (mulF a b) (.tup [iA 0, iA 9]))) (QD (mulF a b) (.tup [iA 0, iA 9])) := by
 have h1 := tdiv_abs (a * b)
 rw [wrap_in (x := a * b) (by omega) (by omega), wrap_in (x := (a * b).tdiv 10000) (by omega) (by omega)]
 exact fit_leaf _
theorem lt_mul {x y : Nat} (hx : x ≠ 0) : (100000000000009999 / x < y) ↔ 100000000000009999 < x * y := by
 rw [Nat.div_lt_iff_lt_mul (by omega), Nat.mul_comm]
theorem tdivP {x : Int} (hx : 0 < x) : Int.tdiv 100000000000009999 x = ((100000000000009999 / x.natAbs : Nat) : Int) := by
 obtain ⟨n, rfl⟩ : ∃ n : Nat, x = n := ⟨x.toNat, by omega⟩
 rfl
theorem mul2_leaf {a b sa sb : Int} (hsa : 0 < sa) (hsb : 0 ≤ sb) (ea : sa.natAbs = a.natAbs) (eb : sb.natAbs = b.natAbs) (hm : sa ≤ 10000000000000) :
  iteP (decide (IntKind.i64.wrap (Int.tdiv (100000000000009999 : Int) sa) < sb)) (QD (mulF a b) (.tup [iA 0, iA 9]))
   (iteP (decide ((-10000000000000 : Int) ≤ IntKind.i64.wrap ((IntKind.i64.wrap (a * b)).tdiv (10000 : Int)))) (iteP (decide (IntKind.i64.wrap ((IntKind.i64.wrap (a * b)).tdiv (10000 : Int)) ≤ (10000000000000 : Int)))
   (QD (mulF a b) (.tup [iA (IntKind.i64.wrap ((IntKind.i64.wrap (a * b)).tdiv (10000 : Int))), iA 0])) (QD (mulF a b) (.tup [iA 0, iA 9]))) (QD (mulF a b) (.tup [iA 0, iA 9]))) := by
 have e := lt_mul (x := sa.natAbs) (y := sb.natAbs) (by omega)
 have hd : 100000000000009999 / sa.natAbs ≤ 100000000000009999 := Nat.div_le_self _ _
 obtain ⟨q, hq⟩ : ∃ q : Nat, 100000000000009999 / sa.natAbs = q := ⟨_, rfl⟩
 rw [tdivP hsa]
 rw [hq] at e hd ⊢
 rw [wrap_in (x := (q : Int)) (by omega) (by omega)]
 have hab : (a * b).natAbs = sa.natAbs * sb.natAbs := by rw [Int.natAbs_mul, ea, eb]
 refine iti (fun h => QD.none (mulF_none ?_) (by decide)) (fun h => mul_leaf ?_)
 ·have := of_decide_eq_true h
  rw [hab]; exact e.1 (by omega)
 ·have := of_decide_eq_false h
  rw [hab]
  exact Nat.le_of_not_lt fun q => this (by have := e.2 q; omega)
theorem wMul2 (a b : Int) (ha : okD a = true) (hb : okD b = true) : wpCall tab0 cfg Tryz.prog 60 89 [iA a, iA b] heapF fun r h' => wpBack h' r (QD (mulF a b)) := by
 refine vMul2 a b _ (both ha hb ?_)
 rw [okD_iff] at ha hb
 rw [wrap_in (x := 0 - a) (by omega) (by omega), wrap_in (x := 0 - b) (by omega) (by omega)]
 by_cases h0 : a = 0
 ·subst h0
  exact ie rfl (mul_leaf (by simp))
 refine it (by simpa using h0) ?_
 refine iti (fun h1 => ?_) (fun h1 => ?_)
 ·have h1 := of_decide_eq_true h1
  refine iti (fun h2 => ?_) (fun h2 => ?_)
  ·have h2 := of_decide_eq_true h2
   exact ie (df (by omega)) (mul2_leaf (by omega) (by omega) (by omega) (by omega) (by omega))
  ·have h2 := of_decide_eq_false h2
   exact ie (df h0) (mul2_leaf (by omega) (by omega) rfl (by omega) (by omega))
 ·have h1 := of_decide_eq_false h1
  refine iti (fun h2 => ?_) (fun h2 => ?_)
  ·have h2 := of_decide_eq_true h2
   exact ie (df (by omega)) (mul2_leaf (by omega) (by omega) (by omega) rfl (by omega))
  ·have h2 := of_decide_eq_false h2
   exact ie (df h0) (mul2_leaf (by omega) (by omega) rfl rfl (by omega))
end
end Go.Proofs.Sf
namespace Go.Proofs.Sf
open Go Go.Ef
noncomputable section
set_option maxRecDepth 100000
theorem lt64 {u : Int} (h : 0 ≤ u ∧ u < 18446744073709551616) : ∃ n : Nat, u = n ∧ n < 18446744073709551616 := ⟨u.toNat, by omega, by omega⟩
theorem wrapN {x : Int} (h0 : 0 ≤ x) (h1 : x < 18446744073709551616) : IntKind.u64.wrap x = x := by rw [wrapU64]; omega
theorem ofInt64 {n : Nat} (h : n < 18446744073709551616) : (BitVec.ofInt 64 (n : Int)).toNat = n := by
 rw [BitVec.ofInt_natCast, BitVec.toNat_ofNat]
 exact Nat.mod_eq_of_lt (by simpa using h)
theorem and32 {n : Nat} (h : n < 18446744073709551616) : IntKind.u64.wrap (((BitVec.ofInt 64 (n : Int) &&& BitVec.ofInt 64 4294967295).toNat : Nat) : Int) = ((n % 4294967296 : Nat) : Int) := by
 have e : (BitVec.ofInt 64 (n : Int) &&& BitVec.ofInt 64 4294967295).toNat = n % 4294967296 := by
  rw [BitVec.toNat_and, ofInt64 h, show (BitVec.ofInt 64 4294967295).toNat = 2 ^ 32 - 1 by decide, Nat.and_two_pow_sub_one_eq_mod]
 rw [e]
 exact wrapN (by omega) (by omega)
theorem fdivN (n k : Nat) : (n : Int).fdiv (k : Int) = ((n / k : Nat) : Int) := by
 rw [Int.fdiv_eq_ediv_of_nonneg _ (by omega)]; rfl
theorem or_add {a b : Nat} (hb : b < 1125899906842624) (h : a * 1125899906842624 < 18446744073709551616) :
  IntKind.u64.wrap (((BitVec.ofInt 64 ((a * 1125899906842624 : Nat) : Int) ||| BitVec.ofInt 64 (b : Int)).toNat : Nat) : Int) = ((a * 1125899906842624 + b : Nat) : Int) := by
 have e : (BitVec.ofInt 64 ((a * 1125899906842624 : Nat) : Int) ||| BitVec.ofInt 64 (b : Int)).toNat = a * 1125899906842624 + b := by
  rw [BitVec.toNat_or, ofInt64 h, ofInt64 (by omega)]
  have := Nat.shiftLeft_add_eq_or_of_lt (i := 50) (b := b) (by simpa using hb) a
  rw [Nat.shiftLeft_eq] at this
  exact this.symm
 rw [e]
 exact wrapN (by omega) (by omega)
theorem mul64_law (x y : Nat) (hx : x < 18446744073709551616) (hy : y < 18446744073709551616) : wpCall tab0 cfg Tryz.prog 60 352 [wA x, wA y] heapF fun r h' => wpBack h' r fun v => v = .tup [wA (((x : Int) * y) / 18446744073709551616), wA (((x : Int) * y) % 18446744073709551616)] := by
 refine vMul64 x y _ ?_
 obtain ⟨h1, h2, h3, h4⟩ := Lib.mul64_hi x y hx hy
 have f (n : Nat) : (n : Int).fdiv 4294967296 = ((n / 4294967296 : Nat) : Int) := fdivN n 4294967296
 have lt1 : x / 4294967296 * (y / 4294967296) < 18446744073709551616 := by
  have := Lib.half_mul_le (a := x / 4294967296) (b := y / 4294967296) (by omega) (by omega)
  omega
 have lt2 : x / 4294967296 * (y % 4294967296) < 18446744073709551616 := by
  have := Lib.half_mul_le (a := x / 4294967296) (b := y % 4294967296) (by omega) (by omega)
  omega
 have lt3 : x % 4294967296 * (y / 4294967296) < 18446744073709551616 := by
  have := Lib.half_mul_le (a := x % 4294967296) (b := y / 4294967296) (by omega) (by omega)
  omega
 have hp : x * y / 18446744073709551616 < 18446744073709551616 := Nat.div_lt_of_lt_mul (Nat.mul_lt_mul'' hx hy)
 have lt4 : x / 4294967296 * (y / 4294967296) + (x / 4294967296 * (y % 4294967296) + x % 4294967296 * (y % 4294967296) / 4294967296) / 4294967296 < 18446744073709551616 := by
  rw [← h4] at hp; exact Nat.lt_of_le_of_lt (Nat.le_add_right _ _) hp
 have lt5 := hp
 rw [← h4] at lt5
 have w (n : Nat) (h : n < 18446744073709551616) : IntKind.u64.wrap (n : Int) = n := wrapN (by omega) (by omega)
 rw [f x, f y, and32 hx, and32 hy]
 rw [← Int.natCast_mul, w _ lt1, ← Int.natCast_mul, w _ lt2, ← Int.natCast_mul, w _ h1, f, ← Int.natCast_add, w _ h2, f, and32 h2, ← Int.natCast_mul, w _ lt3, ← Int.natCast_add, w _ lt4, ← Int.natCast_add, w _ h3, f, ← Int.natCast_add, w _ lt5, h4, ← Int.natCast_mul, wrapU64]
 rfl
theorem ok352 {T : Tab} (O : Ok T) : Ok (T.addC 352 C352) := by
 refine addC_ok O fun args h s hs hp => ?_
 unfold C352 at hs
 split at hs
 ·rename_i x y
  refine nspec_ok (Option.some.inj hs) (fun hp => ?_) hp
  obtain ⟨n, rfl, hn⟩ := lt64 hp.l
  obtain ⟨m, rfl, hm⟩ := lt64 hp.r
  exact EvP.freshV ok0 (n := 60) (by kernel_rfl) rfl (args' := [wA n, wA m]) rfl (mul64_law n m hn hm)
 ·cases hs
theorem loop18 (u v w q r : Int) (h : q < 4294967296) : Ev cfg Tryz.prog 354 (.loop (loopAt Tryz.prog 354 18)) (I18 u v w q r) fun e τ => e = .exit 0 ∧ τ = I18 u v w q r := by
 refine Ev.round (O := ok0) (n := 60) (t := ⟨[2, 8, 9, 10, 11, 13, 14, 15, 16], [2, 8, 9, 10, 11, 13, 14, 15, 16], 0⟩) (by kernel_rfl) rfl rfl (rDiv1 u v w q r False (fun k q' r' => k = 0 ∧ q' = q ∧ r' = r) ?_) (fun _ h => h.elim) (fun e τ hx => ?_)
 ·refine ie (df (by omega)) (ie (df ?_) ⟨rfl, rfl, rfl, rfl⟩)
  rw [Int.mul_zero, wrapU64, wrapU64, wrapU64]
  omega
 ·unfold q18 at hx
  split at hx
  ·obtain ⟨h1, rfl, h2, h3⟩ := hx
   rw [h2, h3] at h1
   exact ⟨rfl, h1⟩
  ·exact hx.elim
theorem loop25 (w q r x z : Int) (h : z < 4294967296) : Ev cfg Tryz.prog 354 (.loop (loopAt Tryz.prog 354 25)) (I25 w q r x z) fun e τ => e = .exit 2 ∧ τ = I25 w q r x z := by
 refine Ev.round (O := ok0) (n := 60) (t := ⟨[2, 8, 9, 10, 14, 15, 16, 17, 18], [2, 8, 9, 10, 14, 15, 16, 17, 18], 0⟩) (by kernel_rfl) rfl rfl (rDiv2 w q r x z False (fun k r' z' => k = 2 ∧ r' = r ∧ z' = z) ?_) (fun _ h => h.elim) (fun e τ hx => ?_)
 ·refine ie (df (by omega)) (ie (df ?_) ⟨rfl, rfl, rfl, rfl⟩)
  rw [Int.mul_zero, wrapU64, wrapU64, wrapU64]
  omega
 ·unfold q25 at hx
  split at hx
  ·obtain ⟨h1, rfl, h2, h3⟩ := hx
   rw [h2, h3] at h1
   exact ⟨rfl, h1⟩
  ·exact hx.elim
end
end Go.Proofs.Sf
namespace Go.Proofs.Sf
open Go Go.Ef
noncomputable section
set_option maxRecDepth 100000
theorem okL18 {T : Tab} (O : Ok T) : Ok (T.addL 354 18 L18) := by
 refine addL_ok O fun σ s hs hp => ?_
 refine lspec_ok (Option.some.inj hs) (fun ⟨h1, h2⟩ => ?_) hp
 refine Ev.tidied (t := ⟨[2, 8, 9, 10, 11, 13, 14, 15, 16], [2, 8, 9, 10, 11, 13, 14, 15, 16], 0⟩) (τ := I18 (slI σ 11) (slI σ 13) (slI σ 14) (slI σ 15) (slI σ 16)) (by kernel_rfl) h1 ?_
 obtain ⟨m, e, τ, g1, g2, g3⟩ := loop18 (slI σ 11) (slI σ 13) (slI σ 14) (slI σ 15) (slI σ 16) h2.lt
 exact ⟨m, e, τ, g1, (), trivial, g2, g3⟩
theorem okL25 {T : Tab} (O : Ok T) : Ok (T.addL 354 25 L25) := by
 refine addL_ok O fun σ s hs hp => ?_
 refine lspec_ok (Option.some.inj hs) (fun ⟨h1, h2⟩ => ?_) hp
 refine Ev.tidied (t := ⟨[2, 8, 9, 10, 14, 15, 16, 17, 18], [2, 8, 9, 10, 14, 15, 16, 17, 18], 0⟩) (τ := I25 (slI σ 14) (slI σ 15) (slI σ 16) (slI σ 17) (slI σ 18)) (by kernel_rfl) h1 ?_
 obtain ⟨m, e, τ, g1, g2, g3⟩ := loop25 (slI σ 14) (slI σ 15) (slI σ 16) (slI σ 17) (slI σ 18) h2.lt
 exact ⟨m, e, τ, g1, (), trivial, g2, g3⟩
theorem okDiv : Ok TDiv := name_ok (name_ok (name_ok (name_ok (name_ok (name_ok (name_ok (okL25 (okL18 ok0)) _ _) _ _) _ _) _ _) _ _) _ _) _ _
theorem sub_split {u c r : Nat} (h : c ≤ u) (hr : u - c = r) : u = c + r := by omega
theorem lin_split (q r v : Nat) : ((q * 2621440000 + r : Nat) : Int) * 4294967296 + ((v : Int) - (q : Int) * 11258999068426240000) = ((r * 4294967296 + v : Nat) : Int) := by omega
theorem lt_cast {u : Nat} (h : u < 11258999068426240000) : (u : Int) < 18446744073709551616 := by omega
theorem mods (W A B C : Int) : ((A % W + B) % W - C % W) % W = (A + (B - C)) % W := by
 rw [← Int.sub_emod, Int.add_sub_assoc, Int.emod_add_emod]
theorem div64_law (hi lo : Nat) (hh : hi < 10000) (hl : lo < 18446744073709551616) :
  wpCall TDiv cfg Tryz.prog 60 354 [wA hi, wA lo, wA 10000] heapF fun r h' => wpBack h' r fun v => ∃ q : Int × Int, q.1 = ((hi : Int) * 18446744073709551616 + lo) / 10000 ∧ v = .tup [wA q.1, wA q.2] := by
 have tn (a k : Nat) : Int.tdiv (a : Int) (k : Int) = ((a / k : Nat) : Int) := rfl
 refine vDiv64 hi lo _ (ie (df (by omega)) (iti (fun h0 => ?_) (fun h0 => ?_)))
 ·have h0 : (hi : Int) = 0 := by simpa using h0
  refine ⟨(_, _), ?_, rfl⟩
  show IntKind.u64.wrap (Int.tdiv (lo : Int) (10000 : Nat)) = _
  rw [tn, wrapN (by omega) (by omega), h0]
  omega
 intro m hm m1 hm1 m2 hm2 m3 hm3 m4 hm4
 obtain ⟨u, hu⟩ : ∃ u : Nat, u = hi * 1125899906842624 + lo / 16384 := ⟨_, rfl⟩
 obtain ⟨q1, hq⟩ : ∃ q : Nat, q = u / 2621440000 := ⟨_, rfl⟩
 obtain ⟨u1, h1⟩ : ∃ q : Nat, q = lo % 16384 * 262144 := ⟨_, rfl⟩
 obtain ⟨u2, h2⟩ : ∃ q : Nat, q = (u - q1 * 2621440000) * 4294967296 + u1 := ⟨_, rfl⟩
 obtain ⟨d1, d2, d3, d4, d5⟩ := div_words hh hl hu hq h1 h2
 have em : m = u := by
  rw [hm, show (lo : Int).fdiv 16384 = ((lo / 16384 : Nat) : Int) from fdivN lo 16384, show IntKind.u64.wrap ((hi : Int) * 1125899906842624) = ((hi * 1125899906842624 : Nat) : Int) by rw [show (hi : Int) * 1125899906842624 = ((hi * 1125899906842624 : Nat) : Int) by omega]; exact wrapN (by omega) (by omega), or_add (b := lo / 16384) (a := hi) (by omega) (by omega), ← hu]
 have e1 : m1 = u1 := by
  rw [hm1, show IntKind.u64.wrap ((lo : Int) * 1125899906842624) = ((lo % 16384 * 1125899906842624 : Nat) : Int) by rw [wrapU64]; omega,
   show ((lo % 16384 * 1125899906842624 : Nat) : Int).fdiv 4294967296 = ((lo % 16384 * 1125899906842624 / 4294967296 : Nat) : Int) from fdivN _ 4294967296, h1]
  omega
 have e3 : m3 = q1 := by
  rw [hm3, em]
  show IntKind.u64.wrap (Int.tdiv (u : Int) ((2621440000 : Nat) : Int)) = _
  rw [tn, ← hq, wrapN (by omega) (by omega)]
 refine ⟨rfl, ⟨rfl, ⟨by omega⟩⟩, fun _ _ m5 hm5 m6 hm6 m7 hm7 => ?_⟩
 have e5 : m5 = u2 := by
  rw [hm5, em, e1, e3, wrapU64, wrapU64, wrapU64, wrapU64, mods]
  obtain ⟨r, hr⟩ : ∃ r : Nat, u - q1 * 2621440000 = r := ⟨_, rfl⟩
  have hur : u = q1 * 2621440000 + r := sub_split (by rw [hq]; exact Nat.div_mul_le_self _ _) hr
  rw [hr] at h2
  have e : (u : Int) * 4294967296 + (u1 - (q1 : Int) * 11258999068426240000) = (u2 : Int) := by
   rw [hur, h2]
   exact lin_split _ _ _
  rw [e]
  exact Int.emod_eq_of_lt (Int.natCast_nonneg _) (lt_cast d3)
 have e6 : m6 = ((u2 / 2621440000 : Nat) : Int) := by
  rw [hm6, e5]
  show IntKind.u64.wrap (Int.tdiv (u2 : Int) ((2621440000 : Nat) : Int)) = _
  rw [tn, wrapN (by omega) (by omega)]
 refine ⟨rfl, ⟨rfl, ⟨by omega⟩⟩, fun _ _ => ⟨(_, _), ?_, rfl⟩⟩
 show IntKind.u64.wrap (IntKind.u64.wrap (m3 * 4294967296) + m6) = _
 rw [e3, e6, wrapN (x := (q1 : Int) * 4294967296) (by omega) (by omega), wrapN (by omega) (by omega)]
 omega
theorem ok354 {T : Tab} (O : Ok T) : Ok (T.addC 354 C354) := by
 refine addC_ok O fun args h s hs hp => ?_
 unfold C354 at hs
 split at hs
 ·rename_i hi lo
  cases hs
  obtain ⟨⟨a1, a2⟩, ⟨b1, b2⟩⟩ := hp
  obtain ⟨n, rfl⟩ : ∃ n : Nat, hi = n := ⟨hi.toNat, by omega⟩
  obtain ⟨k, rfl⟩ : ∃ n : Nat, lo = n := ⟨lo.toNat, by omega⟩
  obtain ⟨m, v, h', e, ⟨q, hq, rfl⟩, rfl⟩ := EvP.freshK (g := 354) (args := [wA n, wA k, wA 10000]) (h := h) okDiv (n := 60) (by kernel_rfl) rfl (args' := [wA n, wA k, wA 10000]) rfl (div64_law n k (by omega) (by omega))
  exact ⟨_, List.mem_singleton.2 rfl, q, m, hq, e⟩
 ·cases hs
theorem size_wrap {a : Int} (h : okD a = true) : IntKind.u64.wrap (max a (IntKind.i64.wrap (0 - a))) = (a.natAbs : Int) := by
 rw [okD_iff] at h
 rw [wrap_in (by omega) (by omega), wrapN (by omega) (by omega)]
 omega
theorem sign_mul {a b : Int} {q : Nat} (h : q = (a * b).natAbs / 10000) : (a < 0 ↔ b < 0) → (a * b).tdiv 10000 = q := by
 intro hs
 have hp : 0 ≤ a * b := by
  by_cases ha : a < 0
  ·exact Int.mul_nonneg_of_nonpos_of_nonpos (by omega) (by have := hs.1 ha; omega)
  ·exact Int.mul_nonneg (by omega) (Int.not_lt.1 fun hb => ha (hs.2 hb))
 obtain ⟨n, hn⟩ : ∃ n : Nat, a * b = n := ⟨(a * b).toNat, by omega⟩
 rw [hn] at h ⊢
 rw [h]; rfl
theorem sign_mul2 {a b : Int} {q : Nat} (h : q = (a * b).natAbs / 10000) : ¬(a < 0 ↔ b < 0) → (a * b).tdiv 10000 = -(q : Int) := by
 intro hs
 have hp : a * b ≤ 0 := by
  by_cases ha : a < 0
  ·exact Int.mul_nonpos_of_nonpos_of_nonneg (by omega) (Int.not_lt.1 fun hb => hs ⟨fun _ => hb, fun _ => ha⟩)
  ·exact Int.mul_nonpos_of_nonneg_of_nonpos (by omega) (by
    by_cases hb : b < 0
    ·omega
    ·exact absurd ⟨fun q => absurd q ha, fun q => absurd q hb⟩ hs)
 obtain ⟨n, hn⟩ : ∃ n : Nat, a * b = -(n : Int) := ⟨(-(a * b)).toNat, by omega⟩
 rw [hn] at h ⊢
 rw [h, Int.natAbs_neg, Int.neg_tdiv]; rfl
theorem wMul (a b : Int) (ha : okD a = true) (hb : okD b = true) : wpCall TMul cfg Tryz.prog 60 274 [iA a, iA b] heapF fun r h' => wpBack h' r (QD (mulF a b)) := by
 refine vMul a b _ (both ha hb ?_)
 rw [size_wrap ha, size_wrap hb]
 have ha' := okD_iff.1 ha
 have hb' := okD_iff.1 hb
 refine ⟨⟨by omega, by omega⟩, fun x hx => ?_⟩
 have hab : (a * b).natAbs = a.natAbs * b.natAbs := Int.natAbs_mul a b
 obtain ⟨N, hN⟩ : ∃ N : Nat, N = a.natAbs * b.natAbs := ⟨_, rfl⟩
 have hxN : x = (N : Int) := by rw [hx, hN]; exact (Int.natCast_mul _ _).symm
 subst hxN
 rw [← hN] at hab
 have lim : N ≤ 10000000000000 * 10000000000000 := by rw [hN]; exact Nat.mul_le_mul (by omega) (by omega)
 refine iti (fun h => QD.none (mulF_none ?_) (by decide)) (fun h => ⟨⟨by have := of_decide_eq_false h; omega, by omega⟩, fun q hq => ?_⟩)
 ·have := of_decide_eq_true h; omega
 have hq' : q.1 = ((N / 10000 : Nat) : Int) := by rw [hq]; omega
 refine iti (fun h2 => QD.none (mulF_none ?_) (by decide)) (fun h2 => ?_)
 ·have := of_decide_eq_true h2; omega
 have h2 := of_decide_eq_false h2
 have hsome := mulF_some (a := a) (b := b) (by omega)
 have hw : IntKind.i64.wrap q.1 = ((N / 10000 : Nat) : Int) := by rw [hq']; exact wrap_in (by omega) (by omega)
 have hw2 : IntKind.i64.wrap (0 - IntKind.i64.wrap q.1) = -((N / 10000 : Nat) : Int) := by rw [hw, wrap_in (by omega) (by omega)]; omega
 have e1 := sign_mul (a := a) (b := b) (q := N / 10000) (by rw [hab])
 have e2 := sign_mul2 (a := a) (b := b) (q := N / 10000) (by rw [hab])
 refine iti (fun h3 => iti (fun h4 => ?_) (fun h4 => ?_)) (fun h3 => iti (fun h4 => ?_) (fun h4 => ?_))
 ·have h3 := of_decide_eq_true h3
  have h4 := of_decide_eq_true h4
  exact QD.some (by rw [hsome, e1 ⟨fun _ => h4, fun _ => h3⟩, hw])
 ·have h3 := of_decide_eq_true h3
  have h4 := of_decide_eq_false h4
  exact QD.some (by rw [hsome, e2 fun q => h4 (q.1 h3), hw2])
 ·have h3 := of_decide_eq_false h3
  have h4 := of_decide_eq_true h4
  exact QD.some (by rw [hsome, e2 fun q => h3 (q.2 h4), hw2])
 ·have h3 := of_decide_eq_false h3
  have h4 := of_decide_eq_false h4
  exact QD.some (by rw [hsome, e1 ⟨fun q => absurd q h3, fun q => absurd q h4⟩, hw])
theorem okMulT : Ok TMul := ok354 (ok352 ok0)
theorem okPowT : Ok TPow := dec_ok (dec_ok ok0 okMulT (by kernel_rfl) wMul) ok0 (by kernel_rfl) wDiv
theorem okPow2T : Ok TPow2 := dec_ok (dec_ok ok0 ok0 (by kernel_rfl) wMul2) ok0 (by kernel_rfl) wDiv2
end
end Go.Proofs.Sf
namespace Go.Proofs.Sf
open Go Go.Ef
noncomputable section
set_option maxRecDepth 100000
theorem vPow (a : Int) (n : Int) (K : AV → Prop) (h :
 iteP (decide ((-10000000000000 : Int) ≤ a))
 (iteP (decide (a ≤ (10000000000000 : Int)))
 (iteP (decide (n < (-64 : Int)))
 (K (AV.tup [AV.sc (Value.int IntKind.i64 (0 : Int)), AV.sc (Value.int IntKind.i64 (2 : Int))]))
 (iteP (decide ((64 : Int) < n))
 (K (AV.tup [AV.sc (Value.int IntKind.i64 (0 : Int)), AV.sc (Value.int IntKind.i64 (2 : Int))]))
 (loopAt Tryz.prog (277 : Nat) (6 : Nat) = loopAt Tryz.prog (277 : Nat) (6 : Nat) ∧
 (I277 a n (10000 : Int) (max n (IntKind.i64.wrap ((0 : Int) - n))) (0 : Int) =
 I277 a n (10000 : Int) (max n (IntKind.i64.wrap ((0 : Int) - n))) (0 : Int) ∧
 Pre277 a n ∧ IsMax (max n (IntKind.i64.wrap ((0 : Int) - n))) n) ∧
 (∀ (x : Int),
 Is (powN a (sizeN n)) x →
 iteP (decide (n < (0 : Int)))
 (D2 (10000 : Int) x ∧
 (∀ (x_1 : Int),
 Is (divF (10000 : Int) x) x_1 →
 K (AV.tup [AV.sc (Value.int IntKind.i64 x_1), AV.sc (Value.int IntKind.i64 (0 : Int))])) ∧
 ∀ (x_1 : Int),
 Non (divF (10000 : Int) x) x_1 →
 K (AV.tup [AV.sc (Value.int IntKind.i64 (0 : Int)), AV.sc (Value.int IntKind.i64 x_1)]))
 (K (AV.tup [AV.sc (Value.int IntKind.i64 x), AV.sc (Value.int IntKind.i64 (0 : Int))]))) ∧
 ∀ (x : Int × Int),
 Non (powN a (sizeN n)) x.fst →
 K (AV.tup [AV.sc (Value.int IntKind.i64 (0 : Int)), AV.sc (Value.int IntKind.i64 x.fst)]))))
 (K (AV.tup [AV.sc (Value.int IntKind.i64 (0 : Int)), AV.sc (Value.int IntKind.i64 (2 : Int))])))
 (K (AV.tup [AV.sc (Value.int IntKind.i64 (0 : Int)), AV.sc (Value.int IntKind.i64 (2 : Int))]))) :
 (fun (a n : Int) (K : AV → Prop) => wpCall TPw cfg Tryz.prog 60 277 [iA a, iA n] heapF fun r h' => wpBack h' r K) a n K :=
 Eq.mp (by kernel_rfl) h
theorem vPwr (a : Int) (n : Int) (K : AV → Prop) (h :
 loopAt Tryz.prog (132 : Nat) (4 : Nat) = loopAt Tryz.prog (132 : Nat) (4 : Nat) ∧
 (I132 a n (10000 : Int) (0 : Int) = I132 a n (10000 : Int) (0 : Int) ∧ Pre277 a n) ∧
 (∀ (x : Int),
 Is (powN a n.toNat) x → K (AV.tup [AV.sc (Value.int IntKind.i64 x), AV.sc (Value.int IntKind.i64 (0 : Int))])) ∧
 ∀ (x : Int × Int),
 Non (powN a n.toNat) x.fst →
 K (AV.tup [AV.sc (Value.int IntKind.i64 (0 : Int)), AV.sc (Value.int IntKind.i64 x.fst)])) :
 (fun (a n : Int) (K : AV → Prop) => wpCall TPw2 cfg Tryz.prog 60 132 [iA a, iA n] heapF fun r h' => wpBack h' r K) a n K :=
 Eq.mp (by kernel_rfl) h
theorem vPow2 (a : Int) (n : Int) (K : AV → Prop) (h :
 iteP (decide ((-10000000000000 : Int) ≤ a))
 (iteP (decide (a ≤ (10000000000000 : Int)))
 (iteP (decide (n < (-64 : Int)))
 (K (AV.tup [AV.sc (Value.int IntKind.i64 (0 : Int)), AV.sc (Value.int IntKind.i64 (2 : Int))]))
 (iteP (decide ((64 : Int) < n))
 (K (AV.tup [AV.sc (Value.int IntKind.i64 (0 : Int)), AV.sc (Value.int IntKind.i64 (2 : Int))]))
 (iteP (decide ((0 : Int) ≤ n))
 (PreP a n ∧
 (∀ (x : Int),
 Is (powN a n.toNat) x →
 K (AV.tup [AV.sc (Value.int IntKind.i64 x), AV.sc (Value.int IntKind.i64 (0 : Int))])) ∧
 ∀ (x : Int),
 Non (powN a n.toNat) x →
 K (AV.tup [AV.sc (Value.int IntKind.i64 (0 : Int)), AV.sc (Value.int IntKind.i64 x)]))
 (PreP a (IntKind.i64.wrap ((0 : Int) - n)) ∧
 (∀ (x : Int),
 Is (powN a (IntKind.i64.wrap ((0 : Int) - n)).toNat) x →
 D2 (10000 : Int) x ∧
 (∀ (x_1 : Int),
 Is (divF (10000 : Int) x) x_1 →
 K (AV.tup [AV.sc (Value.int IntKind.i64 x_1), AV.sc (Value.int IntKind.i64 (0 : Int))])) ∧
 ∀ (x_1 : Int),
 Non (divF (10000 : Int) x) x_1 →
 K (AV.tup [AV.sc (Value.int IntKind.i64 (0 : Int)), AV.sc (Value.int IntKind.i64 x_1)])) ∧
 ∀ (x : Int),
 Non (powN a (IntKind.i64.wrap ((0 : Int) - n)).toNat) x →
 iteP (x != (0 : Int))
 (K (AV.tup [AV.sc (Value.int IntKind.i64 (0 : Int)), AV.sc (Value.int IntKind.i64 x)]))
 (D2 (10000 : Int) (0 : Int) ∧
 (∀ (x : Int),
 Is none x →
 K (AV.tup [AV.sc (Value.int IntKind.i64 x), AV.sc (Value.int IntKind.i64 (0 : Int))])) ∧
 ∀ (x : Int),
 Non none x →
 K (AV.tup [AV.sc (Value.int IntKind.i64 (0 : Int)), AV.sc (Value.int IntKind.i64 x)]))))))
 (K (AV.tup [AV.sc (Value.int IntKind.i64 (0 : Int)), AV.sc (Value.int IntKind.i64 (2 : Int))])))
 (K (AV.tup [AV.sc (Value.int IntKind.i64 (0 : Int)), AV.sc (Value.int IntKind.i64 (2 : Int))]))) :
 (fun (a n : Int) (K : AV → Prop) => wpCall TPw3 cfg Tryz.prog 60 92 [iA a, iA n] heapF fun r h' => wpBack h' r K) a n K :=
 Eq.mp (by kernel_rfl) h
theorem vAr (op : List UInt8) (a : Int) (b : Int) (K : AV → Prop) (h :
 D1 a ∧
 ∀ (_ : Unit),
 True →
 D1 b ∧
 ∀ (_ : Unit),
 True →
 iteP (decide (op = [(43 : UInt8)]))
 (D2 a b ∧
 (∀ (x : Int),
 Is (addF a b) x →
 D1 x ∧
 ∀ (_ : Unit),
 True →
 K
 (AV.tup
 [AV.agg
 [AV.sc (Value.int IntKind.i64 (1 : Int)), AV.sc (Value.int IntKind.i64 x),
 AV.sc (Value.string (ByteArray.mk (Array.mk [])))],
 AV.sc (Value.int IntKind.i64 (0 : Int))])) ∧
 ∀ (x : Int),
 Non (addF a b) x →
 iteP (x != (0 : Int))
 (K
 (AV.tup
 [AV.agg
 [AV.sc (Value.int IntKind.i64 (0 : Int)), AV.sc (Value.int IntKind.i64 (0 : Int)),
 AV.sc (Value.string (ByteArray.mk (Array.mk [])))],
 AV.sc (Value.int IntKind.i64 x)]))
 (D1 (0 : Int) ∧
 ∀ (_ : Unit),
 True →
 K
 (AV.tup
 [AV.agg
 [AV.sc (Value.int IntKind.i64 (1 : Int)), AV.sc (Value.int IntKind.i64 (0 : Int)),
 AV.sc (Value.string (ByteArray.mk (Array.mk [])))],
 AV.sc (Value.int IntKind.i64 (0 : Int))])))
 (iteP (decide (op = [(45 : UInt8)]))
 (D2 a b ∧
 (∀ (x : Int),
 Is (subF a b) x →
 D1 x ∧
 ∀ (_ : Unit),
 True →
 K
 (AV.tup
 [AV.agg
 [AV.sc (Value.int IntKind.i64 (1 : Int)), AV.sc (Value.int IntKind.i64 x),
 AV.sc (Value.string (ByteArray.mk (Array.mk [])))],
 AV.sc (Value.int IntKind.i64 (0 : Int))])) ∧
 ∀ (x : Int),
 Non (subF a b) x →
 iteP (x != (0 : Int))
 (K
 (AV.tup
 [AV.agg
 [AV.sc (Value.int IntKind.i64 (0 : Int)), AV.sc (Value.int IntKind.i64 (0 : Int)),
 AV.sc (Value.string (ByteArray.mk (Array.mk [])))],
 AV.sc (Value.int IntKind.i64 x)]))
 (D1 (0 : Int) ∧
 ∀ (_ : Unit),
 True →
 K
 (AV.tup
 [AV.agg
 [AV.sc (Value.int IntKind.i64 (1 : Int)),
 AV.sc (Value.int IntKind.i64 (0 : Int)),
 AV.sc (Value.string (ByteArray.mk (Array.mk [])))],
 AV.sc (Value.int IntKind.i64 (0 : Int))])))
 (iteP (decide (op = [(42 : UInt8)]))
 (D2 a b ∧
 (∀ (x : Int),
 Is (mulF a b) x →
 D1 x ∧
 ∀ (_ : Unit),
 True →
 K
 (AV.tup
 [AV.agg
 [AV.sc (Value.int IntKind.i64 (1 : Int)), AV.sc (Value.int IntKind.i64 x),
 AV.sc (Value.string (ByteArray.mk (Array.mk [])))],
 AV.sc (Value.int IntKind.i64 (0 : Int))])) ∧
 ∀ (x : Int),
 Non (mulF a b) x →
 iteP (x != (0 : Int))
 (K
 (AV.tup
 [AV.agg
 [AV.sc (Value.int IntKind.i64 (0 : Int)), AV.sc (Value.int IntKind.i64 (0 : Int)),
 AV.sc (Value.string (ByteArray.mk (Array.mk [])))],
 AV.sc (Value.int IntKind.i64 x)]))
 (D1 (0 : Int) ∧
 ∀ (_ : Unit),
 True →
 K
 (AV.tup
 [AV.agg
 [AV.sc (Value.int IntKind.i64 (1 : Int)),
 AV.sc (Value.int IntKind.i64 (0 : Int)),
 AV.sc (Value.string (ByteArray.mk (Array.mk [])))],
 AV.sc (Value.int IntKind.i64 (0 : Int))])))
 (iteP (decide (op = [(47 : UInt8)]))
 (D2 a b ∧
 (∀ (x : Int),
 Is (divF a b) x →
 D1 x ∧
 ∀ (_ : Unit),
 True →
 K
 (AV.tup
 [AV.agg
 [AV.sc (Value.int IntKind.i64 (1 : Int)), AV.sc (Value.int IntKind.i64 x),
 AV.sc (Value.string (ByteArray.mk (Array.mk [])))],
 AV.sc (Value.int IntKind.i64 (0 : Int))])) ∧
 ∀ (x : Int),
 Non (divF a b) x →
 iteP (x != (0 : Int))
 (K
 (AV.tup
 [AV.agg
 [AV.sc (Value.int IntKind.i64 (0 : Int)), AV.sc (Value.int IntKind.i64 (0 : Int)),
 AV.sc (Value.string (ByteArray.mk (Array.mk [])))],
 AV.sc (Value.int IntKind.i64 x)]))
 (D1 (0 : Int) ∧
 ∀ (_ : Unit),
 True →
 K
 (AV.tup
 [AV.agg
 [AV.sc (Value.int IntKind.i64 (1 : Int)),
 AV.sc (Value.int IntKind.i64 (0 : Int)),
 AV.sc (Value.string (ByteArray.mk (Array.mk [])))],
 AV.sc (Value.int IntKind.i64 (0 : Int))])))
 (iteP (decide (op = [(37 : UInt8)]))
 (D2 a b ∧
 (∀ (x : Int),
 Is (modF a b) x →
 D1 x ∧
 ∀ (_ : Unit),
 True →
 K
 (AV.tup
 [AV.agg
 [AV.sc (Value.int IntKind.i64 (1 : Int)), AV.sc (Value.int IntKind.i64 x),
 AV.sc (Value.string (ByteArray.mk (Array.mk [])))],
 AV.sc (Value.int IntKind.i64 (0 : Int))])) ∧
 ∀ (x : Int),
 Non (modF a b) x →
 iteP (x != (0 : Int))
 (K
 (AV.tup
 [AV.agg
 [AV.sc (Value.int IntKind.i64 (0 : Int)),
 AV.sc (Value.int IntKind.i64 (0 : Int)),
 AV.sc (Value.string (ByteArray.mk (Array.mk [])))],
 AV.sc (Value.int IntKind.i64 x)]))
 (D1 (0 : Int) ∧
 ∀ (_ : Unit),
 True →
 K
 (AV.tup
 [AV.agg
 [AV.sc (Value.int IntKind.i64 (1 : Int)),
 AV.sc (Value.int IntKind.i64 (0 : Int)),
 AV.sc (Value.string (ByteArray.mk (Array.mk [])))],
 AV.sc (Value.int IntKind.i64 (0 : Int))])))
 (iteP (decide (op = [(94 : UInt8)]))
 (D1 b ∧
 ∀ (x : Int),
 x = b.tdiv (10000 : Int) →
 D1 a ∧
 (∀ (x_1 : Int),
 Is (powF a x) x_1 →
 D1 x_1 ∧
 ∀ (_ : Unit),
 True →
 K
 (AV.tup
 [AV.agg
 [AV.sc (Value.int IntKind.i64 (1 : Int)),
 AV.sc (Value.int IntKind.i64 x_1),
 AV.sc (Value.string (ByteArray.mk (Array.mk [])))],
 AV.sc (Value.int IntKind.i64 (0 : Int))])) ∧
 ∀ (x_1 : Int),
 Non (powF a x) x_1 →
 iteP (x_1 != (0 : Int))
 (K
 (AV.tup
 [AV.agg
 [AV.sc (Value.int IntKind.i64 (0 : Int)),
 AV.sc (Value.int IntKind.i64 (0 : Int)),
 AV.sc (Value.string (ByteArray.mk (Array.mk [])))],
 AV.sc (Value.int IntKind.i64 x_1)]))
 (D1 (0 : Int) ∧
 ∀ (_ : Unit),
 True →
 K
 (AV.tup
 [AV.agg
 [AV.sc (Value.int IntKind.i64 (1 : Int)),
 AV.sc (Value.int IntKind.i64 (0 : Int)),
 AV.sc (Value.string (ByteArray.mk (Array.mk [])))],
 AV.sc (Value.int IntKind.i64 (0 : Int))])))
 (K
 (AV.tup
 [AV.agg
 [AV.sc (Value.int IntKind.i64 (0 : Int)), AV.sc (Value.int IntKind.i64 (0 : Int)),
 AV.sc (Value.string (ByteArray.mk (Array.mk [])))],
 AV.sc (Value.int IntKind.i64 (7 : Int))])))))))) :
 (fun (op : List UInt8) (a b : Int) (K : AV → Prop) => wpCall TAr cfg Tryz.prog 60 207 [aStr op, .agg (numV a), .agg (numV b)] heapF fun r h' => wpBack h' r K) op a b K :=
 Eq.mp (by kernel_rfl) h
theorem vAr2 (op : List UInt8) (a : Int) (b : Int) (K : AV → Prop) (h :
 D1 a ∧
 ∀ (_ : Unit),
 True →
 D1 b ∧
 ∀ (_ : Unit),
 True →
 iteP (decide (op = [(43 : UInt8)]))
 (D2 a b ∧
 (∀ (x : Int),
 Is (addF a b) x →
 D1 x ∧
 ∀ (_ : Unit),
 True →
 K
 (AV.tup
 [AV.agg
 [AV.sc (Value.int IntKind.i64 (1 : Int)), AV.sc (Value.int IntKind.i64 x),
 AV.sc (Value.string (ByteArray.mk (Array.mk [])))],
 AV.sc (Value.int IntKind.i64 (0 : Int))])) ∧
 ∀ (x : Int),
 Non (addF a b) x →
 iteP (x != (0 : Int))
 (K
 (AV.tup
 [AV.agg
 [AV.sc (Value.int IntKind.i64 (0 : Int)), AV.sc (Value.int IntKind.i64 (0 : Int)),
 AV.sc (Value.string (ByteArray.mk (Array.mk [])))],
 AV.sc (Value.int IntKind.i64 x)]))
 (D1 (0 : Int) ∧
 ∀ (_ : Unit),
 True →
 K
 (AV.tup
 [AV.agg
 [AV.sc (Value.int IntKind.i64 (1 : Int)), AV.sc (Value.int IntKind.i64 (0 : Int)),
 AV.sc (Value.string (ByteArray.mk (Array.mk [])))],
 AV.sc (Value.int IntKind.i64 (0 : Int))])))
 (iteP (decide (op = [(45 : UInt8)]))
 (D2 a b ∧
 (∀ (x : Int),
 Is (subF a b) x →
 D1 x ∧
 ∀ (_ : Unit),
 True →
 K
 (AV.tup
 [AV.agg
 [AV.sc (Value.int IntKind.i64 (1 : Int)), AV.sc (Value.int IntKind.i64 x),
 AV.sc (Value.string (ByteArray.mk (Array.mk [])))],
 AV.sc (Value.int IntKind.i64 (0 : Int))])) ∧
 ∀ (x : Int),
 Non (subF a b) x →
 iteP (x != (0 : Int))
 (K
 (AV.tup
 [AV.agg
 [AV.sc (Value.int IntKind.i64 (0 : Int)), AV.sc (Value.int IntKind.i64 (0 : Int)),
 AV.sc (Value.string (ByteArray.mk (Array.mk [])))],
 AV.sc (Value.int IntKind.i64 x)]))
 (D1 (0 : Int) ∧
 ∀ (_ : Unit),
 True →
 K
 (AV.tup
 [AV.agg
 [AV.sc (Value.int IntKind.i64 (1 : Int)),
 AV.sc (Value.int IntKind.i64 (0 : Int)),
 AV.sc (Value.string (ByteArray.mk (Array.mk [])))],
 AV.sc (Value.int IntKind.i64 (0 : Int))])))
 (iteP (decide (op = [(42 : UInt8)]))
 (D2 a b ∧
 (∀ (x : Int),
 Is (mulF a b) x →
 D1 x ∧
 ∀ (_ : Unit),
 True →
 K
 (AV.tup
 [AV.agg
 [AV.sc (Value.int IntKind.i64 (1 : Int)), AV.sc (Value.int IntKind.i64 x),
 AV.sc (Value.string (ByteArray.mk (Array.mk [])))],
 AV.sc (Value.int IntKind.i64 (0 : Int))])) ∧
 ∀ (x : Int),
 Non (mulF a b) x →
 iteP (x != (0 : Int))
 (K
 (AV.tup
 [AV.agg
 [AV.sc (Value.int IntKind.i64 (0 : Int)), AV.sc (Value.int IntKind.i64 (0 : Int)),
 AV.sc (Value.string (ByteArray.mk (Array.mk [])))],
 AV.sc (Value.int IntKind.i64 x)]))
 (D1 (0 : Int) ∧
 ∀ (_ : Unit),
 True →
 K
 (AV.tup
 [AV.agg
 [AV.sc (Value.int IntKind.i64 (1 : Int)),
 AV.sc (Value.int IntKind.i64 (0 : Int)),
 AV.sc (Value.string (ByteArray.mk (Array.mk [])))],
 AV.sc (Value.int IntKind.i64 (0 : Int))])))
 (iteP (decide (op = [(47 : UInt8)]))
 (D2 a b ∧
 (∀ (x : Int),
 Is (divF a b) x →
 D1 x ∧
 ∀ (_ : Unit),
 True →
 K
 (AV.tup
 [AV.agg
 [AV.sc (Value.int IntKind.i64 (1 : Int)), AV.sc (Value.int IntKind.i64 x),
 AV.sc (Value.string (ByteArray.mk (Array.mk [])))],
 AV.sc (Value.int IntKind.i64 (0 : Int))])) ∧
 ∀ (x : Int),
 Non (divF a b) x →
 iteP (x != (0 : Int))
 (K
 (AV.tup
 [AV.agg
 [AV.sc (Value.int IntKind.i64 (0 : Int)), AV.sc (Value.int IntKind.i64 (0 : Int)),
 AV.sc (Value.string (ByteArray.mk (Array.mk [])))],
 AV.sc (Value.int IntKind.i64 x)]))
 (D1 (0 : Int) ∧
 ∀ (_ : Unit),
 True →
 K
 (AV.tup
 [AV.agg
 [AV.sc (Value.int IntKind.i64 (1 : Int)),
 AV.sc (Value.int IntKind.i64 (0 : Int)),
 AV.sc (Value.string (ByteArray.mk (Array.mk [])))],
 AV.sc (Value.int IntKind.i64 (0 : Int))])))
 (iteP (decide (op = [(37 : UInt8)]))
 (D2 a b ∧
 (∀ (x : Int),
 Is (modF a b) x →
 D1 x ∧
 ∀ (_ : Unit),
 True →
 K
 (AV.tup
 [AV.agg
 [AV.sc (Value.int IntKind.i64 (1 : Int)), AV.sc (Value.int IntKind.i64 x),
 AV.sc (Value.string (ByteArray.mk (Array.mk [])))],
 AV.sc (Value.int IntKind.i64 (0 : Int))])) ∧
 ∀ (x : Int),
 Non (modF a b) x →
 iteP (x != (0 : Int))
 (K
 (AV.tup
 [AV.agg
 [AV.sc (Value.int IntKind.i64 (0 : Int)),
 AV.sc (Value.int IntKind.i64 (0 : Int)),
 AV.sc (Value.string (ByteArray.mk (Array.mk [])))],
 AV.sc (Value.int IntKind.i64 x)]))
 (D1 (0 : Int) ∧
 ∀ (_ : Unit),
 True →
 K
 (AV.tup
 [AV.agg
 [AV.sc (Value.int IntKind.i64 (1 : Int)),
 AV.sc (Value.int IntKind.i64 (0 : Int)),
 AV.sc (Value.string (ByteArray.mk (Array.mk [])))],
 AV.sc (Value.int IntKind.i64 (0 : Int))])))
 (iteP (decide (op = [(94 : UInt8)]))
 (D1 b ∧
 ∀ (x : Int),
 x = b.tdiv (10000 : Int) →
 D1 a ∧
 (∀ (x_1 : Int),
 Is (powF a x) x_1 →
 D1 x_1 ∧
 ∀ (_ : Unit),
 True →
 K
 (AV.tup
 [AV.agg
 [AV.sc (Value.int IntKind.i64 (1 : Int)),
 AV.sc (Value.int IntKind.i64 x_1),
 AV.sc (Value.string (ByteArray.mk (Array.mk [])))],
 AV.sc (Value.int IntKind.i64 (0 : Int))])) ∧
 ∀ (x_1 : Int),
 Non (powF a x) x_1 →
 iteP (x_1 != (0 : Int))
 (K
 (AV.tup
 [AV.agg
 [AV.sc (Value.int IntKind.i64 (0 : Int)),
 AV.sc (Value.int IntKind.i64 (0 : Int)),
 AV.sc (Value.string (ByteArray.mk (Array.mk [])))],
 AV.sc (Value.int IntKind.i64 x_1)]))
 (D1 (0 : Int) ∧
 ∀ (_ : Unit),
 True →
 K
 (AV.tup
 [AV.agg
 [AV.sc (Value.int IntKind.i64 (1 : Int)),
 AV.sc (Value.int IntKind.i64 (0 : Int)),
 AV.sc (Value.string (ByteArray.mk (Array.mk [])))],
 AV.sc (Value.int IntKind.i64 (0 : Int))])))
 (K
 (AV.tup
 [AV.agg
 [AV.sc (Value.int IntKind.i64 (0 : Int)), AV.sc (Value.int IntKind.i64 (0 : Int)),
 AV.sc (Value.string (ByteArray.mk (Array.mk [])))],
 AV.sc (Value.int IntKind.i64 (7 : Int))])))))))) :
 (fun (op : List UInt8) (a b : Int) (K : AV → Prop) => wpCall TAr2 cfg Tryz.prog 60 25 [aStr op, .agg (numV a), .agg (numV b)] heapF fun r h' => wpBack h' r K) op a b K :=
 Eq.mp (by kernel_rfl) h
theorem vCmp (nm : List UInt8) (lo : List UInt8) (up : List UInt8) (W : List (List AV)) (a : Int) (b : Int) (K : AV → Prop) (h :
 iteP (true && (decide (a = b) && true)) (K (AV.sc (Value.int IntKind.i64 (0 : Int))))
 (D1 a ∧
 ∀ (_ : Unit),
 True →
 D1 b ∧
 ∀ (_ : Unit),
 True →
 iteP (a != a)
 (iteP (b != b) (K (AV.sc (Value.int IntKind.i64 (0 : Int))))
 (K (AV.sc (Value.int IntKind.i64 (-1 : Int)))))
 (iteP (b != b) (K (AV.sc (Value.int IntKind.i64 (1 : Int))))
 (iteP (decide (a < b)) (K (AV.sc (Value.int IntKind.i64 (-1 : Int))))
 (iteP (decide (b < a)) (K (AV.sc (Value.int IntKind.i64 (1 : Int))))
 (K (AV.sc (Value.int IntKind.i64 (0 : Int))))))))) :
 (fun (nm lo up : List UInt8) (W : List (List AV)) (a b : Int) (K : AV → Prop) => wpCall TCmp cfg Tryz.prog 60 156 [.agg (locV nm lo up W), .agg (numV a), .agg (numV b)] heapF fun r h' => wpBack h' r K) nm lo up W a b K :=
 Eq.mp (by kernel_rfl) h
theorem vBin (nm : List UInt8) (lo : List UInt8) (up : List UInt8) (W : List (List AV)) (op : List UInt8) (a : Int) (b : Int) (K : AV → Prop) (h :
 D2 a b ∧
 ∀ (x : Int),
 x = cmpI a b →
 iteP (decide (op = [(60 : UInt8)]))
 (iteP (decide (x < (0 : Int)))
 (D1 (10000 : Int) ∧
 ∀ (_ : Unit),
 True →
 K
 (AV.tup
 [AV.agg
 [AV.sc (Value.int IntKind.i64 (1 : Int)), AV.sc (Value.int IntKind.i64 (10000 : Int)),
 AV.sc (Value.string (ByteArray.mk (Array.mk [])))],
 AV.sc (Value.bool true)]))
 (D1 (0 : Int) ∧
 ∀ (_ : Unit),
 True →
 K
 (AV.tup
 [AV.agg
 [AV.sc (Value.int IntKind.i64 (1 : Int)), AV.sc (Value.int IntKind.i64 (0 : Int)),
 AV.sc (Value.string (ByteArray.mk (Array.mk [])))],
 AV.sc (Value.bool true)])))
 (iteP (decide (op = [(60 : UInt8), (61 : UInt8)]))
 (iteP (decide (x ≤ (0 : Int)))
 (D1 (10000 : Int) ∧
 ∀ (_ : Unit),
 True →
 K
 (AV.tup
 [AV.agg
 [AV.sc (Value.int IntKind.i64 (1 : Int)), AV.sc (Value.int IntKind.i64 (10000 : Int)),
 AV.sc (Value.string (ByteArray.mk (Array.mk [])))],
 AV.sc (Value.bool true)]))
 (D1 (0 : Int) ∧
 ∀ (_ : Unit),
 True →
 K
 (AV.tup
 [AV.agg
 [AV.sc (Value.int IntKind.i64 (1 : Int)), AV.sc (Value.int IntKind.i64 (0 : Int)),
 AV.sc (Value.string (ByteArray.mk (Array.mk [])))],
 AV.sc (Value.bool true)])))
 (iteP (decide (op = [(61 : UInt8), (61 : UInt8)]))
 (iteP (x == (0 : Int))
 (D1 (10000 : Int) ∧
 ∀ (_ : Unit),
 True →
 K
 (AV.tup
 [AV.agg
 [AV.sc (Value.int IntKind.i64 (1 : Int)), AV.sc (Value.int IntKind.i64 (10000 : Int)),
 AV.sc (Value.string (ByteArray.mk (Array.mk [])))],
 AV.sc (Value.bool true)]))
 (D1 (0 : Int) ∧
 ∀ (_ : Unit),
 True →
 K
 (AV.tup
 [AV.agg
 [AV.sc (Value.int IntKind.i64 (1 : Int)), AV.sc (Value.int IntKind.i64 (0 : Int)),
 AV.sc (Value.string (ByteArray.mk (Array.mk [])))],
 AV.sc (Value.bool true)])))
 (iteP (decide (op = [(33 : UInt8), (61 : UInt8)]))
 (iteP (x != (0 : Int))
 (D1 (10000 : Int) ∧
 ∀ (_ : Unit),
 True →
 K
 (AV.tup
 [AV.agg
 [AV.sc (Value.int IntKind.i64 (1 : Int)), AV.sc (Value.int IntKind.i64 (10000 : Int)),
 AV.sc (Value.string (ByteArray.mk (Array.mk [])))],
 AV.sc (Value.bool true)]))
 (D1 (0 : Int) ∧
 ∀ (_ : Unit),
 True →
 K
 (AV.tup
 [AV.agg
 [AV.sc (Value.int IntKind.i64 (1 : Int)), AV.sc (Value.int IntKind.i64 (0 : Int)),
 AV.sc (Value.string (ByteArray.mk (Array.mk [])))],
 AV.sc (Value.bool true)])))
 (iteP (decide (op = [(62 : UInt8)]))
 (iteP (decide ((0 : Int) < x))
 (D1 (10000 : Int) ∧
 ∀ (_ : Unit),
 True →
 K
 (AV.tup
 [AV.agg
 [AV.sc (Value.int IntKind.i64 (1 : Int)), AV.sc (Value.int IntKind.i64 (10000 : Int)),
 AV.sc (Value.string (ByteArray.mk (Array.mk [])))],
 AV.sc (Value.bool true)]))
 (D1 (0 : Int) ∧
 ∀ (_ : Unit),
 True →
 K
 (AV.tup
 [AV.agg
 [AV.sc (Value.int IntKind.i64 (1 : Int)), AV.sc (Value.int IntKind.i64 (0 : Int)),
 AV.sc (Value.string (ByteArray.mk (Array.mk [])))],
 AV.sc (Value.bool true)])))
 (iteP (decide (op = [(62 : UInt8), (61 : UInt8)]))
 (iteP (decide ((0 : Int) ≤ x))
 (D1 (10000 : Int) ∧
 ∀ (_ : Unit),
 True →
 K
 (AV.tup
 [AV.agg
 [AV.sc (Value.int IntKind.i64 (1 : Int)), AV.sc (Value.int IntKind.i64 (10000 : Int)),
 AV.sc (Value.string (ByteArray.mk (Array.mk [])))],
 AV.sc (Value.bool true)]))
 (D1 (0 : Int) ∧
 ∀ (_ : Unit),
 True →
 K
 (AV.tup
 [AV.agg
 [AV.sc (Value.int IntKind.i64 (1 : Int)), AV.sc (Value.int IntKind.i64 (0 : Int)),
 AV.sc (Value.string (ByteArray.mk (Array.mk [])))],
 AV.sc (Value.bool true)])))
 (D2 a b ∧
 (∀ (x : Int),
 Is (arithF op a b) x →
 K
 (AV.tup
 [AV.agg
 [AV.sc (Value.int IntKind.i64 (1 : Int)), AV.sc (Value.int IntKind.i64 x),
 AV.sc (Value.string (ByteArray.mk (Array.mk [])))],
 AV.sc (Value.bool true)])) ∧
 ∀ (x : Int),
 Non (arithF op a b) x →
 iteP (x == (0 : Int))
 (K
 (AV.tup
 [AV.agg
 [AV.sc (Value.int IntKind.i64 (0 : Int)), AV.sc (Value.int IntKind.i64 (0 : Int)),
 AV.sc (Value.string (ByteArray.mk (Array.mk [])))],
 AV.sc (Value.bool true)]))
 (K
 (AV.tup
 [AV.agg
 [AV.sc (Value.int IntKind.i64 (0 : Int)), AV.sc (Value.int IntKind.i64 (0 : Int)),
 AV.sc (Value.string (ByteArray.mk (Array.mk [])))],
 AV.sc (Value.bool false)]))))))))) :
 (fun (nm lo up : List UInt8) (W : List (List AV)) (op : List UInt8) (a b : Int) (K : AV → Prop) => wpCall TBin cfg Tryz.prog 60 110 [.agg (locV nm lo up W), aStr op, .agg (numV a), .agg (numV b)] heapF fun r h' => wpBack h' r K) nm lo up W op a b K :=
 Eq.mp (by kernel_rfl) h
theorem vConN (nm : List UInt8) (lo : List UInt8) (up : List UInt8) (W : List (List AV)) (d : Int) (at_ : Int) (K : AV → Prop) (h :
 iteP (decide ((-10000000000000 : Int) ≤ d))
 (iteP (decide (d ≤ (10000000000000 : Int)))
 (K
 (AV.tup
 [AV.agg
 [AV.sc (Value.int IntKind.i64 (1 : Int)),
 AV.sc (Value.int IntKind.i64 (min (max d (-10000000000000 : Int)) (10000000000000 : Int))),
 AV.sc (Value.string (ByteArray.mk (Array.mk [])))],
 AV.sc (Value.bool true)]))
 (K
 (AV.tup
 [AV.agg
 [AV.sc (Value.int IntKind.i64 (0 : Int)), AV.sc (Value.int IntKind.i64 (0 : Int)),
 AV.sc (Value.string (ByteArray.mk (Array.mk [])))],
 AV.sc (Value.bool false)])))
 (K
 (AV.tup
 [AV.agg
 [AV.sc (Value.int IntKind.i64 (0 : Int)), AV.sc (Value.int IntKind.i64 (0 : Int)),
 AV.sc (Value.string (ByteArray.mk (Array.mk [])))],
 AV.sc (Value.bool false)]))) :
 (fun (nm lo up : List UInt8) (W : List (List AV)) (d at_ : Int) (K : AV → Prop) => wpCall tab0 cfg Tryz.prog 60 30 [.agg (locV nm lo up W), .agg (numN d at_)] heapF fun r h' => wpBack h' r K) nm lo up W d at_ K :=
 Eq.mp (by kernel_rfl) h
theorem vConB (nm : List UInt8) (lo : List UInt8) (up : List UInt8) (W : List (List AV)) (op : List UInt8) (a : Int) (b : Int) (p : Int) (q : Int) (r : Int) (K : AV → Prop) (h :
 True ∧
 (∀ (x : Int),
 Is (numF a) x →
 True ∧
 (∀ (x_1 : Int),
 Is (numF b) x_1 →
 D2 x x_1 ∧
 (∀ (x_2 : Int),
 Is (foldF op x x_1) x_2 →
 K
 (AV.tup
 [AV.agg
 [AV.sc (Value.int IntKind.i64 (1 : Int)), AV.sc (Value.int IntKind.i64 x_2),
 AV.sc (Value.string (ByteArray.mk (Array.mk [])))],
 AV.sc (Value.bool true)])) ∧
 ∀ (_ : Unit),
 foldF op x x_1 = none →
 K
 (AV.tup
 [AV.agg
 [AV.sc (Value.int IntKind.i64 (0 : Int)), AV.sc (Value.int IntKind.i64 (0 : Int)),
 AV.sc (Value.string (ByteArray.mk (Array.mk [])))],
 AV.sc (Value.bool false)])) ∧
 ∀ (_ : Unit),
 numF b = none →
 K
 (AV.tup
 [AV.agg
 [AV.sc (Value.int IntKind.i64 (0 : Int)), AV.sc (Value.int IntKind.i64 (0 : Int)),
 AV.sc (Value.string (ByteArray.mk (Array.mk [])))],
 AV.sc (Value.bool false)])) ∧
 ∀ (_ : Unit),
 numF a = none →
 K
 (AV.tup
 [AV.agg
 [AV.sc (Value.int IntKind.i64 (0 : Int)), AV.sc (Value.int IntKind.i64 (0 : Int)),
 AV.sc (Value.string (ByteArray.mk (Array.mk [])))],
 AV.sc (Value.bool false)])) :
 (fun (nm lo up : List UInt8) (W : List (List AV)) (op : List UInt8) (a b p q r : Int) (K : AV → Prop) => wpCall TCon cfg Tryz.prog 60 30 [.agg (locV nm lo up W), .agg (binN op (numN a p) (numN b q) r)] heapF fun r h' => wpBack h' r K) nm lo up W op a b p q r K :=
 Eq.mp (by kernel_rfl) h
theorem vNodeN (nm : List UInt8) (lo : List UInt8) (up : List UInt8) (W : List (List AV)) (d : Int) (at_ : Int) (K : AV → Prop) (h :
 True ∧
 (∀ (x : Int),
 Is (numF d) x →
 K
 (AV.agg
 [AV.sc (Value.int IntKind.i64 (1 : Int)), AV.sc (Value.string (ByteArray.mk (Array.mk []))),
 AV.sc (Value.int IntKind.i64 x), AV.sc (Value.bool false), AV.sc (Value.slice none (0 : Nat) (0 : Nat)),
 AV.sc (Value.int IntKind.i64 at_)])) ∧
 ∀ (_ : Unit),
 numF d = none →
 K
 (AV.agg
 [AV.sc (Value.int IntKind.i64 (1 : Int)), AV.sc (Value.string (ByteArray.mk (Array.mk []))),
 AV.sc (Value.int IntKind.i64 d), AV.sc (Value.bool false), AV.sc (Value.slice none (0 : Nat) (0 : Nat)),
 AV.sc (Value.int IntKind.i64 at_)])) :
 (fun (nm lo up : List UInt8) (W : List (List AV)) (d at_ : Int) (K : AV → Prop) => wpCall TNode cfg Tryz.prog 60 43 [.agg (locV nm lo up W), .agg (numN d at_)] heapF fun r h' => wpBack h' r K) nm lo up W d at_ K :=
 Eq.mp (by kernel_rfl) h
theorem vNodeB (nm : List UInt8) (lo : List UInt8) (up : List UInt8) (W : List (List AV)) (op : List UInt8) (a : Int) (b : Int) (p : Int) (q : Int) (r : Int) (K : AV → Prop) (h :
 True ∧
 (∀ (x : Int),
 Is (nodeF op a b) x →
 K
 (AV.agg
 [AV.sc (Value.int IntKind.i64 (1 : Int)), AV.sc (Value.string (ByteArray.mk (Array.mk []))),
 AV.sc (Value.int IntKind.i64 x), AV.sc (Value.bool false), AV.sc (Value.slice none (0 : Nat) (0 : Nat)),
 AV.sc (Value.int IntKind.i64 r)])) ∧
 ∀ (_ : Unit),
 nodeF op a b = none →
 True ∧
 ∀ (_ : Unit),
 True →
 True ∧
 ∀ (_ : Unit),
 True →
 K
 (AV.agg
 [AV.sc (Value.int IntKind.i64 (13 : Int)), AV.sc (Value.string (ByteArray.mk (Array.mk op))),
 AV.sc (Value.int IntKind.i64 (0 : Int)), AV.sc (Value.bool false),
 AV.sl
 [[AV.sc (Value.int IntKind.i64 (1 : Int)),
 AV.sc (Value.string (ByteArray.mk (Array.mk []))), AV.sc (Value.int IntKind.i64 a),
 AV.sc (Value.bool false), AV.sc (Value.slice none (0 : Nat) (0 : Nat)),
 AV.sc (Value.int IntKind.i64 p)],
 [AV.sc (Value.int IntKind.i64 (1 : Int)),
 AV.sc (Value.string (ByteArray.mk (Array.mk []))), AV.sc (Value.int IntKind.i64 b),
 AV.sc (Value.bool false), AV.sc (Value.slice none (0 : Nat) (0 : Nat)),
 AV.sc (Value.int IntKind.i64 q)]]
 (0 : Nat),
 AV.sc (Value.int IntKind.i64 r)])) :
 (fun (nm lo up : List UInt8) (W : List (List AV)) (op : List UInt8) (a b p q r : Int) (K : AV → Prop) => wpCall TNode2 cfg Tryz.prog 60 43 [.agg (locV nm lo up W), .agg (binN op (numN a p) (numN b q) r)] heapF fun r h' => wpBack h' r K) nm lo up W op a b p q r K :=
 Eq.mp (by kernel_rfl) h
theorem vSameN (d : Int) (p : Int) (e : Int) (q : Int) (K : AV → Prop) (h :
 iteP (d == e) (iteP (p == q) (K (AV.sc (Value.bool true))) (K (AV.sc (Value.bool false))))
 (K (AV.sc (Value.bool false)))) :
 (fun (d p e q : Int) (K : AV → Prop) => wpCall tabX cfg Tryz.prog 60 14 [.agg (numN d p), .agg (numN e q)] heapF fun r h' => wpBack h' r K) d p e q K :=
 Eq.mp (by kernel_rfl) h
theorem vSameB (op : List UInt8) (op' : List UInt8) (a : Int) (a' : Int) (b : Int) (b' : Int) (p : Int) (p' : Int) (q : Int) (q' : Int) (r : Int) (r' : Int) (K : AV → Prop) (h :
 iteP (decide (op = op'))
 (iteP (r == r')
 (True ∧
 ∀ (x : Bool),
 x = (decide (a = a') && decide (p = p')) →
 iteP x
 (True ∧
 ∀ (x : Bool),
 x = (decide (b = b') && decide (q = q')) →
 iteP x (K (AV.sc (Value.bool true))) (K (AV.sc (Value.bool false))))
 (K (AV.sc (Value.bool false))))
 (K (AV.sc (Value.bool false))))
 (K (AV.sc (Value.bool false)))) :
 (fun (op op' : List UInt8) (a a' b b' p p' q q' r r' : Int) (K : AV → Prop) => wpCall TSame cfg Tryz.prog 60 14 [.agg (binN op (numN a p) (numN b q) r), .agg (binN op' (numN a' p') (numN b' q') r')] heapF fun r h' => wpBack h' r K) op op' a a' b b' p p' q q' r r' K :=
 Eq.mp (by kernel_rfl) h
end
end Go.Proofs.Sf
namespace Go.Proofs.Sf
open Go Go.Ef
noncomputable section
set_option maxRecDepth 100000
theorem loop277 (a n m : Int) (ha : okD a = true) : ∀ k i : Nat, (i : Int) + k = m → m ≤ 64 → ∀ p, powN a i = some p →
  Ev cfg Tryz.prog 277 (.loop (loopAt Tryz.prog 277 6)) (I277 a n p m i) fun e τ => (∃ x, powN a m.toNat = some x ∧ e = .exit 0 ∧ τ = X277 n x) ∨ ∃ x y, powN a m.toNat = none ∧ x ≠ 0 ∧ e = .ret ∧ τ = E277 n x y := by
 intro k
 induction k with
 | zero =>
  intro i hi hm p hp
  have hmi : m = i := by omega
  refine Ev.round (O := okPowT) (n := 60) (t := ⟨[0, 1, 6, 22, 23], [1, 4, 5, 6], 0⟩) (by kernel_rfl) (by kernel_rfl) rfl (rPow a n p m i (fun _ _ => False) (fun x => x = p) (fun _ _ => False) (ie (df (by omega)) ⟨rfl, rfl, rfl⟩)) (fun _ h => h.2.elim) (fun e τ hx => ?_)
  unfold q277 at hx
  split at hx
  ·obtain ⟨h1, h2, h3⟩ := hx
   rw [h3] at h2
   exact .inl ⟨p, by rw [hmi]; exact hp, h1, h2⟩
  ·exact hx.2.elim
  ·exact hx.elim
 | succ k ih =>
  intro i hi hm p hp
  have hw : IntKind.i64.wrap ((i : Int) + 1) = ((i + 1 : Nat) : Int) := by rw [wrap_in (by omega) (by omega)]; omega
  have hpn : powN a (i + 1) = mulF p a := by simp only [powN, hp]; rfl
  refine Ev.round (O := okPowT) (n := 60) (t := ⟨[0, 1, 6, 22, 23], [1, 4, 5, 6], 0⟩) (by kernel_rfl) (by kernel_rfl) rfl
   (rPow a n p m i (fun x j => mulF p a = some x ∧ j = ((i + 1 : Nat) : Int)) (fun _ => False) (fun x _ => mulF p a = none ∧ x ≠ 0)
    (it (dt (by omega)) ⟨⟨powN_ok hp, ha⟩, fun x hx => ⟨rfl, hx.is, hw⟩, fun x hx => it (by simpa using hx.ne) ⟨rfl, hx.is, hx.ne⟩⟩)) (fun τ h => ?_) (fun e τ hx => ?_)
  ·obtain ⟨h1, h2, h3⟩ := h
   rw [h1, h3]
   exact ih (i + 1) (by omega) hm _ (by rw [hpn]; exact h2)
  ·unfold q277 at hx
   split at hx
   ·exact hx.2.2.elim
   ·obtain ⟨h1, h2, h3⟩ := hx
    refine .inr ⟨_, _, ?_, h3, rfl, h1⟩
    have : ∀ j, powN a (i + 1 + j) = none := by
     intro j
     induction j with
     | zero => rw [Nat.add_zero, hpn]; exact h2
     | succ j ih => rw [← Nat.add_assoc]; simp only [powN, ih]; rfl
    rw [show m.toNat = i + 1 + k by omega]
    exact this k
   ·exact hx.elim
theorem okL277 {T : Tab} (O : Ok T) : Ok (T.addL 277 6 L277) := by
 refine addL_ok O fun σ s hs hp => ?_
 cases hs
 obtain ⟨h1, ⟨h2, h3⟩, h4⟩ := hp
 have h4 := h4.is
 have hm : (slI σ 22).toNat = sizeN (slI σ 1) := by omega
 have hs : sizeN (slI σ 1) ≤ 64 := by unfold sizeN; omega
 have E := Ev.tidied (t := ⟨[0, 1, 6, 22, 23], [1, 4, 5, 6], 0⟩) (by kernel_rfl) h1 (loop277 (slI σ 0) (slI σ 1) (slI σ 22) h2 (sizeN (slI σ 1)) 0 (by omega) (by omega) 10000 rfl)
 obtain ⟨m, e, τ, g1, g2⟩ := E
 rw [hm] at g2
 rcases g2 with ⟨x, k1, rfl, rfl⟩ | ⟨x, y, k1, k2, rfl, rfl⟩
 ·exact ⟨_, List.mem_cons_self, x, ⟨k1⟩, m, g1⟩
 ·exact ⟨_, List.mem_cons_of_mem _ (List.mem_singleton.2 rfl), (x, y), ⟨k1, k2⟩, m, g1⟩
theorem loop132 (a n : Int) (ha : okD a = true) : ∀ k i : Nat, (i : Int) + k = n → n ≤ 64 → ∀ p, powN a i = some p →
  Ev cfg Tryz.prog 132 (.loop (loopAt Tryz.prog 132 4)) (I132 a n p i) fun e τ => (∃ x, powN a n.toNat = some x ∧ e = .exit 0 ∧ τ = X132 x) ∨ ∃ x y, powN a n.toNat = none ∧ x ≠ 0 ∧ e = .ret ∧ τ = E132 x y := by
 intro k
 induction k with
 | zero =>
  intro i hi hm p hp
  have hmi : n = i := by omega
  refine Ev.round (O := okPow2T) (n := 60) (t := ⟨[0, 1, 6, 7], [4, 5, 6], 0⟩) (by kernel_rfl) (by kernel_rfl) rfl (rPow2 a n p i (fun _ _ => False) (fun x => x = p) (fun _ _ => False) (ie (df (by omega)) ⟨rfl, rfl, rfl⟩)) (fun _ h => h.2.elim) (fun e τ hx => ?_)
  unfold q132 at hx
  split at hx
  ·obtain ⟨h1, h2, h3⟩ := hx
   rw [h3] at h2
   exact .inl ⟨p, by rw [hmi]; exact hp, h1, h2⟩
  ·exact hx.2.elim
  ·exact hx.elim
 | succ k ih =>
  intro i hi hm p hp
  have hw : IntKind.i64.wrap ((i : Int) + 1) = ((i + 1 : Nat) : Int) := by rw [wrap_in (by omega) (by omega)]; omega
  have hpn : powN a (i + 1) = mulF p a := by simp only [powN, hp]; rfl
  refine Ev.round (O := okPow2T) (n := 60) (t := ⟨[0, 1, 6, 7], [4, 5, 6], 0⟩) (by kernel_rfl) (by kernel_rfl) rfl
   (rPow2 a n p i (fun x j => mulF p a = some x ∧ j = ((i + 1 : Nat) : Int)) (fun _ => False) (fun x _ => mulF p a = none ∧ x ≠ 0)
    (it (dt (by omega)) ⟨⟨powN_ok hp, ha⟩, fun x hx => ⟨rfl, hx.is, hw⟩, fun x hx => it (by simpa using hx.ne) ⟨rfl, hx.is, hx.ne⟩⟩)) (fun τ h => ?_) (fun e τ hx => ?_)
  ·obtain ⟨h1, h2, h3⟩ := h
   rw [h1, h3]
   exact ih (i + 1) (by omega) hm _ (by rw [hpn]; exact h2)
  ·unfold q132 at hx
   split at hx
   ·exact hx.2.2.elim
   ·obtain ⟨h1, h2, h3⟩ := hx
    refine .inr ⟨_, _, ?_, h3, rfl, h1⟩
    have : ∀ j, powN a (i + 1 + j) = none := by
     intro j
     induction j with
     | zero => rw [Nat.add_zero, hpn]; exact h2
     | succ j ih => rw [← Nat.add_assoc]; simp only [powN, ih]; rfl
    rw [show n.toNat = i + 1 + k by omega]
    exact this k
   ·exact hx.elim
theorem okL132 {T : Tab} (O : Ok T) : Ok (T.addL 132 4 L132) := by
 refine addL_ok O fun σ s hs hp => ?_
 cases hs
 obtain ⟨h1, ⟨h2, h3⟩⟩ := hp
 by_cases h0 : 0 ≤ slI σ 1
 ·have E := Ev.tidied (t := ⟨[0, 1, 6, 7], [4, 5, 6], 0⟩) (by kernel_rfl) h1 (loop132 (slI σ 0) (slI σ 1) h2 (slI σ 1).toNat 0 (by omega) (by omega) 10000 rfl)
  obtain ⟨m, e, τ, g1, g2⟩ := E
  rcases g2 with ⟨x, k1, rfl, rfl⟩ | ⟨x, y, k1, k2, rfl, rfl⟩
  ·exact ⟨_, List.mem_cons_self, x, ⟨k1⟩, m, g1⟩
  ·exact ⟨_, List.mem_cons_of_mem _ (List.mem_singleton.2 rfl), (x, y), ⟨k1, k2⟩, m, g1⟩
 ·have E := Ev.tidied (t := ⟨[0, 1, 6, 7], [4, 5, 6], 0⟩) (by kernel_rfl) h1 (Ev.round (O := okPow2T) (n := 60) (t := ⟨[0, 1, 6, 7], [4, 5, 6], 0⟩) (K := fun e τ => e = .exit 0 ∧ τ = X132 10000) (by kernel_rfl) (by kernel_rfl) rfl
   (rPow2 (slI σ 0) (slI σ 1) 10000 0 (fun _ _ => False) (fun x => x = 10000) (fun _ _ => False) (ie (df (by omega)) ⟨rfl, rfl, rfl⟩)) (fun _ h => h.2.elim) (fun e τ hx => by
    unfold q132 at hx
    split at hx
    ·obtain ⟨h1, h2, h3⟩ := hx
     rw [h3] at h2
     exact ⟨h1, h2⟩
    ·exact hx.2.elim
    ·exact hx.elim))
  obtain ⟨m, e, τ, g1, rfl, rfl⟩ := E
  exact ⟨_, List.mem_cons_self, 10000, ⟨by rw [show (slI σ 1).toNat = 0 by omega]; rfl⟩, m, g1⟩
theorem d1 {a : Int} (h : okD a = true) : D1 a := ⟨h⟩
theorem wPow (a n : Int) (ha : okD a = true) : wpCall TPw cfg Tryz.prog 60 277 [iA a, iA n] heapF fun r h' => wpBack h' r (QD (powF a n)) := by
 have ha' := okD_iff.1 ha
 refine vPow a n _ (it (dt ha'.1) (it (dt ha'.2) (iti (fun h => QD.none ?_ (by decide)) (fun h => iti (fun h2 => QD.none ?_ (by decide)) (fun h2 => ?_)))))
 ·have := of_decide_eq_true h
  unfold powF; rw [if_neg (by omega)]
 ·have := of_decide_eq_true h2
  unfold powF; rw [if_neg (by omega)]
 have h := of_decide_eq_false h
 have h2 := of_decide_eq_false h2
 have hin : -64 ≤ n ∧ n ≤ 64 := by omega
 refine ⟨rfl, ⟨rfl, ⟨ha, hin⟩, ⟨by rw [wrap_in (by omega) (by omega)]; unfold sizeN; omega⟩⟩, fun x hx => ?_, fun x hx => ?_⟩
 ·have hx := hx.is
  have hxo := powN_ok hx
  refine iti (fun h3 => ⟨⟨rfl, hxo⟩, fun y hy => QD.some ?_, fun y hy => QD.none ?_ hy.ne⟩) (fun h3 => QD.some ?_)
  ·have h3 := of_decide_eq_true h3
   unfold powF
   rw [if_pos hin, if_neg (by omega), show (-n).toNat = sizeN n by unfold sizeN; omega, hx]
   exact hy.is
  ·have h3 := of_decide_eq_true h3
   unfold powF
   rw [if_pos hin, if_neg (by omega), show (-n).toNat = sizeN n by unfold sizeN; omega, hx]
   exact hy.is
  ·have h3 := of_decide_eq_false h3
   unfold powF
   rw [if_pos hin, if_pos (by omega), show n.toNat = sizeN n by unfold sizeN; omega, hx]
 ·refine QD.none ?_ hx.ne
  have hx := hx.is
  unfold powF
  rw [if_pos hin]
  split
  ·rw [show n.toNat = sizeN n by unfold sizeN; omega, hx]
  ·rw [show (-n).toNat = sizeN n by unfold sizeN; omega, hx]; rfl
theorem okPwr {T : Tab} (O : Ok T) : Ok (T.addC 132 CPwr) := by
 refine addC_ok O fun args h s hs hp => ?_
 unfold CPwr at hs
 split at hs
 ·rename_i a n
  cases hs
  obtain ⟨ha, h0, h1⟩ := hp
  refine dec_alts (EvP.freshK (g := 132) (okL132 okPow2T) (n := 60) (by kernel_rfl) rfl (args' := [iA a, iA n]) rfl (vPwr a n _ ⟨rfl, ⟨rfl, ⟨ha, by omega⟩⟩, fun x hx => QD.some hx.is, fun x hx => QD.none hx.is hx.ne⟩))
 ·cases hs
theorem okPw3T : Ok TPw3 := dec_ok (okPwr ok0) ok0 (by kernel_rfl) wDiv2
theorem wPow2 (a n : Int) (ha : okD a = true) : wpCall TPw3 cfg Tryz.prog 60 92 [iA a, iA n] heapF fun r h' => wpBack h' r (QD (powF a n)) := by
 have ha' := okD_iff.1 ha
 refine vPow2 a n _ (it (dt ha'.1) (it (dt ha'.2) (iti (fun h => QD.none ?_ (by decide)) (fun h => iti (fun h2 => QD.none ?_ (by decide)) (fun h2 => ?_)))))
 ·have := of_decide_eq_true h
  unfold powF; rw [if_neg (by omega)]
 ·have := of_decide_eq_true h2
  unfold powF; rw [if_neg (by omega)]
 have h := of_decide_eq_false h
 have h2 := of_decide_eq_false h2
 have hin : -64 ≤ n ∧ n ≤ 64 := by omega
 refine iti (fun h3 => ?_) (fun h3 => ?_)
 ·have h3 := of_decide_eq_true h3
  have e : powF a n = powN a n.toNat := by unfold powF; rw [if_pos hin, if_pos h3]
  rw [e]
  exact ⟨⟨ha, by omega⟩, fun x hx => QD.some hx.is, fun x hx => QD.none hx.is hx.ne⟩
 ·have h3 := of_decide_eq_false h3
  rw [wrap_in (x := 0 - n) (by omega) (by omega), show 0 - n = -n by omega]
  have e : powF a n = (powN a (-n).toNat).bind fun p => divF 10000 p := by unfold powF; rw [if_pos hin, if_neg h3]
  rw [e]
  refine ⟨⟨ha, by omega⟩, fun x hx => ?_, fun x hx => it (by simpa using hx.ne) (QD.none (by rw [hx.is]; rfl) hx.ne)⟩
  rw [hx.is]
  exact ⟨⟨rfl, powN_ok hx.is⟩, fun y hy => QD.some hy.is, fun y hy => QD.none hy.is hy.ne⟩
theorem pow_ok {T T' : Tab} (O : Ok T) (O' : Ok T') {g : FuncId} (hf : cfg.fresh g = true) (H : ∀ a b : Int, okD a = true → wpCall T' cfg Tryz.prog 60 g [iA a, iA b] heapF fun r h' => wpBack h' r (QD (powF a b))) : Ok (T.addC g CPow) := by
 refine addC_ok O fun args h s hs hp => ?_
 unfold CPow at hs
 split at hs
 ·rename_i a b
  cases hs
  exact dec_alts (EvP.freshK O' hf rfl (args' := [iA a, iA b]) rfl (H a b hp.is))
 ·cases hs
theorem int_ok {T : Tab} (O : Ok T) {g : FuncId} (hf : cfg.fresh g = true) (H : ∀ a : Int, okD a = true → wpCall tab0 cfg Tryz.prog 60 g [iA a] heapF fun r h' => wpBack h' r fun v => v = iA (a.tdiv 10000)) : Ok (T.addC g CInt) := by
 refine addC_ok O fun args h s hs hp => ?_
 unfold CInt at hs
 split at hs
 ·rename_i a
  exact nspec_ok (Option.some.inj hs) (fun hp => EvP.freshV ok0 hf rfl (args' := [iA a]) rfl (H a hp.is)) hp
 ·cases hs
theorem num_ok {T : Tab} (O : Ok T) {g : FuncId} (hf : cfg.fresh g = true) (H : ∀ a : Int, okD a = true → wpCall tab0 cfg Tryz.prog 60 g [.agg (numV a)] heapF fun r h' => wpBack h' r fun v => v = iA a) : Ok (T.addC g CNum) := by
 refine addC_ok O fun args h s hs hp => ?_
 unfold CNum at hs
 split at hs
 ·rename_i a
  cases hs
  obtain ⟨m, v, h', e, rfl, rfl⟩ := EvP.freshV (g := g) (args := [.agg (numV a)]) (h := h) ok0 hf rfl (args' := [.agg (numV a)]) rfl (H a hp.is)
  exact ⟨_, List.mem_singleton.2 rfl, (), m, trivial, e⟩
 ·cases hs
theorem from_ok {T : Tab} (O : Ok T) {g : FuncId} (hf : cfg.fresh g = true) (H : ∀ a : Int, okD a = true → wpCall tab0 cfg Tryz.prog 60 g [iA a] heapF fun r h' => wpBack h' r fun v => v = .agg (numV a)) : Ok (T.addC g CFrom) := by
 refine addC_ok O fun args h s hs hp => ?_
 unfold CFrom at hs
 split at hs
 ·rename_i a
  cases hs
  obtain ⟨m, v, h', e, rfl, rfl⟩ := EvP.freshV (g := g) (args := [iA a]) (h := h) ok0 hf rfl (args' := [iA a]) rfl (H a hp.is)
  exact ⟨_, List.mem_singleton.2 rfl, (), m, trivial, e⟩
 ·cases hs
theorem mm {a : Int} (h : okD a = true) : min (max a (-10000000000000)) 10000000000000 = a := by rw [okD_iff] at h; omega
theorem mm2 {a : Int} (h : okD a = true) : max (-10000000000000) (min 10000000000000 a) = a := by rw [okD_iff] at h; omega
theorem ok202 {T : Tab} (O : Ok T) : Ok (T.addC 202 CInt) := int_ok O (by kernel_rfl) fun a h => vInt a _ (by
 rw [mm2 h]
 have := tdiv_le a 10000
 rw [okD_iff] at h
 rw [wrap_in (by omega) (by omega)]
 rfl)
theorem ok93 {T : Tab} (O : Ok T) : Ok (T.addC 93 CInt) := int_ok O (by kernel_rfl) fun a h => vInt2 a _ (by
 have := tdiv_le a 10000
 rw [okD_iff] at h
 refine ie (df (by omega)) (ie (df (by omega)) ?_)
 rw [wrap_in (by omega) (by omega)]
 rfl)
theorem ok128 {T : Tab} (O : Ok T) : Ok (T.addC 128 CNum) := num_ok O (by kernel_rfl) fun a h => vNum a _ (by rw [mm h]; rfl)
theorem ok62 {T : Tab} (O : Ok T) : Ok (T.addC 62 CNum) := num_ok O (by kernel_rfl) fun a h => vNum2 a _ (by
 rw [okD_iff] at h
 exact ie (df (by omega)) (ie (df (by omega)) rfl))
theorem ok71 {T : Tab} (O : Ok T) : Ok (T.addC 71 CFrom) := from_ok O (by kernel_rfl) fun a h => vFrom a _ (by rw [mm h]; rfl)
theorem ok26 {T : Tab} (O : Ok T) : Ok (T.addC 26 CFrom) := from_ok O (by kernel_rfl) fun a h => vFrom2 a _ (by
 rw [okD_iff] at h
 exact ie (df (by omega)) (ie (df (by omega)) rfl))
end
end Go.Proofs.Sf
namespace Go.Proofs.Sf
open Go Go.Ef
noncomputable section
set_option maxRecDepth 100000
theorem okTAr : Ok TAr := ok202 (pow_ok (dec_ok (dec_ok (dec_ok (dec_ok (dec_ok (ok71 (ok128 ok0)) ok0 (by kernel_rfl) wAdd) ok0 (by kernel_rfl) wSub) okMulT (by kernel_rfl) wMul) ok0 (by kernel_rfl) wDiv) ok0 (by kernel_rfl) wMod) (okL277 okPowT) (by kernel_rfl) wPow)
theorem okTAr2 : Ok TAr2 := ok93 (pow_ok (dec_ok (dec_ok (dec_ok (dec_ok (dec_ok (ok26 (ok62 ok0)) ok0 (by kernel_rfl) wAdd2) ok0 (by kernel_rfl) wSub2) ok0 (by kernel_rfl) wMul2) ok0 (by kernel_rfl) wDiv2) ok0 (by kernel_rfl) wMod2) okPw3T (by kernel_rfl) wPow2)
def QV (r : Option Int) (y : AV) : Prop := (∃ d, r = some d ∧ y = .tup [.agg (numV d), iA 0]) ∨ ∃ e, r = none ∧ e ≠ 0 ∧ y = .tup [.agg zeroV, iA e]
theorem QV.some {r : Option Int} {d : Int} (h : r = .some d) : QV r (.tup [.agg (numV d), iA 0]) := .inl ⟨d, h, rfl⟩
theorem QV.none {r : Option Int} {e : Int} (h : r = .none) (he : e ≠ 0) : QV r (.tup [.agg zeroV, iA e]) := .inr ⟨e, h, he, rfl⟩
theorem ar_leaf {pre F : Prop} {r R : Option Int} (hp : pre) (hr : R = r) (hok : ∀ d, r = .some d → okD d = true) :
  pre ∧ (∀ x : Int, Is r x → D1 x ∧ ∀ (_ : Unit), True → QV R (.tup [.agg (numV x), iA 0])) ∧ (∀ x : Int, Non r x → iteP (x != (0 : Int)) (QV R (.tup [.agg zeroV, iA x])) F) :=
 ⟨hp, fun x hx => ⟨⟨hok x hx.is⟩, fun _ _ => QV.some (by rw [hr]; exact hx.is)⟩, fun x hx => it (by simpa using hx.ne) (QV.none (by rw [hr]; exact hx.is) hx.ne)⟩
theorem ar_op {op : List UInt8} {A B : Prop} (l : List UInt8) (h : op = l → A) (k : op ≠ l → B) : iteP (decide (op = l)) A B := iti (fun e => h (of_decide_eq_true e)) (fun e => k (of_decide_eq_false e))
theorem wAr (op : List UInt8) (a b : Int) (ha : okD a = true) (hb : okD b = true) : wpCall TAr cfg Tryz.prog 60 207 [aStr op, .agg (numV a), .agg (numV b)] heapF fun r h' => wpBack h' r (QV (arithF op a b)) := by
 refine vAr op a b _ ⟨⟨ha⟩, fun _ _ => ⟨⟨hb⟩, fun _ _ => ?_⟩⟩
 refine ar_op oAdd (fun e => ar_leaf ⟨ha, hb⟩ (by subst e; rfl) fun d hd => (fitF_ok hd).2) (fun n1 => ?_)
 refine ar_op oSub (fun e => ar_leaf ⟨ha, hb⟩ (by subst e; rfl) fun d hd => (fitF_ok hd).2) (fun n2 => ?_)
 refine ar_op oMul (fun e => ar_leaf ⟨ha, hb⟩ (by subst e; rfl) fun d hd => (fitF_ok hd).2) (fun n3 => ?_)
 refine ar_op oDiv (fun e => ar_leaf ⟨ha, hb⟩ (by subst e; rfl) fun d hd => arith_ok (op := oDiv) ha hd) (fun n4 => ?_)
 refine ar_op oMod (fun e => ar_leaf ⟨ha, hb⟩ (by subst e; rfl) fun d hd => arith_ok (op := oMod) ha hd) (fun n5 => ?_)
 refine ar_op oPow (fun e => ⟨⟨hb⟩, fun x hx => ?_⟩) (fun n6 => QV.none ?_ (by decide))
 ·subst hx
  exact ar_leaf ⟨ha⟩ (by subst e; rfl) fun d hd => powF_ok hd
 ·unfold arithF; rw [if_neg n1, if_neg n2, if_neg n3, if_neg n4, if_neg n5, if_neg n6]
theorem wAr2 (op : List UInt8) (a b : Int) (ha : okD a = true) (hb : okD b = true) : wpCall TAr2 cfg Tryz.prog 60 25 [aStr op, .agg (numV a), .agg (numV b)] heapF fun r h' => wpBack h' r (QV (arithF op a b)) := by
 refine vAr2 op a b _ ⟨⟨ha⟩, fun _ _ => ⟨⟨hb⟩, fun _ _ => ?_⟩⟩
 refine ar_op oAdd (fun e => ar_leaf ⟨ha, hb⟩ (by subst e; rfl) fun d hd => (fitF_ok hd).2) (fun n1 => ?_)
 refine ar_op oSub (fun e => ar_leaf ⟨ha, hb⟩ (by subst e; rfl) fun d hd => (fitF_ok hd).2) (fun n2 => ?_)
 refine ar_op oMul (fun e => ar_leaf ⟨ha, hb⟩ (by subst e; rfl) fun d hd => (fitF_ok hd).2) (fun n3 => ?_)
 refine ar_op oDiv (fun e => ar_leaf ⟨ha, hb⟩ (by subst e; rfl) fun d hd => arith_ok (op := oDiv) ha hd) (fun n4 => ?_)
 refine ar_op oMod (fun e => ar_leaf ⟨ha, hb⟩ (by subst e; rfl) fun d hd => arith_ok (op := oMod) ha hd) (fun n5 => ?_)
 refine ar_op oPow (fun e => ⟨⟨hb⟩, fun x hx => ?_⟩) (fun n6 => QV.none ?_ (by decide))
 ·subst hx
  exact ar_leaf ⟨ha⟩ (by subst e; rfl) fun d hd => powF_ok hd
 ·unfold arithF; rw [if_neg n1, if_neg n2, if_neg n3, if_neg n4, if_neg n5, if_neg n6]
theorem val_alts {g : FuncId} {args : List AV} {h : Heap} {pre : Prop} {r : Option Int} (H : EvP cfg Tryz.prog g args h fun y h' => QV r y ∧ h' = h) :
  ∃ al ∈ (valC pre r h).alts, ∃ x m, al.post x ∧ callP cfg (evCall cfg Tryz.prog m) g args h = .some (al.val x, al.heap x) := by
 obtain ⟨m, v, h', e, hq, rfl⟩ := H
 rcases hq with ⟨d, h1, rfl⟩ | ⟨e', h1, h2, rfl⟩
 ·exact ⟨_, List.mem_cons_self, d, m, ⟨h1⟩, e⟩
 ·exact ⟨_, List.mem_cons_of_mem _ (List.mem_singleton.2 rfl), e', m, ⟨h1, h2⟩, e⟩
theorem ar_ok {T T' : Tab} (O : Ok T) (O' : Ok T') {g : FuncId} (hf : cfg.fresh g = true)
  (H : ∀ (op : List UInt8) (a b : Int), okD a = true → okD b = true → wpCall T' cfg Tryz.prog 60 g [aStr op, .agg (numV a), .agg (numV b)] heapF fun r h' => wpBack h' r (QV (arithF op a b))) : Ok (T.addC g CAr) := by
 refine addC_ok O fun args h s hs hp => ?_
 unfold CAr at hs
 split at hs
 ·rename_i op a b
  cases hs
  exact val_alts (EvP.freshK O' hf rfl (args' := [.sc (.string op), .agg (numV a), .agg (numV b)]) rfl (H op.data.toList a b hp.l hp.r))
 ·cases hs
theorem cmpI_eq (a : Int) : cmpI a a = 0 := by unfold cmpI; rw [if_neg (by omega), if_neg (by omega)]
theorem ok156 {T : Tab} (O : Ok T) : Ok (T.addC 156 CCmp) := by
 refine addC_ok O fun args h s hs hp => ?_
 unfold CCmp at hs
 split at hs
 ·rename_i nm W lo up a b
  refine nspec_ok (Option.some.inj hs) (fun hp => EvP.freshV (ok128 ok0) (n := 60) (by kernel_rfl) rfl (args' := [.agg (locV nm.data.toList lo.data.toList up.data.toList W), .agg (numV a), .agg (numV b)]) rfl (vCmp nm.data.toList lo.data.toList up.data.toList W a b _ ?_)) hp
  refine iti (fun h => ?_) (fun _ => ⟨⟨hp.l⟩, fun _ _ => ⟨⟨hp.r⟩, fun _ _ => ie (by simp) (ie (by simp) (iti (fun h => ?_) (fun h => iti (fun h2 => ?_) (fun h2 => ?_))))⟩⟩)
  ·have h : a = b := by simpa using h
   rw [h, cmpI_eq]; rfl
  ·have h := of_decide_eq_true h
   unfold cmpI; rw [if_pos h]; rfl
  ·have h := of_decide_eq_false h
   have h2 := of_decide_eq_true h2
   unfold cmpI; rw [if_neg h, if_pos h2]; rfl
  ·have h := of_decide_eq_false h
   have h2 := of_decide_eq_false h2
   unfold cmpI; rw [if_neg h, if_neg h2]; rfl
 ·cases hs
theorem okTBin : Ok TBin := ok71 (ar_ok (ok156 ok0) okTAr (by kernel_rfl) wAr)
def QM (r : Option Int) (y : AV) : Prop := (∃ d, r = some d ∧ y = .tup [.agg (numV d), bA true]) ∨ (r = none ∧ y = .tup [.agg zeroV, bA false])
theorem QM.some {r : Option Int} {d : Int} (h : r = .some d) : QM r (.tup [.agg (numV d), bA true]) := .inl ⟨d, h, rfl⟩
theorem QM.none {r : Option Int} (h : r = .none) : QM r (.tup [.agg zeroV, bA false]) := .inr ⟨h, rfl⟩
theorem may_alts {g : FuncId} {args : List AV} {h : Heap} {pre : Prop} {r : Option Int} (H : EvP cfg Tryz.prog g args h fun y h' => QM r y ∧ h' = h) :
  ∃ al ∈ (mayC pre r h).alts, ∃ x m, al.post x ∧ callP cfg (evCall cfg Tryz.prog m) g args h = .some (al.val x, al.heap x) := by
 obtain ⟨m, v, h', e, hq, rfl⟩ := H
 rcases hq with ⟨d, h1, rfl⟩ | ⟨h1, rfl⟩
 ·exact ⟨_, List.mem_cons_self, d, m, ⟨h1⟩, e⟩
 ·exact ⟨_, List.mem_cons_of_mem _ (List.mem_singleton.2 rfl), (), m, h1, e⟩
theorem truth_leaf {q : Bool} {R : Option Int} {b : Bool} (h : q = b) (hr : R = truthF b) :
  iteP q (D1 (10000 : Int) ∧ ∀ (_ : Unit), True → QM R (.tup [.agg (numV 10000), bA true])) (D1 (0 : Int) ∧ ∀ (_ : Unit), True → QM R (.tup [.agg (numV 0), bA true])) := by
 subst h
 refine iti (fun e => ⟨⟨rfl⟩, fun _ _ => QM.some ?_⟩) (fun e => ⟨⟨rfl⟩, fun _ _ => QM.some ?_⟩)
 ·rw [hr, e]; rfl
 ·rw [hr, e]; rfl
theorem cmp_lt {a b : Int} : (cmpI a b < 0) ↔ a < b := by
 unfold cmpI
 by_cases h1 : a < b
 ·rw [if_pos h1]; omega
 ·rw [if_neg h1]
  by_cases h2 : b < a
  ·rw [if_pos h2]; omega
  ·rw [if_neg h2]; omega
theorem cmp_gt {a b : Int} : (0 < cmpI a b) ↔ b < a := by
 unfold cmpI
 by_cases h1 : a < b
 ·rw [if_pos h1]; omega
 ·rw [if_neg h1]
  by_cases h2 : b < a
  ·rw [if_pos h2]; omega
  ·rw [if_neg h2]; omega
theorem cmp_eq {a b : Int} : (cmpI a b = 0) ↔ a = b := by
 unfold cmpI
 by_cases h1 : a < b
 ·rw [if_pos h1]; omega
 ·rw [if_neg h1]
  by_cases h2 : b < a
  ·rw [if_pos h2]; omega
  ·rw [if_neg h2]; omega
theorem cmp_le {a b : Int} : (cmpI a b ≤ 0) ↔ a ≤ b := by have := @cmp_gt a b; omega
theorem cmp_ge {a b : Int} : (0 ≤ cmpI a b) ↔ b ≤ a := by have := @cmp_lt a b; omega
theorem wBin (nm lo up : List UInt8) (W : List (List AV)) (op : List UInt8) (a b : Int) (ha : okD a = true) (hb : okD b = true) :
  wpCall TBin cfg Tryz.prog 60 110 [.agg (locV nm lo up W), aStr op, .agg (numV a), .agg (numV b)] heapF fun r h' => wpBack h' r (QM (foldF op a b)) := by
 refine vBin nm lo up W op a b _ ⟨⟨ha, hb⟩, fun x hx => ?_⟩
 subst hx
 refine ar_op oLt (fun e => truth_leaf (b := decide (a < b)) (by simp only [cmp_lt]) (by subst e; rfl)) (fun n1 => ?_)
 refine ar_op oLe (fun e => truth_leaf (b := decide (a ≤ b)) (by simp only [cmp_le]) (by subst e; rfl)) (fun n2 => ?_)
 refine ar_op oEq (fun e => truth_leaf (b := decide (a = b)) (by rw [Bool.eq_iff_iff]; simp [cmp_eq]) (by subst e; rfl)) (fun n3 => ?_)
 refine ar_op oNe (fun e => truth_leaf (b := decide (a ≠ b)) (by rw [Bool.eq_iff_iff]; simp [cmp_eq]) (by subst e; rfl)) (fun n4 => ?_)
 refine ar_op oGt (fun e => truth_leaf (b := decide (b < a)) (by simp only [cmp_gt]) (by subst e; rfl)) (fun n5 => ?_)
 refine ar_op oGe (fun e => truth_leaf (b := decide (b ≤ a)) (by simp only [cmp_ge]) (by subst e; rfl)) (fun n6 => ?_)
 have e : foldF op a b = arithF op a b := by unfold foldF; rw [if_neg n1, if_neg n2, if_neg n3, if_neg n4, if_neg n5, if_neg n6]
 rw [e]
 exact ⟨⟨ha, hb⟩, fun x hx => QM.some hx.is, fun x hx => ie (by simpa using hx.ne) (QM.none hx.is)⟩
theorem ok110 {T : Tab} (O : Ok T) : Ok (T.addC 110 CBin) := by
 refine addC_ok O fun args h s hs hp => ?_
 unfold CBin at hs
 split at hs
 ·rename_i nm W lo up op a b
  cases hs
  exact may_alts (EvP.freshK (g := 110) okTBin (n := 60) (by kernel_rfl) rfl (args' := [.agg (locV nm.data.toList lo.data.toList up.data.toList W), .sc (.string op), .agg (numV a), .agg (numV b)]) rfl (wBin nm.data.toList lo.data.toList up.data.toList W op.data.toList a b hp.l hp.r))
 ·cases hs
end
end Go.Proofs.Sf
